/- The document's Call, walked: any name, any arguments; it answers as callR says. -/
import Derived.Test.YtoocfodefbechaaGreatDoorPureCallB
import Derived.Test.YtoocfodefbechaaGreatDoorPureV
set_option linter.unusedSimpArgs false
set_option linter.unusedVariables false
namespace Go.Proofs.YtoocfodefbechaaGreatDoor.Fns
open Go.RowKit Go.Proofs.YtoocfodefbechaaGreatDoor.Q Go.Proofs.YtoocfodefbechaaGreatDoor.Real Go.Proofs.YtoocfodefbechaaGreatDoor.RealPure Go.Proofs.YtoocfodefbechaaGreatDoor.Values Go.Proofs.YtoocfodefbechaaGreatDoorW.PrintWords Go.Proofs.YtoocfodefbechaaGreatDoorW.PrintLast Go.Proofs.YtoocfodefbechaaGreatDoorW.PrintMore
def Gt (g : Nat) (W : World) (R : V × Int) (e : Ending) (w' : World) : Prop := ∃ B4 d4 B5 d5, e = .returned (.tuple #[.agg #[.int .i64 R.1.f0, .int .i64 R.1.f1, .int .u64 R.1.f2, .string R.1.f3, .slice B4 R.1.f4.length d4, .slice B5 R.1.f5.length d5], .int .i64 R.2]) ∧ (∀ W2 : World, (∀ k, k ≠ g → W2.heap[k]? = w'.heap[k]?) → Rows4 W2 R.1 B4 d4 B5 d5) ∧ Below W.heap.size W w'
def Gv (g : Nat) (W : World) (x : V) (e : Ending) (w' : World) : Prop := ∃ B4 d4 B5 d5, e = .returned (.agg #[.int .i64 x.f0, .int .i64 x.f1, .int .u64 x.f2, .string x.f3, .slice B4 x.f4.length d4, .slice B5 x.f5.length d5]) ∧ (∀ W2 : World, (∀ k, k ≠ g → W2.heap[k]? = w'.heap[k]?) → Rows4 W2 x B4 d4 B5 d5) ∧ Below W.heap.size W w'
def Done3 (W : World) (R : V × Int) (e : Ending) (w' : World) : Prop := ∃ B4 d4 B5 d5, e = .returned (.tuple #[.agg #[.int .i64 R.1.f0, .int .i64 R.1.f1, .int .u64 R.1.f2, .string R.1.f3, .slice B4 R.1.f4.length d4, .slice B5 R.1.f5.length d5], .int .i64 R.2]) ∧ Rows4 w' R.1 B4 d4 B5 d5 ∧ Below W.heap.size W w'
theorem rows_of_R {g : Nat} {w' : World} {x : V} {v4 v5 : Value} {b4 b5 : Nat} {ok4 ok5 : Nat → Prop} (h4 : Kd.R k27 27 w' b4 ok4 v4 x.f4) (h5 : Kd.R Kd.string 9 w' b5 ok5 v5 x.f5) (g4 : g < b4) (g5 : g < b5) :
  ∃ B4 d4 B5 d5, v4 = .slice B4 x.f4.length d4 ∧ v5 = .slice B5 x.f5.length d5 ∧ ∀ W2 : World, (∀ k, k ≠ g → W2.heap[k]? = w'.heap[k]?) → Rows4 W2 x B4 d4 B5 d5 := by
 obtain ⟨B4, d4, rfl⟩ := Kd.R_slice h4
 obtain ⟨B5, d5, rfl⟩ := Kd.R_slice h5
 refine ⟨B4, d4, B5, d5, rfl, rfl, fun W2 hm => ?_⟩
 have q4 := Kd.R_reads' (Kd.R_step (Kd.R_bound h4) (fun k hk _ => hm k (by have := hk.2.1; omega)))
 have q5 := Kd.R_reads' (Kd.R_step (Kd.R_bound h5) (fun k hk _ => hm k (by have := hk.2.1; omega)))
 exact ⟨q4.2.2, q4.2.1, q5.2.2, q5.2.1⟩
theorem rows_of_V {g : Nat} {w' : World} {x : V} {v4 v5 : Value} {b4 b5 : Nat} {ok4 ok5 : Nat → Prop} (h4 : Kd.V k27 27 w' b4 ok4 v4 x.f4) (h5 : Kd.V Kd.string 9 w' b5 ok5 v5 x.f5) (g4 : ∀ k, ok4 k → k ≠ g) (g5 : ∀ k, ok5 k → k ≠ g) :
  ∃ B4 d4 B5 d5, v4 = .slice B4 x.f4.length d4 ∧ v5 = .slice B5 x.f5.length d5 ∧ ∀ W2 : World, (∀ k, k ≠ g → W2.heap[k]? = w'.heap[k]?) → Rows4 W2 x B4 d4 B5 d5 := by
 obtain ⟨B4, d4, rfl⟩ := Kd.V_slice h4
 obtain ⟨B5, d5, rfl⟩ := Kd.V_slice h5
 refine ⟨B4, d4, B5, d5, rfl, rfl, fun W2 hm => ?_⟩
 have q4 := Kd.V_reads' (Kd.V_step h4 (fun k hk _ => hm k (g4 k hk)))
 have q5 := Kd.V_reads' (Kd.V_step h5 (fun k hk _ => hm k (g5 k hk)))
 exact ⟨q4.2.2, q4.2.1, q5.2.2, q5.2.1⟩
theorem rlength_c (g : Nat) (x : V) (A4 : Option Addr) (c4 : Nat) (A5 : Option Addr) (c5 : Nat) (W : World) (hg : g < W.heap.size) (h : Rows4 W x A4 c4 A5 c5) : Calls Tryz.prog 20 #[.agg #[.int .i64 x.f0, .int .i64 x.f1, .int .u64 x.f2, .string x.f3, .slice A4 x.f4.length c4, .slice A5 x.f5.length c5]] W (Gt g W (lengthR x)) :=
 (stoleref18_length.calls x.f0 x.f1 x.f2 x.f3 A4 c4 x.f4 A5 c5 x.f5 _ _ _ _ _ _ _ W h.k4 h.l4 h.k5 h.l5 (rlength_f x)).mono (by
  rintro e w' ⟨v4, v5, rfl, h4, h5, hb⟩
  obtain ⟨B4, d4, B5, d5, rfl, rfl, hr⟩ := rows_of_R (g := g) (x := (lengthR x).1) h4 h5 hg hg
  exact ⟨_, _, _, _, rfl, hr, hb⟩)
theorem rindex_c (w0 : World) (x y : V) (A4 : Option Addr) (c4 : Nat) (A5 : Option Addr) (c5 : Nat) (B4 : Option Addr) (d4 : Nat) (B5 : Option Addr) (d5 : Nat) (W : World) (hb : Below w0.heap.size w0 W) (hg : w0.heap.size < W.heap.size) (h0 : Rows4 w0 x A4 c4 A5 c5) (h0' : Rows4 w0 y B4 d4 B5 d5) (hl : x.f5.length < 2199023255552) (hk : x.f0 = 6 → x.f5.length ≤ x.f4.length) :
  Calls Tryz.prog 21 #[.agg #[.int .i64 x.f0, .int .i64 x.f1, .int .u64 x.f2, .string x.f3, .slice A4 x.f4.length c4, .slice A5 x.f5.length c5], .agg #[.int .i64 y.f0, .int .i64 y.f1, .int .u64 y.f2, .string y.f3, .slice B4 y.f4.length d4, .slice B5 y.f5.length d5]] W (Gt w0.heap.size W (indexR x y)) := by
 have h := h0.below hb
 have h' := h0'.below hb
 obtain ⟨k, hf⟩ := rindex_f x y hl hk
 exact (stoleref18_index.calls k x.f0 x.f1 x.f2 x.f3 (fun k => k < w0.heap.size) A4 c4 x.f4 A5 c5 x.f5 y.f0 y.f1 y.f2 y.f3 B4 d4 y.f4 B5 d5 y.f5 _ _ _ _ _ _ _ W (Kd.V_mk h.l4 (Kd.F_below (Kd.C_F k27_heap h0.k4) hb)) h.k5 h.l5 h'.k4 h'.l4 h'.k5 h'.l5 hf).mono (by
  rintro e w' ⟨v4, v5, rfl, h4, h5, hb⟩
  obtain ⟨B4, d4, B5, d5, rfl, rfl, hr⟩ := rows_of_V (g := w0.heap.size) (x := (indexR x y).1) h4 h5 (fun k hk => by rcases hk with hk | hk <;> omega) (fun k hk => by rcases hk with hk | hk <;> omega)
  exact ⟨_, _, _, _, rfl, hr, hb⟩)
theorem rpick_c (w0 : World) (xs : List V) (b : Bool) (A : Option Addr) (c : Nat) (W : World) (hb : Below w0.heap.size w0 W) (hg : w0.heap.size < W.heap.size) (h0 : Kd.C k27 w0 A xs.length xs) (hc : xs.length ≤ c) (hx : ∀ z ∈ xs, mayB z = true ∧ 0 ≤ z.f2 ∧ z.f2 < 2 ^ 64) (hl : xs.length < 2199023255552) (h1 : 1 ≤ xs.length) :
  Calls Tryz.prog 26 #[.slice A xs.length c, .bool b] W (Gv w0.heap.size W (pickR xs b)) := by
 obtain ⟨k, hf⟩ := rpick_f xs b hx hl h1
 exact (stoleref18_pick.calls k (fun k => k < w0.heap.size) A c xs b _ _ _ _ _ _ W (Kd.V_mk hc (Kd.F_below (Kd.C_F k27_heap h0) hb)) hf).mono (by
  rintro e w' ⟨v4, v5, rfl, h4, h5, hb⟩
  obtain ⟨B4, d4, B5, d5, rfl, rfl, hr⟩ := rows_of_V (g := w0.heap.size) (x := pickR xs b) h4 h5 (fun k hk => by rcases hk with hk | hk <;> omega) (fun k hk => by rcases hk with hk | hk <;> omega)
  exact ⟨_, _, _, _, rfl, hr, hb⟩)
theorem rcat_c (g : Nat) (xs : List V) (A : Option Addr) (c : Nat) (W : World) (hg : g < W.heap.size) (h : Kd.C k27 W A xs.length xs) (hc : xs.length ≤ c) (hx : ∀ z ∈ xs, mayB z = true ∧ 0 ≤ z.f2 ∧ z.f2 < 2 ^ 64) (hl : xs.length < 2199023255552) :
  Calls Tryz.prog 27 #[.slice A xs.length c] W (Gt g W (catR xs)) := by
 obtain ⟨k, hf⟩ := rcat_f xs hx hl
 exact (stoleref18_cat.calls k A c xs _ _ _ _ _ _ _ W h hc hf).mono (by
  rintro e w' ⟨v4, v5, rfl, h4, h5, hb⟩
  obtain ⟨B4, d4, B5, d5, rfl, rfl, hr⟩ := rows_of_R (g := g) (x := (catR xs).1) h4 h5 hg hg
  exact ⟨_, _, _, _, rfl, hr, hb⟩)
theorem rtruth_c (g : Nat) (b : Bool) (W : World) (hg : g < W.heap.size) : Calls Tryz.prog 22 #[.bool b] W (Gv g W (boolV b)) := by
 have hf : stoleref18_truth.f b = some (fldV (boolV b)) := by cases b <;> rfl
 exact (stoleref18_truth.calls b _ _ _ _ _ _ W hf).mono (by
  rintro e w' ⟨v4, v5, rfl, h4, h5, hb⟩
  obtain ⟨B4, d4, B5, d5, rfl, rfl, hr⟩ := rows_of_R (g := g) (x := boolV b) h4 h5 hg hg
  exact ⟨_, _, _, _, rfl, hr, hb⟩)
theorem six_away {W : World} {g : Nat} (v0 v1 v2 v3 v4 v5 : Value) : ∀ k, k ≠ g → ((((((W.setCell ⟨g, 0, none⟩ v0).setCell ⟨g, 1, none⟩ v1).setCell ⟨g, 2, none⟩ v2).setCell ⟨g, 3, none⟩ v3).setCell ⟨g, 4, none⟩ v4).setCell ⟨g, 5, none⟩ v5).heap[k]? = W.heap[k]? := fun k hk => by
 rw [Below.heap_setCell _ _ _ k hk, Below.heap_setCell _ _ _ k hk, Below.heap_setCell _ _ _ k hk, Below.heap_setCell _ _ _ k hk, Below.heap_setCell _ _ _ k hk, Below.heap_setCell _ _ _ k hk]
theorem known_lt (n : Nat) : (knownR n).2.2 = decide (n < 8) := by
 match n with
 | 0 | 1 | 2 | 3 | 4 | 5 | 6 | 7 => rfl
 | n + 8 => simp [knownR]
set_option maxHeartbeats 16000000 in
set_option maxRecDepth 100000 in
theorem RefCall_calls (nm : ByteArray) (xs : List V) (A : Option Addr) (c : Nat) (w : World) (h : Kd.C k27 w A xs.length xs) (hc : xs.length ≤ c) (hl : xs.length < 2199023255552) (hr : ∀ z ∈ xs, rngD 8 z) :
  Calls Tryz.prog 6 #[.string nm, .slice A xs.length c] w (Done3 w (callR nm xs)) := by
 have hu27 := Tryz.underlying27
 obtain ⟨R, hR⟩ : ∃ R, callR nm xs = R := ⟨_, rfl⟩
 rw [hR]
 unfold callR at hR
 rw [known_lt] at hR
 by_cases hf : fnNo nm < 8
 case neg =>
  have hd : decide (fnNo nm < 8) = false := decide_eq_false hf
  rw [hd, if_pos rfl] at hR
  subst hR
  have CF := Lib.hid (fun W => stoleref13_Function.calls nm false W (by rw [rfn_f, hd]))
  clear hf hd h hr
  go_enter Tryz.func6, Tryz.ntmps6
  go_upto_region 1 with (fail)
  have BZ := Lib.hid (blk_new w zeros)
  have HB := Lib.hid (below_alloc (Below.refl _ w) zeros)
  generalize hw4 : w.alloc zeros = w4 at *
  clear hw4
  go_wp2_with (first | (go_at_call 17; (with_reducible refine (CF.out _).mono ?_); rintro e wf ⟨rfl, hd⟩; have hb := Drawn0.below hd; have BZf := Lib.hid (blk_below BZ.out hb); have HBf := Lib.hid (below_step HB.out hb); clear BZ HB; have BZ := BZf; have HB := HBf; clear BZf HBf hb hd) | ((with_reducible refine gate_store (t := 27) (p := 4) rfl ?_); refine row_event (by rfl) (by rfl) (by rfl) (by rfl) (by rfl) BZ.out (by exact size27) (by rfl) (by first | rfl | simp [Value.oneCell']) ?_; intro ws hz ho hb; have ZS := Lib.hid hz; have HBS := Lib.hid (hb (Nat.le_refl _) HB.out); have HO := Lib.hid ho; clear hz ho hb HB BZ))
  refine bodyPost_ret (results_cell_row_tmp rfl _ _ w.heap.size 27 _ (0, 0) _ rfl ZS.out hu27 rfl (by exact size27)) rfl ?_
  exact ⟨none, 0, none, 0, rfl, rows_nil _ z27 rfl rfl, HBS.out⟩
 have hd : decide (fnNo nm < 8) = true := decide_eq_true hf
 rw [hd, if_neg (by decide)] at hR
 have CF := Lib.hid (fun W => stoleref13_Function.calls nm true W (by rw [rfn_f, hd]))
 have hcn := rcounts_f nm xs.length hf
 clear hd
 by_cases hcb : countBad (knownR (fnNo nm)) xs.length = true
 case pos =>
  rw [if_pos hcb] at hR
  subst hR
  have CN := Lib.hid (fun W => stoleref18_counts.calls 5 nm xs.length false W (by rw [hcn, hcb]; rfl))
  clear hf hcb hcn h hr
  go_enter Tryz.func6, Tryz.ntmps6
  go_upto_region 1 with (fail)
  have BZ := Lib.hid (blk_new w zeros)
  have HB := Lib.hid (below_alloc (Below.refl _ w) zeros)
  generalize hw4 : w.alloc zeros = w4 at *
  clear hw4
  go_wp2_with (first | (go_at_call 17; (with_reducible refine (CF.out _).mono ?_); rintro e wf ⟨rfl, hd⟩; have hb := Drawn0.below hd; have BZf := Lib.hid (blk_below BZ.out hb); have HBf := Lib.hid (below_step HB.out hb); clear BZ HB; have BZ := BZf; have HB := HBf; clear BZf HBf hb hd) | (go_at_call 18; (with_reducible refine (CN.out _).mono ?_); rintro e wn ⟨rfl, hd⟩; have hb := Drawn0.below hd; have BZf := Lib.hid (blk_below BZ.out hb); have HBf := Lib.hid (below_step HB.out hb); clear BZ HB; have BZ := BZf; have HB := HBf; clear BZf HBf hb hd) | ((with_reducible refine gate_store (t := 27) (p := 4) rfl ?_); refine row_event (by rfl) (by rfl) (by rfl) (by rfl) (by rfl) BZ.out (by exact size27) (by rfl) (by first | rfl | simp [Value.oneCell']) ?_; intro ws hz ho hb; have ZS := Lib.hid hz; have HBS := Lib.hid (hb (Nat.le_refl _) HB.out); have HO := Lib.hid ho; clear hz ho hb HB BZ))
  refine bodyPost_ret (results_cell_row_tmp rfl _ _ w.heap.size 27 _ (0, 0) _ rfl ZS.out hu27 rfl (by exact size27)) rfl ?_
  exact ⟨none, 0, none, 0, rfl, rows_nil _ z27 rfl rfl, HBS.out⟩
 rw [if_neg hcb] at hR
 have CN := Lib.hid (fun W => stoleref18_counts.calls 5 nm xs.length true W (by rw [hcn, Bool.eq_false_iff.2 hcb]; rfl))
 have HA := Lib.hid h; have HR := Lib.hid hr; have HRR := Lib.hid hR; have HCB := Lib.hid (Bool.eq_false_iff.2 hcb); have HF := Lib.hid hf
 clear hcn h hr hR hcb hf
 go_enter Tryz.func6, Tryz.ntmps6
 go_upto_region 1 with (fail)
 have BZ := Lib.hid (blk_new w zeros)
 have HB := Lib.hid (below_alloc (Below.refl _ w) zeros)
 generalize hw4 : w.alloc zeros = w4 at *
 clear hw4
 go_wp2_with (first | (go_at_call 17; (with_reducible refine (CF.out _).mono ?_); rintro e wf ⟨rfl, hd⟩; have hb := Drawn0.below hd; have BZf := Lib.hid (blk_below BZ.out hb); have HBf := Lib.hid (below_step HB.out hb); clear BZ HB; have BZ := BZf; have HB := HBf; clear BZf HBf hb hd) | (go_at_call 18; (with_reducible refine (CN.out _).mono ?_); rintro e wn ⟨rfl, hd⟩; have hb := Drawn0.below hd; have BZf := Lib.hid (blk_below BZ.out hb); have HBf := Lib.hid (below_step HB.out hb); clear BZ HB; have BZ := BZf; have HB := HBf; clear BZf HBf hb hd))
 have A2 := Aside0.mk BZ.out
 have A3 := Aside0.mk HB.out
 clear BZ HB CF CN
 go_loopg [6] xs.length (fun kq v6 w' => ∃ (i : Int), v6 = .int .i64 i ∧ Aside0 (i + kq = xs.length ∧ 0 ≤ i) ∧ Aside0 (∀ z ∈ xs.take i.toNat, mayB z = true) ∧ Aside0 (w'.heap[w.heap.size]? = some zeros) ∧ Aside0 (Below w.heap.size w w'))
 case atStart => exact ⟨0, rfl, ⟨by omega, by omega⟩, ⟨by simp⟩, A2, A3⟩
 case round =>
  clear A2 A3
  obtain ⟨i, rfl, HI, HM, BZ0, HB0⟩ := hrel
  have BZ := Lib.hid BZ0.out; have HB := Lib.hid HB0.out
  clear BZ0 HB0
  obtain ⟨hi1, hi0⟩ := HI.out
  cases gk with
  | succ k2 =>
   have hlt : decide (i < (xs.length : Int)) = true := decide_eq_true (by omega)
   have hlt' : i < (xs.length : Int) := by omega
   obtain ⟨ad, E4, e4, E5, e5, rfl, hAt, hl4, hk4, hl5, hk5⟩ := At.of_elem HA.out i hi0 hlt'
   have q0 := eq_true hi0
   have q1 := eq_true hlt'
   have wi : wrap64 (i + 1) = i + 1 := Values.wrap_small _ (by omega) (by omega)
   have wi' : IntKind.i64.wrap (i + 1) = i + 1 := by rw [i64_w]; exact wi
   have HI2 := Aside0.mk (show i + 1 + k2 = xs.length ∧ 0 ≤ i + 1 from ⟨by omega, by omega⟩)
   have HRW := Lib.hid (Rows4.below ⟨hk4, hl4, hk5, hl5⟩ HB.out)
   have HIN := Lib.hid (rd_mem xs i hi0 hlt')
   have HTK : ∀ z ∈ xs.take (i + 1).toNat, z ∈ xs.take i.toNat ∨ z = rd_T27 xs i := by
    intro z hz
    have e : (i + 1).toNat = i.toNat + 1 := by omega
    rw [e] at hz
    obtain ⟨j, hj, rfl⟩ := List.getElem_of_mem hz
    rw [List.length_take] at hj
    rw [List.getElem_take]
    by_cases cj : j < i.toNat
    ·left
     exact List.mem_take_iff_getElem.2 ⟨j, by omega, rfl⟩
    ·right
     have ej : j = i.toNat := by omega
     subst ej
     unfold rd_T27
     rw [List.getD_eq_getElem?_getD, List.getElem?_eq_getElem (by omega)]
     rfl
   have HTH := Lib.hid HTK
   obtain ⟨a0, a1, a2, a3, a4, a5⟩ := hAt.below HB.out
   have CM := Lib.hid (show ∀ W, Below wr.heap.size wr W → Calls Tryz.prog 19 #[.agg #[.int .i64 (rd_T27 xs i).f0, .int .i64 (rd_T27 xs i).f1, .int .u64 (rd_T27 xs i).f2, .string (rd_T27 xs i).f3, .slice E4 (rd_T27 xs i).f4.length e4, .slice E5 (rd_T27 xs i).f5.length e5]] W fun e w' => e = .returned (.bool (mayB (rd_T27 xs i))) ∧ Below W.heap.size W w' from fun W hb => RefMay_calls (rd_T27 xs i) E4 e4 E5 e5 W (HRW.out.below hb))
   clear hk4 hl4 hk5 hl5 hAt HTK
   cases hmay : mayB (rd_T27 xs i) with
   | true =>
    have HM2 := Aside0.mk (show ∀ z ∈ xs.take (i + 1).toNat, mayB z = true from fun z hz => (HTH.out z hz).elim (HM.out z) (fun e => by rw [e]; exact hmay))
    rw [hmay] at CM
    clear hmay HTH HM
    go_wp2_with (first | (go_at_call 19; (with_reducible refine (CM.out _ (Below.refl _ _)).mono ?_); rintro e wm ⟨rfl, hb⟩; have BZm := Lib.hid (blk_below BZ.out hb); have HBm := Lib.hid (below_step HB.out hb); clear BZ HB; have BZ := BZm; have HB := HBm; clear BZm HBm hb))
    go_roundg k2
    case measure => omega
    case rel => exact ⟨i + 1, rfl, HI2, HM2, ⟨BZ.out⟩, ⟨HB.out⟩⟩
   | false =>
    have hany : (xs.any fun v => !mayB v) = true := List.any_eq_true.2 ⟨_, HIN.out, by rw [hmay]; rfl⟩
    have hR := HRR.out
    rw [if_pos hany] at hR
    subst hR
    rw [hmay] at CM
    clear hmay hany HTH
    go_wp2_with (first | (go_at_call 19; (with_reducible refine (CM.out _ (Below.refl _ _)).mono ?_); rintro e wm ⟨rfl, hb⟩; have BZm := Lib.hid (blk_below BZ.out hb); have HBm := Lib.hid (below_step HB.out hb); clear BZ HB; have BZ := BZm; have HB := HBm; clear BZm HBm hb) | ((with_reducible refine gate_store (t := 27) (p := 4) rfl ?_); refine row_event (by rfl) (by rfl) (by rfl) (by rfl) (by rfl) BZ.out (by exact size27) (by rfl) (by first | rfl | simp [Value.oneCell']) ?_; intro ws hz ho hb; have ZS := Lib.hid hz; have HBS := Lib.hid (hb (Nat.le_refl _) HB.out); have HO := Lib.hid ho; clear hz ho hb HB BZ))
    refine bodyPost_ret (results_cell_row_tmp rfl _ _ w.heap.size 27 _ (0, 0) _ rfl ZS.out hu27 rfl (by exact size27)) rfl ?_
    exact ⟨none, 0, none, 0, rfl, rows_nil _ z27 rfl rfl, HBS.out⟩
  | zero =>
   have hlt : decide (i < (xs.length : Int)) = false := decide_eq_false (by omega)
   have hall : ∀ z ∈ xs, mayB z = true := by
    have e := HM.out
    rw [List.take_of_length_le (by omega)] at e
    exact e
   have hany : (xs.any fun v => !mayB v) = false := by
    rw [List.any_eq_false]
    intro z hz
    rw [hall z hz]
    decide
   have hR := HRR.out
   rw [hany, if_neg (by decide)] at hR
   have HX := Lib.hid (fun z hz => ⟨hall z hz, (HR.out z hz)⟩ : ∀ z ∈ xs, mayB z = true ∧ rngD 8 z)
   have HCB2 := HCB.out; have HF2 := HF.out
   clear hall hany HRR HM hi1 hi0 HI HCB HF HR
   have HX2 := Lib.hid (fun z hz => ⟨(HX.out z hz).1, by have q := (HX.out z hz).2; unfold rngD at q; exact ⟨q.1, q.2.1⟩⟩ : ∀ z ∈ xs, mayB z = true ∧ 0 ≤ z.f2 ∧ z.f2 < 2 ^ 64)
   refine names_of nm _ fun b0 b1 b2 b3 b4 b5 b6 b7 f hf e0 e1 e2 e3 e4 e5 e6 e7 hm => ?_
   rw [hf] at HF2 HCB2 hR
   clear hf
   simp only [List.mem_cons, List.not_mem_nil, or_false, Prod.mk.injEq] at hm
   rcases hm with ⟨rfl, rfl, rfl, rfl, rfl, rfl, rfl, rfl, rfl⟩ | ⟨rfl, rfl, rfl, rfl, rfl, rfl, rfl, rfl, rfl⟩ | ⟨rfl, rfl, rfl, rfl, rfl, rfl, rfl, rfl, rfl⟩ | ⟨rfl, rfl, rfl, rfl, rfl, rfl, rfl, rfl, rfl⟩ | ⟨rfl, rfl, rfl, rfl, rfl, rfl, rfl, rfl, rfl⟩ | ⟨rfl, rfl, rfl, rfl, rfl, rfl, rfl, rfl, rfl⟩ | ⟨rfl, rfl, rfl, rfl, rfl, rfl, rfl, rfl, rfl⟩ | ⟨rfl, rfl, rfl, rfl, rfl, rfl, rfl, rfl, rfl⟩ | ⟨rfl, rfl, rfl, rfl, rfl, rfl, rfl, rfl, rfl⟩
   ·have hn : 1 ≤ xs.length := by simp [countBad, knownR] at HCB2; omega
    obtain ⟨ad, E4, e4, E5, e5, rfl, hAt', hl4, hk4, hl5, hk5⟩ := At.of_elem HA.out 0 (by omega) (by omega)
    have hX : At w ad (rd_T27 xs 0) E4 e4 E5 e5 := hAt'
    have RX := Lib.hid (⟨hk4, hl4, hk5, hl5⟩ : Rows4 w (rd_T27 xs 0) E4 e4 E5 e5)
    have MX := Lib.hid (HX.out _ (rd_mem xs 0 (by omega) (by omega)))
    have qX1 : ((0 : Int) < (xs.length : Int)) = True := eq_true (by omega)
    have qX2 : (0 < xs.length) = True := eq_true (by omega)
    clear hAt' hl4 hk4 hl5 hk5
    have hR2 : lengthR (rd_T27 xs 0) = R := hR
    generalize rd_T27 xs 0 = x at *
    have CL := Lib.hid (fun W (hb : Below w.heap.size w W) (hg : w.heap.size < W.heap.size) => (by have q := rlength_c w.heap.size x E4 e4 E5 e5 W hg (RX.out.below hb); rw [hR2] at q; exact q : Calls Tryz.prog 20 #[.agg #[.int .i64 x.f0, .int .i64 x.f1, .int .u64 x.f2, .string x.f3, .slice E4 x.f4.length e4, .slice E5 x.f5.length e5]] W (Gt w.heap.size W R)))
    obtain ⟨a0, a1, a2, a3, a4, a5⟩ := hX.below HB.out
    clear hX hR hR2 HCB2 HF2
    go_wp2_with (first | (go_at_call 20; (with_reducible refine (CL.out _ HB.out (blk_lt BZ.out)).mono ?_); rintro e wl ⟨B4, d4, B5, d5, rfl, hres, hb⟩; have RES := Lib.hid hres; clear hres; have BZm := Lib.hid (blk_below BZ.out hb); have HBm := Lib.hid (below_step HB.out hb); clear BZ HB; have BZ := BZm; have HB := HBm; clear BZm HBm hb) | ((with_reducible refine gate_store (t := 27) (p := 4) rfl ?_); refine row_event (by rfl) (by rfl) (by rfl) (by rfl) (by rfl) BZ.out (by exact size27) (by rfl) (by first | rfl | simp [Value.oneCell']) ?_; intro ws hz ho hb; have ZS := Lib.hid hz; have HBS := Lib.hid (hb (Nat.le_refl _) HB.out); have HO := Lib.hid ho; clear hz ho hb HB BZ))
    refine bodyPost_ret (results_cell_row_tmp rfl _ _ w.heap.size 27 _ (0, 0) _ rfl ZS.out hu27 rfl (by exact size27)) rfl ?_
    exact ⟨_, _, _, _, rfl, RES.out _ HO.out, HBS.out⟩
   ·have hn : 2 ≤ xs.length := by simp [countBad, knownR] at HCB2; omega
    obtain ⟨ad, E4, e4, E5, e5, rfl, hAt', hl4, hk4, hl5, hk5⟩ := At.of_elem HA.out 0 (by omega) (by omega)
    have hX : At w ad (rd_T27 xs 0) E4 e4 E5 e5 := hAt'
    have RX := Lib.hid (⟨hk4, hl4, hk5, hl5⟩ : Rows4 w (rd_T27 xs 0) E4 e4 E5 e5)
    have MX := Lib.hid (HX.out _ (rd_mem xs 0 (by omega) (by omega)))
    have qX1 : ((0 : Int) < (xs.length : Int)) = True := eq_true (by omega)
    have qX2 : (0 < xs.length) = True := eq_true (by omega)
    clear hAt' hl4 hk4 hl5 hk5
    obtain ⟨ad2, F4, f4, F5, f5, had2, hAt', hl4, hk4, hl5, hk5⟩ := At.of_elem HA.out 1 (by omega) (by omega)
    obtain rfl : ad = ad2 := Option.some.inj had2
    have hY : At w ⟨ad.block, ad.off + 6, none⟩ (rd_T27 xs 1) F4 f4 F5 f5 := hAt'
    have RY := Lib.hid (⟨hk4, hl4, hk5, hl5⟩ : Rows4 w (rd_T27 xs 1) F4 f4 F5 f5)
    have MY := Lib.hid (HX.out _ (rd_mem xs 1 (by omega) (by omega)))
    have qY1 : ((1 : Int) < (xs.length : Int)) = True := eq_true (by omega)
    have qY2 : (1 < xs.length) = True := eq_true (by omega)
    clear hAt' hl4 hk4 hl5 hk5
    have hR2 : indexR (rd_T27 xs 0) (rd_T27 xs 1) = R := hR
    generalize rd_T27 xs 0 = x at *
    generalize rd_T27 xs 1 = y at *
    have hl5 : x.f5.length < 2199023255552 := by have q := (len_of_own (own_of_may MX.out.1)).2; omega
    have hl6 : x.f0 = 6 → x.f5.length ≤ x.f4.length := fun h6 => by have q := keys_len (own_of_may MX.out.1) h6; omega
    have CL := Lib.hid (fun W (hb : Below w.heap.size w W) (hg : w.heap.size < W.heap.size) => (by have q := rindex_c w x y E4 e4 E5 e5 F4 f4 F5 f5 W hb hg RX.out RY.out hl5 hl6; rw [hR2] at q; exact q : Calls Tryz.prog 21 #[.agg #[.int .i64 x.f0, .int .i64 x.f1, .int .u64 x.f2, .string x.f3, .slice E4 x.f4.length e4, .slice E5 x.f5.length e5], .agg #[.int .i64 y.f0, .int .i64 y.f1, .int .u64 y.f2, .string y.f3, .slice F4 y.f4.length f4, .slice F5 y.f5.length f5]] W (Gt w.heap.size W R)))
    clear hR hR2 hl5 hl6 HCB2 HF2
    go_upto_region 14 with (fail)
    have BZd := Lib.hid (blk_drew BZ.out); have HBd := Lib.hid (below_drew HB.out)
    clear BZ HB
    have BZ := BZd; have HB := HBd; clear BZd HBd
    have HXA := Lib.hid hX; have HYA := Lib.hid hY; clear hX hY
    have KEEP := Lib.hid (show ∀ w', Below w.heap.size w w' → (fun w' => Below w.heap.size w w' ∧ w'.cell? ad = some (.int .i64 x.f0) ∧ w'.cell? ⟨ad.block, ad.off + 1, none⟩ = some (.int .i64 x.f1) ∧ w'.cell? ⟨ad.block, ad.off + 2, none⟩ = some (.int .u64 x.f2) ∧ w'.cell? ⟨ad.block, ad.off + 3, none⟩ = some (.string x.f3) ∧ w'.cell? ⟨ad.block, ad.off + 4, none⟩ = some (.slice E4 x.f4.length e4) ∧ w'.cell? ⟨ad.block, ad.off + 5, none⟩ = some (.slice E5 x.f5.length e5) ∧ w'.cell? ⟨ad.block, ad.off + 6, none⟩ = some (.int .i64 y.f0) ∧ w'.cell? ⟨ad.block, ad.off + 7, none⟩ = some (.int .i64 y.f1) ∧ w'.cell? ⟨ad.block, ad.off + 8, none⟩ = some (.int .u64 y.f2) ∧ w'.cell? ⟨ad.block, ad.off + 9, none⟩ = some (.string y.f3) ∧ w'.cell? ⟨ad.block, ad.off + 10, none⟩ = some (.slice F4 y.f4.length f4) ∧ w'.cell? ⟨ad.block, ad.off + 11, none⟩ = some (.slice F5 y.f5.length f5)) w' from fun w' h => ⟨h, (HXA.out.below h).g0, (HXA.out.below h).g1, (HXA.out.below h).g2, (HXA.out.below h).g3, (HXA.out.below h).g4, (HXA.out.below h).g5, (HYA.out.below h).g0, (HYA.out.below h).g1, (HYA.out.below h).g2, (HYA.out.below h).g3, (HYA.out.below h).g4, (HYA.out.below h).g5⟩)
    generalize hWD : wr.drew = wd at *
    refine wp_region_held_drew (S := (fun w' => Below w.heap.size w w' ∧ w'.cell? ad = some (.int .i64 x.f0) ∧ w'.cell? ⟨ad.block, ad.off + 1, none⟩ = some (.int .i64 x.f1) ∧ w'.cell? ⟨ad.block, ad.off + 2, none⟩ = some (.int .u64 x.f2) ∧ w'.cell? ⟨ad.block, ad.off + 3, none⟩ = some (.string x.f3) ∧ w'.cell? ⟨ad.block, ad.off + 4, none⟩ = some (.slice E4 x.f4.length e4) ∧ w'.cell? ⟨ad.block, ad.off + 5, none⟩ = some (.slice E5 x.f5.length e5) ∧ w'.cell? ⟨ad.block, ad.off + 6, none⟩ = some (.int .i64 y.f0) ∧ w'.cell? ⟨ad.block, ad.off + 7, none⟩ = some (.int .i64 y.f1) ∧ w'.cell? ⟨ad.block, ad.off + 8, none⟩ = some (.int .u64 y.f2) ∧ w'.cell? ⟨ad.block, ad.off + 9, none⟩ = some (.string y.f3) ∧ w'.cell? ⟨ad.block, ad.off + 10, none⟩ = some (.slice F4 y.f4.length f4) ∧ w'.cell? ⟨ad.block, ad.off + 11, none⟩ = some (.slice F5 y.f5.length f5))) (by kernel_rfl) ?_ (fun hHeld => ?_)
    ·rw [hWD]; exact KEEP.out _ HB.out
    rw [hWD] at hHeld ⊢
    clear hWD
    refine wpAnyH_take (i := 0) (oi := ⟨some 43, _, _, _, _, _⟩) (v := ?_) rfl (by kernel_rfl) (by kernel_rfl) (by kernel_rfl) (fun _ _ _ h => h) ?_ (by assumption) ?_; rotate_left; (focus (refine Or.inl ⟨rfl, ?_⟩; intro w hSw; (try dsimp only at hSw); go_simp; (try with_reducible rfl); done)); (try simp only [Act.put, List.setIfInBounds_toArray, List.set_cons_zero, List.set_cons_succ])
    refine wpAnyH_take (i := 1) (oi := ⟨some 44, _, _, _, _, _⟩) (v := ?_) rfl (by kernel_rfl) (by kernel_rfl) (by kernel_rfl) (fun _ _ _ h => h) ?_ (by assumption) ?_; rotate_left; (focus (refine Or.inl ⟨rfl, ?_⟩; intro w hSw; (try dsimp only at hSw); go_simp; (try with_reducible rfl); done)); (try simp only [Act.put, List.setIfInBounds_toArray, List.set_cons_zero, List.set_cons_succ])
    refine wpAnyH_take (i := 2) (oi := ⟨some 45, _, _, _, _, _⟩) (v := ?_) rfl (by kernel_rfl) (by kernel_rfl) (by kernel_rfl) (fun _ _ _ h => h) ?_ (by assumption) ?_; rotate_left; (focus (refine Or.inl ⟨rfl, ?_⟩; intro w hSw; (try dsimp only at hSw); go_simp; (try with_reducible rfl); done)); (try simp only [Act.put, List.setIfInBounds_toArray, List.set_cons_zero, List.set_cons_succ])
    refine wpAnyH_take (i := 3) (oi := ⟨some 46, _, _, _, _, _⟩) (v := ?_) rfl (by kernel_rfl) (by kernel_rfl) (by kernel_rfl) (fun _ _ _ h => h) ?_ (by assumption) ?_; rotate_left; (focus (refine Or.inl ⟨rfl, ?_⟩; intro w hSw; (try dsimp only at hSw); go_simp; (try with_reducible rfl); done)); (try simp only [Act.put, List.setIfInBounds_toArray, List.set_cons_zero, List.set_cons_succ])
    refine wpAnyH_take (i := 4) (oi := ⟨some 47, _, _, _, _, _⟩) (v := ?_) rfl (by kernel_rfl) (by kernel_rfl) (by kernel_rfl) (fun _ _ _ h => h) ?_ (by assumption) ?_; rotate_left; (focus (refine Or.inl ⟨rfl, ?_⟩; intro w hSw; (try dsimp only at hSw); go_simp; (try with_reducible rfl); done)); (try simp only [Act.put, List.setIfInBounds_toArray, List.set_cons_zero, List.set_cons_succ])
    refine wpAnyH_take (i := 5) (oi := ⟨some 48, _, _, _, _, _⟩) (v := ?_) rfl (by kernel_rfl) (by kernel_rfl) (by kernel_rfl) (fun _ _ _ h => h) ?_ (by assumption) ?_; rotate_left; (focus (refine Or.inl ⟨rfl, ?_⟩; intro w hSw; (try dsimp only at hSw); go_simp; (try with_reducible rfl); done)); (try simp only [Act.put, List.setIfInBounds_toArray, List.set_cons_zero, List.set_cons_succ])
    refine wpAnyH_ready (rs := [6]) (by kernel_rfl) (by simp) ?_
    refine AllReadyH.cons (o := ⟨some 49, _, _, _, _, _⟩) rfl (fun K hK => ?_) AllReadyH.nil
    go_simp
    go_at_call 21; (with_reducible refine (CL.out _ HB.out (blk_lt BZ.out)).mono ?_); rintro e wl ⟨B4, d4, B5, d5, rfl, hres, hb⟩; have RES := Lib.hid hres; clear hres; have BZm := Lib.hid (blk_below BZ.out hb); have HBm := Lib.hid (below_step HB.out hb); clear BZ HB; have BZ := BZm; have HB := HBm; clear BZm HBm hb
    refine hK.out _ _ (KEEP.out _ HB.out) (fun hHeld2 => ?_)
    clear hK K hHeld; have hHeld := hHeld2; clear hHeld2; (try simp only [Act.put, List.setIfInBounds_toArray, List.set_cons_zero, List.set_cons_succ])
    refine wpAnyH_take (i := 7) (oi := ⟨some 50, _, _, _, _, _⟩) (v := ?_) rfl (by kernel_rfl) (by kernel_rfl) (by kernel_rfl) (fun _ _ _ h => h) ?_ (by assumption) ?_; rotate_left; (focus (refine Or.inl ⟨rfl, ?_⟩; intro w hSw; (try dsimp only at hSw); go_simp; (try with_reducible rfl); done)); (try simp only [Act.put, List.setIfInBounds_toArray, List.set_cons_zero, List.set_cons_succ])
    refine wpAnyH_take (i := 8) (oi := ⟨some 51, _, _, _, _, _⟩) (v := ?_) rfl (by kernel_rfl) (by kernel_rfl) (by kernel_rfl) (fun _ _ _ h => h) ?_ (by assumption) ?_; rotate_left; (focus (refine Or.inl ⟨rfl, ?_⟩; intro w hSw; (try dsimp only at hSw); go_simp; (try with_reducible rfl); done)); (try simp only [Act.put, List.setIfInBounds_toArray, List.set_cons_zero, List.set_cons_succ])
    refine wpAnyH_ready (rs := [9]) (by kernel_rfl) (by simp) ?_
    refine AllReadyH.cons (o := ⟨none, _, _, _, _, _⟩) rfl (fun K hK => ?_) AllReadyH.nil
    have nz0 := (blk_cell BZ.out 0).trans rfl; have fz0 := blk_frozen BZ.out 0; have nz1 := (blk_cell BZ.out 1).trans rfl; have fz1 := blk_frozen BZ.out 1; have nz2 := (blk_cell BZ.out 2).trans rfl; have fz2 := blk_frozen BZ.out 2; have nz3 := (blk_cell BZ.out 3).trans rfl; have fz3 := blk_frozen BZ.out 3; have nz4 := (blk_cell BZ.out 4).trans rfl; have fz4 := blk_frozen BZ.out 4; have nz5 := (blk_cell BZ.out 5).trans rfl; have fz5 := blk_frozen BZ.out 5
    go_simp
    have HBS := Lib.hid (six_below HB.out (Nat.le_refl _) (.int .i64 R.1.f0) (.int .i64 R.1.f1) (.int .u64 R.1.f2) (.string R.1.f3) (.slice B4 R.1.f4.length d4) (.slice B5 R.1.f5.length d5))
    have ZS := Lib.hid (six_put BZ.out (.int .i64 R.1.f0) (.int .i64 R.1.f1) (.int .u64 R.1.f2) (.string R.1.f3) (.slice B4 R.1.f4.length d4) (.slice B5 R.1.f5.length d5))
    have HO := Lib.hid (six_away (W := wl) (g := w.heap.size) (.int .i64 R.1.f0) (.int .i64 R.1.f1) (.int .u64 R.1.f2) (.string R.1.f3) (.slice B4 R.1.f4.length d4) (.slice B5 R.1.f5.length d5))
    clear nz0 nz1 nz2 nz3 nz4 nz5 fz0 fz1 fz2 fz3 fz4 fz5
    refine hK.out _ _ (KEEP.out _ HBS.out) (fun hHeld2 => ?_)
    clear hK K hHeld; have hHeld := hHeld2; clear hHeld2; (try simp only [Act.put, List.setIfInBounds_toArray, List.set_cons_zero, List.set_cons_succ])
    refine wpAnyH_take (i := 10) (oi := ⟨some 5, _, _, _, _, _⟩) (v := ?_) rfl (by kernel_rfl) (by kernel_rfl) (by kernel_rfl) (fun _ _ _ h => h) ?_ (by assumption) ?_; rotate_left; (focus (refine Or.inl ⟨rfl, ?_⟩; intro w hSw; (try dsimp only at hSw); go_simp; (try with_reducible rfl); done)); (try simp only [Act.put, List.setIfInBounds_toArray, List.set_cons_zero, List.set_cons_succ])
    refine wpAnyH_done (by kernel_rfl) ?_ _
    go_wp2
    refine bodyPost_ret (results_cell_row_tmp rfl _ _ w.heap.size 27 _ (0, 0) _ rfl ZS.out hu27 rfl (by exact size27)) rfl ?_
    exact ⟨_, _, _, _, rfl, RES.out _ HO.out, HBS.out⟩
   ·have hn : 2 ≤ xs.length := by simp [countBad, knownR] at HCB2; omega
    obtain ⟨ad, E4, e4, E5, e5, rfl, hAt', hl4, hk4, hl5, hk5⟩ := At.of_elem HA.out 0 (by omega) (by omega)
    have hX : At w ad (rd_T27 xs 0) E4 e4 E5 e5 := hAt'
    have RX := Lib.hid (⟨hk4, hl4, hk5, hl5⟩ : Rows4 w (rd_T27 xs 0) E4 e4 E5 e5)
    have MX := Lib.hid (HX.out _ (rd_mem xs 0 (by omega) (by omega)))
    have qX1 : ((0 : Int) < (xs.length : Int)) = True := eq_true (by omega)
    have qX2 : (0 < xs.length) = True := eq_true (by omega)
    clear hAt' hl4 hk4 hl5 hk5
    obtain ⟨ad2, F4, f4, F5, f5, had2, hAt', hl4, hk4, hl5, hk5⟩ := At.of_elem HA.out 1 (by omega) (by omega)
    obtain rfl : ad = ad2 := Option.some.inj had2
    have hY : At w ⟨ad.block, ad.off + 6, none⟩ (rd_T27 xs 1) F4 f4 F5 f5 := hAt'
    have RY := Lib.hid (⟨hk4, hl4, hk5, hl5⟩ : Rows4 w (rd_T27 xs 1) F4 f4 F5 f5)
    have MY := Lib.hid (HX.out _ (rd_mem xs 1 (by omega) (by omega)))
    have qY1 : ((1 : Int) < (xs.length : Int)) = True := eq_true (by omega)
    have qY2 : (1 < xs.length) = True := eq_true (by omega)
    clear hAt' hl4 hk4 hl5 hk5
    have hR2 : (boolV (mayB (rd_T27 xs 0) && mayB (rd_T27 xs 1) && sameD 8 (rd_T27 xs 0) (rd_T27 xs 1)), (0 : Int)) = R := hR
    generalize rd_T27 xs 0 = x at *
    generalize rd_T27 xs 1 = y at *
    obtain ⟨sb, hsb⟩ : ∃ b, (mayB x && mayB y && sameD 8 x y) = b := ⟨_, rfl⟩
    rw [hsb] at hR2
    subst hR2
    have CL := Lib.hid (fun W (hb : Below w.heap.size w W) => (by have q := RefSame_calls x y E4 e4 E5 e5 F4 f4 F5 f5 W (RX.out.below hb) (RY.out.below hb) MX.out.2 MY.out.2; rw [PureV.same_may, hsb] at q; exact q : Calls Tryz.prog 23 #[.agg #[.int .i64 x.f0, .int .i64 x.f1, .int .u64 x.f2, .string x.f3, .slice E4 x.f4.length e4, .slice E5 x.f5.length e5], .agg #[.int .i64 y.f0, .int .i64 y.f1, .int .u64 y.f2, .string y.f3, .slice F4 y.f4.length f4, .slice F5 y.f5.length f5]] W fun e w' => e = .returned (.bool sb) ∧ Below W.heap.size W w'))
    have CT := Lib.hid (fun W (hg : w.heap.size < W.heap.size) => rtruth_c w.heap.size sb W hg)
    clear hR hsb HCB2 HF2
    go_upto_region 16 with (fail)
    have BZd := Lib.hid (blk_drew BZ.out); have HBd := Lib.hid (below_drew HB.out)
    clear BZ HB
    have BZ := BZd; have HB := HBd; clear BZd HBd
    have HXA := Lib.hid hX; have HYA := Lib.hid hY; clear hX hY
    have KEEP := Lib.hid (show ∀ w', Below w.heap.size w w' → (fun w' => Below w.heap.size w w' ∧ w'.cell? ad = some (.int .i64 x.f0) ∧ w'.cell? ⟨ad.block, ad.off + 1, none⟩ = some (.int .i64 x.f1) ∧ w'.cell? ⟨ad.block, ad.off + 2, none⟩ = some (.int .u64 x.f2) ∧ w'.cell? ⟨ad.block, ad.off + 3, none⟩ = some (.string x.f3) ∧ w'.cell? ⟨ad.block, ad.off + 4, none⟩ = some (.slice E4 x.f4.length e4) ∧ w'.cell? ⟨ad.block, ad.off + 5, none⟩ = some (.slice E5 x.f5.length e5) ∧ w'.cell? ⟨ad.block, ad.off + 6, none⟩ = some (.int .i64 y.f0) ∧ w'.cell? ⟨ad.block, ad.off + 7, none⟩ = some (.int .i64 y.f1) ∧ w'.cell? ⟨ad.block, ad.off + 8, none⟩ = some (.int .u64 y.f2) ∧ w'.cell? ⟨ad.block, ad.off + 9, none⟩ = some (.string y.f3) ∧ w'.cell? ⟨ad.block, ad.off + 10, none⟩ = some (.slice F4 y.f4.length f4) ∧ w'.cell? ⟨ad.block, ad.off + 11, none⟩ = some (.slice F5 y.f5.length f5)) w' from fun w' h => ⟨h, (HXA.out.below h).g0, (HXA.out.below h).g1, (HXA.out.below h).g2, (HXA.out.below h).g3, (HXA.out.below h).g4, (HXA.out.below h).g5, (HYA.out.below h).g0, (HYA.out.below h).g1, (HYA.out.below h).g2, (HYA.out.below h).g3, (HYA.out.below h).g4, (HYA.out.below h).g5⟩)
    generalize hWD : wr.drew = wd at *
    refine wp_region_held_drew (S := (fun w' => Below w.heap.size w w' ∧ w'.cell? ad = some (.int .i64 x.f0) ∧ w'.cell? ⟨ad.block, ad.off + 1, none⟩ = some (.int .i64 x.f1) ∧ w'.cell? ⟨ad.block, ad.off + 2, none⟩ = some (.int .u64 x.f2) ∧ w'.cell? ⟨ad.block, ad.off + 3, none⟩ = some (.string x.f3) ∧ w'.cell? ⟨ad.block, ad.off + 4, none⟩ = some (.slice E4 x.f4.length e4) ∧ w'.cell? ⟨ad.block, ad.off + 5, none⟩ = some (.slice E5 x.f5.length e5) ∧ w'.cell? ⟨ad.block, ad.off + 6, none⟩ = some (.int .i64 y.f0) ∧ w'.cell? ⟨ad.block, ad.off + 7, none⟩ = some (.int .i64 y.f1) ∧ w'.cell? ⟨ad.block, ad.off + 8, none⟩ = some (.int .u64 y.f2) ∧ w'.cell? ⟨ad.block, ad.off + 9, none⟩ = some (.string y.f3) ∧ w'.cell? ⟨ad.block, ad.off + 10, none⟩ = some (.slice F4 y.f4.length f4) ∧ w'.cell? ⟨ad.block, ad.off + 11, none⟩ = some (.slice F5 y.f5.length f5))) (by kernel_rfl) ?_ (fun hHeld => ?_)
    ·rw [hWD]; exact KEEP.out _ HB.out
    rw [hWD] at hHeld ⊢
    clear hWD
    refine wpAnyH_take (i := 0) (oi := ⟨some 54, _, _, _, _, _⟩) (v := ?_) rfl (by kernel_rfl) (by kernel_rfl) (by kernel_rfl) (fun _ _ _ h => h) ?_ (by assumption) ?_; rotate_left; (focus (refine Or.inl ⟨rfl, ?_⟩; intro w hSw; (try dsimp only at hSw); go_simp; (try with_reducible rfl); done)); (try simp only [Act.put, List.setIfInBounds_toArray, List.set_cons_zero, List.set_cons_succ])
    refine wpAnyH_take (i := 1) (oi := ⟨some 55, _, _, _, _, _⟩) (v := ?_) rfl (by kernel_rfl) (by kernel_rfl) (by kernel_rfl) (fun _ _ _ h => h) ?_ (by assumption) ?_; rotate_left; (focus (refine Or.inl ⟨rfl, ?_⟩; intro w hSw; (try dsimp only at hSw); go_simp; (try with_reducible rfl); done)); (try simp only [Act.put, List.setIfInBounds_toArray, List.set_cons_zero, List.set_cons_succ])
    refine wpAnyH_take (i := 2) (oi := ⟨some 56, _, _, _, _, _⟩) (v := ?_) rfl (by kernel_rfl) (by kernel_rfl) (by kernel_rfl) (fun _ _ _ h => h) ?_ (by assumption) ?_; rotate_left; (focus (refine Or.inl ⟨rfl, ?_⟩; intro w hSw; (try dsimp only at hSw); go_simp; (try with_reducible rfl); done)); (try simp only [Act.put, List.setIfInBounds_toArray, List.set_cons_zero, List.set_cons_succ])
    refine wpAnyH_take (i := 3) (oi := ⟨some 57, _, _, _, _, _⟩) (v := ?_) rfl (by kernel_rfl) (by kernel_rfl) (by kernel_rfl) (fun _ _ _ h => h) ?_ (by assumption) ?_; rotate_left; (focus (refine Or.inl ⟨rfl, ?_⟩; intro w hSw; (try dsimp only at hSw); go_simp; (try with_reducible rfl); done)); (try simp only [Act.put, List.setIfInBounds_toArray, List.set_cons_zero, List.set_cons_succ])
    refine wpAnyH_take (i := 4) (oi := ⟨some 58, _, _, _, _, _⟩) (v := ?_) rfl (by kernel_rfl) (by kernel_rfl) (by kernel_rfl) (fun _ _ _ h => h) ?_ (by assumption) ?_; rotate_left; (focus (refine Or.inl ⟨rfl, ?_⟩; intro w hSw; (try dsimp only at hSw); go_simp; (try with_reducible rfl); done)); (try simp only [Act.put, List.setIfInBounds_toArray, List.set_cons_zero, List.set_cons_succ])
    refine wpAnyH_take (i := 5) (oi := ⟨some 59, _, _, _, _, _⟩) (v := ?_) rfl (by kernel_rfl) (by kernel_rfl) (by kernel_rfl) (fun _ _ _ h => h) ?_ (by assumption) ?_; rotate_left; (focus (refine Or.inl ⟨rfl, ?_⟩; intro w hSw; (try dsimp only at hSw); go_simp; (try with_reducible rfl); done)); (try simp only [Act.put, List.setIfInBounds_toArray, List.set_cons_zero, List.set_cons_succ])
    refine wpAnyH_ready (rs := [6]) (by kernel_rfl) (by simp) ?_
    refine AllReadyH.cons (o := ⟨some 60, _, _, _, _, _⟩) rfl (fun K hK => ?_) AllReadyH.nil
    go_simp
    go_at_call 23; (with_reducible refine (CL.out _ HB.out).mono ?_); rintro e wl ⟨rfl, hb⟩; have BZm := Lib.hid (blk_below BZ.out hb); have HBm := Lib.hid (below_step HB.out hb); clear BZ HB; have BZ := BZm; have HB := HBm; clear BZm HBm hb
    refine hK.out _ _ (KEEP.out _ HB.out) (fun hHeld2 => ?_)
    clear hK K hHeld; have hHeld := hHeld2; clear hHeld2; (try simp only [Act.put, List.setIfInBounds_toArray, List.set_cons_zero, List.set_cons_succ])
    refine wpAnyH_ready (rs := [7]) (by kernel_rfl) (by simp) ?_
    refine AllReadyH.cons (o := ⟨some 61, _, _, _, _, _⟩) rfl (fun K hK => ?_) AllReadyH.nil
    go_simp
    go_at_call 22; (with_reducible refine (CT.out _ (blk_lt BZ.out)).mono ?_); rintro e wl ⟨B4, d4, B5, d5, rfl, hres, hb⟩; have RES := Lib.hid hres; clear hres; have BZm := Lib.hid (blk_below BZ.out hb); have HBm := Lib.hid (below_step HB.out hb); clear BZ HB; have BZ := BZm; have HB := HBm; clear BZm HBm hb
    refine hK.out _ _ (KEEP.out _ HB.out) (fun hHeld2 => ?_)
    clear hK K hHeld; have hHeld := hHeld2; clear hHeld2; (try simp only [Act.put, List.setIfInBounds_toArray, List.set_cons_zero, List.set_cons_succ])
    refine wpAnyH_ready (rs := [8]) (by kernel_rfl) (by simp) ?_
    refine AllReadyH.cons (o := ⟨none, _, _, _, _, _⟩) rfl (fun K hK => ?_) AllReadyH.nil
    have nz0 := (blk_cell BZ.out 0).trans rfl; have fz0 := blk_frozen BZ.out 0; have nz1 := (blk_cell BZ.out 1).trans rfl; have fz1 := blk_frozen BZ.out 1; have nz2 := (blk_cell BZ.out 2).trans rfl; have fz2 := blk_frozen BZ.out 2; have nz3 := (blk_cell BZ.out 3).trans rfl; have fz3 := blk_frozen BZ.out 3; have nz4 := (blk_cell BZ.out 4).trans rfl; have fz4 := blk_frozen BZ.out 4; have nz5 := (blk_cell BZ.out 5).trans rfl; have fz5 := blk_frozen BZ.out 5
    go_simp
    have HBS := Lib.hid (six_below HB.out (Nat.le_refl _) (.int .i64 (boolV sb).f0) (.int .i64 (boolV sb).f1) (.int .u64 (boolV sb).f2) (.string (boolV sb).f3) (.slice B4 (boolV sb).f4.length d4) (.slice B5 (boolV sb).f5.length d5))
    have ZS := Lib.hid (six_put BZ.out (.int .i64 (boolV sb).f0) (.int .i64 (boolV sb).f1) (.int .u64 (boolV sb).f2) (.string (boolV sb).f3) (.slice B4 (boolV sb).f4.length d4) (.slice B5 (boolV sb).f5.length d5))
    have HO := Lib.hid (six_away (W := wl) (g := w.heap.size) (.int .i64 (boolV sb).f0) (.int .i64 (boolV sb).f1) (.int .u64 (boolV sb).f2) (.string (boolV sb).f3) (.slice B4 (boolV sb).f4.length d4) (.slice B5 (boolV sb).f5.length d5))
    clear nz0 nz1 nz2 nz3 nz4 nz5 fz0 fz1 fz2 fz3 fz4 fz5
    refine hK.out _ _ (KEEP.out _ HBS.out) (fun hHeld2 => ?_)
    clear hK K hHeld; have hHeld := hHeld2; clear hHeld2; (try simp only [Act.put, List.setIfInBounds_toArray, List.set_cons_zero, List.set_cons_succ])
    refine wpAnyH_take (i := 9) (oi := ⟨some 5, _, _, _, _, _⟩) (v := ?_) rfl (by kernel_rfl) (by kernel_rfl) (by kernel_rfl) (fun _ _ _ h => h) ?_ (by assumption) ?_; rotate_left; (focus (refine Or.inl ⟨rfl, ?_⟩; intro w hSw; (try dsimp only at hSw); go_simp; (try with_reducible rfl); done)); (try simp only [Act.put, List.setIfInBounds_toArray, List.set_cons_zero, List.set_cons_succ])
    refine wpAnyH_done (by kernel_rfl) ?_ _
    go_wp2
    refine bodyPost_ret (results_cell_row_tmp rfl _ _ w.heap.size 27 _ (0, 0) _ rfl ZS.out hu27 rfl (by exact size27)) rfl ?_
    exact ⟨_, _, _, _, rfl, RES.out _ HO.out, HBS.out⟩
   ·have hn : 2 ≤ xs.length := by simp [countBad, knownR] at HCB2; omega
    obtain ⟨ad, E4, e4, E5, e5, rfl, hAt', hl4, hk4, hl5, hk5⟩ := At.of_elem HA.out 0 (by omega) (by omega)
    have hX : At w ad (rd_T27 xs 0) E4 e4 E5 e5 := hAt'
    have RX := Lib.hid (⟨hk4, hl4, hk5, hl5⟩ : Rows4 w (rd_T27 xs 0) E4 e4 E5 e5)
    have MX := Lib.hid (HX.out _ (rd_mem xs 0 (by omega) (by omega)))
    have qX1 : ((0 : Int) < (xs.length : Int)) = True := eq_true (by omega)
    have qX2 : (0 < xs.length) = True := eq_true (by omega)
    clear hAt' hl4 hk4 hl5 hk5
    obtain ⟨ad2, F4, f4, F5, f5, had2, hAt', hl4, hk4, hl5, hk5⟩ := At.of_elem HA.out 1 (by omega) (by omega)
    obtain rfl : ad = ad2 := Option.some.inj had2
    have hY : At w ⟨ad.block, ad.off + 6, none⟩ (rd_T27 xs 1) F4 f4 F5 f5 := hAt'
    have RY := Lib.hid (⟨hk4, hl4, hk5, hl5⟩ : Rows4 w (rd_T27 xs 1) F4 f4 F5 f5)
    have MY := Lib.hid (HX.out _ (rd_mem xs 1 (by omega) (by omega)))
    have qY1 : ((1 : Int) < (xs.length : Int)) = True := eq_true (by omega)
    have qY2 : (1 < xs.length) = True := eq_true (by omega)
    clear hAt' hl4 hk4 hl5 hk5
    have hR2 : (if lessE (rd_T27 xs 0) (rd_T27 xs 1) = 0 then (boolV (lessB (rd_T27 xs 0) (rd_T27 xs 1)), 0) else (z27, 1802)) = R := hR
    generalize rd_T27 xs 0 = x at *
    generalize rd_T27 xs 1 = y at *
    have MX2 := MX.out.2; have MY2 := MY.out.2
    unfold rngD at MX2 MY2
    obtain ⟨le, hle⟩ : ∃ b, lessE x y = b := ⟨_, rfl⟩
    obtain ⟨lb, hlb⟩ : ∃ b, lessB x y = b := ⟨_, rfl⟩
    rw [hle, hlb] at hR2
    have CL := Lib.hid (fun W (hb : Below w.heap.size w W) => (by have q := RefLess_calls x y E4 e4 E5 e5 F4 f4 F5 f5 W (RX.out.below hb) (RY.out.below hb) ⟨MX2.1, MX2.2.1⟩ ⟨MY2.1, MY2.2.1⟩; rw [PureV.less_eq, hle, hlb] at q; exact q : Calls Tryz.prog 24 #[.agg #[.int .i64 x.f0, .int .i64 x.f1, .int .u64 x.f2, .string x.f3, .slice E4 x.f4.length e4, .slice E5 x.f5.length e5], .agg #[.int .i64 y.f0, .int .i64 y.f1, .int .u64 y.f2, .string y.f3, .slice F4 y.f4.length f4, .slice F5 y.f5.length f5]] W fun e w' => e = .returned (.tuple #[.bool lb, .int .i64 le]) ∧ Below W.heap.size W w'))
    have CT := Lib.hid (fun W (hg : w.heap.size < W.heap.size) => rtruth_c w.heap.size lb W hg)
    clear hR hle hlb MX2 MY2 HCB2 HF2
    go_upto_region 18 with (fail)
    have BZd := Lib.hid (blk_drew BZ.out); have HBd := Lib.hid (below_drew HB.out)
    clear BZ HB
    have BZ := BZd; have HB := HBd; clear BZd HBd
    have HXA := Lib.hid hX; have HYA := Lib.hid hY; clear hX hY
    have KEEP := Lib.hid (show ∀ w', Below w.heap.size w w' → (fun w' => Below w.heap.size w w' ∧ w'.cell? ad = some (.int .i64 x.f0) ∧ w'.cell? ⟨ad.block, ad.off + 1, none⟩ = some (.int .i64 x.f1) ∧ w'.cell? ⟨ad.block, ad.off + 2, none⟩ = some (.int .u64 x.f2) ∧ w'.cell? ⟨ad.block, ad.off + 3, none⟩ = some (.string x.f3) ∧ w'.cell? ⟨ad.block, ad.off + 4, none⟩ = some (.slice E4 x.f4.length e4) ∧ w'.cell? ⟨ad.block, ad.off + 5, none⟩ = some (.slice E5 x.f5.length e5) ∧ w'.cell? ⟨ad.block, ad.off + 6, none⟩ = some (.int .i64 y.f0) ∧ w'.cell? ⟨ad.block, ad.off + 7, none⟩ = some (.int .i64 y.f1) ∧ w'.cell? ⟨ad.block, ad.off + 8, none⟩ = some (.int .u64 y.f2) ∧ w'.cell? ⟨ad.block, ad.off + 9, none⟩ = some (.string y.f3) ∧ w'.cell? ⟨ad.block, ad.off + 10, none⟩ = some (.slice F4 y.f4.length f4) ∧ w'.cell? ⟨ad.block, ad.off + 11, none⟩ = some (.slice F5 y.f5.length f5)) w' from fun w' h => ⟨h, (HXA.out.below h).g0, (HXA.out.below h).g1, (HXA.out.below h).g2, (HXA.out.below h).g3, (HXA.out.below h).g4, (HXA.out.below h).g5, (HYA.out.below h).g0, (HYA.out.below h).g1, (HYA.out.below h).g2, (HYA.out.below h).g3, (HYA.out.below h).g4, (HYA.out.below h).g5⟩)
    generalize hWD : wr.drew = wd at *
    refine wp_region_held_drew (S := (fun w' => Below w.heap.size w w' ∧ w'.cell? ad = some (.int .i64 x.f0) ∧ w'.cell? ⟨ad.block, ad.off + 1, none⟩ = some (.int .i64 x.f1) ∧ w'.cell? ⟨ad.block, ad.off + 2, none⟩ = some (.int .u64 x.f2) ∧ w'.cell? ⟨ad.block, ad.off + 3, none⟩ = some (.string x.f3) ∧ w'.cell? ⟨ad.block, ad.off + 4, none⟩ = some (.slice E4 x.f4.length e4) ∧ w'.cell? ⟨ad.block, ad.off + 5, none⟩ = some (.slice E5 x.f5.length e5) ∧ w'.cell? ⟨ad.block, ad.off + 6, none⟩ = some (.int .i64 y.f0) ∧ w'.cell? ⟨ad.block, ad.off + 7, none⟩ = some (.int .i64 y.f1) ∧ w'.cell? ⟨ad.block, ad.off + 8, none⟩ = some (.int .u64 y.f2) ∧ w'.cell? ⟨ad.block, ad.off + 9, none⟩ = some (.string y.f3) ∧ w'.cell? ⟨ad.block, ad.off + 10, none⟩ = some (.slice F4 y.f4.length f4) ∧ w'.cell? ⟨ad.block, ad.off + 11, none⟩ = some (.slice F5 y.f5.length f5))) (by kernel_rfl) ?_ (fun hHeld => ?_)
    ·rw [hWD]; exact KEEP.out _ HB.out
    rw [hWD] at hHeld ⊢
    clear hWD
    refine wpAnyH_take (i := 0) (oi := ⟨some 65, _, _, _, _, _⟩) (v := ?_) rfl (by kernel_rfl) (by kernel_rfl) (by kernel_rfl) (fun _ _ _ h => h) ?_ (by assumption) ?_; rotate_left; (focus (refine Or.inl ⟨rfl, ?_⟩; intro w hSw; (try dsimp only at hSw); go_simp; (try with_reducible rfl); done)); (try simp only [Act.put, List.setIfInBounds_toArray, List.set_cons_zero, List.set_cons_succ])
    refine wpAnyH_take (i := 1) (oi := ⟨some 66, _, _, _, _, _⟩) (v := ?_) rfl (by kernel_rfl) (by kernel_rfl) (by kernel_rfl) (fun _ _ _ h => h) ?_ (by assumption) ?_; rotate_left; (focus (refine Or.inl ⟨rfl, ?_⟩; intro w hSw; (try dsimp only at hSw); go_simp; (try with_reducible rfl); done)); (try simp only [Act.put, List.setIfInBounds_toArray, List.set_cons_zero, List.set_cons_succ])
    refine wpAnyH_take (i := 2) (oi := ⟨some 67, _, _, _, _, _⟩) (v := ?_) rfl (by kernel_rfl) (by kernel_rfl) (by kernel_rfl) (fun _ _ _ h => h) ?_ (by assumption) ?_; rotate_left; (focus (refine Or.inl ⟨rfl, ?_⟩; intro w hSw; (try dsimp only at hSw); go_simp; (try with_reducible rfl); done)); (try simp only [Act.put, List.setIfInBounds_toArray, List.set_cons_zero, List.set_cons_succ])
    refine wpAnyH_take (i := 3) (oi := ⟨some 68, _, _, _, _, _⟩) (v := ?_) rfl (by kernel_rfl) (by kernel_rfl) (by kernel_rfl) (fun _ _ _ h => h) ?_ (by assumption) ?_; rotate_left; (focus (refine Or.inl ⟨rfl, ?_⟩; intro w hSw; (try dsimp only at hSw); go_simp; (try with_reducible rfl); done)); (try simp only [Act.put, List.setIfInBounds_toArray, List.set_cons_zero, List.set_cons_succ])
    refine wpAnyH_take (i := 4) (oi := ⟨some 69, _, _, _, _, _⟩) (v := ?_) rfl (by kernel_rfl) (by kernel_rfl) (by kernel_rfl) (fun _ _ _ h => h) ?_ (by assumption) ?_; rotate_left; (focus (refine Or.inl ⟨rfl, ?_⟩; intro w hSw; (try dsimp only at hSw); go_simp; (try with_reducible rfl); done)); (try simp only [Act.put, List.setIfInBounds_toArray, List.set_cons_zero, List.set_cons_succ])
    refine wpAnyH_take (i := 5) (oi := ⟨some 70, _, _, _, _, _⟩) (v := ?_) rfl (by kernel_rfl) (by kernel_rfl) (by kernel_rfl) (fun _ _ _ h => h) ?_ (by assumption) ?_; rotate_left; (focus (refine Or.inl ⟨rfl, ?_⟩; intro w hSw; (try dsimp only at hSw); go_simp; (try with_reducible rfl); done)); (try simp only [Act.put, List.setIfInBounds_toArray, List.set_cons_zero, List.set_cons_succ])
    refine wpAnyH_ready (rs := [6]) (by kernel_rfl) (by simp) ?_
    refine AllReadyH.cons (o := ⟨some 71, _, _, _, _, _⟩) rfl (fun K hK => ?_) AllReadyH.nil
    go_simp
    go_at_call 24; (with_reducible refine (CL.out _ HB.out).mono ?_); rintro e wl ⟨rfl, hb⟩; have BZm := Lib.hid (blk_below BZ.out hb); have HBm := Lib.hid (below_step HB.out hb); clear BZ HB; have BZ := BZm; have HB := HBm; clear BZm HBm hb
    refine hK.out _ _ (KEEP.out _ HB.out) (fun hHeld2 => ?_)
    clear hK K hHeld; have hHeld := hHeld2; clear hHeld2; (try simp only [Act.put, List.setIfInBounds_toArray, List.set_cons_zero, List.set_cons_succ])
    refine wpAnyH_take (i := 7) (oi := ⟨some 64, _, _, _, _, _⟩) (v := ?_) rfl (by kernel_rfl) (by kernel_rfl) (by kernel_rfl) (fun _ _ _ h => h) ?_ (by assumption) ?_; rotate_left; (focus (refine Or.inl ⟨rfl, ?_⟩; intro w hSw; (try dsimp only at hSw); go_simp; (try with_reducible rfl); done)); (try simp only [Act.put, List.setIfInBounds_toArray, List.set_cons_zero, List.set_cons_succ])
    refine wpAnyH_take (i := 8) (oi := ⟨some 72, _, _, _, _, _⟩) (v := ?_) rfl (by kernel_rfl) (by kernel_rfl) (by kernel_rfl) (fun _ _ _ h => h) ?_ (by assumption) ?_; rotate_left; (focus (refine Or.inl ⟨rfl, ?_⟩; intro w hSw; (try dsimp only at hSw); go_simp; (try with_reducible rfl); done)); (try simp only [Act.put, List.setIfInBounds_toArray, List.set_cons_zero, List.set_cons_succ])
    refine wpAnyH_take (i := 9) (oi := ⟨some 73, _, _, _, _, _⟩) (v := ?_) rfl (by kernel_rfl) (by kernel_rfl) (by kernel_rfl) (fun _ _ _ h => h) ?_ (by assumption) ?_; rotate_left; (focus (refine Or.inl ⟨rfl, ?_⟩; intro w hSw; (try dsimp only at hSw); go_simp; (try with_reducible rfl); done)); (try simp only [Act.put, List.setIfInBounds_toArray, List.set_cons_zero, List.set_cons_succ])
    refine wpAnyH_take (i := 10) (oi := ⟨some 7, _, _, _, _, _⟩) (v := ?_) rfl (by kernel_rfl) (by kernel_rfl) (by kernel_rfl) (fun _ _ _ h => h) ?_ (by assumption) ?_; rotate_left; (focus (refine Or.inl ⟨rfl, ?_⟩; intro w hSw; (try dsimp only at hSw); go_simp; (try with_reducible rfl); done)); (try simp only [Act.put, List.setIfInBounds_toArray, List.set_cons_zero, List.set_cons_succ])
    refine wpAnyH_take (i := 11) (oi := ⟨some 8, _, _, _, _, _⟩) (v := ?_) rfl (by kernel_rfl) (by kernel_rfl) (by kernel_rfl) (fun _ _ _ h => h) ?_ (by assumption) ?_; rotate_left; (focus (refine Or.inl ⟨rfl, ?_⟩; intro w hSw; (try dsimp only at hSw); go_simp; (try with_reducible rfl); done)); (try simp only [Act.put, List.setIfInBounds_toArray, List.set_cons_zero, List.set_cons_succ])
    refine wpAnyH_done (by kernel_rfl) ?_ _
    by_cases hz : le = 0
    case pos =>
     rw [if_pos hz] at hR2
     subst hR2
     have hz1 : (le != 0) = false := by rw [hz]; rfl
     subst hz
     go_wp2_with (first | (go_at_call 22; (with_reducible refine (CT.out _ (blk_lt BZ.out)).mono ?_); rintro e wl ⟨B4, d4, B5, d5, rfl, hres, hb⟩; have RES := Lib.hid hres; clear hres; have BZm := Lib.hid (blk_below BZ.out hb); have HBm := Lib.hid (below_step HB.out hb); clear BZ HB; have BZ := BZm; have HB := HBm; clear BZm HBm hb) | ((with_reducible refine gate_store (t := 27) (p := 4) rfl ?_); refine row_event (by rfl) (by rfl) (by rfl) (by rfl) (by rfl) BZ.out (by exact size27) (by rfl) (by first | rfl | simp [Value.oneCell']) ?_; intro ws hz ho hb; have ZS := Lib.hid hz; have HBS := Lib.hid (hb (Nat.le_refl _) HB.out); have HO := Lib.hid ho; clear hz ho hb HB BZ))
     refine bodyPost_ret (results_cell_row_tmp rfl _ _ w.heap.size 27 _ (0, 0) _ rfl ZS.out hu27 rfl (by exact size27)) rfl ?_
     exact ⟨_, _, _, _, rfl, RES.out _ HO.out, HBS.out⟩
    rw [if_neg hz] at hR2
    subst hR2
    have hz1 : (le != 0) = true := bne_iff_ne.2 hz
    go_wp2_with (first | ((with_reducible refine gate_store (t := 27) (p := 4) rfl ?_); refine row_event (by rfl) (by rfl) (by rfl) (by rfl) (by rfl) BZ.out (by exact size27) (by rfl) (by first | rfl | simp [Value.oneCell']) ?_; intro ws hz ho hb; have ZS := Lib.hid hz; have HBS := Lib.hid (hb (Nat.le_refl _) HB.out); have HO := Lib.hid ho; clear hz ho hb HB BZ))
    refine bodyPost_ret (results_cell_row_tmp rfl _ _ w.heap.size 27 _ (0, 0) _ rfl ZS.out hu27 rfl (by exact size27)) rfl ?_
    exact ⟨none, 0, none, 0, rfl, rows_nil _ z27 rfl rfl, HBS.out⟩
   ·have hn : 1 ≤ xs.length := by simp [countBad, knownR] at HCB2; omega
    obtain ⟨ad, E4, e4, E5, e5, rfl, hAt', hl4, hk4, hl5, hk5⟩ := At.of_elem HA.out 0 (by omega) (by omega)
    have hX : At w ad (rd_T27 xs 0) E4 e4 E5 e5 := hAt'
    have RX := Lib.hid (⟨hk4, hl4, hk5, hl5⟩ : Rows4 w (rd_T27 xs 0) E4 e4 E5 e5)
    have MX := Lib.hid (HX.out _ (rd_mem xs 0 (by omega) (by omega)))
    have qX1 : ((0 : Int) < (xs.length : Int)) = True := eq_true (by omega)
    have qX2 : (0 < xs.length) = True := eq_true (by omega)
    clear hAt' hl4 hk4 hl5 hk5
    have hR2 : (boolV (!truthB (rd_T27 xs 0)), (0 : Int)) = R := hR
    generalize rd_T27 xs 0 = x at *
    obtain ⟨tb, htb⟩ : ∃ b, truthB x = b := ⟨_, rfl⟩
    rw [htb] at hR2
    subst hR2
    have MX2 := MX.out.2
    unfold rngD at MX2
    have CL := Lib.hid (fun W (hb : Below w.heap.size w W) => (by have q := RefTrue_calls x E4 e4 E5 e5 W (RX.out.below hb) MX2.1 MX2.2.1; rw [MX.out.1, htb, Bool.true_and] at q; exact q : Calls Tryz.prog 25 #[.agg #[.int .i64 x.f0, .int .i64 x.f1, .int .u64 x.f2, .string x.f3, .slice E4 x.f4.length e4, .slice E5 x.f5.length e5]] W fun e w' => e = .returned (.bool tb) ∧ Below W.heap.size W w'))
    have CT := Lib.hid (fun W (hg : w.heap.size < W.heap.size) => rtruth_c w.heap.size (!tb) W hg)
    obtain ⟨a0, a1, a2, a3, a4, a5⟩ := hX.below HB.out
    clear hX hR htb MX2 HCB2 HF2
    go_wp2_with (first | (go_at_call 25; (with_reducible refine (CL.out _ HB.out).mono ?_); rintro e wl ⟨rfl, hb⟩; have BZm := Lib.hid (blk_below BZ.out hb); have HBm := Lib.hid (below_step HB.out hb); clear BZ HB; have BZ := BZm; have HB := HBm; clear BZm HBm hb) | (go_at_call 22; (with_reducible refine (CT.out _ (blk_lt BZ.out)).mono ?_); rintro e wl ⟨B4, d4, B5, d5, rfl, hres, hb⟩; have RES := Lib.hid hres; clear hres; have BZm := Lib.hid (blk_below BZ.out hb); have HBm := Lib.hid (below_step HB.out hb); clear BZ HB; have BZ := BZm; have HB := HBm; clear BZm HBm hb) | ((with_reducible refine gate_store (t := 27) (p := 4) rfl ?_); refine row_event (by rfl) (by rfl) (by rfl) (by rfl) (by rfl) BZ.out (by exact size27) (by rfl) (by first | rfl | simp [Value.oneCell']) ?_; intro ws hz ho hb; have ZS := Lib.hid hz; have HBS := Lib.hid (hb (Nat.le_refl _) HB.out); have HO := Lib.hid ho; clear hz ho hb HB BZ))
    refine bodyPost_ret (results_cell_row_tmp rfl _ _ w.heap.size 27 _ (0, 0) _ rfl ZS.out hu27 rfl (by exact size27)) rfl ?_
    exact ⟨_, _, _, _, rfl, RES.out _ HO.out, HBS.out⟩
   ·have hn : 1 ≤ xs.length := by simp [countBad, knownR] at HCB2; omega
    have hR2 : (pickR xs false, (0 : Int)) = R := hR
    obtain ⟨x, hx⟩ : ∃ x, pickR xs false = x := ⟨_, rfl⟩
    rw [hx] at hR2
    subst hR2
    have CL := Lib.hid (fun W (hb : Below w.heap.size w W) (hg : w.heap.size < W.heap.size) => (by have q := rpick_c w xs false A c W hb hg HA.out hc HX2.out hl hn; rw [hx] at q; exact q : Calls Tryz.prog 26 #[.slice A xs.length c, .bool false] W (Gv w.heap.size W x)))
    clear hR hx HCB2 HF2
    go_wp2_with (first | (go_at_call 26; (with_reducible refine (CL.out _ HB.out (blk_lt BZ.out)).mono ?_); rintro e wl ⟨B4, d4, B5, d5, rfl, hres, hb⟩; have RES := Lib.hid hres; clear hres; have BZm := Lib.hid (blk_below BZ.out hb); have HBm := Lib.hid (below_step HB.out hb); clear BZ HB; have BZ := BZm; have HB := HBm; clear BZm HBm hb) | ((with_reducible refine gate_store (t := 27) (p := 4) rfl ?_); refine row_event (by rfl) (by rfl) (by rfl) (by rfl) (by rfl) BZ.out (by exact size27) (by rfl) (by first | rfl | simp [Value.oneCell']) ?_; intro ws hz ho hb; have ZS := Lib.hid hz; have HBS := Lib.hid (hb (Nat.le_refl _) HB.out); have HO := Lib.hid ho; clear hz ho hb HB BZ))
    refine bodyPost_ret (results_cell_row_tmp rfl _ _ w.heap.size 27 _ (0, 0) _ rfl ZS.out hu27 rfl (by exact size27)) rfl ?_
    exact ⟨_, _, _, _, rfl, RES.out _ HO.out, HBS.out⟩
   ·have hn : 1 ≤ xs.length := by simp [countBad, knownR] at HCB2; omega
    have hR2 : (pickR xs true, (0 : Int)) = R := hR
    obtain ⟨x, hx⟩ : ∃ x, pickR xs true = x := ⟨_, rfl⟩
    rw [hx] at hR2
    subst hR2
    have CL := Lib.hid (fun W (hb : Below w.heap.size w W) (hg : w.heap.size < W.heap.size) => (by have q := rpick_c w xs true A c W hb hg HA.out hc HX2.out hl hn; rw [hx] at q; exact q : Calls Tryz.prog 26 #[.slice A xs.length c, .bool true] W (Gv w.heap.size W x)))
    clear hR hx HCB2 HF2
    go_wp2_with (first | (go_at_call 26; (with_reducible refine (CL.out _ HB.out (blk_lt BZ.out)).mono ?_); rintro e wl ⟨B4, d4, B5, d5, rfl, hres, hb⟩; have RES := Lib.hid hres; clear hres; have BZm := Lib.hid (blk_below BZ.out hb); have HBm := Lib.hid (below_step HB.out hb); clear BZ HB; have BZ := BZm; have HB := HBm; clear BZm HBm hb) | ((with_reducible refine gate_store (t := 27) (p := 4) rfl ?_); refine row_event (by rfl) (by rfl) (by rfl) (by rfl) (by rfl) BZ.out (by exact size27) (by rfl) (by first | rfl | simp [Value.oneCell']) ?_; intro ws hz ho hb; have ZS := Lib.hid hz; have HBS := Lib.hid (hb (Nat.le_refl _) HB.out); have HO := Lib.hid ho; clear hz ho hb HB BZ))
    refine bodyPost_ret (results_cell_row_tmp rfl _ _ w.heap.size 27 _ (0, 0) _ rfl ZS.out hu27 rfl (by exact size27)) rfl ?_
    exact ⟨_, _, _, _, rfl, RES.out _ HO.out, HBS.out⟩
   ·have hR2 : catR xs = R := hR
    have CL := Lib.hid (fun W (hb : Below w.heap.size w W) (hg : w.heap.size < W.heap.size) => (by have q := rcat_c w.heap.size xs A c W hg (Kd.C_below HA.out hb) hc HX2.out hl; rw [hR2] at q; exact q : Calls Tryz.prog 27 #[.slice A xs.length c] W (Gt w.heap.size W R)))
    clear hR hR2 HCB2 HF2
    go_wp2_with (first | (go_at_call 27; (with_reducible refine (CL.out _ HB.out (blk_lt BZ.out)).mono ?_); rintro e wl ⟨B4, d4, B5, d5, rfl, hres, hb⟩; have RES := Lib.hid hres; clear hres; have BZm := Lib.hid (blk_below BZ.out hb); have HBm := Lib.hid (below_step HB.out hb); clear BZ HB; have BZ := BZm; have HB := HBm; clear BZm HBm hb) | ((with_reducible refine gate_store (t := 27) (p := 4) rfl ?_); refine row_event (by rfl) (by rfl) (by rfl) (by rfl) (by rfl) BZ.out (by exact size27) (by rfl) (by first | rfl | simp [Value.oneCell']) ?_; intro ws hz ho hb; have ZS := Lib.hid hz; have HBS := Lib.hid (hb (Nat.le_refl _) HB.out); have HO := Lib.hid ho; clear hz ho hb HB BZ))
    refine bodyPost_ret (results_cell_row_tmp rfl _ _ w.heap.size 27 _ (0, 0) _ rfl ZS.out hu27 rfl (by exact size27)) rfl ?_
    exact ⟨_, _, _, _, rfl, RES.out _ HO.out, HBS.out⟩
   ·exact absurd HF2 (by decide)
end Go.Proofs.YtoocfodefbechaaGreatDoor.Fns
