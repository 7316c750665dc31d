/- stolelaw4.Values, walked: it answers true, whatever the values. -/
import Derived.Test.YtepolmajebdphaaDoorValP
import Derived.Test.YtepolmajebdphaaDoorValuesV
import Derived.Test.YtepolmajebdphaaDoorAwake4
import Derived.Test.YtepolmajebdphaaDoorFrameS
namespace Go.Proofs.YtepolmajebdphaaDoor.Values
open Go.RowKit Go.Proofs.YtepolmajebdphaaDoor.Q Go.Proofs.YtepolmajebdphaaDoor.Real Go.Proofs.YtepolmajebdphaaDoor.RealPure Go.Proofs.YtepolmajebdphaaDoor.PureV Go.Proofs.YtepolmajebdphaaDoorW.PrintWords Go.Proofs.YtepolmajebdphaaDoorW.PrintLast Go.Proofs.YtepolmajebdphaaDoorW.PrintMore
set_option linter.unusedSimpArgs false
set_option linter.unusedVariables false
set_option maxRecDepth 100000

theorem rowsV {x : V} {E : Option Addr} {e : Nat} {F : Option Addr} {f : Nat} {W : World} {b : Nat} {ok ok' : Nat → Prop}
    (h : Kd.R k26 26 W b ok (.slice E x.f4.length e) x.f4) (h' : Kd.R Kd.string 9 W b ok' (.slice F x.f5.length f) x.f5) : Rows4 W x E e F f := by
  obtain ⟨A, c, he, l4, k4⟩ := Kd.R_reads h
  obtain ⟨B, d, he', l5, k5⟩ := Kd.R_reads h'
  injection he with e1 _ e3
  injection he' with e1' _ e3'
  subst e1 e3 e1' e3'
  exact ⟨k4, l4, k5, l5⟩
theorem numW (i : Int) (W : World) : Calls Tryd.prog 25 #[.int .i64 i] W fun e w' => e = .returned (.int .i64 i) ∧ Below W.heap.size W w' := by
  go_enter Tryd.func25, Tryd.ntmps25
  go_wp2
  go_ret
  exact ⟨rfl, Below.refl _ _⟩
theorem six_putV {W : World} {g : Nat} {t : TypeId} {o0 o1 o2 o3 o4 o5 : Value} (h : W.heap[g]? = some (.cells #[o0, o1, o2, o3, o4, o5] t (0, 0))) (v0 v1 v2 v3 v4 v5 : Value) :
    ((((((W.setCell ⟨g, 0, none⟩ v0).setCell ⟨g, 1, none⟩ v1).setCell ⟨g, 2, none⟩ v2).setCell ⟨g, 3, none⟩ v3).setCell ⟨g, 4, none⟩ v4).setCell ⟨g, 5, none⟩ v5).heap[g]? = some (.cells #[v0, v1, v2, v3, v4, v5] t (0, 0)) :=
  blk_put (blk_put (blk_put (blk_put (blk_put (blk_put h 0 v0 rfl) 1 v1 rfl) 2 v2 rfl) 3 v3 rfl) 4 v4 rfl) 5 v5 rfl
theorem six_farV {W : World} {g k : Nat} (h : k ≠ g) (v0 v1 v2 v3 v4 v5 : Value) :
    ((((((W.setCell ⟨g, 0, none⟩ v0).setCell ⟨g, 1, none⟩ v1).setCell ⟨g, 2, none⟩ v2).setCell ⟨g, 3, none⟩ v3).setCell ⟨g, 4, none⟩ v4).setCell ⟨g, 5, none⟩ v5).heap[k]? = W.heap[k]? := by
  repeat rw [Below.heap_setCell _ _ _ k h]
theorem six_belowV {w W : World} {g : Nat} (h : Below w.heap.size w W) (hg : w.heap.size ≤ g) (v0 v1 v2 v3 v4 v5 : Value) :
    Below w.heap.size w ((((((W.setCell ⟨g, 0, none⟩ v0).setCell ⟨g, 1, none⟩ v1).setCell ⟨g, 2, none⟩ v2).setCell ⟨g, 3, none⟩ v3).setCell ⟨g, 4, none⟩ v4).setCell ⟨g, 5, none⟩ v5) :=
  below_set (below_set (below_set (below_set (below_set (below_set h hg) hg) hg) hg) hg) hg
/-- A copy's rows: they lie in the blocks from b to top. -/
def RW (cur : World) (x : V) (E4 : Option Addr) (e4 : Nat) (E5 : Option Addr) (e5 : Nat) (b top : Nat) : Prop := ∃ W : World, W.heap.size = top ∧ Kd.R k26 26 W b (fun _ => True) (.slice E4 x.f4.length e4) x.f4 ∧ Kd.R Kd.string 9 W b (fun _ => True) (.slice E5 x.f5.length e5) x.f5 ∧ (∀ k, b ≤ k → k < top → cur.heap[k]? = W.heap[k]?) ∧ top ≤ cur.heap.size
def RT (cur : World) (ps : List ByteArray) (Q : Option Addr) (cq : Nat) (b top : Nat) : Prop := ∃ W : World, W.heap.size = top ∧ Kd.R Kd.string 9 W b (fun _ => True) (.slice Q ps.length cq) ps ∧ (∀ k, b ≤ k → k < top → cur.heap[k]? = W.heap[k]?) ∧ top ≤ cur.heap.size
theorem RW.top {cur : World} {x : V} {E4 : Option Addr} {e4 : Nat} {E5 : Option Addr} {e5 b top : Nat} (h : RW cur x E4 e4 E5 e5 b top) : top ≤ cur.heap.size := by obtain ⟨_, _, _, _, _, h⟩ := h; exact h
theorem RT.top {cur : World} {ps : List ByteArray} {Q : Option Addr} {cq b top : Nat} (h : RT cur ps Q cq b top) : top ≤ cur.heap.size := by obtain ⟨_, _, _, _, h⟩ := h; exact h
theorem RW.step {cur c2 : World} {x : V} {E4 : Option Addr} {e4 : Nat} {E5 : Option Addr} {e5 b top : Nat} (h : RW cur x E4 e4 E5 e5 b top) (hb : Below cur.heap.size cur c2) : RW c2 x E4 e4 E5 e5 b top := by
  obtain ⟨W, e, h4, h5, hs, ht⟩ := h
  exact ⟨W, e, h4, h5, fun k k0 k1 => (hb.block k (by omega)).trans (hs k k0 k1), Nat.le_trans ht hb.size⟩
theorem RT.step {cur c2 : World} {ps : List ByteArray} {Q : Option Addr} {cq b top : Nat} (h : RT cur ps Q cq b top) (hb : Below cur.heap.size cur c2) : RT c2 ps Q cq b top := by
  obtain ⟨W, e, h5, hs, ht⟩ := h
  exact ⟨W, e, h5, fun k k0 k1 => (hb.block k (by omega)).trans (hs k k0 k1), Nat.le_trans ht hb.size⟩
theorem six_size (W : World) (g : Nat) (v0 v1 v2 v3 v4 v5 : Value) : W.heap.size ≤ ((((((W.setCell ⟨g, 0, none⟩ v0).setCell ⟨g, 1, none⟩ v1).setCell ⟨g, 2, none⟩ v2).setCell ⟨g, 3, none⟩ v3).setCell ⟨g, 4, none⟩ v4).setCell ⟨g, 5, none⟩ v5).heap.size :=
  ((((((Below.refl 0 W).setCell (Nat.zero_le _) v0).setCell (Nat.zero_le _) v1).setCell (Nat.zero_le _) v2).setCell (Nat.zero_le _) v3).setCell (Nat.zero_le _) v4).setCell (Nat.zero_le _) v5 |>.size
theorem RW.put {cur : World} {x : V} {E4 : Option Addr} {e4 : Nat} {E5 : Option Addr} {e5 b top g : Nat} (h : RW cur x E4 e4 E5 e5 b top) (hg : g < b ∨ top ≤ g) (v0 v1 v2 v3 v4 v5 : Value) :
    RW ((((((cur.setCell ⟨g, 0, none⟩ v0).setCell ⟨g, 1, none⟩ v1).setCell ⟨g, 2, none⟩ v2).setCell ⟨g, 3, none⟩ v3).setCell ⟨g, 4, none⟩ v4).setCell ⟨g, 5, none⟩ v5) x E4 e4 E5 e5 b top := by
  obtain ⟨W, e, h4, h5, hs, ht⟩ := h
  exact ⟨W, e, h4, h5, fun k k0 k1 => (six_farV (by omega) v0 v1 v2 v3 v4 v5).trans (hs k k0 k1), Nat.le_trans ht (six_size _ _ _ _ _ _ _ _)⟩
theorem RT.put {cur : World} {ps : List ByteArray} {Q : Option Addr} {cq b top g : Nat} (h : RT cur ps Q cq b top) (hg : g < b ∨ top ≤ g) (v0 v1 v2 v3 v4 v5 : Value) :
    RT ((((((cur.setCell ⟨g, 0, none⟩ v0).setCell ⟨g, 1, none⟩ v1).setCell ⟨g, 2, none⟩ v2).setCell ⟨g, 3, none⟩ v3).setCell ⟨g, 4, none⟩ v4).setCell ⟨g, 5, none⟩ v5) ps Q cq b top := by
  obtain ⟨W, e, h5, hs, ht⟩ := h
  exact ⟨W, e, h5, fun k k0 k1 => (six_farV (by omega) v0 v1 v2 v3 v4 v5).trans (hs k k0 k1), Nat.le_trans ht (six_size _ _ _ _ _ _ _ _)⟩
theorem RW.rows {cur : World} {x : V} {E4 : Option Addr} {e4 : Nat} {E5 : Option Addr} {e5 b top : Nat} (h : RW cur x E4 e4 E5 e5 b top) : Rows4 cur x E4 e4 E5 e5 := by
  obtain ⟨W, rfl, h4, h5, hs, ht⟩ := h
  exact rowsV (Kd.R_move (Kd.R_bound h4) (fun k hk => hs k hk.2.1 hk.2.2.1)) (Kd.R_move (Kd.R_bound h5) (fun k hk => hs k hk.2.1 hk.2.2.1))
theorem RT.rows {cur : World} {ps : List ByteArray} {Q : Option Addr} {cq b top : Nat} (h : RT cur ps Q cq b top) : Kd.C Kd.string cur Q ps.length ps ∧ ps.length ≤ cq := by
  obtain ⟨W, rfl, h5, hs, ht⟩ := h
  obtain ⟨B, d, he, l5, k5⟩ := Kd.R_reads (Kd.R_move (Kd.R_bound h5) (fun k hk => hs k hk.2.1 hk.2.2.1))
  injection he with e1 _ e3
  subst e1 e3
  exact ⟨k5, l5⟩
theorem RW.mk {W : World} {x : V} {E4 : Option Addr} {e4 : Nat} {E5 : Option Addr} {e5 b : Nat} (h4 : Kd.R k26 26 W b (fun _ => True) (.slice E4 x.f4.length e4) x.f4) (h5 : Kd.R Kd.string 9 W b (fun _ => True) (.slice E5 x.f5.length e5) x.f5) : RW W x E4 e4 E5 e5 b W.heap.size := ⟨W, rfl, h4, h5, fun _ _ _ => rfl, Nat.le_refl _⟩
theorem RT.mk {W : World} {ps : List ByteArray} {Q : Option Addr} {cq b : Nat} (h5 : Kd.R Kd.string 9 W b (fun _ => True) (.slice Q ps.length cq) ps) : RT W ps Q cq b W.heap.size := ⟨W, rfl, h5, fun _ _ _ => rfl, Nat.le_refl _⟩
set_option maxHeartbeats 64000000 in
theorem values_calls (a b : V) (A4 : Option Addr) (c4 : Nat) (A5 : Option Addr) (c5 : Nat) (B4 : Option Addr) (d4 : Nat) (B5 : Option Addr) (d5 : Nat) (P : Option Addr) (cp : Nat) (ps : List ByteArray) (w : World) (hT : Tabs w)
    (ha : Rows4 w a A4 c4 A5 c5) (hb : Rows4 w b B4 d4 B5 d5) (hp : Kd.C Kd.string w P ps.length ps) (hcp : ps.length ≤ cp) (ra : ∀ d, wideD d a ∧ szD d a) (rb : ∀ d, wideD d b ∧ szD d b) (hps : ps.length < 8796093022208) :
    Calls Tryd.prog 3 #[arg a A4 c4 A5 c5, arg b B4 d4 B5 d5, .slice P ps.length cp] w fun e w' => e = .returned (.bool true) ∧ Below w.heap.size w w' := by
  have hu26 := Tryd.underlying26
  show Calls _ _ #[.agg #[.int .i64 a.f0, .int .i64 a.f1, .int .u64 a.f2, .string a.f3, .slice A4 a.f4.length c4, .slice A5 a.f5.length c5], .agg #[.int .i64 b.f0, .int .i64 b.f1, .int .u64 b.f2, .string b.f3, .slice B4 b.f4.length d4, .slice B5 b.f5.length d5], .slice P ps.length cp] _ _
  have ga := rng_of_wide 8 a (ra 8).1
  have gb := rng_of_wide 8 b (rb 8).1
  have a2 : 0 ≤ a.f2 ∧ a.f2 < 2 ^ 64 := (ra 1).1.2.2.1
  have b2 : 0 ≤ b.f2 ∧ b.f2 < 2 ^ 64 := (rb 1).1.2.2.1
  obtain ⟨M, hM⟩ : ∃ M, mayB a = M := ⟨_, rfl⟩
  obtain ⟨TR, hTR⟩ : ∃ TR, (mayB a && truthB a) = TR := ⟨_, rfl⟩
  obtain ⟨SM, hSM⟩ : ∃ SM, (mayB a && (mayB b && refS 8 a b)) = SM := ⟨_, rfl⟩
  obtain ⟨S, hS⟩ : ∃ S, (if mayB a = true then saidS a else ⟨#[]⟩) = S := ⟨_, rfl⟩
  obtain ⟨SE, hSE⟩ : ∃ SE, (if mayB a = true then saidE a else 400) = SE := ⟨_, rfl⟩
  obtain ⟨L, hL⟩ : ∃ L, lessB a b = L := ⟨_, rfl⟩
  obtain ⟨LE, hLE⟩ : ∃ LE, lessE a b = LE := ⟨_, rfl⟩
  obtain ⟨UU, hUU⟩ : ∃ UU, getR a ps = UU := ⟨_, rfl⟩
  obtain ⟨x, hx⟩ : ∃ x, truncD 40 a = x := ⟨_, rfl⟩
  obtain ⟨y, hy⟩ : ∃ y, truncD 40 b = y := ⟨_, rfl⟩
  obtain ⟨xe0, xe1, xe2, xe3, xe5⟩ := trunc_words 40 a
  obtain ⟨ye0, ye1, ye2, ye3, ye5⟩ := trunc_words 40 b
  have gx := rng_trunc 40 8 a ga
  have gy := rng_trunc 40 8 b gb
  have tM := trunc_may a
  have tTR := trunc_true a
  have tSM := trunc_same2 a b
  obtain ⟨tS, tSE⟩ := trunc_text a
  obtain ⟨tL, tLE⟩ := trunc_less a b
  have tU := trunc_get a ps
  rw [hM] at tM; rw [hTR] at tTR; rw [hSM] at tSM; rw [hS] at tS; rw [hSE] at tSE; rw [hL] at tL; rw [hLE] at tLE; rw [hUU] at tU
  rw [hx] at xe0 xe1 xe2 xe3 xe5 gx tM tTR tSM tS tSE tL tLE tU
  rw [hy] at ye0 ye1 ye2 ye3 ye5 gy tSM tL tLE
  have SPG := Lib.hid (fun (G4 : Option Addr) (g4 : Nat) (G5 : Option Addr) (g5 : Nat) (W W2 : World) (base : Nat) (ok ok' : Nat → Prop) (h4 : Kd.R k26 26 W base ok (.slice G4 (getR a ps).1.f4.length g4) (getR a ps).1.f4) (h5 : Kd.R Kd.string 9 W base ok' (.slice G5 (getR a ps).1.f5.length g5) (getR a ps).1.f5) (hb : Below W.heap.size W W2) (hbase : base ≤ W.heap.size) =>
    spoil_get a ps (getR a ps).1.f0 (getR a ps).1.f1 (getR a ps).1.f2 (getR a ps).1.f3 _ _ W W2 base ok ok' h4 h5 hb hbase)
  rw [hUU] at SPG
  have MA := Lib.hid (show ∀ W, Below w.heap.size w W → Calls Tryd.prog 29 #[.agg #[.int .i64 a.f0, .int .i64 a.f1, .int .u64 a.f2, .string a.f3, .slice A4 a.f4.length c4, .slice A5 a.f5.length c5]] W fun e w' => e = .returned (.bool M) ∧ Below W.heap.size W w' from fun W h => by have := RefMay_calls a A4 c4 A5 c5 W (ha.below h); rwa [hM] at this)
  have TA := Lib.hid (show ∀ W, Below w.heap.size w W → Calls Tryd.prog 31 #[.agg #[.int .i64 a.f0, .int .i64 a.f1, .int .u64 a.f2, .string a.f3, .slice A4 a.f4.length c4, .slice A5 a.f5.length c5]] W fun e w' => e = .returned (.bool TR) ∧ Below W.heap.size W w' from fun W h => by have := RefTrue_calls a A4 c4 A5 c5 W (ha.below h) a2.1 a2.2; rwa [hTR] at this)
  have SA := Lib.hid (show ∀ W, Below w.heap.size w W → Calls Tryd.prog 33 #[.agg #[.int .i64 a.f0, .int .i64 a.f1, .int .u64 a.f2, .string a.f3, .slice A4 a.f4.length c4, .slice A5 a.f5.length c5], .agg #[.int .i64 b.f0, .int .i64 b.f1, .int .u64 b.f2, .string b.f3, .slice B4 b.f4.length d4, .slice B5 b.f5.length d5]] W fun e w' => e = .returned (.bool SM) ∧ Below W.heap.size W w' from fun W h => by have := RefSame_calls a b A4 c4 A5 c5 B4 d4 B5 d5 W (ha.below h) (hb.below h) ga gb; rwa [hSM] at this)
  have XTA := Lib.hid (show ∀ W, Below w.heap.size w W → Calls Tryd.prog 20 #[.agg #[.int .i64 a.f0, .int .i64 a.f1, .int .u64 a.f2, .string a.f3, .slice A4 a.f4.length c4, .slice A5 a.f5.length c5]] W fun e w' => e = .returned (.tuple #[.string S, .int .i64 SE]) ∧ Below W.heap.size W w' from fun W h => by have := RefText_calls a A4 c4 A5 c5 W (ha.below h) a2.1 a2.2; rwa [hS, hSE] at this)
  have LA := Lib.hid (show ∀ W, Below w.heap.size w W → Calls Tryd.prog 22 #[.agg #[.int .i64 a.f0, .int .i64 a.f1, .int .u64 a.f2, .string a.f3, .slice A4 a.f4.length c4, .slice A5 a.f5.length c5], .agg #[.int .i64 b.f0, .int .i64 b.f1, .int .u64 b.f2, .string b.f3, .slice B4 b.f4.length d4, .slice B5 b.f5.length d5]] W fun e w' => e = .returned (.tuple #[.bool L, .int .i64 LE]) ∧ Below W.heap.size W w' from fun W h => by have := RefLess_calls a b A4 c4 A5 c5 B4 d4 B5 d5 W (ha.below h) (hb.below h) a2 b2; rw [less_eq, hL, hLE] at this; exact this)
  have GA := Lib.hid (show ∀ W, Below w.heap.size w W → Calls Tryd.prog 24 #[.agg #[.int .i64 a.f0, .int .i64 a.f1, .int .u64 a.f2, .string a.f3, .slice A4 a.f4.length c4, .slice A5 a.f5.length c5], .slice P ps.length cp] W fun e w' => (∃ H4 h4 H5 h5, e = .returned (.tuple #[.agg #[.int .i64 UU.1.f0, .int .i64 UU.1.f1, .int .u64 UU.1.f2, .string UU.1.f3, .slice H4 UU.1.f4.length h4, .slice H5 UU.1.f5.length h5], .int .i64 UU.2]) ∧ Rows4 W UU.1 H4 h4 H5 h5) ∧ Below W.heap.size W w' from fun W h => (RefGet_calls a A4 c4 A5 c5 P cp ps W (ha.below h) (Kd.C_below hp h)).mono fun e w' ⟨H4, h4, H5, h5, he, hr, hb⟩ => ⟨⟨H4, h4, H5, h5, by rw [he, getR_eq, hUU], by rwa [getR_eq, hUU] at hr⟩, hb⟩)
  have CA := Lib.hid (show ∀ W, Below w.heap.size w W → Calls Tryd.prog 17 #[.agg #[.int .i64 a.f0, .int .i64 a.f1, .int .u64 a.f2, .string a.f3, .slice A4 a.f4.length c4, .slice A5 a.f5.length c5], .int .i64 40] W fun e w' => (∃ E4 e4 E5 e5, e = .returned (.agg #[.int .i64 x.f0, .int .i64 x.f1, .int .u64 x.f2, .string x.f3, .slice E4 x.f4.length e4, .slice E5 x.f5.length e5]) ∧ Kd.R k26 26 w' W.heap.size (fun _ => True) (.slice E4 x.f4.length e4) x.f4 ∧ Kd.R Kd.string 9 w' W.heap.size (fun _ => True) (.slice E5 x.f5.length e5) x.f5) ∧ Below W.heap.size W w' from fun W h => (CopyV_calls 40 (by decide) a A4 c4 A5 c5 W (ha.below h) (ra 41).2).mono fun e w' ⟨v4, v5, he, h4, h5, hb⟩ => by rw [hx] at h4; rw [← xe5] at h5; obtain ⟨E4, e4, rfl⟩ := Kd.R_slice h4; obtain ⟨E5, e5, rfl⟩ := Kd.R_slice h5; exact ⟨⟨E4, e4, E5, e5, by rw [he, xe0, xe1, xe2, xe3], Kd.R_mono h4 (fun _ _ => trivial), Kd.R_mono h5 (fun _ _ => trivial)⟩, hb⟩)
  have CB := Lib.hid (show ∀ W, Below w.heap.size w W → Calls Tryd.prog 17 #[.agg #[.int .i64 b.f0, .int .i64 b.f1, .int .u64 b.f2, .string b.f3, .slice B4 b.f4.length d4, .slice B5 b.f5.length d5], .int .i64 40] W fun e w' => (∃ E4 e4 E5 e5, e = .returned (.agg #[.int .i64 y.f0, .int .i64 y.f1, .int .u64 y.f2, .string y.f3, .slice E4 y.f4.length e4, .slice E5 y.f5.length e5]) ∧ Kd.R k26 26 w' W.heap.size (fun _ => True) (.slice E4 y.f4.length e4) y.f4 ∧ Kd.R Kd.string 9 w' W.heap.size (fun _ => True) (.slice E5 y.f5.length e5) y.f5) ∧ Below W.heap.size W w' from fun W h => (CopyV_calls 40 (by decide) b B4 d4 B5 d5 W (hb.below h) (rb 41).2).mono fun e w' ⟨v4, v5, he, h4, h5, hb⟩ => by rw [hy] at h4; rw [← ye5] at h5; obtain ⟨E4, e4, rfl⟩ := Kd.R_slice h4; obtain ⟨E5, e5, rfl⟩ := Kd.R_slice h5; exact ⟨⟨E4, e4, E5, e5, by rw [he, ye0, ye1, ye2, ye3], Kd.R_mono h4 (fun _ _ => trivial), Kd.R_mono h5 (fun _ _ => trivial)⟩, hb⟩)
  have CT := Lib.hid (show ∀ W, Below w.heap.size w W → Calls Tryd.prog 18 #[.slice P ps.length cp] W fun e w' => (∃ Q cq, e = .returned (.slice Q ps.length cq) ∧ Kd.R Kd.string 9 w' W.heap.size (fun _ => True) (.slice Q ps.length cq) ps) ∧ Below W.heap.size W w' from fun W h => (CopyT_calls P cp ps W (Kd.C_below hp h) hcp hps).mono fun e w' ⟨v, he, hr, hb⟩ => by obtain ⟨Q, cq, rfl⟩ := Kd.R_slice hr; exact ⟨⟨Q, cq, he, hr⟩, hb⟩)
  have AW := Lib.hid (show ∀ W, Below w.heap.size w W → Calls Tryd.prog 35 #[] W fun e w' => e = .returned (.bool true) ∧ Below W.heap.size W w' from fun W h => awake_calls W (hT.below h))
  obtain ⟨U, UE⟩ := UU
  dsimp only at GA SPG tU
  have x2 : 0 ≤ x.f2 ∧ x.f2 < 2 ^ 64 := by rw [xe2]; exact a2
  have dx : deepD 41 x := by rw [← hx]; exact trunc_deep 40 a
  have XTX := Lib.hid (show ∀ (E4 : Option Addr) (e4 : Nat) (E5 : Option Addr) (e5 : Nat) (W : World), Below w.heap.size w W → Rows4 W x E4 e4 E5 e5 → Calls Tryd.prog 19 #[.agg #[.int .i64 x.f0, .int .i64 x.f1, .int .u64 x.f2, .string x.f3, .slice E4 x.f4.length e4, .slice E5 x.f5.length e5]] W fun e w' => e = .returned (.tuple #[.string S, .int .i64 SE]) ∧ Below W.heap.size W w' from fun E4 e4 E5 e5 W h hr => by have := Text_calls x E4 e4 E5 e5 W (hT.below h) hr x2.1 x2.2; rwa [tS, tSE] at this)
  have LX := Lib.hid (show ∀ (E4 : Option Addr) (e4 : Nat) (E5 : Option Addr) (e5 : Nat) (F4 : Option Addr) (f4 : Nat) (F5 : Option Addr) (f5 : Nat) (W : World), Below w.heap.size w W → Rows4 W x E4 e4 E5 e5 → Rows4 W y F4 f4 F5 f5 → Calls Tryd.prog 21 #[.agg #[.int .i64 x.f0, .int .i64 x.f1, .int .u64 x.f2, .string x.f3, .slice E4 x.f4.length e4, .slice E5 x.f5.length e5], .agg #[.int .i64 y.f0, .int .i64 y.f1, .int .u64 y.f2, .string y.f3, .slice F4 y.f4.length f4, .slice F5 y.f5.length f5]] W fun e w' => e = .returned (.tuple #[.bool L, .int .i64 LE]) ∧ Below W.heap.size W w' from fun E4 e4 E5 e5 F4 f4 F5 f5 W h hr hr' => by have := Less_calls x y E4 e4 E5 e5 F4 f4 F5 f5 W hr hr'; rwa [tL, tLE] at this)
  have GX := Lib.hid (show ∀ (E4 : Option Addr) (e4 : Nat) (E5 : Option Addr) (e5 : Nat) (Q : Option Addr) (cq : Nat) (W : World), Below w.heap.size w W → Rows4 W x E4 e4 E5 e5 → (Kd.C Kd.string W Q ps.length ps ∧ ps.length ≤ cq) → Calls Tryd.prog 23 #[.agg #[.int .i64 x.f0, .int .i64 x.f1, .int .u64 x.f2, .string x.f3, .slice E4 x.f4.length e4, .slice E5 x.f5.length e5], .slice Q ps.length cq] W fun e w' => (∃ G4 g4 G5 g5, e = .returned (.tuple #[.agg #[.int .i64 U.f0, .int .i64 U.f1, .int .u64 U.f2, .string U.f3, .slice G4 U.f4.length g4, .slice G5 U.f5.length g5], .int .i64 UE]) ∧ Kd.R k26 26 w' W.heap.size (fun _ => True) (.slice G4 U.f4.length g4) U.f4 ∧ Kd.R Kd.string 9 w' W.heap.size (fun _ => True) (.slice G5 U.f5.length g5) U.f5) ∧ Below W.heap.size W w' from fun E4 e4 E5 e5 Q cq W h hr hq => (Get_calls x E4 e4 E5 e5 Q cq ps W hr hq.1).mono fun e w' ⟨v4, v5, he, h4, h5, hb⟩ => by rw [tU] at he h4 h5; obtain ⟨G4, g4, rfl⟩ := Kd.R_slice h4; obtain ⟨G5, g5, rfl⟩ := Kd.R_slice h5; exact ⟨⟨G4, g4, G5, g5, he, Kd.R_mono h4 (fun _ _ => trivial), Kd.R_mono h5 (fun _ _ => trivial)⟩, hb⟩)
  have MX := Lib.hid (show ∀ (E4 : Option Addr) (e4 : Nat) (E5 : Option Addr) (e5 : Nat) (W : World), Below w.heap.size w W → Rows4 W x E4 e4 E5 e5 → Calls Tryd.prog 28 #[.agg #[.int .i64 x.f0, .int .i64 x.f1, .int .u64 x.f2, .string x.f3, .slice E4 x.f4.length e4, .slice E5 x.f5.length e5]] W fun e w' => e = .returned (.bool M) ∧ Below W.heap.size W w' from fun E4 e4 E5 e5 W h hr => by have := May_calls x E4 e4 E5 e5 W hr; rwa [tM] at this)
  have TX := Lib.hid (show ∀ (E4 : Option Addr) (e4 : Nat) (E5 : Option Addr) (e5 : Nat) (W : World), Below w.heap.size w W → Rows4 W x E4 e4 E5 e5 → Calls Tryd.prog 30 #[.agg #[.int .i64 x.f0, .int .i64 x.f1, .int .u64 x.f2, .string x.f3, .slice E4 x.f4.length e4, .slice E5 x.f5.length e5]] W fun e w' => e = .returned (.bool TR) ∧ Below W.heap.size W w' from fun E4 e4 E5 e5 W h hr => by have := True_calls x E4 e4 E5 e5 W hr x2.1 x2.2; rwa [tTR] at this)
  have SX := Lib.hid (show ∀ (E4 : Option Addr) (e4 : Nat) (E5 : Option Addr) (e5 : Nat) (F4 : Option Addr) (f4 : Nat) (F5 : Option Addr) (f5 : Nat) (W : World), Below w.heap.size w W → Rows4 W x E4 e4 E5 e5 → Rows4 W y F4 f4 F5 f5 → Calls Tryd.prog 32 #[.agg #[.int .i64 x.f0, .int .i64 x.f1, .int .u64 x.f2, .string x.f3, .slice E4 x.f4.length e4, .slice E5 x.f5.length e5], .agg #[.int .i64 y.f0, .int .i64 y.f1, .int .u64 y.f2, .string y.f3, .slice F4 y.f4.length f4, .slice F5 y.f5.length f5]] W fun e w' => e = .returned (.bool SM) ∧ Below W.heap.size W w' from fun E4 e4 E5 e5 F4 f4 F5 f5 W h hr hr' => by have := Same_calls x y E4 e4 E5 e5 F4 f4 F5 f5 W hr hr' gx gy; rwa [tSM] at this)
  have VX := Lib.hid (show ∀ (E4 : Option Addr) (e4 : Nat) (E5 : Option Addr) (e5 : Nat) (Z4 : Option Addr) (z4 : Nat) (Z5 : Option Addr) (z5 : Nat) (W : World), Below w.heap.size w W → Rows4 W x E4 e4 E5 e5 → Rows4 W x Z4 z4 Z5 z5 → Calls Tryd.prog 26 #[.agg #[.int .i64 x.f0, .int .i64 x.f1, .int .u64 x.f2, .string x.f3, .slice E4 x.f4.length e4, .slice E5 x.f5.length e5], .agg #[.int .i64 x.f0, .int .i64 x.f1, .int .u64 x.f2, .string x.f3, .slice Z4 x.f4.length z4, .slice Z5 x.f5.length z5]] W fun e w' => e = .returned (.bool true) ∧ Below W.heap.size W w' from fun E4 e4 E5 e5 Z4 z4 Z5 z5 W h hr hr' => by have := sv_all 41 x x E4 e4 E5 e5 Z4 z4 Z5 z5 W dx hr hr'; rwa [sv_refl 41 x dx] at this)
  have QX := Lib.hid (show ∀ (Q : Option Addr) (cq : Nat) (W : World), Below w.heap.size w W → (Kd.C Kd.string W Q ps.length ps ∧ ps.length ≤ cq) → Calls Tryd.prog 34 #[.slice Q ps.length cq, .slice P ps.length cp] W fun e w' => e = .returned (.bool true) ∧ Below W.heap.size W w' from fun Q cq W h hq => (texts_calls Q cq ps P cp ps W hq.1 hq.2 (Kd.C_below hp h) hcp).mono fun e w' ⟨he, hd⟩ => ⟨by rw [he, texts_refl], by obtain ⟨m, rfl⟩ := hd; exact pw_below_drewN (Below.refl _ _) m⟩)
  obtain ⟨DU, hDU⟩ := deep_any U
  have UX := Lib.hid (show ∀ (G4 : Option Addr) (g4 : Nat) (G5 : Option Addr) (g5 : Nat) (H4 : Option Addr) (h4 : Nat) (H5 : Option Addr) (h5 : Nat) (W : World), Rows4 W U G4 g4 G5 g5 → Rows4 W U H4 h4 H5 h5 → Calls Tryd.prog 26 #[.agg #[.int .i64 U.f0, .int .i64 U.f1, .int .u64 U.f2, .string U.f3, .slice G4 U.f4.length g4, .slice G5 U.f5.length g5], .agg #[.int .i64 U.f0, .int .i64 U.f1, .int .u64 U.f2, .string U.f3, .slice H4 U.f4.length h4, .slice H5 U.f5.length h5]] W fun e w' => e = .returned (.bool true) ∧ Below W.heap.size W w' from
    fun G4 g4 G5 g5 H4 h4 H5 h5 W hr hr' => by have := sv_all DU U U G4 g4 G5 g5 H4 h4 H5 h5 W hDU hr hr'; rwa [sv_refl DU U hDU] at this)
  clear ga gb a2 b2 hM hTR hSM hS hSE hL hLE hUU hx hy xe0 xe1 xe2 xe3 xe5 ye0 ye1 ye2 ye3 ye5 gx gy tM tTR tSM tS tSE tL tLE tU x2 dx hDU ra rb ha hb hps hcp hT
  go_enter Tryd.func3, Tryd.ntmps3
  go_upto_region 1 with (first | ((with_reducible refine gate_dst (N := 3) rfl ?_); (try (refine gate_guard (by rfl) ?_; dsimp only)); refine box_event ?hg (N := 3) ?hd (cs := #[.int .i64 a.f0, .int .i64 a.f1, .int .u64 a.f2, .string a.f3, .slice A4 a.f4.length c4, .slice A5 a.f5.length c5]) (t := 26) ?hr ?_; (case hd => rfl); (case hg => rfl); (case hr => first | (go_simp; done) | (go_simp; rfl)); intro ga hg w1 hbox hbn; have HB := Lib.hid hbn; have BXA := Lib.hid hbox; clear hbn hbox hg) | ((with_reducible refine gate_dst (N := 4) rfl ?_); (try (refine gate_guard (by rfl) ?_; dsimp only)); refine box_event ?hg (N := 4) ?hd (cs := #[.int .i64 b.f0, .int .i64 b.f1, .int .u64 b.f2, .string b.f3, .slice B4 b.f4.length d4, .slice B5 b.f5.length d5]) (t := 26) ?hr ?_; (case hd => rfl); (case hg => rfl); (case hr => first | (go_simp; done) | (go_simp; rfl)); intro gb hg w2 hbox hbn; have HB' := Lib.hid (below_step HB.out hbn); have BXA' := Lib.hid (blk_below BXA.out hbn); have BXB := Lib.hid hbox; clear HB BXA; have HB := HB'; have BXA := BXA'; clear HB' BXA'; clear hbn hbox hg))
  go_cut [7, 8, 9] (fun v7 v8 v9 wc => ∃ (g7 g8 : Nat) (E4 : Option Addr) (e4 : Nat) (E5 : Option Addr) (e5 : Nat) (F4 : Option Addr) (f4 : Nat) (F5 : Option Addr) (f5 : Nat) (Q : Option Addr) (cq : Nat), v7 = .pointer (some ⟨g7, 0, none⟩) ∧ v8 = .pointer (some ⟨g8, 0, none⟩) ∧ v9 = .slice Q ps.length cq ∧ Aside0 (Below w.heap.size w wc) ∧ Aside0 (wc.heap[ga]? = some (.cells #[.int .i64 a.f0, .int .i64 a.f1, .int .u64 a.f2, .string a.f3, .slice A4 a.f4.length c4, .slice A5 a.f5.length c5] 26 (0, 0))) ∧ Aside0 (wc.heap[gb]? = some (.cells #[.int .i64 b.f0, .int .i64 b.f1, .int .u64 b.f2, .string b.f3, .slice B4 b.f4.length d4, .slice B5 b.f5.length d5] 26 (0, 0))) ∧ Aside0 (wc.heap[g7]? = some (.cells #[.int .i64 x.f0, .int .i64 x.f1, .int .u64 x.f2, .string x.f3, .slice E4 x.f4.length e4, .slice E5 x.f5.length e5] 26 (0, 0))) ∧ Aside0 (wc.heap[g8]? = some (.cells #[.int .i64 y.f0, .int .i64 y.f1, .int .u64 y.f2, .string y.f3, .slice F4 y.f4.length f4, .slice F5 y.f5.length f5] 26 (0, 0))) ∧ Aside0 (Rows4 wc x E4 e4 E5 e5) ∧ Aside0 (Rows4 wc y F4 f4 F5 f5) ∧ Aside0 (Kd.C Kd.string wc Q ps.length ps ∧ ps.length ≤ cq))
  case first =>
    have hbn := below_drew (Below.refl w2.heap.size w2)
    have HB' := Lib.hid (below_step HB.out hbn); have BXA' := Lib.hid (blk_below BXA.out hbn); have BXB' := Lib.hid (blk_below BXB.out hbn); clear HB; have HB := HB'; clear HB'; clear BXA; have BXA := BXA'; clear BXA'; clear BXB; have BXB := BXB'; clear BXB'
    clear hbn
    (try clear a0 a1 a2 a3 a4 a5 b0 b1 b2 b3 b4 b5)
    generalize hWD : w2.drew = wd at *
    have KEEP := Lib.hid (show ∀ w', Below wd.heap.size wd w' → (fun w' => Below wd.heap.size wd w' ∧ w'.cell? ⟨ga, 0, none⟩ = some (.int .i64 a.f0) ∧ w'.cell? ⟨ga, 1, none⟩ = some (.int .i64 a.f1) ∧ w'.cell? ⟨ga, 2, none⟩ = some (.int .u64 a.f2) ∧ w'.cell? ⟨ga, 3, none⟩ = some (.string a.f3) ∧ w'.cell? ⟨ga, 4, none⟩ = some (.slice A4 a.f4.length c4) ∧ w'.cell? ⟨ga, 5, none⟩ = some (.slice A5 a.f5.length c5) ∧ w'.cell? ⟨gb, 0, none⟩ = some (.int .i64 b.f0) ∧ w'.cell? ⟨gb, 1, none⟩ = some (.int .i64 b.f1) ∧ w'.cell? ⟨gb, 2, none⟩ = some (.int .u64 b.f2) ∧ w'.cell? ⟨gb, 3, none⟩ = some (.string b.f3) ∧ w'.cell? ⟨gb, 4, none⟩ = some (.slice B4 b.f4.length d4) ∧ w'.cell? ⟨gb, 5, none⟩ = some (.slice B5 b.f5.length d5)) w' from fun w' h => ⟨h, (At.of_box (blk_below BXA.out h)).g0, (At.of_box (blk_below BXA.out h)).g1, (At.of_box (blk_below BXA.out h)).g2, (At.of_box (blk_below BXA.out h)).g3, (At.of_box (blk_below BXA.out h)).g4, (At.of_box (blk_below BXA.out h)).g5, (At.of_box (blk_below BXB.out h)).g0, (At.of_box (blk_below BXB.out h)).g1, (At.of_box (blk_below BXB.out h)).g2, (At.of_box (blk_below BXB.out h)).g3, (At.of_box (blk_below BXB.out h)).g4, (At.of_box (blk_below BXB.out h)).g5⟩)
    refine wp_region_held_drew (S := (fun w' => Below wd.heap.size wd w' ∧ w'.cell? ⟨ga, 0, none⟩ = some (.int .i64 a.f0) ∧ w'.cell? ⟨ga, 1, none⟩ = some (.int .i64 a.f1) ∧ w'.cell? ⟨ga, 2, none⟩ = some (.int .u64 a.f2) ∧ w'.cell? ⟨ga, 3, none⟩ = some (.string a.f3) ∧ w'.cell? ⟨ga, 4, none⟩ = some (.slice A4 a.f4.length c4) ∧ w'.cell? ⟨ga, 5, none⟩ = some (.slice A5 a.f5.length c5) ∧ w'.cell? ⟨gb, 0, none⟩ = some (.int .i64 b.f0) ∧ w'.cell? ⟨gb, 1, none⟩ = some (.int .i64 b.f1) ∧ w'.cell? ⟨gb, 2, none⟩ = some (.int .u64 b.f2) ∧ w'.cell? ⟨gb, 3, none⟩ = some (.string b.f3) ∧ w'.cell? ⟨gb, 4, none⟩ = some (.slice B4 b.f4.length d4) ∧ w'.cell? ⟨gb, 5, none⟩ = some (.slice B5 b.f5.length d5))) (by kernel_rfl) ?_ (fun hHeld => ?_)
    · rw [hWD]; exact KEEP.out _ (Below.refl _ _)
    rw [hWD] at hHeld ⊢
    clear hWD
    have HN := Lib.hid (Below.refl wd.heap.size wd)
    refine wpAnyH_take (i := 0) (oi := ⟨some 22, _, _, _, _, _⟩) (v := ?_) rfl (by as_aux_lemma => kernel_rfl) (by as_aux_lemma => kernel_rfl) (by as_aux_lemma => kernel_rfl) (fun _ _ _ h => h) ?_ (by assumption) ?_; rotate_left; (focus (refine Or.inl ⟨rfl, ?_⟩; intro w hSw; (try dsimp only at hSw); go_simp; (try with_reducible rfl); done)); (try simp only [Act.put, List.setIfInBounds_toArray, List.set_cons_zero, List.set_cons_succ])
    refine wpAnyH_take (i := 2) (oi := ⟨some 24, _, _, _, _, _⟩) (v := ?_) rfl (by as_aux_lemma => kernel_rfl) (by as_aux_lemma => kernel_rfl) (by as_aux_lemma => kernel_rfl) (fun _ _ _ h => h) ?_ (by assumption) ?_; rotate_left; (focus (refine Or.inl ⟨rfl, ?_⟩; intro w hSw; (try dsimp only at hSw); go_simp; (try with_reducible rfl); done)); (try simp only [Act.put, List.setIfInBounds_toArray, List.set_cons_zero, List.set_cons_succ])
    refine wpAnyH_take (i := 4) (oi := ⟨some 26, _, _, _, _, _⟩) (v := ?_) rfl (by as_aux_lemma => kernel_rfl) (by as_aux_lemma => kernel_rfl) (by as_aux_lemma => kernel_rfl) (fun _ _ _ h => h) ?_ (by assumption) ?_; rotate_left; (focus (refine Or.inl ⟨rfl, ?_⟩; intro w hSw; (try dsimp only at hSw); go_simp; (try with_reducible rfl); done)); (try simp only [Act.put, List.setIfInBounds_toArray, List.set_cons_zero, List.set_cons_succ])
    refine wpAnyH_ready (rs := [1, 6, 7]) (by kernel_rfl) (by simp) ?_
    refine AllReadyH.cons (o := ⟨some 23, _, _, _, _, _⟩) rfl (fun K hK => ?_) (AllReadyH.cons (o := ⟨some 7, _, _, _, _, _⟩) rfl (fun K hK => ?_) (AllReadyH.cons (o := ⟨some 8, _, _, _, _, _⟩) rfl (fun K hK => ?_) AllReadyH.nil))
    · go_simp
      go_at_call 17
      (with_reducible refine (CA.out _ (below_step HB.out HN.out)).mono ?_)
      rintro e k1 ⟨⟨E4, e4, E5, e5, rfl, hk4, hk5⟩, hb⟩
      refine hK.out _ _ (KEEP.out _ (below_step HN.out hb)) (fun hHeld2 => ?_)
      have HN' := Lib.hid (below_step HN.out hb); clear HN; have HN := HN'; clear HN'
      have R1 := Lib.hid (RW.mk hk4 hk5)
      clear hb hk4 hk5; clear hK K hHeld; have hHeld := hHeld2; clear hHeld2; (try simp only [Act.put, List.setIfInBounds_toArray, List.set_cons_zero, List.set_cons_succ])
      refine wpAnyH_ready (rs := [3, 6, 7]) (by kernel_rfl) (by simp) ?_
      refine AllReadyH.cons (o := ⟨some 25, _, _, _, _, _⟩) rfl (fun K hK => ?_) (AllReadyH.cons (o := ⟨some 7, _, _, _, _, _⟩) rfl (fun K hK => ?_) (AllReadyH.cons (o := ⟨some 8, _, _, _, _, _⟩) rfl (fun K hK => ?_) AllReadyH.nil))
      · go_simp
        go_at_call 17
        (with_reducible refine (CB.out _ (below_step HB.out HN.out)).mono ?_)
        rintro e k2 ⟨⟨F4, f4, F5, f5, rfl, hk4, hk5⟩, hb⟩
        refine hK.out _ _ (KEEP.out _ (below_step HN.out hb)) (fun hHeld2 => ?_)
        have HN' := Lib.hid (below_step HN.out hb); clear HN; have HN := HN'; clear HN'; have R1' := Lib.hid (R1.out.step hb); clear R1; have R1 := R1'; clear R1'
        have R2 := Lib.hid (RW.mk hk4 hk5)
        clear hb hk4 hk5; clear hK K hHeld; have hHeld := hHeld2; clear hHeld2; (try simp only [Act.put, List.setIfInBounds_toArray, List.set_cons_zero, List.set_cons_succ])
        refine wpAnyH_ready (rs := [5, 6, 7]) (by kernel_rfl) (by simp) ?_
        refine AllReadyH.cons (o := ⟨some 27, _, _, _, _, _⟩) rfl (fun K hK => ?_) (AllReadyH.cons (o := ⟨some 7, _, _, _, _, _⟩) rfl (fun K hK => ?_) (AllReadyH.cons (o := ⟨some 8, _, _, _, _, _⟩) rfl (fun K hK => ?_) AllReadyH.nil))
        · go_simp
          go_at_call 18
          (with_reducible refine (CT.out _ (below_step HB.out HN.out)).mono ?_)
          rintro e k3 ⟨⟨Q, cq, rfl, hk5⟩, hb⟩
          refine hK.out _ _ (KEEP.out _ (below_step HN.out hb)) (fun hHeld2 => ?_)
          have HN' := Lib.hid (below_step HN.out hb); clear HN; have HN := HN'; clear HN'; have R1' := Lib.hid (R1.out.step hb); clear R1; have R1 := R1'; clear R1'; have R2' := Lib.hid (R2.out.step hb); clear R2; have R2 := R2'; clear R2'
          have R3 := Lib.hid (RT.mk hk5)
          clear hb hk5; clear hK K hHeld; have hHeld := hHeld2; clear hHeld2; (try simp only [Act.put, List.setIfInBounds_toArray, List.set_cons_zero, List.set_cons_succ])
          refine wpAnyH_ready (rs := [6, 7]) (by kernel_rfl) (by simp) ?_
          refine AllReadyH.cons (o := ⟨some 7, _, _, _, _, _⟩) rfl (fun K hK => ?_) (AllReadyH.cons (o := ⟨some 8, _, _, _, _, _⟩) rfl (fun K hK => ?_) AllReadyH.nil)
          · go_simp
            have hb := below_alloc (Below.refl k3.heap.size k3) (.cells #[.int .i64 0, .int .i64 0, .int .u64 0, .string ⟨#[]⟩, .slice none 0 0, .slice none 0 0] 26)
            refine hK.out _ _ (KEEP.out _ (below_step HN.out hb)) (fun hHeld2 => ?_)
            have HG7 := Lib.hid (HN.out.size)
            have O16 := Lib.hid (show k3.heap.size < wd.heap.size ∨ k1.heap.size ≤ k3.heap.size from .inr R1.out.top)
            have O36 := Lib.hid (show k3.heap.size < k1.heap.size ∨ k2.heap.size ≤ k3.heap.size from .inr R2.out.top)
            have O56 := Lib.hid (show k3.heap.size < k2.heap.size ∨ k3.heap.size ≤ k3.heap.size from .inr R3.out.top)
            have HN' := Lib.hid (below_step HN.out hb); clear HN; have HN := HN'; clear HN'; have R1' := Lib.hid (R1.out.step hb); clear R1; have R1 := R1'; clear R1'; have R2' := Lib.hid (R2.out.step hb); clear R2; have R2 := R2'; clear R2'; have R3' := Lib.hid (R3.out.step hb); clear R3; have R3 := R3'; clear R3'
            have BX7 := Lib.hid (blk_new k3 (.cells #[.int .i64 0, .int .i64 0, .int .u64 0, .string ⟨#[]⟩, .slice none 0 0, .slice none 0 0] 26))
            clear hb; clear hK K hHeld; have hHeld := hHeld2; clear hHeld2; (try simp only [Act.put, List.setIfInBounds_toArray, List.set_cons_zero, List.set_cons_succ])
            generalize hgx : k3.alloc (.cells #[.int .i64 0, .int .i64 0, .int .u64 0, .string ⟨#[]⟩, .slice none 0 0, .slice none 0 0] 26) = k4 at *; clear hgx
            refine wpAnyH_ready (rs := [7]) (by kernel_rfl) (by simp) ?_
            refine AllReadyH.cons (o := ⟨some 8, _, _, _, _, _⟩) rfl (fun K hK => ?_) AllReadyH.nil
            go_simp
            have hb := below_alloc (Below.refl k4.heap.size k4) (.cells #[.int .i64 0, .int .i64 0, .int .u64 0, .string ⟨#[]⟩, .slice none 0 0, .slice none 0 0] 26)
            refine hK.out _ _ (KEEP.out _ (below_step HN.out hb)) (fun hHeld2 => ?_)
            have HG8 := Lib.hid (HN.out.size)
            have O17 := Lib.hid (show k4.heap.size < wd.heap.size ∨ k1.heap.size ≤ k4.heap.size from .inr R1.out.top)
            have O37 := Lib.hid (show k4.heap.size < k1.heap.size ∨ k2.heap.size ≤ k4.heap.size from .inr R2.out.top)
            have O57 := Lib.hid (show k4.heap.size < k2.heap.size ∨ k3.heap.size ≤ k4.heap.size from .inr R3.out.top)
            have NB := Lib.hid (Nat.ne_of_lt (blk_lt BX7.out))
            have HN' := Lib.hid (below_step HN.out hb); clear HN; have HN := HN'; clear HN'; have R1' := Lib.hid (R1.out.step hb); clear R1; have R1 := R1'; clear R1'; have R2' := Lib.hid (R2.out.step hb); clear R2; have R2 := R2'; clear R2'; have R3' := Lib.hid (R3.out.step hb); clear R3; have R3 := R3'; clear R3'; have BX7' := Lib.hid (blk_below BX7.out hb); clear BX7; have BX7 := BX7'; clear BX7'
            have BX8 := Lib.hid (blk_new k4 (.cells #[.int .i64 0, .int .i64 0, .int .u64 0, .string ⟨#[]⟩, .slice none 0 0, .slice none 0 0] 26))
            clear hb; clear hK K hHeld; have hHeld := hHeld2; clear hHeld2; (try simp only [Act.put, List.setIfInBounds_toArray, List.set_cons_zero, List.set_cons_succ])
            generalize hgx : k4.alloc (.cells #[.int .i64 0, .int .i64 0, .int .u64 0, .string ⟨#[]⟩, .slice none 0 0, .slice none 0 0] 26) = k5 at *; clear hgx
            refine wpAnyH_ready (rs := [8]) (by kernel_rfl) (by simp) ?_
            refine AllReadyH.cons (o := ⟨none, _, _, _, _, _⟩) rfl (fun K hK => ?_) AllReadyH.nil
            have nz0 := (blk_cell BX7.out 0).trans rfl; have fz0 := blk_frozen BX7.out 0; have nz1 := (blk_cell BX7.out 1).trans rfl; have fz1 := blk_frozen BX7.out 1; have nz2 := (blk_cell BX7.out 2).trans rfl; have fz2 := blk_frozen BX7.out 2; have nz3 := (blk_cell BX7.out 3).trans rfl; have fz3 := blk_frozen BX7.out 3; have nz4 := (blk_cell BX7.out 4).trans rfl; have fz4 := blk_frozen BX7.out 4; have nz5 := (blk_cell BX7.out 5).trans rfl; have fz5 := blk_frozen BX7.out 5
            go_simp
            have HF := Lib.hid (six_belowV HN.out HG7.out (.int .i64 x.f0) (.int .i64 x.f1) (.int .u64 x.f2) (.string x.f3) (.slice E4 x.f4.length e4) (.slice E5 x.f5.length e5))
            refine hK.out _ _ (KEEP.out _ HF.out) (fun hHeld2 => ?_)
            clear nz0 nz1 nz2 nz3 nz4 nz5 fz0 fz1 fz2 fz3 fz4 fz5 HN; have HN := HF; clear HF
            have BM := Lib.hid (six_putV BX7.out (.int .i64 x.f0) (.int .i64 x.f1) (.int .u64 x.f2) (.string x.f3) (.slice E4 x.f4.length e4) (.slice E5 x.f5.length e5)); have BO := Lib.hid ((six_farV (Ne.symm NB.out) (.int .i64 x.f0) (.int .i64 x.f1) (.int .u64 x.f2) (.string x.f3) (.slice E4 x.f4.length e4) (.slice E5 x.f5.length e5)).trans BX8.out); clear BX7 BX8; have BX7 := BM; have BX8 := BO; clear BM BO
            have R1' := Lib.hid (R1.out.put O16.out (.int .i64 x.f0) (.int .i64 x.f1) (.int .u64 x.f2) (.string x.f3) (.slice E4 x.f4.length e4) (.slice E5 x.f5.length e5)); clear R1; have R1 := R1'; clear R1'; have R2' := Lib.hid (R2.out.put O36.out (.int .i64 x.f0) (.int .i64 x.f1) (.int .u64 x.f2) (.string x.f3) (.slice E4 x.f4.length e4) (.slice E5 x.f5.length e5)); clear R2; have R2 := R2'; clear R2'; have R3' := Lib.hid (R3.out.put O56.out (.int .i64 x.f0) (.int .i64 x.f1) (.int .u64 x.f2) (.string x.f3) (.slice E4 x.f4.length e4) (.slice E5 x.f5.length e5)); clear R3; have R3 := R3'; clear R3'
            clear hK K hHeld; have hHeld := hHeld2; clear hHeld2; (try simp only [Act.put, List.setIfInBounds_toArray, List.set_cons_zero, List.set_cons_succ])
            generalize hgx : ((((((k5.setCell ⟨k3.heap.size, 0, none⟩ (.int .i64 x.f0)).setCell ⟨k3.heap.size, 1, none⟩ (.int .i64 x.f1)).setCell ⟨k3.heap.size, 2, none⟩ (.int .u64 x.f2)).setCell ⟨k3.heap.size, 3, none⟩ (.string x.f3)).setCell ⟨k3.heap.size, 4, none⟩ (.slice E4 x.f4.length e4)).setCell ⟨k3.heap.size, 5, none⟩ (.slice E5 x.f5.length e5)) = k6 at *; clear hgx
            refine wpAnyH_ready (rs := [9]) (by kernel_rfl) (by simp) ?_
            refine AllReadyH.cons (o := ⟨none, _, _, _, _, _⟩) rfl (fun K hK => ?_) AllReadyH.nil
            have nz0 := (blk_cell BX8.out 0).trans rfl; have fz0 := blk_frozen BX8.out 0; have nz1 := (blk_cell BX8.out 1).trans rfl; have fz1 := blk_frozen BX8.out 1; have nz2 := (blk_cell BX8.out 2).trans rfl; have fz2 := blk_frozen BX8.out 2; have nz3 := (blk_cell BX8.out 3).trans rfl; have fz3 := blk_frozen BX8.out 3; have nz4 := (blk_cell BX8.out 4).trans rfl; have fz4 := blk_frozen BX8.out 4; have nz5 := (blk_cell BX8.out 5).trans rfl; have fz5 := blk_frozen BX8.out 5
            go_simp
            have HF := Lib.hid (six_belowV HN.out HG8.out (.int .i64 y.f0) (.int .i64 y.f1) (.int .u64 y.f2) (.string y.f3) (.slice F4 y.f4.length f4) (.slice F5 y.f5.length f5))
            refine hK.out _ _ (KEEP.out _ HF.out) (fun hHeld2 => ?_)
            clear nz0 nz1 nz2 nz3 nz4 nz5 fz0 fz1 fz2 fz3 fz4 fz5 HN; have HN := HF; clear HF
            have BM := Lib.hid (six_putV BX8.out (.int .i64 y.f0) (.int .i64 y.f1) (.int .u64 y.f2) (.string y.f3) (.slice F4 y.f4.length f4) (.slice F5 y.f5.length f5)); have BO := Lib.hid ((six_farV NB.out (.int .i64 y.f0) (.int .i64 y.f1) (.int .u64 y.f2) (.string y.f3) (.slice F4 y.f4.length f4) (.slice F5 y.f5.length f5)).trans BX7.out); clear BX7 BX8; have BX8 := BM; have BX7 := BO; clear BM BO
            have R1' := Lib.hid (R1.out.put O17.out (.int .i64 y.f0) (.int .i64 y.f1) (.int .u64 y.f2) (.string y.f3) (.slice F4 y.f4.length f4) (.slice F5 y.f5.length f5)); clear R1; have R1 := R1'; clear R1'; have R2' := Lib.hid (R2.out.put O37.out (.int .i64 y.f0) (.int .i64 y.f1) (.int .u64 y.f2) (.string y.f3) (.slice F4 y.f4.length f4) (.slice F5 y.f5.length f5)); clear R2; have R2 := R2'; clear R2'; have R3' := Lib.hid (R3.out.put O57.out (.int .i64 y.f0) (.int .i64 y.f1) (.int .u64 y.f2) (.string y.f3) (.slice F4 y.f4.length f4) (.slice F5 y.f5.length f5)); clear R3; have R3 := R3'; clear R3'
            clear hK K hHeld; have hHeld := hHeld2; clear hHeld2; (try simp only [Act.put, List.setIfInBounds_toArray, List.set_cons_zero, List.set_cons_succ])
            generalize hgx : ((((((k6.setCell ⟨k4.heap.size, 0, none⟩ (.int .i64 y.f0)).setCell ⟨k4.heap.size, 1, none⟩ (.int .i64 y.f1)).setCell ⟨k4.heap.size, 2, none⟩ (.int .u64 y.f2)).setCell ⟨k4.heap.size, 3, none⟩ (.string y.f3)).setCell ⟨k4.heap.size, 4, none⟩ (.slice F4 y.f4.length f4)).setCell ⟨k4.heap.size, 5, none⟩ (.slice F5 y.f5.length f5)) = k7 at *; clear hgx
            refine wpAnyH_take (i := 10) (oi := ⟨some 9, _, _, _, _, _⟩) (v := ?_) rfl (by as_aux_lemma => kernel_rfl) (by as_aux_lemma => kernel_rfl) (by as_aux_lemma => kernel_rfl) (fun _ _ _ h => h) ?_ (by assumption) ?_; rotate_left; (focus (refine Or.inl ⟨rfl, ?_⟩; intro w hSw; (try dsimp only at hSw); go_simp; (try with_reducible rfl); done)); (try simp only [Act.put, List.setIfInBounds_toArray, List.set_cons_zero, List.set_cons_succ])
            refine wpAnyH_done (by kernel_rfl) ?_ _
            go_wp2
            go_meet
            case rel =>
              exact ⟨_, _, E4, e4, E5, e5, F4, f4, F5, f5, Q, cq, rfl, rfl, rfl, ⟨below_step HB.out HN.out⟩, ⟨blk_below BXA.out HN.out⟩, ⟨blk_below BXB.out HN.out⟩, ⟨BX7.out⟩, ⟨BX8.out⟩, ⟨R1.out.rows⟩, ⟨R2.out.rows⟩, ⟨R3.out.rows⟩⟩
          · go_simp
            have hb := below_alloc (Below.refl k3.heap.size k3) (.cells #[.int .i64 0, .int .i64 0, .int .u64 0, .string ⟨#[]⟩, .slice none 0 0, .slice none 0 0] 26)
            refine hK.out _ _ (KEEP.out _ (below_step HN.out hb)) (fun hHeld2 => ?_)
            have HG8 := Lib.hid (HN.out.size)
            have O17 := Lib.hid (show k3.heap.size < wd.heap.size ∨ k1.heap.size ≤ k3.heap.size from .inr R1.out.top)
            have O37 := Lib.hid (show k3.heap.size < k1.heap.size ∨ k2.heap.size ≤ k3.heap.size from .inr R2.out.top)
            have O57 := Lib.hid (show k3.heap.size < k2.heap.size ∨ k3.heap.size ≤ k3.heap.size from .inr R3.out.top)
            have HN' := Lib.hid (below_step HN.out hb); clear HN; have HN := HN'; clear HN'; have R1' := Lib.hid (R1.out.step hb); clear R1; have R1 := R1'; clear R1'; have R2' := Lib.hid (R2.out.step hb); clear R2; have R2 := R2'; clear R2'; have R3' := Lib.hid (R3.out.step hb); clear R3; have R3 := R3'; clear R3'
            have BX8 := Lib.hid (blk_new k3 (.cells #[.int .i64 0, .int .i64 0, .int .u64 0, .string ⟨#[]⟩, .slice none 0 0, .slice none 0 0] 26))
            clear hb; clear hK K hHeld; have hHeld := hHeld2; clear hHeld2; (try simp only [Act.put, List.setIfInBounds_toArray, List.set_cons_zero, List.set_cons_succ])
            generalize hgx : k3.alloc (.cells #[.int .i64 0, .int .i64 0, .int .u64 0, .string ⟨#[]⟩, .slice none 0 0, .slice none 0 0] 26) = k4 at *; clear hgx
            refine wpAnyH_ready (rs := [6]) (by kernel_rfl) (by simp) ?_
            refine AllReadyH.cons (o := ⟨some 7, _, _, _, _, _⟩) rfl (fun K hK => ?_) AllReadyH.nil
            go_simp
            have hb := below_alloc (Below.refl k4.heap.size k4) (.cells #[.int .i64 0, .int .i64 0, .int .u64 0, .string ⟨#[]⟩, .slice none 0 0, .slice none 0 0] 26)
            refine hK.out _ _ (KEEP.out _ (below_step HN.out hb)) (fun hHeld2 => ?_)
            have HG7 := Lib.hid (HN.out.size)
            have O16 := Lib.hid (show k4.heap.size < wd.heap.size ∨ k1.heap.size ≤ k4.heap.size from .inr R1.out.top)
            have O36 := Lib.hid (show k4.heap.size < k1.heap.size ∨ k2.heap.size ≤ k4.heap.size from .inr R2.out.top)
            have O56 := Lib.hid (show k4.heap.size < k2.heap.size ∨ k3.heap.size ≤ k4.heap.size from .inr R3.out.top)
            have NB := Lib.hid (Nat.ne_of_lt (blk_lt BX8.out))
            have HN' := Lib.hid (below_step HN.out hb); clear HN; have HN := HN'; clear HN'; have R1' := Lib.hid (R1.out.step hb); clear R1; have R1 := R1'; clear R1'; have R2' := Lib.hid (R2.out.step hb); clear R2; have R2 := R2'; clear R2'; have R3' := Lib.hid (R3.out.step hb); clear R3; have R3 := R3'; clear R3'; have BX8' := Lib.hid (blk_below BX8.out hb); clear BX8; have BX8 := BX8'; clear BX8'
            have BX7 := Lib.hid (blk_new k4 (.cells #[.int .i64 0, .int .i64 0, .int .u64 0, .string ⟨#[]⟩, .slice none 0 0, .slice none 0 0] 26))
            clear hb; clear hK K hHeld; have hHeld := hHeld2; clear hHeld2; (try simp only [Act.put, List.setIfInBounds_toArray, List.set_cons_zero, List.set_cons_succ])
            generalize hgx : k4.alloc (.cells #[.int .i64 0, .int .i64 0, .int .u64 0, .string ⟨#[]⟩, .slice none 0 0, .slice none 0 0] 26) = k5 at *; clear hgx
            refine wpAnyH_ready (rs := [8]) (by kernel_rfl) (by simp) ?_
            refine AllReadyH.cons (o := ⟨none, _, _, _, _, _⟩) rfl (fun K hK => ?_) AllReadyH.nil
            have nz0 := (blk_cell BX7.out 0).trans rfl; have fz0 := blk_frozen BX7.out 0; have nz1 := (blk_cell BX7.out 1).trans rfl; have fz1 := blk_frozen BX7.out 1; have nz2 := (blk_cell BX7.out 2).trans rfl; have fz2 := blk_frozen BX7.out 2; have nz3 := (blk_cell BX7.out 3).trans rfl; have fz3 := blk_frozen BX7.out 3; have nz4 := (blk_cell BX7.out 4).trans rfl; have fz4 := blk_frozen BX7.out 4; have nz5 := (blk_cell BX7.out 5).trans rfl; have fz5 := blk_frozen BX7.out 5
            go_simp
            have HF := Lib.hid (six_belowV HN.out HG7.out (.int .i64 x.f0) (.int .i64 x.f1) (.int .u64 x.f2) (.string x.f3) (.slice E4 x.f4.length e4) (.slice E5 x.f5.length e5))
            refine hK.out _ _ (KEEP.out _ HF.out) (fun hHeld2 => ?_)
            clear nz0 nz1 nz2 nz3 nz4 nz5 fz0 fz1 fz2 fz3 fz4 fz5 HN; have HN := HF; clear HF
            have BM := Lib.hid (six_putV BX7.out (.int .i64 x.f0) (.int .i64 x.f1) (.int .u64 x.f2) (.string x.f3) (.slice E4 x.f4.length e4) (.slice E5 x.f5.length e5)); have BO := Lib.hid ((six_farV NB.out (.int .i64 x.f0) (.int .i64 x.f1) (.int .u64 x.f2) (.string x.f3) (.slice E4 x.f4.length e4) (.slice E5 x.f5.length e5)).trans BX8.out); clear BX7 BX8; have BX7 := BM; have BX8 := BO; clear BM BO
            have R1' := Lib.hid (R1.out.put O16.out (.int .i64 x.f0) (.int .i64 x.f1) (.int .u64 x.f2) (.string x.f3) (.slice E4 x.f4.length e4) (.slice E5 x.f5.length e5)); clear R1; have R1 := R1'; clear R1'; have R2' := Lib.hid (R2.out.put O36.out (.int .i64 x.f0) (.int .i64 x.f1) (.int .u64 x.f2) (.string x.f3) (.slice E4 x.f4.length e4) (.slice E5 x.f5.length e5)); clear R2; have R2 := R2'; clear R2'; have R3' := Lib.hid (R3.out.put O56.out (.int .i64 x.f0) (.int .i64 x.f1) (.int .u64 x.f2) (.string x.f3) (.slice E4 x.f4.length e4) (.slice E5 x.f5.length e5)); clear R3; have R3 := R3'; clear R3'
            clear hK K hHeld; have hHeld := hHeld2; clear hHeld2; (try simp only [Act.put, List.setIfInBounds_toArray, List.set_cons_zero, List.set_cons_succ])
            generalize hgx : ((((((k5.setCell ⟨k4.heap.size, 0, none⟩ (.int .i64 x.f0)).setCell ⟨k4.heap.size, 1, none⟩ (.int .i64 x.f1)).setCell ⟨k4.heap.size, 2, none⟩ (.int .u64 x.f2)).setCell ⟨k4.heap.size, 3, none⟩ (.string x.f3)).setCell ⟨k4.heap.size, 4, none⟩ (.slice E4 x.f4.length e4)).setCell ⟨k4.heap.size, 5, none⟩ (.slice E5 x.f5.length e5)) = k6 at *; clear hgx
            refine wpAnyH_ready (rs := [9]) (by kernel_rfl) (by simp) ?_
            refine AllReadyH.cons (o := ⟨none, _, _, _, _, _⟩) rfl (fun K hK => ?_) AllReadyH.nil
            have nz0 := (blk_cell BX8.out 0).trans rfl; have fz0 := blk_frozen BX8.out 0; have nz1 := (blk_cell BX8.out 1).trans rfl; have fz1 := blk_frozen BX8.out 1; have nz2 := (blk_cell BX8.out 2).trans rfl; have fz2 := blk_frozen BX8.out 2; have nz3 := (blk_cell BX8.out 3).trans rfl; have fz3 := blk_frozen BX8.out 3; have nz4 := (blk_cell BX8.out 4).trans rfl; have fz4 := blk_frozen BX8.out 4; have nz5 := (blk_cell BX8.out 5).trans rfl; have fz5 := blk_frozen BX8.out 5
            go_simp
            have HF := Lib.hid (six_belowV HN.out HG8.out (.int .i64 y.f0) (.int .i64 y.f1) (.int .u64 y.f2) (.string y.f3) (.slice F4 y.f4.length f4) (.slice F5 y.f5.length f5))
            refine hK.out _ _ (KEEP.out _ HF.out) (fun hHeld2 => ?_)
            clear nz0 nz1 nz2 nz3 nz4 nz5 fz0 fz1 fz2 fz3 fz4 fz5 HN; have HN := HF; clear HF
            have BM := Lib.hid (six_putV BX8.out (.int .i64 y.f0) (.int .i64 y.f1) (.int .u64 y.f2) (.string y.f3) (.slice F4 y.f4.length f4) (.slice F5 y.f5.length f5)); have BO := Lib.hid ((six_farV (Ne.symm NB.out) (.int .i64 y.f0) (.int .i64 y.f1) (.int .u64 y.f2) (.string y.f3) (.slice F4 y.f4.length f4) (.slice F5 y.f5.length f5)).trans BX7.out); clear BX7 BX8; have BX8 := BM; have BX7 := BO; clear BM BO
            have R1' := Lib.hid (R1.out.put O17.out (.int .i64 y.f0) (.int .i64 y.f1) (.int .u64 y.f2) (.string y.f3) (.slice F4 y.f4.length f4) (.slice F5 y.f5.length f5)); clear R1; have R1 := R1'; clear R1'; have R2' := Lib.hid (R2.out.put O37.out (.int .i64 y.f0) (.int .i64 y.f1) (.int .u64 y.f2) (.string y.f3) (.slice F4 y.f4.length f4) (.slice F5 y.f5.length f5)); clear R2; have R2 := R2'; clear R2'; have R3' := Lib.hid (R3.out.put O57.out (.int .i64 y.f0) (.int .i64 y.f1) (.int .u64 y.f2) (.string y.f3) (.slice F4 y.f4.length f4) (.slice F5 y.f5.length f5)); clear R3; have R3 := R3'; clear R3'
            clear hK K hHeld; have hHeld := hHeld2; clear hHeld2; (try simp only [Act.put, List.setIfInBounds_toArray, List.set_cons_zero, List.set_cons_succ])
            generalize hgx : ((((((k6.setCell ⟨k3.heap.size, 0, none⟩ (.int .i64 y.f0)).setCell ⟨k3.heap.size, 1, none⟩ (.int .i64 y.f1)).setCell ⟨k3.heap.size, 2, none⟩ (.int .u64 y.f2)).setCell ⟨k3.heap.size, 3, none⟩ (.string y.f3)).setCell ⟨k3.heap.size, 4, none⟩ (.slice F4 y.f4.length f4)).setCell ⟨k3.heap.size, 5, none⟩ (.slice F5 y.f5.length f5)) = k7 at *; clear hgx
            refine wpAnyH_take (i := 10) (oi := ⟨some 9, _, _, _, _, _⟩) (v := ?_) rfl (by as_aux_lemma => kernel_rfl) (by as_aux_lemma => kernel_rfl) (by as_aux_lemma => kernel_rfl) (fun _ _ _ h => h) ?_ (by assumption) ?_; rotate_left; (focus (refine Or.inl ⟨rfl, ?_⟩; intro w hSw; (try dsimp only at hSw); go_simp; (try with_reducible rfl); done)); (try simp only [Act.put, List.setIfInBounds_toArray, List.set_cons_zero, List.set_cons_succ])
            refine wpAnyH_done (by kernel_rfl) ?_ _
            go_wp2
            go_meet
            case rel =>
              exact ⟨_, _, E4, e4, E5, e5, F4, f4, F5, f5, Q, cq, rfl, rfl, rfl, ⟨below_step HB.out HN.out⟩, ⟨blk_below BXA.out HN.out⟩, ⟨blk_below BXB.out HN.out⟩, ⟨BX7.out⟩, ⟨BX8.out⟩, ⟨R1.out.rows⟩, ⟨R2.out.rows⟩, ⟨R3.out.rows⟩⟩
        · go_simp
          have hb := below_alloc (Below.refl k2.heap.size k2) (.cells #[.int .i64 0, .int .i64 0, .int .u64 0, .string ⟨#[]⟩, .slice none 0 0, .slice none 0 0] 26)
          refine hK.out _ _ (KEEP.out _ (below_step HN.out hb)) (fun hHeld2 => ?_)
          have HG7 := Lib.hid (HN.out.size)
          have O16 := Lib.hid (show k2.heap.size < wd.heap.size ∨ k1.heap.size ≤ k2.heap.size from .inr R1.out.top)
          have O36 := Lib.hid (show k2.heap.size < k1.heap.size ∨ k2.heap.size ≤ k2.heap.size from .inr R2.out.top)
          have HN' := Lib.hid (below_step HN.out hb); clear HN; have HN := HN'; clear HN'; have R1' := Lib.hid (R1.out.step hb); clear R1; have R1 := R1'; clear R1'; have R2' := Lib.hid (R2.out.step hb); clear R2; have R2 := R2'; clear R2'
          have BX7 := Lib.hid (blk_new k2 (.cells #[.int .i64 0, .int .i64 0, .int .u64 0, .string ⟨#[]⟩, .slice none 0 0, .slice none 0 0] 26))
          clear hb; clear hK K hHeld; have hHeld := hHeld2; clear hHeld2; (try simp only [Act.put, List.setIfInBounds_toArray, List.set_cons_zero, List.set_cons_succ])
          generalize hgx : k2.alloc (.cells #[.int .i64 0, .int .i64 0, .int .u64 0, .string ⟨#[]⟩, .slice none 0 0, .slice none 0 0] 26) = k3 at *; clear hgx
          refine wpAnyH_ready (rs := [5, 7]) (by kernel_rfl) (by simp) ?_
          refine AllReadyH.cons (o := ⟨some 27, _, _, _, _, _⟩) rfl (fun K hK => ?_) (AllReadyH.cons (o := ⟨some 8, _, _, _, _, _⟩) rfl (fun K hK => ?_) AllReadyH.nil)
          · go_simp
            go_at_call 18
            (with_reducible refine (CT.out _ (below_step HB.out HN.out)).mono ?_)
            rintro e k4 ⟨⟨Q, cq, rfl, hk5⟩, hb⟩
            refine hK.out _ _ (KEEP.out _ (below_step HN.out hb)) (fun hHeld2 => ?_)
            have O56 := Lib.hid (show k2.heap.size < k3.heap.size ∨ k4.heap.size ≤ k2.heap.size from .inl (blk_lt BX7.out))
            have HN' := Lib.hid (below_step HN.out hb); clear HN; have HN := HN'; clear HN'; have R1' := Lib.hid (R1.out.step hb); clear R1; have R1 := R1'; clear R1'; have R2' := Lib.hid (R2.out.step hb); clear R2; have R2 := R2'; clear R2'; have BX7' := Lib.hid (blk_below BX7.out hb); clear BX7; have BX7 := BX7'; clear BX7'
            have R3 := Lib.hid (RT.mk hk5)
            clear hb hk5; clear hK K hHeld; have hHeld := hHeld2; clear hHeld2; (try simp only [Act.put, List.setIfInBounds_toArray, List.set_cons_zero, List.set_cons_succ])
            refine wpAnyH_ready (rs := [7]) (by kernel_rfl) (by simp) ?_
            refine AllReadyH.cons (o := ⟨some 8, _, _, _, _, _⟩) rfl (fun K hK => ?_) AllReadyH.nil
            go_simp
            have hb := below_alloc (Below.refl k4.heap.size k4) (.cells #[.int .i64 0, .int .i64 0, .int .u64 0, .string ⟨#[]⟩, .slice none 0 0, .slice none 0 0] 26)
            refine hK.out _ _ (KEEP.out _ (below_step HN.out hb)) (fun hHeld2 => ?_)
            have HG8 := Lib.hid (HN.out.size)
            have O17 := Lib.hid (show k4.heap.size < wd.heap.size ∨ k1.heap.size ≤ k4.heap.size from .inr R1.out.top)
            have O37 := Lib.hid (show k4.heap.size < k1.heap.size ∨ k2.heap.size ≤ k4.heap.size from .inr R2.out.top)
            have O57 := Lib.hid (show k4.heap.size < k3.heap.size ∨ k4.heap.size ≤ k4.heap.size from .inr R3.out.top)
            have NB := Lib.hid (Nat.ne_of_lt (blk_lt BX7.out))
            have HN' := Lib.hid (below_step HN.out hb); clear HN; have HN := HN'; clear HN'; have R1' := Lib.hid (R1.out.step hb); clear R1; have R1 := R1'; clear R1'; have R2' := Lib.hid (R2.out.step hb); clear R2; have R2 := R2'; clear R2'; have R3' := Lib.hid (R3.out.step hb); clear R3; have R3 := R3'; clear R3'; have BX7' := Lib.hid (blk_below BX7.out hb); clear BX7; have BX7 := BX7'; clear BX7'
            have BX8 := Lib.hid (blk_new k4 (.cells #[.int .i64 0, .int .i64 0, .int .u64 0, .string ⟨#[]⟩, .slice none 0 0, .slice none 0 0] 26))
            clear hb; clear hK K hHeld; have hHeld := hHeld2; clear hHeld2; (try simp only [Act.put, List.setIfInBounds_toArray, List.set_cons_zero, List.set_cons_succ])
            generalize hgx : k4.alloc (.cells #[.int .i64 0, .int .i64 0, .int .u64 0, .string ⟨#[]⟩, .slice none 0 0, .slice none 0 0] 26) = k5 at *; clear hgx
            refine wpAnyH_ready (rs := [8]) (by kernel_rfl) (by simp) ?_
            refine AllReadyH.cons (o := ⟨none, _, _, _, _, _⟩) rfl (fun K hK => ?_) AllReadyH.nil
            have nz0 := (blk_cell BX7.out 0).trans rfl; have fz0 := blk_frozen BX7.out 0; have nz1 := (blk_cell BX7.out 1).trans rfl; have fz1 := blk_frozen BX7.out 1; have nz2 := (blk_cell BX7.out 2).trans rfl; have fz2 := blk_frozen BX7.out 2; have nz3 := (blk_cell BX7.out 3).trans rfl; have fz3 := blk_frozen BX7.out 3; have nz4 := (blk_cell BX7.out 4).trans rfl; have fz4 := blk_frozen BX7.out 4; have nz5 := (blk_cell BX7.out 5).trans rfl; have fz5 := blk_frozen BX7.out 5
            go_simp
            have HF := Lib.hid (six_belowV HN.out HG7.out (.int .i64 x.f0) (.int .i64 x.f1) (.int .u64 x.f2) (.string x.f3) (.slice E4 x.f4.length e4) (.slice E5 x.f5.length e5))
            refine hK.out _ _ (KEEP.out _ HF.out) (fun hHeld2 => ?_)
            clear nz0 nz1 nz2 nz3 nz4 nz5 fz0 fz1 fz2 fz3 fz4 fz5 HN; have HN := HF; clear HF
            have BM := Lib.hid (six_putV BX7.out (.int .i64 x.f0) (.int .i64 x.f1) (.int .u64 x.f2) (.string x.f3) (.slice E4 x.f4.length e4) (.slice E5 x.f5.length e5)); have BO := Lib.hid ((six_farV (Ne.symm NB.out) (.int .i64 x.f0) (.int .i64 x.f1) (.int .u64 x.f2) (.string x.f3) (.slice E4 x.f4.length e4) (.slice E5 x.f5.length e5)).trans BX8.out); clear BX7 BX8; have BX7 := BM; have BX8 := BO; clear BM BO
            have R1' := Lib.hid (R1.out.put O16.out (.int .i64 x.f0) (.int .i64 x.f1) (.int .u64 x.f2) (.string x.f3) (.slice E4 x.f4.length e4) (.slice E5 x.f5.length e5)); clear R1; have R1 := R1'; clear R1'; have R2' := Lib.hid (R2.out.put O36.out (.int .i64 x.f0) (.int .i64 x.f1) (.int .u64 x.f2) (.string x.f3) (.slice E4 x.f4.length e4) (.slice E5 x.f5.length e5)); clear R2; have R2 := R2'; clear R2'; have R3' := Lib.hid (R3.out.put O56.out (.int .i64 x.f0) (.int .i64 x.f1) (.int .u64 x.f2) (.string x.f3) (.slice E4 x.f4.length e4) (.slice E5 x.f5.length e5)); clear R3; have R3 := R3'; clear R3'
            clear hK K hHeld; have hHeld := hHeld2; clear hHeld2; (try simp only [Act.put, List.setIfInBounds_toArray, List.set_cons_zero, List.set_cons_succ])
            generalize hgx : ((((((k5.setCell ⟨k2.heap.size, 0, none⟩ (.int .i64 x.f0)).setCell ⟨k2.heap.size, 1, none⟩ (.int .i64 x.f1)).setCell ⟨k2.heap.size, 2, none⟩ (.int .u64 x.f2)).setCell ⟨k2.heap.size, 3, none⟩ (.string x.f3)).setCell ⟨k2.heap.size, 4, none⟩ (.slice E4 x.f4.length e4)).setCell ⟨k2.heap.size, 5, none⟩ (.slice E5 x.f5.length e5)) = k6 at *; clear hgx
            refine wpAnyH_ready (rs := [9]) (by kernel_rfl) (by simp) ?_
            refine AllReadyH.cons (o := ⟨none, _, _, _, _, _⟩) rfl (fun K hK => ?_) AllReadyH.nil
            have nz0 := (blk_cell BX8.out 0).trans rfl; have fz0 := blk_frozen BX8.out 0; have nz1 := (blk_cell BX8.out 1).trans rfl; have fz1 := blk_frozen BX8.out 1; have nz2 := (blk_cell BX8.out 2).trans rfl; have fz2 := blk_frozen BX8.out 2; have nz3 := (blk_cell BX8.out 3).trans rfl; have fz3 := blk_frozen BX8.out 3; have nz4 := (blk_cell BX8.out 4).trans rfl; have fz4 := blk_frozen BX8.out 4; have nz5 := (blk_cell BX8.out 5).trans rfl; have fz5 := blk_frozen BX8.out 5
            go_simp
            have HF := Lib.hid (six_belowV HN.out HG8.out (.int .i64 y.f0) (.int .i64 y.f1) (.int .u64 y.f2) (.string y.f3) (.slice F4 y.f4.length f4) (.slice F5 y.f5.length f5))
            refine hK.out _ _ (KEEP.out _ HF.out) (fun hHeld2 => ?_)
            clear nz0 nz1 nz2 nz3 nz4 nz5 fz0 fz1 fz2 fz3 fz4 fz5 HN; have HN := HF; clear HF
            have BM := Lib.hid (six_putV BX8.out (.int .i64 y.f0) (.int .i64 y.f1) (.int .u64 y.f2) (.string y.f3) (.slice F4 y.f4.length f4) (.slice F5 y.f5.length f5)); have BO := Lib.hid ((six_farV NB.out (.int .i64 y.f0) (.int .i64 y.f1) (.int .u64 y.f2) (.string y.f3) (.slice F4 y.f4.length f4) (.slice F5 y.f5.length f5)).trans BX7.out); clear BX7 BX8; have BX8 := BM; have BX7 := BO; clear BM BO
            have R1' := Lib.hid (R1.out.put O17.out (.int .i64 y.f0) (.int .i64 y.f1) (.int .u64 y.f2) (.string y.f3) (.slice F4 y.f4.length f4) (.slice F5 y.f5.length f5)); clear R1; have R1 := R1'; clear R1'; have R2' := Lib.hid (R2.out.put O37.out (.int .i64 y.f0) (.int .i64 y.f1) (.int .u64 y.f2) (.string y.f3) (.slice F4 y.f4.length f4) (.slice F5 y.f5.length f5)); clear R2; have R2 := R2'; clear R2'; have R3' := Lib.hid (R3.out.put O57.out (.int .i64 y.f0) (.int .i64 y.f1) (.int .u64 y.f2) (.string y.f3) (.slice F4 y.f4.length f4) (.slice F5 y.f5.length f5)); clear R3; have R3 := R3'; clear R3'
            clear hK K hHeld; have hHeld := hHeld2; clear hHeld2; (try simp only [Act.put, List.setIfInBounds_toArray, List.set_cons_zero, List.set_cons_succ])
            generalize hgx : ((((((k6.setCell ⟨k4.heap.size, 0, none⟩ (.int .i64 y.f0)).setCell ⟨k4.heap.size, 1, none⟩ (.int .i64 y.f1)).setCell ⟨k4.heap.size, 2, none⟩ (.int .u64 y.f2)).setCell ⟨k4.heap.size, 3, none⟩ (.string y.f3)).setCell ⟨k4.heap.size, 4, none⟩ (.slice F4 y.f4.length f4)).setCell ⟨k4.heap.size, 5, none⟩ (.slice F5 y.f5.length f5)) = k7 at *; clear hgx
            refine wpAnyH_take (i := 10) (oi := ⟨some 9, _, _, _, _, _⟩) (v := ?_) rfl (by as_aux_lemma => kernel_rfl) (by as_aux_lemma => kernel_rfl) (by as_aux_lemma => kernel_rfl) (fun _ _ _ h => h) ?_ (by assumption) ?_; rotate_left; (focus (refine Or.inl ⟨rfl, ?_⟩; intro w hSw; (try dsimp only at hSw); go_simp; (try with_reducible rfl); done)); (try simp only [Act.put, List.setIfInBounds_toArray, List.set_cons_zero, List.set_cons_succ])
            refine wpAnyH_done (by kernel_rfl) ?_ _
            go_wp2
            go_meet
            case rel =>
              exact ⟨_, _, E4, e4, E5, e5, F4, f4, F5, f5, Q, cq, rfl, rfl, rfl, ⟨below_step HB.out HN.out⟩, ⟨blk_below BXA.out HN.out⟩, ⟨blk_below BXB.out HN.out⟩, ⟨BX7.out⟩, ⟨BX8.out⟩, ⟨R1.out.rows⟩, ⟨R2.out.rows⟩, ⟨R3.out.rows⟩⟩
          · go_simp
            have hb := below_alloc (Below.refl k3.heap.size k3) (.cells #[.int .i64 0, .int .i64 0, .int .u64 0, .string ⟨#[]⟩, .slice none 0 0, .slice none 0 0] 26)
            refine hK.out _ _ (KEEP.out _ (below_step HN.out hb)) (fun hHeld2 => ?_)
            have HG8 := Lib.hid (HN.out.size)
            have O17 := Lib.hid (show k3.heap.size < wd.heap.size ∨ k1.heap.size ≤ k3.heap.size from .inr R1.out.top)
            have O37 := Lib.hid (show k3.heap.size < k1.heap.size ∨ k2.heap.size ≤ k3.heap.size from .inr R2.out.top)
            have NB := Lib.hid (Nat.ne_of_lt (blk_lt BX7.out))
            have HN' := Lib.hid (below_step HN.out hb); clear HN; have HN := HN'; clear HN'; have R1' := Lib.hid (R1.out.step hb); clear R1; have R1 := R1'; clear R1'; have R2' := Lib.hid (R2.out.step hb); clear R2; have R2 := R2'; clear R2'; have BX7' := Lib.hid (blk_below BX7.out hb); clear BX7; have BX7 := BX7'; clear BX7'
            have BX8 := Lib.hid (blk_new k3 (.cells #[.int .i64 0, .int .i64 0, .int .u64 0, .string ⟨#[]⟩, .slice none 0 0, .slice none 0 0] 26))
            clear hb; clear hK K hHeld; have hHeld := hHeld2; clear hHeld2; (try simp only [Act.put, List.setIfInBounds_toArray, List.set_cons_zero, List.set_cons_succ])
            generalize hgx : k3.alloc (.cells #[.int .i64 0, .int .i64 0, .int .u64 0, .string ⟨#[]⟩, .slice none 0 0, .slice none 0 0] 26) = k4 at *; clear hgx
            refine wpAnyH_ready (rs := [5]) (by kernel_rfl) (by simp) ?_
            refine AllReadyH.cons (o := ⟨some 27, _, _, _, _, _⟩) rfl (fun K hK => ?_) AllReadyH.nil
            go_simp
            go_at_call 18
            (with_reducible refine (CT.out _ (below_step HB.out HN.out)).mono ?_)
            rintro e k5 ⟨⟨Q, cq, rfl, hk5⟩, hb⟩
            refine hK.out _ _ (KEEP.out _ (below_step HN.out hb)) (fun hHeld2 => ?_)
            have O56 := Lib.hid (show k2.heap.size < k4.heap.size ∨ k5.heap.size ≤ k2.heap.size from .inl (blk_lt BX7.out))
            have O57 := Lib.hid (show k3.heap.size < k4.heap.size ∨ k5.heap.size ≤ k3.heap.size from .inl (blk_lt BX8.out))
            have HN' := Lib.hid (below_step HN.out hb); clear HN; have HN := HN'; clear HN'; have R1' := Lib.hid (R1.out.step hb); clear R1; have R1 := R1'; clear R1'; have R2' := Lib.hid (R2.out.step hb); clear R2; have R2 := R2'; clear R2'; have BX7' := Lib.hid (blk_below BX7.out hb); clear BX7; have BX7 := BX7'; clear BX7'; have BX8' := Lib.hid (blk_below BX8.out hb); clear BX8; have BX8 := BX8'; clear BX8'
            have R3 := Lib.hid (RT.mk hk5)
            clear hb hk5; clear hK K hHeld; have hHeld := hHeld2; clear hHeld2; (try simp only [Act.put, List.setIfInBounds_toArray, List.set_cons_zero, List.set_cons_succ])
            refine wpAnyH_ready (rs := [8]) (by kernel_rfl) (by simp) ?_
            refine AllReadyH.cons (o := ⟨none, _, _, _, _, _⟩) rfl (fun K hK => ?_) AllReadyH.nil
            have nz0 := (blk_cell BX7.out 0).trans rfl; have fz0 := blk_frozen BX7.out 0; have nz1 := (blk_cell BX7.out 1).trans rfl; have fz1 := blk_frozen BX7.out 1; have nz2 := (blk_cell BX7.out 2).trans rfl; have fz2 := blk_frozen BX7.out 2; have nz3 := (blk_cell BX7.out 3).trans rfl; have fz3 := blk_frozen BX7.out 3; have nz4 := (blk_cell BX7.out 4).trans rfl; have fz4 := blk_frozen BX7.out 4; have nz5 := (blk_cell BX7.out 5).trans rfl; have fz5 := blk_frozen BX7.out 5
            go_simp
            have HF := Lib.hid (six_belowV HN.out HG7.out (.int .i64 x.f0) (.int .i64 x.f1) (.int .u64 x.f2) (.string x.f3) (.slice E4 x.f4.length e4) (.slice E5 x.f5.length e5))
            refine hK.out _ _ (KEEP.out _ HF.out) (fun hHeld2 => ?_)
            clear nz0 nz1 nz2 nz3 nz4 nz5 fz0 fz1 fz2 fz3 fz4 fz5 HN; have HN := HF; clear HF
            have BM := Lib.hid (six_putV BX7.out (.int .i64 x.f0) (.int .i64 x.f1) (.int .u64 x.f2) (.string x.f3) (.slice E4 x.f4.length e4) (.slice E5 x.f5.length e5)); have BO := Lib.hid ((six_farV (Ne.symm NB.out) (.int .i64 x.f0) (.int .i64 x.f1) (.int .u64 x.f2) (.string x.f3) (.slice E4 x.f4.length e4) (.slice E5 x.f5.length e5)).trans BX8.out); clear BX7 BX8; have BX7 := BM; have BX8 := BO; clear BM BO
            have R1' := Lib.hid (R1.out.put O16.out (.int .i64 x.f0) (.int .i64 x.f1) (.int .u64 x.f2) (.string x.f3) (.slice E4 x.f4.length e4) (.slice E5 x.f5.length e5)); clear R1; have R1 := R1'; clear R1'; have R2' := Lib.hid (R2.out.put O36.out (.int .i64 x.f0) (.int .i64 x.f1) (.int .u64 x.f2) (.string x.f3) (.slice E4 x.f4.length e4) (.slice E5 x.f5.length e5)); clear R2; have R2 := R2'; clear R2'; have R3' := Lib.hid (R3.out.put O56.out (.int .i64 x.f0) (.int .i64 x.f1) (.int .u64 x.f2) (.string x.f3) (.slice E4 x.f4.length e4) (.slice E5 x.f5.length e5)); clear R3; have R3 := R3'; clear R3'
            clear hK K hHeld; have hHeld := hHeld2; clear hHeld2; (try simp only [Act.put, List.setIfInBounds_toArray, List.set_cons_zero, List.set_cons_succ])
            generalize hgx : ((((((k5.setCell ⟨k2.heap.size, 0, none⟩ (.int .i64 x.f0)).setCell ⟨k2.heap.size, 1, none⟩ (.int .i64 x.f1)).setCell ⟨k2.heap.size, 2, none⟩ (.int .u64 x.f2)).setCell ⟨k2.heap.size, 3, none⟩ (.string x.f3)).setCell ⟨k2.heap.size, 4, none⟩ (.slice E4 x.f4.length e4)).setCell ⟨k2.heap.size, 5, none⟩ (.slice E5 x.f5.length e5)) = k6 at *; clear hgx
            refine wpAnyH_ready (rs := [9]) (by kernel_rfl) (by simp) ?_
            refine AllReadyH.cons (o := ⟨none, _, _, _, _, _⟩) rfl (fun K hK => ?_) AllReadyH.nil
            have nz0 := (blk_cell BX8.out 0).trans rfl; have fz0 := blk_frozen BX8.out 0; have nz1 := (blk_cell BX8.out 1).trans rfl; have fz1 := blk_frozen BX8.out 1; have nz2 := (blk_cell BX8.out 2).trans rfl; have fz2 := blk_frozen BX8.out 2; have nz3 := (blk_cell BX8.out 3).trans rfl; have fz3 := blk_frozen BX8.out 3; have nz4 := (blk_cell BX8.out 4).trans rfl; have fz4 := blk_frozen BX8.out 4; have nz5 := (blk_cell BX8.out 5).trans rfl; have fz5 := blk_frozen BX8.out 5
            go_simp
            have HF := Lib.hid (six_belowV HN.out HG8.out (.int .i64 y.f0) (.int .i64 y.f1) (.int .u64 y.f2) (.string y.f3) (.slice F4 y.f4.length f4) (.slice F5 y.f5.length f5))
            refine hK.out _ _ (KEEP.out _ HF.out) (fun hHeld2 => ?_)
            clear nz0 nz1 nz2 nz3 nz4 nz5 fz0 fz1 fz2 fz3 fz4 fz5 HN; have HN := HF; clear HF
            have BM := Lib.hid (six_putV BX8.out (.int .i64 y.f0) (.int .i64 y.f1) (.int .u64 y.f2) (.string y.f3) (.slice F4 y.f4.length f4) (.slice F5 y.f5.length f5)); have BO := Lib.hid ((six_farV NB.out (.int .i64 y.f0) (.int .i64 y.f1) (.int .u64 y.f2) (.string y.f3) (.slice F4 y.f4.length f4) (.slice F5 y.f5.length f5)).trans BX7.out); clear BX7 BX8; have BX8 := BM; have BX7 := BO; clear BM BO
            have R1' := Lib.hid (R1.out.put O17.out (.int .i64 y.f0) (.int .i64 y.f1) (.int .u64 y.f2) (.string y.f3) (.slice F4 y.f4.length f4) (.slice F5 y.f5.length f5)); clear R1; have R1 := R1'; clear R1'; have R2' := Lib.hid (R2.out.put O37.out (.int .i64 y.f0) (.int .i64 y.f1) (.int .u64 y.f2) (.string y.f3) (.slice F4 y.f4.length f4) (.slice F5 y.f5.length f5)); clear R2; have R2 := R2'; clear R2'; have R3' := Lib.hid (R3.out.put O57.out (.int .i64 y.f0) (.int .i64 y.f1) (.int .u64 y.f2) (.string y.f3) (.slice F4 y.f4.length f4) (.slice F5 y.f5.length f5)); clear R3; have R3 := R3'; clear R3'
            clear hK K hHeld; have hHeld := hHeld2; clear hHeld2; (try simp only [Act.put, List.setIfInBounds_toArray, List.set_cons_zero, List.set_cons_succ])
            generalize hgx : ((((((k6.setCell ⟨k3.heap.size, 0, none⟩ (.int .i64 y.f0)).setCell ⟨k3.heap.size, 1, none⟩ (.int .i64 y.f1)).setCell ⟨k3.heap.size, 2, none⟩ (.int .u64 y.f2)).setCell ⟨k3.heap.size, 3, none⟩ (.string y.f3)).setCell ⟨k3.heap.size, 4, none⟩ (.slice F4 y.f4.length f4)).setCell ⟨k3.heap.size, 5, none⟩ (.slice F5 y.f5.length f5)) = k7 at *; clear hgx
            refine wpAnyH_take (i := 10) (oi := ⟨some 9, _, _, _, _, _⟩) (v := ?_) rfl (by as_aux_lemma => kernel_rfl) (by as_aux_lemma => kernel_rfl) (by as_aux_lemma => kernel_rfl) (fun _ _ _ h => h) ?_ (by assumption) ?_; rotate_left; (focus (refine Or.inl ⟨rfl, ?_⟩; intro w hSw; (try dsimp only at hSw); go_simp; (try with_reducible rfl); done)); (try simp only [Act.put, List.setIfInBounds_toArray, List.set_cons_zero, List.set_cons_succ])
            refine wpAnyH_done (by kernel_rfl) ?_ _
            go_wp2
            go_meet
            case rel =>
              exact ⟨_, _, E4, e4, E5, e5, F4, f4, F5, f5, Q, cq, rfl, rfl, rfl, ⟨below_step HB.out HN.out⟩, ⟨blk_below BXA.out HN.out⟩, ⟨blk_below BXB.out HN.out⟩, ⟨BX7.out⟩, ⟨BX8.out⟩, ⟨R1.out.rows⟩, ⟨R2.out.rows⟩, ⟨R3.out.rows⟩⟩
        · go_simp
          have hb := below_alloc (Below.refl k2.heap.size k2) (.cells #[.int .i64 0, .int .i64 0, .int .u64 0, .string ⟨#[]⟩, .slice none 0 0, .slice none 0 0] 26)
          refine hK.out _ _ (KEEP.out _ (below_step HN.out hb)) (fun hHeld2 => ?_)
          have HG8 := Lib.hid (HN.out.size)
          have O17 := Lib.hid (show k2.heap.size < wd.heap.size ∨ k1.heap.size ≤ k2.heap.size from .inr R1.out.top)
          have O37 := Lib.hid (show k2.heap.size < k1.heap.size ∨ k2.heap.size ≤ k2.heap.size from .inr R2.out.top)
          have HN' := Lib.hid (below_step HN.out hb); clear HN; have HN := HN'; clear HN'; have R1' := Lib.hid (R1.out.step hb); clear R1; have R1 := R1'; clear R1'; have R2' := Lib.hid (R2.out.step hb); clear R2; have R2 := R2'; clear R2'
          have BX8 := Lib.hid (blk_new k2 (.cells #[.int .i64 0, .int .i64 0, .int .u64 0, .string ⟨#[]⟩, .slice none 0 0, .slice none 0 0] 26))
          clear hb; clear hK K hHeld; have hHeld := hHeld2; clear hHeld2; (try simp only [Act.put, List.setIfInBounds_toArray, List.set_cons_zero, List.set_cons_succ])
          generalize hgx : k2.alloc (.cells #[.int .i64 0, .int .i64 0, .int .u64 0, .string ⟨#[]⟩, .slice none 0 0, .slice none 0 0] 26) = k3 at *; clear hgx
          refine wpAnyH_ready (rs := [5, 6]) (by kernel_rfl) (by simp) ?_
          refine AllReadyH.cons (o := ⟨some 27, _, _, _, _, _⟩) rfl (fun K hK => ?_) (AllReadyH.cons (o := ⟨some 7, _, _, _, _, _⟩) rfl (fun K hK => ?_) AllReadyH.nil)
          · go_simp
            go_at_call 18
            (with_reducible refine (CT.out _ (below_step HB.out HN.out)).mono ?_)
            rintro e k4 ⟨⟨Q, cq, rfl, hk5⟩, hb⟩
            refine hK.out _ _ (KEEP.out _ (below_step HN.out hb)) (fun hHeld2 => ?_)
            have O57 := Lib.hid (show k2.heap.size < k3.heap.size ∨ k4.heap.size ≤ k2.heap.size from .inl (blk_lt BX8.out))
            have HN' := Lib.hid (below_step HN.out hb); clear HN; have HN := HN'; clear HN'; have R1' := Lib.hid (R1.out.step hb); clear R1; have R1 := R1'; clear R1'; have R2' := Lib.hid (R2.out.step hb); clear R2; have R2 := R2'; clear R2'; have BX8' := Lib.hid (blk_below BX8.out hb); clear BX8; have BX8 := BX8'; clear BX8'
            have R3 := Lib.hid (RT.mk hk5)
            clear hb hk5; clear hK K hHeld; have hHeld := hHeld2; clear hHeld2; (try simp only [Act.put, List.setIfInBounds_toArray, List.set_cons_zero, List.set_cons_succ])
            refine wpAnyH_ready (rs := [6]) (by kernel_rfl) (by simp) ?_
            refine AllReadyH.cons (o := ⟨some 7, _, _, _, _, _⟩) rfl (fun K hK => ?_) AllReadyH.nil
            go_simp
            have hb := below_alloc (Below.refl k4.heap.size k4) (.cells #[.int .i64 0, .int .i64 0, .int .u64 0, .string ⟨#[]⟩, .slice none 0 0, .slice none 0 0] 26)
            refine hK.out _ _ (KEEP.out _ (below_step HN.out hb)) (fun hHeld2 => ?_)
            have HG7 := Lib.hid (HN.out.size)
            have O16 := Lib.hid (show k4.heap.size < wd.heap.size ∨ k1.heap.size ≤ k4.heap.size from .inr R1.out.top)
            have O36 := Lib.hid (show k4.heap.size < k1.heap.size ∨ k2.heap.size ≤ k4.heap.size from .inr R2.out.top)
            have O56 := Lib.hid (show k4.heap.size < k3.heap.size ∨ k4.heap.size ≤ k4.heap.size from .inr R3.out.top)
            have NB := Lib.hid (Nat.ne_of_lt (blk_lt BX8.out))
            have HN' := Lib.hid (below_step HN.out hb); clear HN; have HN := HN'; clear HN'; have R1' := Lib.hid (R1.out.step hb); clear R1; have R1 := R1'; clear R1'; have R2' := Lib.hid (R2.out.step hb); clear R2; have R2 := R2'; clear R2'; have R3' := Lib.hid (R3.out.step hb); clear R3; have R3 := R3'; clear R3'; have BX8' := Lib.hid (blk_below BX8.out hb); clear BX8; have BX8 := BX8'; clear BX8'
            have BX7 := Lib.hid (blk_new k4 (.cells #[.int .i64 0, .int .i64 0, .int .u64 0, .string ⟨#[]⟩, .slice none 0 0, .slice none 0 0] 26))
            clear hb; clear hK K hHeld; have hHeld := hHeld2; clear hHeld2; (try simp only [Act.put, List.setIfInBounds_toArray, List.set_cons_zero, List.set_cons_succ])
            generalize hgx : k4.alloc (.cells #[.int .i64 0, .int .i64 0, .int .u64 0, .string ⟨#[]⟩, .slice none 0 0, .slice none 0 0] 26) = k5 at *; clear hgx
            refine wpAnyH_ready (rs := [8]) (by kernel_rfl) (by simp) ?_
            refine AllReadyH.cons (o := ⟨none, _, _, _, _, _⟩) rfl (fun K hK => ?_) AllReadyH.nil
            have nz0 := (blk_cell BX7.out 0).trans rfl; have fz0 := blk_frozen BX7.out 0; have nz1 := (blk_cell BX7.out 1).trans rfl; have fz1 := blk_frozen BX7.out 1; have nz2 := (blk_cell BX7.out 2).trans rfl; have fz2 := blk_frozen BX7.out 2; have nz3 := (blk_cell BX7.out 3).trans rfl; have fz3 := blk_frozen BX7.out 3; have nz4 := (blk_cell BX7.out 4).trans rfl; have fz4 := blk_frozen BX7.out 4; have nz5 := (blk_cell BX7.out 5).trans rfl; have fz5 := blk_frozen BX7.out 5
            go_simp
            have HF := Lib.hid (six_belowV HN.out HG7.out (.int .i64 x.f0) (.int .i64 x.f1) (.int .u64 x.f2) (.string x.f3) (.slice E4 x.f4.length e4) (.slice E5 x.f5.length e5))
            refine hK.out _ _ (KEEP.out _ HF.out) (fun hHeld2 => ?_)
            clear nz0 nz1 nz2 nz3 nz4 nz5 fz0 fz1 fz2 fz3 fz4 fz5 HN; have HN := HF; clear HF
            have BM := Lib.hid (six_putV BX7.out (.int .i64 x.f0) (.int .i64 x.f1) (.int .u64 x.f2) (.string x.f3) (.slice E4 x.f4.length e4) (.slice E5 x.f5.length e5)); have BO := Lib.hid ((six_farV NB.out (.int .i64 x.f0) (.int .i64 x.f1) (.int .u64 x.f2) (.string x.f3) (.slice E4 x.f4.length e4) (.slice E5 x.f5.length e5)).trans BX8.out); clear BX7 BX8; have BX7 := BM; have BX8 := BO; clear BM BO
            have R1' := Lib.hid (R1.out.put O16.out (.int .i64 x.f0) (.int .i64 x.f1) (.int .u64 x.f2) (.string x.f3) (.slice E4 x.f4.length e4) (.slice E5 x.f5.length e5)); clear R1; have R1 := R1'; clear R1'; have R2' := Lib.hid (R2.out.put O36.out (.int .i64 x.f0) (.int .i64 x.f1) (.int .u64 x.f2) (.string x.f3) (.slice E4 x.f4.length e4) (.slice E5 x.f5.length e5)); clear R2; have R2 := R2'; clear R2'; have R3' := Lib.hid (R3.out.put O56.out (.int .i64 x.f0) (.int .i64 x.f1) (.int .u64 x.f2) (.string x.f3) (.slice E4 x.f4.length e4) (.slice E5 x.f5.length e5)); clear R3; have R3 := R3'; clear R3'
            clear hK K hHeld; have hHeld := hHeld2; clear hHeld2; (try simp only [Act.put, List.setIfInBounds_toArray, List.set_cons_zero, List.set_cons_succ])
            generalize hgx : ((((((k5.setCell ⟨k4.heap.size, 0, none⟩ (.int .i64 x.f0)).setCell ⟨k4.heap.size, 1, none⟩ (.int .i64 x.f1)).setCell ⟨k4.heap.size, 2, none⟩ (.int .u64 x.f2)).setCell ⟨k4.heap.size, 3, none⟩ (.string x.f3)).setCell ⟨k4.heap.size, 4, none⟩ (.slice E4 x.f4.length e4)).setCell ⟨k4.heap.size, 5, none⟩ (.slice E5 x.f5.length e5)) = k6 at *; clear hgx
            refine wpAnyH_ready (rs := [9]) (by kernel_rfl) (by simp) ?_
            refine AllReadyH.cons (o := ⟨none, _, _, _, _, _⟩) rfl (fun K hK => ?_) AllReadyH.nil
            have nz0 := (blk_cell BX8.out 0).trans rfl; have fz0 := blk_frozen BX8.out 0; have nz1 := (blk_cell BX8.out 1).trans rfl; have fz1 := blk_frozen BX8.out 1; have nz2 := (blk_cell BX8.out 2).trans rfl; have fz2 := blk_frozen BX8.out 2; have nz3 := (blk_cell BX8.out 3).trans rfl; have fz3 := blk_frozen BX8.out 3; have nz4 := (blk_cell BX8.out 4).trans rfl; have fz4 := blk_frozen BX8.out 4; have nz5 := (blk_cell BX8.out 5).trans rfl; have fz5 := blk_frozen BX8.out 5
            go_simp
            have HF := Lib.hid (six_belowV HN.out HG8.out (.int .i64 y.f0) (.int .i64 y.f1) (.int .u64 y.f2) (.string y.f3) (.slice F4 y.f4.length f4) (.slice F5 y.f5.length f5))
            refine hK.out _ _ (KEEP.out _ HF.out) (fun hHeld2 => ?_)
            clear nz0 nz1 nz2 nz3 nz4 nz5 fz0 fz1 fz2 fz3 fz4 fz5 HN; have HN := HF; clear HF
            have BM := Lib.hid (six_putV BX8.out (.int .i64 y.f0) (.int .i64 y.f1) (.int .u64 y.f2) (.string y.f3) (.slice F4 y.f4.length f4) (.slice F5 y.f5.length f5)); have BO := Lib.hid ((six_farV (Ne.symm NB.out) (.int .i64 y.f0) (.int .i64 y.f1) (.int .u64 y.f2) (.string y.f3) (.slice F4 y.f4.length f4) (.slice F5 y.f5.length f5)).trans BX7.out); clear BX7 BX8; have BX8 := BM; have BX7 := BO; clear BM BO
            have R1' := Lib.hid (R1.out.put O17.out (.int .i64 y.f0) (.int .i64 y.f1) (.int .u64 y.f2) (.string y.f3) (.slice F4 y.f4.length f4) (.slice F5 y.f5.length f5)); clear R1; have R1 := R1'; clear R1'; have R2' := Lib.hid (R2.out.put O37.out (.int .i64 y.f0) (.int .i64 y.f1) (.int .u64 y.f2) (.string y.f3) (.slice F4 y.f4.length f4) (.slice F5 y.f5.length f5)); clear R2; have R2 := R2'; clear R2'; have R3' := Lib.hid (R3.out.put O57.out (.int .i64 y.f0) (.int .i64 y.f1) (.int .u64 y.f2) (.string y.f3) (.slice F4 y.f4.length f4) (.slice F5 y.f5.length f5)); clear R3; have R3 := R3'; clear R3'
            clear hK K hHeld; have hHeld := hHeld2; clear hHeld2; (try simp only [Act.put, List.setIfInBounds_toArray, List.set_cons_zero, List.set_cons_succ])
            generalize hgx : ((((((k6.setCell ⟨k2.heap.size, 0, none⟩ (.int .i64 y.f0)).setCell ⟨k2.heap.size, 1, none⟩ (.int .i64 y.f1)).setCell ⟨k2.heap.size, 2, none⟩ (.int .u64 y.f2)).setCell ⟨k2.heap.size, 3, none⟩ (.string y.f3)).setCell ⟨k2.heap.size, 4, none⟩ (.slice F4 y.f4.length f4)).setCell ⟨k2.heap.size, 5, none⟩ (.slice F5 y.f5.length f5)) = k7 at *; clear hgx
            refine wpAnyH_take (i := 10) (oi := ⟨some 9, _, _, _, _, _⟩) (v := ?_) rfl (by as_aux_lemma => kernel_rfl) (by as_aux_lemma => kernel_rfl) (by as_aux_lemma => kernel_rfl) (fun _ _ _ h => h) ?_ (by assumption) ?_; rotate_left; (focus (refine Or.inl ⟨rfl, ?_⟩; intro w hSw; (try dsimp only at hSw); go_simp; (try with_reducible rfl); done)); (try simp only [Act.put, List.setIfInBounds_toArray, List.set_cons_zero, List.set_cons_succ])
            refine wpAnyH_done (by kernel_rfl) ?_ _
            go_wp2
            go_meet
            case rel =>
              exact ⟨_, _, E4, e4, E5, e5, F4, f4, F5, f5, Q, cq, rfl, rfl, rfl, ⟨below_step HB.out HN.out⟩, ⟨blk_below BXA.out HN.out⟩, ⟨blk_below BXB.out HN.out⟩, ⟨BX7.out⟩, ⟨BX8.out⟩, ⟨R1.out.rows⟩, ⟨R2.out.rows⟩, ⟨R3.out.rows⟩⟩
          · go_simp
            have hb := below_alloc (Below.refl k3.heap.size k3) (.cells #[.int .i64 0, .int .i64 0, .int .u64 0, .string ⟨#[]⟩, .slice none 0 0, .slice none 0 0] 26)
            refine hK.out _ _ (KEEP.out _ (below_step HN.out hb)) (fun hHeld2 => ?_)
            have HG7 := Lib.hid (HN.out.size)
            have O16 := Lib.hid (show k3.heap.size < wd.heap.size ∨ k1.heap.size ≤ k3.heap.size from .inr R1.out.top)
            have O36 := Lib.hid (show k3.heap.size < k1.heap.size ∨ k2.heap.size ≤ k3.heap.size from .inr R2.out.top)
            have NB := Lib.hid (Nat.ne_of_lt (blk_lt BX8.out))
            have HN' := Lib.hid (below_step HN.out hb); clear HN; have HN := HN'; clear HN'; have R1' := Lib.hid (R1.out.step hb); clear R1; have R1 := R1'; clear R1'; have R2' := Lib.hid (R2.out.step hb); clear R2; have R2 := R2'; clear R2'; have BX8' := Lib.hid (blk_below BX8.out hb); clear BX8; have BX8 := BX8'; clear BX8'
            have BX7 := Lib.hid (blk_new k3 (.cells #[.int .i64 0, .int .i64 0, .int .u64 0, .string ⟨#[]⟩, .slice none 0 0, .slice none 0 0] 26))
            clear hb; clear hK K hHeld; have hHeld := hHeld2; clear hHeld2; (try simp only [Act.put, List.setIfInBounds_toArray, List.set_cons_zero, List.set_cons_succ])
            generalize hgx : k3.alloc (.cells #[.int .i64 0, .int .i64 0, .int .u64 0, .string ⟨#[]⟩, .slice none 0 0, .slice none 0 0] 26) = k4 at *; clear hgx
            refine wpAnyH_ready (rs := [5]) (by kernel_rfl) (by simp) ?_
            refine AllReadyH.cons (o := ⟨some 27, _, _, _, _, _⟩) rfl (fun K hK => ?_) AllReadyH.nil
            go_simp
            go_at_call 18
            (with_reducible refine (CT.out _ (below_step HB.out HN.out)).mono ?_)
            rintro e k5 ⟨⟨Q, cq, rfl, hk5⟩, hb⟩
            refine hK.out _ _ (KEEP.out _ (below_step HN.out hb)) (fun hHeld2 => ?_)
            have O56 := Lib.hid (show k3.heap.size < k4.heap.size ∨ k5.heap.size ≤ k3.heap.size from .inl (blk_lt BX7.out))
            have O57 := Lib.hid (show k2.heap.size < k4.heap.size ∨ k5.heap.size ≤ k2.heap.size from .inl (blk_lt BX8.out))
            have HN' := Lib.hid (below_step HN.out hb); clear HN; have HN := HN'; clear HN'; have R1' := Lib.hid (R1.out.step hb); clear R1; have R1 := R1'; clear R1'; have R2' := Lib.hid (R2.out.step hb); clear R2; have R2 := R2'; clear R2'; have BX7' := Lib.hid (blk_below BX7.out hb); clear BX7; have BX7 := BX7'; clear BX7'; have BX8' := Lib.hid (blk_below BX8.out hb); clear BX8; have BX8 := BX8'; clear BX8'
            have R3 := Lib.hid (RT.mk hk5)
            clear hb hk5; clear hK K hHeld; have hHeld := hHeld2; clear hHeld2; (try simp only [Act.put, List.setIfInBounds_toArray, List.set_cons_zero, List.set_cons_succ])
            refine wpAnyH_ready (rs := [8]) (by kernel_rfl) (by simp) ?_
            refine AllReadyH.cons (o := ⟨none, _, _, _, _, _⟩) rfl (fun K hK => ?_) AllReadyH.nil
            have nz0 := (blk_cell BX7.out 0).trans rfl; have fz0 := blk_frozen BX7.out 0; have nz1 := (blk_cell BX7.out 1).trans rfl; have fz1 := blk_frozen BX7.out 1; have nz2 := (blk_cell BX7.out 2).trans rfl; have fz2 := blk_frozen BX7.out 2; have nz3 := (blk_cell BX7.out 3).trans rfl; have fz3 := blk_frozen BX7.out 3; have nz4 := (blk_cell BX7.out 4).trans rfl; have fz4 := blk_frozen BX7.out 4; have nz5 := (blk_cell BX7.out 5).trans rfl; have fz5 := blk_frozen BX7.out 5
            go_simp
            have HF := Lib.hid (six_belowV HN.out HG7.out (.int .i64 x.f0) (.int .i64 x.f1) (.int .u64 x.f2) (.string x.f3) (.slice E4 x.f4.length e4) (.slice E5 x.f5.length e5))
            refine hK.out _ _ (KEEP.out _ HF.out) (fun hHeld2 => ?_)
            clear nz0 nz1 nz2 nz3 nz4 nz5 fz0 fz1 fz2 fz3 fz4 fz5 HN; have HN := HF; clear HF
            have BM := Lib.hid (six_putV BX7.out (.int .i64 x.f0) (.int .i64 x.f1) (.int .u64 x.f2) (.string x.f3) (.slice E4 x.f4.length e4) (.slice E5 x.f5.length e5)); have BO := Lib.hid ((six_farV NB.out (.int .i64 x.f0) (.int .i64 x.f1) (.int .u64 x.f2) (.string x.f3) (.slice E4 x.f4.length e4) (.slice E5 x.f5.length e5)).trans BX8.out); clear BX7 BX8; have BX7 := BM; have BX8 := BO; clear BM BO
            have R1' := Lib.hid (R1.out.put O16.out (.int .i64 x.f0) (.int .i64 x.f1) (.int .u64 x.f2) (.string x.f3) (.slice E4 x.f4.length e4) (.slice E5 x.f5.length e5)); clear R1; have R1 := R1'; clear R1'; have R2' := Lib.hid (R2.out.put O36.out (.int .i64 x.f0) (.int .i64 x.f1) (.int .u64 x.f2) (.string x.f3) (.slice E4 x.f4.length e4) (.slice E5 x.f5.length e5)); clear R2; have R2 := R2'; clear R2'; have R3' := Lib.hid (R3.out.put O56.out (.int .i64 x.f0) (.int .i64 x.f1) (.int .u64 x.f2) (.string x.f3) (.slice E4 x.f4.length e4) (.slice E5 x.f5.length e5)); clear R3; have R3 := R3'; clear R3'
            clear hK K hHeld; have hHeld := hHeld2; clear hHeld2; (try simp only [Act.put, List.setIfInBounds_toArray, List.set_cons_zero, List.set_cons_succ])
            generalize hgx : ((((((k5.setCell ⟨k3.heap.size, 0, none⟩ (.int .i64 x.f0)).setCell ⟨k3.heap.size, 1, none⟩ (.int .i64 x.f1)).setCell ⟨k3.heap.size, 2, none⟩ (.int .u64 x.f2)).setCell ⟨k3.heap.size, 3, none⟩ (.string x.f3)).setCell ⟨k3.heap.size, 4, none⟩ (.slice E4 x.f4.length e4)).setCell ⟨k3.heap.size, 5, none⟩ (.slice E5 x.f5.length e5)) = k6 at *; clear hgx
            refine wpAnyH_ready (rs := [9]) (by kernel_rfl) (by simp) ?_
            refine AllReadyH.cons (o := ⟨none, _, _, _, _, _⟩) rfl (fun K hK => ?_) AllReadyH.nil
            have nz0 := (blk_cell BX8.out 0).trans rfl; have fz0 := blk_frozen BX8.out 0; have nz1 := (blk_cell BX8.out 1).trans rfl; have fz1 := blk_frozen BX8.out 1; have nz2 := (blk_cell BX8.out 2).trans rfl; have fz2 := blk_frozen BX8.out 2; have nz3 := (blk_cell BX8.out 3).trans rfl; have fz3 := blk_frozen BX8.out 3; have nz4 := (blk_cell BX8.out 4).trans rfl; have fz4 := blk_frozen BX8.out 4; have nz5 := (blk_cell BX8.out 5).trans rfl; have fz5 := blk_frozen BX8.out 5
            go_simp
            have HF := Lib.hid (six_belowV HN.out HG8.out (.int .i64 y.f0) (.int .i64 y.f1) (.int .u64 y.f2) (.string y.f3) (.slice F4 y.f4.length f4) (.slice F5 y.f5.length f5))
            refine hK.out _ _ (KEEP.out _ HF.out) (fun hHeld2 => ?_)
            clear nz0 nz1 nz2 nz3 nz4 nz5 fz0 fz1 fz2 fz3 fz4 fz5 HN; have HN := HF; clear HF
            have BM := Lib.hid (six_putV BX8.out (.int .i64 y.f0) (.int .i64 y.f1) (.int .u64 y.f2) (.string y.f3) (.slice F4 y.f4.length f4) (.slice F5 y.f5.length f5)); have BO := Lib.hid ((six_farV (Ne.symm NB.out) (.int .i64 y.f0) (.int .i64 y.f1) (.int .u64 y.f2) (.string y.f3) (.slice F4 y.f4.length f4) (.slice F5 y.f5.length f5)).trans BX7.out); clear BX7 BX8; have BX8 := BM; have BX7 := BO; clear BM BO
            have R1' := Lib.hid (R1.out.put O17.out (.int .i64 y.f0) (.int .i64 y.f1) (.int .u64 y.f2) (.string y.f3) (.slice F4 y.f4.length f4) (.slice F5 y.f5.length f5)); clear R1; have R1 := R1'; clear R1'; have R2' := Lib.hid (R2.out.put O37.out (.int .i64 y.f0) (.int .i64 y.f1) (.int .u64 y.f2) (.string y.f3) (.slice F4 y.f4.length f4) (.slice F5 y.f5.length f5)); clear R2; have R2 := R2'; clear R2'; have R3' := Lib.hid (R3.out.put O57.out (.int .i64 y.f0) (.int .i64 y.f1) (.int .u64 y.f2) (.string y.f3) (.slice F4 y.f4.length f4) (.slice F5 y.f5.length f5)); clear R3; have R3 := R3'; clear R3'
            clear hK K hHeld; have hHeld := hHeld2; clear hHeld2; (try simp only [Act.put, List.setIfInBounds_toArray, List.set_cons_zero, List.set_cons_succ])
            generalize hgx : ((((((k6.setCell ⟨k2.heap.size, 0, none⟩ (.int .i64 y.f0)).setCell ⟨k2.heap.size, 1, none⟩ (.int .i64 y.f1)).setCell ⟨k2.heap.size, 2, none⟩ (.int .u64 y.f2)).setCell ⟨k2.heap.size, 3, none⟩ (.string y.f3)).setCell ⟨k2.heap.size, 4, none⟩ (.slice F4 y.f4.length f4)).setCell ⟨k2.heap.size, 5, none⟩ (.slice F5 y.f5.length f5)) = k7 at *; clear hgx
            refine wpAnyH_take (i := 10) (oi := ⟨some 9, _, _, _, _, _⟩) (v := ?_) rfl (by as_aux_lemma => kernel_rfl) (by as_aux_lemma => kernel_rfl) (by as_aux_lemma => kernel_rfl) (fun _ _ _ h => h) ?_ (by assumption) ?_; rotate_left; (focus (refine Or.inl ⟨rfl, ?_⟩; intro w hSw; (try dsimp only at hSw); go_simp; (try with_reducible rfl); done)); (try simp only [Act.put, List.setIfInBounds_toArray, List.set_cons_zero, List.set_cons_succ])
            refine wpAnyH_done (by kernel_rfl) ?_ _
            go_wp2
            go_meet
            case rel =>
              exact ⟨_, _, E4, e4, E5, e5, F4, f4, F5, f5, Q, cq, rfl, rfl, rfl, ⟨below_step HB.out HN.out⟩, ⟨blk_below BXA.out HN.out⟩, ⟨blk_below BXB.out HN.out⟩, ⟨BX7.out⟩, ⟨BX8.out⟩, ⟨R1.out.rows⟩, ⟨R2.out.rows⟩, ⟨R3.out.rows⟩⟩
      · go_simp
        have hb := below_alloc (Below.refl k1.heap.size k1) (.cells #[.int .i64 0, .int .i64 0, .int .u64 0, .string ⟨#[]⟩, .slice none 0 0, .slice none 0 0] 26)
        refine hK.out _ _ (KEEP.out _ (below_step HN.out hb)) (fun hHeld2 => ?_)
        have HG7 := Lib.hid (HN.out.size)
        have O16 := Lib.hid (show k1.heap.size < wd.heap.size ∨ k1.heap.size ≤ k1.heap.size from .inr R1.out.top)
        have HN' := Lib.hid (below_step HN.out hb); clear HN; have HN := HN'; clear HN'; have R1' := Lib.hid (R1.out.step hb); clear R1; have R1 := R1'; clear R1'
        have BX7 := Lib.hid (blk_new k1 (.cells #[.int .i64 0, .int .i64 0, .int .u64 0, .string ⟨#[]⟩, .slice none 0 0, .slice none 0 0] 26))
        clear hb; clear hK K hHeld; have hHeld := hHeld2; clear hHeld2; (try simp only [Act.put, List.setIfInBounds_toArray, List.set_cons_zero, List.set_cons_succ])
        generalize hgx : k1.alloc (.cells #[.int .i64 0, .int .i64 0, .int .u64 0, .string ⟨#[]⟩, .slice none 0 0, .slice none 0 0] 26) = k2 at *; clear hgx
        refine wpAnyH_ready (rs := [3, 7]) (by kernel_rfl) (by simp) ?_
        refine AllReadyH.cons (o := ⟨some 25, _, _, _, _, _⟩) rfl (fun K hK => ?_) (AllReadyH.cons (o := ⟨some 8, _, _, _, _, _⟩) rfl (fun K hK => ?_) AllReadyH.nil)
        · go_simp
          go_at_call 17
          (with_reducible refine (CB.out _ (below_step HB.out HN.out)).mono ?_)
          rintro e k3 ⟨⟨F4, f4, F5, f5, rfl, hk4, hk5⟩, hb⟩
          refine hK.out _ _ (KEEP.out _ (below_step HN.out hb)) (fun hHeld2 => ?_)
          have O36 := Lib.hid (show k1.heap.size < k2.heap.size ∨ k3.heap.size ≤ k1.heap.size from .inl (blk_lt BX7.out))
          have HN' := Lib.hid (below_step HN.out hb); clear HN; have HN := HN'; clear HN'; have R1' := Lib.hid (R1.out.step hb); clear R1; have R1 := R1'; clear R1'; have BX7' := Lib.hid (blk_below BX7.out hb); clear BX7; have BX7 := BX7'; clear BX7'
          have R2 := Lib.hid (RW.mk hk4 hk5)
          clear hb hk4 hk5; clear hK K hHeld; have hHeld := hHeld2; clear hHeld2; (try simp only [Act.put, List.setIfInBounds_toArray, List.set_cons_zero, List.set_cons_succ])
          refine wpAnyH_ready (rs := [5, 7]) (by kernel_rfl) (by simp) ?_
          refine AllReadyH.cons (o := ⟨some 27, _, _, _, _, _⟩) rfl (fun K hK => ?_) (AllReadyH.cons (o := ⟨some 8, _, _, _, _, _⟩) rfl (fun K hK => ?_) AllReadyH.nil)
          · go_simp
            go_at_call 18
            (with_reducible refine (CT.out _ (below_step HB.out HN.out)).mono ?_)
            rintro e k4 ⟨⟨Q, cq, rfl, hk5⟩, hb⟩
            refine hK.out _ _ (KEEP.out _ (below_step HN.out hb)) (fun hHeld2 => ?_)
            have O56 := Lib.hid (show k1.heap.size < k3.heap.size ∨ k4.heap.size ≤ k1.heap.size from .inl (blk_lt BX7.out))
            have HN' := Lib.hid (below_step HN.out hb); clear HN; have HN := HN'; clear HN'; have R1' := Lib.hid (R1.out.step hb); clear R1; have R1 := R1'; clear R1'; have R2' := Lib.hid (R2.out.step hb); clear R2; have R2 := R2'; clear R2'; have BX7' := Lib.hid (blk_below BX7.out hb); clear BX7; have BX7 := BX7'; clear BX7'
            have R3 := Lib.hid (RT.mk hk5)
            clear hb hk5; clear hK K hHeld; have hHeld := hHeld2; clear hHeld2; (try simp only [Act.put, List.setIfInBounds_toArray, List.set_cons_zero, List.set_cons_succ])
            refine wpAnyH_ready (rs := [7]) (by kernel_rfl) (by simp) ?_
            refine AllReadyH.cons (o := ⟨some 8, _, _, _, _, _⟩) rfl (fun K hK => ?_) AllReadyH.nil
            go_simp
            have hb := below_alloc (Below.refl k4.heap.size k4) (.cells #[.int .i64 0, .int .i64 0, .int .u64 0, .string ⟨#[]⟩, .slice none 0 0, .slice none 0 0] 26)
            refine hK.out _ _ (KEEP.out _ (below_step HN.out hb)) (fun hHeld2 => ?_)
            have HG8 := Lib.hid (HN.out.size)
            have O17 := Lib.hid (show k4.heap.size < wd.heap.size ∨ k1.heap.size ≤ k4.heap.size from .inr R1.out.top)
            have O37 := Lib.hid (show k4.heap.size < k2.heap.size ∨ k3.heap.size ≤ k4.heap.size from .inr R2.out.top)
            have O57 := Lib.hid (show k4.heap.size < k3.heap.size ∨ k4.heap.size ≤ k4.heap.size from .inr R3.out.top)
            have NB := Lib.hid (Nat.ne_of_lt (blk_lt BX7.out))
            have HN' := Lib.hid (below_step HN.out hb); clear HN; have HN := HN'; clear HN'; have R1' := Lib.hid (R1.out.step hb); clear R1; have R1 := R1'; clear R1'; have R2' := Lib.hid (R2.out.step hb); clear R2; have R2 := R2'; clear R2'; have R3' := Lib.hid (R3.out.step hb); clear R3; have R3 := R3'; clear R3'; have BX7' := Lib.hid (blk_below BX7.out hb); clear BX7; have BX7 := BX7'; clear BX7'
            have BX8 := Lib.hid (blk_new k4 (.cells #[.int .i64 0, .int .i64 0, .int .u64 0, .string ⟨#[]⟩, .slice none 0 0, .slice none 0 0] 26))
            clear hb; clear hK K hHeld; have hHeld := hHeld2; clear hHeld2; (try simp only [Act.put, List.setIfInBounds_toArray, List.set_cons_zero, List.set_cons_succ])
            generalize hgx : k4.alloc (.cells #[.int .i64 0, .int .i64 0, .int .u64 0, .string ⟨#[]⟩, .slice none 0 0, .slice none 0 0] 26) = k5 at *; clear hgx
            refine wpAnyH_ready (rs := [8]) (by kernel_rfl) (by simp) ?_
            refine AllReadyH.cons (o := ⟨none, _, _, _, _, _⟩) rfl (fun K hK => ?_) AllReadyH.nil
            have nz0 := (blk_cell BX7.out 0).trans rfl; have fz0 := blk_frozen BX7.out 0; have nz1 := (blk_cell BX7.out 1).trans rfl; have fz1 := blk_frozen BX7.out 1; have nz2 := (blk_cell BX7.out 2).trans rfl; have fz2 := blk_frozen BX7.out 2; have nz3 := (blk_cell BX7.out 3).trans rfl; have fz3 := blk_frozen BX7.out 3; have nz4 := (blk_cell BX7.out 4).trans rfl; have fz4 := blk_frozen BX7.out 4; have nz5 := (blk_cell BX7.out 5).trans rfl; have fz5 := blk_frozen BX7.out 5
            go_simp
            have HF := Lib.hid (six_belowV HN.out HG7.out (.int .i64 x.f0) (.int .i64 x.f1) (.int .u64 x.f2) (.string x.f3) (.slice E4 x.f4.length e4) (.slice E5 x.f5.length e5))
            refine hK.out _ _ (KEEP.out _ HF.out) (fun hHeld2 => ?_)
            clear nz0 nz1 nz2 nz3 nz4 nz5 fz0 fz1 fz2 fz3 fz4 fz5 HN; have HN := HF; clear HF
            have BM := Lib.hid (six_putV BX7.out (.int .i64 x.f0) (.int .i64 x.f1) (.int .u64 x.f2) (.string x.f3) (.slice E4 x.f4.length e4) (.slice E5 x.f5.length e5)); have BO := Lib.hid ((six_farV (Ne.symm NB.out) (.int .i64 x.f0) (.int .i64 x.f1) (.int .u64 x.f2) (.string x.f3) (.slice E4 x.f4.length e4) (.slice E5 x.f5.length e5)).trans BX8.out); clear BX7 BX8; have BX7 := BM; have BX8 := BO; clear BM BO
            have R1' := Lib.hid (R1.out.put O16.out (.int .i64 x.f0) (.int .i64 x.f1) (.int .u64 x.f2) (.string x.f3) (.slice E4 x.f4.length e4) (.slice E5 x.f5.length e5)); clear R1; have R1 := R1'; clear R1'; have R2' := Lib.hid (R2.out.put O36.out (.int .i64 x.f0) (.int .i64 x.f1) (.int .u64 x.f2) (.string x.f3) (.slice E4 x.f4.length e4) (.slice E5 x.f5.length e5)); clear R2; have R2 := R2'; clear R2'; have R3' := Lib.hid (R3.out.put O56.out (.int .i64 x.f0) (.int .i64 x.f1) (.int .u64 x.f2) (.string x.f3) (.slice E4 x.f4.length e4) (.slice E5 x.f5.length e5)); clear R3; have R3 := R3'; clear R3'
            clear hK K hHeld; have hHeld := hHeld2; clear hHeld2; (try simp only [Act.put, List.setIfInBounds_toArray, List.set_cons_zero, List.set_cons_succ])
            generalize hgx : ((((((k5.setCell ⟨k1.heap.size, 0, none⟩ (.int .i64 x.f0)).setCell ⟨k1.heap.size, 1, none⟩ (.int .i64 x.f1)).setCell ⟨k1.heap.size, 2, none⟩ (.int .u64 x.f2)).setCell ⟨k1.heap.size, 3, none⟩ (.string x.f3)).setCell ⟨k1.heap.size, 4, none⟩ (.slice E4 x.f4.length e4)).setCell ⟨k1.heap.size, 5, none⟩ (.slice E5 x.f5.length e5)) = k6 at *; clear hgx
            refine wpAnyH_ready (rs := [9]) (by kernel_rfl) (by simp) ?_
            refine AllReadyH.cons (o := ⟨none, _, _, _, _, _⟩) rfl (fun K hK => ?_) AllReadyH.nil
            have nz0 := (blk_cell BX8.out 0).trans rfl; have fz0 := blk_frozen BX8.out 0; have nz1 := (blk_cell BX8.out 1).trans rfl; have fz1 := blk_frozen BX8.out 1; have nz2 := (blk_cell BX8.out 2).trans rfl; have fz2 := blk_frozen BX8.out 2; have nz3 := (blk_cell BX8.out 3).trans rfl; have fz3 := blk_frozen BX8.out 3; have nz4 := (blk_cell BX8.out 4).trans rfl; have fz4 := blk_frozen BX8.out 4; have nz5 := (blk_cell BX8.out 5).trans rfl; have fz5 := blk_frozen BX8.out 5
            go_simp
            have HF := Lib.hid (six_belowV HN.out HG8.out (.int .i64 y.f0) (.int .i64 y.f1) (.int .u64 y.f2) (.string y.f3) (.slice F4 y.f4.length f4) (.slice F5 y.f5.length f5))
            refine hK.out _ _ (KEEP.out _ HF.out) (fun hHeld2 => ?_)
            clear nz0 nz1 nz2 nz3 nz4 nz5 fz0 fz1 fz2 fz3 fz4 fz5 HN; have HN := HF; clear HF
            have BM := Lib.hid (six_putV BX8.out (.int .i64 y.f0) (.int .i64 y.f1) (.int .u64 y.f2) (.string y.f3) (.slice F4 y.f4.length f4) (.slice F5 y.f5.length f5)); have BO := Lib.hid ((six_farV NB.out (.int .i64 y.f0) (.int .i64 y.f1) (.int .u64 y.f2) (.string y.f3) (.slice F4 y.f4.length f4) (.slice F5 y.f5.length f5)).trans BX7.out); clear BX7 BX8; have BX8 := BM; have BX7 := BO; clear BM BO
            have R1' := Lib.hid (R1.out.put O17.out (.int .i64 y.f0) (.int .i64 y.f1) (.int .u64 y.f2) (.string y.f3) (.slice F4 y.f4.length f4) (.slice F5 y.f5.length f5)); clear R1; have R1 := R1'; clear R1'; have R2' := Lib.hid (R2.out.put O37.out (.int .i64 y.f0) (.int .i64 y.f1) (.int .u64 y.f2) (.string y.f3) (.slice F4 y.f4.length f4) (.slice F5 y.f5.length f5)); clear R2; have R2 := R2'; clear R2'; have R3' := Lib.hid (R3.out.put O57.out (.int .i64 y.f0) (.int .i64 y.f1) (.int .u64 y.f2) (.string y.f3) (.slice F4 y.f4.length f4) (.slice F5 y.f5.length f5)); clear R3; have R3 := R3'; clear R3'
            clear hK K hHeld; have hHeld := hHeld2; clear hHeld2; (try simp only [Act.put, List.setIfInBounds_toArray, List.set_cons_zero, List.set_cons_succ])
            generalize hgx : ((((((k6.setCell ⟨k4.heap.size, 0, none⟩ (.int .i64 y.f0)).setCell ⟨k4.heap.size, 1, none⟩ (.int .i64 y.f1)).setCell ⟨k4.heap.size, 2, none⟩ (.int .u64 y.f2)).setCell ⟨k4.heap.size, 3, none⟩ (.string y.f3)).setCell ⟨k4.heap.size, 4, none⟩ (.slice F4 y.f4.length f4)).setCell ⟨k4.heap.size, 5, none⟩ (.slice F5 y.f5.length f5)) = k7 at *; clear hgx
            refine wpAnyH_take (i := 10) (oi := ⟨some 9, _, _, _, _, _⟩) (v := ?_) rfl (by as_aux_lemma => kernel_rfl) (by as_aux_lemma => kernel_rfl) (by as_aux_lemma => kernel_rfl) (fun _ _ _ h => h) ?_ (by assumption) ?_; rotate_left; (focus (refine Or.inl ⟨rfl, ?_⟩; intro w hSw; (try dsimp only at hSw); go_simp; (try with_reducible rfl); done)); (try simp only [Act.put, List.setIfInBounds_toArray, List.set_cons_zero, List.set_cons_succ])
            refine wpAnyH_done (by kernel_rfl) ?_ _
            go_wp2
            go_meet
            case rel =>
              exact ⟨_, _, E4, e4, E5, e5, F4, f4, F5, f5, Q, cq, rfl, rfl, rfl, ⟨below_step HB.out HN.out⟩, ⟨blk_below BXA.out HN.out⟩, ⟨blk_below BXB.out HN.out⟩, ⟨BX7.out⟩, ⟨BX8.out⟩, ⟨R1.out.rows⟩, ⟨R2.out.rows⟩, ⟨R3.out.rows⟩⟩
          · go_simp
            have hb := below_alloc (Below.refl k3.heap.size k3) (.cells #[.int .i64 0, .int .i64 0, .int .u64 0, .string ⟨#[]⟩, .slice none 0 0, .slice none 0 0] 26)
            refine hK.out _ _ (KEEP.out _ (below_step HN.out hb)) (fun hHeld2 => ?_)
            have HG8 := Lib.hid (HN.out.size)
            have O17 := Lib.hid (show k3.heap.size < wd.heap.size ∨ k1.heap.size ≤ k3.heap.size from .inr R1.out.top)
            have O37 := Lib.hid (show k3.heap.size < k2.heap.size ∨ k3.heap.size ≤ k3.heap.size from .inr R2.out.top)
            have NB := Lib.hid (Nat.ne_of_lt (blk_lt BX7.out))
            have HN' := Lib.hid (below_step HN.out hb); clear HN; have HN := HN'; clear HN'; have R1' := Lib.hid (R1.out.step hb); clear R1; have R1 := R1'; clear R1'; have R2' := Lib.hid (R2.out.step hb); clear R2; have R2 := R2'; clear R2'; have BX7' := Lib.hid (blk_below BX7.out hb); clear BX7; have BX7 := BX7'; clear BX7'
            have BX8 := Lib.hid (blk_new k3 (.cells #[.int .i64 0, .int .i64 0, .int .u64 0, .string ⟨#[]⟩, .slice none 0 0, .slice none 0 0] 26))
            clear hb; clear hK K hHeld; have hHeld := hHeld2; clear hHeld2; (try simp only [Act.put, List.setIfInBounds_toArray, List.set_cons_zero, List.set_cons_succ])
            generalize hgx : k3.alloc (.cells #[.int .i64 0, .int .i64 0, .int .u64 0, .string ⟨#[]⟩, .slice none 0 0, .slice none 0 0] 26) = k4 at *; clear hgx
            refine wpAnyH_ready (rs := [5]) (by kernel_rfl) (by simp) ?_
            refine AllReadyH.cons (o := ⟨some 27, _, _, _, _, _⟩) rfl (fun K hK => ?_) AllReadyH.nil
            go_simp
            go_at_call 18
            (with_reducible refine (CT.out _ (below_step HB.out HN.out)).mono ?_)
            rintro e k5 ⟨⟨Q, cq, rfl, hk5⟩, hb⟩
            refine hK.out _ _ (KEEP.out _ (below_step HN.out hb)) (fun hHeld2 => ?_)
            have O56 := Lib.hid (show k1.heap.size < k4.heap.size ∨ k5.heap.size ≤ k1.heap.size from .inl (blk_lt BX7.out))
            have O57 := Lib.hid (show k3.heap.size < k4.heap.size ∨ k5.heap.size ≤ k3.heap.size from .inl (blk_lt BX8.out))
            have HN' := Lib.hid (below_step HN.out hb); clear HN; have HN := HN'; clear HN'; have R1' := Lib.hid (R1.out.step hb); clear R1; have R1 := R1'; clear R1'; have R2' := Lib.hid (R2.out.step hb); clear R2; have R2 := R2'; clear R2'; have BX7' := Lib.hid (blk_below BX7.out hb); clear BX7; have BX7 := BX7'; clear BX7'; have BX8' := Lib.hid (blk_below BX8.out hb); clear BX8; have BX8 := BX8'; clear BX8'
            have R3 := Lib.hid (RT.mk hk5)
            clear hb hk5; clear hK K hHeld; have hHeld := hHeld2; clear hHeld2; (try simp only [Act.put, List.setIfInBounds_toArray, List.set_cons_zero, List.set_cons_succ])
            refine wpAnyH_ready (rs := [8]) (by kernel_rfl) (by simp) ?_
            refine AllReadyH.cons (o := ⟨none, _, _, _, _, _⟩) rfl (fun K hK => ?_) AllReadyH.nil
            have nz0 := (blk_cell BX7.out 0).trans rfl; have fz0 := blk_frozen BX7.out 0; have nz1 := (blk_cell BX7.out 1).trans rfl; have fz1 := blk_frozen BX7.out 1; have nz2 := (blk_cell BX7.out 2).trans rfl; have fz2 := blk_frozen BX7.out 2; have nz3 := (blk_cell BX7.out 3).trans rfl; have fz3 := blk_frozen BX7.out 3; have nz4 := (blk_cell BX7.out 4).trans rfl; have fz4 := blk_frozen BX7.out 4; have nz5 := (blk_cell BX7.out 5).trans rfl; have fz5 := blk_frozen BX7.out 5
            go_simp
            have HF := Lib.hid (six_belowV HN.out HG7.out (.int .i64 x.f0) (.int .i64 x.f1) (.int .u64 x.f2) (.string x.f3) (.slice E4 x.f4.length e4) (.slice E5 x.f5.length e5))
            refine hK.out _ _ (KEEP.out _ HF.out) (fun hHeld2 => ?_)
            clear nz0 nz1 nz2 nz3 nz4 nz5 fz0 fz1 fz2 fz3 fz4 fz5 HN; have HN := HF; clear HF
            have BM := Lib.hid (six_putV BX7.out (.int .i64 x.f0) (.int .i64 x.f1) (.int .u64 x.f2) (.string x.f3) (.slice E4 x.f4.length e4) (.slice E5 x.f5.length e5)); have BO := Lib.hid ((six_farV (Ne.symm NB.out) (.int .i64 x.f0) (.int .i64 x.f1) (.int .u64 x.f2) (.string x.f3) (.slice E4 x.f4.length e4) (.slice E5 x.f5.length e5)).trans BX8.out); clear BX7 BX8; have BX7 := BM; have BX8 := BO; clear BM BO
            have R1' := Lib.hid (R1.out.put O16.out (.int .i64 x.f0) (.int .i64 x.f1) (.int .u64 x.f2) (.string x.f3) (.slice E4 x.f4.length e4) (.slice E5 x.f5.length e5)); clear R1; have R1 := R1'; clear R1'; have R2' := Lib.hid (R2.out.put O36.out (.int .i64 x.f0) (.int .i64 x.f1) (.int .u64 x.f2) (.string x.f3) (.slice E4 x.f4.length e4) (.slice E5 x.f5.length e5)); clear R2; have R2 := R2'; clear R2'; have R3' := Lib.hid (R3.out.put O56.out (.int .i64 x.f0) (.int .i64 x.f1) (.int .u64 x.f2) (.string x.f3) (.slice E4 x.f4.length e4) (.slice E5 x.f5.length e5)); clear R3; have R3 := R3'; clear R3'
            clear hK K hHeld; have hHeld := hHeld2; clear hHeld2; (try simp only [Act.put, List.setIfInBounds_toArray, List.set_cons_zero, List.set_cons_succ])
            generalize hgx : ((((((k5.setCell ⟨k1.heap.size, 0, none⟩ (.int .i64 x.f0)).setCell ⟨k1.heap.size, 1, none⟩ (.int .i64 x.f1)).setCell ⟨k1.heap.size, 2, none⟩ (.int .u64 x.f2)).setCell ⟨k1.heap.size, 3, none⟩ (.string x.f3)).setCell ⟨k1.heap.size, 4, none⟩ (.slice E4 x.f4.length e4)).setCell ⟨k1.heap.size, 5, none⟩ (.slice E5 x.f5.length e5)) = k6 at *; clear hgx
            refine wpAnyH_ready (rs := [9]) (by kernel_rfl) (by simp) ?_
            refine AllReadyH.cons (o := ⟨none, _, _, _, _, _⟩) rfl (fun K hK => ?_) AllReadyH.nil
            have nz0 := (blk_cell BX8.out 0).trans rfl; have fz0 := blk_frozen BX8.out 0; have nz1 := (blk_cell BX8.out 1).trans rfl; have fz1 := blk_frozen BX8.out 1; have nz2 := (blk_cell BX8.out 2).trans rfl; have fz2 := blk_frozen BX8.out 2; have nz3 := (blk_cell BX8.out 3).trans rfl; have fz3 := blk_frozen BX8.out 3; have nz4 := (blk_cell BX8.out 4).trans rfl; have fz4 := blk_frozen BX8.out 4; have nz5 := (blk_cell BX8.out 5).trans rfl; have fz5 := blk_frozen BX8.out 5
            go_simp
            have HF := Lib.hid (six_belowV HN.out HG8.out (.int .i64 y.f0) (.int .i64 y.f1) (.int .u64 y.f2) (.string y.f3) (.slice F4 y.f4.length f4) (.slice F5 y.f5.length f5))
            refine hK.out _ _ (KEEP.out _ HF.out) (fun hHeld2 => ?_)
            clear nz0 nz1 nz2 nz3 nz4 nz5 fz0 fz1 fz2 fz3 fz4 fz5 HN; have HN := HF; clear HF
            have BM := Lib.hid (six_putV BX8.out (.int .i64 y.f0) (.int .i64 y.f1) (.int .u64 y.f2) (.string y.f3) (.slice F4 y.f4.length f4) (.slice F5 y.f5.length f5)); have BO := Lib.hid ((six_farV NB.out (.int .i64 y.f0) (.int .i64 y.f1) (.int .u64 y.f2) (.string y.f3) (.slice F4 y.f4.length f4) (.slice F5 y.f5.length f5)).trans BX7.out); clear BX7 BX8; have BX8 := BM; have BX7 := BO; clear BM BO
            have R1' := Lib.hid (R1.out.put O17.out (.int .i64 y.f0) (.int .i64 y.f1) (.int .u64 y.f2) (.string y.f3) (.slice F4 y.f4.length f4) (.slice F5 y.f5.length f5)); clear R1; have R1 := R1'; clear R1'; have R2' := Lib.hid (R2.out.put O37.out (.int .i64 y.f0) (.int .i64 y.f1) (.int .u64 y.f2) (.string y.f3) (.slice F4 y.f4.length f4) (.slice F5 y.f5.length f5)); clear R2; have R2 := R2'; clear R2'; have R3' := Lib.hid (R3.out.put O57.out (.int .i64 y.f0) (.int .i64 y.f1) (.int .u64 y.f2) (.string y.f3) (.slice F4 y.f4.length f4) (.slice F5 y.f5.length f5)); clear R3; have R3 := R3'; clear R3'
            clear hK K hHeld; have hHeld := hHeld2; clear hHeld2; (try simp only [Act.put, List.setIfInBounds_toArray, List.set_cons_zero, List.set_cons_succ])
            generalize hgx : ((((((k6.setCell ⟨k3.heap.size, 0, none⟩ (.int .i64 y.f0)).setCell ⟨k3.heap.size, 1, none⟩ (.int .i64 y.f1)).setCell ⟨k3.heap.size, 2, none⟩ (.int .u64 y.f2)).setCell ⟨k3.heap.size, 3, none⟩ (.string y.f3)).setCell ⟨k3.heap.size, 4, none⟩ (.slice F4 y.f4.length f4)).setCell ⟨k3.heap.size, 5, none⟩ (.slice F5 y.f5.length f5)) = k7 at *; clear hgx
            refine wpAnyH_take (i := 10) (oi := ⟨some 9, _, _, _, _, _⟩) (v := ?_) rfl (by as_aux_lemma => kernel_rfl) (by as_aux_lemma => kernel_rfl) (by as_aux_lemma => kernel_rfl) (fun _ _ _ h => h) ?_ (by assumption) ?_; rotate_left; (focus (refine Or.inl ⟨rfl, ?_⟩; intro w hSw; (try dsimp only at hSw); go_simp; (try with_reducible rfl); done)); (try simp only [Act.put, List.setIfInBounds_toArray, List.set_cons_zero, List.set_cons_succ])
            refine wpAnyH_done (by kernel_rfl) ?_ _
            go_wp2
            go_meet
            case rel =>
              exact ⟨_, _, E4, e4, E5, e5, F4, f4, F5, f5, Q, cq, rfl, rfl, rfl, ⟨below_step HB.out HN.out⟩, ⟨blk_below BXA.out HN.out⟩, ⟨blk_below BXB.out HN.out⟩, ⟨BX7.out⟩, ⟨BX8.out⟩, ⟨R1.out.rows⟩, ⟨R2.out.rows⟩, ⟨R3.out.rows⟩⟩
        · go_simp
          have hb := below_alloc (Below.refl k2.heap.size k2) (.cells #[.int .i64 0, .int .i64 0, .int .u64 0, .string ⟨#[]⟩, .slice none 0 0, .slice none 0 0] 26)
          refine hK.out _ _ (KEEP.out _ (below_step HN.out hb)) (fun hHeld2 => ?_)
          have HG8 := Lib.hid (HN.out.size)
          have O17 := Lib.hid (show k2.heap.size < wd.heap.size ∨ k1.heap.size ≤ k2.heap.size from .inr R1.out.top)
          have NB := Lib.hid (Nat.ne_of_lt (blk_lt BX7.out))
          have HN' := Lib.hid (below_step HN.out hb); clear HN; have HN := HN'; clear HN'; have R1' := Lib.hid (R1.out.step hb); clear R1; have R1 := R1'; clear R1'; have BX7' := Lib.hid (blk_below BX7.out hb); clear BX7; have BX7 := BX7'; clear BX7'
          have BX8 := Lib.hid (blk_new k2 (.cells #[.int .i64 0, .int .i64 0, .int .u64 0, .string ⟨#[]⟩, .slice none 0 0, .slice none 0 0] 26))
          clear hb; clear hK K hHeld; have hHeld := hHeld2; clear hHeld2; (try simp only [Act.put, List.setIfInBounds_toArray, List.set_cons_zero, List.set_cons_succ])
          generalize hgx : k2.alloc (.cells #[.int .i64 0, .int .i64 0, .int .u64 0, .string ⟨#[]⟩, .slice none 0 0, .slice none 0 0] 26) = k3 at *; clear hgx
          refine wpAnyH_ready (rs := [3]) (by kernel_rfl) (by simp) ?_
          refine AllReadyH.cons (o := ⟨some 25, _, _, _, _, _⟩) rfl (fun K hK => ?_) AllReadyH.nil
          go_simp
          go_at_call 17
          (with_reducible refine (CB.out _ (below_step HB.out HN.out)).mono ?_)
          rintro e k4 ⟨⟨F4, f4, F5, f5, rfl, hk4, hk5⟩, hb⟩
          refine hK.out _ _ (KEEP.out _ (below_step HN.out hb)) (fun hHeld2 => ?_)
          have O36 := Lib.hid (show k1.heap.size < k3.heap.size ∨ k4.heap.size ≤ k1.heap.size from .inl (blk_lt BX7.out))
          have O37 := Lib.hid (show k2.heap.size < k3.heap.size ∨ k4.heap.size ≤ k2.heap.size from .inl (blk_lt BX8.out))
          have HN' := Lib.hid (below_step HN.out hb); clear HN; have HN := HN'; clear HN'; have R1' := Lib.hid (R1.out.step hb); clear R1; have R1 := R1'; clear R1'; have BX7' := Lib.hid (blk_below BX7.out hb); clear BX7; have BX7 := BX7'; clear BX7'; have BX8' := Lib.hid (blk_below BX8.out hb); clear BX8; have BX8 := BX8'; clear BX8'
          have R2 := Lib.hid (RW.mk hk4 hk5)
          clear hb hk4 hk5; clear hK K hHeld; have hHeld := hHeld2; clear hHeld2; (try simp only [Act.put, List.setIfInBounds_toArray, List.set_cons_zero, List.set_cons_succ])
          refine wpAnyH_ready (rs := [5]) (by kernel_rfl) (by simp) ?_
          refine AllReadyH.cons (o := ⟨some 27, _, _, _, _, _⟩) rfl (fun K hK => ?_) AllReadyH.nil
          go_simp
          go_at_call 18
          (with_reducible refine (CT.out _ (below_step HB.out HN.out)).mono ?_)
          rintro e k5 ⟨⟨Q, cq, rfl, hk5⟩, hb⟩
          refine hK.out _ _ (KEEP.out _ (below_step HN.out hb)) (fun hHeld2 => ?_)
          have O56 := Lib.hid (show k1.heap.size < k4.heap.size ∨ k5.heap.size ≤ k1.heap.size from .inl (blk_lt BX7.out))
          have O57 := Lib.hid (show k2.heap.size < k4.heap.size ∨ k5.heap.size ≤ k2.heap.size from .inl (blk_lt BX8.out))
          have HN' := Lib.hid (below_step HN.out hb); clear HN; have HN := HN'; clear HN'; have R1' := Lib.hid (R1.out.step hb); clear R1; have R1 := R1'; clear R1'; have R2' := Lib.hid (R2.out.step hb); clear R2; have R2 := R2'; clear R2'; have BX7' := Lib.hid (blk_below BX7.out hb); clear BX7; have BX7 := BX7'; clear BX7'; have BX8' := Lib.hid (blk_below BX8.out hb); clear BX8; have BX8 := BX8'; clear BX8'
          have R3 := Lib.hid (RT.mk hk5)
          clear hb hk5; clear hK K hHeld; have hHeld := hHeld2; clear hHeld2; (try simp only [Act.put, List.setIfInBounds_toArray, List.set_cons_zero, List.set_cons_succ])
          refine wpAnyH_ready (rs := [8]) (by kernel_rfl) (by simp) ?_
          refine AllReadyH.cons (o := ⟨none, _, _, _, _, _⟩) rfl (fun K hK => ?_) AllReadyH.nil
          have nz0 := (blk_cell BX7.out 0).trans rfl; have fz0 := blk_frozen BX7.out 0; have nz1 := (blk_cell BX7.out 1).trans rfl; have fz1 := blk_frozen BX7.out 1; have nz2 := (blk_cell BX7.out 2).trans rfl; have fz2 := blk_frozen BX7.out 2; have nz3 := (blk_cell BX7.out 3).trans rfl; have fz3 := blk_frozen BX7.out 3; have nz4 := (blk_cell BX7.out 4).trans rfl; have fz4 := blk_frozen BX7.out 4; have nz5 := (blk_cell BX7.out 5).trans rfl; have fz5 := blk_frozen BX7.out 5
          go_simp
          have HF := Lib.hid (six_belowV HN.out HG7.out (.int .i64 x.f0) (.int .i64 x.f1) (.int .u64 x.f2) (.string x.f3) (.slice E4 x.f4.length e4) (.slice E5 x.f5.length e5))
          refine hK.out _ _ (KEEP.out _ HF.out) (fun hHeld2 => ?_)
          clear nz0 nz1 nz2 nz3 nz4 nz5 fz0 fz1 fz2 fz3 fz4 fz5 HN; have HN := HF; clear HF
          have BM := Lib.hid (six_putV BX7.out (.int .i64 x.f0) (.int .i64 x.f1) (.int .u64 x.f2) (.string x.f3) (.slice E4 x.f4.length e4) (.slice E5 x.f5.length e5)); have BO := Lib.hid ((six_farV (Ne.symm NB.out) (.int .i64 x.f0) (.int .i64 x.f1) (.int .u64 x.f2) (.string x.f3) (.slice E4 x.f4.length e4) (.slice E5 x.f5.length e5)).trans BX8.out); clear BX7 BX8; have BX7 := BM; have BX8 := BO; clear BM BO
          have R1' := Lib.hid (R1.out.put O16.out (.int .i64 x.f0) (.int .i64 x.f1) (.int .u64 x.f2) (.string x.f3) (.slice E4 x.f4.length e4) (.slice E5 x.f5.length e5)); clear R1; have R1 := R1'; clear R1'; have R2' := Lib.hid (R2.out.put O36.out (.int .i64 x.f0) (.int .i64 x.f1) (.int .u64 x.f2) (.string x.f3) (.slice E4 x.f4.length e4) (.slice E5 x.f5.length e5)); clear R2; have R2 := R2'; clear R2'; have R3' := Lib.hid (R3.out.put O56.out (.int .i64 x.f0) (.int .i64 x.f1) (.int .u64 x.f2) (.string x.f3) (.slice E4 x.f4.length e4) (.slice E5 x.f5.length e5)); clear R3; have R3 := R3'; clear R3'
          clear hK K hHeld; have hHeld := hHeld2; clear hHeld2; (try simp only [Act.put, List.setIfInBounds_toArray, List.set_cons_zero, List.set_cons_succ])
          generalize hgx : ((((((k5.setCell ⟨k1.heap.size, 0, none⟩ (.int .i64 x.f0)).setCell ⟨k1.heap.size, 1, none⟩ (.int .i64 x.f1)).setCell ⟨k1.heap.size, 2, none⟩ (.int .u64 x.f2)).setCell ⟨k1.heap.size, 3, none⟩ (.string x.f3)).setCell ⟨k1.heap.size, 4, none⟩ (.slice E4 x.f4.length e4)).setCell ⟨k1.heap.size, 5, none⟩ (.slice E5 x.f5.length e5)) = k6 at *; clear hgx
          refine wpAnyH_ready (rs := [9]) (by kernel_rfl) (by simp) ?_
          refine AllReadyH.cons (o := ⟨none, _, _, _, _, _⟩) rfl (fun K hK => ?_) AllReadyH.nil
          have nz0 := (blk_cell BX8.out 0).trans rfl; have fz0 := blk_frozen BX8.out 0; have nz1 := (blk_cell BX8.out 1).trans rfl; have fz1 := blk_frozen BX8.out 1; have nz2 := (blk_cell BX8.out 2).trans rfl; have fz2 := blk_frozen BX8.out 2; have nz3 := (blk_cell BX8.out 3).trans rfl; have fz3 := blk_frozen BX8.out 3; have nz4 := (blk_cell BX8.out 4).trans rfl; have fz4 := blk_frozen BX8.out 4; have nz5 := (blk_cell BX8.out 5).trans rfl; have fz5 := blk_frozen BX8.out 5
          go_simp
          have HF := Lib.hid (six_belowV HN.out HG8.out (.int .i64 y.f0) (.int .i64 y.f1) (.int .u64 y.f2) (.string y.f3) (.slice F4 y.f4.length f4) (.slice F5 y.f5.length f5))
          refine hK.out _ _ (KEEP.out _ HF.out) (fun hHeld2 => ?_)
          clear nz0 nz1 nz2 nz3 nz4 nz5 fz0 fz1 fz2 fz3 fz4 fz5 HN; have HN := HF; clear HF
          have BM := Lib.hid (six_putV BX8.out (.int .i64 y.f0) (.int .i64 y.f1) (.int .u64 y.f2) (.string y.f3) (.slice F4 y.f4.length f4) (.slice F5 y.f5.length f5)); have BO := Lib.hid ((six_farV NB.out (.int .i64 y.f0) (.int .i64 y.f1) (.int .u64 y.f2) (.string y.f3) (.slice F4 y.f4.length f4) (.slice F5 y.f5.length f5)).trans BX7.out); clear BX7 BX8; have BX8 := BM; have BX7 := BO; clear BM BO
          have R1' := Lib.hid (R1.out.put O17.out (.int .i64 y.f0) (.int .i64 y.f1) (.int .u64 y.f2) (.string y.f3) (.slice F4 y.f4.length f4) (.slice F5 y.f5.length f5)); clear R1; have R1 := R1'; clear R1'; have R2' := Lib.hid (R2.out.put O37.out (.int .i64 y.f0) (.int .i64 y.f1) (.int .u64 y.f2) (.string y.f3) (.slice F4 y.f4.length f4) (.slice F5 y.f5.length f5)); clear R2; have R2 := R2'; clear R2'; have R3' := Lib.hid (R3.out.put O57.out (.int .i64 y.f0) (.int .i64 y.f1) (.int .u64 y.f2) (.string y.f3) (.slice F4 y.f4.length f4) (.slice F5 y.f5.length f5)); clear R3; have R3 := R3'; clear R3'
          clear hK K hHeld; have hHeld := hHeld2; clear hHeld2; (try simp only [Act.put, List.setIfInBounds_toArray, List.set_cons_zero, List.set_cons_succ])
          generalize hgx : ((((((k6.setCell ⟨k2.heap.size, 0, none⟩ (.int .i64 y.f0)).setCell ⟨k2.heap.size, 1, none⟩ (.int .i64 y.f1)).setCell ⟨k2.heap.size, 2, none⟩ (.int .u64 y.f2)).setCell ⟨k2.heap.size, 3, none⟩ (.string y.f3)).setCell ⟨k2.heap.size, 4, none⟩ (.slice F4 y.f4.length f4)).setCell ⟨k2.heap.size, 5, none⟩ (.slice F5 y.f5.length f5)) = k7 at *; clear hgx
          refine wpAnyH_take (i := 10) (oi := ⟨some 9, _, _, _, _, _⟩) (v := ?_) rfl (by as_aux_lemma => kernel_rfl) (by as_aux_lemma => kernel_rfl) (by as_aux_lemma => kernel_rfl) (fun _ _ _ h => h) ?_ (by assumption) ?_; rotate_left; (focus (refine Or.inl ⟨rfl, ?_⟩; intro w hSw; (try dsimp only at hSw); go_simp; (try with_reducible rfl); done)); (try simp only [Act.put, List.setIfInBounds_toArray, List.set_cons_zero, List.set_cons_succ])
          refine wpAnyH_done (by kernel_rfl) ?_ _
          go_wp2
          go_meet
          case rel =>
            exact ⟨_, _, E4, e4, E5, e5, F4, f4, F5, f5, Q, cq, rfl, rfl, rfl, ⟨below_step HB.out HN.out⟩, ⟨blk_below BXA.out HN.out⟩, ⟨blk_below BXB.out HN.out⟩, ⟨BX7.out⟩, ⟨BX8.out⟩, ⟨R1.out.rows⟩, ⟨R2.out.rows⟩, ⟨R3.out.rows⟩⟩
      · go_simp
        have hb := below_alloc (Below.refl k1.heap.size k1) (.cells #[.int .i64 0, .int .i64 0, .int .u64 0, .string ⟨#[]⟩, .slice none 0 0, .slice none 0 0] 26)
        refine hK.out _ _ (KEEP.out _ (below_step HN.out hb)) (fun hHeld2 => ?_)
        have HG8 := Lib.hid (HN.out.size)
        have O17 := Lib.hid (show k1.heap.size < wd.heap.size ∨ k1.heap.size ≤ k1.heap.size from .inr R1.out.top)
        have HN' := Lib.hid (below_step HN.out hb); clear HN; have HN := HN'; clear HN'; have R1' := Lib.hid (R1.out.step hb); clear R1; have R1 := R1'; clear R1'
        have BX8 := Lib.hid (blk_new k1 (.cells #[.int .i64 0, .int .i64 0, .int .u64 0, .string ⟨#[]⟩, .slice none 0 0, .slice none 0 0] 26))
        clear hb; clear hK K hHeld; have hHeld := hHeld2; clear hHeld2; (try simp only [Act.put, List.setIfInBounds_toArray, List.set_cons_zero, List.set_cons_succ])
        generalize hgx : k1.alloc (.cells #[.int .i64 0, .int .i64 0, .int .u64 0, .string ⟨#[]⟩, .slice none 0 0, .slice none 0 0] 26) = k2 at *; clear hgx
        refine wpAnyH_ready (rs := [3, 6]) (by kernel_rfl) (by simp) ?_
        refine AllReadyH.cons (o := ⟨some 25, _, _, _, _, _⟩) rfl (fun K hK => ?_) (AllReadyH.cons (o := ⟨some 7, _, _, _, _, _⟩) rfl (fun K hK => ?_) AllReadyH.nil)
        · go_simp
          go_at_call 17
          (with_reducible refine (CB.out _ (below_step HB.out HN.out)).mono ?_)
          rintro e k3 ⟨⟨F4, f4, F5, f5, rfl, hk4, hk5⟩, hb⟩
          refine hK.out _ _ (KEEP.out _ (below_step HN.out hb)) (fun hHeld2 => ?_)
          have O37 := Lib.hid (show k1.heap.size < k2.heap.size ∨ k3.heap.size ≤ k1.heap.size from .inl (blk_lt BX8.out))
          have HN' := Lib.hid (below_step HN.out hb); clear HN; have HN := HN'; clear HN'; have R1' := Lib.hid (R1.out.step hb); clear R1; have R1 := R1'; clear R1'; have BX8' := Lib.hid (blk_below BX8.out hb); clear BX8; have BX8 := BX8'; clear BX8'
          have R2 := Lib.hid (RW.mk hk4 hk5)
          clear hb hk4 hk5; clear hK K hHeld; have hHeld := hHeld2; clear hHeld2; (try simp only [Act.put, List.setIfInBounds_toArray, List.set_cons_zero, List.set_cons_succ])
          refine wpAnyH_ready (rs := [5, 6]) (by kernel_rfl) (by simp) ?_
          refine AllReadyH.cons (o := ⟨some 27, _, _, _, _, _⟩) rfl (fun K hK => ?_) (AllReadyH.cons (o := ⟨some 7, _, _, _, _, _⟩) rfl (fun K hK => ?_) AllReadyH.nil)
          · go_simp
            go_at_call 18
            (with_reducible refine (CT.out _ (below_step HB.out HN.out)).mono ?_)
            rintro e k4 ⟨⟨Q, cq, rfl, hk5⟩, hb⟩
            refine hK.out _ _ (KEEP.out _ (below_step HN.out hb)) (fun hHeld2 => ?_)
            have O57 := Lib.hid (show k1.heap.size < k3.heap.size ∨ k4.heap.size ≤ k1.heap.size from .inl (blk_lt BX8.out))
            have HN' := Lib.hid (below_step HN.out hb); clear HN; have HN := HN'; clear HN'; have R1' := Lib.hid (R1.out.step hb); clear R1; have R1 := R1'; clear R1'; have R2' := Lib.hid (R2.out.step hb); clear R2; have R2 := R2'; clear R2'; have BX8' := Lib.hid (blk_below BX8.out hb); clear BX8; have BX8 := BX8'; clear BX8'
            have R3 := Lib.hid (RT.mk hk5)
            clear hb hk5; clear hK K hHeld; have hHeld := hHeld2; clear hHeld2; (try simp only [Act.put, List.setIfInBounds_toArray, List.set_cons_zero, List.set_cons_succ])
            refine wpAnyH_ready (rs := [6]) (by kernel_rfl) (by simp) ?_
            refine AllReadyH.cons (o := ⟨some 7, _, _, _, _, _⟩) rfl (fun K hK => ?_) AllReadyH.nil
            go_simp
            have hb := below_alloc (Below.refl k4.heap.size k4) (.cells #[.int .i64 0, .int .i64 0, .int .u64 0, .string ⟨#[]⟩, .slice none 0 0, .slice none 0 0] 26)
            refine hK.out _ _ (KEEP.out _ (below_step HN.out hb)) (fun hHeld2 => ?_)
            have HG7 := Lib.hid (HN.out.size)
            have O16 := Lib.hid (show k4.heap.size < wd.heap.size ∨ k1.heap.size ≤ k4.heap.size from .inr R1.out.top)
            have O36 := Lib.hid (show k4.heap.size < k2.heap.size ∨ k3.heap.size ≤ k4.heap.size from .inr R2.out.top)
            have O56 := Lib.hid (show k4.heap.size < k3.heap.size ∨ k4.heap.size ≤ k4.heap.size from .inr R3.out.top)
            have NB := Lib.hid (Nat.ne_of_lt (blk_lt BX8.out))
            have HN' := Lib.hid (below_step HN.out hb); clear HN; have HN := HN'; clear HN'; have R1' := Lib.hid (R1.out.step hb); clear R1; have R1 := R1'; clear R1'; have R2' := Lib.hid (R2.out.step hb); clear R2; have R2 := R2'; clear R2'; have R3' := Lib.hid (R3.out.step hb); clear R3; have R3 := R3'; clear R3'; have BX8' := Lib.hid (blk_below BX8.out hb); clear BX8; have BX8 := BX8'; clear BX8'
            have BX7 := Lib.hid (blk_new k4 (.cells #[.int .i64 0, .int .i64 0, .int .u64 0, .string ⟨#[]⟩, .slice none 0 0, .slice none 0 0] 26))
            clear hb; clear hK K hHeld; have hHeld := hHeld2; clear hHeld2; (try simp only [Act.put, List.setIfInBounds_toArray, List.set_cons_zero, List.set_cons_succ])
            generalize hgx : k4.alloc (.cells #[.int .i64 0, .int .i64 0, .int .u64 0, .string ⟨#[]⟩, .slice none 0 0, .slice none 0 0] 26) = k5 at *; clear hgx
            refine wpAnyH_ready (rs := [8]) (by kernel_rfl) (by simp) ?_
            refine AllReadyH.cons (o := ⟨none, _, _, _, _, _⟩) rfl (fun K hK => ?_) AllReadyH.nil
            have nz0 := (blk_cell BX7.out 0).trans rfl; have fz0 := blk_frozen BX7.out 0; have nz1 := (blk_cell BX7.out 1).trans rfl; have fz1 := blk_frozen BX7.out 1; have nz2 := (blk_cell BX7.out 2).trans rfl; have fz2 := blk_frozen BX7.out 2; have nz3 := (blk_cell BX7.out 3).trans rfl; have fz3 := blk_frozen BX7.out 3; have nz4 := (blk_cell BX7.out 4).trans rfl; have fz4 := blk_frozen BX7.out 4; have nz5 := (blk_cell BX7.out 5).trans rfl; have fz5 := blk_frozen BX7.out 5
            go_simp
            have HF := Lib.hid (six_belowV HN.out HG7.out (.int .i64 x.f0) (.int .i64 x.f1) (.int .u64 x.f2) (.string x.f3) (.slice E4 x.f4.length e4) (.slice E5 x.f5.length e5))
            refine hK.out _ _ (KEEP.out _ HF.out) (fun hHeld2 => ?_)
            clear nz0 nz1 nz2 nz3 nz4 nz5 fz0 fz1 fz2 fz3 fz4 fz5 HN; have HN := HF; clear HF
            have BM := Lib.hid (six_putV BX7.out (.int .i64 x.f0) (.int .i64 x.f1) (.int .u64 x.f2) (.string x.f3) (.slice E4 x.f4.length e4) (.slice E5 x.f5.length e5)); have BO := Lib.hid ((six_farV NB.out (.int .i64 x.f0) (.int .i64 x.f1) (.int .u64 x.f2) (.string x.f3) (.slice E4 x.f4.length e4) (.slice E5 x.f5.length e5)).trans BX8.out); clear BX7 BX8; have BX7 := BM; have BX8 := BO; clear BM BO
            have R1' := Lib.hid (R1.out.put O16.out (.int .i64 x.f0) (.int .i64 x.f1) (.int .u64 x.f2) (.string x.f3) (.slice E4 x.f4.length e4) (.slice E5 x.f5.length e5)); clear R1; have R1 := R1'; clear R1'; have R2' := Lib.hid (R2.out.put O36.out (.int .i64 x.f0) (.int .i64 x.f1) (.int .u64 x.f2) (.string x.f3) (.slice E4 x.f4.length e4) (.slice E5 x.f5.length e5)); clear R2; have R2 := R2'; clear R2'; have R3' := Lib.hid (R3.out.put O56.out (.int .i64 x.f0) (.int .i64 x.f1) (.int .u64 x.f2) (.string x.f3) (.slice E4 x.f4.length e4) (.slice E5 x.f5.length e5)); clear R3; have R3 := R3'; clear R3'
            clear hK K hHeld; have hHeld := hHeld2; clear hHeld2; (try simp only [Act.put, List.setIfInBounds_toArray, List.set_cons_zero, List.set_cons_succ])
            generalize hgx : ((((((k5.setCell ⟨k4.heap.size, 0, none⟩ (.int .i64 x.f0)).setCell ⟨k4.heap.size, 1, none⟩ (.int .i64 x.f1)).setCell ⟨k4.heap.size, 2, none⟩ (.int .u64 x.f2)).setCell ⟨k4.heap.size, 3, none⟩ (.string x.f3)).setCell ⟨k4.heap.size, 4, none⟩ (.slice E4 x.f4.length e4)).setCell ⟨k4.heap.size, 5, none⟩ (.slice E5 x.f5.length e5)) = k6 at *; clear hgx
            refine wpAnyH_ready (rs := [9]) (by kernel_rfl) (by simp) ?_
            refine AllReadyH.cons (o := ⟨none, _, _, _, _, _⟩) rfl (fun K hK => ?_) AllReadyH.nil
            have nz0 := (blk_cell BX8.out 0).trans rfl; have fz0 := blk_frozen BX8.out 0; have nz1 := (blk_cell BX8.out 1).trans rfl; have fz1 := blk_frozen BX8.out 1; have nz2 := (blk_cell BX8.out 2).trans rfl; have fz2 := blk_frozen BX8.out 2; have nz3 := (blk_cell BX8.out 3).trans rfl; have fz3 := blk_frozen BX8.out 3; have nz4 := (blk_cell BX8.out 4).trans rfl; have fz4 := blk_frozen BX8.out 4; have nz5 := (blk_cell BX8.out 5).trans rfl; have fz5 := blk_frozen BX8.out 5
            go_simp
            have HF := Lib.hid (six_belowV HN.out HG8.out (.int .i64 y.f0) (.int .i64 y.f1) (.int .u64 y.f2) (.string y.f3) (.slice F4 y.f4.length f4) (.slice F5 y.f5.length f5))
            refine hK.out _ _ (KEEP.out _ HF.out) (fun hHeld2 => ?_)
            clear nz0 nz1 nz2 nz3 nz4 nz5 fz0 fz1 fz2 fz3 fz4 fz5 HN; have HN := HF; clear HF
            have BM := Lib.hid (six_putV BX8.out (.int .i64 y.f0) (.int .i64 y.f1) (.int .u64 y.f2) (.string y.f3) (.slice F4 y.f4.length f4) (.slice F5 y.f5.length f5)); have BO := Lib.hid ((six_farV (Ne.symm NB.out) (.int .i64 y.f0) (.int .i64 y.f1) (.int .u64 y.f2) (.string y.f3) (.slice F4 y.f4.length f4) (.slice F5 y.f5.length f5)).trans BX7.out); clear BX7 BX8; have BX8 := BM; have BX7 := BO; clear BM BO
            have R1' := Lib.hid (R1.out.put O17.out (.int .i64 y.f0) (.int .i64 y.f1) (.int .u64 y.f2) (.string y.f3) (.slice F4 y.f4.length f4) (.slice F5 y.f5.length f5)); clear R1; have R1 := R1'; clear R1'; have R2' := Lib.hid (R2.out.put O37.out (.int .i64 y.f0) (.int .i64 y.f1) (.int .u64 y.f2) (.string y.f3) (.slice F4 y.f4.length f4) (.slice F5 y.f5.length f5)); clear R2; have R2 := R2'; clear R2'; have R3' := Lib.hid (R3.out.put O57.out (.int .i64 y.f0) (.int .i64 y.f1) (.int .u64 y.f2) (.string y.f3) (.slice F4 y.f4.length f4) (.slice F5 y.f5.length f5)); clear R3; have R3 := R3'; clear R3'
            clear hK K hHeld; have hHeld := hHeld2; clear hHeld2; (try simp only [Act.put, List.setIfInBounds_toArray, List.set_cons_zero, List.set_cons_succ])
            generalize hgx : ((((((k6.setCell ⟨k1.heap.size, 0, none⟩ (.int .i64 y.f0)).setCell ⟨k1.heap.size, 1, none⟩ (.int .i64 y.f1)).setCell ⟨k1.heap.size, 2, none⟩ (.int .u64 y.f2)).setCell ⟨k1.heap.size, 3, none⟩ (.string y.f3)).setCell ⟨k1.heap.size, 4, none⟩ (.slice F4 y.f4.length f4)).setCell ⟨k1.heap.size, 5, none⟩ (.slice F5 y.f5.length f5)) = k7 at *; clear hgx
            refine wpAnyH_take (i := 10) (oi := ⟨some 9, _, _, _, _, _⟩) (v := ?_) rfl (by as_aux_lemma => kernel_rfl) (by as_aux_lemma => kernel_rfl) (by as_aux_lemma => kernel_rfl) (fun _ _ _ h => h) ?_ (by assumption) ?_; rotate_left; (focus (refine Or.inl ⟨rfl, ?_⟩; intro w hSw; (try dsimp only at hSw); go_simp; (try with_reducible rfl); done)); (try simp only [Act.put, List.setIfInBounds_toArray, List.set_cons_zero, List.set_cons_succ])
            refine wpAnyH_done (by kernel_rfl) ?_ _
            go_wp2
            go_meet
            case rel =>
              exact ⟨_, _, E4, e4, E5, e5, F4, f4, F5, f5, Q, cq, rfl, rfl, rfl, ⟨below_step HB.out HN.out⟩, ⟨blk_below BXA.out HN.out⟩, ⟨blk_below BXB.out HN.out⟩, ⟨BX7.out⟩, ⟨BX8.out⟩, ⟨R1.out.rows⟩, ⟨R2.out.rows⟩, ⟨R3.out.rows⟩⟩
          · go_simp
            have hb := below_alloc (Below.refl k3.heap.size k3) (.cells #[.int .i64 0, .int .i64 0, .int .u64 0, .string ⟨#[]⟩, .slice none 0 0, .slice none 0 0] 26)
            refine hK.out _ _ (KEEP.out _ (below_step HN.out hb)) (fun hHeld2 => ?_)
            have HG7 := Lib.hid (HN.out.size)
            have O16 := Lib.hid (show k3.heap.size < wd.heap.size ∨ k1.heap.size ≤ k3.heap.size from .inr R1.out.top)
            have O36 := Lib.hid (show k3.heap.size < k2.heap.size ∨ k3.heap.size ≤ k3.heap.size from .inr R2.out.top)
            have NB := Lib.hid (Nat.ne_of_lt (blk_lt BX8.out))
            have HN' := Lib.hid (below_step HN.out hb); clear HN; have HN := HN'; clear HN'; have R1' := Lib.hid (R1.out.step hb); clear R1; have R1 := R1'; clear R1'; have R2' := Lib.hid (R2.out.step hb); clear R2; have R2 := R2'; clear R2'; have BX8' := Lib.hid (blk_below BX8.out hb); clear BX8; have BX8 := BX8'; clear BX8'
            have BX7 := Lib.hid (blk_new k3 (.cells #[.int .i64 0, .int .i64 0, .int .u64 0, .string ⟨#[]⟩, .slice none 0 0, .slice none 0 0] 26))
            clear hb; clear hK K hHeld; have hHeld := hHeld2; clear hHeld2; (try simp only [Act.put, List.setIfInBounds_toArray, List.set_cons_zero, List.set_cons_succ])
            generalize hgx : k3.alloc (.cells #[.int .i64 0, .int .i64 0, .int .u64 0, .string ⟨#[]⟩, .slice none 0 0, .slice none 0 0] 26) = k4 at *; clear hgx
            refine wpAnyH_ready (rs := [5]) (by kernel_rfl) (by simp) ?_
            refine AllReadyH.cons (o := ⟨some 27, _, _, _, _, _⟩) rfl (fun K hK => ?_) AllReadyH.nil
            go_simp
            go_at_call 18
            (with_reducible refine (CT.out _ (below_step HB.out HN.out)).mono ?_)
            rintro e k5 ⟨⟨Q, cq, rfl, hk5⟩, hb⟩
            refine hK.out _ _ (KEEP.out _ (below_step HN.out hb)) (fun hHeld2 => ?_)
            have O56 := Lib.hid (show k3.heap.size < k4.heap.size ∨ k5.heap.size ≤ k3.heap.size from .inl (blk_lt BX7.out))
            have O57 := Lib.hid (show k1.heap.size < k4.heap.size ∨ k5.heap.size ≤ k1.heap.size from .inl (blk_lt BX8.out))
            have HN' := Lib.hid (below_step HN.out hb); clear HN; have HN := HN'; clear HN'; have R1' := Lib.hid (R1.out.step hb); clear R1; have R1 := R1'; clear R1'; have R2' := Lib.hid (R2.out.step hb); clear R2; have R2 := R2'; clear R2'; have BX7' := Lib.hid (blk_below BX7.out hb); clear BX7; have BX7 := BX7'; clear BX7'; have BX8' := Lib.hid (blk_below BX8.out hb); clear BX8; have BX8 := BX8'; clear BX8'
            have R3 := Lib.hid (RT.mk hk5)
            clear hb hk5; clear hK K hHeld; have hHeld := hHeld2; clear hHeld2; (try simp only [Act.put, List.setIfInBounds_toArray, List.set_cons_zero, List.set_cons_succ])
            refine wpAnyH_ready (rs := [8]) (by kernel_rfl) (by simp) ?_
            refine AllReadyH.cons (o := ⟨none, _, _, _, _, _⟩) rfl (fun K hK => ?_) AllReadyH.nil
            have nz0 := (blk_cell BX7.out 0).trans rfl; have fz0 := blk_frozen BX7.out 0; have nz1 := (blk_cell BX7.out 1).trans rfl; have fz1 := blk_frozen BX7.out 1; have nz2 := (blk_cell BX7.out 2).trans rfl; have fz2 := blk_frozen BX7.out 2; have nz3 := (blk_cell BX7.out 3).trans rfl; have fz3 := blk_frozen BX7.out 3; have nz4 := (blk_cell BX7.out 4).trans rfl; have fz4 := blk_frozen BX7.out 4; have nz5 := (blk_cell BX7.out 5).trans rfl; have fz5 := blk_frozen BX7.out 5
            go_simp
            have HF := Lib.hid (six_belowV HN.out HG7.out (.int .i64 x.f0) (.int .i64 x.f1) (.int .u64 x.f2) (.string x.f3) (.slice E4 x.f4.length e4) (.slice E5 x.f5.length e5))
            refine hK.out _ _ (KEEP.out _ HF.out) (fun hHeld2 => ?_)
            clear nz0 nz1 nz2 nz3 nz4 nz5 fz0 fz1 fz2 fz3 fz4 fz5 HN; have HN := HF; clear HF
            have BM := Lib.hid (six_putV BX7.out (.int .i64 x.f0) (.int .i64 x.f1) (.int .u64 x.f2) (.string x.f3) (.slice E4 x.f4.length e4) (.slice E5 x.f5.length e5)); have BO := Lib.hid ((six_farV NB.out (.int .i64 x.f0) (.int .i64 x.f1) (.int .u64 x.f2) (.string x.f3) (.slice E4 x.f4.length e4) (.slice E5 x.f5.length e5)).trans BX8.out); clear BX7 BX8; have BX7 := BM; have BX8 := BO; clear BM BO
            have R1' := Lib.hid (R1.out.put O16.out (.int .i64 x.f0) (.int .i64 x.f1) (.int .u64 x.f2) (.string x.f3) (.slice E4 x.f4.length e4) (.slice E5 x.f5.length e5)); clear R1; have R1 := R1'; clear R1'; have R2' := Lib.hid (R2.out.put O36.out (.int .i64 x.f0) (.int .i64 x.f1) (.int .u64 x.f2) (.string x.f3) (.slice E4 x.f4.length e4) (.slice E5 x.f5.length e5)); clear R2; have R2 := R2'; clear R2'; have R3' := Lib.hid (R3.out.put O56.out (.int .i64 x.f0) (.int .i64 x.f1) (.int .u64 x.f2) (.string x.f3) (.slice E4 x.f4.length e4) (.slice E5 x.f5.length e5)); clear R3; have R3 := R3'; clear R3'
            clear hK K hHeld; have hHeld := hHeld2; clear hHeld2; (try simp only [Act.put, List.setIfInBounds_toArray, List.set_cons_zero, List.set_cons_succ])
            generalize hgx : ((((((k5.setCell ⟨k3.heap.size, 0, none⟩ (.int .i64 x.f0)).setCell ⟨k3.heap.size, 1, none⟩ (.int .i64 x.f1)).setCell ⟨k3.heap.size, 2, none⟩ (.int .u64 x.f2)).setCell ⟨k3.heap.size, 3, none⟩ (.string x.f3)).setCell ⟨k3.heap.size, 4, none⟩ (.slice E4 x.f4.length e4)).setCell ⟨k3.heap.size, 5, none⟩ (.slice E5 x.f5.length e5)) = k6 at *; clear hgx
            refine wpAnyH_ready (rs := [9]) (by kernel_rfl) (by simp) ?_
            refine AllReadyH.cons (o := ⟨none, _, _, _, _, _⟩) rfl (fun K hK => ?_) AllReadyH.nil
            have nz0 := (blk_cell BX8.out 0).trans rfl; have fz0 := blk_frozen BX8.out 0; have nz1 := (blk_cell BX8.out 1).trans rfl; have fz1 := blk_frozen BX8.out 1; have nz2 := (blk_cell BX8.out 2).trans rfl; have fz2 := blk_frozen BX8.out 2; have nz3 := (blk_cell BX8.out 3).trans rfl; have fz3 := blk_frozen BX8.out 3; have nz4 := (blk_cell BX8.out 4).trans rfl; have fz4 := blk_frozen BX8.out 4; have nz5 := (blk_cell BX8.out 5).trans rfl; have fz5 := blk_frozen BX8.out 5
            go_simp
            have HF := Lib.hid (six_belowV HN.out HG8.out (.int .i64 y.f0) (.int .i64 y.f1) (.int .u64 y.f2) (.string y.f3) (.slice F4 y.f4.length f4) (.slice F5 y.f5.length f5))
            refine hK.out _ _ (KEEP.out _ HF.out) (fun hHeld2 => ?_)
            clear nz0 nz1 nz2 nz3 nz4 nz5 fz0 fz1 fz2 fz3 fz4 fz5 HN; have HN := HF; clear HF
            have BM := Lib.hid (six_putV BX8.out (.int .i64 y.f0) (.int .i64 y.f1) (.int .u64 y.f2) (.string y.f3) (.slice F4 y.f4.length f4) (.slice F5 y.f5.length f5)); have BO := Lib.hid ((six_farV (Ne.symm NB.out) (.int .i64 y.f0) (.int .i64 y.f1) (.int .u64 y.f2) (.string y.f3) (.slice F4 y.f4.length f4) (.slice F5 y.f5.length f5)).trans BX7.out); clear BX7 BX8; have BX8 := BM; have BX7 := BO; clear BM BO
            have R1' := Lib.hid (R1.out.put O17.out (.int .i64 y.f0) (.int .i64 y.f1) (.int .u64 y.f2) (.string y.f3) (.slice F4 y.f4.length f4) (.slice F5 y.f5.length f5)); clear R1; have R1 := R1'; clear R1'; have R2' := Lib.hid (R2.out.put O37.out (.int .i64 y.f0) (.int .i64 y.f1) (.int .u64 y.f2) (.string y.f3) (.slice F4 y.f4.length f4) (.slice F5 y.f5.length f5)); clear R2; have R2 := R2'; clear R2'; have R3' := Lib.hid (R3.out.put O57.out (.int .i64 y.f0) (.int .i64 y.f1) (.int .u64 y.f2) (.string y.f3) (.slice F4 y.f4.length f4) (.slice F5 y.f5.length f5)); clear R3; have R3 := R3'; clear R3'
            clear hK K hHeld; have hHeld := hHeld2; clear hHeld2; (try simp only [Act.put, List.setIfInBounds_toArray, List.set_cons_zero, List.set_cons_succ])
            generalize hgx : ((((((k6.setCell ⟨k1.heap.size, 0, none⟩ (.int .i64 y.f0)).setCell ⟨k1.heap.size, 1, none⟩ (.int .i64 y.f1)).setCell ⟨k1.heap.size, 2, none⟩ (.int .u64 y.f2)).setCell ⟨k1.heap.size, 3, none⟩ (.string y.f3)).setCell ⟨k1.heap.size, 4, none⟩ (.slice F4 y.f4.length f4)).setCell ⟨k1.heap.size, 5, none⟩ (.slice F5 y.f5.length f5)) = k7 at *; clear hgx
            refine wpAnyH_take (i := 10) (oi := ⟨some 9, _, _, _, _, _⟩) (v := ?_) rfl (by as_aux_lemma => kernel_rfl) (by as_aux_lemma => kernel_rfl) (by as_aux_lemma => kernel_rfl) (fun _ _ _ h => h) ?_ (by assumption) ?_; rotate_left; (focus (refine Or.inl ⟨rfl, ?_⟩; intro w hSw; (try dsimp only at hSw); go_simp; (try with_reducible rfl); done)); (try simp only [Act.put, List.setIfInBounds_toArray, List.set_cons_zero, List.set_cons_succ])
            refine wpAnyH_done (by kernel_rfl) ?_ _
            go_wp2
            go_meet
            case rel =>
              exact ⟨_, _, E4, e4, E5, e5, F4, f4, F5, f5, Q, cq, rfl, rfl, rfl, ⟨below_step HB.out HN.out⟩, ⟨blk_below BXA.out HN.out⟩, ⟨blk_below BXB.out HN.out⟩, ⟨BX7.out⟩, ⟨BX8.out⟩, ⟨R1.out.rows⟩, ⟨R2.out.rows⟩, ⟨R3.out.rows⟩⟩
        · go_simp
          have hb := below_alloc (Below.refl k2.heap.size k2) (.cells #[.int .i64 0, .int .i64 0, .int .u64 0, .string ⟨#[]⟩, .slice none 0 0, .slice none 0 0] 26)
          refine hK.out _ _ (KEEP.out _ (below_step HN.out hb)) (fun hHeld2 => ?_)
          have HG7 := Lib.hid (HN.out.size)
          have O16 := Lib.hid (show k2.heap.size < wd.heap.size ∨ k1.heap.size ≤ k2.heap.size from .inr R1.out.top)
          have NB := Lib.hid (Nat.ne_of_lt (blk_lt BX8.out))
          have HN' := Lib.hid (below_step HN.out hb); clear HN; have HN := HN'; clear HN'; have R1' := Lib.hid (R1.out.step hb); clear R1; have R1 := R1'; clear R1'; have BX8' := Lib.hid (blk_below BX8.out hb); clear BX8; have BX8 := BX8'; clear BX8'
          have BX7 := Lib.hid (blk_new k2 (.cells #[.int .i64 0, .int .i64 0, .int .u64 0, .string ⟨#[]⟩, .slice none 0 0, .slice none 0 0] 26))
          clear hb; clear hK K hHeld; have hHeld := hHeld2; clear hHeld2; (try simp only [Act.put, List.setIfInBounds_toArray, List.set_cons_zero, List.set_cons_succ])
          generalize hgx : k2.alloc (.cells #[.int .i64 0, .int .i64 0, .int .u64 0, .string ⟨#[]⟩, .slice none 0 0, .slice none 0 0] 26) = k3 at *; clear hgx
          refine wpAnyH_ready (rs := [3]) (by kernel_rfl) (by simp) ?_
          refine AllReadyH.cons (o := ⟨some 25, _, _, _, _, _⟩) rfl (fun K hK => ?_) AllReadyH.nil
          go_simp
          go_at_call 17
          (with_reducible refine (CB.out _ (below_step HB.out HN.out)).mono ?_)
          rintro e k4 ⟨⟨F4, f4, F5, f5, rfl, hk4, hk5⟩, hb⟩
          refine hK.out _ _ (KEEP.out _ (below_step HN.out hb)) (fun hHeld2 => ?_)
          have O36 := Lib.hid (show k2.heap.size < k3.heap.size ∨ k4.heap.size ≤ k2.heap.size from .inl (blk_lt BX7.out))
          have O37 := Lib.hid (show k1.heap.size < k3.heap.size ∨ k4.heap.size ≤ k1.heap.size from .inl (blk_lt BX8.out))
          have HN' := Lib.hid (below_step HN.out hb); clear HN; have HN := HN'; clear HN'; have R1' := Lib.hid (R1.out.step hb); clear R1; have R1 := R1'; clear R1'; have BX7' := Lib.hid (blk_below BX7.out hb); clear BX7; have BX7 := BX7'; clear BX7'; have BX8' := Lib.hid (blk_below BX8.out hb); clear BX8; have BX8 := BX8'; clear BX8'
          have R2 := Lib.hid (RW.mk hk4 hk5)
          clear hb hk4 hk5; clear hK K hHeld; have hHeld := hHeld2; clear hHeld2; (try simp only [Act.put, List.setIfInBounds_toArray, List.set_cons_zero, List.set_cons_succ])
          refine wpAnyH_ready (rs := [5]) (by kernel_rfl) (by simp) ?_
          refine AllReadyH.cons (o := ⟨some 27, _, _, _, _, _⟩) rfl (fun K hK => ?_) AllReadyH.nil
          go_simp
          go_at_call 18
          (with_reducible refine (CT.out _ (below_step HB.out HN.out)).mono ?_)
          rintro e k5 ⟨⟨Q, cq, rfl, hk5⟩, hb⟩
          refine hK.out _ _ (KEEP.out _ (below_step HN.out hb)) (fun hHeld2 => ?_)
          have O56 := Lib.hid (show k2.heap.size < k4.heap.size ∨ k5.heap.size ≤ k2.heap.size from .inl (blk_lt BX7.out))
          have O57 := Lib.hid (show k1.heap.size < k4.heap.size ∨ k5.heap.size ≤ k1.heap.size from .inl (blk_lt BX8.out))
          have HN' := Lib.hid (below_step HN.out hb); clear HN; have HN := HN'; clear HN'; have R1' := Lib.hid (R1.out.step hb); clear R1; have R1 := R1'; clear R1'; have R2' := Lib.hid (R2.out.step hb); clear R2; have R2 := R2'; clear R2'; have BX7' := Lib.hid (blk_below BX7.out hb); clear BX7; have BX7 := BX7'; clear BX7'; have BX8' := Lib.hid (blk_below BX8.out hb); clear BX8; have BX8 := BX8'; clear BX8'
          have R3 := Lib.hid (RT.mk hk5)
          clear hb hk5; clear hK K hHeld; have hHeld := hHeld2; clear hHeld2; (try simp only [Act.put, List.setIfInBounds_toArray, List.set_cons_zero, List.set_cons_succ])
          refine wpAnyH_ready (rs := [8]) (by kernel_rfl) (by simp) ?_
          refine AllReadyH.cons (o := ⟨none, _, _, _, _, _⟩) rfl (fun K hK => ?_) AllReadyH.nil
          have nz0 := (blk_cell BX7.out 0).trans rfl; have fz0 := blk_frozen BX7.out 0; have nz1 := (blk_cell BX7.out 1).trans rfl; have fz1 := blk_frozen BX7.out 1; have nz2 := (blk_cell BX7.out 2).trans rfl; have fz2 := blk_frozen BX7.out 2; have nz3 := (blk_cell BX7.out 3).trans rfl; have fz3 := blk_frozen BX7.out 3; have nz4 := (blk_cell BX7.out 4).trans rfl; have fz4 := blk_frozen BX7.out 4; have nz5 := (blk_cell BX7.out 5).trans rfl; have fz5 := blk_frozen BX7.out 5
          go_simp
          have HF := Lib.hid (six_belowV HN.out HG7.out (.int .i64 x.f0) (.int .i64 x.f1) (.int .u64 x.f2) (.string x.f3) (.slice E4 x.f4.length e4) (.slice E5 x.f5.length e5))
          refine hK.out _ _ (KEEP.out _ HF.out) (fun hHeld2 => ?_)
          clear nz0 nz1 nz2 nz3 nz4 nz5 fz0 fz1 fz2 fz3 fz4 fz5 HN; have HN := HF; clear HF
          have BM := Lib.hid (six_putV BX7.out (.int .i64 x.f0) (.int .i64 x.f1) (.int .u64 x.f2) (.string x.f3) (.slice E4 x.f4.length e4) (.slice E5 x.f5.length e5)); have BO := Lib.hid ((six_farV NB.out (.int .i64 x.f0) (.int .i64 x.f1) (.int .u64 x.f2) (.string x.f3) (.slice E4 x.f4.length e4) (.slice E5 x.f5.length e5)).trans BX8.out); clear BX7 BX8; have BX7 := BM; have BX8 := BO; clear BM BO
          have R1' := Lib.hid (R1.out.put O16.out (.int .i64 x.f0) (.int .i64 x.f1) (.int .u64 x.f2) (.string x.f3) (.slice E4 x.f4.length e4) (.slice E5 x.f5.length e5)); clear R1; have R1 := R1'; clear R1'; have R2' := Lib.hid (R2.out.put O36.out (.int .i64 x.f0) (.int .i64 x.f1) (.int .u64 x.f2) (.string x.f3) (.slice E4 x.f4.length e4) (.slice E5 x.f5.length e5)); clear R2; have R2 := R2'; clear R2'; have R3' := Lib.hid (R3.out.put O56.out (.int .i64 x.f0) (.int .i64 x.f1) (.int .u64 x.f2) (.string x.f3) (.slice E4 x.f4.length e4) (.slice E5 x.f5.length e5)); clear R3; have R3 := R3'; clear R3'
          clear hK K hHeld; have hHeld := hHeld2; clear hHeld2; (try simp only [Act.put, List.setIfInBounds_toArray, List.set_cons_zero, List.set_cons_succ])
          generalize hgx : ((((((k5.setCell ⟨k2.heap.size, 0, none⟩ (.int .i64 x.f0)).setCell ⟨k2.heap.size, 1, none⟩ (.int .i64 x.f1)).setCell ⟨k2.heap.size, 2, none⟩ (.int .u64 x.f2)).setCell ⟨k2.heap.size, 3, none⟩ (.string x.f3)).setCell ⟨k2.heap.size, 4, none⟩ (.slice E4 x.f4.length e4)).setCell ⟨k2.heap.size, 5, none⟩ (.slice E5 x.f5.length e5)) = k6 at *; clear hgx
          refine wpAnyH_ready (rs := [9]) (by kernel_rfl) (by simp) ?_
          refine AllReadyH.cons (o := ⟨none, _, _, _, _, _⟩) rfl (fun K hK => ?_) AllReadyH.nil
          have nz0 := (blk_cell BX8.out 0).trans rfl; have fz0 := blk_frozen BX8.out 0; have nz1 := (blk_cell BX8.out 1).trans rfl; have fz1 := blk_frozen BX8.out 1; have nz2 := (blk_cell BX8.out 2).trans rfl; have fz2 := blk_frozen BX8.out 2; have nz3 := (blk_cell BX8.out 3).trans rfl; have fz3 := blk_frozen BX8.out 3; have nz4 := (blk_cell BX8.out 4).trans rfl; have fz4 := blk_frozen BX8.out 4; have nz5 := (blk_cell BX8.out 5).trans rfl; have fz5 := blk_frozen BX8.out 5
          go_simp
          have HF := Lib.hid (six_belowV HN.out HG8.out (.int .i64 y.f0) (.int .i64 y.f1) (.int .u64 y.f2) (.string y.f3) (.slice F4 y.f4.length f4) (.slice F5 y.f5.length f5))
          refine hK.out _ _ (KEEP.out _ HF.out) (fun hHeld2 => ?_)
          clear nz0 nz1 nz2 nz3 nz4 nz5 fz0 fz1 fz2 fz3 fz4 fz5 HN; have HN := HF; clear HF
          have BM := Lib.hid (six_putV BX8.out (.int .i64 y.f0) (.int .i64 y.f1) (.int .u64 y.f2) (.string y.f3) (.slice F4 y.f4.length f4) (.slice F5 y.f5.length f5)); have BO := Lib.hid ((six_farV (Ne.symm NB.out) (.int .i64 y.f0) (.int .i64 y.f1) (.int .u64 y.f2) (.string y.f3) (.slice F4 y.f4.length f4) (.slice F5 y.f5.length f5)).trans BX7.out); clear BX7 BX8; have BX8 := BM; have BX7 := BO; clear BM BO
          have R1' := Lib.hid (R1.out.put O17.out (.int .i64 y.f0) (.int .i64 y.f1) (.int .u64 y.f2) (.string y.f3) (.slice F4 y.f4.length f4) (.slice F5 y.f5.length f5)); clear R1; have R1 := R1'; clear R1'; have R2' := Lib.hid (R2.out.put O37.out (.int .i64 y.f0) (.int .i64 y.f1) (.int .u64 y.f2) (.string y.f3) (.slice F4 y.f4.length f4) (.slice F5 y.f5.length f5)); clear R2; have R2 := R2'; clear R2'; have R3' := Lib.hid (R3.out.put O57.out (.int .i64 y.f0) (.int .i64 y.f1) (.int .u64 y.f2) (.string y.f3) (.slice F4 y.f4.length f4) (.slice F5 y.f5.length f5)); clear R3; have R3 := R3'; clear R3'
          clear hK K hHeld; have hHeld := hHeld2; clear hHeld2; (try simp only [Act.put, List.setIfInBounds_toArray, List.set_cons_zero, List.set_cons_succ])
          generalize hgx : ((((((k6.setCell ⟨k1.heap.size, 0, none⟩ (.int .i64 y.f0)).setCell ⟨k1.heap.size, 1, none⟩ (.int .i64 y.f1)).setCell ⟨k1.heap.size, 2, none⟩ (.int .u64 y.f2)).setCell ⟨k1.heap.size, 3, none⟩ (.string y.f3)).setCell ⟨k1.heap.size, 4, none⟩ (.slice F4 y.f4.length f4)).setCell ⟨k1.heap.size, 5, none⟩ (.slice F5 y.f5.length f5)) = k7 at *; clear hgx
          refine wpAnyH_take (i := 10) (oi := ⟨some 9, _, _, _, _, _⟩) (v := ?_) rfl (by as_aux_lemma => kernel_rfl) (by as_aux_lemma => kernel_rfl) (by as_aux_lemma => kernel_rfl) (fun _ _ _ h => h) ?_ (by assumption) ?_; rotate_left; (focus (refine Or.inl ⟨rfl, ?_⟩; intro w hSw; (try dsimp only at hSw); go_simp; (try with_reducible rfl); done)); (try simp only [Act.put, List.setIfInBounds_toArray, List.set_cons_zero, List.set_cons_succ])
          refine wpAnyH_done (by kernel_rfl) ?_ _
          go_wp2
          go_meet
          case rel =>
            exact ⟨_, _, E4, e4, E5, e5, F4, f4, F5, f5, Q, cq, rfl, rfl, rfl, ⟨below_step HB.out HN.out⟩, ⟨blk_below BXA.out HN.out⟩, ⟨blk_below BXB.out HN.out⟩, ⟨BX7.out⟩, ⟨BX8.out⟩, ⟨R1.out.rows⟩, ⟨R2.out.rows⟩, ⟨R3.out.rows⟩⟩
    · go_simp
      have hb := below_alloc (Below.refl wd.heap.size wd) (.cells #[.int .i64 0, .int .i64 0, .int .u64 0, .string ⟨#[]⟩, .slice none 0 0, .slice none 0 0] 26)
      refine hK.out _ _ (KEEP.out _ (below_step HN.out hb)) (fun hHeld2 => ?_)
      have HG7 := Lib.hid (HN.out.size)
      have HN' := Lib.hid (below_step HN.out hb); clear HN; have HN := HN'; clear HN'
      have BX7 := Lib.hid (blk_new wd (.cells #[.int .i64 0, .int .i64 0, .int .u64 0, .string ⟨#[]⟩, .slice none 0 0, .slice none 0 0] 26))
      clear hb; clear hK K hHeld; have hHeld := hHeld2; clear hHeld2; (try simp only [Act.put, List.setIfInBounds_toArray, List.set_cons_zero, List.set_cons_succ])
      generalize hgx : wd.alloc (.cells #[.int .i64 0, .int .i64 0, .int .u64 0, .string ⟨#[]⟩, .slice none 0 0, .slice none 0 0] 26) = k1 at *; clear hgx
      refine wpAnyH_ready (rs := [1, 7]) (by kernel_rfl) (by simp) ?_
      refine AllReadyH.cons (o := ⟨some 23, _, _, _, _, _⟩) rfl (fun K hK => ?_) (AllReadyH.cons (o := ⟨some 8, _, _, _, _, _⟩) rfl (fun K hK => ?_) AllReadyH.nil)
      · go_simp
        go_at_call 17
        (with_reducible refine (CA.out _ (below_step HB.out HN.out)).mono ?_)
        rintro e k2 ⟨⟨E4, e4, E5, e5, rfl, hk4, hk5⟩, hb⟩
        refine hK.out _ _ (KEEP.out _ (below_step HN.out hb)) (fun hHeld2 => ?_)
        have O16 := Lib.hid (show wd.heap.size < k1.heap.size ∨ k2.heap.size ≤ wd.heap.size from .inl (blk_lt BX7.out))
        have HN' := Lib.hid (below_step HN.out hb); clear HN; have HN := HN'; clear HN'; have BX7' := Lib.hid (blk_below BX7.out hb); clear BX7; have BX7 := BX7'; clear BX7'
        have R1 := Lib.hid (RW.mk hk4 hk5)
        clear hb hk4 hk5; clear hK K hHeld; have hHeld := hHeld2; clear hHeld2; (try simp only [Act.put, List.setIfInBounds_toArray, List.set_cons_zero, List.set_cons_succ])
        refine wpAnyH_ready (rs := [3, 7]) (by kernel_rfl) (by simp) ?_
        refine AllReadyH.cons (o := ⟨some 25, _, _, _, _, _⟩) rfl (fun K hK => ?_) (AllReadyH.cons (o := ⟨some 8, _, _, _, _, _⟩) rfl (fun K hK => ?_) AllReadyH.nil)
        · go_simp
          go_at_call 17
          (with_reducible refine (CB.out _ (below_step HB.out HN.out)).mono ?_)
          rintro e k3 ⟨⟨F4, f4, F5, f5, rfl, hk4, hk5⟩, hb⟩
          refine hK.out _ _ (KEEP.out _ (below_step HN.out hb)) (fun hHeld2 => ?_)
          have O36 := Lib.hid (show wd.heap.size < k2.heap.size ∨ k3.heap.size ≤ wd.heap.size from .inl (blk_lt BX7.out))
          have HN' := Lib.hid (below_step HN.out hb); clear HN; have HN := HN'; clear HN'; have R1' := Lib.hid (R1.out.step hb); clear R1; have R1 := R1'; clear R1'; have BX7' := Lib.hid (blk_below BX7.out hb); clear BX7; have BX7 := BX7'; clear BX7'
          have R2 := Lib.hid (RW.mk hk4 hk5)
          clear hb hk4 hk5; clear hK K hHeld; have hHeld := hHeld2; clear hHeld2; (try simp only [Act.put, List.setIfInBounds_toArray, List.set_cons_zero, List.set_cons_succ])
          refine wpAnyH_ready (rs := [5, 7]) (by kernel_rfl) (by simp) ?_
          refine AllReadyH.cons (o := ⟨some 27, _, _, _, _, _⟩) rfl (fun K hK => ?_) (AllReadyH.cons (o := ⟨some 8, _, _, _, _, _⟩) rfl (fun K hK => ?_) AllReadyH.nil)
          · go_simp
            go_at_call 18
            (with_reducible refine (CT.out _ (below_step HB.out HN.out)).mono ?_)
            rintro e k4 ⟨⟨Q, cq, rfl, hk5⟩, hb⟩
            refine hK.out _ _ (KEEP.out _ (below_step HN.out hb)) (fun hHeld2 => ?_)
            have O56 := Lib.hid (show wd.heap.size < k3.heap.size ∨ k4.heap.size ≤ wd.heap.size from .inl (blk_lt BX7.out))
            have HN' := Lib.hid (below_step HN.out hb); clear HN; have HN := HN'; clear HN'; have R1' := Lib.hid (R1.out.step hb); clear R1; have R1 := R1'; clear R1'; have R2' := Lib.hid (R2.out.step hb); clear R2; have R2 := R2'; clear R2'; have BX7' := Lib.hid (blk_below BX7.out hb); clear BX7; have BX7 := BX7'; clear BX7'
            have R3 := Lib.hid (RT.mk hk5)
            clear hb hk5; clear hK K hHeld; have hHeld := hHeld2; clear hHeld2; (try simp only [Act.put, List.setIfInBounds_toArray, List.set_cons_zero, List.set_cons_succ])
            refine wpAnyH_ready (rs := [7]) (by kernel_rfl) (by simp) ?_
            refine AllReadyH.cons (o := ⟨some 8, _, _, _, _, _⟩) rfl (fun K hK => ?_) AllReadyH.nil
            go_simp
            have hb := below_alloc (Below.refl k4.heap.size k4) (.cells #[.int .i64 0, .int .i64 0, .int .u64 0, .string ⟨#[]⟩, .slice none 0 0, .slice none 0 0] 26)
            refine hK.out _ _ (KEEP.out _ (below_step HN.out hb)) (fun hHeld2 => ?_)
            have HG8 := Lib.hid (HN.out.size)
            have O17 := Lib.hid (show k4.heap.size < k1.heap.size ∨ k2.heap.size ≤ k4.heap.size from .inr R1.out.top)
            have O37 := Lib.hid (show k4.heap.size < k2.heap.size ∨ k3.heap.size ≤ k4.heap.size from .inr R2.out.top)
            have O57 := Lib.hid (show k4.heap.size < k3.heap.size ∨ k4.heap.size ≤ k4.heap.size from .inr R3.out.top)
            have NB := Lib.hid (Nat.ne_of_lt (blk_lt BX7.out))
            have HN' := Lib.hid (below_step HN.out hb); clear HN; have HN := HN'; clear HN'; have R1' := Lib.hid (R1.out.step hb); clear R1; have R1 := R1'; clear R1'; have R2' := Lib.hid (R2.out.step hb); clear R2; have R2 := R2'; clear R2'; have R3' := Lib.hid (R3.out.step hb); clear R3; have R3 := R3'; clear R3'; have BX7' := Lib.hid (blk_below BX7.out hb); clear BX7; have BX7 := BX7'; clear BX7'
            have BX8 := Lib.hid (blk_new k4 (.cells #[.int .i64 0, .int .i64 0, .int .u64 0, .string ⟨#[]⟩, .slice none 0 0, .slice none 0 0] 26))
            clear hb; clear hK K hHeld; have hHeld := hHeld2; clear hHeld2; (try simp only [Act.put, List.setIfInBounds_toArray, List.set_cons_zero, List.set_cons_succ])
            generalize hgx : k4.alloc (.cells #[.int .i64 0, .int .i64 0, .int .u64 0, .string ⟨#[]⟩, .slice none 0 0, .slice none 0 0] 26) = k5 at *; clear hgx
            refine wpAnyH_ready (rs := [8]) (by kernel_rfl) (by simp) ?_
            refine AllReadyH.cons (o := ⟨none, _, _, _, _, _⟩) rfl (fun K hK => ?_) AllReadyH.nil
            have nz0 := (blk_cell BX7.out 0).trans rfl; have fz0 := blk_frozen BX7.out 0; have nz1 := (blk_cell BX7.out 1).trans rfl; have fz1 := blk_frozen BX7.out 1; have nz2 := (blk_cell BX7.out 2).trans rfl; have fz2 := blk_frozen BX7.out 2; have nz3 := (blk_cell BX7.out 3).trans rfl; have fz3 := blk_frozen BX7.out 3; have nz4 := (blk_cell BX7.out 4).trans rfl; have fz4 := blk_frozen BX7.out 4; have nz5 := (blk_cell BX7.out 5).trans rfl; have fz5 := blk_frozen BX7.out 5
            go_simp
            have HF := Lib.hid (six_belowV HN.out HG7.out (.int .i64 x.f0) (.int .i64 x.f1) (.int .u64 x.f2) (.string x.f3) (.slice E4 x.f4.length e4) (.slice E5 x.f5.length e5))
            refine hK.out _ _ (KEEP.out _ HF.out) (fun hHeld2 => ?_)
            clear nz0 nz1 nz2 nz3 nz4 nz5 fz0 fz1 fz2 fz3 fz4 fz5 HN; have HN := HF; clear HF
            have BM := Lib.hid (six_putV BX7.out (.int .i64 x.f0) (.int .i64 x.f1) (.int .u64 x.f2) (.string x.f3) (.slice E4 x.f4.length e4) (.slice E5 x.f5.length e5)); have BO := Lib.hid ((six_farV (Ne.symm NB.out) (.int .i64 x.f0) (.int .i64 x.f1) (.int .u64 x.f2) (.string x.f3) (.slice E4 x.f4.length e4) (.slice E5 x.f5.length e5)).trans BX8.out); clear BX7 BX8; have BX7 := BM; have BX8 := BO; clear BM BO
            have R1' := Lib.hid (R1.out.put O16.out (.int .i64 x.f0) (.int .i64 x.f1) (.int .u64 x.f2) (.string x.f3) (.slice E4 x.f4.length e4) (.slice E5 x.f5.length e5)); clear R1; have R1 := R1'; clear R1'; have R2' := Lib.hid (R2.out.put O36.out (.int .i64 x.f0) (.int .i64 x.f1) (.int .u64 x.f2) (.string x.f3) (.slice E4 x.f4.length e4) (.slice E5 x.f5.length e5)); clear R2; have R2 := R2'; clear R2'; have R3' := Lib.hid (R3.out.put O56.out (.int .i64 x.f0) (.int .i64 x.f1) (.int .u64 x.f2) (.string x.f3) (.slice E4 x.f4.length e4) (.slice E5 x.f5.length e5)); clear R3; have R3 := R3'; clear R3'
            clear hK K hHeld; have hHeld := hHeld2; clear hHeld2; (try simp only [Act.put, List.setIfInBounds_toArray, List.set_cons_zero, List.set_cons_succ])
            generalize hgx : ((((((k5.setCell ⟨wd.heap.size, 0, none⟩ (.int .i64 x.f0)).setCell ⟨wd.heap.size, 1, none⟩ (.int .i64 x.f1)).setCell ⟨wd.heap.size, 2, none⟩ (.int .u64 x.f2)).setCell ⟨wd.heap.size, 3, none⟩ (.string x.f3)).setCell ⟨wd.heap.size, 4, none⟩ (.slice E4 x.f4.length e4)).setCell ⟨wd.heap.size, 5, none⟩ (.slice E5 x.f5.length e5)) = k6 at *; clear hgx
            refine wpAnyH_ready (rs := [9]) (by kernel_rfl) (by simp) ?_
            refine AllReadyH.cons (o := ⟨none, _, _, _, _, _⟩) rfl (fun K hK => ?_) AllReadyH.nil
            have nz0 := (blk_cell BX8.out 0).trans rfl; have fz0 := blk_frozen BX8.out 0; have nz1 := (blk_cell BX8.out 1).trans rfl; have fz1 := blk_frozen BX8.out 1; have nz2 := (blk_cell BX8.out 2).trans rfl; have fz2 := blk_frozen BX8.out 2; have nz3 := (blk_cell BX8.out 3).trans rfl; have fz3 := blk_frozen BX8.out 3; have nz4 := (blk_cell BX8.out 4).trans rfl; have fz4 := blk_frozen BX8.out 4; have nz5 := (blk_cell BX8.out 5).trans rfl; have fz5 := blk_frozen BX8.out 5
            go_simp
            have HF := Lib.hid (six_belowV HN.out HG8.out (.int .i64 y.f0) (.int .i64 y.f1) (.int .u64 y.f2) (.string y.f3) (.slice F4 y.f4.length f4) (.slice F5 y.f5.length f5))
            refine hK.out _ _ (KEEP.out _ HF.out) (fun hHeld2 => ?_)
            clear nz0 nz1 nz2 nz3 nz4 nz5 fz0 fz1 fz2 fz3 fz4 fz5 HN; have HN := HF; clear HF
            have BM := Lib.hid (six_putV BX8.out (.int .i64 y.f0) (.int .i64 y.f1) (.int .u64 y.f2) (.string y.f3) (.slice F4 y.f4.length f4) (.slice F5 y.f5.length f5)); have BO := Lib.hid ((six_farV NB.out (.int .i64 y.f0) (.int .i64 y.f1) (.int .u64 y.f2) (.string y.f3) (.slice F4 y.f4.length f4) (.slice F5 y.f5.length f5)).trans BX7.out); clear BX7 BX8; have BX8 := BM; have BX7 := BO; clear BM BO
            have R1' := Lib.hid (R1.out.put O17.out (.int .i64 y.f0) (.int .i64 y.f1) (.int .u64 y.f2) (.string y.f3) (.slice F4 y.f4.length f4) (.slice F5 y.f5.length f5)); clear R1; have R1 := R1'; clear R1'; have R2' := Lib.hid (R2.out.put O37.out (.int .i64 y.f0) (.int .i64 y.f1) (.int .u64 y.f2) (.string y.f3) (.slice F4 y.f4.length f4) (.slice F5 y.f5.length f5)); clear R2; have R2 := R2'; clear R2'; have R3' := Lib.hid (R3.out.put O57.out (.int .i64 y.f0) (.int .i64 y.f1) (.int .u64 y.f2) (.string y.f3) (.slice F4 y.f4.length f4) (.slice F5 y.f5.length f5)); clear R3; have R3 := R3'; clear R3'
            clear hK K hHeld; have hHeld := hHeld2; clear hHeld2; (try simp only [Act.put, List.setIfInBounds_toArray, List.set_cons_zero, List.set_cons_succ])
            generalize hgx : ((((((k6.setCell ⟨k4.heap.size, 0, none⟩ (.int .i64 y.f0)).setCell ⟨k4.heap.size, 1, none⟩ (.int .i64 y.f1)).setCell ⟨k4.heap.size, 2, none⟩ (.int .u64 y.f2)).setCell ⟨k4.heap.size, 3, none⟩ (.string y.f3)).setCell ⟨k4.heap.size, 4, none⟩ (.slice F4 y.f4.length f4)).setCell ⟨k4.heap.size, 5, none⟩ (.slice F5 y.f5.length f5)) = k7 at *; clear hgx
            refine wpAnyH_take (i := 10) (oi := ⟨some 9, _, _, _, _, _⟩) (v := ?_) rfl (by as_aux_lemma => kernel_rfl) (by as_aux_lemma => kernel_rfl) (by as_aux_lemma => kernel_rfl) (fun _ _ _ h => h) ?_ (by assumption) ?_; rotate_left; (focus (refine Or.inl ⟨rfl, ?_⟩; intro w hSw; (try dsimp only at hSw); go_simp; (try with_reducible rfl); done)); (try simp only [Act.put, List.setIfInBounds_toArray, List.set_cons_zero, List.set_cons_succ])
            refine wpAnyH_done (by kernel_rfl) ?_ _
            go_wp2
            go_meet
            case rel =>
              exact ⟨_, _, E4, e4, E5, e5, F4, f4, F5, f5, Q, cq, rfl, rfl, rfl, ⟨below_step HB.out HN.out⟩, ⟨blk_below BXA.out HN.out⟩, ⟨blk_below BXB.out HN.out⟩, ⟨BX7.out⟩, ⟨BX8.out⟩, ⟨R1.out.rows⟩, ⟨R2.out.rows⟩, ⟨R3.out.rows⟩⟩
          · go_simp
            have hb := below_alloc (Below.refl k3.heap.size k3) (.cells #[.int .i64 0, .int .i64 0, .int .u64 0, .string ⟨#[]⟩, .slice none 0 0, .slice none 0 0] 26)
            refine hK.out _ _ (KEEP.out _ (below_step HN.out hb)) (fun hHeld2 => ?_)
            have HG8 := Lib.hid (HN.out.size)
            have O17 := Lib.hid (show k3.heap.size < k1.heap.size ∨ k2.heap.size ≤ k3.heap.size from .inr R1.out.top)
            have O37 := Lib.hid (show k3.heap.size < k2.heap.size ∨ k3.heap.size ≤ k3.heap.size from .inr R2.out.top)
            have NB := Lib.hid (Nat.ne_of_lt (blk_lt BX7.out))
            have HN' := Lib.hid (below_step HN.out hb); clear HN; have HN := HN'; clear HN'; have R1' := Lib.hid (R1.out.step hb); clear R1; have R1 := R1'; clear R1'; have R2' := Lib.hid (R2.out.step hb); clear R2; have R2 := R2'; clear R2'; have BX7' := Lib.hid (blk_below BX7.out hb); clear BX7; have BX7 := BX7'; clear BX7'
            have BX8 := Lib.hid (blk_new k3 (.cells #[.int .i64 0, .int .i64 0, .int .u64 0, .string ⟨#[]⟩, .slice none 0 0, .slice none 0 0] 26))
            clear hb; clear hK K hHeld; have hHeld := hHeld2; clear hHeld2; (try simp only [Act.put, List.setIfInBounds_toArray, List.set_cons_zero, List.set_cons_succ])
            generalize hgx : k3.alloc (.cells #[.int .i64 0, .int .i64 0, .int .u64 0, .string ⟨#[]⟩, .slice none 0 0, .slice none 0 0] 26) = k4 at *; clear hgx
            refine wpAnyH_ready (rs := [5]) (by kernel_rfl) (by simp) ?_
            refine AllReadyH.cons (o := ⟨some 27, _, _, _, _, _⟩) rfl (fun K hK => ?_) AllReadyH.nil
            go_simp
            go_at_call 18
            (with_reducible refine (CT.out _ (below_step HB.out HN.out)).mono ?_)
            rintro e k5 ⟨⟨Q, cq, rfl, hk5⟩, hb⟩
            refine hK.out _ _ (KEEP.out _ (below_step HN.out hb)) (fun hHeld2 => ?_)
            have O56 := Lib.hid (show wd.heap.size < k4.heap.size ∨ k5.heap.size ≤ wd.heap.size from .inl (blk_lt BX7.out))
            have O57 := Lib.hid (show k3.heap.size < k4.heap.size ∨ k5.heap.size ≤ k3.heap.size from .inl (blk_lt BX8.out))
            have HN' := Lib.hid (below_step HN.out hb); clear HN; have HN := HN'; clear HN'; have R1' := Lib.hid (R1.out.step hb); clear R1; have R1 := R1'; clear R1'; have R2' := Lib.hid (R2.out.step hb); clear R2; have R2 := R2'; clear R2'; have BX7' := Lib.hid (blk_below BX7.out hb); clear BX7; have BX7 := BX7'; clear BX7'; have BX8' := Lib.hid (blk_below BX8.out hb); clear BX8; have BX8 := BX8'; clear BX8'
            have R3 := Lib.hid (RT.mk hk5)
            clear hb hk5; clear hK K hHeld; have hHeld := hHeld2; clear hHeld2; (try simp only [Act.put, List.setIfInBounds_toArray, List.set_cons_zero, List.set_cons_succ])
            refine wpAnyH_ready (rs := [8]) (by kernel_rfl) (by simp) ?_
            refine AllReadyH.cons (o := ⟨none, _, _, _, _, _⟩) rfl (fun K hK => ?_) AllReadyH.nil
            have nz0 := (blk_cell BX7.out 0).trans rfl; have fz0 := blk_frozen BX7.out 0; have nz1 := (blk_cell BX7.out 1).trans rfl; have fz1 := blk_frozen BX7.out 1; have nz2 := (blk_cell BX7.out 2).trans rfl; have fz2 := blk_frozen BX7.out 2; have nz3 := (blk_cell BX7.out 3).trans rfl; have fz3 := blk_frozen BX7.out 3; have nz4 := (blk_cell BX7.out 4).trans rfl; have fz4 := blk_frozen BX7.out 4; have nz5 := (blk_cell BX7.out 5).trans rfl; have fz5 := blk_frozen BX7.out 5
            go_simp
            have HF := Lib.hid (six_belowV HN.out HG7.out (.int .i64 x.f0) (.int .i64 x.f1) (.int .u64 x.f2) (.string x.f3) (.slice E4 x.f4.length e4) (.slice E5 x.f5.length e5))
            refine hK.out _ _ (KEEP.out _ HF.out) (fun hHeld2 => ?_)
            clear nz0 nz1 nz2 nz3 nz4 nz5 fz0 fz1 fz2 fz3 fz4 fz5 HN; have HN := HF; clear HF
            have BM := Lib.hid (six_putV BX7.out (.int .i64 x.f0) (.int .i64 x.f1) (.int .u64 x.f2) (.string x.f3) (.slice E4 x.f4.length e4) (.slice E5 x.f5.length e5)); have BO := Lib.hid ((six_farV (Ne.symm NB.out) (.int .i64 x.f0) (.int .i64 x.f1) (.int .u64 x.f2) (.string x.f3) (.slice E4 x.f4.length e4) (.slice E5 x.f5.length e5)).trans BX8.out); clear BX7 BX8; have BX7 := BM; have BX8 := BO; clear BM BO
            have R1' := Lib.hid (R1.out.put O16.out (.int .i64 x.f0) (.int .i64 x.f1) (.int .u64 x.f2) (.string x.f3) (.slice E4 x.f4.length e4) (.slice E5 x.f5.length e5)); clear R1; have R1 := R1'; clear R1'; have R2' := Lib.hid (R2.out.put O36.out (.int .i64 x.f0) (.int .i64 x.f1) (.int .u64 x.f2) (.string x.f3) (.slice E4 x.f4.length e4) (.slice E5 x.f5.length e5)); clear R2; have R2 := R2'; clear R2'; have R3' := Lib.hid (R3.out.put O56.out (.int .i64 x.f0) (.int .i64 x.f1) (.int .u64 x.f2) (.string x.f3) (.slice E4 x.f4.length e4) (.slice E5 x.f5.length e5)); clear R3; have R3 := R3'; clear R3'
            clear hK K hHeld; have hHeld := hHeld2; clear hHeld2; (try simp only [Act.put, List.setIfInBounds_toArray, List.set_cons_zero, List.set_cons_succ])
            generalize hgx : ((((((k5.setCell ⟨wd.heap.size, 0, none⟩ (.int .i64 x.f0)).setCell ⟨wd.heap.size, 1, none⟩ (.int .i64 x.f1)).setCell ⟨wd.heap.size, 2, none⟩ (.int .u64 x.f2)).setCell ⟨wd.heap.size, 3, none⟩ (.string x.f3)).setCell ⟨wd.heap.size, 4, none⟩ (.slice E4 x.f4.length e4)).setCell ⟨wd.heap.size, 5, none⟩ (.slice E5 x.f5.length e5)) = k6 at *; clear hgx
            refine wpAnyH_ready (rs := [9]) (by kernel_rfl) (by simp) ?_
            refine AllReadyH.cons (o := ⟨none, _, _, _, _, _⟩) rfl (fun K hK => ?_) AllReadyH.nil
            have nz0 := (blk_cell BX8.out 0).trans rfl; have fz0 := blk_frozen BX8.out 0; have nz1 := (blk_cell BX8.out 1).trans rfl; have fz1 := blk_frozen BX8.out 1; have nz2 := (blk_cell BX8.out 2).trans rfl; have fz2 := blk_frozen BX8.out 2; have nz3 := (blk_cell BX8.out 3).trans rfl; have fz3 := blk_frozen BX8.out 3; have nz4 := (blk_cell BX8.out 4).trans rfl; have fz4 := blk_frozen BX8.out 4; have nz5 := (blk_cell BX8.out 5).trans rfl; have fz5 := blk_frozen BX8.out 5
            go_simp
            have HF := Lib.hid (six_belowV HN.out HG8.out (.int .i64 y.f0) (.int .i64 y.f1) (.int .u64 y.f2) (.string y.f3) (.slice F4 y.f4.length f4) (.slice F5 y.f5.length f5))
            refine hK.out _ _ (KEEP.out _ HF.out) (fun hHeld2 => ?_)
            clear nz0 nz1 nz2 nz3 nz4 nz5 fz0 fz1 fz2 fz3 fz4 fz5 HN; have HN := HF; clear HF
            have BM := Lib.hid (six_putV BX8.out (.int .i64 y.f0) (.int .i64 y.f1) (.int .u64 y.f2) (.string y.f3) (.slice F4 y.f4.length f4) (.slice F5 y.f5.length f5)); have BO := Lib.hid ((six_farV NB.out (.int .i64 y.f0) (.int .i64 y.f1) (.int .u64 y.f2) (.string y.f3) (.slice F4 y.f4.length f4) (.slice F5 y.f5.length f5)).trans BX7.out); clear BX7 BX8; have BX8 := BM; have BX7 := BO; clear BM BO
            have R1' := Lib.hid (R1.out.put O17.out (.int .i64 y.f0) (.int .i64 y.f1) (.int .u64 y.f2) (.string y.f3) (.slice F4 y.f4.length f4) (.slice F5 y.f5.length f5)); clear R1; have R1 := R1'; clear R1'; have R2' := Lib.hid (R2.out.put O37.out (.int .i64 y.f0) (.int .i64 y.f1) (.int .u64 y.f2) (.string y.f3) (.slice F4 y.f4.length f4) (.slice F5 y.f5.length f5)); clear R2; have R2 := R2'; clear R2'; have R3' := Lib.hid (R3.out.put O57.out (.int .i64 y.f0) (.int .i64 y.f1) (.int .u64 y.f2) (.string y.f3) (.slice F4 y.f4.length f4) (.slice F5 y.f5.length f5)); clear R3; have R3 := R3'; clear R3'
            clear hK K hHeld; have hHeld := hHeld2; clear hHeld2; (try simp only [Act.put, List.setIfInBounds_toArray, List.set_cons_zero, List.set_cons_succ])
            generalize hgx : ((((((k6.setCell ⟨k3.heap.size, 0, none⟩ (.int .i64 y.f0)).setCell ⟨k3.heap.size, 1, none⟩ (.int .i64 y.f1)).setCell ⟨k3.heap.size, 2, none⟩ (.int .u64 y.f2)).setCell ⟨k3.heap.size, 3, none⟩ (.string y.f3)).setCell ⟨k3.heap.size, 4, none⟩ (.slice F4 y.f4.length f4)).setCell ⟨k3.heap.size, 5, none⟩ (.slice F5 y.f5.length f5)) = k7 at *; clear hgx
            refine wpAnyH_take (i := 10) (oi := ⟨some 9, _, _, _, _, _⟩) (v := ?_) rfl (by as_aux_lemma => kernel_rfl) (by as_aux_lemma => kernel_rfl) (by as_aux_lemma => kernel_rfl) (fun _ _ _ h => h) ?_ (by assumption) ?_; rotate_left; (focus (refine Or.inl ⟨rfl, ?_⟩; intro w hSw; (try dsimp only at hSw); go_simp; (try with_reducible rfl); done)); (try simp only [Act.put, List.setIfInBounds_toArray, List.set_cons_zero, List.set_cons_succ])
            refine wpAnyH_done (by kernel_rfl) ?_ _
            go_wp2
            go_meet
            case rel =>
              exact ⟨_, _, E4, e4, E5, e5, F4, f4, F5, f5, Q, cq, rfl, rfl, rfl, ⟨below_step HB.out HN.out⟩, ⟨blk_below BXA.out HN.out⟩, ⟨blk_below BXB.out HN.out⟩, ⟨BX7.out⟩, ⟨BX8.out⟩, ⟨R1.out.rows⟩, ⟨R2.out.rows⟩, ⟨R3.out.rows⟩⟩
        · go_simp
          have hb := below_alloc (Below.refl k2.heap.size k2) (.cells #[.int .i64 0, .int .i64 0, .int .u64 0, .string ⟨#[]⟩, .slice none 0 0, .slice none 0 0] 26)
          refine hK.out _ _ (KEEP.out _ (below_step HN.out hb)) (fun hHeld2 => ?_)
          have HG8 := Lib.hid (HN.out.size)
          have O17 := Lib.hid (show k2.heap.size < k1.heap.size ∨ k2.heap.size ≤ k2.heap.size from .inr R1.out.top)
          have NB := Lib.hid (Nat.ne_of_lt (blk_lt BX7.out))
          have HN' := Lib.hid (below_step HN.out hb); clear HN; have HN := HN'; clear HN'; have R1' := Lib.hid (R1.out.step hb); clear R1; have R1 := R1'; clear R1'; have BX7' := Lib.hid (blk_below BX7.out hb); clear BX7; have BX7 := BX7'; clear BX7'
          have BX8 := Lib.hid (blk_new k2 (.cells #[.int .i64 0, .int .i64 0, .int .u64 0, .string ⟨#[]⟩, .slice none 0 0, .slice none 0 0] 26))
          clear hb; clear hK K hHeld; have hHeld := hHeld2; clear hHeld2; (try simp only [Act.put, List.setIfInBounds_toArray, List.set_cons_zero, List.set_cons_succ])
          generalize hgx : k2.alloc (.cells #[.int .i64 0, .int .i64 0, .int .u64 0, .string ⟨#[]⟩, .slice none 0 0, .slice none 0 0] 26) = k3 at *; clear hgx
          refine wpAnyH_ready (rs := [3]) (by kernel_rfl) (by simp) ?_
          refine AllReadyH.cons (o := ⟨some 25, _, _, _, _, _⟩) rfl (fun K hK => ?_) AllReadyH.nil
          go_simp
          go_at_call 17
          (with_reducible refine (CB.out _ (below_step HB.out HN.out)).mono ?_)
          rintro e k4 ⟨⟨F4, f4, F5, f5, rfl, hk4, hk5⟩, hb⟩
          refine hK.out _ _ (KEEP.out _ (below_step HN.out hb)) (fun hHeld2 => ?_)
          have O36 := Lib.hid (show wd.heap.size < k3.heap.size ∨ k4.heap.size ≤ wd.heap.size from .inl (blk_lt BX7.out))
          have O37 := Lib.hid (show k2.heap.size < k3.heap.size ∨ k4.heap.size ≤ k2.heap.size from .inl (blk_lt BX8.out))
          have HN' := Lib.hid (below_step HN.out hb); clear HN; have HN := HN'; clear HN'; have R1' := Lib.hid (R1.out.step hb); clear R1; have R1 := R1'; clear R1'; have BX7' := Lib.hid (blk_below BX7.out hb); clear BX7; have BX7 := BX7'; clear BX7'; have BX8' := Lib.hid (blk_below BX8.out hb); clear BX8; have BX8 := BX8'; clear BX8'
          have R2 := Lib.hid (RW.mk hk4 hk5)
          clear hb hk4 hk5; clear hK K hHeld; have hHeld := hHeld2; clear hHeld2; (try simp only [Act.put, List.setIfInBounds_toArray, List.set_cons_zero, List.set_cons_succ])
          refine wpAnyH_ready (rs := [5]) (by kernel_rfl) (by simp) ?_
          refine AllReadyH.cons (o := ⟨some 27, _, _, _, _, _⟩) rfl (fun K hK => ?_) AllReadyH.nil
          go_simp
          go_at_call 18
          (with_reducible refine (CT.out _ (below_step HB.out HN.out)).mono ?_)
          rintro e k5 ⟨⟨Q, cq, rfl, hk5⟩, hb⟩
          refine hK.out _ _ (KEEP.out _ (below_step HN.out hb)) (fun hHeld2 => ?_)
          have O56 := Lib.hid (show wd.heap.size < k4.heap.size ∨ k5.heap.size ≤ wd.heap.size from .inl (blk_lt BX7.out))
          have O57 := Lib.hid (show k2.heap.size < k4.heap.size ∨ k5.heap.size ≤ k2.heap.size from .inl (blk_lt BX8.out))
          have HN' := Lib.hid (below_step HN.out hb); clear HN; have HN := HN'; clear HN'; have R1' := Lib.hid (R1.out.step hb); clear R1; have R1 := R1'; clear R1'; have R2' := Lib.hid (R2.out.step hb); clear R2; have R2 := R2'; clear R2'; have BX7' := Lib.hid (blk_below BX7.out hb); clear BX7; have BX7 := BX7'; clear BX7'; have BX8' := Lib.hid (blk_below BX8.out hb); clear BX8; have BX8 := BX8'; clear BX8'
          have R3 := Lib.hid (RT.mk hk5)
          clear hb hk5; clear hK K hHeld; have hHeld := hHeld2; clear hHeld2; (try simp only [Act.put, List.setIfInBounds_toArray, List.set_cons_zero, List.set_cons_succ])
          refine wpAnyH_ready (rs := [8]) (by kernel_rfl) (by simp) ?_
          refine AllReadyH.cons (o := ⟨none, _, _, _, _, _⟩) rfl (fun K hK => ?_) AllReadyH.nil
          have nz0 := (blk_cell BX7.out 0).trans rfl; have fz0 := blk_frozen BX7.out 0; have nz1 := (blk_cell BX7.out 1).trans rfl; have fz1 := blk_frozen BX7.out 1; have nz2 := (blk_cell BX7.out 2).trans rfl; have fz2 := blk_frozen BX7.out 2; have nz3 := (blk_cell BX7.out 3).trans rfl; have fz3 := blk_frozen BX7.out 3; have nz4 := (blk_cell BX7.out 4).trans rfl; have fz4 := blk_frozen BX7.out 4; have nz5 := (blk_cell BX7.out 5).trans rfl; have fz5 := blk_frozen BX7.out 5
          go_simp
          have HF := Lib.hid (six_belowV HN.out HG7.out (.int .i64 x.f0) (.int .i64 x.f1) (.int .u64 x.f2) (.string x.f3) (.slice E4 x.f4.length e4) (.slice E5 x.f5.length e5))
          refine hK.out _ _ (KEEP.out _ HF.out) (fun hHeld2 => ?_)
          clear nz0 nz1 nz2 nz3 nz4 nz5 fz0 fz1 fz2 fz3 fz4 fz5 HN; have HN := HF; clear HF
          have BM := Lib.hid (six_putV BX7.out (.int .i64 x.f0) (.int .i64 x.f1) (.int .u64 x.f2) (.string x.f3) (.slice E4 x.f4.length e4) (.slice E5 x.f5.length e5)); have BO := Lib.hid ((six_farV (Ne.symm NB.out) (.int .i64 x.f0) (.int .i64 x.f1) (.int .u64 x.f2) (.string x.f3) (.slice E4 x.f4.length e4) (.slice E5 x.f5.length e5)).trans BX8.out); clear BX7 BX8; have BX7 := BM; have BX8 := BO; clear BM BO
          have R1' := Lib.hid (R1.out.put O16.out (.int .i64 x.f0) (.int .i64 x.f1) (.int .u64 x.f2) (.string x.f3) (.slice E4 x.f4.length e4) (.slice E5 x.f5.length e5)); clear R1; have R1 := R1'; clear R1'; have R2' := Lib.hid (R2.out.put O36.out (.int .i64 x.f0) (.int .i64 x.f1) (.int .u64 x.f2) (.string x.f3) (.slice E4 x.f4.length e4) (.slice E5 x.f5.length e5)); clear R2; have R2 := R2'; clear R2'; have R3' := Lib.hid (R3.out.put O56.out (.int .i64 x.f0) (.int .i64 x.f1) (.int .u64 x.f2) (.string x.f3) (.slice E4 x.f4.length e4) (.slice E5 x.f5.length e5)); clear R3; have R3 := R3'; clear R3'
          clear hK K hHeld; have hHeld := hHeld2; clear hHeld2; (try simp only [Act.put, List.setIfInBounds_toArray, List.set_cons_zero, List.set_cons_succ])
          generalize hgx : ((((((k5.setCell ⟨wd.heap.size, 0, none⟩ (.int .i64 x.f0)).setCell ⟨wd.heap.size, 1, none⟩ (.int .i64 x.f1)).setCell ⟨wd.heap.size, 2, none⟩ (.int .u64 x.f2)).setCell ⟨wd.heap.size, 3, none⟩ (.string x.f3)).setCell ⟨wd.heap.size, 4, none⟩ (.slice E4 x.f4.length e4)).setCell ⟨wd.heap.size, 5, none⟩ (.slice E5 x.f5.length e5)) = k6 at *; clear hgx
          refine wpAnyH_ready (rs := [9]) (by kernel_rfl) (by simp) ?_
          refine AllReadyH.cons (o := ⟨none, _, _, _, _, _⟩) rfl (fun K hK => ?_) AllReadyH.nil
          have nz0 := (blk_cell BX8.out 0).trans rfl; have fz0 := blk_frozen BX8.out 0; have nz1 := (blk_cell BX8.out 1).trans rfl; have fz1 := blk_frozen BX8.out 1; have nz2 := (blk_cell BX8.out 2).trans rfl; have fz2 := blk_frozen BX8.out 2; have nz3 := (blk_cell BX8.out 3).trans rfl; have fz3 := blk_frozen BX8.out 3; have nz4 := (blk_cell BX8.out 4).trans rfl; have fz4 := blk_frozen BX8.out 4; have nz5 := (blk_cell BX8.out 5).trans rfl; have fz5 := blk_frozen BX8.out 5
          go_simp
          have HF := Lib.hid (six_belowV HN.out HG8.out (.int .i64 y.f0) (.int .i64 y.f1) (.int .u64 y.f2) (.string y.f3) (.slice F4 y.f4.length f4) (.slice F5 y.f5.length f5))
          refine hK.out _ _ (KEEP.out _ HF.out) (fun hHeld2 => ?_)
          clear nz0 nz1 nz2 nz3 nz4 nz5 fz0 fz1 fz2 fz3 fz4 fz5 HN; have HN := HF; clear HF
          have BM := Lib.hid (six_putV BX8.out (.int .i64 y.f0) (.int .i64 y.f1) (.int .u64 y.f2) (.string y.f3) (.slice F4 y.f4.length f4) (.slice F5 y.f5.length f5)); have BO := Lib.hid ((six_farV NB.out (.int .i64 y.f0) (.int .i64 y.f1) (.int .u64 y.f2) (.string y.f3) (.slice F4 y.f4.length f4) (.slice F5 y.f5.length f5)).trans BX7.out); clear BX7 BX8; have BX8 := BM; have BX7 := BO; clear BM BO
          have R1' := Lib.hid (R1.out.put O17.out (.int .i64 y.f0) (.int .i64 y.f1) (.int .u64 y.f2) (.string y.f3) (.slice F4 y.f4.length f4) (.slice F5 y.f5.length f5)); clear R1; have R1 := R1'; clear R1'; have R2' := Lib.hid (R2.out.put O37.out (.int .i64 y.f0) (.int .i64 y.f1) (.int .u64 y.f2) (.string y.f3) (.slice F4 y.f4.length f4) (.slice F5 y.f5.length f5)); clear R2; have R2 := R2'; clear R2'; have R3' := Lib.hid (R3.out.put O57.out (.int .i64 y.f0) (.int .i64 y.f1) (.int .u64 y.f2) (.string y.f3) (.slice F4 y.f4.length f4) (.slice F5 y.f5.length f5)); clear R3; have R3 := R3'; clear R3'
          clear hK K hHeld; have hHeld := hHeld2; clear hHeld2; (try simp only [Act.put, List.setIfInBounds_toArray, List.set_cons_zero, List.set_cons_succ])
          generalize hgx : ((((((k6.setCell ⟨k2.heap.size, 0, none⟩ (.int .i64 y.f0)).setCell ⟨k2.heap.size, 1, none⟩ (.int .i64 y.f1)).setCell ⟨k2.heap.size, 2, none⟩ (.int .u64 y.f2)).setCell ⟨k2.heap.size, 3, none⟩ (.string y.f3)).setCell ⟨k2.heap.size, 4, none⟩ (.slice F4 y.f4.length f4)).setCell ⟨k2.heap.size, 5, none⟩ (.slice F5 y.f5.length f5)) = k7 at *; clear hgx
          refine wpAnyH_take (i := 10) (oi := ⟨some 9, _, _, _, _, _⟩) (v := ?_) rfl (by as_aux_lemma => kernel_rfl) (by as_aux_lemma => kernel_rfl) (by as_aux_lemma => kernel_rfl) (fun _ _ _ h => h) ?_ (by assumption) ?_; rotate_left; (focus (refine Or.inl ⟨rfl, ?_⟩; intro w hSw; (try dsimp only at hSw); go_simp; (try with_reducible rfl); done)); (try simp only [Act.put, List.setIfInBounds_toArray, List.set_cons_zero, List.set_cons_succ])
          refine wpAnyH_done (by kernel_rfl) ?_ _
          go_wp2
          go_meet
          case rel =>
            exact ⟨_, _, E4, e4, E5, e5, F4, f4, F5, f5, Q, cq, rfl, rfl, rfl, ⟨below_step HB.out HN.out⟩, ⟨blk_below BXA.out HN.out⟩, ⟨blk_below BXB.out HN.out⟩, ⟨BX7.out⟩, ⟨BX8.out⟩, ⟨R1.out.rows⟩, ⟨R2.out.rows⟩, ⟨R3.out.rows⟩⟩
      · go_simp
        have hb := below_alloc (Below.refl k1.heap.size k1) (.cells #[.int .i64 0, .int .i64 0, .int .u64 0, .string ⟨#[]⟩, .slice none 0 0, .slice none 0 0] 26)
        refine hK.out _ _ (KEEP.out _ (below_step HN.out hb)) (fun hHeld2 => ?_)
        have HG8 := Lib.hid (HN.out.size)
        have NB := Lib.hid (Nat.ne_of_lt (blk_lt BX7.out))
        have HN' := Lib.hid (below_step HN.out hb); clear HN; have HN := HN'; clear HN'; have BX7' := Lib.hid (blk_below BX7.out hb); clear BX7; have BX7 := BX7'; clear BX7'
        have BX8 := Lib.hid (blk_new k1 (.cells #[.int .i64 0, .int .i64 0, .int .u64 0, .string ⟨#[]⟩, .slice none 0 0, .slice none 0 0] 26))
        clear hb; clear hK K hHeld; have hHeld := hHeld2; clear hHeld2; (try simp only [Act.put, List.setIfInBounds_toArray, List.set_cons_zero, List.set_cons_succ])
        generalize hgx : k1.alloc (.cells #[.int .i64 0, .int .i64 0, .int .u64 0, .string ⟨#[]⟩, .slice none 0 0, .slice none 0 0] 26) = k2 at *; clear hgx
        refine wpAnyH_ready (rs := [1]) (by kernel_rfl) (by simp) ?_
        refine AllReadyH.cons (o := ⟨some 23, _, _, _, _, _⟩) rfl (fun K hK => ?_) AllReadyH.nil
        go_simp
        go_at_call 17
        (with_reducible refine (CA.out _ (below_step HB.out HN.out)).mono ?_)
        rintro e k3 ⟨⟨E4, e4, E5, e5, rfl, hk4, hk5⟩, hb⟩
        refine hK.out _ _ (KEEP.out _ (below_step HN.out hb)) (fun hHeld2 => ?_)
        have O16 := Lib.hid (show wd.heap.size < k2.heap.size ∨ k3.heap.size ≤ wd.heap.size from .inl (blk_lt BX7.out))
        have O17 := Lib.hid (show k1.heap.size < k2.heap.size ∨ k3.heap.size ≤ k1.heap.size from .inl (blk_lt BX8.out))
        have HN' := Lib.hid (below_step HN.out hb); clear HN; have HN := HN'; clear HN'; have BX7' := Lib.hid (blk_below BX7.out hb); clear BX7; have BX7 := BX7'; clear BX7'; have BX8' := Lib.hid (blk_below BX8.out hb); clear BX8; have BX8 := BX8'; clear BX8'
        have R1 := Lib.hid (RW.mk hk4 hk5)
        clear hb hk4 hk5; clear hK K hHeld; have hHeld := hHeld2; clear hHeld2; (try simp only [Act.put, List.setIfInBounds_toArray, List.set_cons_zero, List.set_cons_succ])
        refine wpAnyH_ready (rs := [3]) (by kernel_rfl) (by simp) ?_
        refine AllReadyH.cons (o := ⟨some 25, _, _, _, _, _⟩) rfl (fun K hK => ?_) AllReadyH.nil
        go_simp
        go_at_call 17
        (with_reducible refine (CB.out _ (below_step HB.out HN.out)).mono ?_)
        rintro e k4 ⟨⟨F4, f4, F5, f5, rfl, hk4, hk5⟩, hb⟩
        refine hK.out _ _ (KEEP.out _ (below_step HN.out hb)) (fun hHeld2 => ?_)
        have O36 := Lib.hid (show wd.heap.size < k3.heap.size ∨ k4.heap.size ≤ wd.heap.size from .inl (blk_lt BX7.out))
        have O37 := Lib.hid (show k1.heap.size < k3.heap.size ∨ k4.heap.size ≤ k1.heap.size from .inl (blk_lt BX8.out))
        have HN' := Lib.hid (below_step HN.out hb); clear HN; have HN := HN'; clear HN'; have R1' := Lib.hid (R1.out.step hb); clear R1; have R1 := R1'; clear R1'; have BX7' := Lib.hid (blk_below BX7.out hb); clear BX7; have BX7 := BX7'; clear BX7'; have BX8' := Lib.hid (blk_below BX8.out hb); clear BX8; have BX8 := BX8'; clear BX8'
        have R2 := Lib.hid (RW.mk hk4 hk5)
        clear hb hk4 hk5; clear hK K hHeld; have hHeld := hHeld2; clear hHeld2; (try simp only [Act.put, List.setIfInBounds_toArray, List.set_cons_zero, List.set_cons_succ])
        refine wpAnyH_ready (rs := [5]) (by kernel_rfl) (by simp) ?_
        refine AllReadyH.cons (o := ⟨some 27, _, _, _, _, _⟩) rfl (fun K hK => ?_) AllReadyH.nil
        go_simp
        go_at_call 18
        (with_reducible refine (CT.out _ (below_step HB.out HN.out)).mono ?_)
        rintro e k5 ⟨⟨Q, cq, rfl, hk5⟩, hb⟩
        refine hK.out _ _ (KEEP.out _ (below_step HN.out hb)) (fun hHeld2 => ?_)
        have O56 := Lib.hid (show wd.heap.size < k4.heap.size ∨ k5.heap.size ≤ wd.heap.size from .inl (blk_lt BX7.out))
        have O57 := Lib.hid (show k1.heap.size < k4.heap.size ∨ k5.heap.size ≤ k1.heap.size from .inl (blk_lt BX8.out))
        have HN' := Lib.hid (below_step HN.out hb); clear HN; have HN := HN'; clear HN'; have R1' := Lib.hid (R1.out.step hb); clear R1; have R1 := R1'; clear R1'; have R2' := Lib.hid (R2.out.step hb); clear R2; have R2 := R2'; clear R2'; have BX7' := Lib.hid (blk_below BX7.out hb); clear BX7; have BX7 := BX7'; clear BX7'; have BX8' := Lib.hid (blk_below BX8.out hb); clear BX8; have BX8 := BX8'; clear BX8'
        have R3 := Lib.hid (RT.mk hk5)
        clear hb hk5; clear hK K hHeld; have hHeld := hHeld2; clear hHeld2; (try simp only [Act.put, List.setIfInBounds_toArray, List.set_cons_zero, List.set_cons_succ])
        refine wpAnyH_ready (rs := [8]) (by kernel_rfl) (by simp) ?_
        refine AllReadyH.cons (o := ⟨none, _, _, _, _, _⟩) rfl (fun K hK => ?_) AllReadyH.nil
        have nz0 := (blk_cell BX7.out 0).trans rfl; have fz0 := blk_frozen BX7.out 0; have nz1 := (blk_cell BX7.out 1).trans rfl; have fz1 := blk_frozen BX7.out 1; have nz2 := (blk_cell BX7.out 2).trans rfl; have fz2 := blk_frozen BX7.out 2; have nz3 := (blk_cell BX7.out 3).trans rfl; have fz3 := blk_frozen BX7.out 3; have nz4 := (blk_cell BX7.out 4).trans rfl; have fz4 := blk_frozen BX7.out 4; have nz5 := (blk_cell BX7.out 5).trans rfl; have fz5 := blk_frozen BX7.out 5
        go_simp
        have HF := Lib.hid (six_belowV HN.out HG7.out (.int .i64 x.f0) (.int .i64 x.f1) (.int .u64 x.f2) (.string x.f3) (.slice E4 x.f4.length e4) (.slice E5 x.f5.length e5))
        refine hK.out _ _ (KEEP.out _ HF.out) (fun hHeld2 => ?_)
        clear nz0 nz1 nz2 nz3 nz4 nz5 fz0 fz1 fz2 fz3 fz4 fz5 HN; have HN := HF; clear HF
        have BM := Lib.hid (six_putV BX7.out (.int .i64 x.f0) (.int .i64 x.f1) (.int .u64 x.f2) (.string x.f3) (.slice E4 x.f4.length e4) (.slice E5 x.f5.length e5)); have BO := Lib.hid ((six_farV (Ne.symm NB.out) (.int .i64 x.f0) (.int .i64 x.f1) (.int .u64 x.f2) (.string x.f3) (.slice E4 x.f4.length e4) (.slice E5 x.f5.length e5)).trans BX8.out); clear BX7 BX8; have BX7 := BM; have BX8 := BO; clear BM BO
        have R1' := Lib.hid (R1.out.put O16.out (.int .i64 x.f0) (.int .i64 x.f1) (.int .u64 x.f2) (.string x.f3) (.slice E4 x.f4.length e4) (.slice E5 x.f5.length e5)); clear R1; have R1 := R1'; clear R1'; have R2' := Lib.hid (R2.out.put O36.out (.int .i64 x.f0) (.int .i64 x.f1) (.int .u64 x.f2) (.string x.f3) (.slice E4 x.f4.length e4) (.slice E5 x.f5.length e5)); clear R2; have R2 := R2'; clear R2'; have R3' := Lib.hid (R3.out.put O56.out (.int .i64 x.f0) (.int .i64 x.f1) (.int .u64 x.f2) (.string x.f3) (.slice E4 x.f4.length e4) (.slice E5 x.f5.length e5)); clear R3; have R3 := R3'; clear R3'
        clear hK K hHeld; have hHeld := hHeld2; clear hHeld2; (try simp only [Act.put, List.setIfInBounds_toArray, List.set_cons_zero, List.set_cons_succ])
        generalize hgx : ((((((k5.setCell ⟨wd.heap.size, 0, none⟩ (.int .i64 x.f0)).setCell ⟨wd.heap.size, 1, none⟩ (.int .i64 x.f1)).setCell ⟨wd.heap.size, 2, none⟩ (.int .u64 x.f2)).setCell ⟨wd.heap.size, 3, none⟩ (.string x.f3)).setCell ⟨wd.heap.size, 4, none⟩ (.slice E4 x.f4.length e4)).setCell ⟨wd.heap.size, 5, none⟩ (.slice E5 x.f5.length e5)) = k6 at *; clear hgx
        refine wpAnyH_ready (rs := [9]) (by kernel_rfl) (by simp) ?_
        refine AllReadyH.cons (o := ⟨none, _, _, _, _, _⟩) rfl (fun K hK => ?_) AllReadyH.nil
        have nz0 := (blk_cell BX8.out 0).trans rfl; have fz0 := blk_frozen BX8.out 0; have nz1 := (blk_cell BX8.out 1).trans rfl; have fz1 := blk_frozen BX8.out 1; have nz2 := (blk_cell BX8.out 2).trans rfl; have fz2 := blk_frozen BX8.out 2; have nz3 := (blk_cell BX8.out 3).trans rfl; have fz3 := blk_frozen BX8.out 3; have nz4 := (blk_cell BX8.out 4).trans rfl; have fz4 := blk_frozen BX8.out 4; have nz5 := (blk_cell BX8.out 5).trans rfl; have fz5 := blk_frozen BX8.out 5
        go_simp
        have HF := Lib.hid (six_belowV HN.out HG8.out (.int .i64 y.f0) (.int .i64 y.f1) (.int .u64 y.f2) (.string y.f3) (.slice F4 y.f4.length f4) (.slice F5 y.f5.length f5))
        refine hK.out _ _ (KEEP.out _ HF.out) (fun hHeld2 => ?_)
        clear nz0 nz1 nz2 nz3 nz4 nz5 fz0 fz1 fz2 fz3 fz4 fz5 HN; have HN := HF; clear HF
        have BM := Lib.hid (six_putV BX8.out (.int .i64 y.f0) (.int .i64 y.f1) (.int .u64 y.f2) (.string y.f3) (.slice F4 y.f4.length f4) (.slice F5 y.f5.length f5)); have BO := Lib.hid ((six_farV NB.out (.int .i64 y.f0) (.int .i64 y.f1) (.int .u64 y.f2) (.string y.f3) (.slice F4 y.f4.length f4) (.slice F5 y.f5.length f5)).trans BX7.out); clear BX7 BX8; have BX8 := BM; have BX7 := BO; clear BM BO
        have R1' := Lib.hid (R1.out.put O17.out (.int .i64 y.f0) (.int .i64 y.f1) (.int .u64 y.f2) (.string y.f3) (.slice F4 y.f4.length f4) (.slice F5 y.f5.length f5)); clear R1; have R1 := R1'; clear R1'; have R2' := Lib.hid (R2.out.put O37.out (.int .i64 y.f0) (.int .i64 y.f1) (.int .u64 y.f2) (.string y.f3) (.slice F4 y.f4.length f4) (.slice F5 y.f5.length f5)); clear R2; have R2 := R2'; clear R2'; have R3' := Lib.hid (R3.out.put O57.out (.int .i64 y.f0) (.int .i64 y.f1) (.int .u64 y.f2) (.string y.f3) (.slice F4 y.f4.length f4) (.slice F5 y.f5.length f5)); clear R3; have R3 := R3'; clear R3'
        clear hK K hHeld; have hHeld := hHeld2; clear hHeld2; (try simp only [Act.put, List.setIfInBounds_toArray, List.set_cons_zero, List.set_cons_succ])
        generalize hgx : ((((((k6.setCell ⟨k1.heap.size, 0, none⟩ (.int .i64 y.f0)).setCell ⟨k1.heap.size, 1, none⟩ (.int .i64 y.f1)).setCell ⟨k1.heap.size, 2, none⟩ (.int .u64 y.f2)).setCell ⟨k1.heap.size, 3, none⟩ (.string y.f3)).setCell ⟨k1.heap.size, 4, none⟩ (.slice F4 y.f4.length f4)).setCell ⟨k1.heap.size, 5, none⟩ (.slice F5 y.f5.length f5)) = k7 at *; clear hgx
        refine wpAnyH_take (i := 10) (oi := ⟨some 9, _, _, _, _, _⟩) (v := ?_) rfl (by as_aux_lemma => kernel_rfl) (by as_aux_lemma => kernel_rfl) (by as_aux_lemma => kernel_rfl) (fun _ _ _ h => h) ?_ (by assumption) ?_; rotate_left; (focus (refine Or.inl ⟨rfl, ?_⟩; intro w hSw; (try dsimp only at hSw); go_simp; (try with_reducible rfl); done)); (try simp only [Act.put, List.setIfInBounds_toArray, List.set_cons_zero, List.set_cons_succ])
        refine wpAnyH_done (by kernel_rfl) ?_ _
        go_wp2
        go_meet
        case rel =>
          exact ⟨_, _, E4, e4, E5, e5, F4, f4, F5, f5, Q, cq, rfl, rfl, rfl, ⟨below_step HB.out HN.out⟩, ⟨blk_below BXA.out HN.out⟩, ⟨blk_below BXB.out HN.out⟩, ⟨BX7.out⟩, ⟨BX8.out⟩, ⟨R1.out.rows⟩, ⟨R2.out.rows⟩, ⟨R3.out.rows⟩⟩
    · go_simp
      have hb := below_alloc (Below.refl wd.heap.size wd) (.cells #[.int .i64 0, .int .i64 0, .int .u64 0, .string ⟨#[]⟩, .slice none 0 0, .slice none 0 0] 26)
      refine hK.out _ _ (KEEP.out _ (below_step HN.out hb)) (fun hHeld2 => ?_)
      have HG8 := Lib.hid (HN.out.size)
      have HN' := Lib.hid (below_step HN.out hb); clear HN; have HN := HN'; clear HN'
      have BX8 := Lib.hid (blk_new wd (.cells #[.int .i64 0, .int .i64 0, .int .u64 0, .string ⟨#[]⟩, .slice none 0 0, .slice none 0 0] 26))
      clear hb; clear hK K hHeld; have hHeld := hHeld2; clear hHeld2; (try simp only [Act.put, List.setIfInBounds_toArray, List.set_cons_zero, List.set_cons_succ])
      generalize hgx : wd.alloc (.cells #[.int .i64 0, .int .i64 0, .int .u64 0, .string ⟨#[]⟩, .slice none 0 0, .slice none 0 0] 26) = k1 at *; clear hgx
      refine wpAnyH_ready (rs := [1, 6]) (by kernel_rfl) (by simp) ?_
      refine AllReadyH.cons (o := ⟨some 23, _, _, _, _, _⟩) rfl (fun K hK => ?_) (AllReadyH.cons (o := ⟨some 7, _, _, _, _, _⟩) rfl (fun K hK => ?_) AllReadyH.nil)
      · go_simp
        go_at_call 17
        (with_reducible refine (CA.out _ (below_step HB.out HN.out)).mono ?_)
        rintro e k2 ⟨⟨E4, e4, E5, e5, rfl, hk4, hk5⟩, hb⟩
        refine hK.out _ _ (KEEP.out _ (below_step HN.out hb)) (fun hHeld2 => ?_)
        have O17 := Lib.hid (show wd.heap.size < k1.heap.size ∨ k2.heap.size ≤ wd.heap.size from .inl (blk_lt BX8.out))
        have HN' := Lib.hid (below_step HN.out hb); clear HN; have HN := HN'; clear HN'; have BX8' := Lib.hid (blk_below BX8.out hb); clear BX8; have BX8 := BX8'; clear BX8'
        have R1 := Lib.hid (RW.mk hk4 hk5)
        clear hb hk4 hk5; clear hK K hHeld; have hHeld := hHeld2; clear hHeld2; (try simp only [Act.put, List.setIfInBounds_toArray, List.set_cons_zero, List.set_cons_succ])
        refine wpAnyH_ready (rs := [3, 6]) (by kernel_rfl) (by simp) ?_
        refine AllReadyH.cons (o := ⟨some 25, _, _, _, _, _⟩) rfl (fun K hK => ?_) (AllReadyH.cons (o := ⟨some 7, _, _, _, _, _⟩) rfl (fun K hK => ?_) AllReadyH.nil)
        · go_simp
          go_at_call 17
          (with_reducible refine (CB.out _ (below_step HB.out HN.out)).mono ?_)
          rintro e k3 ⟨⟨F4, f4, F5, f5, rfl, hk4, hk5⟩, hb⟩
          refine hK.out _ _ (KEEP.out _ (below_step HN.out hb)) (fun hHeld2 => ?_)
          have O37 := Lib.hid (show wd.heap.size < k2.heap.size ∨ k3.heap.size ≤ wd.heap.size from .inl (blk_lt BX8.out))
          have HN' := Lib.hid (below_step HN.out hb); clear HN; have HN := HN'; clear HN'; have R1' := Lib.hid (R1.out.step hb); clear R1; have R1 := R1'; clear R1'; have BX8' := Lib.hid (blk_below BX8.out hb); clear BX8; have BX8 := BX8'; clear BX8'
          have R2 := Lib.hid (RW.mk hk4 hk5)
          clear hb hk4 hk5; clear hK K hHeld; have hHeld := hHeld2; clear hHeld2; (try simp only [Act.put, List.setIfInBounds_toArray, List.set_cons_zero, List.set_cons_succ])
          refine wpAnyH_ready (rs := [5, 6]) (by kernel_rfl) (by simp) ?_
          refine AllReadyH.cons (o := ⟨some 27, _, _, _, _, _⟩) rfl (fun K hK => ?_) (AllReadyH.cons (o := ⟨some 7, _, _, _, _, _⟩) rfl (fun K hK => ?_) AllReadyH.nil)
          · go_simp
            go_at_call 18
            (with_reducible refine (CT.out _ (below_step HB.out HN.out)).mono ?_)
            rintro e k4 ⟨⟨Q, cq, rfl, hk5⟩, hb⟩
            refine hK.out _ _ (KEEP.out _ (below_step HN.out hb)) (fun hHeld2 => ?_)
            have O57 := Lib.hid (show wd.heap.size < k3.heap.size ∨ k4.heap.size ≤ wd.heap.size from .inl (blk_lt BX8.out))
            have HN' := Lib.hid (below_step HN.out hb); clear HN; have HN := HN'; clear HN'; have R1' := Lib.hid (R1.out.step hb); clear R1; have R1 := R1'; clear R1'; have R2' := Lib.hid (R2.out.step hb); clear R2; have R2 := R2'; clear R2'; have BX8' := Lib.hid (blk_below BX8.out hb); clear BX8; have BX8 := BX8'; clear BX8'
            have R3 := Lib.hid (RT.mk hk5)
            clear hb hk5; clear hK K hHeld; have hHeld := hHeld2; clear hHeld2; (try simp only [Act.put, List.setIfInBounds_toArray, List.set_cons_zero, List.set_cons_succ])
            refine wpAnyH_ready (rs := [6]) (by kernel_rfl) (by simp) ?_
            refine AllReadyH.cons (o := ⟨some 7, _, _, _, _, _⟩) rfl (fun K hK => ?_) AllReadyH.nil
            go_simp
            have hb := below_alloc (Below.refl k4.heap.size k4) (.cells #[.int .i64 0, .int .i64 0, .int .u64 0, .string ⟨#[]⟩, .slice none 0 0, .slice none 0 0] 26)
            refine hK.out _ _ (KEEP.out _ (below_step HN.out hb)) (fun hHeld2 => ?_)
            have HG7 := Lib.hid (HN.out.size)
            have O16 := Lib.hid (show k4.heap.size < k1.heap.size ∨ k2.heap.size ≤ k4.heap.size from .inr R1.out.top)
            have O36 := Lib.hid (show k4.heap.size < k2.heap.size ∨ k3.heap.size ≤ k4.heap.size from .inr R2.out.top)
            have O56 := Lib.hid (show k4.heap.size < k3.heap.size ∨ k4.heap.size ≤ k4.heap.size from .inr R3.out.top)
            have NB := Lib.hid (Nat.ne_of_lt (blk_lt BX8.out))
            have HN' := Lib.hid (below_step HN.out hb); clear HN; have HN := HN'; clear HN'; have R1' := Lib.hid (R1.out.step hb); clear R1; have R1 := R1'; clear R1'; have R2' := Lib.hid (R2.out.step hb); clear R2; have R2 := R2'; clear R2'; have R3' := Lib.hid (R3.out.step hb); clear R3; have R3 := R3'; clear R3'; have BX8' := Lib.hid (blk_below BX8.out hb); clear BX8; have BX8 := BX8'; clear BX8'
            have BX7 := Lib.hid (blk_new k4 (.cells #[.int .i64 0, .int .i64 0, .int .u64 0, .string ⟨#[]⟩, .slice none 0 0, .slice none 0 0] 26))
            clear hb; clear hK K hHeld; have hHeld := hHeld2; clear hHeld2; (try simp only [Act.put, List.setIfInBounds_toArray, List.set_cons_zero, List.set_cons_succ])
            generalize hgx : k4.alloc (.cells #[.int .i64 0, .int .i64 0, .int .u64 0, .string ⟨#[]⟩, .slice none 0 0, .slice none 0 0] 26) = k5 at *; clear hgx
            refine wpAnyH_ready (rs := [8]) (by kernel_rfl) (by simp) ?_
            refine AllReadyH.cons (o := ⟨none, _, _, _, _, _⟩) rfl (fun K hK => ?_) AllReadyH.nil
            have nz0 := (blk_cell BX7.out 0).trans rfl; have fz0 := blk_frozen BX7.out 0; have nz1 := (blk_cell BX7.out 1).trans rfl; have fz1 := blk_frozen BX7.out 1; have nz2 := (blk_cell BX7.out 2).trans rfl; have fz2 := blk_frozen BX7.out 2; have nz3 := (blk_cell BX7.out 3).trans rfl; have fz3 := blk_frozen BX7.out 3; have nz4 := (blk_cell BX7.out 4).trans rfl; have fz4 := blk_frozen BX7.out 4; have nz5 := (blk_cell BX7.out 5).trans rfl; have fz5 := blk_frozen BX7.out 5
            go_simp
            have HF := Lib.hid (six_belowV HN.out HG7.out (.int .i64 x.f0) (.int .i64 x.f1) (.int .u64 x.f2) (.string x.f3) (.slice E4 x.f4.length e4) (.slice E5 x.f5.length e5))
            refine hK.out _ _ (KEEP.out _ HF.out) (fun hHeld2 => ?_)
            clear nz0 nz1 nz2 nz3 nz4 nz5 fz0 fz1 fz2 fz3 fz4 fz5 HN; have HN := HF; clear HF
            have BM := Lib.hid (six_putV BX7.out (.int .i64 x.f0) (.int .i64 x.f1) (.int .u64 x.f2) (.string x.f3) (.slice E4 x.f4.length e4) (.slice E5 x.f5.length e5)); have BO := Lib.hid ((six_farV NB.out (.int .i64 x.f0) (.int .i64 x.f1) (.int .u64 x.f2) (.string x.f3) (.slice E4 x.f4.length e4) (.slice E5 x.f5.length e5)).trans BX8.out); clear BX7 BX8; have BX7 := BM; have BX8 := BO; clear BM BO
            have R1' := Lib.hid (R1.out.put O16.out (.int .i64 x.f0) (.int .i64 x.f1) (.int .u64 x.f2) (.string x.f3) (.slice E4 x.f4.length e4) (.slice E5 x.f5.length e5)); clear R1; have R1 := R1'; clear R1'; have R2' := Lib.hid (R2.out.put O36.out (.int .i64 x.f0) (.int .i64 x.f1) (.int .u64 x.f2) (.string x.f3) (.slice E4 x.f4.length e4) (.slice E5 x.f5.length e5)); clear R2; have R2 := R2'; clear R2'; have R3' := Lib.hid (R3.out.put O56.out (.int .i64 x.f0) (.int .i64 x.f1) (.int .u64 x.f2) (.string x.f3) (.slice E4 x.f4.length e4) (.slice E5 x.f5.length e5)); clear R3; have R3 := R3'; clear R3'
            clear hK K hHeld; have hHeld := hHeld2; clear hHeld2; (try simp only [Act.put, List.setIfInBounds_toArray, List.set_cons_zero, List.set_cons_succ])
            generalize hgx : ((((((k5.setCell ⟨k4.heap.size, 0, none⟩ (.int .i64 x.f0)).setCell ⟨k4.heap.size, 1, none⟩ (.int .i64 x.f1)).setCell ⟨k4.heap.size, 2, none⟩ (.int .u64 x.f2)).setCell ⟨k4.heap.size, 3, none⟩ (.string x.f3)).setCell ⟨k4.heap.size, 4, none⟩ (.slice E4 x.f4.length e4)).setCell ⟨k4.heap.size, 5, none⟩ (.slice E5 x.f5.length e5)) = k6 at *; clear hgx
            refine wpAnyH_ready (rs := [9]) (by kernel_rfl) (by simp) ?_
            refine AllReadyH.cons (o := ⟨none, _, _, _, _, _⟩) rfl (fun K hK => ?_) AllReadyH.nil
            have nz0 := (blk_cell BX8.out 0).trans rfl; have fz0 := blk_frozen BX8.out 0; have nz1 := (blk_cell BX8.out 1).trans rfl; have fz1 := blk_frozen BX8.out 1; have nz2 := (blk_cell BX8.out 2).trans rfl; have fz2 := blk_frozen BX8.out 2; have nz3 := (blk_cell BX8.out 3).trans rfl; have fz3 := blk_frozen BX8.out 3; have nz4 := (blk_cell BX8.out 4).trans rfl; have fz4 := blk_frozen BX8.out 4; have nz5 := (blk_cell BX8.out 5).trans rfl; have fz5 := blk_frozen BX8.out 5
            go_simp
            have HF := Lib.hid (six_belowV HN.out HG8.out (.int .i64 y.f0) (.int .i64 y.f1) (.int .u64 y.f2) (.string y.f3) (.slice F4 y.f4.length f4) (.slice F5 y.f5.length f5))
            refine hK.out _ _ (KEEP.out _ HF.out) (fun hHeld2 => ?_)
            clear nz0 nz1 nz2 nz3 nz4 nz5 fz0 fz1 fz2 fz3 fz4 fz5 HN; have HN := HF; clear HF
            have BM := Lib.hid (six_putV BX8.out (.int .i64 y.f0) (.int .i64 y.f1) (.int .u64 y.f2) (.string y.f3) (.slice F4 y.f4.length f4) (.slice F5 y.f5.length f5)); have BO := Lib.hid ((six_farV (Ne.symm NB.out) (.int .i64 y.f0) (.int .i64 y.f1) (.int .u64 y.f2) (.string y.f3) (.slice F4 y.f4.length f4) (.slice F5 y.f5.length f5)).trans BX7.out); clear BX7 BX8; have BX8 := BM; have BX7 := BO; clear BM BO
            have R1' := Lib.hid (R1.out.put O17.out (.int .i64 y.f0) (.int .i64 y.f1) (.int .u64 y.f2) (.string y.f3) (.slice F4 y.f4.length f4) (.slice F5 y.f5.length f5)); clear R1; have R1 := R1'; clear R1'; have R2' := Lib.hid (R2.out.put O37.out (.int .i64 y.f0) (.int .i64 y.f1) (.int .u64 y.f2) (.string y.f3) (.slice F4 y.f4.length f4) (.slice F5 y.f5.length f5)); clear R2; have R2 := R2'; clear R2'; have R3' := Lib.hid (R3.out.put O57.out (.int .i64 y.f0) (.int .i64 y.f1) (.int .u64 y.f2) (.string y.f3) (.slice F4 y.f4.length f4) (.slice F5 y.f5.length f5)); clear R3; have R3 := R3'; clear R3'
            clear hK K hHeld; have hHeld := hHeld2; clear hHeld2; (try simp only [Act.put, List.setIfInBounds_toArray, List.set_cons_zero, List.set_cons_succ])
            generalize hgx : ((((((k6.setCell ⟨wd.heap.size, 0, none⟩ (.int .i64 y.f0)).setCell ⟨wd.heap.size, 1, none⟩ (.int .i64 y.f1)).setCell ⟨wd.heap.size, 2, none⟩ (.int .u64 y.f2)).setCell ⟨wd.heap.size, 3, none⟩ (.string y.f3)).setCell ⟨wd.heap.size, 4, none⟩ (.slice F4 y.f4.length f4)).setCell ⟨wd.heap.size, 5, none⟩ (.slice F5 y.f5.length f5)) = k7 at *; clear hgx
            refine wpAnyH_take (i := 10) (oi := ⟨some 9, _, _, _, _, _⟩) (v := ?_) rfl (by as_aux_lemma => kernel_rfl) (by as_aux_lemma => kernel_rfl) (by as_aux_lemma => kernel_rfl) (fun _ _ _ h => h) ?_ (by assumption) ?_; rotate_left; (focus (refine Or.inl ⟨rfl, ?_⟩; intro w hSw; (try dsimp only at hSw); go_simp; (try with_reducible rfl); done)); (try simp only [Act.put, List.setIfInBounds_toArray, List.set_cons_zero, List.set_cons_succ])
            refine wpAnyH_done (by kernel_rfl) ?_ _
            go_wp2
            go_meet
            case rel =>
              exact ⟨_, _, E4, e4, E5, e5, F4, f4, F5, f5, Q, cq, rfl, rfl, rfl, ⟨below_step HB.out HN.out⟩, ⟨blk_below BXA.out HN.out⟩, ⟨blk_below BXB.out HN.out⟩, ⟨BX7.out⟩, ⟨BX8.out⟩, ⟨R1.out.rows⟩, ⟨R2.out.rows⟩, ⟨R3.out.rows⟩⟩
          · go_simp
            have hb := below_alloc (Below.refl k3.heap.size k3) (.cells #[.int .i64 0, .int .i64 0, .int .u64 0, .string ⟨#[]⟩, .slice none 0 0, .slice none 0 0] 26)
            refine hK.out _ _ (KEEP.out _ (below_step HN.out hb)) (fun hHeld2 => ?_)
            have HG7 := Lib.hid (HN.out.size)
            have O16 := Lib.hid (show k3.heap.size < k1.heap.size ∨ k2.heap.size ≤ k3.heap.size from .inr R1.out.top)
            have O36 := Lib.hid (show k3.heap.size < k2.heap.size ∨ k3.heap.size ≤ k3.heap.size from .inr R2.out.top)
            have NB := Lib.hid (Nat.ne_of_lt (blk_lt BX8.out))
            have HN' := Lib.hid (below_step HN.out hb); clear HN; have HN := HN'; clear HN'; have R1' := Lib.hid (R1.out.step hb); clear R1; have R1 := R1'; clear R1'; have R2' := Lib.hid (R2.out.step hb); clear R2; have R2 := R2'; clear R2'; have BX8' := Lib.hid (blk_below BX8.out hb); clear BX8; have BX8 := BX8'; clear BX8'
            have BX7 := Lib.hid (blk_new k3 (.cells #[.int .i64 0, .int .i64 0, .int .u64 0, .string ⟨#[]⟩, .slice none 0 0, .slice none 0 0] 26))
            clear hb; clear hK K hHeld; have hHeld := hHeld2; clear hHeld2; (try simp only [Act.put, List.setIfInBounds_toArray, List.set_cons_zero, List.set_cons_succ])
            generalize hgx : k3.alloc (.cells #[.int .i64 0, .int .i64 0, .int .u64 0, .string ⟨#[]⟩, .slice none 0 0, .slice none 0 0] 26) = k4 at *; clear hgx
            refine wpAnyH_ready (rs := [5]) (by kernel_rfl) (by simp) ?_
            refine AllReadyH.cons (o := ⟨some 27, _, _, _, _, _⟩) rfl (fun K hK => ?_) AllReadyH.nil
            go_simp
            go_at_call 18
            (with_reducible refine (CT.out _ (below_step HB.out HN.out)).mono ?_)
            rintro e k5 ⟨⟨Q, cq, rfl, hk5⟩, hb⟩
            refine hK.out _ _ (KEEP.out _ (below_step HN.out hb)) (fun hHeld2 => ?_)
            have O56 := Lib.hid (show k3.heap.size < k4.heap.size ∨ k5.heap.size ≤ k3.heap.size from .inl (blk_lt BX7.out))
            have O57 := Lib.hid (show wd.heap.size < k4.heap.size ∨ k5.heap.size ≤ wd.heap.size from .inl (blk_lt BX8.out))
            have HN' := Lib.hid (below_step HN.out hb); clear HN; have HN := HN'; clear HN'; have R1' := Lib.hid (R1.out.step hb); clear R1; have R1 := R1'; clear R1'; have R2' := Lib.hid (R2.out.step hb); clear R2; have R2 := R2'; clear R2'; have BX7' := Lib.hid (blk_below BX7.out hb); clear BX7; have BX7 := BX7'; clear BX7'; have BX8' := Lib.hid (blk_below BX8.out hb); clear BX8; have BX8 := BX8'; clear BX8'
            have R3 := Lib.hid (RT.mk hk5)
            clear hb hk5; clear hK K hHeld; have hHeld := hHeld2; clear hHeld2; (try simp only [Act.put, List.setIfInBounds_toArray, List.set_cons_zero, List.set_cons_succ])
            refine wpAnyH_ready (rs := [8]) (by kernel_rfl) (by simp) ?_
            refine AllReadyH.cons (o := ⟨none, _, _, _, _, _⟩) rfl (fun K hK => ?_) AllReadyH.nil
            have nz0 := (blk_cell BX7.out 0).trans rfl; have fz0 := blk_frozen BX7.out 0; have nz1 := (blk_cell BX7.out 1).trans rfl; have fz1 := blk_frozen BX7.out 1; have nz2 := (blk_cell BX7.out 2).trans rfl; have fz2 := blk_frozen BX7.out 2; have nz3 := (blk_cell BX7.out 3).trans rfl; have fz3 := blk_frozen BX7.out 3; have nz4 := (blk_cell BX7.out 4).trans rfl; have fz4 := blk_frozen BX7.out 4; have nz5 := (blk_cell BX7.out 5).trans rfl; have fz5 := blk_frozen BX7.out 5
            go_simp
            have HF := Lib.hid (six_belowV HN.out HG7.out (.int .i64 x.f0) (.int .i64 x.f1) (.int .u64 x.f2) (.string x.f3) (.slice E4 x.f4.length e4) (.slice E5 x.f5.length e5))
            refine hK.out _ _ (KEEP.out _ HF.out) (fun hHeld2 => ?_)
            clear nz0 nz1 nz2 nz3 nz4 nz5 fz0 fz1 fz2 fz3 fz4 fz5 HN; have HN := HF; clear HF
            have BM := Lib.hid (six_putV BX7.out (.int .i64 x.f0) (.int .i64 x.f1) (.int .u64 x.f2) (.string x.f3) (.slice E4 x.f4.length e4) (.slice E5 x.f5.length e5)); have BO := Lib.hid ((six_farV NB.out (.int .i64 x.f0) (.int .i64 x.f1) (.int .u64 x.f2) (.string x.f3) (.slice E4 x.f4.length e4) (.slice E5 x.f5.length e5)).trans BX8.out); clear BX7 BX8; have BX7 := BM; have BX8 := BO; clear BM BO
            have R1' := Lib.hid (R1.out.put O16.out (.int .i64 x.f0) (.int .i64 x.f1) (.int .u64 x.f2) (.string x.f3) (.slice E4 x.f4.length e4) (.slice E5 x.f5.length e5)); clear R1; have R1 := R1'; clear R1'; have R2' := Lib.hid (R2.out.put O36.out (.int .i64 x.f0) (.int .i64 x.f1) (.int .u64 x.f2) (.string x.f3) (.slice E4 x.f4.length e4) (.slice E5 x.f5.length e5)); clear R2; have R2 := R2'; clear R2'; have R3' := Lib.hid (R3.out.put O56.out (.int .i64 x.f0) (.int .i64 x.f1) (.int .u64 x.f2) (.string x.f3) (.slice E4 x.f4.length e4) (.slice E5 x.f5.length e5)); clear R3; have R3 := R3'; clear R3'
            clear hK K hHeld; have hHeld := hHeld2; clear hHeld2; (try simp only [Act.put, List.setIfInBounds_toArray, List.set_cons_zero, List.set_cons_succ])
            generalize hgx : ((((((k5.setCell ⟨k3.heap.size, 0, none⟩ (.int .i64 x.f0)).setCell ⟨k3.heap.size, 1, none⟩ (.int .i64 x.f1)).setCell ⟨k3.heap.size, 2, none⟩ (.int .u64 x.f2)).setCell ⟨k3.heap.size, 3, none⟩ (.string x.f3)).setCell ⟨k3.heap.size, 4, none⟩ (.slice E4 x.f4.length e4)).setCell ⟨k3.heap.size, 5, none⟩ (.slice E5 x.f5.length e5)) = k6 at *; clear hgx
            refine wpAnyH_ready (rs := [9]) (by kernel_rfl) (by simp) ?_
            refine AllReadyH.cons (o := ⟨none, _, _, _, _, _⟩) rfl (fun K hK => ?_) AllReadyH.nil
            have nz0 := (blk_cell BX8.out 0).trans rfl; have fz0 := blk_frozen BX8.out 0; have nz1 := (blk_cell BX8.out 1).trans rfl; have fz1 := blk_frozen BX8.out 1; have nz2 := (blk_cell BX8.out 2).trans rfl; have fz2 := blk_frozen BX8.out 2; have nz3 := (blk_cell BX8.out 3).trans rfl; have fz3 := blk_frozen BX8.out 3; have nz4 := (blk_cell BX8.out 4).trans rfl; have fz4 := blk_frozen BX8.out 4; have nz5 := (blk_cell BX8.out 5).trans rfl; have fz5 := blk_frozen BX8.out 5
            go_simp
            have HF := Lib.hid (six_belowV HN.out HG8.out (.int .i64 y.f0) (.int .i64 y.f1) (.int .u64 y.f2) (.string y.f3) (.slice F4 y.f4.length f4) (.slice F5 y.f5.length f5))
            refine hK.out _ _ (KEEP.out _ HF.out) (fun hHeld2 => ?_)
            clear nz0 nz1 nz2 nz3 nz4 nz5 fz0 fz1 fz2 fz3 fz4 fz5 HN; have HN := HF; clear HF
            have BM := Lib.hid (six_putV BX8.out (.int .i64 y.f0) (.int .i64 y.f1) (.int .u64 y.f2) (.string y.f3) (.slice F4 y.f4.length f4) (.slice F5 y.f5.length f5)); have BO := Lib.hid ((six_farV (Ne.symm NB.out) (.int .i64 y.f0) (.int .i64 y.f1) (.int .u64 y.f2) (.string y.f3) (.slice F4 y.f4.length f4) (.slice F5 y.f5.length f5)).trans BX7.out); clear BX7 BX8; have BX8 := BM; have BX7 := BO; clear BM BO
            have R1' := Lib.hid (R1.out.put O17.out (.int .i64 y.f0) (.int .i64 y.f1) (.int .u64 y.f2) (.string y.f3) (.slice F4 y.f4.length f4) (.slice F5 y.f5.length f5)); clear R1; have R1 := R1'; clear R1'; have R2' := Lib.hid (R2.out.put O37.out (.int .i64 y.f0) (.int .i64 y.f1) (.int .u64 y.f2) (.string y.f3) (.slice F4 y.f4.length f4) (.slice F5 y.f5.length f5)); clear R2; have R2 := R2'; clear R2'; have R3' := Lib.hid (R3.out.put O57.out (.int .i64 y.f0) (.int .i64 y.f1) (.int .u64 y.f2) (.string y.f3) (.slice F4 y.f4.length f4) (.slice F5 y.f5.length f5)); clear R3; have R3 := R3'; clear R3'
            clear hK K hHeld; have hHeld := hHeld2; clear hHeld2; (try simp only [Act.put, List.setIfInBounds_toArray, List.set_cons_zero, List.set_cons_succ])
            generalize hgx : ((((((k6.setCell ⟨wd.heap.size, 0, none⟩ (.int .i64 y.f0)).setCell ⟨wd.heap.size, 1, none⟩ (.int .i64 y.f1)).setCell ⟨wd.heap.size, 2, none⟩ (.int .u64 y.f2)).setCell ⟨wd.heap.size, 3, none⟩ (.string y.f3)).setCell ⟨wd.heap.size, 4, none⟩ (.slice F4 y.f4.length f4)).setCell ⟨wd.heap.size, 5, none⟩ (.slice F5 y.f5.length f5)) = k7 at *; clear hgx
            refine wpAnyH_take (i := 10) (oi := ⟨some 9, _, _, _, _, _⟩) (v := ?_) rfl (by as_aux_lemma => kernel_rfl) (by as_aux_lemma => kernel_rfl) (by as_aux_lemma => kernel_rfl) (fun _ _ _ h => h) ?_ (by assumption) ?_; rotate_left; (focus (refine Or.inl ⟨rfl, ?_⟩; intro w hSw; (try dsimp only at hSw); go_simp; (try with_reducible rfl); done)); (try simp only [Act.put, List.setIfInBounds_toArray, List.set_cons_zero, List.set_cons_succ])
            refine wpAnyH_done (by kernel_rfl) ?_ _
            go_wp2
            go_meet
            case rel =>
              exact ⟨_, _, E4, e4, E5, e5, F4, f4, F5, f5, Q, cq, rfl, rfl, rfl, ⟨below_step HB.out HN.out⟩, ⟨blk_below BXA.out HN.out⟩, ⟨blk_below BXB.out HN.out⟩, ⟨BX7.out⟩, ⟨BX8.out⟩, ⟨R1.out.rows⟩, ⟨R2.out.rows⟩, ⟨R3.out.rows⟩⟩
        · go_simp
          have hb := below_alloc (Below.refl k2.heap.size k2) (.cells #[.int .i64 0, .int .i64 0, .int .u64 0, .string ⟨#[]⟩, .slice none 0 0, .slice none 0 0] 26)
          refine hK.out _ _ (KEEP.out _ (below_step HN.out hb)) (fun hHeld2 => ?_)
          have HG7 := Lib.hid (HN.out.size)
          have O16 := Lib.hid (show k2.heap.size < k1.heap.size ∨ k2.heap.size ≤ k2.heap.size from .inr R1.out.top)
          have NB := Lib.hid (Nat.ne_of_lt (blk_lt BX8.out))
          have HN' := Lib.hid (below_step HN.out hb); clear HN; have HN := HN'; clear HN'; have R1' := Lib.hid (R1.out.step hb); clear R1; have R1 := R1'; clear R1'; have BX8' := Lib.hid (blk_below BX8.out hb); clear BX8; have BX8 := BX8'; clear BX8'
          have BX7 := Lib.hid (blk_new k2 (.cells #[.int .i64 0, .int .i64 0, .int .u64 0, .string ⟨#[]⟩, .slice none 0 0, .slice none 0 0] 26))
          clear hb; clear hK K hHeld; have hHeld := hHeld2; clear hHeld2; (try simp only [Act.put, List.setIfInBounds_toArray, List.set_cons_zero, List.set_cons_succ])
          generalize hgx : k2.alloc (.cells #[.int .i64 0, .int .i64 0, .int .u64 0, .string ⟨#[]⟩, .slice none 0 0, .slice none 0 0] 26) = k3 at *; clear hgx
          refine wpAnyH_ready (rs := [3]) (by kernel_rfl) (by simp) ?_
          refine AllReadyH.cons (o := ⟨some 25, _, _, _, _, _⟩) rfl (fun K hK => ?_) AllReadyH.nil
          go_simp
          go_at_call 17
          (with_reducible refine (CB.out _ (below_step HB.out HN.out)).mono ?_)
          rintro e k4 ⟨⟨F4, f4, F5, f5, rfl, hk4, hk5⟩, hb⟩
          refine hK.out _ _ (KEEP.out _ (below_step HN.out hb)) (fun hHeld2 => ?_)
          have O36 := Lib.hid (show k2.heap.size < k3.heap.size ∨ k4.heap.size ≤ k2.heap.size from .inl (blk_lt BX7.out))
          have O37 := Lib.hid (show wd.heap.size < k3.heap.size ∨ k4.heap.size ≤ wd.heap.size from .inl (blk_lt BX8.out))
          have HN' := Lib.hid (below_step HN.out hb); clear HN; have HN := HN'; clear HN'; have R1' := Lib.hid (R1.out.step hb); clear R1; have R1 := R1'; clear R1'; have BX7' := Lib.hid (blk_below BX7.out hb); clear BX7; have BX7 := BX7'; clear BX7'; have BX8' := Lib.hid (blk_below BX8.out hb); clear BX8; have BX8 := BX8'; clear BX8'
          have R2 := Lib.hid (RW.mk hk4 hk5)
          clear hb hk4 hk5; clear hK K hHeld; have hHeld := hHeld2; clear hHeld2; (try simp only [Act.put, List.setIfInBounds_toArray, List.set_cons_zero, List.set_cons_succ])
          refine wpAnyH_ready (rs := [5]) (by kernel_rfl) (by simp) ?_
          refine AllReadyH.cons (o := ⟨some 27, _, _, _, _, _⟩) rfl (fun K hK => ?_) AllReadyH.nil
          go_simp
          go_at_call 18
          (with_reducible refine (CT.out _ (below_step HB.out HN.out)).mono ?_)
          rintro e k5 ⟨⟨Q, cq, rfl, hk5⟩, hb⟩
          refine hK.out _ _ (KEEP.out _ (below_step HN.out hb)) (fun hHeld2 => ?_)
          have O56 := Lib.hid (show k2.heap.size < k4.heap.size ∨ k5.heap.size ≤ k2.heap.size from .inl (blk_lt BX7.out))
          have O57 := Lib.hid (show wd.heap.size < k4.heap.size ∨ k5.heap.size ≤ wd.heap.size from .inl (blk_lt BX8.out))
          have HN' := Lib.hid (below_step HN.out hb); clear HN; have HN := HN'; clear HN'; have R1' := Lib.hid (R1.out.step hb); clear R1; have R1 := R1'; clear R1'; have R2' := Lib.hid (R2.out.step hb); clear R2; have R2 := R2'; clear R2'; have BX7' := Lib.hid (blk_below BX7.out hb); clear BX7; have BX7 := BX7'; clear BX7'; have BX8' := Lib.hid (blk_below BX8.out hb); clear BX8; have BX8 := BX8'; clear BX8'
          have R3 := Lib.hid (RT.mk hk5)
          clear hb hk5; clear hK K hHeld; have hHeld := hHeld2; clear hHeld2; (try simp only [Act.put, List.setIfInBounds_toArray, List.set_cons_zero, List.set_cons_succ])
          refine wpAnyH_ready (rs := [8]) (by kernel_rfl) (by simp) ?_
          refine AllReadyH.cons (o := ⟨none, _, _, _, _, _⟩) rfl (fun K hK => ?_) AllReadyH.nil
          have nz0 := (blk_cell BX7.out 0).trans rfl; have fz0 := blk_frozen BX7.out 0; have nz1 := (blk_cell BX7.out 1).trans rfl; have fz1 := blk_frozen BX7.out 1; have nz2 := (blk_cell BX7.out 2).trans rfl; have fz2 := blk_frozen BX7.out 2; have nz3 := (blk_cell BX7.out 3).trans rfl; have fz3 := blk_frozen BX7.out 3; have nz4 := (blk_cell BX7.out 4).trans rfl; have fz4 := blk_frozen BX7.out 4; have nz5 := (blk_cell BX7.out 5).trans rfl; have fz5 := blk_frozen BX7.out 5
          go_simp
          have HF := Lib.hid (six_belowV HN.out HG7.out (.int .i64 x.f0) (.int .i64 x.f1) (.int .u64 x.f2) (.string x.f3) (.slice E4 x.f4.length e4) (.slice E5 x.f5.length e5))
          refine hK.out _ _ (KEEP.out _ HF.out) (fun hHeld2 => ?_)
          clear nz0 nz1 nz2 nz3 nz4 nz5 fz0 fz1 fz2 fz3 fz4 fz5 HN; have HN := HF; clear HF
          have BM := Lib.hid (six_putV BX7.out (.int .i64 x.f0) (.int .i64 x.f1) (.int .u64 x.f2) (.string x.f3) (.slice E4 x.f4.length e4) (.slice E5 x.f5.length e5)); have BO := Lib.hid ((six_farV NB.out (.int .i64 x.f0) (.int .i64 x.f1) (.int .u64 x.f2) (.string x.f3) (.slice E4 x.f4.length e4) (.slice E5 x.f5.length e5)).trans BX8.out); clear BX7 BX8; have BX7 := BM; have BX8 := BO; clear BM BO
          have R1' := Lib.hid (R1.out.put O16.out (.int .i64 x.f0) (.int .i64 x.f1) (.int .u64 x.f2) (.string x.f3) (.slice E4 x.f4.length e4) (.slice E5 x.f5.length e5)); clear R1; have R1 := R1'; clear R1'; have R2' := Lib.hid (R2.out.put O36.out (.int .i64 x.f0) (.int .i64 x.f1) (.int .u64 x.f2) (.string x.f3) (.slice E4 x.f4.length e4) (.slice E5 x.f5.length e5)); clear R2; have R2 := R2'; clear R2'; have R3' := Lib.hid (R3.out.put O56.out (.int .i64 x.f0) (.int .i64 x.f1) (.int .u64 x.f2) (.string x.f3) (.slice E4 x.f4.length e4) (.slice E5 x.f5.length e5)); clear R3; have R3 := R3'; clear R3'
          clear hK K hHeld; have hHeld := hHeld2; clear hHeld2; (try simp only [Act.put, List.setIfInBounds_toArray, List.set_cons_zero, List.set_cons_succ])
          generalize hgx : ((((((k5.setCell ⟨k2.heap.size, 0, none⟩ (.int .i64 x.f0)).setCell ⟨k2.heap.size, 1, none⟩ (.int .i64 x.f1)).setCell ⟨k2.heap.size, 2, none⟩ (.int .u64 x.f2)).setCell ⟨k2.heap.size, 3, none⟩ (.string x.f3)).setCell ⟨k2.heap.size, 4, none⟩ (.slice E4 x.f4.length e4)).setCell ⟨k2.heap.size, 5, none⟩ (.slice E5 x.f5.length e5)) = k6 at *; clear hgx
          refine wpAnyH_ready (rs := [9]) (by kernel_rfl) (by simp) ?_
          refine AllReadyH.cons (o := ⟨none, _, _, _, _, _⟩) rfl (fun K hK => ?_) AllReadyH.nil
          have nz0 := (blk_cell BX8.out 0).trans rfl; have fz0 := blk_frozen BX8.out 0; have nz1 := (blk_cell BX8.out 1).trans rfl; have fz1 := blk_frozen BX8.out 1; have nz2 := (blk_cell BX8.out 2).trans rfl; have fz2 := blk_frozen BX8.out 2; have nz3 := (blk_cell BX8.out 3).trans rfl; have fz3 := blk_frozen BX8.out 3; have nz4 := (blk_cell BX8.out 4).trans rfl; have fz4 := blk_frozen BX8.out 4; have nz5 := (blk_cell BX8.out 5).trans rfl; have fz5 := blk_frozen BX8.out 5
          go_simp
          have HF := Lib.hid (six_belowV HN.out HG8.out (.int .i64 y.f0) (.int .i64 y.f1) (.int .u64 y.f2) (.string y.f3) (.slice F4 y.f4.length f4) (.slice F5 y.f5.length f5))
          refine hK.out _ _ (KEEP.out _ HF.out) (fun hHeld2 => ?_)
          clear nz0 nz1 nz2 nz3 nz4 nz5 fz0 fz1 fz2 fz3 fz4 fz5 HN; have HN := HF; clear HF
          have BM := Lib.hid (six_putV BX8.out (.int .i64 y.f0) (.int .i64 y.f1) (.int .u64 y.f2) (.string y.f3) (.slice F4 y.f4.length f4) (.slice F5 y.f5.length f5)); have BO := Lib.hid ((six_farV (Ne.symm NB.out) (.int .i64 y.f0) (.int .i64 y.f1) (.int .u64 y.f2) (.string y.f3) (.slice F4 y.f4.length f4) (.slice F5 y.f5.length f5)).trans BX7.out); clear BX7 BX8; have BX8 := BM; have BX7 := BO; clear BM BO
          have R1' := Lib.hid (R1.out.put O17.out (.int .i64 y.f0) (.int .i64 y.f1) (.int .u64 y.f2) (.string y.f3) (.slice F4 y.f4.length f4) (.slice F5 y.f5.length f5)); clear R1; have R1 := R1'; clear R1'; have R2' := Lib.hid (R2.out.put O37.out (.int .i64 y.f0) (.int .i64 y.f1) (.int .u64 y.f2) (.string y.f3) (.slice F4 y.f4.length f4) (.slice F5 y.f5.length f5)); clear R2; have R2 := R2'; clear R2'; have R3' := Lib.hid (R3.out.put O57.out (.int .i64 y.f0) (.int .i64 y.f1) (.int .u64 y.f2) (.string y.f3) (.slice F4 y.f4.length f4) (.slice F5 y.f5.length f5)); clear R3; have R3 := R3'; clear R3'
          clear hK K hHeld; have hHeld := hHeld2; clear hHeld2; (try simp only [Act.put, List.setIfInBounds_toArray, List.set_cons_zero, List.set_cons_succ])
          generalize hgx : ((((((k6.setCell ⟨wd.heap.size, 0, none⟩ (.int .i64 y.f0)).setCell ⟨wd.heap.size, 1, none⟩ (.int .i64 y.f1)).setCell ⟨wd.heap.size, 2, none⟩ (.int .u64 y.f2)).setCell ⟨wd.heap.size, 3, none⟩ (.string y.f3)).setCell ⟨wd.heap.size, 4, none⟩ (.slice F4 y.f4.length f4)).setCell ⟨wd.heap.size, 5, none⟩ (.slice F5 y.f5.length f5)) = k7 at *; clear hgx
          refine wpAnyH_take (i := 10) (oi := ⟨some 9, _, _, _, _, _⟩) (v := ?_) rfl (by as_aux_lemma => kernel_rfl) (by as_aux_lemma => kernel_rfl) (by as_aux_lemma => kernel_rfl) (fun _ _ _ h => h) ?_ (by assumption) ?_; rotate_left; (focus (refine Or.inl ⟨rfl, ?_⟩; intro w hSw; (try dsimp only at hSw); go_simp; (try with_reducible rfl); done)); (try simp only [Act.put, List.setIfInBounds_toArray, List.set_cons_zero, List.set_cons_succ])
          refine wpAnyH_done (by kernel_rfl) ?_ _
          go_wp2
          go_meet
          case rel =>
            exact ⟨_, _, E4, e4, E5, e5, F4, f4, F5, f5, Q, cq, rfl, rfl, rfl, ⟨below_step HB.out HN.out⟩, ⟨blk_below BXA.out HN.out⟩, ⟨blk_below BXB.out HN.out⟩, ⟨BX7.out⟩, ⟨BX8.out⟩, ⟨R1.out.rows⟩, ⟨R2.out.rows⟩, ⟨R3.out.rows⟩⟩
      · go_simp
        have hb := below_alloc (Below.refl k1.heap.size k1) (.cells #[.int .i64 0, .int .i64 0, .int .u64 0, .string ⟨#[]⟩, .slice none 0 0, .slice none 0 0] 26)
        refine hK.out _ _ (KEEP.out _ (below_step HN.out hb)) (fun hHeld2 => ?_)
        have HG7 := Lib.hid (HN.out.size)
        have NB := Lib.hid (Nat.ne_of_lt (blk_lt BX8.out))
        have HN' := Lib.hid (below_step HN.out hb); clear HN; have HN := HN'; clear HN'; have BX8' := Lib.hid (blk_below BX8.out hb); clear BX8; have BX8 := BX8'; clear BX8'
        have BX7 := Lib.hid (blk_new k1 (.cells #[.int .i64 0, .int .i64 0, .int .u64 0, .string ⟨#[]⟩, .slice none 0 0, .slice none 0 0] 26))
        clear hb; clear hK K hHeld; have hHeld := hHeld2; clear hHeld2; (try simp only [Act.put, List.setIfInBounds_toArray, List.set_cons_zero, List.set_cons_succ])
        generalize hgx : k1.alloc (.cells #[.int .i64 0, .int .i64 0, .int .u64 0, .string ⟨#[]⟩, .slice none 0 0, .slice none 0 0] 26) = k2 at *; clear hgx
        refine wpAnyH_ready (rs := [1]) (by kernel_rfl) (by simp) ?_
        refine AllReadyH.cons (o := ⟨some 23, _, _, _, _, _⟩) rfl (fun K hK => ?_) AllReadyH.nil
        go_simp
        go_at_call 17
        (with_reducible refine (CA.out _ (below_step HB.out HN.out)).mono ?_)
        rintro e k3 ⟨⟨E4, e4, E5, e5, rfl, hk4, hk5⟩, hb⟩
        refine hK.out _ _ (KEEP.out _ (below_step HN.out hb)) (fun hHeld2 => ?_)
        have O16 := Lib.hid (show k1.heap.size < k2.heap.size ∨ k3.heap.size ≤ k1.heap.size from .inl (blk_lt BX7.out))
        have O17 := Lib.hid (show wd.heap.size < k2.heap.size ∨ k3.heap.size ≤ wd.heap.size from .inl (blk_lt BX8.out))
        have HN' := Lib.hid (below_step HN.out hb); clear HN; have HN := HN'; clear HN'; have BX7' := Lib.hid (blk_below BX7.out hb); clear BX7; have BX7 := BX7'; clear BX7'; have BX8' := Lib.hid (blk_below BX8.out hb); clear BX8; have BX8 := BX8'; clear BX8'
        have R1 := Lib.hid (RW.mk hk4 hk5)
        clear hb hk4 hk5; clear hK K hHeld; have hHeld := hHeld2; clear hHeld2; (try simp only [Act.put, List.setIfInBounds_toArray, List.set_cons_zero, List.set_cons_succ])
        refine wpAnyH_ready (rs := [3]) (by kernel_rfl) (by simp) ?_
        refine AllReadyH.cons (o := ⟨some 25, _, _, _, _, _⟩) rfl (fun K hK => ?_) AllReadyH.nil
        go_simp
        go_at_call 17
        (with_reducible refine (CB.out _ (below_step HB.out HN.out)).mono ?_)
        rintro e k4 ⟨⟨F4, f4, F5, f5, rfl, hk4, hk5⟩, hb⟩
        refine hK.out _ _ (KEEP.out _ (below_step HN.out hb)) (fun hHeld2 => ?_)
        have O36 := Lib.hid (show k1.heap.size < k3.heap.size ∨ k4.heap.size ≤ k1.heap.size from .inl (blk_lt BX7.out))
        have O37 := Lib.hid (show wd.heap.size < k3.heap.size ∨ k4.heap.size ≤ wd.heap.size from .inl (blk_lt BX8.out))
        have HN' := Lib.hid (below_step HN.out hb); clear HN; have HN := HN'; clear HN'; have R1' := Lib.hid (R1.out.step hb); clear R1; have R1 := R1'; clear R1'; have BX7' := Lib.hid (blk_below BX7.out hb); clear BX7; have BX7 := BX7'; clear BX7'; have BX8' := Lib.hid (blk_below BX8.out hb); clear BX8; have BX8 := BX8'; clear BX8'
        have R2 := Lib.hid (RW.mk hk4 hk5)
        clear hb hk4 hk5; clear hK K hHeld; have hHeld := hHeld2; clear hHeld2; (try simp only [Act.put, List.setIfInBounds_toArray, List.set_cons_zero, List.set_cons_succ])
        refine wpAnyH_ready (rs := [5]) (by kernel_rfl) (by simp) ?_
        refine AllReadyH.cons (o := ⟨some 27, _, _, _, _, _⟩) rfl (fun K hK => ?_) AllReadyH.nil
        go_simp
        go_at_call 18
        (with_reducible refine (CT.out _ (below_step HB.out HN.out)).mono ?_)
        rintro e k5 ⟨⟨Q, cq, rfl, hk5⟩, hb⟩
        refine hK.out _ _ (KEEP.out _ (below_step HN.out hb)) (fun hHeld2 => ?_)
        have O56 := Lib.hid (show k1.heap.size < k4.heap.size ∨ k5.heap.size ≤ k1.heap.size from .inl (blk_lt BX7.out))
        have O57 := Lib.hid (show wd.heap.size < k4.heap.size ∨ k5.heap.size ≤ wd.heap.size from .inl (blk_lt BX8.out))
        have HN' := Lib.hid (below_step HN.out hb); clear HN; have HN := HN'; clear HN'; have R1' := Lib.hid (R1.out.step hb); clear R1; have R1 := R1'; clear R1'; have R2' := Lib.hid (R2.out.step hb); clear R2; have R2 := R2'; clear R2'; have BX7' := Lib.hid (blk_below BX7.out hb); clear BX7; have BX7 := BX7'; clear BX7'; have BX8' := Lib.hid (blk_below BX8.out hb); clear BX8; have BX8 := BX8'; clear BX8'
        have R3 := Lib.hid (RT.mk hk5)
        clear hb hk5; clear hK K hHeld; have hHeld := hHeld2; clear hHeld2; (try simp only [Act.put, List.setIfInBounds_toArray, List.set_cons_zero, List.set_cons_succ])
        refine wpAnyH_ready (rs := [8]) (by kernel_rfl) (by simp) ?_
        refine AllReadyH.cons (o := ⟨none, _, _, _, _, _⟩) rfl (fun K hK => ?_) AllReadyH.nil
        have nz0 := (blk_cell BX7.out 0).trans rfl; have fz0 := blk_frozen BX7.out 0; have nz1 := (blk_cell BX7.out 1).trans rfl; have fz1 := blk_frozen BX7.out 1; have nz2 := (blk_cell BX7.out 2).trans rfl; have fz2 := blk_frozen BX7.out 2; have nz3 := (blk_cell BX7.out 3).trans rfl; have fz3 := blk_frozen BX7.out 3; have nz4 := (blk_cell BX7.out 4).trans rfl; have fz4 := blk_frozen BX7.out 4; have nz5 := (blk_cell BX7.out 5).trans rfl; have fz5 := blk_frozen BX7.out 5
        go_simp
        have HF := Lib.hid (six_belowV HN.out HG7.out (.int .i64 x.f0) (.int .i64 x.f1) (.int .u64 x.f2) (.string x.f3) (.slice E4 x.f4.length e4) (.slice E5 x.f5.length e5))
        refine hK.out _ _ (KEEP.out _ HF.out) (fun hHeld2 => ?_)
        clear nz0 nz1 nz2 nz3 nz4 nz5 fz0 fz1 fz2 fz3 fz4 fz5 HN; have HN := HF; clear HF
        have BM := Lib.hid (six_putV BX7.out (.int .i64 x.f0) (.int .i64 x.f1) (.int .u64 x.f2) (.string x.f3) (.slice E4 x.f4.length e4) (.slice E5 x.f5.length e5)); have BO := Lib.hid ((six_farV NB.out (.int .i64 x.f0) (.int .i64 x.f1) (.int .u64 x.f2) (.string x.f3) (.slice E4 x.f4.length e4) (.slice E5 x.f5.length e5)).trans BX8.out); clear BX7 BX8; have BX7 := BM; have BX8 := BO; clear BM BO
        have R1' := Lib.hid (R1.out.put O16.out (.int .i64 x.f0) (.int .i64 x.f1) (.int .u64 x.f2) (.string x.f3) (.slice E4 x.f4.length e4) (.slice E5 x.f5.length e5)); clear R1; have R1 := R1'; clear R1'; have R2' := Lib.hid (R2.out.put O36.out (.int .i64 x.f0) (.int .i64 x.f1) (.int .u64 x.f2) (.string x.f3) (.slice E4 x.f4.length e4) (.slice E5 x.f5.length e5)); clear R2; have R2 := R2'; clear R2'; have R3' := Lib.hid (R3.out.put O56.out (.int .i64 x.f0) (.int .i64 x.f1) (.int .u64 x.f2) (.string x.f3) (.slice E4 x.f4.length e4) (.slice E5 x.f5.length e5)); clear R3; have R3 := R3'; clear R3'
        clear hK K hHeld; have hHeld := hHeld2; clear hHeld2; (try simp only [Act.put, List.setIfInBounds_toArray, List.set_cons_zero, List.set_cons_succ])
        generalize hgx : ((((((k5.setCell ⟨k1.heap.size, 0, none⟩ (.int .i64 x.f0)).setCell ⟨k1.heap.size, 1, none⟩ (.int .i64 x.f1)).setCell ⟨k1.heap.size, 2, none⟩ (.int .u64 x.f2)).setCell ⟨k1.heap.size, 3, none⟩ (.string x.f3)).setCell ⟨k1.heap.size, 4, none⟩ (.slice E4 x.f4.length e4)).setCell ⟨k1.heap.size, 5, none⟩ (.slice E5 x.f5.length e5)) = k6 at *; clear hgx
        refine wpAnyH_ready (rs := [9]) (by kernel_rfl) (by simp) ?_
        refine AllReadyH.cons (o := ⟨none, _, _, _, _, _⟩) rfl (fun K hK => ?_) AllReadyH.nil
        have nz0 := (blk_cell BX8.out 0).trans rfl; have fz0 := blk_frozen BX8.out 0; have nz1 := (blk_cell BX8.out 1).trans rfl; have fz1 := blk_frozen BX8.out 1; have nz2 := (blk_cell BX8.out 2).trans rfl; have fz2 := blk_frozen BX8.out 2; have nz3 := (blk_cell BX8.out 3).trans rfl; have fz3 := blk_frozen BX8.out 3; have nz4 := (blk_cell BX8.out 4).trans rfl; have fz4 := blk_frozen BX8.out 4; have nz5 := (blk_cell BX8.out 5).trans rfl; have fz5 := blk_frozen BX8.out 5
        go_simp
        have HF := Lib.hid (six_belowV HN.out HG8.out (.int .i64 y.f0) (.int .i64 y.f1) (.int .u64 y.f2) (.string y.f3) (.slice F4 y.f4.length f4) (.slice F5 y.f5.length f5))
        refine hK.out _ _ (KEEP.out _ HF.out) (fun hHeld2 => ?_)
        clear nz0 nz1 nz2 nz3 nz4 nz5 fz0 fz1 fz2 fz3 fz4 fz5 HN; have HN := HF; clear HF
        have BM := Lib.hid (six_putV BX8.out (.int .i64 y.f0) (.int .i64 y.f1) (.int .u64 y.f2) (.string y.f3) (.slice F4 y.f4.length f4) (.slice F5 y.f5.length f5)); have BO := Lib.hid ((six_farV (Ne.symm NB.out) (.int .i64 y.f0) (.int .i64 y.f1) (.int .u64 y.f2) (.string y.f3) (.slice F4 y.f4.length f4) (.slice F5 y.f5.length f5)).trans BX7.out); clear BX7 BX8; have BX8 := BM; have BX7 := BO; clear BM BO
        have R1' := Lib.hid (R1.out.put O17.out (.int .i64 y.f0) (.int .i64 y.f1) (.int .u64 y.f2) (.string y.f3) (.slice F4 y.f4.length f4) (.slice F5 y.f5.length f5)); clear R1; have R1 := R1'; clear R1'; have R2' := Lib.hid (R2.out.put O37.out (.int .i64 y.f0) (.int .i64 y.f1) (.int .u64 y.f2) (.string y.f3) (.slice F4 y.f4.length f4) (.slice F5 y.f5.length f5)); clear R2; have R2 := R2'; clear R2'; have R3' := Lib.hid (R3.out.put O57.out (.int .i64 y.f0) (.int .i64 y.f1) (.int .u64 y.f2) (.string y.f3) (.slice F4 y.f4.length f4) (.slice F5 y.f5.length f5)); clear R3; have R3 := R3'; clear R3'
        clear hK K hHeld; have hHeld := hHeld2; clear hHeld2; (try simp only [Act.put, List.setIfInBounds_toArray, List.set_cons_zero, List.set_cons_succ])
        generalize hgx : ((((((k6.setCell ⟨wd.heap.size, 0, none⟩ (.int .i64 y.f0)).setCell ⟨wd.heap.size, 1, none⟩ (.int .i64 y.f1)).setCell ⟨wd.heap.size, 2, none⟩ (.int .u64 y.f2)).setCell ⟨wd.heap.size, 3, none⟩ (.string y.f3)).setCell ⟨wd.heap.size, 4, none⟩ (.slice F4 y.f4.length f4)).setCell ⟨wd.heap.size, 5, none⟩ (.slice F5 y.f5.length f5)) = k7 at *; clear hgx
        refine wpAnyH_take (i := 10) (oi := ⟨some 9, _, _, _, _, _⟩) (v := ?_) rfl (by as_aux_lemma => kernel_rfl) (by as_aux_lemma => kernel_rfl) (by as_aux_lemma => kernel_rfl) (fun _ _ _ h => h) ?_ (by assumption) ?_; rotate_left; (focus (refine Or.inl ⟨rfl, ?_⟩; intro w hSw; (try dsimp only at hSw); go_simp; (try with_reducible rfl); done)); (try simp only [Act.put, List.setIfInBounds_toArray, List.set_cons_zero, List.set_cons_succ])
        refine wpAnyH_done (by kernel_rfl) ?_ _
        go_wp2
        go_meet
        case rel =>
          exact ⟨_, _, E4, e4, E5, e5, F4, f4, F5, f5, Q, cq, rfl, rfl, rfl, ⟨below_step HB.out HN.out⟩, ⟨blk_below BXA.out HN.out⟩, ⟨blk_below BXB.out HN.out⟩, ⟨BX7.out⟩, ⟨BX8.out⟩, ⟨R1.out.rows⟩, ⟨R2.out.rows⟩, ⟨R3.out.rows⟩⟩
  case rest =>
  clear HB BXA BXB
  obtain ⟨g7, g8, E4, e4, E5, e5, F4, f4, F5, f5, Q, cq, rfl, rfl, rfl, HB0, BA0, BB0, B70, B80, RX0, RY0, RQ0⟩ := hcut
  have HB := Lib.hid HB0.out; have HC := Lib.hid (Below.refl wc.heap.size wc); have BXA := Lib.hid BA0.out; have BXB := Lib.hid BB0.out; have B7 := Lib.hid B70.out; have B8 := Lib.hid B80.out
  obtain ⟨a0, a1, a2, a3, a4, a5⟩ := At.of_box BXA.out; obtain ⟨b0, b1, b2, b3, b4, b5⟩ := At.of_box BXB.out; obtain ⟨x0, x1, x2, x3, x4, x5⟩ := At.of_box B7.out; obtain ⟨y0, y1, y2, y3, y4, y5⟩ := At.of_box B8.out
  go_upto_region 6 with (first | (go_at_call 19; (with_reducible refine (XTX.out _ _ _ _ _ HB.out (RX0.out.below HC.out)).mono ?_); rintro e wn ⟨rfl, hbn⟩; have HB' := Lib.hid (below_step HB.out hbn); have HC' := Lib.hid (below_step HC.out hbn); have BXA' := Lib.hid (blk_below BXA.out hbn); have BXB' := Lib.hid (blk_below BXB.out hbn); have B7' := Lib.hid (blk_below B7.out hbn); have B8' := Lib.hid (blk_below B8.out hbn); clear HB; have HB := HB'; clear HB'; clear HC; have HC := HC'; clear HC'; clear BXA; have BXA := BXA'; clear BXA'; clear BXB; have BXB := BXB'; clear BXB'; clear B7; have B7 := B7'; clear B7'; clear B8; have B8 := B8'; clear B8'; (try clear a0 a1 a2 a3 a4 a5); obtain ⟨a0, a1, a2, a3, a4, a5⟩ := At.of_box BXA.out; (try clear b0 b1 b2 b3 b4 b5); obtain ⟨b0, b1, b2, b3, b4, b5⟩ := At.of_box BXB.out; (try clear x0 x1 x2 x3 x4 x5); obtain ⟨x0, x1, x2, x3, x4, x5⟩ := At.of_box B7.out; (try clear y0 y1 y2 y3 y4 y5); obtain ⟨y0, y1, y2, y3, y4, y5⟩ := At.of_box B8.out; clear hbn) | (go_at_call 20; (with_reducible refine (XTA.out _ HB.out).mono ?_); rintro e wn ⟨rfl, hbn⟩; have HB' := Lib.hid (below_step HB.out hbn); have HC' := Lib.hid (below_step HC.out hbn); have BXA' := Lib.hid (blk_below BXA.out hbn); have BXB' := Lib.hid (blk_below BXB.out hbn); have B7' := Lib.hid (blk_below B7.out hbn); have B8' := Lib.hid (blk_below B8.out hbn); clear HB; have HB := HB'; clear HB'; clear HC; have HC := HC'; clear HC'; clear BXA; have BXA := BXA'; clear BXA'; clear BXB; have BXB := BXB'; clear BXB'; clear B7; have B7 := B7'; clear B7'; clear B8; have B8 := B8'; clear B8'; (try clear a0 a1 a2 a3 a4 a5); obtain ⟨a0, a1, a2, a3, a4, a5⟩ := At.of_box BXA.out; (try clear b0 b1 b2 b3 b4 b5); obtain ⟨b0, b1, b2, b3, b4, b5⟩ := At.of_box BXB.out; (try clear x0 x1 x2 x3 x4 x5); obtain ⟨x0, x1, x2, x3, x4, x5⟩ := At.of_box B7.out; (try clear y0 y1 y2 y3 y4 y5); obtain ⟨y0, y1, y2, y3, y4, y5⟩ := At.of_box B8.out; clear hbn) | (go_at_call 21; (with_reducible refine (LX.out _ _ _ _ _ _ _ _ _ HB.out (RX0.out.below HC.out) (RY0.out.below HC.out)).mono ?_); rintro e wn ⟨rfl, hbn⟩; have HB' := Lib.hid (below_step HB.out hbn); have HC' := Lib.hid (below_step HC.out hbn); have BXA' := Lib.hid (blk_below BXA.out hbn); have BXB' := Lib.hid (blk_below BXB.out hbn); have B7' := Lib.hid (blk_below B7.out hbn); have B8' := Lib.hid (blk_below B8.out hbn); clear HB; have HB := HB'; clear HB'; clear HC; have HC := HC'; clear HC'; clear BXA; have BXA := BXA'; clear BXA'; clear BXB; have BXB := BXB'; clear BXB'; clear B7; have B7 := B7'; clear B7'; clear B8; have B8 := B8'; clear B8'; (try clear a0 a1 a2 a3 a4 a5); obtain ⟨a0, a1, a2, a3, a4, a5⟩ := At.of_box BXA.out; (try clear b0 b1 b2 b3 b4 b5); obtain ⟨b0, b1, b2, b3, b4, b5⟩ := At.of_box BXB.out; (try clear x0 x1 x2 x3 x4 x5); obtain ⟨x0, x1, x2, x3, x4, x5⟩ := At.of_box B7.out; (try clear y0 y1 y2 y3 y4 y5); obtain ⟨y0, y1, y2, y3, y4, y5⟩ := At.of_box B8.out; clear hbn) | (go_at_call 22; (with_reducible refine (LA.out _ HB.out).mono ?_); rintro e wn ⟨rfl, hbn⟩; have HB' := Lib.hid (below_step HB.out hbn); have HC' := Lib.hid (below_step HC.out hbn); have BXA' := Lib.hid (blk_below BXA.out hbn); have BXB' := Lib.hid (blk_below BXB.out hbn); have B7' := Lib.hid (blk_below B7.out hbn); have B8' := Lib.hid (blk_below B8.out hbn); clear HB; have HB := HB'; clear HB'; clear HC; have HC := HC'; clear HC'; clear BXA; have BXA := BXA'; clear BXA'; clear BXB; have BXB := BXB'; clear BXB'; clear B7; have B7 := B7'; clear B7'; clear B8; have B8 := B8'; clear B8'; (try clear a0 a1 a2 a3 a4 a5); obtain ⟨a0, a1, a2, a3, a4, a5⟩ := At.of_box BXA.out; (try clear b0 b1 b2 b3 b4 b5); obtain ⟨b0, b1, b2, b3, b4, b5⟩ := At.of_box BXB.out; (try clear x0 x1 x2 x3 x4 x5); obtain ⟨x0, x1, x2, x3, x4, x5⟩ := At.of_box B7.out; (try clear y0 y1 y2 y3 y4 y5); obtain ⟨y0, y1, y2, y3, y4, y5⟩ := At.of_box B8.out; clear hbn))
  go_upto_region 8 with (first | (go_at_call 23; (with_reducible refine (GX.out _ _ _ _ _ _ _ HB.out (RX0.out.below HC.out) ⟨Kd.C_below RQ0.out.1 HC.out, RQ0.out.2⟩).mono ?_); rintro e wg ⟨⟨G4, g4, G5, g5, rfl, hk4, hk5⟩, hbn⟩; have HCB := Lib.hid HC.out.size; have HWB := Lib.hid HB.out.size; have HB' := Lib.hid (below_step HB.out hbn); have HC' := Lib.hid (below_step HC.out hbn); have BXA' := Lib.hid (blk_below BXA.out hbn); have BXB' := Lib.hid (blk_below BXB.out hbn); have B7' := Lib.hid (blk_below B7.out hbn); have B8' := Lib.hid (blk_below B8.out hbn); clear HB; have HB := HB'; clear HB'; clear HC; have HC := HC'; clear HC'; clear BXA; have BXA := BXA'; clear BXA'; clear BXB; have BXB := BXB'; clear BXB'; clear B7; have B7 := B7'; clear B7'; clear B8; have B8 := B8'; clear B8'; (try clear a0 a1 a2 a3 a4 a5); obtain ⟨a0, a1, a2, a3, a4, a5⟩ := At.of_box BXA.out; (try clear b0 b1 b2 b3 b4 b5); obtain ⟨b0, b1, b2, b3, b4, b5⟩ := At.of_box BXB.out; (try clear x0 x1 x2 x3 x4 x5); obtain ⟨x0, x1, x2, x3, x4, x5⟩ := At.of_box B7.out; (try clear y0 y1 y2 y3 y4 y5); obtain ⟨y0, y1, y2, y3, y4, y5⟩ := At.of_box B8.out; have HGB := Lib.hid hbn.size; have RG4 := Lib.hid hk4; have RG5 := Lib.hid hk5; clear hk4 hk5; have HG := Lib.hid (Below.refl wg.heap.size wg); have BN := Lib.hid (blk_new wg (.cells #[.int .i64 0, .int .i64 0, .int .u64 0, .string ⟨#[]⟩, .slice none 0 0, .slice none 0 0] 26)); clear hbn) | ((with_reducible refine gate_store (t := 26) (p := 18) rfl ?_); refine row_event (by rfl) (by rfl) (by rfl) (by rfl) (by rfl) BN.out (by exact size26) (by rfl) (by first | rfl | simp [Value.oneCell']) ?_; intro wh hz ho hb0; have hbn := hb0 (w0 := wg) (Nat.le_refl _) (below_alloc (Below.refl _ _) _); have HB' := Lib.hid (below_step HB.out hbn); have HC' := Lib.hid (below_step HC.out hbn); have BXA' := Lib.hid (blk_below BXA.out hbn); have BXB' := Lib.hid (blk_below BXB.out hbn); have B7' := Lib.hid (blk_below B7.out hbn); have B8' := Lib.hid (blk_below B8.out hbn); have HG' := Lib.hid (below_step HG.out hbn); clear HB; have HB := HB'; clear HB'; clear HC; have HC := HC'; clear HC'; clear BXA; have BXA := BXA'; clear BXA'; clear BXB; have BXB := BXB'; clear BXB'; clear B7; have B7 := B7'; clear B7'; clear B8; have B8 := B8'; clear B8'; clear HG; have HG := HG'; clear HG'; have BU := Lib.hid hz; (try clear a0 a1 a2 a3 a4 a5); obtain ⟨a0, a1, a2, a3, a4, a5⟩ := At.of_box BXA.out; (try clear b0 b1 b2 b3 b4 b5); obtain ⟨b0, b1, b2, b3, b4, b5⟩ := At.of_box BXB.out; (try clear x0 x1 x2 x3 x4 x5); obtain ⟨x0, x1, x2, x3, x4, x5⟩ := At.of_box B7.out; (try clear y0 y1 y2 y3 y4 y5); obtain ⟨y0, y1, y2, y3, y4, y5⟩ := At.of_box B8.out; clear hz ho hb0 hbn BN) | (go_at_call 24; (with_reducible refine (GA.out _ HB.out).mono ?_); rintro e wv ⟨⟨H4, h4, H5, h5, rfl, hr⟩, hbn⟩; have HB' := Lib.hid (below_step HB.out hbn); have HC' := Lib.hid (below_step HC.out hbn); have BXA' := Lib.hid (blk_below BXA.out hbn); have BXB' := Lib.hid (blk_below BXB.out hbn); have B7' := Lib.hid (blk_below B7.out hbn); have B8' := Lib.hid (blk_below B8.out hbn); have HG' := Lib.hid (below_step HG.out hbn); have BU' := Lib.hid (blk_below BU.out hbn); clear HB; have HB := HB'; clear HB'; clear HC; have HC := HC'; clear HC'; clear BXA; have BXA := BXA'; clear BXA'; clear BXB; have BXB := BXB'; clear BXB'; clear B7; have B7 := B7'; clear B7'; clear B8; have B8 := B8'; clear B8'; clear HG; have HG := HG'; clear HG'; clear BU; have BU := BU'; clear BU'; (try clear a0 a1 a2 a3 a4 a5); obtain ⟨a0, a1, a2, a3, a4, a5⟩ := At.of_box BXA.out; (try clear b0 b1 b2 b3 b4 b5); obtain ⟨b0, b1, b2, b3, b4, b5⟩ := At.of_box BXB.out; (try clear x0 x1 x2 x3 x4 x5); obtain ⟨x0, x1, x2, x3, x4, x5⟩ := At.of_box B7.out; (try clear y0 y1 y2 y3 y4 y5); obtain ⟨y0, y1, y2, y3, y4, y5⟩ := At.of_box B8.out; (try clear u0 u1 u2 u3 u4 u5); obtain ⟨u0, u1, u2, u3, u4, u5⟩ := At.of_box BU.out; have RV0 := Lib.hid (Rows4.below hr hbn); clear hr; have HV := Lib.hid (Below.refl wv.heap.size wv); have BN := Lib.hid (blk_new wv (.cells #[.int .i64 0, .int .i64 0, .int .u64 0, .string ⟨#[]⟩, .slice none 0 0, .slice none 0 0] 26)); clear hbn) | ((with_reducible refine gate_store (t := 26) (p := 20) rfl ?_); refine row_event (by rfl) (by rfl) (by rfl) (by rfl) (by rfl) BN.out (by exact size26) (by rfl) (by first | rfl | simp [Value.oneCell']) ?_; intro wi hz ho hb0; have hbn := hb0 (w0 := wv) (Nat.le_refl _) (below_alloc (Below.refl _ _) _); have HB' := Lib.hid (below_step HB.out hbn); have HC' := Lib.hid (below_step HC.out hbn); have BXA' := Lib.hid (blk_below BXA.out hbn); have BXB' := Lib.hid (blk_below BXB.out hbn); have B7' := Lib.hid (blk_below B7.out hbn); have B8' := Lib.hid (blk_below B8.out hbn); have HG' := Lib.hid (below_step HG.out hbn); have BU' := Lib.hid (blk_below BU.out hbn); have HV' := Lib.hid (below_step HV.out hbn); clear HB; have HB := HB'; clear HB'; clear HC; have HC := HC'; clear HC'; clear BXA; have BXA := BXA'; clear BXA'; clear BXB; have BXB := BXB'; clear BXB'; clear B7; have B7 := B7'; clear B7'; clear B8; have B8 := B8'; clear B8'; clear HG; have HG := HG'; clear HG'; clear BU; have BU := BU'; clear BU'; clear HV; have HV := HV'; clear HV'; have BV := Lib.hid hz; (try clear a0 a1 a2 a3 a4 a5); obtain ⟨a0, a1, a2, a3, a4, a5⟩ := At.of_box BXA.out; (try clear b0 b1 b2 b3 b4 b5); obtain ⟨b0, b1, b2, b3, b4, b5⟩ := At.of_box BXB.out; (try clear x0 x1 x2 x3 x4 x5); obtain ⟨x0, x1, x2, x3, x4, x5⟩ := At.of_box B7.out; (try clear y0 y1 y2 y3 y4 y5); obtain ⟨y0, y1, y2, y3, y4, y5⟩ := At.of_box B8.out; (try clear u0 u1 u2 u3 u4 u5); obtain ⟨u0, u1, u2, u3, u4, u5⟩ := At.of_box BU.out; clear hz ho hb0 hbn BN))
  go_upto_region 11 with (first | (go_at_call 25; (with_reducible refine (numW _ _).mono ?_); rintro e wn ⟨rfl, hbn⟩; have HB' := Lib.hid (below_step HB.out hbn); have HC' := Lib.hid (below_step HC.out hbn); have BXA' := Lib.hid (blk_below BXA.out hbn); have BXB' := Lib.hid (blk_below BXB.out hbn); have B7' := Lib.hid (blk_below B7.out hbn); have B8' := Lib.hid (blk_below B8.out hbn); have HG' := Lib.hid (below_step HG.out hbn); have BU' := Lib.hid (blk_below BU.out hbn); have HV' := Lib.hid (below_step HV.out hbn); have BV' := Lib.hid (blk_below BV.out hbn); clear HB; have HB := HB'; clear HB'; clear HC; have HC := HC'; clear HC'; clear BXA; have BXA := BXA'; clear BXA'; clear BXB; have BXB := BXB'; clear BXB'; clear B7; have B7 := B7'; clear B7'; clear B8; have B8 := B8'; clear B8'; clear HG; have HG := HG'; clear HG'; clear BU; have BU := BU'; clear BU'; clear HV; have HV := HV'; clear HV'; clear BV; have BV := BV'; clear BV'; (try clear a0 a1 a2 a3 a4 a5); obtain ⟨a0, a1, a2, a3, a4, a5⟩ := At.of_box BXA.out; (try clear b0 b1 b2 b3 b4 b5); obtain ⟨b0, b1, b2, b3, b4, b5⟩ := At.of_box BXB.out; (try clear x0 x1 x2 x3 x4 x5); obtain ⟨x0, x1, x2, x3, x4, x5⟩ := At.of_box B7.out; (try clear y0 y1 y2 y3 y4 y5); obtain ⟨y0, y1, y2, y3, y4, y5⟩ := At.of_box B8.out; (try clear u0 u1 u2 u3 u4 u5); obtain ⟨u0, u1, u2, u3, u4, u5⟩ := At.of_box BU.out; (try clear v0 v1 v2 v3 v4 v5); obtain ⟨v0, v1, v2, v3, v4, v5⟩ := At.of_box BV.out; clear hbn) | (go_at_call 26; (with_reducible refine (UX.out _ _ _ _ _ _ _ _ _ ((rowsV RG4.out RG5.out).below HG.out) (RV0.out.below HV.out)).mono ?_); rintro e wn ⟨rfl, hbn⟩; have HB' := Lib.hid (below_step HB.out hbn); have HC' := Lib.hid (below_step HC.out hbn); have BXA' := Lib.hid (blk_below BXA.out hbn); have BXB' := Lib.hid (blk_below BXB.out hbn); have B7' := Lib.hid (blk_below B7.out hbn); have B8' := Lib.hid (blk_below B8.out hbn); have HG' := Lib.hid (below_step HG.out hbn); have BU' := Lib.hid (blk_below BU.out hbn); have HV' := Lib.hid (below_step HV.out hbn); have BV' := Lib.hid (blk_below BV.out hbn); clear HB; have HB := HB'; clear HB'; clear HC; have HC := HC'; clear HC'; clear BXA; have BXA := BXA'; clear BXA'; clear BXB; have BXB := BXB'; clear BXB'; clear B7; have B7 := B7'; clear B7'; clear B8; have B8 := B8'; clear B8'; clear HG; have HG := HG'; clear HG'; clear BU; have BU := BU'; clear BU'; clear HV; have HV := HV'; clear HV'; clear BV; have BV := BV'; clear BV'; (try clear a0 a1 a2 a3 a4 a5); obtain ⟨a0, a1, a2, a3, a4, a5⟩ := At.of_box BXA.out; (try clear b0 b1 b2 b3 b4 b5); obtain ⟨b0, b1, b2, b3, b4, b5⟩ := At.of_box BXB.out; (try clear x0 x1 x2 x3 x4 x5); obtain ⟨x0, x1, x2, x3, x4, x5⟩ := At.of_box B7.out; (try clear y0 y1 y2 y3 y4 y5); obtain ⟨y0, y1, y2, y3, y4, y5⟩ := At.of_box B8.out; (try clear u0 u1 u2 u3 u4 u5); obtain ⟨u0, u1, u2, u3, u4, u5⟩ := At.of_box BU.out; (try clear v0 v1 v2 v3 v4 v5); obtain ⟨v0, v1, v2, v3, v4, v5⟩ := At.of_box BV.out; clear hbn) | (go_at_call 27; (with_reducible refine (SPG.out _ _ _ _ _ _ _ _ _ RG4.out RG5.out HG.out HGB.out).mono ?_); rintro e ws ⟨rfl, hs⟩; have HB' := Lib.hid (HB.out.trans (hs.mono HWB.out)); have HC' := Lib.hid (HC.out.trans (hs.mono HCB.out)); clear HB HC BXA BXB B7 B8 HG HV BU BV RG4 RG5 RV0 HGB HCB HWB hs; (try clear a0 a1 a2 a3 a4 a5 b0 b1 b2 b3 b4 b5 x0 x1 x2 x3 x4 x5 y0 y1 y2 y3 y4 y5 u0 u1 u2 u3 u4 u5 v0 v1 v2 v3 v4 v5); have HB := HB'; have HC := HC'; clear HB' HC'))
  have hbn := below_drew (Below.refl ws.heap.size ws)
  have HB' := Lib.hid (below_step HB.out hbn); have HC' := Lib.hid (below_step HC.out hbn); clear HB; have HB := HB'; clear HB'; clear HC; have HC := HC'; clear HC'
  clear hbn
  have BXA := Lib.hid (blk_below BA0.out HC.out); have BXB := Lib.hid (blk_below BB0.out HC.out); have B7 := Lib.hid (blk_below B70.out HC.out); have B8 := Lib.hid (blk_below B80.out HC.out)
  have KEEP : ∀ w', Below ws.drew.heap.size ws.drew w' → (Below ws.drew.heap.size ws.drew w' ∧ w'.cell? ⟨ga, 0, none⟩ = some (.int .i64 a.f0) ∧ w'.cell? ⟨ga, 1, none⟩ = some (.int .i64 a.f1) ∧ w'.cell? ⟨ga, 2, none⟩ = some (.int .u64 a.f2) ∧ w'.cell? ⟨ga, 3, none⟩ = some (.string a.f3) ∧ w'.cell? ⟨ga, 4, none⟩ = some (.slice A4 a.f4.length c4) ∧ w'.cell? ⟨ga, 5, none⟩ = some (.slice A5 a.f5.length c5) ∧ w'.cell? ⟨gb, 0, none⟩ = some (.int .i64 b.f0) ∧ w'.cell? ⟨gb, 1, none⟩ = some (.int .i64 b.f1) ∧ w'.cell? ⟨gb, 2, none⟩ = some (.int .u64 b.f2) ∧ w'.cell? ⟨gb, 3, none⟩ = some (.string b.f3) ∧ w'.cell? ⟨gb, 4, none⟩ = some (.slice B4 b.f4.length d4) ∧ w'.cell? ⟨gb, 5, none⟩ = some (.slice B5 b.f5.length d5) ∧ w'.cell? ⟨g7, 0, none⟩ = some (.int .i64 x.f0) ∧ w'.cell? ⟨g7, 1, none⟩ = some (.int .i64 x.f1) ∧ w'.cell? ⟨g7, 2, none⟩ = some (.int .u64 x.f2) ∧ w'.cell? ⟨g7, 3, none⟩ = some (.string x.f3) ∧ w'.cell? ⟨g7, 4, none⟩ = some (.slice E4 x.f4.length e4) ∧ w'.cell? ⟨g7, 5, none⟩ = some (.slice E5 x.f5.length e5) ∧ w'.cell? ⟨g8, 0, none⟩ = some (.int .i64 y.f0) ∧ w'.cell? ⟨g8, 1, none⟩ = some (.int .i64 y.f1) ∧ w'.cell? ⟨g8, 2, none⟩ = some (.int .u64 y.f2) ∧ w'.cell? ⟨g8, 3, none⟩ = some (.string y.f3) ∧ w'.cell? ⟨g8, 4, none⟩ = some (.slice F4 y.f4.length f4) ∧ w'.cell? ⟨g8, 5, none⟩ = some (.slice F5 y.f5.length f5)) := fun w' h => ⟨h, (At.of_box (blk_below BXA.out h)).g0, (At.of_box (blk_below BXA.out h)).g1, (At.of_box (blk_below BXA.out h)).g2, (At.of_box (blk_below BXA.out h)).g3, (At.of_box (blk_below BXA.out h)).g4, (At.of_box (blk_below BXA.out h)).g5, (At.of_box (blk_below BXB.out h)).g0, (At.of_box (blk_below BXB.out h)).g1, (At.of_box (blk_below BXB.out h)).g2, (At.of_box (blk_below BXB.out h)).g3, (At.of_box (blk_below BXB.out h)).g4, (At.of_box (blk_below BXB.out h)).g5, (At.of_box (blk_below B7.out h)).g0, (At.of_box (blk_below B7.out h)).g1, (At.of_box (blk_below B7.out h)).g2, (At.of_box (blk_below B7.out h)).g3, (At.of_box (blk_below B7.out h)).g4, (At.of_box (blk_below B7.out h)).g5, (At.of_box (blk_below B8.out h)).g0, (At.of_box (blk_below B8.out h)).g1, (At.of_box (blk_below B8.out h)).g2, (At.of_box (blk_below B8.out h)).g3, (At.of_box (blk_below B8.out h)).g4, (At.of_box (blk_below B8.out h)).g5⟩
  have KEEP := Lib.hid KEEP
  clear BXA BXB B7 B8
  refine wp_region_held_drew (S := (fun w' => Below ws.drew.heap.size ws.drew w' ∧ w'.cell? ⟨ga, 0, none⟩ = some (.int .i64 a.f0) ∧ w'.cell? ⟨ga, 1, none⟩ = some (.int .i64 a.f1) ∧ w'.cell? ⟨ga, 2, none⟩ = some (.int .u64 a.f2) ∧ w'.cell? ⟨ga, 3, none⟩ = some (.string a.f3) ∧ w'.cell? ⟨ga, 4, none⟩ = some (.slice A4 a.f4.length c4) ∧ w'.cell? ⟨ga, 5, none⟩ = some (.slice A5 a.f5.length c5) ∧ w'.cell? ⟨gb, 0, none⟩ = some (.int .i64 b.f0) ∧ w'.cell? ⟨gb, 1, none⟩ = some (.int .i64 b.f1) ∧ w'.cell? ⟨gb, 2, none⟩ = some (.int .u64 b.f2) ∧ w'.cell? ⟨gb, 3, none⟩ = some (.string b.f3) ∧ w'.cell? ⟨gb, 4, none⟩ = some (.slice B4 b.f4.length d4) ∧ w'.cell? ⟨gb, 5, none⟩ = some (.slice B5 b.f5.length d5) ∧ w'.cell? ⟨g7, 0, none⟩ = some (.int .i64 x.f0) ∧ w'.cell? ⟨g7, 1, none⟩ = some (.int .i64 x.f1) ∧ w'.cell? ⟨g7, 2, none⟩ = some (.int .u64 x.f2) ∧ w'.cell? ⟨g7, 3, none⟩ = some (.string x.f3) ∧ w'.cell? ⟨g7, 4, none⟩ = some (.slice E4 x.f4.length e4) ∧ w'.cell? ⟨g7, 5, none⟩ = some (.slice E5 x.f5.length e5) ∧ w'.cell? ⟨g8, 0, none⟩ = some (.int .i64 y.f0) ∧ w'.cell? ⟨g8, 1, none⟩ = some (.int .i64 y.f1) ∧ w'.cell? ⟨g8, 2, none⟩ = some (.int .u64 y.f2) ∧ w'.cell? ⟨g8, 3, none⟩ = some (.string y.f3) ∧ w'.cell? ⟨g8, 4, none⟩ = some (.slice F4 y.f4.length f4) ∧ w'.cell? ⟨g8, 5, none⟩ = some (.slice F5 y.f5.length f5))) (by kernel_rfl) ?_ (fun hHeld => ?_)
  · exact KEEP.out _ (Below.refl _ _)
  refine wpAnyH_take (i := 0) (oi := ⟨some 96, _, _, _, _, _⟩) (v := ?_) rfl (by kernel_rfl) (by kernel_rfl) (by kernel_rfl) (fun _ _ _ h => h) ?_ (by assumption) ?_; rotate_left; (focus (refine Or.inl ⟨rfl, ?_⟩; intro w hSw; (try dsimp only at hSw); go_simp; (try with_reducible rfl); done)); (try simp only [Act.put, List.setIfInBounds_toArray, List.set_cons_zero, List.set_cons_succ])
  refine wpAnyH_take (i := 2) (oi := ⟨some 98, _, _, _, _, _⟩) (v := ?_) rfl (by kernel_rfl) (by kernel_rfl) (by kernel_rfl) (fun _ _ _ h => h) ?_ (by assumption) ?_; rotate_left; (focus (refine Or.inl ⟨rfl, ?_⟩; intro w hSw; (try dsimp only at hSw); go_simp; (try with_reducible rfl); done)); (try simp only [Act.put, List.setIfInBounds_toArray, List.set_cons_zero, List.set_cons_succ])
  refine wpAnyH_ready (rs := [1]) (by kernel_rfl) (by simp) ?_
  refine AllReadyH.cons (o := ⟨some 97, _, _, _, _, _⟩) rfl (fun K hK => ?_) AllReadyH.nil
  go_simp
  (try (first | (go_at_call 28; (with_reducible refine (MX.out _ _ _ _ _ (below_step HB.out (by first | assumption | exact And.left (by assumption) | exact Below.refl _ _)) (RX0.out.below (below_step HC.out (by first | assumption | exact And.left (by assumption) | exact Below.refl _ _)))).mono ?_); rintro e wn ⟨rfl, hb⟩) | (go_at_call 29; (with_reducible refine (MA.out _ (below_step HB.out (by first | assumption | exact And.left (by assumption) | exact Below.refl _ _))).mono ?_); rintro e wn ⟨rfl, hb⟩) | (go_at_call 30; (with_reducible refine (TX.out _ _ _ _ _ (below_step HB.out (by first | assumption | exact And.left (by assumption) | exact Below.refl _ _)) (RX0.out.below (below_step HC.out (by first | assumption | exact And.left (by assumption) | exact Below.refl _ _)))).mono ?_); rintro e wn ⟨rfl, hb⟩) | (go_at_call 31; (with_reducible refine (TA.out _ (below_step HB.out (by first | assumption | exact And.left (by assumption) | exact Below.refl _ _))).mono ?_); rintro e wn ⟨rfl, hb⟩) | (go_at_call 32; (with_reducible refine (SX.out _ _ _ _ _ _ _ _ _ (below_step HB.out (by first | assumption | exact And.left (by assumption) | exact Below.refl _ _)) (RX0.out.below (below_step HC.out (by first | assumption | exact And.left (by assumption) | exact Below.refl _ _))) (RY0.out.below (below_step HC.out (by first | assumption | exact And.left (by assumption) | exact Below.refl _ _)))).mono ?_); rintro e wn ⟨rfl, hb⟩) | (go_at_call 33; (with_reducible refine (SA.out _ (below_step HB.out (by first | assumption | exact And.left (by assumption) | exact Below.refl _ _))).mono ?_); rintro e wn ⟨rfl, hb⟩) | (go_at_call 17; (with_reducible refine (CA.out _ (below_step HB.out (by first | assumption | exact And.left (by assumption) | exact Below.refl _ _))).mono ?_); rintro e wn ⟨⟨Z4, z4, Z5, z5, rfl, hk4, hk5⟩, hb⟩; have RZ := Lib.hid (rowsV hk4 hk5); clear hk4 hk5) | (go_at_call 26; (with_reducible refine (VX.out _ _ _ _ _ _ _ _ _ (below_step HB.out (by first | assumption | exact And.left (by assumption) | exact Below.refl _ _)) (RX0.out.below (below_step HC.out (by first | assumption | exact And.left (by assumption) | exact Below.refl _ _))) RZ.out).mono ?_); rintro e wn ⟨rfl, hb⟩) | (go_at_call 34; (with_reducible refine (QX.out _ _ _ (below_step HB.out (by first | assumption | exact And.left (by assumption) | exact Below.refl _ _)) ⟨Kd.C_below RQ0.out.1 (below_step HC.out (by first | assumption | exact And.left (by assumption) | exact Below.refl _ _)), RQ0.out.2⟩).mono ?_); rintro e wn ⟨rfl, hb⟩) | (go_at_call 35; (with_reducible refine (AW.out _ (below_step HB.out (by first | assumption | exact And.left (by assumption) | exact Below.refl _ _))).mono ?_); rintro e wn ⟨rfl, hb⟩)))
  refine hK.out _ _ ?_ (fun hHeld2 => ?_)
  · first | assumption | (exact KEEP.out _ (below_step (by first | assumption | exact And.left (by assumption) | exact Below.refl _ _) hb))
  clear hK K hHeld
  have hHeld := hHeld2; clear hHeld2
  (try simp only [Act.put, List.setIfInBounds_toArray, List.set_cons_zero, List.set_cons_succ])
  refine wpAnyH_ready (rs := [3]) (by kernel_rfl) (by simp) ?_
  refine AllReadyH.cons (o := ⟨some 99, _, _, _, _, _⟩) rfl (fun K hK => ?_) AllReadyH.nil
  go_simp
  (try (first | (go_at_call 28; (with_reducible refine (MX.out _ _ _ _ _ (below_step HB.out (by first | assumption | exact And.left (by assumption) | exact Below.refl _ _)) (RX0.out.below (below_step HC.out (by first | assumption | exact And.left (by assumption) | exact Below.refl _ _)))).mono ?_); rintro e wn ⟨rfl, hb⟩) | (go_at_call 29; (with_reducible refine (MA.out _ (below_step HB.out (by first | assumption | exact And.left (by assumption) | exact Below.refl _ _))).mono ?_); rintro e wn ⟨rfl, hb⟩) | (go_at_call 30; (with_reducible refine (TX.out _ _ _ _ _ (below_step HB.out (by first | assumption | exact And.left (by assumption) | exact Below.refl _ _)) (RX0.out.below (below_step HC.out (by first | assumption | exact And.left (by assumption) | exact Below.refl _ _)))).mono ?_); rintro e wn ⟨rfl, hb⟩) | (go_at_call 31; (with_reducible refine (TA.out _ (below_step HB.out (by first | assumption | exact And.left (by assumption) | exact Below.refl _ _))).mono ?_); rintro e wn ⟨rfl, hb⟩) | (go_at_call 32; (with_reducible refine (SX.out _ _ _ _ _ _ _ _ _ (below_step HB.out (by first | assumption | exact And.left (by assumption) | exact Below.refl _ _)) (RX0.out.below (below_step HC.out (by first | assumption | exact And.left (by assumption) | exact Below.refl _ _))) (RY0.out.below (below_step HC.out (by first | assumption | exact And.left (by assumption) | exact Below.refl _ _)))).mono ?_); rintro e wn ⟨rfl, hb⟩) | (go_at_call 33; (with_reducible refine (SA.out _ (below_step HB.out (by first | assumption | exact And.left (by assumption) | exact Below.refl _ _))).mono ?_); rintro e wn ⟨rfl, hb⟩) | (go_at_call 17; (with_reducible refine (CA.out _ (below_step HB.out (by first | assumption | exact And.left (by assumption) | exact Below.refl _ _))).mono ?_); rintro e wn ⟨⟨Z4, z4, Z5, z5, rfl, hk4, hk5⟩, hb⟩; have RZ := Lib.hid (rowsV hk4 hk5); clear hk4 hk5) | (go_at_call 26; (with_reducible refine (VX.out _ _ _ _ _ _ _ _ _ (below_step HB.out (by first | assumption | exact And.left (by assumption) | exact Below.refl _ _)) (RX0.out.below (below_step HC.out (by first | assumption | exact And.left (by assumption) | exact Below.refl _ _))) RZ.out).mono ?_); rintro e wn ⟨rfl, hb⟩) | (go_at_call 34; (with_reducible refine (QX.out _ _ _ (below_step HB.out (by first | assumption | exact And.left (by assumption) | exact Below.refl _ _)) ⟨Kd.C_below RQ0.out.1 (below_step HC.out (by first | assumption | exact And.left (by assumption) | exact Below.refl _ _)), RQ0.out.2⟩).mono ?_); rintro e wn ⟨rfl, hb⟩) | (go_at_call 35; (with_reducible refine (AW.out _ (below_step HB.out (by first | assumption | exact And.left (by assumption) | exact Below.refl _ _))).mono ?_); rintro e wn ⟨rfl, hb⟩)))
  refine hK.out _ _ ?_ (fun hHeld2 => ?_)
  · first | assumption | (exact KEEP.out _ (below_step (by first | assumption | exact And.left (by assumption) | exact Below.refl _ _) hb))
  clear hK K hHeld
  have hHeld := hHeld2; clear hHeld2
  (try simp only [Act.put, List.setIfInBounds_toArray, List.set_cons_zero, List.set_cons_succ])
  refine wpAnyH_take (i := 4) (oi := ⟨some 100, _, _, _, _, _⟩) (v := ?_) rfl (by kernel_rfl) (by kernel_rfl) (by kernel_rfl) (fun _ _ _ h => h) ?_ (by assumption) ?_; rotate_left; (focus (refine Or.inl ⟨rfl, ?_⟩; intro w hSw; (try dsimp only at hSw); go_simp; (try with_reducible rfl); done)); (try simp only [Act.put, List.setIfInBounds_toArray, List.set_cons_zero, List.set_cons_succ])
  refine wpAnyH_take (i := 5) (oi := ⟨some 101, _, _, _, _, _⟩) (v := ?_) rfl (by kernel_rfl) (by kernel_rfl) (by kernel_rfl) (fun _ _ _ h => h) ?_ (by assumption) ?_; rotate_left; (focus (refine Or.inl ⟨rfl, ?_⟩; intro w hSw; (try dsimp only at hSw); go_simp; (try with_reducible rfl); done)); (try simp only [Act.put, List.setIfInBounds_toArray, List.set_cons_zero, List.set_cons_succ])
  first | (refine wpAnyH_take (i := 6) (oi := ⟨some 102, _, _, _, _, _⟩) (v := ?_) rfl (by kernel_rfl) (by kernel_rfl) (by kernel_rfl) (fun _ _ _ h => h) ?_ (by assumption) ?_; rotate_left; (focus (refine Or.inl ⟨rfl, ?_⟩; intro w hSw; (try dsimp only at hSw); go_simp; (try with_reducible rfl); done)); (try simp only [Act.put, List.setIfInBounds_toArray, List.set_cons_zero, List.set_cons_succ])) | (refine wpAnyH_take (i := 6) (oi := ⟨some 102, _, _, _, _, _⟩) (v := undef) rfl (by kernel_rfl) (by kernel_rfl) (by kernel_rfl) (fun _ _ _ h => h) (Or.inr ⟨rfl, rfl⟩) (by assumption) ?_; (try simp only [Act.put, List.setIfInBounds_toArray, List.set_cons_zero, List.set_cons_succ]))
  first | (refine wpAnyH_take (i := 8) (oi := ⟨some 104, _, _, _, _, _⟩) (v := ?_) rfl (by kernel_rfl) (by kernel_rfl) (by kernel_rfl) (fun _ _ _ h => h) ?_ (by assumption) ?_; rotate_left; (focus (refine Or.inl ⟨rfl, ?_⟩; intro w hSw; (try dsimp only at hSw); go_simp; (try with_reducible rfl); done)); (try simp only [Act.put, List.setIfInBounds_toArray, List.set_cons_zero, List.set_cons_succ])) | (refine wpAnyH_take (i := 8) (oi := ⟨some 104, _, _, _, _, _⟩) (v := undef) rfl (by kernel_rfl) (by kernel_rfl) (by kernel_rfl) (fun _ _ _ h => h) (Or.inr ⟨rfl, rfl⟩) (by assumption) ?_; (try simp only [Act.put, List.setIfInBounds_toArray, List.set_cons_zero, List.set_cons_succ]))
  refine wpAnyH_ready (rs := [7]) (by kernel_rfl) (by simp) ?_
  refine AllReadyH.cons (o := ⟨some 103, _, _, _, _, _⟩) rfl (fun K hK => ?_) AllReadyH.nil
  go_simp
  (try (first | (go_at_call 28; (with_reducible refine (MX.out _ _ _ _ _ (below_step HB.out (by first | assumption | exact And.left (by assumption) | exact Below.refl _ _)) (RX0.out.below (below_step HC.out (by first | assumption | exact And.left (by assumption) | exact Below.refl _ _)))).mono ?_); rintro e wn ⟨rfl, hb⟩) | (go_at_call 29; (with_reducible refine (MA.out _ (below_step HB.out (by first | assumption | exact And.left (by assumption) | exact Below.refl _ _))).mono ?_); rintro e wn ⟨rfl, hb⟩) | (go_at_call 30; (with_reducible refine (TX.out _ _ _ _ _ (below_step HB.out (by first | assumption | exact And.left (by assumption) | exact Below.refl _ _)) (RX0.out.below (below_step HC.out (by first | assumption | exact And.left (by assumption) | exact Below.refl _ _)))).mono ?_); rintro e wn ⟨rfl, hb⟩) | (go_at_call 31; (with_reducible refine (TA.out _ (below_step HB.out (by first | assumption | exact And.left (by assumption) | exact Below.refl _ _))).mono ?_); rintro e wn ⟨rfl, hb⟩) | (go_at_call 32; (with_reducible refine (SX.out _ _ _ _ _ _ _ _ _ (below_step HB.out (by first | assumption | exact And.left (by assumption) | exact Below.refl _ _)) (RX0.out.below (below_step HC.out (by first | assumption | exact And.left (by assumption) | exact Below.refl _ _))) (RY0.out.below (below_step HC.out (by first | assumption | exact And.left (by assumption) | exact Below.refl _ _)))).mono ?_); rintro e wn ⟨rfl, hb⟩) | (go_at_call 33; (with_reducible refine (SA.out _ (below_step HB.out (by first | assumption | exact And.left (by assumption) | exact Below.refl _ _))).mono ?_); rintro e wn ⟨rfl, hb⟩) | (go_at_call 17; (with_reducible refine (CA.out _ (below_step HB.out (by first | assumption | exact And.left (by assumption) | exact Below.refl _ _))).mono ?_); rintro e wn ⟨⟨Z4, z4, Z5, z5, rfl, hk4, hk5⟩, hb⟩; have RZ := Lib.hid (rowsV hk4 hk5); clear hk4 hk5) | (go_at_call 26; (with_reducible refine (VX.out _ _ _ _ _ _ _ _ _ (below_step HB.out (by first | assumption | exact And.left (by assumption) | exact Below.refl _ _)) (RX0.out.below (below_step HC.out (by first | assumption | exact And.left (by assumption) | exact Below.refl _ _))) RZ.out).mono ?_); rintro e wn ⟨rfl, hb⟩) | (go_at_call 34; (with_reducible refine (QX.out _ _ _ (below_step HB.out (by first | assumption | exact And.left (by assumption) | exact Below.refl _ _)) ⟨Kd.C_below RQ0.out.1 (below_step HC.out (by first | assumption | exact And.left (by assumption) | exact Below.refl _ _)), RQ0.out.2⟩).mono ?_); rintro e wn ⟨rfl, hb⟩) | (go_at_call 35; (with_reducible refine (AW.out _ (below_step HB.out (by first | assumption | exact And.left (by assumption) | exact Below.refl _ _))).mono ?_); rintro e wn ⟨rfl, hb⟩)))
  refine hK.out _ _ ?_ (fun hHeld2 => ?_)
  · first | assumption | (exact KEEP.out _ (below_step (by first | assumption | exact And.left (by assumption) | exact Below.refl _ _) hb))
  clear hK K hHeld
  have hHeld := hHeld2; clear hHeld2
  (try simp only [Act.put, List.setIfInBounds_toArray, List.set_cons_zero, List.set_cons_succ])
  refine wpAnyH_ready (rs := [9]) (by kernel_rfl) (by simp) ?_
  refine AllReadyH.cons (o := ⟨some 105, _, _, _, _, _⟩) rfl (fun K hK => ?_) AllReadyH.nil
  go_simp
  (try (first | (go_at_call 28; (with_reducible refine (MX.out _ _ _ _ _ (below_step HB.out (by first | assumption | exact And.left (by assumption) | exact Below.refl _ _)) (RX0.out.below (below_step HC.out (by first | assumption | exact And.left (by assumption) | exact Below.refl _ _)))).mono ?_); rintro e wn ⟨rfl, hb⟩) | (go_at_call 29; (with_reducible refine (MA.out _ (below_step HB.out (by first | assumption | exact And.left (by assumption) | exact Below.refl _ _))).mono ?_); rintro e wn ⟨rfl, hb⟩) | (go_at_call 30; (with_reducible refine (TX.out _ _ _ _ _ (below_step HB.out (by first | assumption | exact And.left (by assumption) | exact Below.refl _ _)) (RX0.out.below (below_step HC.out (by first | assumption | exact And.left (by assumption) | exact Below.refl _ _)))).mono ?_); rintro e wn ⟨rfl, hb⟩) | (go_at_call 31; (with_reducible refine (TA.out _ (below_step HB.out (by first | assumption | exact And.left (by assumption) | exact Below.refl _ _))).mono ?_); rintro e wn ⟨rfl, hb⟩) | (go_at_call 32; (with_reducible refine (SX.out _ _ _ _ _ _ _ _ _ (below_step HB.out (by first | assumption | exact And.left (by assumption) | exact Below.refl _ _)) (RX0.out.below (below_step HC.out (by first | assumption | exact And.left (by assumption) | exact Below.refl _ _))) (RY0.out.below (below_step HC.out (by first | assumption | exact And.left (by assumption) | exact Below.refl _ _)))).mono ?_); rintro e wn ⟨rfl, hb⟩) | (go_at_call 33; (with_reducible refine (SA.out _ (below_step HB.out (by first | assumption | exact And.left (by assumption) | exact Below.refl _ _))).mono ?_); rintro e wn ⟨rfl, hb⟩) | (go_at_call 17; (with_reducible refine (CA.out _ (below_step HB.out (by first | assumption | exact And.left (by assumption) | exact Below.refl _ _))).mono ?_); rintro e wn ⟨⟨Z4, z4, Z5, z5, rfl, hk4, hk5⟩, hb⟩; have RZ := Lib.hid (rowsV hk4 hk5); clear hk4 hk5) | (go_at_call 26; (with_reducible refine (VX.out _ _ _ _ _ _ _ _ _ (below_step HB.out (by first | assumption | exact And.left (by assumption) | exact Below.refl _ _)) (RX0.out.below (below_step HC.out (by first | assumption | exact And.left (by assumption) | exact Below.refl _ _))) RZ.out).mono ?_); rintro e wn ⟨rfl, hb⟩) | (go_at_call 34; (with_reducible refine (QX.out _ _ _ (below_step HB.out (by first | assumption | exact And.left (by assumption) | exact Below.refl _ _)) ⟨Kd.C_below RQ0.out.1 (below_step HC.out (by first | assumption | exact And.left (by assumption) | exact Below.refl _ _)), RQ0.out.2⟩).mono ?_); rintro e wn ⟨rfl, hb⟩) | (go_at_call 35; (with_reducible refine (AW.out _ (below_step HB.out (by first | assumption | exact And.left (by assumption) | exact Below.refl _ _))).mono ?_); rintro e wn ⟨rfl, hb⟩)))
  refine hK.out _ _ ?_ (fun hHeld2 => ?_)
  · first | assumption | (exact KEEP.out _ (below_step (by first | assumption | exact And.left (by assumption) | exact Below.refl _ _) hb))
  clear hK K hHeld
  have hHeld := hHeld2; clear hHeld2
  (try simp only [Act.put, List.setIfInBounds_toArray, List.set_cons_zero, List.set_cons_succ])
  first | (refine wpAnyH_take (i := 10) (oi := ⟨some 106, _, _, _, _, _⟩) (v := ?_) rfl (by kernel_rfl) (by kernel_rfl) (by kernel_rfl) (fun _ _ _ h => h) ?_ (by assumption) ?_; rotate_left; (focus (refine Or.inl ⟨rfl, ?_⟩; intro w hSw; (try dsimp only at hSw); go_simp; (try with_reducible rfl); done)); (try simp only [Act.put, List.setIfInBounds_toArray, List.set_cons_zero, List.set_cons_succ])) | (refine wpAnyH_take (i := 10) (oi := ⟨some 106, _, _, _, _, _⟩) (v := undef) rfl (by kernel_rfl) (by kernel_rfl) (by kernel_rfl) (fun _ _ _ h => h) (Or.inr ⟨rfl, rfl⟩) (by assumption) ?_; (try simp only [Act.put, List.setIfInBounds_toArray, List.set_cons_zero, List.set_cons_succ]))
  refine wpAnyH_take (i := 11) (oi := ⟨some 107, _, _, _, _, _⟩) (v := ?_) rfl (by kernel_rfl) (by kernel_rfl) (by kernel_rfl) (fun _ _ _ h => h) ?_ (by assumption) ?_; rotate_left; (focus (refine Or.inl ⟨rfl, ?_⟩; intro w hSw; (try dsimp only at hSw); go_simp; (try with_reducible rfl); done)); (try simp only [Act.put, List.setIfInBounds_toArray, List.set_cons_zero, List.set_cons_succ])
  refine wpAnyH_take (i := 12) (oi := ⟨some 108, _, _, _, _, _⟩) (v := ?_) rfl (by kernel_rfl) (by kernel_rfl) (by kernel_rfl) (fun _ _ _ h => h) ?_ (by assumption) ?_; rotate_left; (focus (refine Or.inl ⟨rfl, ?_⟩; intro w hSw; (try dsimp only at hSw); go_simp; (try with_reducible rfl); done)); (try simp only [Act.put, List.setIfInBounds_toArray, List.set_cons_zero, List.set_cons_succ])
  first | (refine wpAnyH_take (i := 13) (oi := ⟨some 109, _, _, _, _, _⟩) (v := ?_) rfl (by kernel_rfl) (by kernel_rfl) (by kernel_rfl) (fun _ _ _ h => h) ?_ (by assumption) ?_; rotate_left; (focus (refine Or.inl ⟨rfl, ?_⟩; intro w hSw; (try dsimp only at hSw); go_simp; (try with_reducible rfl); done)); (try simp only [Act.put, List.setIfInBounds_toArray, List.set_cons_zero, List.set_cons_succ])) | (refine wpAnyH_take (i := 13) (oi := ⟨some 109, _, _, _, _, _⟩) (v := undef) rfl (by kernel_rfl) (by kernel_rfl) (by kernel_rfl) (fun _ _ _ h => h) (Or.inr ⟨rfl, rfl⟩) (by assumption) ?_; (try simp only [Act.put, List.setIfInBounds_toArray, List.set_cons_zero, List.set_cons_succ]))
  first | (refine wpAnyH_take (i := 14) (oi := ⟨some 110, _, _, _, _, _⟩) (v := ?_) rfl (by kernel_rfl) (by kernel_rfl) (by kernel_rfl) (fun _ _ _ h => h) ?_ (by assumption) ?_; rotate_left; (focus (refine Or.inl ⟨rfl, ?_⟩; intro w hSw; (try dsimp only at hSw); go_simp; (try with_reducible rfl); done)); (try simp only [Act.put, List.setIfInBounds_toArray, List.set_cons_zero, List.set_cons_succ])) | (refine wpAnyH_take (i := 14) (oi := ⟨some 110, _, _, _, _, _⟩) (v := undef) rfl (by kernel_rfl) (by kernel_rfl) (by kernel_rfl) (fun _ _ _ h => h) (Or.inr ⟨rfl, rfl⟩) (by assumption) ?_; (try simp only [Act.put, List.setIfInBounds_toArray, List.set_cons_zero, List.set_cons_succ]))
  first | (refine wpAnyH_take (i := 16) (oi := ⟨some 112, _, _, _, _, _⟩) (v := ?_) rfl (by kernel_rfl) (by kernel_rfl) (by kernel_rfl) (fun _ _ _ h => h) ?_ (by assumption) ?_; rotate_left; (focus (refine Or.inl ⟨rfl, ?_⟩; intro w hSw; (try dsimp only at hSw); go_simp; (try with_reducible rfl); done)); (try simp only [Act.put, List.setIfInBounds_toArray, List.set_cons_zero, List.set_cons_succ])) | (refine wpAnyH_take (i := 16) (oi := ⟨some 112, _, _, _, _, _⟩) (v := undef) rfl (by kernel_rfl) (by kernel_rfl) (by kernel_rfl) (fun _ _ _ h => h) (Or.inr ⟨rfl, rfl⟩) (by assumption) ?_; (try simp only [Act.put, List.setIfInBounds_toArray, List.set_cons_zero, List.set_cons_succ]))
  first | (refine wpAnyH_take (i := 17) (oi := ⟨some 113, _, _, _, _, _⟩) (v := ?_) rfl (by kernel_rfl) (by kernel_rfl) (by kernel_rfl) (fun _ _ _ h => h) ?_ (by assumption) ?_; rotate_left; (focus (refine Or.inl ⟨rfl, ?_⟩; intro w hSw; (try dsimp only at hSw); go_simp; (try with_reducible rfl); done)); (try simp only [Act.put, List.setIfInBounds_toArray, List.set_cons_zero, List.set_cons_succ])) | (refine wpAnyH_take (i := 17) (oi := ⟨some 113, _, _, _, _, _⟩) (v := undef) rfl (by kernel_rfl) (by kernel_rfl) (by kernel_rfl) (fun _ _ _ h => h) (Or.inr ⟨rfl, rfl⟩) (by assumption) ?_; (try simp only [Act.put, List.setIfInBounds_toArray, List.set_cons_zero, List.set_cons_succ]))
  refine wpAnyH_ready (rs := [15]) (by kernel_rfl) (by simp) ?_
  refine AllReadyH.cons (o := ⟨some 111, _, _, _, _, _⟩) rfl (fun K hK => ?_) AllReadyH.nil
  go_simp
  (try (first | (go_at_call 28; (with_reducible refine (MX.out _ _ _ _ _ (below_step HB.out (by first | assumption | exact And.left (by assumption) | exact Below.refl _ _)) (RX0.out.below (below_step HC.out (by first | assumption | exact And.left (by assumption) | exact Below.refl _ _)))).mono ?_); rintro e wn ⟨rfl, hb⟩) | (go_at_call 29; (with_reducible refine (MA.out _ (below_step HB.out (by first | assumption | exact And.left (by assumption) | exact Below.refl _ _))).mono ?_); rintro e wn ⟨rfl, hb⟩) | (go_at_call 30; (with_reducible refine (TX.out _ _ _ _ _ (below_step HB.out (by first | assumption | exact And.left (by assumption) | exact Below.refl _ _)) (RX0.out.below (below_step HC.out (by first | assumption | exact And.left (by assumption) | exact Below.refl _ _)))).mono ?_); rintro e wn ⟨rfl, hb⟩) | (go_at_call 31; (with_reducible refine (TA.out _ (below_step HB.out (by first | assumption | exact And.left (by assumption) | exact Below.refl _ _))).mono ?_); rintro e wn ⟨rfl, hb⟩) | (go_at_call 32; (with_reducible refine (SX.out _ _ _ _ _ _ _ _ _ (below_step HB.out (by first | assumption | exact And.left (by assumption) | exact Below.refl _ _)) (RX0.out.below (below_step HC.out (by first | assumption | exact And.left (by assumption) | exact Below.refl _ _))) (RY0.out.below (below_step HC.out (by first | assumption | exact And.left (by assumption) | exact Below.refl _ _)))).mono ?_); rintro e wn ⟨rfl, hb⟩) | (go_at_call 33; (with_reducible refine (SA.out _ (below_step HB.out (by first | assumption | exact And.left (by assumption) | exact Below.refl _ _))).mono ?_); rintro e wn ⟨rfl, hb⟩) | (go_at_call 17; (with_reducible refine (CA.out _ (below_step HB.out (by first | assumption | exact And.left (by assumption) | exact Below.refl _ _))).mono ?_); rintro e wn ⟨⟨Z4, z4, Z5, z5, rfl, hk4, hk5⟩, hb⟩; have RZ := Lib.hid (rowsV hk4 hk5); clear hk4 hk5) | (go_at_call 26; (with_reducible refine (VX.out _ _ _ _ _ _ _ _ _ (below_step HB.out (by first | assumption | exact And.left (by assumption) | exact Below.refl _ _)) (RX0.out.below (below_step HC.out (by first | assumption | exact And.left (by assumption) | exact Below.refl _ _))) RZ.out).mono ?_); rintro e wn ⟨rfl, hb⟩) | (go_at_call 34; (with_reducible refine (QX.out _ _ _ (below_step HB.out (by first | assumption | exact And.left (by assumption) | exact Below.refl _ _)) ⟨Kd.C_below RQ0.out.1 (below_step HC.out (by first | assumption | exact And.left (by assumption) | exact Below.refl _ _)), RQ0.out.2⟩).mono ?_); rintro e wn ⟨rfl, hb⟩) | (go_at_call 35; (with_reducible refine (AW.out _ (below_step HB.out (by first | assumption | exact And.left (by assumption) | exact Below.refl _ _))).mono ?_); rintro e wn ⟨rfl, hb⟩)))
  refine hK.out _ _ ?_ (fun hHeld2 => ?_)
  · first | assumption | (exact KEEP.out _ (below_step (by first | assumption | exact And.left (by assumption) | exact Below.refl _ _) hb))
  clear hK K hHeld
  have hHeld := hHeld2; clear hHeld2
  (try simp only [Act.put, List.setIfInBounds_toArray, List.set_cons_zero, List.set_cons_succ])
  refine wpAnyH_ready (rs := [18]) (by kernel_rfl) (by simp) ?_
  refine AllReadyH.cons (o := ⟨some 114, _, _, _, _, _⟩) rfl (fun K hK => ?_) AllReadyH.nil
  go_simp
  (try (first | (go_at_call 28; (with_reducible refine (MX.out _ _ _ _ _ (below_step HB.out (by first | assumption | exact And.left (by assumption) | exact Below.refl _ _)) (RX0.out.below (below_step HC.out (by first | assumption | exact And.left (by assumption) | exact Below.refl _ _)))).mono ?_); rintro e wn ⟨rfl, hb⟩) | (go_at_call 29; (with_reducible refine (MA.out _ (below_step HB.out (by first | assumption | exact And.left (by assumption) | exact Below.refl _ _))).mono ?_); rintro e wn ⟨rfl, hb⟩) | (go_at_call 30; (with_reducible refine (TX.out _ _ _ _ _ (below_step HB.out (by first | assumption | exact And.left (by assumption) | exact Below.refl _ _)) (RX0.out.below (below_step HC.out (by first | assumption | exact And.left (by assumption) | exact Below.refl _ _)))).mono ?_); rintro e wn ⟨rfl, hb⟩) | (go_at_call 31; (with_reducible refine (TA.out _ (below_step HB.out (by first | assumption | exact And.left (by assumption) | exact Below.refl _ _))).mono ?_); rintro e wn ⟨rfl, hb⟩) | (go_at_call 32; (with_reducible refine (SX.out _ _ _ _ _ _ _ _ _ (below_step HB.out (by first | assumption | exact And.left (by assumption) | exact Below.refl _ _)) (RX0.out.below (below_step HC.out (by first | assumption | exact And.left (by assumption) | exact Below.refl _ _))) (RY0.out.below (below_step HC.out (by first | assumption | exact And.left (by assumption) | exact Below.refl _ _)))).mono ?_); rintro e wn ⟨rfl, hb⟩) | (go_at_call 33; (with_reducible refine (SA.out _ (below_step HB.out (by first | assumption | exact And.left (by assumption) | exact Below.refl _ _))).mono ?_); rintro e wn ⟨rfl, hb⟩) | (go_at_call 17; (with_reducible refine (CA.out _ (below_step HB.out (by first | assumption | exact And.left (by assumption) | exact Below.refl _ _))).mono ?_); rintro e wn ⟨⟨Z4, z4, Z5, z5, rfl, hk4, hk5⟩, hb⟩; have RZ := Lib.hid (rowsV hk4 hk5); clear hk4 hk5) | (go_at_call 26; (with_reducible refine (VX.out _ _ _ _ _ _ _ _ _ (below_step HB.out (by first | assumption | exact And.left (by assumption) | exact Below.refl _ _)) (RX0.out.below (below_step HC.out (by first | assumption | exact And.left (by assumption) | exact Below.refl _ _))) RZ.out).mono ?_); rintro e wn ⟨rfl, hb⟩) | (go_at_call 34; (with_reducible refine (QX.out _ _ _ (below_step HB.out (by first | assumption | exact And.left (by assumption) | exact Below.refl _ _)) ⟨Kd.C_below RQ0.out.1 (below_step HC.out (by first | assumption | exact And.left (by assumption) | exact Below.refl _ _)), RQ0.out.2⟩).mono ?_); rintro e wn ⟨rfl, hb⟩) | (go_at_call 35; (with_reducible refine (AW.out _ (below_step HB.out (by first | assumption | exact And.left (by assumption) | exact Below.refl _ _))).mono ?_); rintro e wn ⟨rfl, hb⟩)))
  refine hK.out _ _ ?_ (fun hHeld2 => ?_)
  · first | assumption | (exact KEEP.out _ (below_step (by first | assumption | exact And.left (by assumption) | exact Below.refl _ _) hb))
  clear hK K hHeld
  have hHeld := hHeld2; clear hHeld2
  (try simp only [Act.put, List.setIfInBounds_toArray, List.set_cons_zero, List.set_cons_succ])
  first | (refine wpAnyH_take (i := 19) (oi := ⟨some 115, _, _, _, _, _⟩) (v := ?_) rfl (by kernel_rfl) (by kernel_rfl) (by kernel_rfl) (fun _ _ _ h => h) ?_ (by assumption) ?_; rotate_left; (focus (refine Or.inl ⟨rfl, ?_⟩; intro w hSw; (try dsimp only at hSw); go_simp; (try with_reducible rfl); done)); (try simp only [Act.put, List.setIfInBounds_toArray, List.set_cons_zero, List.set_cons_succ])) | (refine wpAnyH_take (i := 19) (oi := ⟨some 115, _, _, _, _, _⟩) (v := undef) rfl (by kernel_rfl) (by kernel_rfl) (by kernel_rfl) (fun _ _ _ h => h) (Or.inr ⟨rfl, rfl⟩) (by assumption) ?_; (try simp only [Act.put, List.setIfInBounds_toArray, List.set_cons_zero, List.set_cons_succ]))
  refine wpAnyH_take (i := 20) (oi := ⟨some 116, _, _, _, _, _⟩) (v := ?_) rfl (by kernel_rfl) (by kernel_rfl) (by kernel_rfl) (fun _ _ _ h => h) ?_ (by assumption) ?_; rotate_left; (focus (refine Or.inl ⟨rfl, ?_⟩; intro w hSw; (try dsimp only at hSw); go_simp; (try with_reducible rfl); done)); (try simp only [Act.put, List.setIfInBounds_toArray, List.set_cons_zero, List.set_cons_succ])
  refine wpAnyH_take (i := 21) (oi := ⟨some 117, _, _, _, _, _⟩) (v := ?_) rfl (by kernel_rfl) (by kernel_rfl) (by kernel_rfl) (fun _ _ _ h => h) ?_ (by assumption) ?_; rotate_left; (focus (refine Or.inl ⟨rfl, ?_⟩; intro w hSw; (try dsimp only at hSw); go_simp; (try with_reducible rfl); done)); (try simp only [Act.put, List.setIfInBounds_toArray, List.set_cons_zero, List.set_cons_succ])
  first | (refine wpAnyH_take (i := 22) (oi := ⟨some 118, _, _, _, _, _⟩) (v := ?_) rfl (by kernel_rfl) (by kernel_rfl) (by kernel_rfl) (fun _ _ _ h => h) ?_ (by assumption) ?_; rotate_left; (focus (refine Or.inl ⟨rfl, ?_⟩; intro w hSw; (try dsimp only at hSw); go_simp; (try with_reducible rfl); done)); (try simp only [Act.put, List.setIfInBounds_toArray, List.set_cons_zero, List.set_cons_succ])) | (refine wpAnyH_take (i := 22) (oi := ⟨some 118, _, _, _, _, _⟩) (v := undef) rfl (by kernel_rfl) (by kernel_rfl) (by kernel_rfl) (fun _ _ _ h => h) (Or.inr ⟨rfl, rfl⟩) (by assumption) ?_; (try simp only [Act.put, List.setIfInBounds_toArray, List.set_cons_zero, List.set_cons_succ]))
  first | (refine wpAnyH_take (i := 23) (oi := ⟨some 119, _, _, _, _, _⟩) (v := ?_) rfl (by kernel_rfl) (by kernel_rfl) (by kernel_rfl) (fun _ _ _ h => h) ?_ (by assumption) ?_; rotate_left; (focus (refine Or.inl ⟨rfl, ?_⟩; intro w hSw; (try dsimp only at hSw); go_simp; (try with_reducible rfl); done)); (try simp only [Act.put, List.setIfInBounds_toArray, List.set_cons_zero, List.set_cons_succ])) | (refine wpAnyH_take (i := 23) (oi := ⟨some 119, _, _, _, _, _⟩) (v := undef) rfl (by kernel_rfl) (by kernel_rfl) (by kernel_rfl) (fun _ _ _ h => h) (Or.inr ⟨rfl, rfl⟩) (by assumption) ?_; (try simp only [Act.put, List.setIfInBounds_toArray, List.set_cons_zero, List.set_cons_succ]))
  refine wpAnyH_ready (rs := [24]) (by kernel_rfl) (by simp) ?_
  refine AllReadyH.cons (o := ⟨some 120, _, _, _, _, _⟩) rfl (fun K hK => ?_) AllReadyH.nil
  go_simp
  (try (first | (go_at_call 28; (with_reducible refine (MX.out _ _ _ _ _ (below_step HB.out (by first | assumption | exact And.left (by assumption) | exact Below.refl _ _)) (RX0.out.below (below_step HC.out (by first | assumption | exact And.left (by assumption) | exact Below.refl _ _)))).mono ?_); rintro e wn ⟨rfl, hb⟩) | (go_at_call 29; (with_reducible refine (MA.out _ (below_step HB.out (by first | assumption | exact And.left (by assumption) | exact Below.refl _ _))).mono ?_); rintro e wn ⟨rfl, hb⟩) | (go_at_call 30; (with_reducible refine (TX.out _ _ _ _ _ (below_step HB.out (by first | assumption | exact And.left (by assumption) | exact Below.refl _ _)) (RX0.out.below (below_step HC.out (by first | assumption | exact And.left (by assumption) | exact Below.refl _ _)))).mono ?_); rintro e wn ⟨rfl, hb⟩) | (go_at_call 31; (with_reducible refine (TA.out _ (below_step HB.out (by first | assumption | exact And.left (by assumption) | exact Below.refl _ _))).mono ?_); rintro e wn ⟨rfl, hb⟩) | (go_at_call 32; (with_reducible refine (SX.out _ _ _ _ _ _ _ _ _ (below_step HB.out (by first | assumption | exact And.left (by assumption) | exact Below.refl _ _)) (RX0.out.below (below_step HC.out (by first | assumption | exact And.left (by assumption) | exact Below.refl _ _))) (RY0.out.below (below_step HC.out (by first | assumption | exact And.left (by assumption) | exact Below.refl _ _)))).mono ?_); rintro e wn ⟨rfl, hb⟩) | (go_at_call 33; (with_reducible refine (SA.out _ (below_step HB.out (by first | assumption | exact And.left (by assumption) | exact Below.refl _ _))).mono ?_); rintro e wn ⟨rfl, hb⟩) | (go_at_call 17; (with_reducible refine (CA.out _ (below_step HB.out (by first | assumption | exact And.left (by assumption) | exact Below.refl _ _))).mono ?_); rintro e wn ⟨⟨Z4, z4, Z5, z5, rfl, hk4, hk5⟩, hb⟩; have RZ := Lib.hid (rowsV hk4 hk5); clear hk4 hk5) | (go_at_call 26; (with_reducible refine (VX.out _ _ _ _ _ _ _ _ _ (below_step HB.out (by first | assumption | exact And.left (by assumption) | exact Below.refl _ _)) (RX0.out.below (below_step HC.out (by first | assumption | exact And.left (by assumption) | exact Below.refl _ _))) RZ.out).mono ?_); rintro e wn ⟨rfl, hb⟩) | (go_at_call 34; (with_reducible refine (QX.out _ _ _ (below_step HB.out (by first | assumption | exact And.left (by assumption) | exact Below.refl _ _)) ⟨Kd.C_below RQ0.out.1 (below_step HC.out (by first | assumption | exact And.left (by assumption) | exact Below.refl _ _)), RQ0.out.2⟩).mono ?_); rintro e wn ⟨rfl, hb⟩) | (go_at_call 35; (with_reducible refine (AW.out _ (below_step HB.out (by first | assumption | exact And.left (by assumption) | exact Below.refl _ _))).mono ?_); rintro e wn ⟨rfl, hb⟩)))
  refine hK.out _ _ ?_ (fun hHeld2 => ?_)
  · first | assumption | (exact KEEP.out _ (below_step (by first | assumption | exact And.left (by assumption) | exact Below.refl _ _) hb))
  clear hK K hHeld
  have hHeld := hHeld2; clear hHeld2
  (try simp only [Act.put, List.setIfInBounds_toArray, List.set_cons_zero, List.set_cons_succ])
  refine wpAnyH_ready (rs := [25]) (by kernel_rfl) (by simp) ?_
  refine AllReadyH.cons (o := ⟨some 121, _, _, _, _, _⟩) rfl (fun K hK => ?_) AllReadyH.nil
  go_simp
  (try (first | (go_at_call 28; (with_reducible refine (MX.out _ _ _ _ _ (below_step HB.out (by first | assumption | exact And.left (by assumption) | exact Below.refl _ _)) (RX0.out.below (below_step HC.out (by first | assumption | exact And.left (by assumption) | exact Below.refl _ _)))).mono ?_); rintro e wn ⟨rfl, hb⟩) | (go_at_call 29; (with_reducible refine (MA.out _ (below_step HB.out (by first | assumption | exact And.left (by assumption) | exact Below.refl _ _))).mono ?_); rintro e wn ⟨rfl, hb⟩) | (go_at_call 30; (with_reducible refine (TX.out _ _ _ _ _ (below_step HB.out (by first | assumption | exact And.left (by assumption) | exact Below.refl _ _)) (RX0.out.below (below_step HC.out (by first | assumption | exact And.left (by assumption) | exact Below.refl _ _)))).mono ?_); rintro e wn ⟨rfl, hb⟩) | (go_at_call 31; (with_reducible refine (TA.out _ (below_step HB.out (by first | assumption | exact And.left (by assumption) | exact Below.refl _ _))).mono ?_); rintro e wn ⟨rfl, hb⟩) | (go_at_call 32; (with_reducible refine (SX.out _ _ _ _ _ _ _ _ _ (below_step HB.out (by first | assumption | exact And.left (by assumption) | exact Below.refl _ _)) (RX0.out.below (below_step HC.out (by first | assumption | exact And.left (by assumption) | exact Below.refl _ _))) (RY0.out.below (below_step HC.out (by first | assumption | exact And.left (by assumption) | exact Below.refl _ _)))).mono ?_); rintro e wn ⟨rfl, hb⟩) | (go_at_call 33; (with_reducible refine (SA.out _ (below_step HB.out (by first | assumption | exact And.left (by assumption) | exact Below.refl _ _))).mono ?_); rintro e wn ⟨rfl, hb⟩) | (go_at_call 17; (with_reducible refine (CA.out _ (below_step HB.out (by first | assumption | exact And.left (by assumption) | exact Below.refl _ _))).mono ?_); rintro e wn ⟨⟨Z4, z4, Z5, z5, rfl, hk4, hk5⟩, hb⟩; have RZ := Lib.hid (rowsV hk4 hk5); clear hk4 hk5) | (go_at_call 26; (with_reducible refine (VX.out _ _ _ _ _ _ _ _ _ (below_step HB.out (by first | assumption | exact And.left (by assumption) | exact Below.refl _ _)) (RX0.out.below (below_step HC.out (by first | assumption | exact And.left (by assumption) | exact Below.refl _ _))) RZ.out).mono ?_); rintro e wn ⟨rfl, hb⟩) | (go_at_call 34; (with_reducible refine (QX.out _ _ _ (below_step HB.out (by first | assumption | exact And.left (by assumption) | exact Below.refl _ _)) ⟨Kd.C_below RQ0.out.1 (below_step HC.out (by first | assumption | exact And.left (by assumption) | exact Below.refl _ _)), RQ0.out.2⟩).mono ?_); rintro e wn ⟨rfl, hb⟩) | (go_at_call 35; (with_reducible refine (AW.out _ (below_step HB.out (by first | assumption | exact And.left (by assumption) | exact Below.refl _ _))).mono ?_); rintro e wn ⟨rfl, hb⟩)))
  refine hK.out _ _ ?_ (fun hHeld2 => ?_)
  · first | assumption | (exact KEEP.out _ (below_step (by first | assumption | exact And.left (by assumption) | exact Below.refl _ _) hb))
  clear hK K hHeld
  have hHeld := hHeld2; clear hHeld2
  (try simp only [Act.put, List.setIfInBounds_toArray, List.set_cons_zero, List.set_cons_succ])
  refine wpAnyH_take (i := 26) (oi := ⟨some 122, _, _, _, _, _⟩) (v := ?_) rfl (by kernel_rfl) (by kernel_rfl) (by kernel_rfl) (fun _ _ _ h => h) ?_ (by assumption) ?_; rotate_left; (focus (refine Or.inl ⟨rfl, ?_⟩; intro w hSw; (try dsimp only at hSw); go_simp; (try with_reducible rfl); done)); (try simp only [Act.put, List.setIfInBounds_toArray, List.set_cons_zero, List.set_cons_succ])
  refine wpAnyH_take (i := 27) (oi := ⟨some 123, _, _, _, _, _⟩) (v := ?_) rfl (by kernel_rfl) (by kernel_rfl) (by kernel_rfl) (fun _ _ _ h => h) ?_ (by assumption) ?_; rotate_left; (focus (refine Or.inl ⟨rfl, ?_⟩; intro w hSw; (try dsimp only at hSw); go_simp; (try with_reducible rfl); done)); (try simp only [Act.put, List.setIfInBounds_toArray, List.set_cons_zero, List.set_cons_succ])
  first | (refine wpAnyH_take (i := 28) (oi := ⟨some 124, _, _, _, _, _⟩) (v := ?_) rfl (by kernel_rfl) (by kernel_rfl) (by kernel_rfl) (fun _ _ _ h => h) ?_ (by assumption) ?_; rotate_left; (focus (refine Or.inl ⟨rfl, ?_⟩; intro w hSw; (try dsimp only at hSw); go_simp; (try with_reducible rfl); done)); (try simp only [Act.put, List.setIfInBounds_toArray, List.set_cons_zero, List.set_cons_succ])) | (refine wpAnyH_take (i := 28) (oi := ⟨some 124, _, _, _, _, _⟩) (v := undef) rfl (by kernel_rfl) (by kernel_rfl) (by kernel_rfl) (fun _ _ _ h => h) (Or.inr ⟨rfl, rfl⟩) (by assumption) ?_; (try simp only [Act.put, List.setIfInBounds_toArray, List.set_cons_zero, List.set_cons_succ]))
  first | (refine wpAnyH_take (i := 29) (oi := ⟨some 125, _, _, _, _, _⟩) (v := ?_) rfl (by kernel_rfl) (by kernel_rfl) (by kernel_rfl) (fun _ _ _ h => h) ?_ (by assumption) ?_; rotate_left; (focus (refine Or.inl ⟨rfl, ?_⟩; intro w hSw; (try dsimp only at hSw); go_simp; (try with_reducible rfl); done)); (try simp only [Act.put, List.setIfInBounds_toArray, List.set_cons_zero, List.set_cons_succ])) | (refine wpAnyH_take (i := 29) (oi := ⟨some 125, _, _, _, _, _⟩) (v := undef) rfl (by kernel_rfl) (by kernel_rfl) (by kernel_rfl) (fun _ _ _ h => h) (Or.inr ⟨rfl, rfl⟩) (by assumption) ?_; (try simp only [Act.put, List.setIfInBounds_toArray, List.set_cons_zero, List.set_cons_succ]))
  refine wpAnyH_ready (rs := [30]) (by kernel_rfl) (by simp) ?_
  refine AllReadyH.cons (o := ⟨some 126, _, _, _, _, _⟩) rfl (fun K hK => ?_) AllReadyH.nil
  go_simp
  (try (first | (go_at_call 28; (with_reducible refine (MX.out _ _ _ _ _ (below_step HB.out (by first | assumption | exact And.left (by assumption) | exact Below.refl _ _)) (RX0.out.below (below_step HC.out (by first | assumption | exact And.left (by assumption) | exact Below.refl _ _)))).mono ?_); rintro e wn ⟨rfl, hb⟩) | (go_at_call 29; (with_reducible refine (MA.out _ (below_step HB.out (by first | assumption | exact And.left (by assumption) | exact Below.refl _ _))).mono ?_); rintro e wn ⟨rfl, hb⟩) | (go_at_call 30; (with_reducible refine (TX.out _ _ _ _ _ (below_step HB.out (by first | assumption | exact And.left (by assumption) | exact Below.refl _ _)) (RX0.out.below (below_step HC.out (by first | assumption | exact And.left (by assumption) | exact Below.refl _ _)))).mono ?_); rintro e wn ⟨rfl, hb⟩) | (go_at_call 31; (with_reducible refine (TA.out _ (below_step HB.out (by first | assumption | exact And.left (by assumption) | exact Below.refl _ _))).mono ?_); rintro e wn ⟨rfl, hb⟩) | (go_at_call 32; (with_reducible refine (SX.out _ _ _ _ _ _ _ _ _ (below_step HB.out (by first | assumption | exact And.left (by assumption) | exact Below.refl _ _)) (RX0.out.below (below_step HC.out (by first | assumption | exact And.left (by assumption) | exact Below.refl _ _))) (RY0.out.below (below_step HC.out (by first | assumption | exact And.left (by assumption) | exact Below.refl _ _)))).mono ?_); rintro e wn ⟨rfl, hb⟩) | (go_at_call 33; (with_reducible refine (SA.out _ (below_step HB.out (by first | assumption | exact And.left (by assumption) | exact Below.refl _ _))).mono ?_); rintro e wn ⟨rfl, hb⟩) | (go_at_call 17; (with_reducible refine (CA.out _ (below_step HB.out (by first | assumption | exact And.left (by assumption) | exact Below.refl _ _))).mono ?_); rintro e wn ⟨⟨Z4, z4, Z5, z5, rfl, hk4, hk5⟩, hb⟩; have RZ := Lib.hid (rowsV hk4 hk5); clear hk4 hk5) | (go_at_call 26; (with_reducible refine (VX.out _ _ _ _ _ _ _ _ _ (below_step HB.out (by first | assumption | exact And.left (by assumption) | exact Below.refl _ _)) (RX0.out.below (below_step HC.out (by first | assumption | exact And.left (by assumption) | exact Below.refl _ _))) RZ.out).mono ?_); rintro e wn ⟨rfl, hb⟩) | (go_at_call 34; (with_reducible refine (QX.out _ _ _ (below_step HB.out (by first | assumption | exact And.left (by assumption) | exact Below.refl _ _)) ⟨Kd.C_below RQ0.out.1 (below_step HC.out (by first | assumption | exact And.left (by assumption) | exact Below.refl _ _)), RQ0.out.2⟩).mono ?_); rintro e wn ⟨rfl, hb⟩) | (go_at_call 35; (with_reducible refine (AW.out _ (below_step HB.out (by first | assumption | exact And.left (by assumption) | exact Below.refl _ _))).mono ?_); rintro e wn ⟨rfl, hb⟩)))
  refine hK.out _ _ ?_ (fun hHeld2 => ?_)
  · first | assumption | (exact KEEP.out _ (below_step (by first | assumption | exact And.left (by assumption) | exact Below.refl _ _) hb))
  clear hK K hHeld
  have hHeld := hHeld2; clear hHeld2
  (try simp only [Act.put, List.setIfInBounds_toArray, List.set_cons_zero, List.set_cons_succ])
  refine wpAnyH_take (i := 31) (oi := ⟨some 127, _, _, _, _, _⟩) (v := ?_) rfl (by kernel_rfl) (by kernel_rfl) (by kernel_rfl) (fun _ _ _ h => h) ?_ (by assumption) ?_; rotate_left; (focus (refine Or.inl ⟨rfl, ?_⟩; intro w hSw; (try dsimp only at hSw); go_simp; (try with_reducible rfl); done)); (try simp only [Act.put, List.setIfInBounds_toArray, List.set_cons_zero, List.set_cons_succ])
  refine wpAnyH_take (i := 32) (oi := ⟨some 128, _, _, _, _, _⟩) (v := ?_) rfl (by kernel_rfl) (by kernel_rfl) (by kernel_rfl) (fun _ _ _ h => h) ?_ (by assumption) ?_; rotate_left; (focus (refine Or.inl ⟨rfl, ?_⟩; intro w hSw; (try dsimp only at hSw); go_simp; (try with_reducible rfl); done)); (try simp only [Act.put, List.setIfInBounds_toArray, List.set_cons_zero, List.set_cons_succ])
  refine wpAnyH_ready (rs := [33]) (by kernel_rfl) (by simp) ?_
  refine AllReadyH.cons (o := ⟨some 129, _, _, _, _, _⟩) rfl (fun K hK => ?_) AllReadyH.nil
  go_simp
  (try (first | (go_at_call 28; (with_reducible refine (MX.out _ _ _ _ _ (below_step HB.out (by first | assumption | exact And.left (by assumption) | exact Below.refl _ _)) (RX0.out.below (below_step HC.out (by first | assumption | exact And.left (by assumption) | exact Below.refl _ _)))).mono ?_); rintro e wn ⟨rfl, hb⟩) | (go_at_call 29; (with_reducible refine (MA.out _ (below_step HB.out (by first | assumption | exact And.left (by assumption) | exact Below.refl _ _))).mono ?_); rintro e wn ⟨rfl, hb⟩) | (go_at_call 30; (with_reducible refine (TX.out _ _ _ _ _ (below_step HB.out (by first | assumption | exact And.left (by assumption) | exact Below.refl _ _)) (RX0.out.below (below_step HC.out (by first | assumption | exact And.left (by assumption) | exact Below.refl _ _)))).mono ?_); rintro e wn ⟨rfl, hb⟩) | (go_at_call 31; (with_reducible refine (TA.out _ (below_step HB.out (by first | assumption | exact And.left (by assumption) | exact Below.refl _ _))).mono ?_); rintro e wn ⟨rfl, hb⟩) | (go_at_call 32; (with_reducible refine (SX.out _ _ _ _ _ _ _ _ _ (below_step HB.out (by first | assumption | exact And.left (by assumption) | exact Below.refl _ _)) (RX0.out.below (below_step HC.out (by first | assumption | exact And.left (by assumption) | exact Below.refl _ _))) (RY0.out.below (below_step HC.out (by first | assumption | exact And.left (by assumption) | exact Below.refl _ _)))).mono ?_); rintro e wn ⟨rfl, hb⟩) | (go_at_call 33; (with_reducible refine (SA.out _ (below_step HB.out (by first | assumption | exact And.left (by assumption) | exact Below.refl _ _))).mono ?_); rintro e wn ⟨rfl, hb⟩) | (go_at_call 17; (with_reducible refine (CA.out _ (below_step HB.out (by first | assumption | exact And.left (by assumption) | exact Below.refl _ _))).mono ?_); rintro e wn ⟨⟨Z4, z4, Z5, z5, rfl, hk4, hk5⟩, hb⟩; have RZ := Lib.hid (rowsV hk4 hk5); clear hk4 hk5) | (go_at_call 26; (with_reducible refine (VX.out _ _ _ _ _ _ _ _ _ (below_step HB.out (by first | assumption | exact And.left (by assumption) | exact Below.refl _ _)) (RX0.out.below (below_step HC.out (by first | assumption | exact And.left (by assumption) | exact Below.refl _ _))) RZ.out).mono ?_); rintro e wn ⟨rfl, hb⟩) | (go_at_call 34; (with_reducible refine (QX.out _ _ _ (below_step HB.out (by first | assumption | exact And.left (by assumption) | exact Below.refl _ _)) ⟨Kd.C_below RQ0.out.1 (below_step HC.out (by first | assumption | exact And.left (by assumption) | exact Below.refl _ _)), RQ0.out.2⟩).mono ?_); rintro e wn ⟨rfl, hb⟩) | (go_at_call 35; (with_reducible refine (AW.out _ (below_step HB.out (by first | assumption | exact And.left (by assumption) | exact Below.refl _ _))).mono ?_); rintro e wn ⟨rfl, hb⟩)))
  refine hK.out _ _ ?_ (fun hHeld2 => ?_)
  · first | assumption | (exact KEEP.out _ (below_step (by first | assumption | exact And.left (by assumption) | exact Below.refl _ _) hb))
  clear hK K hHeld
  have hHeld := hHeld2; clear hHeld2
  (try simp only [Act.put, List.setIfInBounds_toArray, List.set_cons_zero, List.set_cons_succ])
  refine wpAnyH_take (i := 34) (oi := ⟨some 130, _, _, _, _, _⟩) (v := ?_) rfl (by kernel_rfl) (by kernel_rfl) (by kernel_rfl) (fun _ _ _ h => h) ?_ (by assumption) ?_; rotate_left; (focus (refine Or.inl ⟨rfl, ?_⟩; intro w hSw; (try dsimp only at hSw); go_simp; (try with_reducible rfl); done)); (try simp only [Act.put, List.setIfInBounds_toArray, List.set_cons_zero, List.set_cons_succ])
  refine wpAnyH_take (i := 35) (oi := ⟨some 6, _, _, _, _, _⟩) (v := ?_) rfl (by kernel_rfl) (by kernel_rfl) (by kernel_rfl) (fun _ _ _ h => h) ?_ (by assumption) ?_; rotate_left; (focus (refine Or.inl ⟨rfl, ?_⟩; intro w hSw; (try dsimp only at hSw); go_simp; (try with_reducible rfl); done)); (try simp only [Act.put, List.setIfInBounds_toArray, List.set_cons_zero, List.set_cons_succ])
  refine wpAnyH_done (by kernel_rfl) ?_ _
  go_wp2
  go_ret
  exact ⟨rfl, (below_step HB.out (by first | assumption | exact And.left (by assumption) | exact Below.refl _ _))⟩
end Go.Proofs.YtepolmajebdphaaDoor.Values
