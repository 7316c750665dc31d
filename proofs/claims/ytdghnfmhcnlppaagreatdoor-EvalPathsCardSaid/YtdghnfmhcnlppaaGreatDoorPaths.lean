/- The law EvalPaths, walked: whatever the depth, the number and the path, its answer is true. -/
import Derived.Test.YtdghnfmhcnlppaaGreatDoorPathsP
import Derived.Test.YtdghnfmhcnlppaaGreatDoorRefV
namespace Go.Proofs.YtdghnfmhcnlppaaGreatDoor.Eval
open Go.RowKit Go.Proofs.YtdghnfmhcnlppaaGreatDoor.Q Go.Proofs.YtdghnfmhcnlppaaGreatDoor.Real Go.Proofs.YtdghnfmhcnlppaaGreatDoor.RealPure Go.Proofs.YtdghnfmhcnlppaaGreatDoor.Values Go.Proofs.YtdghnfmhcnlppaaGreatDoor.Fns Go.Proofs.YtdghnfmhcnlppaaGreatDoorW.PrintWords Go.Proofs.YtdghnfmhcnlppaaGreatDoorW.PrintLast Go.Proofs.YtdghnfmhcnlppaaGreatDoorW.PrintMore
set_option linter.unusedSimpArgs false
set_option linter.unusedVariables false

/-- Every block but one is as it was. -/
def Ext (g : Nat) (W W1 : World) : Prop := ∀ k o, k ≠ g → W.heap[k]? = some o → W1.heap[k]? = some o
theorem Ext.trans {g : Nat} {W W1 W2 : World} (h : Ext g W W1) (h' : Ext g W1 W2) : Ext g W W2 := fun k o hk ho => h' k o hk (h k o hk ho)
theorem Ext.of_below {g : Nat} {W W1 : World} (hb : Below W.heap.size W W1) : Ext g W W1 := fun k o _ ho => blk_below ho hb
theorem Ext.six (W : World) (g : Nat) (v0 v1 v2 v3 v4 v5 : Value) : Ext g W ((((((W.setCell ⟨g, 0, none⟩ v0).setCell ⟨g, 1, none⟩ v1).setCell ⟨g, 2, none⟩ v2).setCell ⟨g, 3, none⟩ v3).setCell ⟨g, 4, none⟩ v4).setCell ⟨g, 5, none⟩ v5) :=
  fun k o hk ho => (row_far6 hk _ _ _ _ _ _).trans ho
/-- What holds in each world that has every block but one. -/
def Fo (g : Nat) (W : World) (P : World → Prop) : Prop := ∀ W1, Ext g W W1 → P W1
theorem Fo.now {g : Nat} {W : World} {P : World → Prop} (h : Fo g W P) : P W := h W fun _ _ _ h => h
theorem Fo.step {g : Nat} {W W1 : World} {P : World → Prop} (h : Fo g W P) (e : Ext g W W1) : Fo g W1 P := fun W2 e2 => h W2 (e.trans e2)
theorem fo_R {g b c : Nat} {W : World} {ok : Nat → Prop} {A : Option Addr} {xs : List ByteArray} (h : Kd.R Kd.string 9 W b ok (.slice A xs.length c) xs) (hb : g < b) : Fo g W (fun W1 => Kd.C Kd.string W1 A xs.length xs) := fun W1 e =>
  (Kd.R_reads' (Kd.R_move (Kd.R_bound h) (fun k hk => by
    obtain ⟨_, h1, _, q, _, cells, hc⟩ := hk
    exact (e k _ (by omega) hc).trans hc.symm))).2.2
theorem K_six (W : World) (x : V) {A4 : Option Addr} {c4 : Nat} {A5 : Option Addr} {c5 : Nat} (h : Rows4 W x A4 c4 A5 c5) : k27.K W x [.int .i64 x.f0, .int .i64 x.f1, .int .u64 x.f2, .string x.f3, .slice A4 x.f4.length c4, .slice A5 x.f5.length c5] := K_of h
theorem reps_two (W : World) (x y : V) {A4 : Option Addr} {c4 : Nat} {A5 : Option Addr} {c5 : Nat} {B4 : Option Addr} {d4 : Nat} {B5 : Option Addr} {d5 : Nat} (h : Rows4 W x A4 c4 A5 c5) (h' : Rows4 W y B4 d4 B5 d5) :
    Reps (k27.K W) 6 [x, y] [.int .i64 x.f0, .int .i64 x.f1, .int .u64 x.f2, .string x.f3, .slice A4 x.f4.length c4, .slice A5 x.f5.length c5, .int .i64 y.f0, .int .i64 y.f1, .int .u64 y.f2, .string y.f3, .slice B4 y.f4.length d4, .slice B5 y.f5.length d5] := by
  have hk := K_six W x h
  have hk2 := K_six W y h'
  have h2 := ((Reps.none (k27.K W) 6).snoc hk (k27.K_len hk)).snoc hk2 (k27.K_len hk2)
  simpa using h2
theorem reps_strs (W : World) (s t : ByteArray) : Reps (Kd.string.K W) Kd.string.sz [s, t] [.string s, .string t] := by
  have h := ((Reps.none (Kd.string.K W) 1).snoc (show Kd.string.K W s [.string s] from rfl) rfl).snoc (show Kd.string.K W t [.string t] from rfl) rfl
  exact h
theorem reps_strM (W : World) (b : Nat) (ok : Nat → Prop) (s : ByteArray) : Reps (Kd.string.M W b ok) Kd.string.sz [s] [.string s] := by
  have h := (Reps.none (Kd.string.M W b ok) 1).snoc (show Kd.string.M W b ok s [.string s] from rfl) rfl
  exact h
/-- One more record around it. -/
theorem nest_foot {g gk gi : Nat} {W Wf : World} {names : List ByteArray} {name : ByteArray} {x : V} {E : Option Addr} {e : Nat} {F : Option Addr} {f : Nat} {An : Option Addr}
    (h : Fo g W (fun W1 => Rows4 W1 x E e F f ∧ Kd.C Kd.string W1 An names.length names)) (he : Ext g W Wf)
    (hk : Wf.heap[gk]? = some (.cells #[.string sA, .string name] 9 (0, 0))) (hgk : gk ≠ g)
    (hi : Wf.heap[gi]? = some (.cells #[.int .i64 noV.f0, .int .i64 noV.f1, .int .u64 noV.f2, .string noV.f3, .slice none noV.f4.length 0, .slice none noV.f5.length 0, .int .i64 x.f0, .int .i64 x.f1, .int .u64 x.f2, .string x.f3, .slice E x.f4.length e, .slice F x.f5.length f] 27 (0, 0))) (hgi : gi ≠ g) :
    Fo g Wf (fun W1 => Rows4 W1 ⟨6, 0, 0, ⟨#[]⟩, [noV, x], [sA, name]⟩ (some ⟨gi, 0, none⟩) 2 (some ⟨gk, 0, none⟩) 2 ∧ Kd.C Kd.string W1 An names.length names) := fun W1 e1 => by
  have hx := h W1 (he.trans e1)
  exact ⟨⟨block_C k27 (xs := [noV, x]) (e1 _ _ hgi hi) (reps_two W1 noV x (rows_nil W1 noV rfl rfl) hx.1) (by simp), Nat.le_refl _, block_C Kd.string (xs := [sA, name]) (e1 _ _ hgk hk) (reps_strs W1 sA name) (by simp), Nat.le_refl _⟩, hx.2⟩
theorem reps_three (W : World) (x y z : Vr) {A4 : Option Addr} {c4 : Nat} {A5 : Option Addr} {c5 : Nat} {B4 : Option Addr} {d4 : Nat} {B5 : Option Addr} {d5 : Nat} {D4 : Option Addr} {e4 : Nat} {D5 : Option Addr} {e5 : Nat} (h : Rows4 W x.f1 A4 c4 A5 c5) (h' : Rows4 W y.f1 B4 d4 B5 d5) (h'' : Rows4 W z.f1 D4 e4 D5 e5) :
    Reps (kX.K W) 7 [x, y, z] [.string x.f0, .int .i64 x.f1.f0, .int .i64 x.f1.f1, .int .u64 x.f1.f2, .string x.f1.f3, .slice A4 x.f1.f4.length c4, .slice A5 x.f1.f5.length c5, .string y.f0, .int .i64 y.f1.f0, .int .i64 y.f1.f1, .int .u64 y.f1.f2, .string y.f1.f3, .slice B4 y.f1.f4.length d4, .slice B5 y.f1.f5.length d5, .string z.f0, .int .i64 z.f1.f0, .int .i64 z.f1.f1, .int .u64 z.f1.f2, .string z.f1.f3, .slice D4 z.f1.f4.length e4, .slice D5 z.f1.f5.length e5] := by
  have hk := K_var W x h
  have hk2 := K_var W y h'
  have hk3 := K_var W z h''
  have h2 := (((Reps.none (kX.K W) 7).snoc hk (kX.K_len hk)).snoc hk2 (kX.K_len hk2)).snoc hk3 (kX.K_len hk3)
  simpa using h2

theorem dec_and (x : Int) (W : World) : Calls Tryz.prog 19 #[.int .i64 (bits .and .i64 x 15)] W fun e w' => ∃ d, d < 16 ∧ e = .returned (.string (decS d)) ∧ Below W.heap.size W w' := by
  obtain ⟨d, hd, h⟩ := and15 x
  rw [hd]
  exact (stoleref0_Decimal.calls 8 d (decS d) W (dec_of d h)).mono fun e w' he => ⟨d, h, he.1, he.2⟩

set_option maxHeartbeats 16000000 in
set_option maxRecDepth 100000 in
theorem paths_calls (a0 a1 a2 : Int) (w : World) (hT : Tabs w) :
    Calls Tryz.prog 5 #[.int .i64 a0, .int .i64 a1, .int .i64 a2] w fun en w' => en = .returned (.bool true) ∧ Below w.heap.size w w' := by
  have hu27 := Tryz.underlying27
  have huE := Tryz.underlying30
  have HB := Lib.hid (Below.refl w.heap.size w)
  have HT := Lib.hid hT
  clear hT
  go_enter Tryz.func5, Tryz.ntmps5
  go_upto_region 4 with (first | (go_at_call 14; (with_reducible refine (awake_calls _ (HT.out.below HB.out)).mono ?_); rintro en wa ⟨rfl, hb⟩; have HB' := Lib.hid (below_step HB.out hb); clear HB; have HB := HB'; clear HB'; clear hb))
  obtain ⟨K, hK, hK1, hK4⟩ := and3 a0
  rw [hK]
  clear hK
  have HK := Lib.hid (And.intro hK1 hK4)
  clear hK1 hK4
  obtain ⟨m, hm, hm0, hm1⟩ := and65535 a1
  have HM := Lib.hid (And.intro hm0 hm1)
  have CNM := Lib.hid (show ∀ W : World, Calls Tryz.prog 18 #[.int .i64 (bits .and .i64 a1 65535)] W fun e w' => e = .returned (arg (numV m) none 0 none 0) ∧ Below W.heap.size W w' from fun W => by rw [hm]; exact num_calls m W)
  clear hm hm0 hm1
  go_upto_region 5 with (first | (go_at_call 18; (with_reducible refine (CNM.out _).mono ?_); rintro en wb ⟨rfl, hb⟩; have HB' := Lib.hid (below_step HB.out hb); clear HB; have HB := HB'; clear HB'; clear hb) | ((with_reducible refine gate_store (t := 27) (p := 8) rfl ?_); refine row_event (by rfl) (by rfl) (by rfl) (by rfl) (by rfl) (blk_new wb zeros) (by exact size27) (by rfl) (by first | rfl | simp [Value.oneCell']) ?_; intro wc hz ho hb0; have HG8 := Lib.hid (below_size HB.out); have hb := hb0 (w0 := wb) (Nat.le_refl _) (below_alloc (Below.refl _ _) _); have HB' := Lib.hid (below_step HB.out hb); clear HB; have HB := HB'; clear HB'; have B8 := Lib.hid hz; clear hz ho hb0 hb))
  generalize hg8 : wb.heap.size = g8 at *
  clear hg8
  have FO := Lib.hid (show Fo g8 wc (fun W1 => Rows4 W1 (nestP m []) none 0 none 0 ∧ Kd.C Kd.string W1 none ([] : List ByteArray).length []) from fun W1 _ => ⟨rows_nil W1 (numV m) rfl rfl, Kd.C_nil _ _⟩)
  go_wp2
  go_loopg [9, 10] K (fun kq v9 v10 wr => ∃ (names : List ByteArray) (An : Option Addr) (cn : Nat) (E : Option Addr) (e : Nat) (F : Option Addr) (f : Nat), v9 = .slice An names.length cn ∧ v10 = .int .i64 (names.length : Int) ∧ Aside0 (names.length + kq = K ∧ ∀ n ∈ names, Nm n) ∧ Aside0 (names.length ≤ cn) ∧ Aside0 (wr.heap[g8]? = some (.cells #[.int .i64 (nestP m names).f0, .int .i64 (nestP m names).f1, .int .u64 (nestP m names).f2, .string (nestP m names).f3, .slice E (nestP m names).f4.length e, .slice F (nestP m names).f5.length f] 27 (0, 0))) ∧ Aside0 (Fo g8 wr (fun W1 => Rows4 W1 (nestP m names) E e F f ∧ Kd.C Kd.string W1 An names.length names)) ∧ Aside0 (Below w.heap.size w wr))
  case atStart => exact ⟨[], none, 0, none, 0, none, 0, rfl, rfl, ⟨by simp, fun n hn => by cases hn⟩, ⟨Nat.le_refl _⟩, ⟨B8.out⟩, ⟨FO.out⟩, ⟨HB.out⟩⟩
  case round =>
    clear B8 FO HB
    obtain ⟨names, An, cn, E, e, F, f, rfl, rfl, HQ, HC0, HX0, HF0, HB0⟩ := hrel
    have HC := Lib.hid HC0.out; have B8 := Lib.hid HX0.out; have FO := Lib.hid HF0.out; have HB := Lib.hid HB0.out; clear HC0 HX0 HF0 HB0
    obtain ⟨hq, hnm⟩ := HQ.out
    have HNM := Lib.hid hnm
    clear hnm HQ
    cases gk with
    | zero =>
      have hlt : decide ((names.length : Int) < (K : Int)) = false := decide_eq_false (by omega)
      have hlen : names.length ≤ 4 := by have := HK.out.2; omega
      have hlen1 : 1 ≤ names.length := by have := HK.out.1; omega
      have hR := FO.out.now
      have hB8 := B8.out
      have hp1 := pipe_dot HM.out.1 HM.out.2 HNM.out hlen; have hp2 := pipe_var HM.out.1 HM.out.2 HNM.out hlen; have hp3 := pipe_more HM.out.1 HM.out.2 HNM.out hlen; have hp4 := pipe_zz HM.out.1 HM.out.2 HNM.out hlen hlen1
      have hmv := may_nestB m HM.out.1 HM.out.2 names HNM.out hlen
      have hgd := env_good (fun d => rng_nest m names d)
      generalize nestP m names = v at *
      clear FO B8 HNM
      have RV := Lib.hid hR.1; have CN := Lib.hid hR.2; have B8 := Lib.hid hB8; have HMV := Lib.hid hmv; have HGD := Lib.hid hgd; have HP1 := Lib.hid hp1; have HP2 := Lib.hid hp2; have HP3 := Lib.hid hp3; have HP4 := Lib.hid hp4; have HLN := Lib.hid hlen
      clear hR hB8 hp1 hp2 hp3 hp4 hmv hgd hlen hlen1
      go_upto_region 12 with (fail)
      clear hlt hq
      go_cut [12] (fun v12 wc => ∃ (gE : Nat) (adVV : Addr), v12 = .pointer (some ⟨gE, 0, none⟩) ∧ Aside0 (wc.heap[gE]? = some (.cells #[.int .i64 v.f0, .int .i64 v.f1, .int .u64 v.f2, .string v.f3, .slice E v.f4.length e, .slice F v.f5.length f, .slice (some adVV) 3 3] 30 (0, 0))) ∧ Aside0 (RowsE wc (envP v) E e F f (some adVV) 3) ∧ Aside0 (wc.heap[g8]? = some (.cells #[.int .i64 v.f0, .int .i64 v.f1, .int .u64 v.f2, .string v.f3, .slice E v.f4.length e, .slice F v.f5.length f] 27 (0, 0))) ∧ Aside0 (Rows4 wc v E e F f) ∧ Aside0 (Kd.C Kd.string wc An names.length names) ∧ Aside0 (Below w.heap.size w wc))
      case first =>
        have hbd := below_drew (Below.refl wr.heap.size wr)
        have HB' := Lib.hid (below_step HB.out hbd); have B8' := Lib.hid (blk_below B8.out hbd); have RV' := Lib.hid (Rows4.below RV.out hbd); have CN' := Lib.hid (Kd.C_below CN.out hbd); clear HB; have HB := HB'; clear HB'; clear B8; have B8 := B8'; clear B8'; clear RV; have RV := RV'; clear RV'; clear CN; have CN := CN'; clear CN'
        clear hbd
        have BRd := Lib.hid B8.out
        generalize hWD : wr.drew = wd at *
        have KEEP := Lib.hid (show ∀ w', Below wd.heap.size wd w' → (fun w' => Below wd.heap.size wd w' ∧ w'.cell? ⟨g8, 0, none⟩ = some (.int .i64 v.f0) ∧ w'.cell? ⟨g8, 1, none⟩ = some (.int .i64 v.f1) ∧ w'.cell? ⟨g8, 2, none⟩ = some (.int .u64 v.f2) ∧ w'.cell? ⟨g8, 3, none⟩ = some (.string v.f3) ∧ w'.cell? ⟨g8, 4, none⟩ = some (.slice E v.f4.length e) ∧ w'.cell? ⟨g8, 5, none⟩ = some (.slice F v.f5.length f)) w' from fun w' h => ⟨h, (blk_cell (blk_below BRd.out h) 0).trans rfl, (blk_cell (blk_below BRd.out h) 1).trans rfl, (blk_cell (blk_below BRd.out h) 2).trans rfl, (blk_cell (blk_below BRd.out h) 3).trans rfl, (blk_cell (blk_below BRd.out h) 4).trans rfl, (blk_cell (blk_below BRd.out h) 5).trans rfl⟩)
        refine wp_region_held_drew (S := (fun w' => Below wd.heap.size wd w' ∧ w'.cell? ⟨g8, 0, none⟩ = some (.int .i64 v.f0) ∧ w'.cell? ⟨g8, 1, none⟩ = some (.int .i64 v.f1) ∧ w'.cell? ⟨g8, 2, none⟩ = some (.int .u64 v.f2) ∧ w'.cell? ⟨g8, 3, none⟩ = some (.string v.f3) ∧ w'.cell? ⟨g8, 4, none⟩ = some (.slice E v.f4.length e) ∧ w'.cell? ⟨g8, 5, none⟩ = some (.slice F v.f5.length f))) (by kernel_rfl) ?_ (fun hHeld => ?_)
        · rw [hWD]; exact KEEP.out _ (Below.refl _ _)
        rw [hWD] at hHeld ⊢
        clear hWD
        have HN := Lib.hid (Below.refl wd.heap.size wd)
        refine wpAnyH_take (i := 0) (oi := ⟨some 53, _, _, _, _, _⟩) (v := ?_) rfl (by as_aux_lemma => kernel_rfl) (by as_aux_lemma => kernel_rfl) (by as_aux_lemma => kernel_rfl) (fun _ _ _ h => h) ?_ (by assumption) ?_; rotate_left; (focus (refine Or.inl ⟨rfl, ?_⟩; intro w hSw; (try dsimp only at hSw); go_simp; (try with_reducible rfl); done)); (try simp only [Act.put, List.setIfInBounds_toArray, List.set_cons_zero, List.set_cons_succ])
        refine wpAnyH_take (i := 1) (oi := ⟨some 54, _, _, _, _, _⟩) (v := ?_) rfl (by as_aux_lemma => kernel_rfl) (by as_aux_lemma => kernel_rfl) (by as_aux_lemma => kernel_rfl) (fun _ _ _ h => h) ?_ (by assumption) ?_; rotate_left; (focus (refine Or.inl ⟨rfl, ?_⟩; intro w hSw; (try dsimp only at hSw); go_simp; (try with_reducible rfl); done)); (try simp only [Act.put, List.setIfInBounds_toArray, List.set_cons_zero, List.set_cons_succ])
        refine wpAnyH_take (i := 2) (oi := ⟨some 55, _, _, _, _, _⟩) (v := ?_) rfl (by as_aux_lemma => kernel_rfl) (by as_aux_lemma => kernel_rfl) (by as_aux_lemma => kernel_rfl) (fun _ _ _ h => h) ?_ (by assumption) ?_; rotate_left; (focus (refine Or.inl ⟨rfl, ?_⟩; intro w hSw; (try dsimp only at hSw); go_simp; (try with_reducible rfl); done)); (try simp only [Act.put, List.setIfInBounds_toArray, List.set_cons_zero, List.set_cons_succ])
        refine wpAnyH_take (i := 5) (oi := ⟨some 58, _, _, _, _, _⟩) (v := ?_) rfl (by as_aux_lemma => kernel_rfl) (by as_aux_lemma => kernel_rfl) (by as_aux_lemma => kernel_rfl) (fun _ _ _ h => h) ?_ (by assumption) ?_; rotate_left; (focus (refine Or.inl ⟨rfl, ?_⟩; intro w hSw; (try dsimp only at hSw); go_simp; (try with_reducible rfl); done)); (try simp only [Act.put, List.setIfInBounds_toArray, List.set_cons_zero, List.set_cons_succ])
        refine wpAnyH_take (i := 6) (oi := ⟨some 59, _, _, _, _, _⟩) (v := ?_) rfl (by as_aux_lemma => kernel_rfl) (by as_aux_lemma => kernel_rfl) (by as_aux_lemma => kernel_rfl) (fun _ _ _ h => h) ?_ (by assumption) ?_; rotate_left; (focus (refine Or.inl ⟨rfl, ?_⟩; intro w hSw; (try dsimp only at hSw); go_simp; (try with_reducible rfl); done)); (try simp only [Act.put, List.setIfInBounds_toArray, List.set_cons_zero, List.set_cons_succ])
        refine wpAnyH_ready (rs := [3, 9]) (by kernel_rfl) (by simp) ?_
        refine AllReadyH.cons (o := ⟨some 56, _, _, _, _, _⟩) rfl (fun K hK => ?_) (AllReadyH.cons (o := ⟨some 12, _, _, _, _, _⟩) rfl (fun K hK => ?_) AllReadyH.nil)
        · go_simp
          go_at_call 18
          (with_reducible refine (num_calls 1 _).mono ?_)
          rintro en wq1 ⟨rfl, hb⟩
          refine hK.out _ _ (KEEP.out _ (below_step HN.out hb)) (fun hHeld2 => ?_)
          have HN' := Lib.hid (below_step HN.out hb); clear HN; have HN := HN'; clear HN'
          clear hb; clear hK K hHeld; have hHeld := hHeld2; clear hHeld2; (try simp only [Act.put, List.setIfInBounds_toArray, List.set_cons_zero, List.set_cons_succ])
          refine wpAnyH_take (i := 4) (oi := ⟨some 57, _, _, _, _, _⟩) (v := ?_) rfl (by as_aux_lemma => kernel_rfl) (by as_aux_lemma => kernel_rfl) (by as_aux_lemma => kernel_rfl) (fun _ _ _ h => h) ?_ (by assumption) ?_; rotate_left; (focus (refine Or.inl ⟨rfl, ?_⟩; intro w hSw; (try dsimp only at hSw); go_simp; (try with_reducible rfl); done)); (try simp only [Act.put, List.setIfInBounds_toArray, List.set_cons_zero, List.set_cons_succ])
          refine wpAnyH_ready (rs := [7, 9]) (by kernel_rfl) (by simp) ?_
          refine AllReadyH.cons (o := ⟨some 60, _, _, _, _, _⟩) rfl (fun K hK => ?_) (AllReadyH.cons (o := ⟨some 12, _, _, _, _, _⟩) rfl (fun K hK => ?_) AllReadyH.nil)
          · go_simp
            have hb := below_alloc (Below.refl wq1.heap.size wq1) (.cells #[.string ⟨#[117]⟩, .int .i64 v.f0, .int .i64 v.f1, .int .u64 v.f2, .string v.f3, .slice E v.f4.length e, .slice F v.f5.length f, .string ⟨#[119]⟩, .int .i64 (numV 1).f0, .int .i64 (numV 1).f1, .int .u64 (numV 1).f2, .string (numV 1).f3, .slice none (numV 1).f4.length 0, .slice none (numV 1).f5.length 0, .string ⟨#[119]⟩, .int .i64 v.f0, .int .i64 v.f1, .int .u64 v.f2, .string v.f3, .slice E v.f4.length e, .slice F v.f5.length f] 34)
            refine hK.out _ _ (KEEP.out _ (below_step HN.out hb)) (fun hHeld2 => ?_)
            have VV0 := Lib.hid (blk_new wq1 (.cells #[.string ⟨#[117]⟩, .int .i64 v.f0, .int .i64 v.f1, .int .u64 v.f2, .string v.f3, .slice E v.f4.length e, .slice F v.f5.length f, .string ⟨#[119]⟩, .int .i64 (numV 1).f0, .int .i64 (numV 1).f1, .int .u64 (numV 1).f2, .string (numV 1).f3, .slice none (numV 1).f4.length 0, .slice none (numV 1).f5.length 0, .string ⟨#[119]⟩, .int .i64 v.f0, .int .i64 v.f1, .int .u64 v.f2, .string v.f3, .slice E v.f4.length e, .slice F v.f5.length f] 34))
            have GEVV := Lib.hid (below_size HN.out)
            have BAVV := Lib.hid hb
            have HN' := Lib.hid (below_step HN.out hb); clear HN; have HN := HN'; clear HN'
            clear hb; clear hK K hHeld; have hHeld := hHeld2; clear hHeld2; (try simp only [Act.put, List.setIfInBounds_toArray, List.set_cons_zero, List.set_cons_succ])
            (try clear HGK); generalize hgk : wq1.heap.size = gq2 at *; have HGK := Lib.hid hgk; clear hgk
            generalize hwk : wq1.alloc (.cells #[.string ⟨#[117]⟩, .int .i64 v.f0, .int .i64 v.f1, .int .u64 v.f2, .string v.f3, .slice E v.f4.length e, .slice F v.f5.length f, .string ⟨#[119]⟩, .int .i64 (numV 1).f0, .int .i64 (numV 1).f1, .int .u64 (numV 1).f2, .string (numV 1).f3, .slice none (numV 1).f4.length 0, .slice none (numV 1).f5.length 0, .string ⟨#[119]⟩, .int .i64 v.f0, .int .i64 v.f1, .int .u64 v.f2, .string v.f3, .slice E v.f4.length e, .slice F v.f5.length f] 34) = wq2 at *; clear hwk
            have VV := VV0; clear VV0
            refine wpAnyH_take (i := 8) (oi := ⟨some 61, _, _, _, _, _⟩) (v := ?_) rfl (by as_aux_lemma => kernel_rfl) (by as_aux_lemma => kernel_rfl) (by as_aux_lemma => kernel_rfl) (fun _ _ _ h => h) ?_ (by assumption) ?_; rotate_left; (focus (refine Or.inl ⟨rfl, ?_⟩; intro w hSw; (try dsimp only at hSw); go_simp; (try with_reducible rfl); done)); (try simp only [Act.put, List.setIfInBounds_toArray, List.set_cons_zero, List.set_cons_succ])
            refine wpAnyH_ready (rs := [9]) (by kernel_rfl) (by simp) ?_
            refine AllReadyH.cons (o := ⟨some 12, _, _, _, _, _⟩) rfl (fun K hK => ?_) AllReadyH.nil
            go_simp
            have hb := below_alloc (Below.refl wq2.heap.size wq2) zerosE
            refine hK.out _ _ (KEEP.out _ (below_step HN.out hb)) (fun hHeld2 => ?_)
            have BE0 := Lib.hid (blk_new wq2 zerosE)
            have GEBE := Lib.hid (below_size HN.out)
            have BABE := Lib.hid hb
            have VV' := Lib.hid (blk_below VV.out hb)
            have HN' := Lib.hid (below_step HN.out hb)
            clear VV HN; have HN := HN'; clear HN'; have VV := VV'; clear VV'
            clear hb; clear hK K hHeld; have hHeld := hHeld2; clear hHeld2; (try simp only [Act.put, List.setIfInBounds_toArray, List.set_cons_zero, List.set_cons_succ])
            (try clear HGK); generalize hgk : wq2.heap.size = gq3 at *; have HGK := Lib.hid hgk; clear hgk
            generalize hwk : wq2.alloc zerosE = wq3 at *; clear hwk
            have BE := BE0; clear BE0
            refine wpAnyH_ready (rs := [10]) (by kernel_rfl) (by simp) ?_
            refine AllReadyH.cons (o := ⟨none, _, _, _, _, _⟩) rfl (fun K hK => ?_) AllReadyH.nil
            have nz0 := (blk_cell BE.out 0).trans rfl; have fz0 := blk_frozen BE.out 0; have nz1 := (blk_cell BE.out 1).trans rfl; have fz1 := blk_frozen BE.out 1; have nz2 := (blk_cell BE.out 2).trans rfl; have fz2 := blk_frozen BE.out 2; have nz3 := (blk_cell BE.out 3).trans rfl; have fz3 := blk_frozen BE.out 3; have nz4 := (blk_cell BE.out 4).trans rfl; have fz4 := blk_frozen BE.out 4; have nz5 := (blk_cell BE.out 5).trans rfl; have fz5 := blk_frozen BE.out 5; have nz6 := (blk_cell BE.out 6).trans rfl; have fz6 := blk_frozen BE.out 6
            go_simp
            have HX := Lib.hid (row_put7 BE.out (.int .i64 v.f0) (.int .i64 v.f1) (.int .u64 v.f2) (.string v.f3) (.slice E v.f4.length e) (.slice F v.f5.length f) (.slice (some ⟨gq2, 0, none⟩) 3 3))
            have HF := Lib.hid (row_below7 HN.out GEBE.out (.int .i64 v.f0) (.int .i64 v.f1) (.int .u64 v.f2) (.string v.f3) (.slice E v.f4.length e) (.slice F v.f5.length f) (.slice (some ⟨gq2, 0, none⟩) 3 3))
            clear nz0 fz0 nz1 fz1 nz2 fz2 nz3 fz3 nz4 fz4 nz5 fz5 nz6 fz6
            have VVf := Lib.hid ((row_far7 (Ne.symm (blk_ne BE.out VV.out (by decide))) (.int .i64 v.f0) (.int .i64 v.f1) (.int .u64 v.f2) (.string v.f3) (.slice E v.f4.length e) (.slice F v.f5.length f) (.slice (some ⟨gq2, 0, none⟩) 3 3)).trans VV.out)
            refine hK.out _ _ (KEEP.out _ HF.out) (fun hHeld2 => ?_)
            clear hK K hHeld; have hHeld := hHeld2; clear hHeld2; (try simp only [Act.put, List.setIfInBounds_toArray, List.set_cons_zero, List.set_cons_succ])
            refine wpAnyH_done (by kernel_rfl) ?_ _
            go_wp2
            go_meet
            case rel =>
              have hrv := RV.out.below HF.out
              have HVC := block_C kX (xs := [⟨sU, v⟩, ⟨sW, numV 1⟩, ⟨sW, v⟩]) VVf.out (reps_three _ ⟨sU, v⟩ ⟨sW, numV 1⟩ ⟨sW, v⟩ hrv (rows_nil _ (numV 1) rfl rfl) hrv) (by simp)
              exact ⟨_, _, rfl, ⟨HX.out⟩, ⟨⟨hrv, HVC, Nat.le_refl _⟩⟩, ⟨blk_below B8.out HF.out⟩, ⟨hrv⟩, ⟨Kd.C_below CN.out HF.out⟩, ⟨below_step HB.out HF.out⟩⟩
          · go_simp
            have hb := below_alloc (Below.refl wq1.heap.size wq1) zerosE
            refine hK.out _ _ (KEEP.out _ (below_step HN.out hb)) (fun hHeld2 => ?_)
            have BE0 := Lib.hid (blk_new wq1 zerosE)
            have GEBE := Lib.hid (below_size HN.out)
            have BABE := Lib.hid hb
            have HN' := Lib.hid (below_step HN.out hb); clear HN; have HN := HN'; clear HN'
            clear hb; clear hK K hHeld; have hHeld := hHeld2; clear hHeld2; (try simp only [Act.put, List.setIfInBounds_toArray, List.set_cons_zero, List.set_cons_succ])
            (try clear HGK); generalize hgk : wq1.heap.size = gq2 at *; have HGK := Lib.hid hgk; clear hgk
            generalize hwk : wq1.alloc zerosE = wq2 at *; clear hwk
            have BE := BE0; clear BE0
            refine wpAnyH_ready (rs := [7]) (by kernel_rfl) (by simp) ?_
            refine AllReadyH.cons (o := ⟨some 60, _, _, _, _, _⟩) rfl (fun K hK => ?_) AllReadyH.nil
            go_simp
            have hb := below_alloc (Below.refl wq2.heap.size wq2) (.cells #[.string ⟨#[117]⟩, .int .i64 v.f0, .int .i64 v.f1, .int .u64 v.f2, .string v.f3, .slice E v.f4.length e, .slice F v.f5.length f, .string ⟨#[119]⟩, .int .i64 (numV 1).f0, .int .i64 (numV 1).f1, .int .u64 (numV 1).f2, .string (numV 1).f3, .slice none (numV 1).f4.length 0, .slice none (numV 1).f5.length 0, .string ⟨#[119]⟩, .int .i64 v.f0, .int .i64 v.f1, .int .u64 v.f2, .string v.f3, .slice E v.f4.length e, .slice F v.f5.length f] 34)
            refine hK.out _ _ (KEEP.out _ (below_step HN.out hb)) (fun hHeld2 => ?_)
            have VV0 := Lib.hid (blk_new wq2 (.cells #[.string ⟨#[117]⟩, .int .i64 v.f0, .int .i64 v.f1, .int .u64 v.f2, .string v.f3, .slice E v.f4.length e, .slice F v.f5.length f, .string ⟨#[119]⟩, .int .i64 (numV 1).f0, .int .i64 (numV 1).f1, .int .u64 (numV 1).f2, .string (numV 1).f3, .slice none (numV 1).f4.length 0, .slice none (numV 1).f5.length 0, .string ⟨#[119]⟩, .int .i64 v.f0, .int .i64 v.f1, .int .u64 v.f2, .string v.f3, .slice E v.f4.length e, .slice F v.f5.length f] 34))
            have GEVV := Lib.hid (below_size HN.out)
            have BAVV := Lib.hid hb
            have BE' := Lib.hid (blk_below BE.out hb)
            have HN' := Lib.hid (below_step HN.out hb)
            clear BE HN; have HN := HN'; clear HN'; have BE := BE'; clear BE'
            clear hb; clear hK K hHeld; have hHeld := hHeld2; clear hHeld2; (try simp only [Act.put, List.setIfInBounds_toArray, List.set_cons_zero, List.set_cons_succ])
            (try clear HGK); generalize hgk : wq2.heap.size = gq3 at *; have HGK := Lib.hid hgk; clear hgk
            generalize hwk : wq2.alloc (.cells #[.string ⟨#[117]⟩, .int .i64 v.f0, .int .i64 v.f1, .int .u64 v.f2, .string v.f3, .slice E v.f4.length e, .slice F v.f5.length f, .string ⟨#[119]⟩, .int .i64 (numV 1).f0, .int .i64 (numV 1).f1, .int .u64 (numV 1).f2, .string (numV 1).f3, .slice none (numV 1).f4.length 0, .slice none (numV 1).f5.length 0, .string ⟨#[119]⟩, .int .i64 v.f0, .int .i64 v.f1, .int .u64 v.f2, .string v.f3, .slice E v.f4.length e, .slice F v.f5.length f] 34) = wq3 at *; clear hwk
            have VV := VV0; clear VV0
            refine wpAnyH_take (i := 8) (oi := ⟨some 61, _, _, _, _, _⟩) (v := ?_) rfl (by as_aux_lemma => kernel_rfl) (by as_aux_lemma => kernel_rfl) (by as_aux_lemma => kernel_rfl) (fun _ _ _ h => h) ?_ (by assumption) ?_; rotate_left; (focus (refine Or.inl ⟨rfl, ?_⟩; intro w hSw; (try dsimp only at hSw); go_simp; (try with_reducible rfl); done)); (try simp only [Act.put, List.setIfInBounds_toArray, List.set_cons_zero, List.set_cons_succ])
            refine wpAnyH_ready (rs := [10]) (by kernel_rfl) (by simp) ?_
            refine AllReadyH.cons (o := ⟨none, _, _, _, _, _⟩) rfl (fun K hK => ?_) AllReadyH.nil
            have nz0 := (blk_cell BE.out 0).trans rfl; have fz0 := blk_frozen BE.out 0; have nz1 := (blk_cell BE.out 1).trans rfl; have fz1 := blk_frozen BE.out 1; have nz2 := (blk_cell BE.out 2).trans rfl; have fz2 := blk_frozen BE.out 2; have nz3 := (blk_cell BE.out 3).trans rfl; have fz3 := blk_frozen BE.out 3; have nz4 := (blk_cell BE.out 4).trans rfl; have fz4 := blk_frozen BE.out 4; have nz5 := (blk_cell BE.out 5).trans rfl; have fz5 := blk_frozen BE.out 5; have nz6 := (blk_cell BE.out 6).trans rfl; have fz6 := blk_frozen BE.out 6
            go_simp
            have HX := Lib.hid (row_put7 BE.out (.int .i64 v.f0) (.int .i64 v.f1) (.int .u64 v.f2) (.string v.f3) (.slice E v.f4.length e) (.slice F v.f5.length f) (.slice (some ⟨gq3, 0, none⟩) 3 3))
            have HF := Lib.hid (row_below7 HN.out GEBE.out (.int .i64 v.f0) (.int .i64 v.f1) (.int .u64 v.f2) (.string v.f3) (.slice E v.f4.length e) (.slice F v.f5.length f) (.slice (some ⟨gq3, 0, none⟩) 3 3))
            clear nz0 fz0 nz1 fz1 nz2 fz2 nz3 fz3 nz4 fz4 nz5 fz5 nz6 fz6
            have VVf := Lib.hid ((row_far7 (Ne.symm (blk_ne BE.out VV.out (by decide))) (.int .i64 v.f0) (.int .i64 v.f1) (.int .u64 v.f2) (.string v.f3) (.slice E v.f4.length e) (.slice F v.f5.length f) (.slice (some ⟨gq3, 0, none⟩) 3 3)).trans VV.out)
            refine hK.out _ _ (KEEP.out _ HF.out) (fun hHeld2 => ?_)
            clear hK K hHeld; have hHeld := hHeld2; clear hHeld2; (try simp only [Act.put, List.setIfInBounds_toArray, List.set_cons_zero, List.set_cons_succ])
            refine wpAnyH_done (by kernel_rfl) ?_ _
            go_wp2
            go_meet
            case rel =>
              have hrv := RV.out.below HF.out
              have HVC := block_C kX (xs := [⟨sU, v⟩, ⟨sW, numV 1⟩, ⟨sW, v⟩]) VVf.out (reps_three _ ⟨sU, v⟩ ⟨sW, numV 1⟩ ⟨sW, v⟩ hrv (rows_nil _ (numV 1) rfl rfl) hrv) (by simp)
              exact ⟨_, _, rfl, ⟨HX.out⟩, ⟨⟨hrv, HVC, Nat.le_refl _⟩⟩, ⟨blk_below B8.out HF.out⟩, ⟨hrv⟩, ⟨Kd.C_below CN.out HF.out⟩, ⟨below_step HB.out HF.out⟩⟩
        · go_simp
          have hb := below_alloc (Below.refl wd.heap.size wd) zerosE
          refine hK.out _ _ (KEEP.out _ (below_step HN.out hb)) (fun hHeld2 => ?_)
          have BE0 := Lib.hid (blk_new wd zerosE)
          have GEBE := Lib.hid (below_size HN.out)
          have BABE := Lib.hid hb
          have HN' := Lib.hid (below_step HN.out hb); clear HN; have HN := HN'; clear HN'
          clear hb; clear hK K hHeld; have hHeld := hHeld2; clear hHeld2; (try simp only [Act.put, List.setIfInBounds_toArray, List.set_cons_zero, List.set_cons_succ])
          generalize hwk : wd.alloc zerosE = wq1 at *; clear hwk
          have BE := BE0; clear BE0
          refine wpAnyH_ready (rs := [3]) (by kernel_rfl) (by simp) ?_
          refine AllReadyH.cons (o := ⟨some 56, _, _, _, _, _⟩) rfl (fun K hK => ?_) AllReadyH.nil
          go_simp
          go_at_call 18
          (with_reducible refine (num_calls 1 _).mono ?_)
          rintro en wq2 ⟨rfl, hb⟩
          refine hK.out _ _ (KEEP.out _ (below_step HN.out hb)) (fun hHeld2 => ?_)
          have BE' := Lib.hid (blk_below BE.out hb)
          have HN' := Lib.hid (below_step HN.out hb)
          clear BE HN; have HN := HN'; clear HN'; have BE := BE'; clear BE'
          clear hb; clear hK K hHeld; have hHeld := hHeld2; clear hHeld2; (try simp only [Act.put, List.setIfInBounds_toArray, List.set_cons_zero, List.set_cons_succ])
          refine wpAnyH_take (i := 4) (oi := ⟨some 57, _, _, _, _, _⟩) (v := ?_) rfl (by as_aux_lemma => kernel_rfl) (by as_aux_lemma => kernel_rfl) (by as_aux_lemma => kernel_rfl) (fun _ _ _ h => h) ?_ (by assumption) ?_; rotate_left; (focus (refine Or.inl ⟨rfl, ?_⟩; intro w hSw; (try dsimp only at hSw); go_simp; (try with_reducible rfl); done)); (try simp only [Act.put, List.setIfInBounds_toArray, List.set_cons_zero, List.set_cons_succ])
          refine wpAnyH_ready (rs := [7]) (by kernel_rfl) (by simp) ?_
          refine AllReadyH.cons (o := ⟨some 60, _, _, _, _, _⟩) rfl (fun K hK => ?_) AllReadyH.nil
          go_simp
          have hb := below_alloc (Below.refl wq2.heap.size wq2) (.cells #[.string ⟨#[117]⟩, .int .i64 v.f0, .int .i64 v.f1, .int .u64 v.f2, .string v.f3, .slice E v.f4.length e, .slice F v.f5.length f, .string ⟨#[119]⟩, .int .i64 (numV 1).f0, .int .i64 (numV 1).f1, .int .u64 (numV 1).f2, .string (numV 1).f3, .slice none (numV 1).f4.length 0, .slice none (numV 1).f5.length 0, .string ⟨#[119]⟩, .int .i64 v.f0, .int .i64 v.f1, .int .u64 v.f2, .string v.f3, .slice E v.f4.length e, .slice F v.f5.length f] 34)
          refine hK.out _ _ (KEEP.out _ (below_step HN.out hb)) (fun hHeld2 => ?_)
          have VV0 := Lib.hid (blk_new wq2 (.cells #[.string ⟨#[117]⟩, .int .i64 v.f0, .int .i64 v.f1, .int .u64 v.f2, .string v.f3, .slice E v.f4.length e, .slice F v.f5.length f, .string ⟨#[119]⟩, .int .i64 (numV 1).f0, .int .i64 (numV 1).f1, .int .u64 (numV 1).f2, .string (numV 1).f3, .slice none (numV 1).f4.length 0, .slice none (numV 1).f5.length 0, .string ⟨#[119]⟩, .int .i64 v.f0, .int .i64 v.f1, .int .u64 v.f2, .string v.f3, .slice E v.f4.length e, .slice F v.f5.length f] 34))
          have GEVV := Lib.hid (below_size HN.out)
          have BAVV := Lib.hid hb
          have BE' := Lib.hid (blk_below BE.out hb)
          have HN' := Lib.hid (below_step HN.out hb)
          clear BE HN; have HN := HN'; clear HN'; have BE := BE'; clear BE'
          clear hb; clear hK K hHeld; have hHeld := hHeld2; clear hHeld2; (try simp only [Act.put, List.setIfInBounds_toArray, List.set_cons_zero, List.set_cons_succ])
          (try clear HGK); generalize hgk : wq2.heap.size = gq3 at *; have HGK := Lib.hid hgk; clear hgk
          generalize hwk : wq2.alloc (.cells #[.string ⟨#[117]⟩, .int .i64 v.f0, .int .i64 v.f1, .int .u64 v.f2, .string v.f3, .slice E v.f4.length e, .slice F v.f5.length f, .string ⟨#[119]⟩, .int .i64 (numV 1).f0, .int .i64 (numV 1).f1, .int .u64 (numV 1).f2, .string (numV 1).f3, .slice none (numV 1).f4.length 0, .slice none (numV 1).f5.length 0, .string ⟨#[119]⟩, .int .i64 v.f0, .int .i64 v.f1, .int .u64 v.f2, .string v.f3, .slice E v.f4.length e, .slice F v.f5.length f] 34) = wq3 at *; clear hwk
          have VV := VV0; clear VV0
          refine wpAnyH_take (i := 8) (oi := ⟨some 61, _, _, _, _, _⟩) (v := ?_) rfl (by as_aux_lemma => kernel_rfl) (by as_aux_lemma => kernel_rfl) (by as_aux_lemma => kernel_rfl) (fun _ _ _ h => h) ?_ (by assumption) ?_; rotate_left; (focus (refine Or.inl ⟨rfl, ?_⟩; intro w hSw; (try dsimp only at hSw); go_simp; (try with_reducible rfl); done)); (try simp only [Act.put, List.setIfInBounds_toArray, List.set_cons_zero, List.set_cons_succ])
          refine wpAnyH_ready (rs := [10]) (by kernel_rfl) (by simp) ?_
          refine AllReadyH.cons (o := ⟨none, _, _, _, _, _⟩) rfl (fun K hK => ?_) AllReadyH.nil
          have nz0 := (blk_cell BE.out 0).trans rfl; have fz0 := blk_frozen BE.out 0; have nz1 := (blk_cell BE.out 1).trans rfl; have fz1 := blk_frozen BE.out 1; have nz2 := (blk_cell BE.out 2).trans rfl; have fz2 := blk_frozen BE.out 2; have nz3 := (blk_cell BE.out 3).trans rfl; have fz3 := blk_frozen BE.out 3; have nz4 := (blk_cell BE.out 4).trans rfl; have fz4 := blk_frozen BE.out 4; have nz5 := (blk_cell BE.out 5).trans rfl; have fz5 := blk_frozen BE.out 5; have nz6 := (blk_cell BE.out 6).trans rfl; have fz6 := blk_frozen BE.out 6
          go_simp
          have HX := Lib.hid (row_put7 BE.out (.int .i64 v.f0) (.int .i64 v.f1) (.int .u64 v.f2) (.string v.f3) (.slice E v.f4.length e) (.slice F v.f5.length f) (.slice (some ⟨gq3, 0, none⟩) 3 3))
          have HF := Lib.hid (row_below7 HN.out GEBE.out (.int .i64 v.f0) (.int .i64 v.f1) (.int .u64 v.f2) (.string v.f3) (.slice E v.f4.length e) (.slice F v.f5.length f) (.slice (some ⟨gq3, 0, none⟩) 3 3))
          clear nz0 fz0 nz1 fz1 nz2 fz2 nz3 fz3 nz4 fz4 nz5 fz5 nz6 fz6
          have VVf := Lib.hid ((row_far7 (Ne.symm (blk_ne BE.out VV.out (by decide))) (.int .i64 v.f0) (.int .i64 v.f1) (.int .u64 v.f2) (.string v.f3) (.slice E v.f4.length e) (.slice F v.f5.length f) (.slice (some ⟨gq3, 0, none⟩) 3 3)).trans VV.out)
          refine hK.out _ _ (KEEP.out _ HF.out) (fun hHeld2 => ?_)
          clear hK K hHeld; have hHeld := hHeld2; clear hHeld2; (try simp only [Act.put, List.setIfInBounds_toArray, List.set_cons_zero, List.set_cons_succ])
          refine wpAnyH_done (by kernel_rfl) ?_ _
          go_wp2
          go_meet
          case rel =>
            have hrv := RV.out.below HF.out
            have HVC := block_C kX (xs := [⟨sU, v⟩, ⟨sW, numV 1⟩, ⟨sW, v⟩]) VVf.out (reps_three _ ⟨sU, v⟩ ⟨sW, numV 1⟩ ⟨sW, v⟩ hrv (rows_nil _ (numV 1) rfl rfl) hrv) (by simp)
            exact ⟨_, _, rfl, ⟨HX.out⟩, ⟨⟨hrv, HVC, Nat.le_refl _⟩⟩, ⟨blk_below B8.out HF.out⟩, ⟨hrv⟩, ⟨Kd.C_below CN.out HF.out⟩, ⟨below_step HB.out HF.out⟩⟩
      case rest =>
      clear HB B8 RV CN
      obtain ⟨gE, adVV, rfl, HX0, HE0, B0, R0, C0, HB0⟩ := hcut
      have HX := Lib.hid HX0.out; have HE := Lib.hid HE0.out; have B8 := Lib.hid B0.out; have RV := Lib.hid R0.out; have CN := Lib.hid C0.out; have HB := Lib.hid HB0.out; clear HX0 HE0 B0 R0 C0 HB0
      obtain ⟨x0, x1, x2, x3, x4, x5, x6⟩ := box7 HX.out
      have CP1 := Lib.hid (fun W (cp : Nat) (A : Option Addr) (h : RowsE W (envP v) E e F f (some adVV) 3) (hb : Below w.heap.size w W) (hA : Kd.C kC W A 1 [⟨⟨#[]⟩, [dotA names]⟩]) (hc : 1 ≤ cp) => (by exact pipe_got [⟨⟨#[]⟩, [dotA names]⟩] A cp (envP v) E e F f (some adVV) 3 W _ _ HP1.out h hA hc (HT.out.below hb) HGD.out : Calls Tryz.prog 8 #[.slice A 1 cp, .agg #[.int .i64 v.f0, .int .i64 v.f1, .int .u64 v.f2, .string v.f3, .slice E v.f4.length e, .slice F v.f5.length f, .slice (some adVV) 3 3]] W fun en w' => ∃ E4 e4 F4 f4, en = .returned (.tuple #[.agg #[.int .i64 (numV m).f0, .int .i64 (numV m).f1, .int .u64 (numV m).f2, .string (numV m).f3, .slice E4 (numV m).f4.length e4, .slice F4 (numV m).f5.length f4], .int .i64 0]) ∧ Rows4 w' (numV m : V) E4 e4 F4 f4 ∧ Below W.heap.size W w'))
      have CP2 := Lib.hid (fun W (cp : Nat) (A : Option Addr) (h : RowsE W (envP v) E e F f (some adVV) 3) (hb : Below w.heap.size w W) (hA : Kd.C kC W A 1 [⟨⟨#[]⟩, [varA names]⟩]) (hc : 1 ≤ cp) => (by exact pipe_got [⟨⟨#[]⟩, [varA names]⟩] A cp (envP v) E e F f (some adVV) 3 W _ _ HP2.out h hA hc (HT.out.below hb) HGD.out : Calls Tryz.prog 8 #[.slice A 1 cp, .agg #[.int .i64 v.f0, .int .i64 v.f1, .int .u64 v.f2, .string v.f3, .slice E v.f4.length e, .slice F v.f5.length f, .slice (some adVV) 3 3]] W fun en w' => ∃ E4 e4 F4 f4, en = .returned (.tuple #[.agg #[.int .i64 (numV m).f0, .int .i64 (numV m).f1, .int .u64 (numV m).f2, .string (numV m).f3, .slice E4 (numV m).f4.length e4, .slice F4 (numV m).f5.length f4], .int .i64 0]) ∧ Rows4 w' (numV m : V) E4 e4 F4 f4 ∧ Below W.heap.size W w'))
      have CP3 := Lib.hid (fun W (cp : Nat) (A : Option Addr) (h : RowsE W (envP v) E e F f (some adVV) 3) (hb : Below w.heap.size w W) (hA : Kd.C kC W A 1 [⟨⟨#[]⟩, [dotA (names ++ [sZ])]⟩]) (hc : 1 ≤ cp) => (by exact pipe_got [⟨⟨#[]⟩, [dotA (names ++ [sZ])]⟩] A cp (envP v) E e F f (some adVV) 3 W _ _ HP3.out h hA hc (HT.out.below hb) HGD.out : Calls Tryz.prog 8 #[.slice A 1 cp, .agg #[.int .i64 v.f0, .int .i64 v.f1, .int .u64 v.f2, .string v.f3, .slice E v.f4.length e, .slice F v.f5.length f, .slice (some adVV) 3 3]] W fun en w' => ∃ E4 e4 F4 f4, en = .returned (.tuple #[.agg #[.int .i64 (z27).f0, .int .i64 (z27).f1, .int .u64 (z27).f2, .string (z27).f3, .slice E4 (z27).f4.length e4, .slice F4 (z27).f5.length f4], .int .i64 402]) ∧ Rows4 w' (z27 : V) E4 e4 F4 f4 ∧ Below W.heap.size W w'))
      have CP4 := Lib.hid (fun W (cp : Nat) (A : Option Addr) (h : RowsE W (envP v) E e F f (some adVV) 3) (hb : Below w.heap.size w W) (hA : Kd.C kC W A 1 [⟨⟨#[]⟩, [dotA [sZZ]]⟩]) (hc : 1 ≤ cp) => (by exact pipe_got [⟨⟨#[]⟩, [dotA [sZZ]]⟩] A cp (envP v) E e F f (some adVV) 3 W _ _ HP4.out h hA hc (HT.out.below hb) HGD.out : Calls Tryz.prog 8 #[.slice A 1 cp, .agg #[.int .i64 v.f0, .int .i64 v.f1, .int .u64 v.f2, .string v.f3, .slice E v.f4.length e, .slice F v.f5.length f, .slice (some adVV) 3 3]] W fun en w' => ∃ E4 e4 F4 f4, en = .returned (.tuple #[.agg #[.int .i64 (z27).f0, .int .i64 (z27).f1, .int .u64 (z27).f2, .string (z27).f3, .slice E4 (z27).f4.length e4, .slice F4 (z27).f5.length f4], .int .i64 401]) ∧ Rows4 w' (z27 : V) E4 e4 F4 f4 ∧ Below W.heap.size W w'))
      clear HP1 HP2 HP3 HP4 HGD
      go_upto_region 14 with (first | ((with_reducible refine gate_dst (N := 65) rfl ?_); refine lit_row kA 57 1 ?hg (N := 65) ?hd (xs := ([dotA names] : List Ag)) (inner := [.int .i64 0, .string ⟨#[]⟩, .slice An names.length cn, .int .i64 0, .string ⟨#[]⟩]) rfl ?hr ?hp (by decide) ?_; (case hd => rfl); (case hg => rfl); (case hr => first | (go_simp; done) | (go_simp; rfl)); (case hp => exact reps_arg _ (dotA names) CN.out HC.out); intro adL1 wlL1 hc hb; have L1 := Lib.hid hc; have HX' := Lib.hid (blk_below HX.out hb); have HE' := Lib.hid (RowsE.below HE.out hb); have B8' := Lib.hid (blk_below B8.out hb); have RV' := Lib.hid (Rows4.below RV.out hb); have CN' := Lib.hid (Kd.C_below CN.out hb); have HB' := Lib.hid (below_step HB.out hb); clear HX; have HX := HX'; clear HX'; clear HE; have HE := HE'; clear HE'; clear B8; have B8 := B8'; clear B8'; clear RV; have RV := RV'; clear RV'; clear CN; have CN := CN'; clear CN'; clear HB; have HB := HB'; clear HB'; (try clear x0 x1 x2 x3 x4 x5 x6); obtain ⟨x0, x1, x2, x3, x4, x5, x6⟩ := box7 HX.out; clear hc hb) | ((with_reducible refine gate_dst (N := 67) rfl ?_); refine lit_row kC 50 1 ?hg (N := 67) ?hd (xs := ([⟨⟨#[]⟩, [dotA names]⟩] : List Cm)) (inner := [.string ⟨#[]⟩, .slice (some adL1) 1 1]) rfl ?hr ?hp (by decide) ?_; (case hd => rfl); (case hg => rfl); (case hr => first | (go_simp; done) | (go_simp; rfl)); (case hp => exact reps_cmd _ ⟨⟨#[]⟩, [dotA names]⟩ L1.out (Nat.le_refl _)); intro adC1 wlC1 hc hb; have C1 := Lib.hid hc; have HX' := Lib.hid (blk_below HX.out hb); have HE' := Lib.hid (RowsE.below HE.out hb); have B8' := Lib.hid (blk_below B8.out hb); have RV' := Lib.hid (Rows4.below RV.out hb); have CN' := Lib.hid (Kd.C_below CN.out hb); have HB' := Lib.hid (below_step HB.out hb); have L1' := Lib.hid (Kd.C_below L1.out hb); clear HX; have HX := HX'; clear HX'; clear HE; have HE := HE'; clear HE'; clear B8; have B8 := B8'; clear B8'; clear RV; have RV := RV'; clear RV'; clear CN; have CN := CN'; clear CN'; clear HB; have HB := HB'; clear HB'; clear L1; have L1 := L1'; clear L1'; (try clear x0 x1 x2 x3 x4 x5 x6); obtain ⟨x0, x1, x2, x3, x4, x5, x6⟩ := box7 HX.out; clear hc hb) | (go_at_call 8; (with_reducible refine (CP1.out _ _ _ HE.out HB.out C1.out (Nat.le_refl _)).mono ?_); rintro en wp1 ⟨E1, e1, F1, f1, rfl, hr, hb⟩; have HX' := Lib.hid (blk_below HX.out hb); have HE' := Lib.hid (RowsE.below HE.out hb); have B8' := Lib.hid (blk_below B8.out hb); have RV' := Lib.hid (Rows4.below RV.out hb); have CN' := Lib.hid (Kd.C_below CN.out hb); have HB' := Lib.hid (below_step HB.out hb); have L1' := Lib.hid (Kd.C_below L1.out hb); have C1' := Lib.hid (Kd.C_below C1.out hb); clear HX; have HX := HX'; clear HX'; clear HE; have HE := HE'; clear HE'; clear B8; have B8 := B8'; clear B8'; clear RV; have RV := RV'; clear RV'; clear CN; have CN := CN'; clear CN'; clear HB; have HB := HB'; clear HB'; clear L1; have L1 := L1'; clear L1'; clear C1; have C1 := C1'; clear C1'; (try clear x0 x1 x2 x3 x4 x5 x6); obtain ⟨x0, x1, x2, x3, x4, x5, x6⟩ := box7 HX.out; have R1 := Lib.hid hr; clear hr; clear hb) | ((with_reducible refine gate_store (t := 27) (p := 13) rfl ?_); refine row_event (by rfl) (by rfl) (by rfl) (by rfl) (by rfl) (blk_new wp1 zeros) (by exact size27) (by rfl) (by first | rfl | simp [Value.oneCell']) ?_; intro wp1s hz ho hb0; have hb := hb0 (w0 := wp1) (Nat.le_refl _) (below_alloc (Below.refl _ _) _); have HX' := Lib.hid (blk_below HX.out hb); have HE' := Lib.hid (RowsE.below HE.out hb); have B8' := Lib.hid (blk_below B8.out hb); have RV' := Lib.hid (Rows4.below RV.out hb); have CN' := Lib.hid (Kd.C_below CN.out hb); have HB' := Lib.hid (below_step HB.out hb); have L1' := Lib.hid (Kd.C_below L1.out hb); have C1' := Lib.hid (Kd.C_below C1.out hb); have R1' := Lib.hid (Rows4.below R1.out hb); clear HX; have HX := HX'; clear HX'; clear HE; have HE := HE'; clear HE'; clear B8; have B8 := B8'; clear B8'; clear RV; have RV := RV'; clear RV'; clear CN; have CN := CN'; clear CN'; clear HB; have HB := HB'; clear HB'; clear L1; have L1 := L1'; clear L1'; clear C1; have C1 := C1'; clear C1'; clear R1; have R1 := R1'; clear R1'; (try clear x0 x1 x2 x3 x4 x5 x6); obtain ⟨x0, x1, x2, x3, x4, x5, x6⟩ := box7 HX.out; have B1 := Lib.hid hz; clear hz ho hb0 hb))
      clear L1 C1 CP1
      go_upto_region 15 with (first | ((with_reducible refine gate_dst (N := 75) rfl ?_); refine lit_row kA 57 1 ?hg (N := 75) ?hd (xs := ([varA names] : List Ag)) (inner := [.int .i64 1, .string ⟨#[119]⟩, .slice An names.length cn, .int .i64 0, .string ⟨#[]⟩]) rfl ?hr ?hp (by decide) ?_; (case hd => rfl); (case hg => rfl); (case hr => first | (go_simp; done) | (go_simp; rfl)); (case hp => exact reps_arg _ (varA names) CN.out HC.out); intro adL2 wlL2 hc hb; have L2 := Lib.hid hc; have HX' := Lib.hid (blk_below HX.out hb); have HE' := Lib.hid (RowsE.below HE.out hb); have B8' := Lib.hid (blk_below B8.out hb); have RV' := Lib.hid (Rows4.below RV.out hb); have CN' := Lib.hid (Kd.C_below CN.out hb); have HB' := Lib.hid (below_step HB.out hb); have R1' := Lib.hid (Rows4.below R1.out hb); have B1' := Lib.hid (blk_below B1.out hb); clear HX; have HX := HX'; clear HX'; clear HE; have HE := HE'; clear HE'; clear B8; have B8 := B8'; clear B8'; clear RV; have RV := RV'; clear RV'; clear CN; have CN := CN'; clear CN'; clear HB; have HB := HB'; clear HB'; clear R1; have R1 := R1'; clear R1'; clear B1; have B1 := B1'; clear B1'; (try clear x0 x1 x2 x3 x4 x5 x6); obtain ⟨x0, x1, x2, x3, x4, x5, x6⟩ := box7 HX.out; clear hc hb) | ((with_reducible refine gate_dst (N := 77) rfl ?_); refine lit_row kC 50 1 ?hg (N := 77) ?hd (xs := ([⟨⟨#[]⟩, [varA names]⟩] : List Cm)) (inner := [.string ⟨#[]⟩, .slice (some adL2) 1 1]) rfl ?hr ?hp (by decide) ?_; (case hd => rfl); (case hg => rfl); (case hr => first | (go_simp; done) | (go_simp; rfl)); (case hp => exact reps_cmd _ ⟨⟨#[]⟩, [varA names]⟩ L2.out (Nat.le_refl _)); intro adC2 wlC2 hc hb; have C2 := Lib.hid hc; have HX' := Lib.hid (blk_below HX.out hb); have HE' := Lib.hid (RowsE.below HE.out hb); have B8' := Lib.hid (blk_below B8.out hb); have RV' := Lib.hid (Rows4.below RV.out hb); have CN' := Lib.hid (Kd.C_below CN.out hb); have HB' := Lib.hid (below_step HB.out hb); have R1' := Lib.hid (Rows4.below R1.out hb); have B1' := Lib.hid (blk_below B1.out hb); have L2' := Lib.hid (Kd.C_below L2.out hb); clear HX; have HX := HX'; clear HX'; clear HE; have HE := HE'; clear HE'; clear B8; have B8 := B8'; clear B8'; clear RV; have RV := RV'; clear RV'; clear CN; have CN := CN'; clear CN'; clear HB; have HB := HB'; clear HB'; clear R1; have R1 := R1'; clear R1'; clear B1; have B1 := B1'; clear B1'; clear L2; have L2 := L2'; clear L2'; (try clear x0 x1 x2 x3 x4 x5 x6); obtain ⟨x0, x1, x2, x3, x4, x5, x6⟩ := box7 HX.out; clear hc hb) | (go_at_call 8; (with_reducible refine (CP2.out _ _ _ HE.out HB.out C2.out (Nat.le_refl _)).mono ?_); rintro en wp2 ⟨E2, e2, F2, f2, rfl, hr, hb⟩; have HX' := Lib.hid (blk_below HX.out hb); have HE' := Lib.hid (RowsE.below HE.out hb); have B8' := Lib.hid (blk_below B8.out hb); have RV' := Lib.hid (Rows4.below RV.out hb); have CN' := Lib.hid (Kd.C_below CN.out hb); have HB' := Lib.hid (below_step HB.out hb); have R1' := Lib.hid (Rows4.below R1.out hb); have B1' := Lib.hid (blk_below B1.out hb); have L2' := Lib.hid (Kd.C_below L2.out hb); have C2' := Lib.hid (Kd.C_below C2.out hb); clear HX; have HX := HX'; clear HX'; clear HE; have HE := HE'; clear HE'; clear B8; have B8 := B8'; clear B8'; clear RV; have RV := RV'; clear RV'; clear CN; have CN := CN'; clear CN'; clear HB; have HB := HB'; clear HB'; clear R1; have R1 := R1'; clear R1'; clear B1; have B1 := B1'; clear B1'; clear L2; have L2 := L2'; clear L2'; clear C2; have C2 := C2'; clear C2'; (try clear x0 x1 x2 x3 x4 x5 x6); obtain ⟨x0, x1, x2, x3, x4, x5, x6⟩ := box7 HX.out; have R2 := Lib.hid hr; clear hr; clear hb) | ((with_reducible refine gate_store (t := 27) (p := 15) rfl ?_); refine row_event (by rfl) (by rfl) (by rfl) (by rfl) (by rfl) (blk_new wp2 zeros) (by exact size27) (by rfl) (by first | rfl | simp [Value.oneCell']) ?_; intro wp2s hz ho hb0; have hb := hb0 (w0 := wp2) (Nat.le_refl _) (below_alloc (Below.refl _ _) _); have HX' := Lib.hid (blk_below HX.out hb); have HE' := Lib.hid (RowsE.below HE.out hb); have B8' := Lib.hid (blk_below B8.out hb); have RV' := Lib.hid (Rows4.below RV.out hb); have CN' := Lib.hid (Kd.C_below CN.out hb); have HB' := Lib.hid (below_step HB.out hb); have R1' := Lib.hid (Rows4.below R1.out hb); have B1' := Lib.hid (blk_below B1.out hb); have L2' := Lib.hid (Kd.C_below L2.out hb); have C2' := Lib.hid (Kd.C_below C2.out hb); have R2' := Lib.hid (Rows4.below R2.out hb); clear HX; have HX := HX'; clear HX'; clear HE; have HE := HE'; clear HE'; clear B8; have B8 := B8'; clear B8'; clear RV; have RV := RV'; clear RV'; clear CN; have CN := CN'; clear CN'; clear HB; have HB := HB'; clear HB'; clear R1; have R1 := R1'; clear R1'; clear B1; have B1 := B1'; clear B1'; clear L2; have L2 := L2'; clear L2'; clear C2; have C2 := C2'; clear C2'; clear R2; have R2 := R2'; clear R2'; (try clear x0 x1 x2 x3 x4 x5 x6); obtain ⟨x0, x1, x2, x3, x4, x5, x6⟩ := box7 HX.out; have B2 := Lib.hid hz; clear hz ho hb0 hb))
      clear L2 C2 CP2
      go_upto_region 16 with (first | ((with_reducible refine gate_dst (N := 82) rfl ?_); refine Kd.R_lit Kd.string (w0 := wp2s) wp2s.heap.size 9 ?hg (N := 82) ?hd (xs := ([] : List ByteArray)) (inner := []) (ok := fun _ => True) (okp := fun _ => False) ?hr ?hp (fun _ h => h.elim) trivial (Below.refl _ _) (Nat.le_refl _) (by simp) ?_; (case hd => rfl); (case hg => rfl); (case hr => first | (go_simp; done) | (go_simp; rfl)); (case hp => exact Reps.none _ _); intro v82 w82 hr5 hb5 hg5 ha5; have HO := Lib.hid hr5; have HN := Lib.hid hb5; clear hr5 hb5 hg5 ha5) | ((with_reducible refine gate_builtin (b := .append) (xs := #[.tmp 82, .tmp 83]) rfl ?_); at_builtin; refine Kd.R_append_rows Kd.string (Rr := Kd.string.K w82) (w0 := wp2s) wp2s.heap.size rfl (.tmp 82) (.tmp 83) 25 9 (.string ⟨#[]⟩) 16 rfl Tryz.underlying25 info9 rfl (by exact Nat.succ_pos 0) (by decide) v82 ([] : List ByteArray) names An names.length cn (fun _ => True) (fun _ => False) rfl rfl ?aO ?aR (fun _ _ h => h) (fun _ h => h.elim) (fun _ _ => trivial) ?aB ?aS ?aL ?_; (case aO => exact HO.out); (case aR => exact Kd.C_below CN.out HN.out); (case aB => exact HN.out); (case aS => exact below_size HN.out); (case aL => have := HLN.out; simp; omega); intro v84 w84 hr9 hb9 hg9 hat9; clear HO HN; have HO := Lib.hid hr9; have HN := Lib.hid hb9; clear hr9 hb9 hg9 hat9; skip) | ((with_reducible refine gate_dst (N := 85) rfl ?_); refine lit_row Kd.string 9 1 ?hg (N := 85) ?hd (xs := [sZ]) (inner := [.string sZ]) rfl ?hr ?hp (by decide) ?_; (case hd => rfl); (case hg => rfl); (case hr => first | (go_simp; done) | (go_simp; rfl)); (case hp => exact reps_str _ _); intro adZ wlZ hc hb; have LZ := Lib.hid hc; have HO' := Lib.hid (Kd.R_below HO.out hb); clear HO; have HO := HO'; clear HO'; have HN' := Lib.hid (below_step HN.out hb); clear HN; have HN := HN'; clear HN'; clear hc hb) | ((with_reducible refine gate_builtin (b := .append) (xs := #[.tmp 84, .tmp 85]) rfl ?_); at_builtin; refine Kd.R_append_rows Kd.string (Rr := Kd.string.K wlZ) (w0 := wp2s) wp2s.heap.size rfl (.tmp 84) (.tmp 85) 25 9 (.string ⟨#[]⟩) 16 rfl Tryz.underlying25 info9 rfl (by exact Nat.succ_pos 0) (by decide) v84 ([] ++ names) [sZ] (some adZ) 1 1 (fun _ => True) (fun _ => False) rfl rfl ?aO ?aR (fun _ _ h => h) (fun _ h => h.elim) (fun _ _ => trivial) ?aB ?aS ?aL ?_; (case aO => exact HO.out); (case aR => exact LZ.out); (case aB => exact HN.out); (case aS => exact below_size HN.out); (case aL => have := HLN.out; simp; omega); intro v86 w86 hr9 hb9 hg9 hat9; clear HO HN; have HO := Lib.hid hr9; have HN := Lib.hid hb9; clear hr9 hb9 hg9 hat9; obtain ⟨A7, c7, rfl⟩ := Kd.R_slice HO.out; have HC7 := Lib.hid (Kd.R_reads' HO.out); clear HO; have HX' := Lib.hid (blk_below HX.out HN.out); have HE' := Lib.hid (RowsE.below HE.out HN.out); have B8' := Lib.hid (blk_below B8.out HN.out); have RV' := Lib.hid (Rows4.below RV.out HN.out); have CN' := Lib.hid (Kd.C_below CN.out HN.out); have HB' := Lib.hid (below_step HB.out HN.out); have R1' := Lib.hid (Rows4.below R1.out HN.out); have B1' := Lib.hid (blk_below B1.out HN.out); have R2' := Lib.hid (Rows4.below R2.out HN.out); have B2' := Lib.hid (blk_below B2.out HN.out); clear HX; have HX := HX'; clear HX'; clear HE; have HE := HE'; clear HE'; clear B8; have B8 := B8'; clear B8'; clear RV; have RV := RV'; clear RV'; clear CN; have CN := CN'; clear CN'; clear HB; have HB := HB'; clear HB'; clear R1; have R1 := R1'; clear R1'; clear B1; have B1 := B1'; clear B1'; clear R2; have R2 := R2'; clear R2'; clear B2; have B2 := B2'; clear B2'; (try clear x0 x1 x2 x3 x4 x5 x6); obtain ⟨x0, x1, x2, x3, x4, x5, x6⟩ := box7 HX.out; clear HN))
      clear LZ CN
      have CN7 := Lib.hid (show Kd.C Kd.string w86 A7 (names ++ [sZ]).length (names ++ [sZ]) from HC7.out.2.2)
      have HC8 := Lib.hid (show (names ++ [sZ]).length ≤ c7 from HC7.out.2.1)
      clear HC7
      have hN7 : (([] ++ names) ++ [sZ] : List ByteArray) = names ++ [sZ] := rfl
      (try rw [hN7])
      clear hN7
      go_upto_region 17 with (first | ((with_reducible refine gate_dst (N := 90) rfl ?_); refine lit_row kA 57 1 ?hg (N := 90) ?hd (xs := ([dotA (names ++ [sZ])] : List Ag)) (inner := [.int .i64 0, .string ⟨#[]⟩, .slice A7 (names ++ [sZ]).length c7, .int .i64 0, .string ⟨#[]⟩]) rfl ?hr ?hp (by decide) ?_; (case hd => rfl); (case hg => rfl); (case hr => first | (go_simp; done) | (go_simp; rfl)); (case hp => exact reps_arg _ (dotA (names ++ [sZ])) CN7.out HC8.out); intro adL3 wlL3 hc hb; have L3 := Lib.hid hc; have HX' := Lib.hid (blk_below HX.out hb); have HE' := Lib.hid (RowsE.below HE.out hb); have B8' := Lib.hid (blk_below B8.out hb); have RV' := Lib.hid (Rows4.below RV.out hb); have HB' := Lib.hid (below_step HB.out hb); have R1' := Lib.hid (Rows4.below R1.out hb); have B1' := Lib.hid (blk_below B1.out hb); have R2' := Lib.hid (Rows4.below R2.out hb); have B2' := Lib.hid (blk_below B2.out hb); have CN7' := Lib.hid (Kd.C_below CN7.out hb); clear HX; have HX := HX'; clear HX'; clear HE; have HE := HE'; clear HE'; clear B8; have B8 := B8'; clear B8'; clear RV; have RV := RV'; clear RV'; clear HB; have HB := HB'; clear HB'; clear R1; have R1 := R1'; clear R1'; clear B1; have B1 := B1'; clear B1'; clear R2; have R2 := R2'; clear R2'; clear B2; have B2 := B2'; clear B2'; clear CN7; have CN7 := CN7'; clear CN7'; (try clear x0 x1 x2 x3 x4 x5 x6); obtain ⟨x0, x1, x2, x3, x4, x5, x6⟩ := box7 HX.out; clear hc hb) | ((with_reducible refine gate_dst (N := 92) rfl ?_); refine lit_row kC 50 1 ?hg (N := 92) ?hd (xs := ([⟨⟨#[]⟩, [dotA (names ++ [sZ])]⟩] : List Cm)) (inner := [.string ⟨#[]⟩, .slice (some adL3) 1 1]) rfl ?hr ?hp (by decide) ?_; (case hd => rfl); (case hg => rfl); (case hr => first | (go_simp; done) | (go_simp; rfl)); (case hp => exact reps_cmd _ ⟨⟨#[]⟩, [dotA (names ++ [sZ])]⟩ L3.out (Nat.le_refl _)); intro adC3 wlC3 hc hb; have C3 := Lib.hid hc; have HX' := Lib.hid (blk_below HX.out hb); have HE' := Lib.hid (RowsE.below HE.out hb); have B8' := Lib.hid (blk_below B8.out hb); have RV' := Lib.hid (Rows4.below RV.out hb); have HB' := Lib.hid (below_step HB.out hb); have R1' := Lib.hid (Rows4.below R1.out hb); have B1' := Lib.hid (blk_below B1.out hb); have R2' := Lib.hid (Rows4.below R2.out hb); have B2' := Lib.hid (blk_below B2.out hb); have CN7' := Lib.hid (Kd.C_below CN7.out hb); have L3' := Lib.hid (Kd.C_below L3.out hb); clear HX; have HX := HX'; clear HX'; clear HE; have HE := HE'; clear HE'; clear B8; have B8 := B8'; clear B8'; clear RV; have RV := RV'; clear RV'; clear HB; have HB := HB'; clear HB'; clear R1; have R1 := R1'; clear R1'; clear B1; have B1 := B1'; clear B1'; clear R2; have R2 := R2'; clear R2'; clear B2; have B2 := B2'; clear B2'; clear CN7; have CN7 := CN7'; clear CN7'; clear L3; have L3 := L3'; clear L3'; (try clear x0 x1 x2 x3 x4 x5 x6); obtain ⟨x0, x1, x2, x3, x4, x5, x6⟩ := box7 HX.out; clear hc hb) | (go_at_call 8; (with_reducible refine (CP3.out _ _ _ HE.out HB.out C3.out (Nat.le_refl _)).mono ?_); rintro en wp3 ⟨E3, e3, F3, f3, rfl, hr, hb⟩; have HX' := Lib.hid (blk_below HX.out hb); have HE' := Lib.hid (RowsE.below HE.out hb); have B8' := Lib.hid (blk_below B8.out hb); have RV' := Lib.hid (Rows4.below RV.out hb); have HB' := Lib.hid (below_step HB.out hb); have R1' := Lib.hid (Rows4.below R1.out hb); have B1' := Lib.hid (blk_below B1.out hb); have R2' := Lib.hid (Rows4.below R2.out hb); have B2' := Lib.hid (blk_below B2.out hb); have CN7' := Lib.hid (Kd.C_below CN7.out hb); have L3' := Lib.hid (Kd.C_below L3.out hb); have C3' := Lib.hid (Kd.C_below C3.out hb); clear HX; have HX := HX'; clear HX'; clear HE; have HE := HE'; clear HE'; clear B8; have B8 := B8'; clear B8'; clear RV; have RV := RV'; clear RV'; clear HB; have HB := HB'; clear HB'; clear R1; have R1 := R1'; clear R1'; clear B1; have B1 := B1'; clear B1'; clear R2; have R2 := R2'; clear R2'; clear B2; have B2 := B2'; clear B2'; clear CN7; have CN7 := CN7'; clear CN7'; clear L3; have L3 := L3'; clear L3'; clear C3; have C3 := C3'; clear C3'; (try clear x0 x1 x2 x3 x4 x5 x6); obtain ⟨x0, x1, x2, x3, x4, x5, x6⟩ := box7 HX.out; have R3 := Lib.hid hr; clear hr; clear hb) | ((with_reducible refine gate_store (t := 27) (p := 18) rfl ?_); refine row_event (by rfl) (by rfl) (by rfl) (by rfl) (by rfl) (blk_new wp3 zeros) (by exact size27) (by rfl) (by first | rfl | simp [Value.oneCell']) ?_; intro wp3s hz ho hb0; have hb := hb0 (w0 := wp3) (Nat.le_refl _) (below_alloc (Below.refl _ _) _); have HX' := Lib.hid (blk_below HX.out hb); have HE' := Lib.hid (RowsE.below HE.out hb); have B8' := Lib.hid (blk_below B8.out hb); have RV' := Lib.hid (Rows4.below RV.out hb); have HB' := Lib.hid (below_step HB.out hb); have R1' := Lib.hid (Rows4.below R1.out hb); have B1' := Lib.hid (blk_below B1.out hb); have R2' := Lib.hid (Rows4.below R2.out hb); have B2' := Lib.hid (blk_below B2.out hb); have CN7' := Lib.hid (Kd.C_below CN7.out hb); have L3' := Lib.hid (Kd.C_below L3.out hb); have C3' := Lib.hid (Kd.C_below C3.out hb); have R3' := Lib.hid (Rows4.below R3.out hb); clear HX; have HX := HX'; clear HX'; clear HE; have HE := HE'; clear HE'; clear B8; have B8 := B8'; clear B8'; clear RV; have RV := RV'; clear RV'; clear HB; have HB := HB'; clear HB'; clear R1; have R1 := R1'; clear R1'; clear B1; have B1 := B1'; clear B1'; clear R2; have R2 := R2'; clear R2'; clear B2; have B2 := B2'; clear B2'; clear CN7; have CN7 := CN7'; clear CN7'; clear L3; have L3 := L3'; clear L3'; clear C3; have C3 := C3'; clear C3'; clear R3; have R3 := R3'; clear R3'; (try clear x0 x1 x2 x3 x4 x5 x6); obtain ⟨x0, x1, x2, x3, x4, x5, x6⟩ := box7 HX.out; have B3 := Lib.hid hz; clear hz ho hb0 hb))
      clear L3 C3 CP3 CN7 B3 R3
      go_upto_region 18 with (first | ((with_reducible refine gate_dst (N := 98) rfl ?_); refine lit_row Kd.string 9 1 ?hg (N := 98) ?hd (xs := ([sZZ] : List ByteArray)) (inner := [.string sZZ]) rfl ?hr ?hp (by decide) ?_; (case hd => rfl); (case hg => rfl); (case hr => first | (go_simp; done) | (go_simp; rfl)); (case hp => exact reps_str _ _); intro adKZ wlKZ hc hb; have KZ := Lib.hid hc; have HX' := Lib.hid (blk_below HX.out hb); have HE' := Lib.hid (RowsE.below HE.out hb); have B8' := Lib.hid (blk_below B8.out hb); have RV' := Lib.hid (Rows4.below RV.out hb); have HB' := Lib.hid (below_step HB.out hb); have R1' := Lib.hid (Rows4.below R1.out hb); have B1' := Lib.hid (blk_below B1.out hb); have R2' := Lib.hid (Rows4.below R2.out hb); have B2' := Lib.hid (blk_below B2.out hb); clear HX; have HX := HX'; clear HX'; clear HE; have HE := HE'; clear HE'; clear B8; have B8 := B8'; clear B8'; clear RV; have RV := RV'; clear RV'; clear HB; have HB := HB'; clear HB'; clear R1; have R1 := R1'; clear R1'; clear B1; have B1 := B1'; clear B1'; clear R2; have R2 := R2'; clear R2'; clear B2; have B2 := B2'; clear B2'; (try clear x0 x1 x2 x3 x4 x5 x6); obtain ⟨x0, x1, x2, x3, x4, x5, x6⟩ := box7 HX.out; clear hc hb) | ((with_reducible refine gate_dst (N := 100) rfl ?_); refine lit_row kA 57 1 ?hg (N := 100) ?hd (xs := ([dotA [sZZ]] : List Ag)) (inner := [.int .i64 0, .string ⟨#[]⟩, .slice (some adKZ) 1 1, .int .i64 0, .string ⟨#[]⟩]) rfl ?hr ?hp (by decide) ?_; (case hd => rfl); (case hg => rfl); (case hr => first | (go_simp; done) | (go_simp; rfl)); (case hp => exact reps_arg _ (dotA [sZZ]) KZ.out (Nat.le_refl _)); intro adL4 wlL4 hc hb; have L4 := Lib.hid hc; have HX' := Lib.hid (blk_below HX.out hb); have HE' := Lib.hid (RowsE.below HE.out hb); have B8' := Lib.hid (blk_below B8.out hb); have RV' := Lib.hid (Rows4.below RV.out hb); have HB' := Lib.hid (below_step HB.out hb); have R1' := Lib.hid (Rows4.below R1.out hb); have B1' := Lib.hid (blk_below B1.out hb); have R2' := Lib.hid (Rows4.below R2.out hb); have B2' := Lib.hid (blk_below B2.out hb); have KZ' := Lib.hid (Kd.C_below KZ.out hb); clear HX; have HX := HX'; clear HX'; clear HE; have HE := HE'; clear HE'; clear B8; have B8 := B8'; clear B8'; clear RV; have RV := RV'; clear RV'; clear HB; have HB := HB'; clear HB'; clear R1; have R1 := R1'; clear R1'; clear B1; have B1 := B1'; clear B1'; clear R2; have R2 := R2'; clear R2'; clear B2; have B2 := B2'; clear B2'; clear KZ; have KZ := KZ'; clear KZ'; (try clear x0 x1 x2 x3 x4 x5 x6); obtain ⟨x0, x1, x2, x3, x4, x5, x6⟩ := box7 HX.out; clear hc hb) | ((with_reducible refine gate_dst (N := 102) rfl ?_); refine lit_row kC 50 1 ?hg (N := 102) ?hd (xs := ([⟨⟨#[]⟩, [dotA [sZZ]]⟩] : List Cm)) (inner := [.string ⟨#[]⟩, .slice (some adL4) 1 1]) rfl ?hr ?hp (by decide) ?_; (case hd => rfl); (case hg => rfl); (case hr => first | (go_simp; done) | (go_simp; rfl)); (case hp => exact reps_cmd _ ⟨⟨#[]⟩, [dotA [sZZ]]⟩ L4.out (Nat.le_refl _)); intro adC4 wlC4 hc hb; have C4 := Lib.hid hc; have HX' := Lib.hid (blk_below HX.out hb); have HE' := Lib.hid (RowsE.below HE.out hb); have B8' := Lib.hid (blk_below B8.out hb); have RV' := Lib.hid (Rows4.below RV.out hb); have HB' := Lib.hid (below_step HB.out hb); have R1' := Lib.hid (Rows4.below R1.out hb); have B1' := Lib.hid (blk_below B1.out hb); have R2' := Lib.hid (Rows4.below R2.out hb); have B2' := Lib.hid (blk_below B2.out hb); have KZ' := Lib.hid (Kd.C_below KZ.out hb); have L4' := Lib.hid (Kd.C_below L4.out hb); clear HX; have HX := HX'; clear HX'; clear HE; have HE := HE'; clear HE'; clear B8; have B8 := B8'; clear B8'; clear RV; have RV := RV'; clear RV'; clear HB; have HB := HB'; clear HB'; clear R1; have R1 := R1'; clear R1'; clear B1; have B1 := B1'; clear B1'; clear R2; have R2 := R2'; clear R2'; clear B2; have B2 := B2'; clear B2'; clear KZ; have KZ := KZ'; clear KZ'; clear L4; have L4 := L4'; clear L4'; (try clear x0 x1 x2 x3 x4 x5 x6); obtain ⟨x0, x1, x2, x3, x4, x5, x6⟩ := box7 HX.out; clear hc hb) | (go_at_call 8; (with_reducible refine (CP4.out _ _ _ HE.out HB.out C4.out (Nat.le_refl _)).mono ?_); rintro en wp4 ⟨E4, e4, F4, f4, rfl, hr, hb⟩; have HX' := Lib.hid (blk_below HX.out hb); have HE' := Lib.hid (RowsE.below HE.out hb); have B8' := Lib.hid (blk_below B8.out hb); have RV' := Lib.hid (Rows4.below RV.out hb); have HB' := Lib.hid (below_step HB.out hb); have R1' := Lib.hid (Rows4.below R1.out hb); have B1' := Lib.hid (blk_below B1.out hb); have R2' := Lib.hid (Rows4.below R2.out hb); have B2' := Lib.hid (blk_below B2.out hb); have KZ' := Lib.hid (Kd.C_below KZ.out hb); have L4' := Lib.hid (Kd.C_below L4.out hb); have C4' := Lib.hid (Kd.C_below C4.out hb); clear HX; have HX := HX'; clear HX'; clear HE; have HE := HE'; clear HE'; clear B8; have B8 := B8'; clear B8'; clear RV; have RV := RV'; clear RV'; clear HB; have HB := HB'; clear HB'; clear R1; have R1 := R1'; clear R1'; clear B1; have B1 := B1'; clear B1'; clear R2; have R2 := R2'; clear R2'; clear B2; have B2 := B2'; clear B2'; clear KZ; have KZ := KZ'; clear KZ'; clear L4; have L4 := L4'; clear L4'; clear C4; have C4 := C4'; clear C4'; (try clear x0 x1 x2 x3 x4 x5 x6); obtain ⟨x0, x1, x2, x3, x4, x5, x6⟩ := box7 HX.out; have R4 := Lib.hid hr; clear hr; clear hb) | ((with_reducible refine gate_store (t := 27) (p := 20) rfl ?_); refine row_event (by rfl) (by rfl) (by rfl) (by rfl) (by rfl) (blk_new wp4 zeros) (by exact size27) (by rfl) (by first | rfl | simp [Value.oneCell']) ?_; intro wp4s hz ho hb0; have hb := hb0 (w0 := wp4) (Nat.le_refl _) (below_alloc (Below.refl _ _) _); have HX' := Lib.hid (blk_below HX.out hb); have HE' := Lib.hid (RowsE.below HE.out hb); have B8' := Lib.hid (blk_below B8.out hb); have RV' := Lib.hid (Rows4.below RV.out hb); have HB' := Lib.hid (below_step HB.out hb); have R1' := Lib.hid (Rows4.below R1.out hb); have B1' := Lib.hid (blk_below B1.out hb); have R2' := Lib.hid (Rows4.below R2.out hb); have B2' := Lib.hid (blk_below B2.out hb); have KZ' := Lib.hid (Kd.C_below KZ.out hb); have L4' := Lib.hid (Kd.C_below L4.out hb); have C4' := Lib.hid (Kd.C_below C4.out hb); have R4' := Lib.hid (Rows4.below R4.out hb); clear HX; have HX := HX'; clear HX'; clear HE; have HE := HE'; clear HE'; clear B8; have B8 := B8'; clear B8'; clear RV; have RV := RV'; clear RV'; clear HB; have HB := HB'; clear HB'; clear R1; have R1 := R1'; clear R1'; clear B1; have B1 := B1'; clear B1'; clear R2; have R2 := R2'; clear R2'; clear B2; have B2 := B2'; clear B2'; clear KZ; have KZ := KZ'; clear KZ'; clear L4; have L4 := L4'; clear L4'; clear C4; have C4 := C4'; clear C4'; clear R4; have R4 := R4'; clear R4'; (try clear x0 x1 x2 x3 x4 x5 x6); obtain ⟨x0, x1, x2, x3, x4, x5, x6⟩ := box7 HX.out; have B4 := Lib.hid hz; clear hz ho hb0 hb))
      clear L4 C4 CP4 KZ B4 R4 HX HE x0 x1 x2 x3 x4 x5 x6
      generalize hg13 : wp1.heap.size = g13 at *
      generalize hg15 : wp2.heap.size = g15 at *
      clear hg13 hg15
      have hbd := below_drew (Below.refl wp4s.heap.size wp4s)
      have B1D := Lib.hid (blk_below B1.out hbd); have B2D := Lib.hid (blk_below B2.out hbd); have B8D := Lib.hid (blk_below B8.out hbd); have R1D := Lib.hid (R1.out.below hbd); have R2D := Lib.hid (R2.out.below hbd); have RVD := Lib.hid (RV.out.below hbd); have HBD := Lib.hid (below_step HB.out hbd)
      clear hbd B1 B2 B8 R1 R2 RV HB
      have SV1 := Lib.hid (fun W (hb : Below wp4s.drew.heap.size wp4s.drew W) => sv_same (numV m) E1 e1 F1 f1 none 0 none 0 W (R1D.out.below hb) (rows_nil W (numV m) rfl rfl))
      have SV2 := Lib.hid (fun W (hb : Below wp4s.drew.heap.size wp4s.drew W) => sv_same (numV m) E2 e2 F2 f2 E1 e1 F1 f1 W (R2D.out.below hb) (R1D.out.below hb))
      have MVC := Lib.hid (fun W (hb : Below wp4s.drew.heap.size wp4s.drew W) => (by have q := RefMay_calls v E e F f W (RVD.out.below hb); rw [HMV.out] at q; exact q : Calls Tryz.prog 21 #[arg v E e F f] W fun e w' => e = .returned (.bool true) ∧ Below W.heap.size W w'))
      have KEEP : ∀ w', Below wp4s.drew.heap.size wp4s.drew w' → (Below wp4s.drew.heap.size wp4s.drew w' ∧ w'.cell? ⟨g13, 0, none⟩ = some (.int .i64 (numV m).f0) ∧ w'.cell? ⟨g13, 1, none⟩ = some (.int .i64 (numV m).f1) ∧ w'.cell? ⟨g13, 2, none⟩ = some (.int .u64 (numV m).f2) ∧ w'.cell? ⟨g13, 3, none⟩ = some (.string (numV m).f3) ∧ w'.cell? ⟨g13, 4, none⟩ = some (.slice E1 (numV m).f4.length e1) ∧ w'.cell? ⟨g13, 5, none⟩ = some (.slice F1 (numV m).f5.length f1) ∧ w'.cell? ⟨g15, 0, none⟩ = some (.int .i64 (numV m).f0) ∧ w'.cell? ⟨g15, 1, none⟩ = some (.int .i64 (numV m).f1) ∧ w'.cell? ⟨g15, 2, none⟩ = some (.int .u64 (numV m).f2) ∧ w'.cell? ⟨g15, 3, none⟩ = some (.string (numV m).f3) ∧ w'.cell? ⟨g15, 4, none⟩ = some (.slice E2 (numV m).f4.length e2) ∧ w'.cell? ⟨g15, 5, none⟩ = some (.slice F2 (numV m).f5.length f2) ∧ w'.cell? ⟨g8, 0, none⟩ = some (.int .i64 v.f0) ∧ w'.cell? ⟨g8, 1, none⟩ = some (.int .i64 v.f1) ∧ w'.cell? ⟨g8, 2, none⟩ = some (.int .u64 v.f2) ∧ w'.cell? ⟨g8, 3, none⟩ = some (.string v.f3) ∧ w'.cell? ⟨g8, 4, none⟩ = some (.slice E v.f4.length e) ∧ w'.cell? ⟨g8, 5, none⟩ = some (.slice F v.f5.length f)) := fun w' h => ⟨h, (At.of_box (blk_below B1D.out h)).g0, (At.of_box (blk_below B1D.out h)).g1, (At.of_box (blk_below B1D.out h)).g2, (At.of_box (blk_below B1D.out h)).g3, (At.of_box (blk_below B1D.out h)).g4, (At.of_box (blk_below B1D.out h)).g5, (At.of_box (blk_below B2D.out h)).g0, (At.of_box (blk_below B2D.out h)).g1, (At.of_box (blk_below B2D.out h)).g2, (At.of_box (blk_below B2D.out h)).g3, (At.of_box (blk_below B2D.out h)).g4, (At.of_box (blk_below B2D.out h)).g5, (At.of_box (blk_below B8D.out h)).g0, (At.of_box (blk_below B8D.out h)).g1, (At.of_box (blk_below B8D.out h)).g2, (At.of_box (blk_below B8D.out h)).g3, (At.of_box (blk_below B8D.out h)).g4, (At.of_box (blk_below B8D.out h)).g5⟩
      go_region_held3 (fun w' => Below wp4s.drew.heap.size wp4s.drew w' ∧ w'.cell? ⟨g13, 0, none⟩ = some (.int .i64 (numV m).f0) ∧ w'.cell? ⟨g13, 1, none⟩ = some (.int .i64 (numV m).f1) ∧ w'.cell? ⟨g13, 2, none⟩ = some (.int .u64 (numV m).f2) ∧ w'.cell? ⟨g13, 3, none⟩ = some (.string (numV m).f3) ∧ w'.cell? ⟨g13, 4, none⟩ = some (.slice E1 (numV m).f4.length e1) ∧ w'.cell? ⟨g13, 5, none⟩ = some (.slice F1 (numV m).f5.length f1) ∧ w'.cell? ⟨g15, 0, none⟩ = some (.int .i64 (numV m).f0) ∧ w'.cell? ⟨g15, 1, none⟩ = some (.int .i64 (numV m).f1) ∧ w'.cell? ⟨g15, 2, none⟩ = some (.int .u64 (numV m).f2) ∧ w'.cell? ⟨g15, 3, none⟩ = some (.string (numV m).f3) ∧ w'.cell? ⟨g15, 4, none⟩ = some (.slice E2 (numV m).f4.length e2) ∧ w'.cell? ⟨g15, 5, none⟩ = some (.slice F2 (numV m).f5.length f2) ∧ w'.cell? ⟨g8, 0, none⟩ = some (.int .i64 v.f0) ∧ w'.cell? ⟨g8, 1, none⟩ = some (.int .i64 v.f1) ∧ w'.cell? ⟨g8, 2, none⟩ = some (.int .u64 v.f2) ∧ w'.cell? ⟨g8, 3, none⟩ = some (.string v.f3) ∧ w'.cell? ⟨g8, 4, none⟩ = some (.slice E v.f4.length e) ∧ w'.cell? ⟨g8, 5, none⟩ = some (.slice F v.f5.length f)) (first | exact KEEP _ (Below.refl _ _) | exact KEEP _ (below_step (by first | assumption | exact And.left (by assumption) | exact Below.refl _ _) hb) | assumption) (first | (go_at_call 11; (with_reducible refine (numB 0 _).mono ?_); rintro en wn ⟨rfl, hb⟩) | (go_at_call 11; (with_reducible refine (numB 402 _).mono ?_); rintro en wn ⟨rfl, hb⟩) | (go_at_call 11; (with_reducible refine (numB 401 _).mono ?_); rintro en wn ⟨rfl, hb⟩) | (go_at_call 18; (with_reducible refine (CNM.out _).mono ?_); rintro en wn ⟨rfl, hb⟩) | (go_at_call 10; (with_reducible refine (SV1.out _ (by first | assumption | exact And.left (by assumption) | exact Below.refl _ _)).mono ?_); rintro en wn ⟨rfl, hb⟩) | (go_at_call 10; (with_reducible refine (SV2.out _ (by first | assumption | exact And.left (by assumption) | exact Below.refl _ _)).mono ?_); rintro en wn ⟨rfl, hb⟩) | (go_at_call 21; (with_reducible refine (MVC.out _ (by first | assumption | exact And.left (by assumption) | exact Below.refl _ _)).mono ?_); rintro en wn ⟨rfl, hb⟩))
      all_goals
        (try go_wp2)
        go_ret
        exact ⟨by simp, below_step HBD.out (by first | assumption | exact And.left (by assumption) | exact Below.refl _ _)⟩
    | succ k2 =>
      have hlt : decide ((names.length : Int) < (K : Int)) = true := decide_eq_true (by omega)
      have HLT := Lib.hid (show names.length < K by omega)
      have hk4 := HK.out.2
      have hln : names.length < 4 := by omega
      have w4 : wrap64 (4 * (names.length : Int)) = 4 * (names.length : Int) := Values.wrap_small _ (by omega) (by omega)
      have wi : wrap64 ((names.length : Int) + 1) = (names.length : Int) + 1 := Values.wrap_small _ (by omega) (by omega)
      have w4' : IntKind.i64.wrap (4 * (names.length : Int)) = 4 * (names.length : Int) := by rw [i64_w]; exact w4
      have wi' : IntKind.i64.wrap ((names.length : Int) + 1) = (names.length : Int) + 1 := by rw [i64_w]; exact wi
      have HWI := Lib.hid wi
      have HWI' := Lib.hid wi'
      clear wi wi' hk4
      go_upto_region 10 with (first | (go_at_call 19; (with_reducible refine (dec_and _ _).mono ?_); rintro en wd ⟨d, hd, rfl, hb⟩; have HB' := Lib.hid (below_step HB.out hb); have B8' := Lib.hid (blk_below B8.out hb); have FO' := Lib.hid (Fo.step FO.out (Ext.of_below hb)); clear HB; have HB := HB'; clear HB'; clear B8; have B8 := B8'; clear B8'; clear FO; have FO := FO'; clear FO'; have hsz : (9223372036854775807 < 1 + (decS d).size) = False := eq_false (by have := dec_size d hd; omega); have HD16 := Lib.hid hd; clear hd; clear hb))
      obtain ⟨name, hname⟩ : ∃ n, kN d = n := ⟨_, rfl⟩
      rw [show ((⟨#[107]⟩ : ByteArray) ++ decS d) = name from hname]
      have HNN := Lib.hid (show Nm name from ⟨d, HD16.out, hname.symm⟩)
      clear hname HD16 hsz
      go_cut [] (fun wc => ∃ (E2 : Option Addr) (e2 : Nat) (F2 : Option Addr) (f2 : Nat), Aside0 (wc.heap[g8]? = some (.cells #[.int .i64 (nestP m (name :: names)).f0, .int .i64 (nestP m (name :: names)).f1, .int .u64 (nestP m (name :: names)).f2, .string (nestP m (name :: names)).f3, .slice E2 (nestP m (name :: names)).f4.length e2, .slice F2 (nestP m (name :: names)).f5.length f2] 27 (0, 0))) ∧ Aside0 (Fo g8 wc (fun W1 => Rows4 W1 (nestP m (name :: names)) E2 e2 F2 f2 ∧ Kd.C Kd.string W1 An names.length names)) ∧ Aside0 (Below w.heap.size w wc))
      case first =>
        have hbd := below_drew (Below.refl wd.heap.size wd)
        have HB' := Lib.hid (below_step HB.out hbd); have B8' := Lib.hid (blk_below B8.out hbd); have FO' := Lib.hid (Fo.step FO.out (Ext.of_below hbd)); clear HB; have HB := HB'; clear HB'; clear B8; have B8 := B8'; clear B8'; clear FO; have FO := FO'; clear FO'
        clear hbd
        generalize hWD : wd.drew = wx at *
        have HG := Lib.hid (blk_lt B8.out)
        refine wp_region_held_drew (S := (fun _ => True)) (by kernel_rfl) ?_ (fun hHeld => ?_)
        · trivial
        rw [hWD]
        clear hWD
        have HN := Lib.hid (Below.refl wx.heap.size wx)
        refine wpAnyH_take (i := 0) (oi := ⟨some 43, _, _, _, _, _⟩) (v := ?_) rfl (by as_aux_lemma => kernel_rfl) (by as_aux_lemma => kernel_rfl) (by as_aux_lemma => kernel_rfl) (fun _ _ _ h => h) ?_ (by assumption) ?_; rotate_left; (focus (refine Or.inl ⟨rfl, ?_⟩; intro w hSw; (try dsimp only at hSw); go_simp; (try with_reducible rfl); done)); (try simp only [Act.put, List.setIfInBounds_toArray, List.set_cons_zero, List.set_cons_succ])
        refine wpAnyH_ready (rs := [1, 2, 3]) (by kernel_rfl) (by simp) ?_
        refine AllReadyH.cons (o := ⟨some 44, _, _, _, _, _⟩) rfl (fun K hK => ?_) (AllReadyH.cons (o := ⟨some 45, _, _, _, _, _⟩) rfl (fun K hK => ?_) (AllReadyH.cons (o := ⟨some 46, _, _, _, _, _⟩) rfl (fun K hK => ?_) AllReadyH.nil))
        · go_simp
          have hb := below_alloc (Below.refl wx.heap.size wx) (.cells #[.string ⟨#[97]⟩, .string name] 9)
          refine hK.out _ _ trivial (fun hHeld2 => ?_)
          have LK0 := Lib.hid (blk_new wx (.cells #[.string ⟨#[97]⟩, .string name] 9))
          have GELK := Lib.hid (below_size HN.out)
          have BALK := Lib.hid hb
          have B8' := Lib.hid (blk_below B8.out hb)
          have HN' := Lib.hid (below_step HN.out hb)
          clear B8 HN; have HN := HN'; clear HN'; have B8 := B8'; clear B8'
          clear hb; clear hK K hHeld; have hHeld := hHeld2; clear hHeld2; (try simp only [Act.put, List.setIfInBounds_toArray, List.set_cons_zero, List.set_cons_succ])
          generalize hwk : wx.alloc (.cells #[.string ⟨#[97]⟩, .string name] 9) = wq1 at *; clear hwk
          have LK := LK0; clear LK0
          refine wpAnyH_ready (rs := [2, 3]) (by kernel_rfl) (by simp) ?_
          refine AllReadyH.cons (o := ⟨some 45, _, _, _, _, _⟩) rfl (fun K hK => ?_) (AllReadyH.cons (o := ⟨some 46, _, _, _, _, _⟩) rfl (fun K hK => ?_) AllReadyH.nil)
          · go_simp
            go_at_call 20
            (with_reducible refine (text_calls ⟨#[110, 111]⟩ _).mono ?_)
            rintro en wq2 ⟨rfl, hb⟩
            refine hK.out _ _ trivial (fun hHeld2 => ?_)
            have B8' := Lib.hid (blk_below B8.out hb)
            have LK' := Lib.hid (blk_below LK.out hb)
            have HN' := Lib.hid (below_step HN.out hb)
            clear B8 LK HN; have HN := HN'; clear HN'; have B8 := B8'; clear B8'; have LK := LK'; clear LK'
            clear hb; clear hK K hHeld; have hHeld := hHeld2; clear hHeld2; (try simp only [Act.put, List.setIfInBounds_toArray, List.set_cons_zero, List.set_cons_succ])
            refine wpAnyH_ready (rs := [3]) (by kernel_rfl) (by simp) ?_
            refine AllReadyH.cons (o := ⟨some 46, _, _, _, _, _⟩) rfl (fun K hK => ?_) AllReadyH.nil
            obtain ⟨z0, z1, z2, z3, z4, z5⟩ := box6 B8.out
            go_simp
            refine hK.out _ _ trivial (fun hHeld2 => ?_)
            clear z0 z1 z2 z3 z4 z5
            clear hK K hHeld; have hHeld := hHeld2; clear hHeld2; (try simp only [Act.put, List.setIfInBounds_toArray, List.set_cons_zero, List.set_cons_succ])
            refine wpAnyH_ready (rs := [4]) (by kernel_rfl) (by simp) ?_
            refine AllReadyH.cons (o := ⟨some 47, _, _, _, _, _⟩) rfl (fun K hK => ?_) AllReadyH.nil
            go_simp
            have hb := below_alloc (Below.refl wq2.heap.size wq2) (.cells #[.int .i64 (noV).f0, .int .i64 (noV).f1, .int .u64 (noV).f2, .string (noV).f3, .slice none (noV).f4.length 0, .slice none (noV).f5.length 0, .int .i64 (nestP m names).f0, .int .i64 (nestP m names).f1, .int .u64 (nestP m names).f2, .string (nestP m names).f3, .slice E (nestP m names).f4.length e, .slice F (nestP m names).f5.length f] 27)
            refine hK.out _ _ trivial (fun hHeld2 => ?_)
            have LI0 := Lib.hid (blk_new wq2 (.cells #[.int .i64 (noV).f0, .int .i64 (noV).f1, .int .u64 (noV).f2, .string (noV).f3, .slice none (noV).f4.length 0, .slice none (noV).f5.length 0, .int .i64 (nestP m names).f0, .int .i64 (nestP m names).f1, .int .u64 (nestP m names).f2, .string (nestP m names).f3, .slice E (nestP m names).f4.length e, .slice F (nestP m names).f5.length f] 27))
            have GELI := Lib.hid (below_size HN.out)
            have BALI := Lib.hid hb
            have B8' := Lib.hid (blk_below B8.out hb)
            have LK' := Lib.hid (blk_below LK.out hb)
            have HN' := Lib.hid (below_step HN.out hb)
            clear B8 LK HN; have HN := HN'; clear HN'; have B8 := B8'; clear B8'; have LK := LK'; clear LK'
            clear hb; clear hK K hHeld; have hHeld := hHeld2; clear hHeld2; (try simp only [Act.put, List.setIfInBounds_toArray, List.set_cons_zero, List.set_cons_succ])
            (try clear HGK); generalize hgk : wq2.heap.size = gq4 at *; have HGK := Lib.hid hgk; clear hgk
            generalize hwk : wq2.alloc (.cells #[.int .i64 (noV).f0, .int .i64 (noV).f1, .int .u64 (noV).f2, .string (noV).f3, .slice none (noV).f4.length 0, .slice none (noV).f5.length 0, .int .i64 (nestP m names).f0, .int .i64 (nestP m names).f1, .int .u64 (nestP m names).f2, .string (nestP m names).f3, .slice E (nestP m names).f4.length e, .slice F (nestP m names).f5.length f] 27) = wq4 at *; clear hwk
            have LI := LI0; clear LI0
            refine wpAnyH_take (i := 5) (oi := ⟨some 48, _, _, _, _, _⟩) (v := ?_) rfl (by as_aux_lemma => kernel_rfl) (by as_aux_lemma => kernel_rfl) (by as_aux_lemma => kernel_rfl) (fun _ _ _ h => h) ?_ (by assumption) ?_; rotate_left; (focus (refine Or.inl ⟨rfl, ?_⟩; intro w hSw; (try dsimp only at hSw); go_simp; (try with_reducible rfl); done)); (try simp only [Act.put, List.setIfInBounds_toArray, List.set_cons_zero, List.set_cons_succ])
            refine wpAnyH_ready (rs := [6]) (by kernel_rfl) (by simp) ?_
            refine AllReadyH.cons (o := ⟨none, _, _, _, _, _⟩) rfl (fun K hK => ?_) AllReadyH.nil
            have nz0 := (blk_cell B8.out 0).trans rfl; have fz0 := blk_frozen B8.out 0; have nz1 := (blk_cell B8.out 1).trans rfl; have fz1 := blk_frozen B8.out 1; have nz2 := (blk_cell B8.out 2).trans rfl; have fz2 := blk_frozen B8.out 2; have nz3 := (blk_cell B8.out 3).trans rfl; have fz3 := blk_frozen B8.out 3; have nz4 := (blk_cell B8.out 4).trans rfl; have fz4 := blk_frozen B8.out 4; have nz5 := (blk_cell B8.out 5).trans rfl; have fz5 := blk_frozen B8.out 5
            go_simp
            refine hK.out _ _ trivial (fun hHeld2 => ?_)
            clear nz0 fz0 nz1 fz1 nz2 fz2 nz3 fz3 nz4 fz4 nz5 fz5
            clear hK K hHeld; have hHeld := hHeld2; clear hHeld2; (try simp only [Act.put, List.setIfInBounds_toArray, List.set_cons_zero, List.set_cons_succ])
            refine wpAnyH_done (by kernel_rfl) ?_ _
            go_wp2
            go_meet
            case rel =>
              exact ⟨_, _, _, _, ⟨row_put6 B8.out _ _ _ _ _ _⟩, ⟨nest_foot FO.out ((Ext.of_below HN.out).trans (Ext.six _ g8 _ _ _ _ _ _)) ((row_far6 (by have := GELK.out; have := HG.out; omega) _ _ _ _ _ _).trans LK.out) (by have := GELK.out; have := HG.out; omega) ((row_far6 (by have := GELI.out; have := HG.out; omega) _ _ _ _ _ _).trans LI.out) (by have := GELI.out; have := HG.out; omega)⟩, ⟨row_below6 (below_step HB.out HN.out) HG8.out _ _ _ _ _ _⟩⟩
          · obtain ⟨z0, z1, z2, z3, z4, z5⟩ := box6 B8.out
            go_simp
            refine hK.out _ _ trivial (fun hHeld2 => ?_)
            clear z0 z1 z2 z3 z4 z5
            clear hK K hHeld; have hHeld := hHeld2; clear hHeld2; (try simp only [Act.put, List.setIfInBounds_toArray, List.set_cons_zero, List.set_cons_succ])
            refine wpAnyH_ready (rs := [2]) (by kernel_rfl) (by simp) ?_
            refine AllReadyH.cons (o := ⟨some 45, _, _, _, _, _⟩) rfl (fun K hK => ?_) AllReadyH.nil
            go_simp
            go_at_call 20
            (with_reducible refine (text_calls ⟨#[110, 111]⟩ _).mono ?_)
            rintro en wq3 ⟨rfl, hb⟩
            refine hK.out _ _ trivial (fun hHeld2 => ?_)
            have B8' := Lib.hid (blk_below B8.out hb)
            have LK' := Lib.hid (blk_below LK.out hb)
            have HN' := Lib.hid (below_step HN.out hb)
            clear B8 LK HN; have HN := HN'; clear HN'; have B8 := B8'; clear B8'; have LK := LK'; clear LK'
            clear hb; clear hK K hHeld; have hHeld := hHeld2; clear hHeld2; (try simp only [Act.put, List.setIfInBounds_toArray, List.set_cons_zero, List.set_cons_succ])
            refine wpAnyH_ready (rs := [4]) (by kernel_rfl) (by simp) ?_
            refine AllReadyH.cons (o := ⟨some 47, _, _, _, _, _⟩) rfl (fun K hK => ?_) AllReadyH.nil
            go_simp
            have hb := below_alloc (Below.refl wq3.heap.size wq3) (.cells #[.int .i64 (noV).f0, .int .i64 (noV).f1, .int .u64 (noV).f2, .string (noV).f3, .slice none (noV).f4.length 0, .slice none (noV).f5.length 0, .int .i64 (nestP m names).f0, .int .i64 (nestP m names).f1, .int .u64 (nestP m names).f2, .string (nestP m names).f3, .slice E (nestP m names).f4.length e, .slice F (nestP m names).f5.length f] 27)
            refine hK.out _ _ trivial (fun hHeld2 => ?_)
            have LI0 := Lib.hid (blk_new wq3 (.cells #[.int .i64 (noV).f0, .int .i64 (noV).f1, .int .u64 (noV).f2, .string (noV).f3, .slice none (noV).f4.length 0, .slice none (noV).f5.length 0, .int .i64 (nestP m names).f0, .int .i64 (nestP m names).f1, .int .u64 (nestP m names).f2, .string (nestP m names).f3, .slice E (nestP m names).f4.length e, .slice F (nestP m names).f5.length f] 27))
            have GELI := Lib.hid (below_size HN.out)
            have BALI := Lib.hid hb
            have B8' := Lib.hid (blk_below B8.out hb)
            have LK' := Lib.hid (blk_below LK.out hb)
            have HN' := Lib.hid (below_step HN.out hb)
            clear B8 LK HN; have HN := HN'; clear HN'; have B8 := B8'; clear B8'; have LK := LK'; clear LK'
            clear hb; clear hK K hHeld; have hHeld := hHeld2; clear hHeld2; (try simp only [Act.put, List.setIfInBounds_toArray, List.set_cons_zero, List.set_cons_succ])
            (try clear HGK); generalize hgk : wq3.heap.size = gq4 at *; have HGK := Lib.hid hgk; clear hgk
            generalize hwk : wq3.alloc (.cells #[.int .i64 (noV).f0, .int .i64 (noV).f1, .int .u64 (noV).f2, .string (noV).f3, .slice none (noV).f4.length 0, .slice none (noV).f5.length 0, .int .i64 (nestP m names).f0, .int .i64 (nestP m names).f1, .int .u64 (nestP m names).f2, .string (nestP m names).f3, .slice E (nestP m names).f4.length e, .slice F (nestP m names).f5.length f] 27) = wq4 at *; clear hwk
            have LI := LI0; clear LI0
            refine wpAnyH_take (i := 5) (oi := ⟨some 48, _, _, _, _, _⟩) (v := ?_) rfl (by as_aux_lemma => kernel_rfl) (by as_aux_lemma => kernel_rfl) (by as_aux_lemma => kernel_rfl) (fun _ _ _ h => h) ?_ (by assumption) ?_; rotate_left; (focus (refine Or.inl ⟨rfl, ?_⟩; intro w hSw; (try dsimp only at hSw); go_simp; (try with_reducible rfl); done)); (try simp only [Act.put, List.setIfInBounds_toArray, List.set_cons_zero, List.set_cons_succ])
            refine wpAnyH_ready (rs := [6]) (by kernel_rfl) (by simp) ?_
            refine AllReadyH.cons (o := ⟨none, _, _, _, _, _⟩) rfl (fun K hK => ?_) AllReadyH.nil
            have nz0 := (blk_cell B8.out 0).trans rfl; have fz0 := blk_frozen B8.out 0; have nz1 := (blk_cell B8.out 1).trans rfl; have fz1 := blk_frozen B8.out 1; have nz2 := (blk_cell B8.out 2).trans rfl; have fz2 := blk_frozen B8.out 2; have nz3 := (blk_cell B8.out 3).trans rfl; have fz3 := blk_frozen B8.out 3; have nz4 := (blk_cell B8.out 4).trans rfl; have fz4 := blk_frozen B8.out 4; have nz5 := (blk_cell B8.out 5).trans rfl; have fz5 := blk_frozen B8.out 5
            go_simp
            refine hK.out _ _ trivial (fun hHeld2 => ?_)
            clear nz0 fz0 nz1 fz1 nz2 fz2 nz3 fz3 nz4 fz4 nz5 fz5
            clear hK K hHeld; have hHeld := hHeld2; clear hHeld2; (try simp only [Act.put, List.setIfInBounds_toArray, List.set_cons_zero, List.set_cons_succ])
            refine wpAnyH_done (by kernel_rfl) ?_ _
            go_wp2
            go_meet
            case rel =>
              exact ⟨_, _, _, _, ⟨row_put6 B8.out _ _ _ _ _ _⟩, ⟨nest_foot FO.out ((Ext.of_below HN.out).trans (Ext.six _ g8 _ _ _ _ _ _)) ((row_far6 (by have := GELK.out; have := HG.out; omega) _ _ _ _ _ _).trans LK.out) (by have := GELK.out; have := HG.out; omega) ((row_far6 (by have := GELI.out; have := HG.out; omega) _ _ _ _ _ _).trans LI.out) (by have := GELI.out; have := HG.out; omega)⟩, ⟨row_below6 (below_step HB.out HN.out) HG8.out _ _ _ _ _ _⟩⟩
        · go_simp
          go_at_call 20
          (with_reducible refine (text_calls ⟨#[110, 111]⟩ _).mono ?_)
          rintro en wq1 ⟨rfl, hb⟩
          refine hK.out _ _ trivial (fun hHeld2 => ?_)
          have B8' := Lib.hid (blk_below B8.out hb)
          have HN' := Lib.hid (below_step HN.out hb)
          clear B8 HN; have HN := HN'; clear HN'; have B8 := B8'; clear B8'
          clear hb; clear hK K hHeld; have hHeld := hHeld2; clear hHeld2; (try simp only [Act.put, List.setIfInBounds_toArray, List.set_cons_zero, List.set_cons_succ])
          refine wpAnyH_ready (rs := [1, 3]) (by kernel_rfl) (by simp) ?_
          refine AllReadyH.cons (o := ⟨some 44, _, _, _, _, _⟩) rfl (fun K hK => ?_) (AllReadyH.cons (o := ⟨some 46, _, _, _, _, _⟩) rfl (fun K hK => ?_) AllReadyH.nil)
          · go_simp
            have hb := below_alloc (Below.refl wq1.heap.size wq1) (.cells #[.string ⟨#[97]⟩, .string name] 9)
            refine hK.out _ _ trivial (fun hHeld2 => ?_)
            have LK0 := Lib.hid (blk_new wq1 (.cells #[.string ⟨#[97]⟩, .string name] 9))
            have GELK := Lib.hid (below_size HN.out)
            have BALK := Lib.hid hb
            have B8' := Lib.hid (blk_below B8.out hb)
            have HN' := Lib.hid (below_step HN.out hb)
            clear B8 HN; have HN := HN'; clear HN'; have B8 := B8'; clear B8'
            clear hb; clear hK K hHeld; have hHeld := hHeld2; clear hHeld2; (try simp only [Act.put, List.setIfInBounds_toArray, List.set_cons_zero, List.set_cons_succ])
            (try clear HGK); generalize hgk : wq1.heap.size = gq2 at *; have HGK := Lib.hid hgk; clear hgk
            generalize hwk : wq1.alloc (.cells #[.string ⟨#[97]⟩, .string name] 9) = wq2 at *; clear hwk
            have LK := LK0; clear LK0
            refine wpAnyH_ready (rs := [3]) (by kernel_rfl) (by simp) ?_
            refine AllReadyH.cons (o := ⟨some 46, _, _, _, _, _⟩) rfl (fun K hK => ?_) AllReadyH.nil
            obtain ⟨z0, z1, z2, z3, z4, z5⟩ := box6 B8.out
            go_simp
            refine hK.out _ _ trivial (fun hHeld2 => ?_)
            clear z0 z1 z2 z3 z4 z5
            clear hK K hHeld; have hHeld := hHeld2; clear hHeld2; (try simp only [Act.put, List.setIfInBounds_toArray, List.set_cons_zero, List.set_cons_succ])
            refine wpAnyH_ready (rs := [4]) (by kernel_rfl) (by simp) ?_
            refine AllReadyH.cons (o := ⟨some 47, _, _, _, _, _⟩) rfl (fun K hK => ?_) AllReadyH.nil
            go_simp
            have hb := below_alloc (Below.refl wq2.heap.size wq2) (.cells #[.int .i64 (noV).f0, .int .i64 (noV).f1, .int .u64 (noV).f2, .string (noV).f3, .slice none (noV).f4.length 0, .slice none (noV).f5.length 0, .int .i64 (nestP m names).f0, .int .i64 (nestP m names).f1, .int .u64 (nestP m names).f2, .string (nestP m names).f3, .slice E (nestP m names).f4.length e, .slice F (nestP m names).f5.length f] 27)
            refine hK.out _ _ trivial (fun hHeld2 => ?_)
            have LI0 := Lib.hid (blk_new wq2 (.cells #[.int .i64 (noV).f0, .int .i64 (noV).f1, .int .u64 (noV).f2, .string (noV).f3, .slice none (noV).f4.length 0, .slice none (noV).f5.length 0, .int .i64 (nestP m names).f0, .int .i64 (nestP m names).f1, .int .u64 (nestP m names).f2, .string (nestP m names).f3, .slice E (nestP m names).f4.length e, .slice F (nestP m names).f5.length f] 27))
            have GELI := Lib.hid (below_size HN.out)
            have BALI := Lib.hid hb
            have B8' := Lib.hid (blk_below B8.out hb)
            have LK' := Lib.hid (blk_below LK.out hb)
            have HN' := Lib.hid (below_step HN.out hb)
            clear B8 LK HN; have HN := HN'; clear HN'; have B8 := B8'; clear B8'; have LK := LK'; clear LK'
            clear hb; clear hK K hHeld; have hHeld := hHeld2; clear hHeld2; (try simp only [Act.put, List.setIfInBounds_toArray, List.set_cons_zero, List.set_cons_succ])
            (try clear HGK); generalize hgk : wq2.heap.size = gq4 at *; have HGK := Lib.hid hgk; clear hgk
            generalize hwk : wq2.alloc (.cells #[.int .i64 (noV).f0, .int .i64 (noV).f1, .int .u64 (noV).f2, .string (noV).f3, .slice none (noV).f4.length 0, .slice none (noV).f5.length 0, .int .i64 (nestP m names).f0, .int .i64 (nestP m names).f1, .int .u64 (nestP m names).f2, .string (nestP m names).f3, .slice E (nestP m names).f4.length e, .slice F (nestP m names).f5.length f] 27) = wq4 at *; clear hwk
            have LI := LI0; clear LI0
            refine wpAnyH_take (i := 5) (oi := ⟨some 48, _, _, _, _, _⟩) (v := ?_) rfl (by as_aux_lemma => kernel_rfl) (by as_aux_lemma => kernel_rfl) (by as_aux_lemma => kernel_rfl) (fun _ _ _ h => h) ?_ (by assumption) ?_; rotate_left; (focus (refine Or.inl ⟨rfl, ?_⟩; intro w hSw; (try dsimp only at hSw); go_simp; (try with_reducible rfl); done)); (try simp only [Act.put, List.setIfInBounds_toArray, List.set_cons_zero, List.set_cons_succ])
            refine wpAnyH_ready (rs := [6]) (by kernel_rfl) (by simp) ?_
            refine AllReadyH.cons (o := ⟨none, _, _, _, _, _⟩) rfl (fun K hK => ?_) AllReadyH.nil
            have nz0 := (blk_cell B8.out 0).trans rfl; have fz0 := blk_frozen B8.out 0; have nz1 := (blk_cell B8.out 1).trans rfl; have fz1 := blk_frozen B8.out 1; have nz2 := (blk_cell B8.out 2).trans rfl; have fz2 := blk_frozen B8.out 2; have nz3 := (blk_cell B8.out 3).trans rfl; have fz3 := blk_frozen B8.out 3; have nz4 := (blk_cell B8.out 4).trans rfl; have fz4 := blk_frozen B8.out 4; have nz5 := (blk_cell B8.out 5).trans rfl; have fz5 := blk_frozen B8.out 5
            go_simp
            refine hK.out _ _ trivial (fun hHeld2 => ?_)
            clear nz0 fz0 nz1 fz1 nz2 fz2 nz3 fz3 nz4 fz4 nz5 fz5
            clear hK K hHeld; have hHeld := hHeld2; clear hHeld2; (try simp only [Act.put, List.setIfInBounds_toArray, List.set_cons_zero, List.set_cons_succ])
            refine wpAnyH_done (by kernel_rfl) ?_ _
            go_wp2
            go_meet
            case rel =>
              exact ⟨_, _, _, _, ⟨row_put6 B8.out _ _ _ _ _ _⟩, ⟨nest_foot FO.out ((Ext.of_below HN.out).trans (Ext.six _ g8 _ _ _ _ _ _)) ((row_far6 (by have := GELK.out; have := HG.out; omega) _ _ _ _ _ _).trans LK.out) (by have := GELK.out; have := HG.out; omega) ((row_far6 (by have := GELI.out; have := HG.out; omega) _ _ _ _ _ _).trans LI.out) (by have := GELI.out; have := HG.out; omega)⟩, ⟨row_below6 (below_step HB.out HN.out) HG8.out _ _ _ _ _ _⟩⟩
          · obtain ⟨z0, z1, z2, z3, z4, z5⟩ := box6 B8.out
            go_simp
            refine hK.out _ _ trivial (fun hHeld2 => ?_)
            clear z0 z1 z2 z3 z4 z5
            clear hK K hHeld; have hHeld := hHeld2; clear hHeld2; (try simp only [Act.put, List.setIfInBounds_toArray, List.set_cons_zero, List.set_cons_succ])
            refine wpAnyH_ready (rs := [1, 4]) (by kernel_rfl) (by simp) ?_
            refine AllReadyH.cons (o := ⟨some 44, _, _, _, _, _⟩) rfl (fun K hK => ?_) (AllReadyH.cons (o := ⟨some 47, _, _, _, _, _⟩) rfl (fun K hK => ?_) AllReadyH.nil)
            · go_simp
              have hb := below_alloc (Below.refl wq1.heap.size wq1) (.cells #[.string ⟨#[97]⟩, .string name] 9)
              refine hK.out _ _ trivial (fun hHeld2 => ?_)
              have LK0 := Lib.hid (blk_new wq1 (.cells #[.string ⟨#[97]⟩, .string name] 9))
              have GELK := Lib.hid (below_size HN.out)
              have BALK := Lib.hid hb
              have B8' := Lib.hid (blk_below B8.out hb)
              have HN' := Lib.hid (below_step HN.out hb)
              clear B8 HN; have HN := HN'; clear HN'; have B8 := B8'; clear B8'
              clear hb; clear hK K hHeld; have hHeld := hHeld2; clear hHeld2; (try simp only [Act.put, List.setIfInBounds_toArray, List.set_cons_zero, List.set_cons_succ])
              (try clear HGK); generalize hgk : wq1.heap.size = gq3 at *; have HGK := Lib.hid hgk; clear hgk
              generalize hwk : wq1.alloc (.cells #[.string ⟨#[97]⟩, .string name] 9) = wq3 at *; clear hwk
              have LK := LK0; clear LK0
              refine wpAnyH_ready (rs := [4]) (by kernel_rfl) (by simp) ?_
              refine AllReadyH.cons (o := ⟨some 47, _, _, _, _, _⟩) rfl (fun K hK => ?_) AllReadyH.nil
              go_simp
              have hb := below_alloc (Below.refl wq3.heap.size wq3) (.cells #[.int .i64 (noV).f0, .int .i64 (noV).f1, .int .u64 (noV).f2, .string (noV).f3, .slice none (noV).f4.length 0, .slice none (noV).f5.length 0, .int .i64 (nestP m names).f0, .int .i64 (nestP m names).f1, .int .u64 (nestP m names).f2, .string (nestP m names).f3, .slice E (nestP m names).f4.length e, .slice F (nestP m names).f5.length f] 27)
              refine hK.out _ _ trivial (fun hHeld2 => ?_)
              have LI0 := Lib.hid (blk_new wq3 (.cells #[.int .i64 (noV).f0, .int .i64 (noV).f1, .int .u64 (noV).f2, .string (noV).f3, .slice none (noV).f4.length 0, .slice none (noV).f5.length 0, .int .i64 (nestP m names).f0, .int .i64 (nestP m names).f1, .int .u64 (nestP m names).f2, .string (nestP m names).f3, .slice E (nestP m names).f4.length e, .slice F (nestP m names).f5.length f] 27))
              have GELI := Lib.hid (below_size HN.out)
              have BALI := Lib.hid hb
              have B8' := Lib.hid (blk_below B8.out hb)
              have LK' := Lib.hid (blk_below LK.out hb)
              have HN' := Lib.hid (below_step HN.out hb)
              clear B8 LK HN; have HN := HN'; clear HN'; have B8 := B8'; clear B8'; have LK := LK'; clear LK'
              clear hb; clear hK K hHeld; have hHeld := hHeld2; clear hHeld2; (try simp only [Act.put, List.setIfInBounds_toArray, List.set_cons_zero, List.set_cons_succ])
              (try clear HGK); generalize hgk : wq3.heap.size = gq4 at *; have HGK := Lib.hid hgk; clear hgk
              generalize hwk : wq3.alloc (.cells #[.int .i64 (noV).f0, .int .i64 (noV).f1, .int .u64 (noV).f2, .string (noV).f3, .slice none (noV).f4.length 0, .slice none (noV).f5.length 0, .int .i64 (nestP m names).f0, .int .i64 (nestP m names).f1, .int .u64 (nestP m names).f2, .string (nestP m names).f3, .slice E (nestP m names).f4.length e, .slice F (nestP m names).f5.length f] 27) = wq4 at *; clear hwk
              have LI := LI0; clear LI0
              refine wpAnyH_take (i := 5) (oi := ⟨some 48, _, _, _, _, _⟩) (v := ?_) rfl (by as_aux_lemma => kernel_rfl) (by as_aux_lemma => kernel_rfl) (by as_aux_lemma => kernel_rfl) (fun _ _ _ h => h) ?_ (by assumption) ?_; rotate_left; (focus (refine Or.inl ⟨rfl, ?_⟩; intro w hSw; (try dsimp only at hSw); go_simp; (try with_reducible rfl); done)); (try simp only [Act.put, List.setIfInBounds_toArray, List.set_cons_zero, List.set_cons_succ])
              refine wpAnyH_ready (rs := [6]) (by kernel_rfl) (by simp) ?_
              refine AllReadyH.cons (o := ⟨none, _, _, _, _, _⟩) rfl (fun K hK => ?_) AllReadyH.nil
              have nz0 := (blk_cell B8.out 0).trans rfl; have fz0 := blk_frozen B8.out 0; have nz1 := (blk_cell B8.out 1).trans rfl; have fz1 := blk_frozen B8.out 1; have nz2 := (blk_cell B8.out 2).trans rfl; have fz2 := blk_frozen B8.out 2; have nz3 := (blk_cell B8.out 3).trans rfl; have fz3 := blk_frozen B8.out 3; have nz4 := (blk_cell B8.out 4).trans rfl; have fz4 := blk_frozen B8.out 4; have nz5 := (blk_cell B8.out 5).trans rfl; have fz5 := blk_frozen B8.out 5
              go_simp
              refine hK.out _ _ trivial (fun hHeld2 => ?_)
              clear nz0 fz0 nz1 fz1 nz2 fz2 nz3 fz3 nz4 fz4 nz5 fz5
              clear hK K hHeld; have hHeld := hHeld2; clear hHeld2; (try simp only [Act.put, List.setIfInBounds_toArray, List.set_cons_zero, List.set_cons_succ])
              refine wpAnyH_done (by kernel_rfl) ?_ _
              go_wp2
              go_meet
              case rel =>
                exact ⟨_, _, _, _, ⟨row_put6 B8.out _ _ _ _ _ _⟩, ⟨nest_foot FO.out ((Ext.of_below HN.out).trans (Ext.six _ g8 _ _ _ _ _ _)) ((row_far6 (by have := GELK.out; have := HG.out; omega) _ _ _ _ _ _).trans LK.out) (by have := GELK.out; have := HG.out; omega) ((row_far6 (by have := GELI.out; have := HG.out; omega) _ _ _ _ _ _).trans LI.out) (by have := GELI.out; have := HG.out; omega)⟩, ⟨row_below6 (below_step HB.out HN.out) HG8.out _ _ _ _ _ _⟩⟩
            · go_simp
              have hb := below_alloc (Below.refl wq1.heap.size wq1) (.cells #[.int .i64 (noV).f0, .int .i64 (noV).f1, .int .u64 (noV).f2, .string (noV).f3, .slice none (noV).f4.length 0, .slice none (noV).f5.length 0, .int .i64 (nestP m names).f0, .int .i64 (nestP m names).f1, .int .u64 (nestP m names).f2, .string (nestP m names).f3, .slice E (nestP m names).f4.length e, .slice F (nestP m names).f5.length f] 27)
              refine hK.out _ _ trivial (fun hHeld2 => ?_)
              have LI0 := Lib.hid (blk_new wq1 (.cells #[.int .i64 (noV).f0, .int .i64 (noV).f1, .int .u64 (noV).f2, .string (noV).f3, .slice none (noV).f4.length 0, .slice none (noV).f5.length 0, .int .i64 (nestP m names).f0, .int .i64 (nestP m names).f1, .int .u64 (nestP m names).f2, .string (nestP m names).f3, .slice E (nestP m names).f4.length e, .slice F (nestP m names).f5.length f] 27))
              have GELI := Lib.hid (below_size HN.out)
              have BALI := Lib.hid hb
              have B8' := Lib.hid (blk_below B8.out hb)
              have HN' := Lib.hid (below_step HN.out hb)
              clear B8 HN; have HN := HN'; clear HN'; have B8 := B8'; clear B8'
              clear hb; clear hK K hHeld; have hHeld := hHeld2; clear hHeld2; (try simp only [Act.put, List.setIfInBounds_toArray, List.set_cons_zero, List.set_cons_succ])
              (try clear HGK); generalize hgk : wq1.heap.size = gq3 at *; have HGK := Lib.hid hgk; clear hgk
              generalize hwk : wq1.alloc (.cells #[.int .i64 (noV).f0, .int .i64 (noV).f1, .int .u64 (noV).f2, .string (noV).f3, .slice none (noV).f4.length 0, .slice none (noV).f5.length 0, .int .i64 (nestP m names).f0, .int .i64 (nestP m names).f1, .int .u64 (nestP m names).f2, .string (nestP m names).f3, .slice E (nestP m names).f4.length e, .slice F (nestP m names).f5.length f] 27) = wq3 at *; clear hwk
              have LI := LI0; clear LI0
              refine wpAnyH_ready (rs := [1]) (by kernel_rfl) (by simp) ?_
              refine AllReadyH.cons (o := ⟨some 44, _, _, _, _, _⟩) rfl (fun K hK => ?_) AllReadyH.nil
              go_simp
              have hb := below_alloc (Below.refl wq3.heap.size wq3) (.cells #[.string ⟨#[97]⟩, .string name] 9)
              refine hK.out _ _ trivial (fun hHeld2 => ?_)
              have LK0 := Lib.hid (blk_new wq3 (.cells #[.string ⟨#[97]⟩, .string name] 9))
              have GELK := Lib.hid (below_size HN.out)
              have BALK := Lib.hid hb
              have B8' := Lib.hid (blk_below B8.out hb)
              have LI' := Lib.hid (blk_below LI.out hb)
              have HN' := Lib.hid (below_step HN.out hb)
              clear B8 LI HN; have HN := HN'; clear HN'; have B8 := B8'; clear B8'; have LI := LI'; clear LI'
              clear hb; clear hK K hHeld; have hHeld := hHeld2; clear hHeld2; (try simp only [Act.put, List.setIfInBounds_toArray, List.set_cons_zero, List.set_cons_succ])
              (try clear HGK); generalize hgk : wq3.heap.size = gq4 at *; have HGK := Lib.hid hgk; clear hgk
              generalize hwk : wq3.alloc (.cells #[.string ⟨#[97]⟩, .string name] 9) = wq4 at *; clear hwk
              have LK := LK0; clear LK0
              refine wpAnyH_take (i := 5) (oi := ⟨some 48, _, _, _, _, _⟩) (v := ?_) rfl (by as_aux_lemma => kernel_rfl) (by as_aux_lemma => kernel_rfl) (by as_aux_lemma => kernel_rfl) (fun _ _ _ h => h) ?_ (by assumption) ?_; rotate_left; (focus (refine Or.inl ⟨rfl, ?_⟩; intro w hSw; (try dsimp only at hSw); go_simp; (try with_reducible rfl); done)); (try simp only [Act.put, List.setIfInBounds_toArray, List.set_cons_zero, List.set_cons_succ])
              refine wpAnyH_ready (rs := [6]) (by kernel_rfl) (by simp) ?_
              refine AllReadyH.cons (o := ⟨none, _, _, _, _, _⟩) rfl (fun K hK => ?_) AllReadyH.nil
              have nz0 := (blk_cell B8.out 0).trans rfl; have fz0 := blk_frozen B8.out 0; have nz1 := (blk_cell B8.out 1).trans rfl; have fz1 := blk_frozen B8.out 1; have nz2 := (blk_cell B8.out 2).trans rfl; have fz2 := blk_frozen B8.out 2; have nz3 := (blk_cell B8.out 3).trans rfl; have fz3 := blk_frozen B8.out 3; have nz4 := (blk_cell B8.out 4).trans rfl; have fz4 := blk_frozen B8.out 4; have nz5 := (blk_cell B8.out 5).trans rfl; have fz5 := blk_frozen B8.out 5
              go_simp
              refine hK.out _ _ trivial (fun hHeld2 => ?_)
              clear nz0 fz0 nz1 fz1 nz2 fz2 nz3 fz3 nz4 fz4 nz5 fz5
              clear hK K hHeld; have hHeld := hHeld2; clear hHeld2; (try simp only [Act.put, List.setIfInBounds_toArray, List.set_cons_zero, List.set_cons_succ])
              refine wpAnyH_done (by kernel_rfl) ?_ _
              go_wp2
              go_meet
              case rel =>
                exact ⟨_, _, _, _, ⟨row_put6 B8.out _ _ _ _ _ _⟩, ⟨nest_foot FO.out ((Ext.of_below HN.out).trans (Ext.six _ g8 _ _ _ _ _ _)) ((row_far6 (by have := GELK.out; have := HG.out; omega) _ _ _ _ _ _).trans LK.out) (by have := GELK.out; have := HG.out; omega) ((row_far6 (by have := GELI.out; have := HG.out; omega) _ _ _ _ _ _).trans LI.out) (by have := GELI.out; have := HG.out; omega)⟩, ⟨row_below6 (below_step HB.out HN.out) HG8.out _ _ _ _ _ _⟩⟩
        · obtain ⟨z0, z1, z2, z3, z4, z5⟩ := box6 B8.out
          go_simp
          refine hK.out _ _ trivial (fun hHeld2 => ?_)
          clear z0 z1 z2 z3 z4 z5
          clear hK K hHeld; have hHeld := hHeld2; clear hHeld2; (try simp only [Act.put, List.setIfInBounds_toArray, List.set_cons_zero, List.set_cons_succ])
          refine wpAnyH_ready (rs := [1, 2]) (by kernel_rfl) (by simp) ?_
          refine AllReadyH.cons (o := ⟨some 44, _, _, _, _, _⟩) rfl (fun K hK => ?_) (AllReadyH.cons (o := ⟨some 45, _, _, _, _, _⟩) rfl (fun K hK => ?_) AllReadyH.nil)
          · go_simp
            have hb := below_alloc (Below.refl wx.heap.size wx) (.cells #[.string ⟨#[97]⟩, .string name] 9)
            refine hK.out _ _ trivial (fun hHeld2 => ?_)
            have LK0 := Lib.hid (blk_new wx (.cells #[.string ⟨#[97]⟩, .string name] 9))
            have GELK := Lib.hid (below_size HN.out)
            have BALK := Lib.hid hb
            have B8' := Lib.hid (blk_below B8.out hb)
            have HN' := Lib.hid (below_step HN.out hb)
            clear B8 HN; have HN := HN'; clear HN'; have B8 := B8'; clear B8'
            clear hb; clear hK K hHeld; have hHeld := hHeld2; clear hHeld2; (try simp only [Act.put, List.setIfInBounds_toArray, List.set_cons_zero, List.set_cons_succ])
            generalize hwk : wx.alloc (.cells #[.string ⟨#[97]⟩, .string name] 9) = wq2 at *; clear hwk
            have LK := LK0; clear LK0
            refine wpAnyH_ready (rs := [2]) (by kernel_rfl) (by simp) ?_
            refine AllReadyH.cons (o := ⟨some 45, _, _, _, _, _⟩) rfl (fun K hK => ?_) AllReadyH.nil
            go_simp
            go_at_call 20
            (with_reducible refine (text_calls ⟨#[110, 111]⟩ _).mono ?_)
            rintro en wq3 ⟨rfl, hb⟩
            refine hK.out _ _ trivial (fun hHeld2 => ?_)
            have B8' := Lib.hid (blk_below B8.out hb)
            have LK' := Lib.hid (blk_below LK.out hb)
            have HN' := Lib.hid (below_step HN.out hb)
            clear B8 LK HN; have HN := HN'; clear HN'; have B8 := B8'; clear B8'; have LK := LK'; clear LK'
            clear hb; clear hK K hHeld; have hHeld := hHeld2; clear hHeld2; (try simp only [Act.put, List.setIfInBounds_toArray, List.set_cons_zero, List.set_cons_succ])
            refine wpAnyH_ready (rs := [4]) (by kernel_rfl) (by simp) ?_
            refine AllReadyH.cons (o := ⟨some 47, _, _, _, _, _⟩) rfl (fun K hK => ?_) AllReadyH.nil
            go_simp
            have hb := below_alloc (Below.refl wq3.heap.size wq3) (.cells #[.int .i64 (noV).f0, .int .i64 (noV).f1, .int .u64 (noV).f2, .string (noV).f3, .slice none (noV).f4.length 0, .slice none (noV).f5.length 0, .int .i64 (nestP m names).f0, .int .i64 (nestP m names).f1, .int .u64 (nestP m names).f2, .string (nestP m names).f3, .slice E (nestP m names).f4.length e, .slice F (nestP m names).f5.length f] 27)
            refine hK.out _ _ trivial (fun hHeld2 => ?_)
            have LI0 := Lib.hid (blk_new wq3 (.cells #[.int .i64 (noV).f0, .int .i64 (noV).f1, .int .u64 (noV).f2, .string (noV).f3, .slice none (noV).f4.length 0, .slice none (noV).f5.length 0, .int .i64 (nestP m names).f0, .int .i64 (nestP m names).f1, .int .u64 (nestP m names).f2, .string (nestP m names).f3, .slice E (nestP m names).f4.length e, .slice F (nestP m names).f5.length f] 27))
            have GELI := Lib.hid (below_size HN.out)
            have BALI := Lib.hid hb
            have B8' := Lib.hid (blk_below B8.out hb)
            have LK' := Lib.hid (blk_below LK.out hb)
            have HN' := Lib.hid (below_step HN.out hb)
            clear B8 LK HN; have HN := HN'; clear HN'; have B8 := B8'; clear B8'; have LK := LK'; clear LK'
            clear hb; clear hK K hHeld; have hHeld := hHeld2; clear hHeld2; (try simp only [Act.put, List.setIfInBounds_toArray, List.set_cons_zero, List.set_cons_succ])
            (try clear HGK); generalize hgk : wq3.heap.size = gq4 at *; have HGK := Lib.hid hgk; clear hgk
            generalize hwk : wq3.alloc (.cells #[.int .i64 (noV).f0, .int .i64 (noV).f1, .int .u64 (noV).f2, .string (noV).f3, .slice none (noV).f4.length 0, .slice none (noV).f5.length 0, .int .i64 (nestP m names).f0, .int .i64 (nestP m names).f1, .int .u64 (nestP m names).f2, .string (nestP m names).f3, .slice E (nestP m names).f4.length e, .slice F (nestP m names).f5.length f] 27) = wq4 at *; clear hwk
            have LI := LI0; clear LI0
            refine wpAnyH_take (i := 5) (oi := ⟨some 48, _, _, _, _, _⟩) (v := ?_) rfl (by as_aux_lemma => kernel_rfl) (by as_aux_lemma => kernel_rfl) (by as_aux_lemma => kernel_rfl) (fun _ _ _ h => h) ?_ (by assumption) ?_; rotate_left; (focus (refine Or.inl ⟨rfl, ?_⟩; intro w hSw; (try dsimp only at hSw); go_simp; (try with_reducible rfl); done)); (try simp only [Act.put, List.setIfInBounds_toArray, List.set_cons_zero, List.set_cons_succ])
            refine wpAnyH_ready (rs := [6]) (by kernel_rfl) (by simp) ?_
            refine AllReadyH.cons (o := ⟨none, _, _, _, _, _⟩) rfl (fun K hK => ?_) AllReadyH.nil
            have nz0 := (blk_cell B8.out 0).trans rfl; have fz0 := blk_frozen B8.out 0; have nz1 := (blk_cell B8.out 1).trans rfl; have fz1 := blk_frozen B8.out 1; have nz2 := (blk_cell B8.out 2).trans rfl; have fz2 := blk_frozen B8.out 2; have nz3 := (blk_cell B8.out 3).trans rfl; have fz3 := blk_frozen B8.out 3; have nz4 := (blk_cell B8.out 4).trans rfl; have fz4 := blk_frozen B8.out 4; have nz5 := (blk_cell B8.out 5).trans rfl; have fz5 := blk_frozen B8.out 5
            go_simp
            refine hK.out _ _ trivial (fun hHeld2 => ?_)
            clear nz0 fz0 nz1 fz1 nz2 fz2 nz3 fz3 nz4 fz4 nz5 fz5
            clear hK K hHeld; have hHeld := hHeld2; clear hHeld2; (try simp only [Act.put, List.setIfInBounds_toArray, List.set_cons_zero, List.set_cons_succ])
            refine wpAnyH_done (by kernel_rfl) ?_ _
            go_wp2
            go_meet
            case rel =>
              exact ⟨_, _, _, _, ⟨row_put6 B8.out _ _ _ _ _ _⟩, ⟨nest_foot FO.out ((Ext.of_below HN.out).trans (Ext.six _ g8 _ _ _ _ _ _)) ((row_far6 (by have := GELK.out; have := HG.out; omega) _ _ _ _ _ _).trans LK.out) (by have := GELK.out; have := HG.out; omega) ((row_far6 (by have := GELI.out; have := HG.out; omega) _ _ _ _ _ _).trans LI.out) (by have := GELI.out; have := HG.out; omega)⟩, ⟨row_below6 (below_step HB.out HN.out) HG8.out _ _ _ _ _ _⟩⟩
          · go_simp
            go_at_call 20
            (with_reducible refine (text_calls ⟨#[110, 111]⟩ _).mono ?_)
            rintro en wq2 ⟨rfl, hb⟩
            refine hK.out _ _ trivial (fun hHeld2 => ?_)
            have B8' := Lib.hid (blk_below B8.out hb)
            have HN' := Lib.hid (below_step HN.out hb)
            clear B8 HN; have HN := HN'; clear HN'; have B8 := B8'; clear B8'
            clear hb; clear hK K hHeld; have hHeld := hHeld2; clear hHeld2; (try simp only [Act.put, List.setIfInBounds_toArray, List.set_cons_zero, List.set_cons_succ])
            refine wpAnyH_ready (rs := [1, 4]) (by kernel_rfl) (by simp) ?_
            refine AllReadyH.cons (o := ⟨some 44, _, _, _, _, _⟩) rfl (fun K hK => ?_) (AllReadyH.cons (o := ⟨some 47, _, _, _, _, _⟩) rfl (fun K hK => ?_) AllReadyH.nil)
            · go_simp
              have hb := below_alloc (Below.refl wq2.heap.size wq2) (.cells #[.string ⟨#[97]⟩, .string name] 9)
              refine hK.out _ _ trivial (fun hHeld2 => ?_)
              have LK0 := Lib.hid (blk_new wq2 (.cells #[.string ⟨#[97]⟩, .string name] 9))
              have GELK := Lib.hid (below_size HN.out)
              have BALK := Lib.hid hb
              have B8' := Lib.hid (blk_below B8.out hb)
              have HN' := Lib.hid (below_step HN.out hb)
              clear B8 HN; have HN := HN'; clear HN'; have B8 := B8'; clear B8'
              clear hb; clear hK K hHeld; have hHeld := hHeld2; clear hHeld2; (try simp only [Act.put, List.setIfInBounds_toArray, List.set_cons_zero, List.set_cons_succ])
              (try clear HGK); generalize hgk : wq2.heap.size = gq3 at *; have HGK := Lib.hid hgk; clear hgk
              generalize hwk : wq2.alloc (.cells #[.string ⟨#[97]⟩, .string name] 9) = wq3 at *; clear hwk
              have LK := LK0; clear LK0
              refine wpAnyH_ready (rs := [4]) (by kernel_rfl) (by simp) ?_
              refine AllReadyH.cons (o := ⟨some 47, _, _, _, _, _⟩) rfl (fun K hK => ?_) AllReadyH.nil
              go_simp
              have hb := below_alloc (Below.refl wq3.heap.size wq3) (.cells #[.int .i64 (noV).f0, .int .i64 (noV).f1, .int .u64 (noV).f2, .string (noV).f3, .slice none (noV).f4.length 0, .slice none (noV).f5.length 0, .int .i64 (nestP m names).f0, .int .i64 (nestP m names).f1, .int .u64 (nestP m names).f2, .string (nestP m names).f3, .slice E (nestP m names).f4.length e, .slice F (nestP m names).f5.length f] 27)
              refine hK.out _ _ trivial (fun hHeld2 => ?_)
              have LI0 := Lib.hid (blk_new wq3 (.cells #[.int .i64 (noV).f0, .int .i64 (noV).f1, .int .u64 (noV).f2, .string (noV).f3, .slice none (noV).f4.length 0, .slice none (noV).f5.length 0, .int .i64 (nestP m names).f0, .int .i64 (nestP m names).f1, .int .u64 (nestP m names).f2, .string (nestP m names).f3, .slice E (nestP m names).f4.length e, .slice F (nestP m names).f5.length f] 27))
              have GELI := Lib.hid (below_size HN.out)
              have BALI := Lib.hid hb
              have B8' := Lib.hid (blk_below B8.out hb)
              have LK' := Lib.hid (blk_below LK.out hb)
              have HN' := Lib.hid (below_step HN.out hb)
              clear B8 LK HN; have HN := HN'; clear HN'; have B8 := B8'; clear B8'; have LK := LK'; clear LK'
              clear hb; clear hK K hHeld; have hHeld := hHeld2; clear hHeld2; (try simp only [Act.put, List.setIfInBounds_toArray, List.set_cons_zero, List.set_cons_succ])
              (try clear HGK); generalize hgk : wq3.heap.size = gq4 at *; have HGK := Lib.hid hgk; clear hgk
              generalize hwk : wq3.alloc (.cells #[.int .i64 (noV).f0, .int .i64 (noV).f1, .int .u64 (noV).f2, .string (noV).f3, .slice none (noV).f4.length 0, .slice none (noV).f5.length 0, .int .i64 (nestP m names).f0, .int .i64 (nestP m names).f1, .int .u64 (nestP m names).f2, .string (nestP m names).f3, .slice E (nestP m names).f4.length e, .slice F (nestP m names).f5.length f] 27) = wq4 at *; clear hwk
              have LI := LI0; clear LI0
              refine wpAnyH_take (i := 5) (oi := ⟨some 48, _, _, _, _, _⟩) (v := ?_) rfl (by as_aux_lemma => kernel_rfl) (by as_aux_lemma => kernel_rfl) (by as_aux_lemma => kernel_rfl) (fun _ _ _ h => h) ?_ (by assumption) ?_; rotate_left; (focus (refine Or.inl ⟨rfl, ?_⟩; intro w hSw; (try dsimp only at hSw); go_simp; (try with_reducible rfl); done)); (try simp only [Act.put, List.setIfInBounds_toArray, List.set_cons_zero, List.set_cons_succ])
              refine wpAnyH_ready (rs := [6]) (by kernel_rfl) (by simp) ?_
              refine AllReadyH.cons (o := ⟨none, _, _, _, _, _⟩) rfl (fun K hK => ?_) AllReadyH.nil
              have nz0 := (blk_cell B8.out 0).trans rfl; have fz0 := blk_frozen B8.out 0; have nz1 := (blk_cell B8.out 1).trans rfl; have fz1 := blk_frozen B8.out 1; have nz2 := (blk_cell B8.out 2).trans rfl; have fz2 := blk_frozen B8.out 2; have nz3 := (blk_cell B8.out 3).trans rfl; have fz3 := blk_frozen B8.out 3; have nz4 := (blk_cell B8.out 4).trans rfl; have fz4 := blk_frozen B8.out 4; have nz5 := (blk_cell B8.out 5).trans rfl; have fz5 := blk_frozen B8.out 5
              go_simp
              refine hK.out _ _ trivial (fun hHeld2 => ?_)
              clear nz0 fz0 nz1 fz1 nz2 fz2 nz3 fz3 nz4 fz4 nz5 fz5
              clear hK K hHeld; have hHeld := hHeld2; clear hHeld2; (try simp only [Act.put, List.setIfInBounds_toArray, List.set_cons_zero, List.set_cons_succ])
              refine wpAnyH_done (by kernel_rfl) ?_ _
              go_wp2
              go_meet
              case rel =>
                exact ⟨_, _, _, _, ⟨row_put6 B8.out _ _ _ _ _ _⟩, ⟨nest_foot FO.out ((Ext.of_below HN.out).trans (Ext.six _ g8 _ _ _ _ _ _)) ((row_far6 (by have := GELK.out; have := HG.out; omega) _ _ _ _ _ _).trans LK.out) (by have := GELK.out; have := HG.out; omega) ((row_far6 (by have := GELI.out; have := HG.out; omega) _ _ _ _ _ _).trans LI.out) (by have := GELI.out; have := HG.out; omega)⟩, ⟨row_below6 (below_step HB.out HN.out) HG8.out _ _ _ _ _ _⟩⟩
            · go_simp
              have hb := below_alloc (Below.refl wq2.heap.size wq2) (.cells #[.int .i64 (noV).f0, .int .i64 (noV).f1, .int .u64 (noV).f2, .string (noV).f3, .slice none (noV).f4.length 0, .slice none (noV).f5.length 0, .int .i64 (nestP m names).f0, .int .i64 (nestP m names).f1, .int .u64 (nestP m names).f2, .string (nestP m names).f3, .slice E (nestP m names).f4.length e, .slice F (nestP m names).f5.length f] 27)
              refine hK.out _ _ trivial (fun hHeld2 => ?_)
              have LI0 := Lib.hid (blk_new wq2 (.cells #[.int .i64 (noV).f0, .int .i64 (noV).f1, .int .u64 (noV).f2, .string (noV).f3, .slice none (noV).f4.length 0, .slice none (noV).f5.length 0, .int .i64 (nestP m names).f0, .int .i64 (nestP m names).f1, .int .u64 (nestP m names).f2, .string (nestP m names).f3, .slice E (nestP m names).f4.length e, .slice F (nestP m names).f5.length f] 27))
              have GELI := Lib.hid (below_size HN.out)
              have BALI := Lib.hid hb
              have B8' := Lib.hid (blk_below B8.out hb)
              have HN' := Lib.hid (below_step HN.out hb)
              clear B8 HN; have HN := HN'; clear HN'; have B8 := B8'; clear B8'
              clear hb; clear hK K hHeld; have hHeld := hHeld2; clear hHeld2; (try simp only [Act.put, List.setIfInBounds_toArray, List.set_cons_zero, List.set_cons_succ])
              (try clear HGK); generalize hgk : wq2.heap.size = gq3 at *; have HGK := Lib.hid hgk; clear hgk
              generalize hwk : wq2.alloc (.cells #[.int .i64 (noV).f0, .int .i64 (noV).f1, .int .u64 (noV).f2, .string (noV).f3, .slice none (noV).f4.length 0, .slice none (noV).f5.length 0, .int .i64 (nestP m names).f0, .int .i64 (nestP m names).f1, .int .u64 (nestP m names).f2, .string (nestP m names).f3, .slice E (nestP m names).f4.length e, .slice F (nestP m names).f5.length f] 27) = wq3 at *; clear hwk
              have LI := LI0; clear LI0
              refine wpAnyH_ready (rs := [1]) (by kernel_rfl) (by simp) ?_
              refine AllReadyH.cons (o := ⟨some 44, _, _, _, _, _⟩) rfl (fun K hK => ?_) AllReadyH.nil
              go_simp
              have hb := below_alloc (Below.refl wq3.heap.size wq3) (.cells #[.string ⟨#[97]⟩, .string name] 9)
              refine hK.out _ _ trivial (fun hHeld2 => ?_)
              have LK0 := Lib.hid (blk_new wq3 (.cells #[.string ⟨#[97]⟩, .string name] 9))
              have GELK := Lib.hid (below_size HN.out)
              have BALK := Lib.hid hb
              have B8' := Lib.hid (blk_below B8.out hb)
              have LI' := Lib.hid (blk_below LI.out hb)
              have HN' := Lib.hid (below_step HN.out hb)
              clear B8 LI HN; have HN := HN'; clear HN'; have B8 := B8'; clear B8'; have LI := LI'; clear LI'
              clear hb; clear hK K hHeld; have hHeld := hHeld2; clear hHeld2; (try simp only [Act.put, List.setIfInBounds_toArray, List.set_cons_zero, List.set_cons_succ])
              (try clear HGK); generalize hgk : wq3.heap.size = gq4 at *; have HGK := Lib.hid hgk; clear hgk
              generalize hwk : wq3.alloc (.cells #[.string ⟨#[97]⟩, .string name] 9) = wq4 at *; clear hwk
              have LK := LK0; clear LK0
              refine wpAnyH_take (i := 5) (oi := ⟨some 48, _, _, _, _, _⟩) (v := ?_) rfl (by as_aux_lemma => kernel_rfl) (by as_aux_lemma => kernel_rfl) (by as_aux_lemma => kernel_rfl) (fun _ _ _ h => h) ?_ (by assumption) ?_; rotate_left; (focus (refine Or.inl ⟨rfl, ?_⟩; intro w hSw; (try dsimp only at hSw); go_simp; (try with_reducible rfl); done)); (try simp only [Act.put, List.setIfInBounds_toArray, List.set_cons_zero, List.set_cons_succ])
              refine wpAnyH_ready (rs := [6]) (by kernel_rfl) (by simp) ?_
              refine AllReadyH.cons (o := ⟨none, _, _, _, _, _⟩) rfl (fun K hK => ?_) AllReadyH.nil
              have nz0 := (blk_cell B8.out 0).trans rfl; have fz0 := blk_frozen B8.out 0; have nz1 := (blk_cell B8.out 1).trans rfl; have fz1 := blk_frozen B8.out 1; have nz2 := (blk_cell B8.out 2).trans rfl; have fz2 := blk_frozen B8.out 2; have nz3 := (blk_cell B8.out 3).trans rfl; have fz3 := blk_frozen B8.out 3; have nz4 := (blk_cell B8.out 4).trans rfl; have fz4 := blk_frozen B8.out 4; have nz5 := (blk_cell B8.out 5).trans rfl; have fz5 := blk_frozen B8.out 5
              go_simp
              refine hK.out _ _ trivial (fun hHeld2 => ?_)
              clear nz0 fz0 nz1 fz1 nz2 fz2 nz3 fz3 nz4 fz4 nz5 fz5
              clear hK K hHeld; have hHeld := hHeld2; clear hHeld2; (try simp only [Act.put, List.setIfInBounds_toArray, List.set_cons_zero, List.set_cons_succ])
              refine wpAnyH_done (by kernel_rfl) ?_ _
              go_wp2
              go_meet
              case rel =>
                exact ⟨_, _, _, _, ⟨row_put6 B8.out _ _ _ _ _ _⟩, ⟨nest_foot FO.out ((Ext.of_below HN.out).trans (Ext.six _ g8 _ _ _ _ _ _)) ((row_far6 (by have := GELK.out; have := HG.out; omega) _ _ _ _ _ _).trans LK.out) (by have := GELK.out; have := HG.out; omega) ((row_far6 (by have := GELI.out; have := HG.out; omega) _ _ _ _ _ _).trans LI.out) (by have := GELI.out; have := HG.out; omega)⟩, ⟨row_below6 (below_step HB.out HN.out) HG8.out _ _ _ _ _ _⟩⟩
      case rest =>
      clear B8 FO HB
      obtain ⟨E2, e2, F2, f2, X0, F0, B0⟩ := hcut
      have B8 := Lib.hid X0.out; have FO := Lib.hid F0.out; have HB := Lib.hid B0.out; clear X0 F0 B0
      have CNM2 := Lib.hid FO.out.now.2
      go_wp2_with (first | ((with_reducible refine gate_dst (N := 50) rfl ?_); refine Kd.R_lit Kd.string (w0 := wc) wc.heap.size 9 ?hg (N := 50) ?hd (xs := [name]) (inner := [.string name]) (ok := fun _ => True) (okp := fun _ => False) ?hr ?hp (fun _ h => h.elim) trivial (Below.refl _ _) (Nat.le_refl _) (by simp) ?_; (case hd => rfl); (case hg => rfl); (case hr => first | (go_simp; done) | (go_simp; rfl)); (case hp => exact reps_strM _ _ _ name); intro v50 w50 hr5 hb5 hg5 ha5; have HO5 := Lib.hid hr5; have HN5 := Lib.hid hb5; clear hr5 hb5 hg5 ha5) | ((with_reducible refine gate_builtin (b := .append) (xs := #[.tmp 50, .tmp 51]) rfl ?_); at_builtin; refine Kd.R_append_rows Kd.string (Rr := Kd.string.K w50) (w0 := wc) wc.heap.size rfl (.tmp 50) (.tmp 51) 25 9 (.string ⟨#[]⟩) 16 rfl Tryz.underlying25 info9 rfl (by exact Nat.succ_pos 0) (by decide) v50 [name] names An names.length cn (fun _ => True) (fun _ => False) rfl rfl ?aO ?aR (fun _ _ h => h) (fun _ h => h.elim) (fun _ _ => trivial) ?aB ?aS ?aL ?_; (case aO => exact HO5.out); (case aR => exact Kd.C_below CNM2.out HN5.out); (case aB => exact HN5.out); (case aS => exact below_size HN5.out); (case aL => have := HLT.out; have := HK.out.2; simp; omega); intro v9 w9 hr9 hb9 hg9 hat9; obtain ⟨A9, c9, rfl⟩ := Kd.R_slice hr9; have HO9 := Lib.hid hr9; have HB9 := Lib.hid hb9; clear hr9 hb9 hg9 hat9))
      go_roundg k2
      case measure => omega
      case rel =>
        exact ⟨name :: names, A9, c9, E2, e2, F2, f2, rfl, by first | (rw [HWI.out]; rfl) | (rw [HWI'.out]; rfl) | rfl, ⟨by simp; omega, fun n hn => by rcases List.mem_cons.1 hn with rfl | hn; exact HNN.out; exact HNM.out n hn⟩, ⟨(Kd.R_reads' HO9.out).2.1⟩, ⟨blk_below B8.out HB9.out⟩, ⟨fun W1 e1 => ⟨((FO.out.step (Ext.of_below HB9.out)) W1 e1).1, fo_R HO9.out (blk_lt B8.out) W1 e1⟩⟩, ⟨below_step HB.out HB9.out⟩⟩
end Go.Proofs.YtdghnfmhcnlppaaGreatDoor.Eval
