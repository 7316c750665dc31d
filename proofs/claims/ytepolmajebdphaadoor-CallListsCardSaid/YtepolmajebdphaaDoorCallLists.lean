/- stolelaw18.CallLists, walked: it answers true, whatever the items. -/
import Derived.Test.YtepolmajebdphaaDoorCallKit
namespace Go.Proofs.YtepolmajebdphaaDoor.Fns
open Go.RowKit Go.Proofs.YtepolmajebdphaaDoor.Q Go.Proofs.YtepolmajebdphaaDoor.Real Go.Proofs.YtepolmajebdphaaDoor.RealPure Go.Proofs.YtepolmajebdphaaDoor.Values Go.Proofs.YtepolmajebdphaaDoorW.PrintWords Go.Proofs.YtepolmajebdphaaDoorW.PrintLast Go.Proofs.YtepolmajebdphaaDoorW.PrintMore
set_option linter.unusedSimpArgs false
set_option linter.unusedVariables false
set_option maxRecDepth 100000

theorem index_list (l : List V) (i : Int) : indexR (listT l) (numV i) = if i < 0 ∨ (l.length : Int) ≤ i then (z26, 1803) else (rd_T26 l i, 0) := rfl
set_option maxHeartbeats 64000000 in
theorem callLists_calls (A : Option Addr) (l : List V) (c : Nat) (n : Int) (w : World) (hT : Tabs w) (hl : l.length ≤ c) (hr : Kd.C k26 w A l.length l) (hw : ∀ z ∈ l, ∀ d, rngD d z) :
    Calls Tryd.prog 10 #[.slice A l.length c, .int .i64 n] w fun e w' => e = .returned (.bool true) ∧ Below w.heap.size w w' := by
  have hu26 := Tryd.underlying26
  have HR : Rows4 w (listT l) A c none 0 := ⟨hr, hl, Kd.C_nil _ _, Nat.le_refl _⟩
  have hrg : rngD 8 (listT l) := ⟨Int.le_refl 0, (by show (0 : Int) < 2 ^ 64; decide), fun z hz => hw z hz 7⟩
  have AW := Lib.hid (fun W (h : Below w.heap.size w W) => awake18_calls W (hT.below h))
  have MV := Lib.hid (show ∀ W, Below w.heap.size w W → Calls Tryd.prog 29 #[.agg #[.int .i64 5, .int .i64 0, .int .u64 0, .string ⟨#[]⟩, .slice A l.length c, .slice none 0 0]] W fun e w' => e = .returned (.bool (mayB (listT l))) ∧ Below W.heap.size W w' from fun W h => RefMay_calls (listT l) A c none 0 W (HR.below h))
  have GL := Lib.hid (show ∀ W, Below w.heap.size w W → Calls Tryd.prog 42 #[.string (⟨#[108, 101, 110]⟩ : ByteArray), .slice (some ⟨W.heap.size, 0, none⟩) 1 1] (W.alloc (.cells #[.int .i64 5, .int .i64 0, .int .u64 0, .string ⟨#[]⟩, .slice A l.length c, .slice none 0 0] 26)) fun e w' => GotR W w' e (callR (⟨#[108, 101, 110]⟩ : ByteArray) [listT l]) from call1 (⟨#[108, 101, 110]⟩ : ByteArray) (listT l) A c none 0 w hT HR hrg)
  have GI := Lib.hid (show ∀ (i : Int) (g : Nat) (W : World), Below w.heap.size w W → W.heap[g]? = some (.cells #[.int .i64 5, .int .i64 0, .int .u64 0, .string ⟨#[]⟩, .slice A l.length c, .slice none 0 0, .int .i64 2, .int .i64 i, .int .u64 0, .string ⟨#[]⟩, .slice none 0 0, .slice none 0 0] 26 (0, 0)) → Calls Tryd.prog 42 #[.string (⟨#[105, 110, 100, 101, 120]⟩ : ByteArray), .slice (some ⟨g, 0, none⟩) 2 2] W fun e w' => Got W w' e (callR (⟨#[105, 110, 100, 101, 120]⟩ : ByteArray) [listT l, numV i]) from fun i => call2g (⟨#[105, 110, 100, 101, 120]⟩ : ByteArray) (listT l) (numV i) A c none 0 w hT HR hrg rfl rfl (Int.le_refl 0) (by show (0 : Int) < 2 ^ 64; decide))
  have GT := Lib.hid (show ∀ (g : Nat) (W : World), Below w.heap.size w W → W.heap[g]? = some (.cells #[.int .i64 5, .int .i64 0, .int .u64 0, .string ⟨#[]⟩, .slice A l.length c, .slice none 0 0, .int .i64 4, .int .i64 0, .int .u64 0, .string ⟨#[48]⟩, .slice none 0 0, .slice none 0 0] 26 (0, 0)) → Calls Tryd.prog 42 #[.string (⟨#[105, 110, 100, 101, 120]⟩ : ByteArray), .slice (some ⟨g, 0, none⟩) 2 2] W fun e w' => Got W w' e (callR (⟨#[105, 110, 100, 101, 120]⟩ : ByteArray) [listT l, textV ⟨#[48]⟩]) from call2g (⟨#[105, 110, 100, 101, 120]⟩ : ByteArray) (listT l) (textV ⟨#[48]⟩) A c none 0 w hT HR hrg rfl rfl (Int.le_refl 0) (by show (0 : Int) < 2 ^ 64; decide))
  have hub : 0 ≤ IntKind.u64.wrap n ∧ IntKind.u64.wrap n < 2 ^ 64 := by
    rw [show IntKind.u64.wrap n = n % 18446744073709551616 from rfl]
    omega
  have GB := Lib.hid (show ∀ (g : Nat) (W : World), Below w.heap.size w W → W.heap[g]? = some (.cells #[.int .i64 5, .int .i64 0, .int .u64 0, .string ⟨#[]⟩, .slice A l.length c, .slice none 0 0, .int .i64 3, .int .i64 0, .int .u64 (IntKind.u64.wrap n), .string ⟨#[]⟩, .slice none 0 0, .slice none 0 0] 26 (0, 0)) → Calls Tryd.prog 42 #[.string (⟨#[105, 110, 100, 101, 120]⟩ : ByteArray), .slice (some ⟨g, 0, none⟩) 2 2] W fun e w' => Got W w' e (callR (⟨#[105, 110, 100, 101, 120]⟩ : ByteArray) [listT l, bitsV (IntKind.u64.wrap n)]) from call2g (⟨#[105, 110, 100, 101, 120]⟩ : ByteArray) (listT l) (bitsV (IntKind.u64.wrap n)) A c none 0 w hT HR hrg rfl rfl hub.1 hub.2)
  have CN := Lib.hid num18; have CT := Lib.hid text18; have CB := Lib.hid bits18
  have HRR := Lib.hid hr
  have HLR := Lib.hid hr.2.1
  by_cases hm : mayB (listT l) = true
  case neg =>
    have hmf : mayB (listT l) = false := by simpa using hm
    rw [callR_bad _ _ 0 (by kernel_rfl) (by kernel_rfl) (by kernel_rfl) (listT l) (by simp) hmf] at GL
    rw [hmf] at MV
    clear hm hmf hT hl hr hw HR hrg GI GT GB hub
    go_enter Tryd.func10, Tryd.ntmps10
    go_upto_region 4 with (first | (go_at_call 41; (with_reducible refine (AW.out _ (Below.refl _ _)).mono ?_); rintro e w1 ⟨rfl, hbn⟩; have HB := Lib.hid hbn; clear hbn))
    have hbn := below_alloc (Below.refl w1.heap.size w1) (.cells #[.int .i64 5, .int .i64 0, .int .u64 0, .string ⟨#[]⟩, .slice A l.length c, .slice none 0 0] 26)
    have HB' := Lib.hid (below_step HB.out hbn); clear HB; have HB := HB'; clear HB'
    have XV := Lib.hid (blk_new w1 (.cells #[.int .i64 5, .int .i64 0, .int .u64 0, .string ⟨#[]⟩, .slice A l.length c, .slice none 0 0] 26))
    clear hbn
    generalize w1.alloc (.cells #[.int .i64 5, .int .i64 0, .int .u64 0, .string ⟨#[]⟩, .slice A l.length c, .slice none 0 0] 26) = w3 at *
    generalize w1.heap.size = gv at *
    obtain ⟨v0, v1, v2, v3, v4, v5⟩ := six18 XV.out
    go_wp2_with (first | (go_at_call 29; (with_reducible refine (MV.out _ HB.out).mono ?_); rintro e w4 ⟨rfl, hbn⟩; have HB' := Lib.hid (below_step HB.out hbn); have XV' := Lib.hid (blk_below XV.out hbn); clear HB; have HB := HB'; clear HB'; clear XV; have XV := XV'; clear XV'; (try clear v0 v1 v2 v3 v4 v5); obtain ⟨v0, v1, v2, v3, v4, v5⟩ := six18 XV.out; clear hbn) | (go_at_call 42; (with_reducible refine (GL.out _ HB.out).mono ?_); rintro e wk ⟨E, e1, F, f1, rfl, hr, hbn⟩; have HB' := Lib.hid (below_step HB.out hbn); have XV' := Lib.hid (blk_below XV.out hbn); clear HB; have HB := HB'; clear HB'; clear XV; have XV := XV'; clear XV'; have RX := Lib.hid hr; have BN := Lib.hid (blk_new wk zeros); clear hbn hr) | ((with_reducible refine gate_store (t := 26) (p := 6) rfl ?_); refine row_event (by rfl) (by rfl) (by rfl) (by rfl) (by rfl) BN.out (by exact size26) (by rfl) (by first | rfl | simp [Value.oneCell']) ?_; intro wm hz ho hb0; have hbn := hb0 (w0 := wk) (Nat.le_refl _) (below_alloc (Below.refl _ _) _); have HB' := Lib.hid (below_step HB.out hbn); have XV' := Lib.hid (blk_below XV.out hbn); have RX' := Lib.hid (Rows4.below RX.out hbn); clear HB; have HB := HB'; clear HB'; clear XV; have XV := XV'; clear XV'; clear RX; have RX := RX'; clear RX'; have BX := Lib.hid hz; (try clear v0 v1 v2 v3 v4 v5); obtain ⟨v0, v1, v2, v3, v4, v5⟩ := six18 XV.out; clear hz ho hb0 hbn BN) | (go_at_call 25; (with_reducible refine (numC _ _).mono ?_); rintro e wd ⟨rfl, ⟨nd, rfl⟩⟩))
    all_goals (go_ret; exact ⟨rfl, by first | exact HB.out | exact pw_below_drewN HB.out _⟩)
  case pos =>
  have h64 : l.length ≤ 64 := (len_of_may hm).1
  rw [callR_len (listT l) hm (.inl rfl)] at GL
  rw [hm] at MV
  obtain ⟨K, hK⟩ : ∃ K, numV (listT l).f4.length = K := ⟨_, rfl⟩
  rw [hK] at GL
  have KE := Lib.hid (show K = numV l.length from hK.symm)
  have hGT : callR (⟨#[105, 110, 100, 101, 120]⟩ : ByteArray) [listT l, textV ⟨#[48]⟩] = (z26, 1802) := by rw [callR_index _ _ hm (by kernel_rfl)]; rfl
  have hGB : callR (⟨#[105, 110, 100, 101, 120]⟩ : ByteArray) [listT l, bitsV (IntKind.u64.wrap n)] = (z26, 1802) := by rw [callR_index _ _ hm (may_bitsV _)]; rfl
  rw [hGT] at GT; rw [hGB] at GB
  have HI := Lib.hid (fun (i : Int) (h0 : -1 ≤ i) (h1 : i ≤ 64) => (callR_index (listT l) (numV i) hm (may_numV i (by omega) (by omega))).trans (index_list l i))
  have H64 := Lib.hid h64
  clear hm hT hl hr hw HR hrg hub hK hGT hGB h64
  go_enter Tryd.func10, Tryd.ntmps10
  go_upto_region 4 with (first | (go_at_call 41; (with_reducible refine (AW.out _ (Below.refl _ _)).mono ?_); rintro e w1 ⟨rfl, hbn⟩; have HB := Lib.hid hbn; clear hbn))
  have hbn := below_alloc (Below.refl w1.heap.size w1) (.cells #[.int .i64 5, .int .i64 0, .int .u64 0, .string ⟨#[]⟩, .slice A l.length c, .slice none 0 0] 26)
  have HB' := Lib.hid (below_step HB.out hbn); clear HB; have HB := HB'; clear HB'
  have XV := Lib.hid (blk_new w1 (.cells #[.int .i64 5, .int .i64 0, .int .u64 0, .string ⟨#[]⟩, .slice A l.length c, .slice none 0 0] 26))
  clear hbn
  generalize w1.alloc (.cells #[.int .i64 5, .int .i64 0, .int .u64 0, .string ⟨#[]⟩, .slice A l.length c, .slice none 0 0] 26) = w3 at *
  generalize w1.heap.size = gv at *
  obtain ⟨v0, v1, v2, v3, v4, v5⟩ := six18 XV.out
  go_upto_region 8 with (first | (go_at_call 29; (with_reducible refine (MV.out _ HB.out).mono ?_); rintro e w4 ⟨rfl, hbn⟩; have HB' := Lib.hid (below_step HB.out hbn); have XV' := Lib.hid (blk_below XV.out hbn); clear HB; have HB := HB'; clear HB'; clear XV; have XV := XV'; clear XV'; (try clear v0 v1 v2 v3 v4 v5); obtain ⟨v0, v1, v2, v3, v4, v5⟩ := six18 XV.out; clear hbn) | (go_at_call 42; (with_reducible refine (GL.out _ HB.out).mono ?_); rintro e wk ⟨E, e1, F, f1, rfl, hr, hbn⟩; have HB' := Lib.hid (below_step HB.out hbn); have XV' := Lib.hid (blk_below XV.out hbn); clear HB; have HB := HB'; clear HB'; clear XV; have XV := XV'; clear XV'; have RX := Lib.hid hr; have BN := Lib.hid (blk_new wk zeros); clear hbn hr) | ((with_reducible refine gate_store (t := 26) (p := 8) rfl ?_); refine row_event (by rfl) (by rfl) (by rfl) (by rfl) (by rfl) BN.out (by exact size26) (by rfl) (by first | rfl | simp [Value.oneCell']) ?_; intro wm hz ho hb0; have hbn := hb0 (w0 := wk) (Nat.le_refl _) (below_alloc (Below.refl _ _) _); have HB' := Lib.hid (below_step HB.out hbn); have XV' := Lib.hid (blk_below XV.out hbn); have RX' := Lib.hid (Rows4.below RX.out hbn); clear HB; have HB := HB'; clear HB'; clear XV; have XV := XV'; clear XV'; clear RX; have RX := RX'; clear RX'; have BX := Lib.hid hz; (try clear v0 v1 v2 v3 v4 v5); obtain ⟨v0, v1, v2, v3, v4, v5⟩ := six18 XV.out; clear hz ho hb0 hbn BN))
  have CK := Lib.hid (show ∀ W, Below wm.drew.heap.size wm.drew W → Calls Tryd.prog 26 #[.agg #[.int .i64 K.f0, .int .i64 K.f1, .int .u64 K.f2, .string K.f3, .slice E K.f4.length e1, .slice F K.f5.length f1], .agg #[.int .i64 2, .int .i64 (l.length : Int), .int .u64 0, .string ⟨#[]⟩, .slice none 0 0, .slice none 0 0]] W fun e w' => e = .returned (.bool true) ∧ Below W.heap.size W w' from fun W h => by
    have hl4 : K.f4 = [] := by rw [KE.out]; rfl
    have hc := sv_all 1 K (numV l.length) E e1 F f1 none 0 none 0 W (deep_leaf K hl4) (Rows4.below RX.out (below_step (below_drew (Below.refl _ _)) h)) (rows_nil W (numV l.length) rfl rfl)
    rw [show svD 1 K (numV l.length) = true by rw [KE.out]; exact sv_refl 1 _ (deep_leaf _ rfl)] at hc
    exact hc)
  (try clear v0 v1 v2 v3 v4 v5)
  go_cut [49] (fun v49 wc => v49 = .bool false ∧ Aside0 (Below w.heap.size w wc) ∧ Aside0 (wc.heap[gv]? = some (.cells #[.int .i64 5, .int .i64 0, .int .u64 0, .string ⟨#[]⟩, .slice A l.length c, .slice none 0 0] 26 (0, 0))) ∧ Aside0 (Rows4 wc K E e1 F f1) ∧ Aside0 (wc.heap[wk.heap.size]? = some (.cells #[.int .i64 K.f0, .int .i64 K.f1, .int .u64 K.f2, .string K.f3, .slice E K.f4.length e1, .slice F K.f5.length f1] 26 (0, 0))))
  case first =>
    have hbn := below_drew (Below.refl wm.heap.size wm)
    have HB' := Lib.hid (below_step HB.out hbn); have XV' := Lib.hid (blk_below XV.out hbn); have RX' := Lib.hid (Rows4.below RX.out hbn); have BX' := Lib.hid (blk_below BX.out hbn); clear HB; have HB := HB'; clear HB'; clear XV; have XV := XV'; clear XV'; clear RX; have RX := RX'; clear RX'; clear BX; have BX := BX'; clear BX'
    clear hbn
    have KEEP : ∀ w', Below wm.drew.heap.size wm.drew w' → (Below wm.drew.heap.size wm.drew w' ∧ w'.cell? ⟨wk.heap.size, 0, none⟩ = some (.int .i64 K.f0) ∧ w'.cell? ⟨wk.heap.size, 1, none⟩ = some (.int .i64 K.f1) ∧ w'.cell? ⟨wk.heap.size, 2, none⟩ = some (.int .u64 K.f2) ∧ w'.cell? ⟨wk.heap.size, 3, none⟩ = some (.string K.f3) ∧ w'.cell? ⟨wk.heap.size, 4, none⟩ = some (.slice E K.f4.length e1) ∧ w'.cell? ⟨wk.heap.size, 5, none⟩ = some (.slice F K.f5.length f1)) := fun w' h => ⟨h, (At.of_box (blk_below BX.out h)).g0, (At.of_box (blk_below BX.out h)).g1, (At.of_box (blk_below BX.out h)).g2, (At.of_box (blk_below BX.out h)).g3, (At.of_box (blk_below BX.out h)).g4, (At.of_box (blk_below BX.out h)).g5⟩
    have KEEP := Lib.hid KEEP
    refine wp_region_held_drew (S := (fun w' => Below wm.drew.heap.size wm.drew w' ∧ w'.cell? ⟨wk.heap.size, 0, none⟩ = some (.int .i64 K.f0) ∧ w'.cell? ⟨wk.heap.size, 1, none⟩ = some (.int .i64 K.f1) ∧ w'.cell? ⟨wk.heap.size, 2, none⟩ = some (.int .u64 K.f2) ∧ w'.cell? ⟨wk.heap.size, 3, none⟩ = some (.string K.f3) ∧ w'.cell? ⟨wk.heap.size, 4, none⟩ = some (.slice E K.f4.length e1) ∧ w'.cell? ⟨wk.heap.size, 5, none⟩ = some (.slice F K.f5.length f1))) (by kernel_rfl) ?_ (fun hHeld => ?_)
    · exact KEEP.out _ (Below.refl _ _)
    refine wpAnyH_take (i := 0) (oi := ⟨some 39, _, _, _, _, _⟩) (v := ?_) rfl (by kernel_rfl) (by kernel_rfl) (by kernel_rfl) (fun _ _ _ h => h) ?_ (by assumption) ?_; rotate_left; (focus (refine Or.inl ⟨rfl, ?_⟩; intro w hSw; (try dsimp only at hSw); go_simp; (try with_reducible rfl); done)); (try simp only [Act.put, List.setIfInBounds_toArray, List.set_cons_zero, List.set_cons_succ])
    refine wpAnyH_ready (rs := [1]) (by kernel_rfl) (by simp) ?_
    refine AllReadyH.cons (o := ⟨some 40, _, _, _, _, _⟩) rfl (fun K hK => ?_) AllReadyH.nil
    go_simp
    (try (first | (go_at_call 25; (with_reducible refine (numB _ _).mono ?_); rintro e wn ⟨rfl, hb⟩) | (go_at_call 44; (with_reducible refine (CN.out _ _).mono ?_); rintro e wn ⟨rfl, hb⟩) | (go_at_call 26; (with_reducible refine (CK.out _ (by first | assumption | exact And.left (by assumption) | exact Below.refl _ _)).mono ?_); rintro e wn ⟨rfl, hb⟩)))
    refine hK.out _ _ ?_ (fun hHeld2 => ?_)
    · first | assumption | (exact KEEP.out _ (below_step (by first | assumption | exact And.left (by assumption) | exact Below.refl _ _) hb))
    clear hK K hHeld
    have hHeld := hHeld2; clear hHeld2
    (try simp only [Act.put, List.setIfInBounds_toArray, List.set_cons_zero, List.set_cons_succ])
    refine wpAnyH_take (i := 2) (oi := ⟨some 41, _, _, _, _, _⟩) (v := ?_) rfl (by kernel_rfl) (by kernel_rfl) (by kernel_rfl) (fun _ _ _ h => h) ?_ (by assumption) ?_; rotate_left; (focus (refine Or.inl ⟨rfl, ?_⟩; intro w hSw; (try dsimp only at hSw); go_simp; (try with_reducible rfl); done)); (try simp only [Act.put, List.setIfInBounds_toArray, List.set_cons_zero, List.set_cons_succ])
    refine wpAnyH_take (i := 3) (oi := ⟨some 42, _, _, _, _, _⟩) (v := ?_) rfl (by kernel_rfl) (by kernel_rfl) (by kernel_rfl) (fun _ _ _ h => h) ?_ (by assumption) ?_; rotate_left; (focus (refine Or.inl ⟨rfl, ?_⟩; intro w hSw; (try dsimp only at hSw); go_simp; (try with_reducible rfl); done)); (try simp only [Act.put, List.setIfInBounds_toArray, List.set_cons_zero, List.set_cons_succ])
    first | (refine wpAnyH_take (i := 4) (oi := ⟨some 43, _, _, _, _, _⟩) (v := ?_) rfl (by kernel_rfl) (by kernel_rfl) (by kernel_rfl) (fun _ _ _ h => h) ?_ (by assumption) ?_; rotate_left; (focus (refine Or.inl ⟨rfl, ?_⟩; intro w hSw; (try dsimp only at hSw); go_simp; (try with_reducible rfl); done)); (try simp only [Act.put, List.setIfInBounds_toArray, List.set_cons_zero, List.set_cons_succ])) | (refine wpAnyH_take (i := 4) (oi := ⟨some 43, _, _, _, _, _⟩) (v := undef) rfl (by kernel_rfl) (by kernel_rfl) (by kernel_rfl) (fun _ _ _ h => h) (Or.inr ⟨rfl, rfl⟩) (by assumption) ?_; (try simp only [Act.put, List.setIfInBounds_toArray, List.set_cons_zero, List.set_cons_succ]))
    first | (refine wpAnyH_take (i := 5) (oi := ⟨some 44, _, _, _, _, _⟩) (v := ?_) rfl (by kernel_rfl) (by kernel_rfl) (by kernel_rfl) (fun _ _ _ h => h) ?_ (by assumption) ?_; rotate_left; (focus (refine Or.inl ⟨rfl, ?_⟩; intro w hSw; (try dsimp only at hSw); go_simp; (try with_reducible rfl); done)); (try simp only [Act.put, List.setIfInBounds_toArray, List.set_cons_zero, List.set_cons_succ])) | (refine wpAnyH_take (i := 5) (oi := ⟨some 44, _, _, _, _, _⟩) (v := undef) rfl (by kernel_rfl) (by kernel_rfl) (by kernel_rfl) (fun _ _ _ h => h) (Or.inr ⟨rfl, rfl⟩) (by assumption) ?_; (try simp only [Act.put, List.setIfInBounds_toArray, List.set_cons_zero, List.set_cons_succ]))
    first | (refine wpAnyH_take (i := 6) (oi := ⟨some 45, _, _, _, _, _⟩) (v := ?_) rfl (by kernel_rfl) (by kernel_rfl) (by kernel_rfl) (fun _ _ _ h => h) ?_ (by assumption) ?_; rotate_left; (focus (refine Or.inl ⟨rfl, ?_⟩; intro w hSw; (try dsimp only at hSw); go_simp; (try with_reducible rfl); done)); (try simp only [Act.put, List.setIfInBounds_toArray, List.set_cons_zero, List.set_cons_succ])) | (refine wpAnyH_take (i := 6) (oi := ⟨some 45, _, _, _, _, _⟩) (v := undef) rfl (by kernel_rfl) (by kernel_rfl) (by kernel_rfl) (fun _ _ _ h => h) (Or.inr ⟨rfl, rfl⟩) (by assumption) ?_; (try simp only [Act.put, List.setIfInBounds_toArray, List.set_cons_zero, List.set_cons_succ]))
    refine wpAnyH_ready (rs := [7]) (by kernel_rfl) (by simp) ?_
    refine AllReadyH.cons (o := ⟨some 46, _, _, _, _, _⟩) rfl (fun K hK => ?_) AllReadyH.nil
    go_simp
    (try (first | (go_at_call 25; (with_reducible refine (numB _ _).mono ?_); rintro e wn ⟨rfl, hb⟩) | (go_at_call 44; (with_reducible refine (CN.out _ _).mono ?_); rintro e wn ⟨rfl, hb⟩) | (go_at_call 26; (with_reducible refine (CK.out _ (by first | assumption | exact And.left (by assumption) | exact Below.refl _ _)).mono ?_); rintro e wn ⟨rfl, hb⟩)))
    refine hK.out _ _ ?_ (fun hHeld2 => ?_)
    · first | assumption | (exact KEEP.out _ (below_step (by first | assumption | exact And.left (by assumption) | exact Below.refl _ _) hb))
    clear hK K hHeld
    have hHeld := hHeld2; clear hHeld2
    (try simp only [Act.put, List.setIfInBounds_toArray, List.set_cons_zero, List.set_cons_succ])
    refine wpAnyH_ready (rs := [8]) (by kernel_rfl) (by simp) ?_
    refine AllReadyH.cons (o := ⟨some 47, _, _, _, _, _⟩) rfl (fun K hK => ?_) AllReadyH.nil
    go_simp
    (try (first | (go_at_call 25; (with_reducible refine (numB _ _).mono ?_); rintro e wn ⟨rfl, hb⟩) | (go_at_call 44; (with_reducible refine (CN.out _ _).mono ?_); rintro e wn ⟨rfl, hb⟩) | (go_at_call 26; (with_reducible refine (CK.out _ (by first | assumption | exact And.left (by assumption) | exact Below.refl _ _)).mono ?_); rintro e wn ⟨rfl, hb⟩)))
    refine hK.out _ _ ?_ (fun hHeld2 => ?_)
    · first | assumption | (exact KEEP.out _ (below_step (by first | assumption | exact And.left (by assumption) | exact Below.refl _ _) hb))
    clear hK K hHeld
    have hHeld := hHeld2; clear hHeld2
    (try simp only [Act.put, List.setIfInBounds_toArray, List.set_cons_zero, List.set_cons_succ])
    first | (refine wpAnyH_take (i := 9) (oi := ⟨some 48, _, _, _, _, _⟩) (v := ?_) rfl (by kernel_rfl) (by kernel_rfl) (by kernel_rfl) (fun _ _ _ h => h) ?_ (by assumption) ?_; rotate_left; (focus (refine Or.inl ⟨rfl, ?_⟩; intro w hSw; (try dsimp only at hSw); go_simp; (try with_reducible rfl); done)); (try simp only [Act.put, List.setIfInBounds_toArray, List.set_cons_zero, List.set_cons_succ])) | (refine wpAnyH_take (i := 9) (oi := ⟨some 48, _, _, _, _, _⟩) (v := undef) rfl (by kernel_rfl) (by kernel_rfl) (by kernel_rfl) (fun _ _ _ h => h) (Or.inr ⟨rfl, rfl⟩) (by assumption) ?_; (try simp only [Act.put, List.setIfInBounds_toArray, List.set_cons_zero, List.set_cons_succ]))
    refine wpAnyH_take (i := 10) (oi := ⟨some 49, _, _, _, _, _⟩) (v := ?_) rfl (by kernel_rfl) (by kernel_rfl) (by kernel_rfl) (fun _ _ _ h => h) ?_ (by assumption) ?_; rotate_left; (focus (refine Or.inl ⟨rfl, ?_⟩; intro w hSw; (try dsimp only at hSw); go_simp; (try with_reducible rfl); done)); (try simp only [Act.put, List.setIfInBounds_toArray, List.set_cons_zero, List.set_cons_succ])
    refine wpAnyH_done (by kernel_rfl) ?_ _
    all_goals
      (try go_wp2)
      go_meet
      case rel =>
        exact ⟨rfl, ⟨below_step HB.out (by first | assumption | exact And.left (by assumption) | exact Below.refl _ _)⟩, ⟨blk_below XV.out (by first | assumption | exact And.left (by assumption) | exact Below.refl _ _)⟩, ⟨Rows4.below RX.out (by first | assumption | exact And.left (by assumption) | exact Below.refl _ _)⟩, ⟨blk_below BX.out (by first | assumption | exact And.left (by assumption) | exact Below.refl _ _)⟩⟩
  case rest =>
  clear HB XV RX BX
  obtain ⟨rfl, HB0, XV0, RX0, BX0⟩ := hcut
  have HB := Lib.hid HB0.out; clear HB0; have XV := Lib.hid XV0.out; clear XV0; have RX := Lib.hid RX0.out; clear RX0; have BX := Lib.hid BX0.out; clear BX0
  clear BX RX CK KE
  go_wp2
  go_loopg [10] (l.length + 2) (fun kq v10 wr => ∃ (i : Int), v10 = .int .i64 i ∧ Aside0 (i + kq = l.length + 1 ∧ -1 ≤ i) ∧ Aside0 (Below w.heap.size w wr) ∧ Aside0 (wr.heap[gv]? = some (.cells #[.int .i64 5, .int .i64 0, .int .u64 0, .string ⟨#[]⟩, .slice A l.length c, .slice none 0 0] 26 (0, 0))))
  case atStart => exact ⟨-1, rfl, ⟨by omega, by omega⟩, ⟨HB.out⟩, ⟨XV.out⟩⟩
  case round =>
  clear HB XV
  obtain ⟨i, rfl, HQ, HB0, XV0⟩ := hrel
  have HB := Lib.hid HB0.out; have XV := Lib.hid XV0.out
  clear HB0 XV0
  obtain ⟨hi1, hi0⟩ := HQ.out
  have h64 := H64.out
  cases gk with
  | zero =>
    have hlt : decide (i ≤ (l.length : Int)) = false := decide_eq_false (by omega)
    clear hi1 hi0 h64
    go_upto_region 16 with (fail)
    go_cut [13, 14] (fun v13 v14 wc => ∃ (gx : Nat) (E2 : Option Addr) (e2 : Nat) (F2 : Option Addr) (f2 : Nat), v13 = .pointer (some ⟨gx, 0, none⟩) ∧ v14 = .int .i64 1802 ∧ Aside0 (Below w.heap.size w wc) ∧ Aside0 (wc.heap[gv]? = some (.cells #[.int .i64 5, .int .i64 0, .int .u64 0, .string ⟨#[]⟩, .slice A l.length c, .slice none 0 0] 26 (0, 0))) ∧ Aside0 (wc.heap[gx]? = some (.cells #[.int .i64 z26.f0, .int .i64 z26.f1, .int .u64 z26.f2, .string z26.f3, .slice E2 z26.f4.length e2, .slice F2 z26.f5.length f2] 26 (0, 0))) ∧ Aside0 (Rows4 wc z26 E2 e2 F2 f2))
    case first =>
      have XVD := Lib.hid (blk_below XV.out (below_drew (Below.refl wr.heap.size wr)))
      have hbn := below_drew (Below.refl wr.heap.size wr)
      have HB' := Lib.hid (below_step HB.out hbn); have XV' := Lib.hid (blk_below XV.out hbn); clear HB; have HB := HB'; clear HB'; clear XV; have XV := XV'; clear XV'
      clear hbn
      (try clear l0 l1 l2 l3 l4 l5 v0 v1 v2 v3 v4 v5)
      generalize hWD : wr.drew = wd at *
      have KEEP := Lib.hid (show ∀ w', Below wd.heap.size wd w' → (fun w' => Below wd.heap.size wd w' ∧ w'.cell? ⟨gv, 0, none⟩ = some (.int .i64 5) ∧ w'.cell? ⟨gv, 1, none⟩ = some (.int .i64 0) ∧ w'.cell? ⟨gv, 2, none⟩ = some (.int .u64 0) ∧ w'.cell? ⟨gv, 3, none⟩ = some (.string ⟨#[]⟩) ∧ w'.cell? ⟨gv, 4, none⟩ = some (.slice A l.length c) ∧ w'.cell? ⟨gv, 5, none⟩ = some (.slice none 0 0)) w' from fun w' h => ⟨h, (blk_cell (blk_below XVD.out h) 0).trans rfl, (blk_cell (blk_below XVD.out h) 1).trans rfl, (blk_cell (blk_below XVD.out h) 2).trans rfl, (blk_cell (blk_below XVD.out h) 3).trans rfl, (blk_cell (blk_below XVD.out h) 4).trans rfl, (blk_cell (blk_below XVD.out h) 5).trans rfl⟩)
      refine wp_region_held_drew (S := (fun w' => Below wd.heap.size wd w' ∧ w'.cell? ⟨gv, 0, none⟩ = some (.int .i64 5) ∧ w'.cell? ⟨gv, 1, none⟩ = some (.int .i64 0) ∧ w'.cell? ⟨gv, 2, none⟩ = some (.int .u64 0) ∧ w'.cell? ⟨gv, 3, none⟩ = some (.string ⟨#[]⟩) ∧ w'.cell? ⟨gv, 4, none⟩ = some (.slice A l.length c) ∧ w'.cell? ⟨gv, 5, none⟩ = some (.slice none 0 0))) (by kernel_rfl) ?_ (fun hHeld => ?_)
      · rw [hWD]; exact KEEP.out _ (Below.refl _ _)
      rw [hWD] at hHeld ⊢
      clear hWD XVD
      have HN := Lib.hid (Below.refl wd.heap.size wd)
      refine wpAnyH_take (i := 0) (oi := ⟨some 101, _, _, _, _, _⟩) (v := ?_) rfl (by as_aux_lemma => kernel_rfl) (by as_aux_lemma => kernel_rfl) (by as_aux_lemma => kernel_rfl) (fun _ _ _ h => h) ?_ (by assumption) ?_; rotate_left; (focus (refine Or.inl ⟨rfl, ?_⟩; intro w hSw; (try dsimp only at hSw); go_simp; (try with_reducible rfl); done)); (try simp only [Act.put, List.setIfInBounds_toArray, List.set_cons_zero, List.set_cons_succ])
      refine wpAnyH_ready (rs := [1, 7]) (by kernel_rfl) (by simp) ?_
      refine AllReadyH.cons (o := ⟨some 102, _, _, _, _, _⟩) rfl (fun K hK => ?_) (AllReadyH.cons (o := ⟨some 13, _, _, _, _, _⟩) rfl (fun K hK => ?_) AllReadyH.nil)
      · go_simp
        go_at_call 45
        (with_reducible refine (CT.out _ _).mono ?_)
        rintro e wn ⟨rfl, hb⟩
        refine hK.out _ _ (KEEP.out _ (below_step HN.out hb)) (fun hHeld2 => ?_)
        have HN' := Lib.hid (below_step HN.out hb); clear HN; have HN := HN'; clear HN'
        clear hb; clear hK K hHeld; have hHeld := hHeld2; clear hHeld2; (try simp only [Act.put, List.setIfInBounds_toArray, List.set_cons_zero, List.set_cons_succ])
        refine wpAnyH_ready (rs := [2, 7]) (by kernel_rfl) (by simp) ?_
        refine AllReadyH.cons (o := ⟨some 103, _, _, _, _, _⟩) rfl (fun K hK => ?_) (AllReadyH.cons (o := ⟨some 13, _, _, _, _, _⟩) rfl (fun K hK => ?_) AllReadyH.nil)
        · go_simp
          have hb := below_alloc (Below.refl wn.heap.size wn) (.cells #[.int .i64 5, .int .i64 0, .int .u64 0, .string ⟨#[]⟩, .slice A l.length c, .slice none 0 0, .int .i64 4, .int .i64 0, .int .u64 0, .string ⟨#[48]⟩, .slice none 0 0, .slice none 0 0] 26)
          refine hK.out _ _ (KEEP.out _ (below_step HN.out hb)) (fun hHeld2 => ?_)
          have GA := Lib.hid (blk_new wn (.cells #[.int .i64 5, .int .i64 0, .int .u64 0, .string ⟨#[]⟩, .slice A l.length c, .slice none 0 0, .int .i64 4, .int .i64 0, .int .u64 0, .string ⟨#[48]⟩, .slice none 0 0, .slice none 0 0] 26))
          have HN' := Lib.hid (below_step HN.out hb); clear HN; have HN := HN'; clear HN'
          clear hb; clear hK K hHeld; have hHeld := hHeld2; clear hHeld2; (try simp only [Act.put, List.setIfInBounds_toArray, List.set_cons_zero, List.set_cons_succ])
          generalize hgk : wn.alloc (.cells #[.int .i64 5, .int .i64 0, .int .u64 0, .string ⟨#[]⟩, .slice A l.length c, .slice none 0 0, .int .i64 4, .int .i64 0, .int .u64 0, .string ⟨#[48]⟩, .slice none 0 0, .slice none 0 0] 26) = wk at *; clear hgk
          obtain ⟨gk_, hgk⟩ : ∃ gk_, wn.heap.size = gk_ := ⟨_, rfl⟩; rw [hgk] at GA; (try rw [hgk]); clear hgk
          refine wpAnyH_ready (rs := [3, 7]) (by kernel_rfl) (by simp) ?_
          refine AllReadyH.cons (o := ⟨some 104, _, _, _, _, _⟩) rfl (fun K hK => ?_) (AllReadyH.cons (o := ⟨some 13, _, _, _, _, _⟩) rfl (fun K hK => ?_) AllReadyH.nil)
          · go_simp
            go_at_call 42
            (with_reducible refine (GT.out _ _ (below_step HB.out HN.out) GA.out).mono ?_)
            rintro e wm ⟨v4, v5, rfl, hk4, hk5, hb⟩
            obtain ⟨E2, e2, rfl⟩ := Kd.R_slice hk4; obtain ⟨F2, f2, rfl⟩ := Kd.R_slice hk5; have RK := Lib.hid (And.intro hk4 hk5); clear hk4 hk5
            refine hK.out _ _ (KEEP.out _ (below_step HN.out hb)) (fun hHeld2 => ?_)
            have HN' := Lib.hid (below_step HN.out hb); clear HN; have HN := HN'; clear HN'
            clear hb GA; clear hK K hHeld; have hHeld := hHeld2; clear hHeld2; (try simp only [Act.put, List.setIfInBounds_toArray, List.set_cons_zero, List.set_cons_succ])
            refine wpAnyH_take (i := 4) (oi := ⟨some 100, _, _, _, _, _⟩) (v := ?_) rfl (by as_aux_lemma => kernel_rfl) (by as_aux_lemma => kernel_rfl) (by as_aux_lemma => kernel_rfl) (fun _ _ _ h => h) ?_ (by assumption) ?_; rotate_left; (focus (refine Or.inl ⟨rfl, ?_⟩; intro w hSw; (try dsimp only at hSw); go_simp; (try with_reducible rfl); done)); (try simp only [Act.put, List.setIfInBounds_toArray, List.set_cons_zero, List.set_cons_succ])
            refine wpAnyH_take (i := 5) (oi := ⟨some 105, _, _, _, _, _⟩) (v := ?_) rfl (by as_aux_lemma => kernel_rfl) (by as_aux_lemma => kernel_rfl) (by as_aux_lemma => kernel_rfl) (fun _ _ _ h => h) ?_ (by assumption) ?_; rotate_left; (focus (refine Or.inl ⟨rfl, ?_⟩; intro w hSw; (try dsimp only at hSw); go_simp; (try with_reducible rfl); done)); (try simp only [Act.put, List.setIfInBounds_toArray, List.set_cons_zero, List.set_cons_succ])
            refine wpAnyH_take (i := 6) (oi := ⟨some 106, _, _, _, _, _⟩) (v := ?_) rfl (by as_aux_lemma => kernel_rfl) (by as_aux_lemma => kernel_rfl) (by as_aux_lemma => kernel_rfl) (fun _ _ _ h => h) ?_ (by assumption) ?_; rotate_left; (focus (refine Or.inl ⟨rfl, ?_⟩; intro w hSw; (try dsimp only at hSw); go_simp; (try with_reducible rfl); done)); (try simp only [Act.put, List.setIfInBounds_toArray, List.set_cons_zero, List.set_cons_succ])
            refine wpAnyH_ready (rs := [7]) (by kernel_rfl) (by simp) ?_
            refine AllReadyH.cons (o := ⟨some 13, _, _, _, _, _⟩) rfl (fun K hK => ?_) AllReadyH.nil
            go_simp
            have hb := below_alloc (Below.refl wm.heap.size wm) zeros
            refine hK.out _ _ (KEEP.out _ (below_step HN.out hb)) (fun hHeld2 => ?_)
            have BXZ := Lib.hid (blk_new wm zeros)
            have HNA := Lib.hid (below_step HN.out hb)
            clear hb; clear hK K hHeld; have hHeld := hHeld2; clear hHeld2; (try simp only [Act.put, List.setIfInBounds_toArray, List.set_cons_zero, List.set_cons_succ])
            refine wpAnyH_ready (rs := [8]) (by kernel_rfl) (by simp) ?_
            refine AllReadyH.cons (o := ⟨none, _, _, _, _, _⟩) rfl (fun K hK => ?_) AllReadyH.nil
            have HF := Lib.hid (below_alloc HN.out (.cells #[.int .i64 z26.f0, .int .i64 z26.f1, .int .u64 z26.f2, .string z26.f3, .slice E2 z26.f4.length e2, .slice F2 z26.f5.length f2] 26))
            have HX := Lib.hid (blk_new wm (.cells #[.int .i64 z26.f0, .int .i64 z26.f1, .int .u64 z26.f2, .string z26.f3, .slice E2 z26.f4.length e2, .slice F2 z26.f5.length f2] 26))
            have HRW := Lib.hid (rows_from RK.out (same_alloc wm (.cells #[.int .i64 z26.f0, .int .i64 z26.f1, .int .u64 z26.f2, .string z26.f3, .slice E2 z26.f4.length e2, .slice F2 z26.f5.length f2] 26) _))
            go_simp
            refine hK.out _ _ (KEEP.out _ HF.out) (fun hHeld2 => ?_)
            clear hK K hHeld; have hHeld := hHeld2; clear hHeld2; (try simp only [Act.put, List.setIfInBounds_toArray, List.set_cons_zero, List.set_cons_succ])
            refine wpAnyH_take (i := 9) (oi := ⟨some 14, _, _, _, _, _⟩) (v := ?_) rfl (by as_aux_lemma => kernel_rfl) (by as_aux_lemma => kernel_rfl) (by as_aux_lemma => kernel_rfl) (fun _ _ _ h => h) ?_ (by assumption) ?_; rotate_left; (focus (refine Or.inl ⟨rfl, ?_⟩; intro w hSw; (try dsimp only at hSw); go_simp; (try with_reducible rfl); done)); (try simp only [Act.put, List.setIfInBounds_toArray, List.set_cons_zero, List.set_cons_succ])
            refine wpAnyH_done (by kernel_rfl) ?_ _
            go_wp2
            go_meet
            case rel =>
              exact ⟨_, _, _, _, _, rfl, rfl, ⟨below_step HB.out HF.out⟩, ⟨blk_below XV.out HF.out⟩, ⟨HX.out⟩, ⟨HRW.out⟩⟩
          · go_simp
            have hb := below_alloc (Below.refl wk.heap.size wk) zeros
            refine hK.out _ _ (KEEP.out _ (below_step HN.out hb)) (fun hHeld2 => ?_)
            have BXZ := Lib.hid (blk_new wk zeros)
            have HGX := Lib.hid (below_size HN.out)
            have HN' := Lib.hid (below_step HN.out hb); clear HN; have HN := HN'; clear HN'
            have GA' := Lib.hid (blk_below GA.out hb); clear GA; have GA := GA'; clear GA'
            clear hb; clear hK K hHeld; have hHeld := hHeld2; clear hHeld2; (try simp only [Act.put, List.setIfInBounds_toArray, List.set_cons_zero, List.set_cons_succ])
            generalize hgx : wk.alloc zeros = wx at *; clear hgx
            refine wpAnyH_ready (rs := [3]) (by kernel_rfl) (by simp) ?_
            refine AllReadyH.cons (o := ⟨some 104, _, _, _, _, _⟩) rfl (fun K hK => ?_) AllReadyH.nil
            go_simp
            go_at_call 42
            (with_reducible refine (GT.out _ _ (below_step HB.out HN.out) GA.out).mono ?_)
            rintro e wm ⟨v4, v5, rfl, hk4, hk5, hb⟩
            obtain ⟨E2, e2, rfl⟩ := Kd.R_slice hk4; obtain ⟨F2, f2, rfl⟩ := Kd.R_slice hk5; have RK := Lib.hid (And.intro hk4 hk5); clear hk4 hk5
            refine hK.out _ _ (KEEP.out _ (below_step HN.out hb)) (fun hHeld2 => ?_)
            have HGL := Lib.hid (blk_lt BXZ.out)
            have HN' := Lib.hid (below_step HN.out hb); clear HN; have HN := HN'; clear HN'; have BXZ' := Lib.hid (blk_below BXZ.out hb); clear BXZ; have BXZ := BXZ'; clear BXZ'
            clear hb GA; clear hK K hHeld; have hHeld := hHeld2; clear hHeld2; (try simp only [Act.put, List.setIfInBounds_toArray, List.set_cons_zero, List.set_cons_succ])
            refine wpAnyH_take (i := 4) (oi := ⟨some 100, _, _, _, _, _⟩) (v := ?_) rfl (by as_aux_lemma => kernel_rfl) (by as_aux_lemma => kernel_rfl) (by as_aux_lemma => kernel_rfl) (fun _ _ _ h => h) ?_ (by assumption) ?_; rotate_left; (focus (refine Or.inl ⟨rfl, ?_⟩; intro w hSw; (try dsimp only at hSw); go_simp; (try with_reducible rfl); done)); (try simp only [Act.put, List.setIfInBounds_toArray, List.set_cons_zero, List.set_cons_succ])
            refine wpAnyH_take (i := 5) (oi := ⟨some 105, _, _, _, _, _⟩) (v := ?_) rfl (by as_aux_lemma => kernel_rfl) (by as_aux_lemma => kernel_rfl) (by as_aux_lemma => kernel_rfl) (fun _ _ _ h => h) ?_ (by assumption) ?_; rotate_left; (focus (refine Or.inl ⟨rfl, ?_⟩; intro w hSw; (try dsimp only at hSw); go_simp; (try with_reducible rfl); done)); (try simp only [Act.put, List.setIfInBounds_toArray, List.set_cons_zero, List.set_cons_succ])
            refine wpAnyH_take (i := 6) (oi := ⟨some 106, _, _, _, _, _⟩) (v := ?_) rfl (by as_aux_lemma => kernel_rfl) (by as_aux_lemma => kernel_rfl) (by as_aux_lemma => kernel_rfl) (fun _ _ _ h => h) ?_ (by assumption) ?_; rotate_left; (focus (refine Or.inl ⟨rfl, ?_⟩; intro w hSw; (try dsimp only at hSw); go_simp; (try with_reducible rfl); done)); (try simp only [Act.put, List.setIfInBounds_toArray, List.set_cons_zero, List.set_cons_succ])
            refine wpAnyH_ready (rs := [8]) (by kernel_rfl) (by simp) ?_
            refine AllReadyH.cons (o := ⟨none, _, _, _, _, _⟩) rfl (fun K hK => ?_) AllReadyH.nil
            have nz0 := (blk_cell BXZ.out 0).trans rfl; have fz0 := blk_frozen BXZ.out 0; have nz1 := (blk_cell BXZ.out 1).trans rfl; have fz1 := blk_frozen BXZ.out 1; have nz2 := (blk_cell BXZ.out 2).trans rfl; have fz2 := blk_frozen BXZ.out 2; have nz3 := (blk_cell BXZ.out 3).trans rfl; have fz3 := blk_frozen BXZ.out 3; have nz4 := (blk_cell BXZ.out 4).trans rfl; have fz4 := blk_frozen BXZ.out 4; have nz5 := (blk_cell BXZ.out 5).trans rfl; have fz5 := blk_frozen BXZ.out 5
            go_simp
            have HF := Lib.hid (six_below HN.out HGX.out (.int .i64 z26.f0) (.int .i64 z26.f1) (.int .u64 z26.f2) (.string z26.f3) (.slice E2 z26.f4.length e2) (.slice F2 z26.f5.length f2))
            have HX := Lib.hid (six_put BXZ.out (.int .i64 z26.f0) (.int .i64 z26.f1) (.int .u64 z26.f2) (.string z26.f3) (.slice E2 z26.f4.length e2) (.slice F2 z26.f5.length f2))
            have HRW := Lib.hid (rows_from RK.out (same_six HGL.out (.int .i64 z26.f0) (.int .i64 z26.f1) (.int .u64 z26.f2) (.string z26.f3) (.slice E2 z26.f4.length e2) (.slice F2 z26.f5.length f2)))
            clear nz0 nz1 nz2 nz3 nz4 nz5 fz0 fz1 fz2 fz3 fz4 fz5
            refine hK.out _ _ (KEEP.out _ HF.out) (fun hHeld2 => ?_)
            clear hK K hHeld; have hHeld := hHeld2; clear hHeld2; (try simp only [Act.put, List.setIfInBounds_toArray, List.set_cons_zero, List.set_cons_succ])
            refine wpAnyH_take (i := 9) (oi := ⟨some 14, _, _, _, _, _⟩) (v := ?_) rfl (by as_aux_lemma => kernel_rfl) (by as_aux_lemma => kernel_rfl) (by as_aux_lemma => kernel_rfl) (fun _ _ _ h => h) ?_ (by assumption) ?_; rotate_left; (focus (refine Or.inl ⟨rfl, ?_⟩; intro w hSw; (try dsimp only at hSw); go_simp; (try with_reducible rfl); done)); (try simp only [Act.put, List.setIfInBounds_toArray, List.set_cons_zero, List.set_cons_succ])
            refine wpAnyH_done (by kernel_rfl) ?_ _
            go_wp2
            go_meet
            case rel =>
              exact ⟨_, _, _, _, _, rfl, rfl, ⟨below_step HB.out HF.out⟩, ⟨blk_below XV.out HF.out⟩, ⟨HX.out⟩, ⟨HRW.out⟩⟩
        · go_simp
          have hb := below_alloc (Below.refl wn.heap.size wn) zeros
          refine hK.out _ _ (KEEP.out _ (below_step HN.out hb)) (fun hHeld2 => ?_)
          have BXZ := Lib.hid (blk_new wn zeros)
          have HGX := Lib.hid (below_size HN.out)
          have HN' := Lib.hid (below_step HN.out hb); clear HN; have HN := HN'; clear HN'
          clear hb; clear hK K hHeld; have hHeld := hHeld2; clear hHeld2; (try simp only [Act.put, List.setIfInBounds_toArray, List.set_cons_zero, List.set_cons_succ])
          generalize hgx : wn.alloc zeros = wx at *; clear hgx
          refine wpAnyH_ready (rs := [2]) (by kernel_rfl) (by simp) ?_
          refine AllReadyH.cons (o := ⟨some 103, _, _, _, _, _⟩) rfl (fun K hK => ?_) AllReadyH.nil
          go_simp
          have hb := below_alloc (Below.refl wx.heap.size wx) (.cells #[.int .i64 5, .int .i64 0, .int .u64 0, .string ⟨#[]⟩, .slice A l.length c, .slice none 0 0, .int .i64 4, .int .i64 0, .int .u64 0, .string ⟨#[48]⟩, .slice none 0 0, .slice none 0 0] 26)
          refine hK.out _ _ (KEEP.out _ (below_step HN.out hb)) (fun hHeld2 => ?_)
          have GA := Lib.hid (blk_new wx (.cells #[.int .i64 5, .int .i64 0, .int .u64 0, .string ⟨#[]⟩, .slice A l.length c, .slice none 0 0, .int .i64 4, .int .i64 0, .int .u64 0, .string ⟨#[48]⟩, .slice none 0 0, .slice none 0 0] 26))
          have HN' := Lib.hid (below_step HN.out hb); clear HN; have HN := HN'; clear HN'; have BXZ' := Lib.hid (blk_below BXZ.out hb); clear BXZ; have BXZ := BXZ'; clear BXZ'
          clear hb; clear hK K hHeld; have hHeld := hHeld2; clear hHeld2; (try simp only [Act.put, List.setIfInBounds_toArray, List.set_cons_zero, List.set_cons_succ])
          generalize hgk : wx.alloc (.cells #[.int .i64 5, .int .i64 0, .int .u64 0, .string ⟨#[]⟩, .slice A l.length c, .slice none 0 0, .int .i64 4, .int .i64 0, .int .u64 0, .string ⟨#[48]⟩, .slice none 0 0, .slice none 0 0] 26) = wk at *; clear hgk
          obtain ⟨gk_, hgk⟩ : ∃ gk_, wx.heap.size = gk_ := ⟨_, rfl⟩; rw [hgk] at GA; (try rw [hgk]); clear hgk
          refine wpAnyH_ready (rs := [3]) (by kernel_rfl) (by simp) ?_
          refine AllReadyH.cons (o := ⟨some 104, _, _, _, _, _⟩) rfl (fun K hK => ?_) AllReadyH.nil
          go_simp
          go_at_call 42
          (with_reducible refine (GT.out _ _ (below_step HB.out HN.out) GA.out).mono ?_)
          rintro e wm ⟨v4, v5, rfl, hk4, hk5, hb⟩
          obtain ⟨E2, e2, rfl⟩ := Kd.R_slice hk4; obtain ⟨F2, f2, rfl⟩ := Kd.R_slice hk5; have RK := Lib.hid (And.intro hk4 hk5); clear hk4 hk5
          refine hK.out _ _ (KEEP.out _ (below_step HN.out hb)) (fun hHeld2 => ?_)
          have HGL := Lib.hid (blk_lt BXZ.out)
          have HN' := Lib.hid (below_step HN.out hb); clear HN; have HN := HN'; clear HN'; have BXZ' := Lib.hid (blk_below BXZ.out hb); clear BXZ; have BXZ := BXZ'; clear BXZ'
          clear hb GA; clear hK K hHeld; have hHeld := hHeld2; clear hHeld2; (try simp only [Act.put, List.setIfInBounds_toArray, List.set_cons_zero, List.set_cons_succ])
          refine wpAnyH_take (i := 4) (oi := ⟨some 100, _, _, _, _, _⟩) (v := ?_) rfl (by as_aux_lemma => kernel_rfl) (by as_aux_lemma => kernel_rfl) (by as_aux_lemma => kernel_rfl) (fun _ _ _ h => h) ?_ (by assumption) ?_; rotate_left; (focus (refine Or.inl ⟨rfl, ?_⟩; intro w hSw; (try dsimp only at hSw); go_simp; (try with_reducible rfl); done)); (try simp only [Act.put, List.setIfInBounds_toArray, List.set_cons_zero, List.set_cons_succ])
          refine wpAnyH_take (i := 5) (oi := ⟨some 105, _, _, _, _, _⟩) (v := ?_) rfl (by as_aux_lemma => kernel_rfl) (by as_aux_lemma => kernel_rfl) (by as_aux_lemma => kernel_rfl) (fun _ _ _ h => h) ?_ (by assumption) ?_; rotate_left; (focus (refine Or.inl ⟨rfl, ?_⟩; intro w hSw; (try dsimp only at hSw); go_simp; (try with_reducible rfl); done)); (try simp only [Act.put, List.setIfInBounds_toArray, List.set_cons_zero, List.set_cons_succ])
          refine wpAnyH_take (i := 6) (oi := ⟨some 106, _, _, _, _, _⟩) (v := ?_) rfl (by as_aux_lemma => kernel_rfl) (by as_aux_lemma => kernel_rfl) (by as_aux_lemma => kernel_rfl) (fun _ _ _ h => h) ?_ (by assumption) ?_; rotate_left; (focus (refine Or.inl ⟨rfl, ?_⟩; intro w hSw; (try dsimp only at hSw); go_simp; (try with_reducible rfl); done)); (try simp only [Act.put, List.setIfInBounds_toArray, List.set_cons_zero, List.set_cons_succ])
          refine wpAnyH_ready (rs := [8]) (by kernel_rfl) (by simp) ?_
          refine AllReadyH.cons (o := ⟨none, _, _, _, _, _⟩) rfl (fun K hK => ?_) AllReadyH.nil
          have nz0 := (blk_cell BXZ.out 0).trans rfl; have fz0 := blk_frozen BXZ.out 0; have nz1 := (blk_cell BXZ.out 1).trans rfl; have fz1 := blk_frozen BXZ.out 1; have nz2 := (blk_cell BXZ.out 2).trans rfl; have fz2 := blk_frozen BXZ.out 2; have nz3 := (blk_cell BXZ.out 3).trans rfl; have fz3 := blk_frozen BXZ.out 3; have nz4 := (blk_cell BXZ.out 4).trans rfl; have fz4 := blk_frozen BXZ.out 4; have nz5 := (blk_cell BXZ.out 5).trans rfl; have fz5 := blk_frozen BXZ.out 5
          go_simp
          have HF := Lib.hid (six_below HN.out HGX.out (.int .i64 z26.f0) (.int .i64 z26.f1) (.int .u64 z26.f2) (.string z26.f3) (.slice E2 z26.f4.length e2) (.slice F2 z26.f5.length f2))
          have HX := Lib.hid (six_put BXZ.out (.int .i64 z26.f0) (.int .i64 z26.f1) (.int .u64 z26.f2) (.string z26.f3) (.slice E2 z26.f4.length e2) (.slice F2 z26.f5.length f2))
          have HRW := Lib.hid (rows_from RK.out (same_six HGL.out (.int .i64 z26.f0) (.int .i64 z26.f1) (.int .u64 z26.f2) (.string z26.f3) (.slice E2 z26.f4.length e2) (.slice F2 z26.f5.length f2)))
          clear nz0 nz1 nz2 nz3 nz4 nz5 fz0 fz1 fz2 fz3 fz4 fz5
          refine hK.out _ _ (KEEP.out _ HF.out) (fun hHeld2 => ?_)
          clear hK K hHeld; have hHeld := hHeld2; clear hHeld2; (try simp only [Act.put, List.setIfInBounds_toArray, List.set_cons_zero, List.set_cons_succ])
          refine wpAnyH_take (i := 9) (oi := ⟨some 14, _, _, _, _, _⟩) (v := ?_) rfl (by as_aux_lemma => kernel_rfl) (by as_aux_lemma => kernel_rfl) (by as_aux_lemma => kernel_rfl) (fun _ _ _ h => h) ?_ (by assumption) ?_; rotate_left; (focus (refine Or.inl ⟨rfl, ?_⟩; intro w hSw; (try dsimp only at hSw); go_simp; (try with_reducible rfl); done)); (try simp only [Act.put, List.setIfInBounds_toArray, List.set_cons_zero, List.set_cons_succ])
          refine wpAnyH_done (by kernel_rfl) ?_ _
          go_wp2
          go_meet
          case rel =>
            exact ⟨_, _, _, _, _, rfl, rfl, ⟨below_step HB.out HF.out⟩, ⟨blk_below XV.out HF.out⟩, ⟨HX.out⟩, ⟨HRW.out⟩⟩
      · go_simp
        have hb := below_alloc (Below.refl wd.heap.size wd) zeros
        refine hK.out _ _ (KEEP.out _ (below_step HN.out hb)) (fun hHeld2 => ?_)
        have BXZ := Lib.hid (blk_new wd zeros)
        have HGX := Lib.hid (below_size HN.out)
        have HN' := Lib.hid (below_step HN.out hb); clear HN; have HN := HN'; clear HN'
        clear hb; clear hK K hHeld; have hHeld := hHeld2; clear hHeld2; (try simp only [Act.put, List.setIfInBounds_toArray, List.set_cons_zero, List.set_cons_succ])
        generalize hgx : wd.alloc zeros = wx at *; clear hgx
        refine wpAnyH_ready (rs := [1]) (by kernel_rfl) (by simp) ?_
        refine AllReadyH.cons (o := ⟨some 102, _, _, _, _, _⟩) rfl (fun K hK => ?_) AllReadyH.nil
        go_simp
        go_at_call 45
        (with_reducible refine (CT.out _ _).mono ?_)
        rintro e wn ⟨rfl, hb⟩
        refine hK.out _ _ (KEEP.out _ (below_step HN.out hb)) (fun hHeld2 => ?_)
        have HN' := Lib.hid (below_step HN.out hb); clear HN; have HN := HN'; clear HN'; have BXZ' := Lib.hid (blk_below BXZ.out hb); clear BXZ; have BXZ := BXZ'; clear BXZ'
        clear hb; clear hK K hHeld; have hHeld := hHeld2; clear hHeld2; (try simp only [Act.put, List.setIfInBounds_toArray, List.set_cons_zero, List.set_cons_succ])
        refine wpAnyH_ready (rs := [2]) (by kernel_rfl) (by simp) ?_
        refine AllReadyH.cons (o := ⟨some 103, _, _, _, _, _⟩) rfl (fun K hK => ?_) AllReadyH.nil
        go_simp
        have hb := below_alloc (Below.refl wn.heap.size wn) (.cells #[.int .i64 5, .int .i64 0, .int .u64 0, .string ⟨#[]⟩, .slice A l.length c, .slice none 0 0, .int .i64 4, .int .i64 0, .int .u64 0, .string ⟨#[48]⟩, .slice none 0 0, .slice none 0 0] 26)
        refine hK.out _ _ (KEEP.out _ (below_step HN.out hb)) (fun hHeld2 => ?_)
        have GA := Lib.hid (blk_new wn (.cells #[.int .i64 5, .int .i64 0, .int .u64 0, .string ⟨#[]⟩, .slice A l.length c, .slice none 0 0, .int .i64 4, .int .i64 0, .int .u64 0, .string ⟨#[48]⟩, .slice none 0 0, .slice none 0 0] 26))
        have HN' := Lib.hid (below_step HN.out hb); clear HN; have HN := HN'; clear HN'; have BXZ' := Lib.hid (blk_below BXZ.out hb); clear BXZ; have BXZ := BXZ'; clear BXZ'
        clear hb; clear hK K hHeld; have hHeld := hHeld2; clear hHeld2; (try simp only [Act.put, List.setIfInBounds_toArray, List.set_cons_zero, List.set_cons_succ])
        generalize hgk : wn.alloc (.cells #[.int .i64 5, .int .i64 0, .int .u64 0, .string ⟨#[]⟩, .slice A l.length c, .slice none 0 0, .int .i64 4, .int .i64 0, .int .u64 0, .string ⟨#[48]⟩, .slice none 0 0, .slice none 0 0] 26) = wk at *; clear hgk
        obtain ⟨gk_, hgk⟩ : ∃ gk_, wn.heap.size = gk_ := ⟨_, rfl⟩; rw [hgk] at GA; (try rw [hgk]); clear hgk
        refine wpAnyH_ready (rs := [3]) (by kernel_rfl) (by simp) ?_
        refine AllReadyH.cons (o := ⟨some 104, _, _, _, _, _⟩) rfl (fun K hK => ?_) AllReadyH.nil
        go_simp
        go_at_call 42
        (with_reducible refine (GT.out _ _ (below_step HB.out HN.out) GA.out).mono ?_)
        rintro e wm ⟨v4, v5, rfl, hk4, hk5, hb⟩
        obtain ⟨E2, e2, rfl⟩ := Kd.R_slice hk4; obtain ⟨F2, f2, rfl⟩ := Kd.R_slice hk5; have RK := Lib.hid (And.intro hk4 hk5); clear hk4 hk5
        refine hK.out _ _ (KEEP.out _ (below_step HN.out hb)) (fun hHeld2 => ?_)
        have HGL := Lib.hid (blk_lt BXZ.out)
        have HN' := Lib.hid (below_step HN.out hb); clear HN; have HN := HN'; clear HN'; have BXZ' := Lib.hid (blk_below BXZ.out hb); clear BXZ; have BXZ := BXZ'; clear BXZ'
        clear hb GA; clear hK K hHeld; have hHeld := hHeld2; clear hHeld2; (try simp only [Act.put, List.setIfInBounds_toArray, List.set_cons_zero, List.set_cons_succ])
        refine wpAnyH_take (i := 4) (oi := ⟨some 100, _, _, _, _, _⟩) (v := ?_) rfl (by as_aux_lemma => kernel_rfl) (by as_aux_lemma => kernel_rfl) (by as_aux_lemma => kernel_rfl) (fun _ _ _ h => h) ?_ (by assumption) ?_; rotate_left; (focus (refine Or.inl ⟨rfl, ?_⟩; intro w hSw; (try dsimp only at hSw); go_simp; (try with_reducible rfl); done)); (try simp only [Act.put, List.setIfInBounds_toArray, List.set_cons_zero, List.set_cons_succ])
        refine wpAnyH_take (i := 5) (oi := ⟨some 105, _, _, _, _, _⟩) (v := ?_) rfl (by as_aux_lemma => kernel_rfl) (by as_aux_lemma => kernel_rfl) (by as_aux_lemma => kernel_rfl) (fun _ _ _ h => h) ?_ (by assumption) ?_; rotate_left; (focus (refine Or.inl ⟨rfl, ?_⟩; intro w hSw; (try dsimp only at hSw); go_simp; (try with_reducible rfl); done)); (try simp only [Act.put, List.setIfInBounds_toArray, List.set_cons_zero, List.set_cons_succ])
        refine wpAnyH_take (i := 6) (oi := ⟨some 106, _, _, _, _, _⟩) (v := ?_) rfl (by as_aux_lemma => kernel_rfl) (by as_aux_lemma => kernel_rfl) (by as_aux_lemma => kernel_rfl) (fun _ _ _ h => h) ?_ (by assumption) ?_; rotate_left; (focus (refine Or.inl ⟨rfl, ?_⟩; intro w hSw; (try dsimp only at hSw); go_simp; (try with_reducible rfl); done)); (try simp only [Act.put, List.setIfInBounds_toArray, List.set_cons_zero, List.set_cons_succ])
        refine wpAnyH_ready (rs := [8]) (by kernel_rfl) (by simp) ?_
        refine AllReadyH.cons (o := ⟨none, _, _, _, _, _⟩) rfl (fun K hK => ?_) AllReadyH.nil
        have nz0 := (blk_cell BXZ.out 0).trans rfl; have fz0 := blk_frozen BXZ.out 0; have nz1 := (blk_cell BXZ.out 1).trans rfl; have fz1 := blk_frozen BXZ.out 1; have nz2 := (blk_cell BXZ.out 2).trans rfl; have fz2 := blk_frozen BXZ.out 2; have nz3 := (blk_cell BXZ.out 3).trans rfl; have fz3 := blk_frozen BXZ.out 3; have nz4 := (blk_cell BXZ.out 4).trans rfl; have fz4 := blk_frozen BXZ.out 4; have nz5 := (blk_cell BXZ.out 5).trans rfl; have fz5 := blk_frozen BXZ.out 5
        go_simp
        have HF := Lib.hid (six_below HN.out HGX.out (.int .i64 z26.f0) (.int .i64 z26.f1) (.int .u64 z26.f2) (.string z26.f3) (.slice E2 z26.f4.length e2) (.slice F2 z26.f5.length f2))
        have HX := Lib.hid (six_put BXZ.out (.int .i64 z26.f0) (.int .i64 z26.f1) (.int .u64 z26.f2) (.string z26.f3) (.slice E2 z26.f4.length e2) (.slice F2 z26.f5.length f2))
        have HRW := Lib.hid (rows_from RK.out (same_six HGL.out (.int .i64 z26.f0) (.int .i64 z26.f1) (.int .u64 z26.f2) (.string z26.f3) (.slice E2 z26.f4.length e2) (.slice F2 z26.f5.length f2)))
        clear nz0 nz1 nz2 nz3 nz4 nz5 fz0 fz1 fz2 fz3 fz4 fz5
        refine hK.out _ _ (KEEP.out _ HF.out) (fun hHeld2 => ?_)
        clear hK K hHeld; have hHeld := hHeld2; clear hHeld2; (try simp only [Act.put, List.setIfInBounds_toArray, List.set_cons_zero, List.set_cons_succ])
        refine wpAnyH_take (i := 9) (oi := ⟨some 14, _, _, _, _, _⟩) (v := ?_) rfl (by as_aux_lemma => kernel_rfl) (by as_aux_lemma => kernel_rfl) (by as_aux_lemma => kernel_rfl) (fun _ _ _ h => h) ?_ (by assumption) ?_; rotate_left; (focus (refine Or.inl ⟨rfl, ?_⟩; intro w hSw; (try dsimp only at hSw); go_simp; (try with_reducible rfl); done)); (try simp only [Act.put, List.setIfInBounds_toArray, List.set_cons_zero, List.set_cons_succ])
        refine wpAnyH_done (by kernel_rfl) ?_ _
        go_wp2
        go_meet
        case rel =>
          exact ⟨_, _, _, _, _, rfl, rfl, ⟨below_step HB.out HF.out⟩, ⟨blk_below XV.out HF.out⟩, ⟨HX.out⟩, ⟨HRW.out⟩⟩
    case rest =>
    (try clear l0 l1 l2 l3 l4 l5)
    clear HB XV
    obtain ⟨gx, E2, e2, F2, f2, rfl, rfl, HB0, XV0, BX0, RX0⟩ := hcut
    have HB := Lib.hid HB0.out; clear HB0; have XV := Lib.hid XV0.out; clear XV0; have BX := Lib.hid BX0.out; clear BX0; have RX := Lib.hid RX0.out; clear RX0
    clear BX RX
    go_upto_region 17 with (fail)
    go_cut [15, 16] (fun v15 v16 wc => ∃ (gy : Nat) (E3 : Option Addr) (e3 : Nat) (F3 : Option Addr) (f3 : Nat), v15 = .pointer (some ⟨gy, 0, none⟩) ∧ v16 = .int .i64 1802 ∧ Aside0 (Below w.heap.size w wc) ∧ Aside0 (wc.heap[gv]? = some (.cells #[.int .i64 5, .int .i64 0, .int .u64 0, .string ⟨#[]⟩, .slice A l.length c, .slice none 0 0] 26 (0, 0))) ∧ Aside0 (wc.heap[gy]? = some (.cells #[.int .i64 z26.f0, .int .i64 z26.f1, .int .u64 z26.f2, .string z26.f3, .slice E3 z26.f4.length e3, .slice F3 z26.f5.length f3] 26 (0, 0))) ∧ Aside0 (Rows4 wc z26 E3 e3 F3 f3))
    case first =>
      have XVD := Lib.hid (blk_below XV.out (below_drew (Below.refl wc.heap.size wc)))
      have hbn := below_drew (Below.refl wc.heap.size wc)
      have HB' := Lib.hid (below_step HB.out hbn); have XV' := Lib.hid (blk_below XV.out hbn); clear HB; have HB := HB'; clear HB'; clear XV; have XV := XV'; clear XV'
      clear hbn
      (try clear l0 l1 l2 l3 l4 l5 v0 v1 v2 v3 v4 v5)
      generalize hWD : wc.drew = wd at *
      have KEEP := Lib.hid (show ∀ w', Below wd.heap.size wd w' → (fun w' => Below wd.heap.size wd w' ∧ w'.cell? ⟨gv, 0, none⟩ = some (.int .i64 5) ∧ w'.cell? ⟨gv, 1, none⟩ = some (.int .i64 0) ∧ w'.cell? ⟨gv, 2, none⟩ = some (.int .u64 0) ∧ w'.cell? ⟨gv, 3, none⟩ = some (.string ⟨#[]⟩) ∧ w'.cell? ⟨gv, 4, none⟩ = some (.slice A l.length c) ∧ w'.cell? ⟨gv, 5, none⟩ = some (.slice none 0 0)) w' from fun w' h => ⟨h, (blk_cell (blk_below XVD.out h) 0).trans rfl, (blk_cell (blk_below XVD.out h) 1).trans rfl, (blk_cell (blk_below XVD.out h) 2).trans rfl, (blk_cell (blk_below XVD.out h) 3).trans rfl, (blk_cell (blk_below XVD.out h) 4).trans rfl, (blk_cell (blk_below XVD.out h) 5).trans rfl⟩)
      refine wp_region_held_drew (S := (fun w' => Below wd.heap.size wd w' ∧ w'.cell? ⟨gv, 0, none⟩ = some (.int .i64 5) ∧ w'.cell? ⟨gv, 1, none⟩ = some (.int .i64 0) ∧ w'.cell? ⟨gv, 2, none⟩ = some (.int .u64 0) ∧ w'.cell? ⟨gv, 3, none⟩ = some (.string ⟨#[]⟩) ∧ w'.cell? ⟨gv, 4, none⟩ = some (.slice A l.length c) ∧ w'.cell? ⟨gv, 5, none⟩ = some (.slice none 0 0))) (by kernel_rfl) ?_ (fun hHeld => ?_)
      · rw [hWD]; exact KEEP.out _ (Below.refl _ _)
      rw [hWD] at hHeld ⊢
      clear hWD XVD
      have HN := Lib.hid (Below.refl wd.heap.size wd)
      refine wpAnyH_take (i := 0) (oi := ⟨some 108, _, _, _, _, _⟩) (v := ?_) rfl (by as_aux_lemma => kernel_rfl) (by as_aux_lemma => kernel_rfl) (by as_aux_lemma => kernel_rfl) (fun _ _ _ h => h) ?_ (by assumption) ?_; rotate_left; (focus (refine Or.inl ⟨rfl, ?_⟩; intro w hSw; (try dsimp only at hSw); go_simp; (try with_reducible rfl); done)); (try simp only [Act.put, List.setIfInBounds_toArray, List.set_cons_zero, List.set_cons_succ])
      refine wpAnyH_take (i := 1) (oi := ⟨some 109, _, _, _, _, _⟩) (v := ?_) rfl (by as_aux_lemma => kernel_rfl) (by as_aux_lemma => kernel_rfl) (by as_aux_lemma => kernel_rfl) (fun _ _ _ h => h) ?_ (by assumption) ?_; rotate_left; (focus (refine Or.inl ⟨rfl, ?_⟩; intro w hSw; (try dsimp only at hSw); go_simp; (try with_reducible rfl); done)); (try simp only [Act.put, List.setIfInBounds_toArray, List.set_cons_zero, List.set_cons_succ])
      refine wpAnyH_take (i := 2) (oi := ⟨some 110, _, _, _, _, _⟩) (v := ?_) rfl (by as_aux_lemma => kernel_rfl) (by as_aux_lemma => kernel_rfl) (by as_aux_lemma => kernel_rfl) (fun _ _ _ h => h) ?_ (by assumption) ?_; rotate_left; (focus (refine Or.inl ⟨rfl, ?_⟩; intro w hSw; (try dsimp only at hSw); go_simp; (try with_reducible rfl); done)); (try simp only [Act.put, List.setIfInBounds_toArray, List.set_cons_zero, List.set_cons_succ])
      refine wpAnyH_ready (rs := [3, 9]) (by kernel_rfl) (by simp) ?_
      refine AllReadyH.cons (o := ⟨some 111, _, _, _, _, _⟩) rfl (fun K hK => ?_) (AllReadyH.cons (o := ⟨some 15, _, _, _, _, _⟩) rfl (fun K hK => ?_) AllReadyH.nil)
      · go_simp
        go_at_call 46
        (with_reducible refine (CB.out _ _).mono ?_)
        rintro e wn ⟨rfl, hb⟩
        refine hK.out _ _ (KEEP.out _ (below_step HN.out hb)) (fun hHeld2 => ?_)
        have HN' := Lib.hid (below_step HN.out hb); clear HN; have HN := HN'; clear HN'
        clear hb; clear hK K hHeld; have hHeld := hHeld2; clear hHeld2; (try simp only [Act.put, List.setIfInBounds_toArray, List.set_cons_zero, List.set_cons_succ])
        refine wpAnyH_ready (rs := [4, 9]) (by kernel_rfl) (by simp) ?_
        refine AllReadyH.cons (o := ⟨some 112, _, _, _, _, _⟩) rfl (fun K hK => ?_) (AllReadyH.cons (o := ⟨some 15, _, _, _, _, _⟩) rfl (fun K hK => ?_) AllReadyH.nil)
        · go_simp
          have hb := below_alloc (Below.refl wn.heap.size wn) (.cells #[.int .i64 5, .int .i64 0, .int .u64 0, .string ⟨#[]⟩, .slice A l.length c, .slice none 0 0, .int .i64 3, .int .i64 0, .int .u64 (IntKind.u64.wrap n), .string ⟨#[]⟩, .slice none 0 0, .slice none 0 0] 26)
          refine hK.out _ _ (KEEP.out _ (below_step HN.out hb)) (fun hHeld2 => ?_)
          have GA := Lib.hid (blk_new wn (.cells #[.int .i64 5, .int .i64 0, .int .u64 0, .string ⟨#[]⟩, .slice A l.length c, .slice none 0 0, .int .i64 3, .int .i64 0, .int .u64 (IntKind.u64.wrap n), .string ⟨#[]⟩, .slice none 0 0, .slice none 0 0] 26))
          have HN' := Lib.hid (below_step HN.out hb); clear HN; have HN := HN'; clear HN'
          clear hb; clear hK K hHeld; have hHeld := hHeld2; clear hHeld2; (try simp only [Act.put, List.setIfInBounds_toArray, List.set_cons_zero, List.set_cons_succ])
          generalize hgk : wn.alloc (.cells #[.int .i64 5, .int .i64 0, .int .u64 0, .string ⟨#[]⟩, .slice A l.length c, .slice none 0 0, .int .i64 3, .int .i64 0, .int .u64 (IntKind.u64.wrap n), .string ⟨#[]⟩, .slice none 0 0, .slice none 0 0] 26) = wk at *; clear hgk
          obtain ⟨gk_, hgk⟩ : ∃ gk_, wn.heap.size = gk_ := ⟨_, rfl⟩; rw [hgk] at GA; (try rw [hgk]); clear hgk
          refine wpAnyH_ready (rs := [5, 9]) (by kernel_rfl) (by simp) ?_
          refine AllReadyH.cons (o := ⟨some 113, _, _, _, _, _⟩) rfl (fun K hK => ?_) (AllReadyH.cons (o := ⟨some 15, _, _, _, _, _⟩) rfl (fun K hK => ?_) AllReadyH.nil)
          · go_simp
            go_at_call 42
            (with_reducible refine (GB.out _ _ (below_step HB.out HN.out) GA.out).mono ?_)
            rintro e wm ⟨v4, v5, rfl, hk4, hk5, hb⟩
            obtain ⟨E3, e3, rfl⟩ := Kd.R_slice hk4; obtain ⟨F3, f3, rfl⟩ := Kd.R_slice hk5; have RK := Lib.hid (And.intro hk4 hk5); clear hk4 hk5
            refine hK.out _ _ (KEEP.out _ (below_step HN.out hb)) (fun hHeld2 => ?_)
            have HN' := Lib.hid (below_step HN.out hb); clear HN; have HN := HN'; clear HN'
            clear hb GA; clear hK K hHeld; have hHeld := hHeld2; clear hHeld2; (try simp only [Act.put, List.setIfInBounds_toArray, List.set_cons_zero, List.set_cons_succ])
            refine wpAnyH_take (i := 6) (oi := ⟨some 107, _, _, _, _, _⟩) (v := ?_) rfl (by as_aux_lemma => kernel_rfl) (by as_aux_lemma => kernel_rfl) (by as_aux_lemma => kernel_rfl) (fun _ _ _ h => h) ?_ (by assumption) ?_; rotate_left; (focus (refine Or.inl ⟨rfl, ?_⟩; intro w hSw; (try dsimp only at hSw); go_simp; (try with_reducible rfl); done)); (try simp only [Act.put, List.setIfInBounds_toArray, List.set_cons_zero, List.set_cons_succ])
            refine wpAnyH_take (i := 7) (oi := ⟨some 114, _, _, _, _, _⟩) (v := ?_) rfl (by as_aux_lemma => kernel_rfl) (by as_aux_lemma => kernel_rfl) (by as_aux_lemma => kernel_rfl) (fun _ _ _ h => h) ?_ (by assumption) ?_; rotate_left; (focus (refine Or.inl ⟨rfl, ?_⟩; intro w hSw; (try dsimp only at hSw); go_simp; (try with_reducible rfl); done)); (try simp only [Act.put, List.setIfInBounds_toArray, List.set_cons_zero, List.set_cons_succ])
            refine wpAnyH_take (i := 8) (oi := ⟨some 115, _, _, _, _, _⟩) (v := ?_) rfl (by as_aux_lemma => kernel_rfl) (by as_aux_lemma => kernel_rfl) (by as_aux_lemma => kernel_rfl) (fun _ _ _ h => h) ?_ (by assumption) ?_; rotate_left; (focus (refine Or.inl ⟨rfl, ?_⟩; intro w hSw; (try dsimp only at hSw); go_simp; (try with_reducible rfl); done)); (try simp only [Act.put, List.setIfInBounds_toArray, List.set_cons_zero, List.set_cons_succ])
            refine wpAnyH_ready (rs := [9]) (by kernel_rfl) (by simp) ?_
            refine AllReadyH.cons (o := ⟨some 15, _, _, _, _, _⟩) rfl (fun K hK => ?_) AllReadyH.nil
            go_simp
            have hb := below_alloc (Below.refl wm.heap.size wm) zeros
            refine hK.out _ _ (KEEP.out _ (below_step HN.out hb)) (fun hHeld2 => ?_)
            have BXZ := Lib.hid (blk_new wm zeros)
            have HNA := Lib.hid (below_step HN.out hb)
            clear hb; clear hK K hHeld; have hHeld := hHeld2; clear hHeld2; (try simp only [Act.put, List.setIfInBounds_toArray, List.set_cons_zero, List.set_cons_succ])
            refine wpAnyH_ready (rs := [10]) (by kernel_rfl) (by simp) ?_
            refine AllReadyH.cons (o := ⟨none, _, _, _, _, _⟩) rfl (fun K hK => ?_) AllReadyH.nil
            have HF := Lib.hid (below_alloc HN.out (.cells #[.int .i64 z26.f0, .int .i64 z26.f1, .int .u64 z26.f2, .string z26.f3, .slice E3 z26.f4.length e3, .slice F3 z26.f5.length f3] 26))
            have HX := Lib.hid (blk_new wm (.cells #[.int .i64 z26.f0, .int .i64 z26.f1, .int .u64 z26.f2, .string z26.f3, .slice E3 z26.f4.length e3, .slice F3 z26.f5.length f3] 26))
            have HRW := Lib.hid (rows_from RK.out (same_alloc wm (.cells #[.int .i64 z26.f0, .int .i64 z26.f1, .int .u64 z26.f2, .string z26.f3, .slice E3 z26.f4.length e3, .slice F3 z26.f5.length f3] 26) _))
            go_simp
            refine hK.out _ _ (KEEP.out _ HF.out) (fun hHeld2 => ?_)
            clear hK K hHeld; have hHeld := hHeld2; clear hHeld2; (try simp only [Act.put, List.setIfInBounds_toArray, List.set_cons_zero, List.set_cons_succ])
            refine wpAnyH_take (i := 11) (oi := ⟨some 16, _, _, _, _, _⟩) (v := ?_) rfl (by as_aux_lemma => kernel_rfl) (by as_aux_lemma => kernel_rfl) (by as_aux_lemma => kernel_rfl) (fun _ _ _ h => h) ?_ (by assumption) ?_; rotate_left; (focus (refine Or.inl ⟨rfl, ?_⟩; intro w hSw; (try dsimp only at hSw); go_simp; (try with_reducible rfl); done)); (try simp only [Act.put, List.setIfInBounds_toArray, List.set_cons_zero, List.set_cons_succ])
            refine wpAnyH_done (by kernel_rfl) ?_ _
            go_wp2
            go_meet
            case rel =>
              exact ⟨_, _, _, _, _, rfl, rfl, ⟨below_step HB.out HF.out⟩, ⟨blk_below XV.out HF.out⟩, ⟨HX.out⟩, ⟨HRW.out⟩⟩
          · go_simp
            have hb := below_alloc (Below.refl wk.heap.size wk) zeros
            refine hK.out _ _ (KEEP.out _ (below_step HN.out hb)) (fun hHeld2 => ?_)
            have BXZ := Lib.hid (blk_new wk zeros)
            have HGX := Lib.hid (below_size HN.out)
            have HN' := Lib.hid (below_step HN.out hb); clear HN; have HN := HN'; clear HN'
            have GA' := Lib.hid (blk_below GA.out hb); clear GA; have GA := GA'; clear GA'
            clear hb; clear hK K hHeld; have hHeld := hHeld2; clear hHeld2; (try simp only [Act.put, List.setIfInBounds_toArray, List.set_cons_zero, List.set_cons_succ])
            generalize hgx : wk.alloc zeros = wx at *; clear hgx
            refine wpAnyH_ready (rs := [5]) (by kernel_rfl) (by simp) ?_
            refine AllReadyH.cons (o := ⟨some 113, _, _, _, _, _⟩) rfl (fun K hK => ?_) AllReadyH.nil
            go_simp
            go_at_call 42
            (with_reducible refine (GB.out _ _ (below_step HB.out HN.out) GA.out).mono ?_)
            rintro e wm ⟨v4, v5, rfl, hk4, hk5, hb⟩
            obtain ⟨E3, e3, rfl⟩ := Kd.R_slice hk4; obtain ⟨F3, f3, rfl⟩ := Kd.R_slice hk5; have RK := Lib.hid (And.intro hk4 hk5); clear hk4 hk5
            refine hK.out _ _ (KEEP.out _ (below_step HN.out hb)) (fun hHeld2 => ?_)
            have HGL := Lib.hid (blk_lt BXZ.out)
            have HN' := Lib.hid (below_step HN.out hb); clear HN; have HN := HN'; clear HN'; have BXZ' := Lib.hid (blk_below BXZ.out hb); clear BXZ; have BXZ := BXZ'; clear BXZ'
            clear hb GA; clear hK K hHeld; have hHeld := hHeld2; clear hHeld2; (try simp only [Act.put, List.setIfInBounds_toArray, List.set_cons_zero, List.set_cons_succ])
            refine wpAnyH_take (i := 6) (oi := ⟨some 107, _, _, _, _, _⟩) (v := ?_) rfl (by as_aux_lemma => kernel_rfl) (by as_aux_lemma => kernel_rfl) (by as_aux_lemma => kernel_rfl) (fun _ _ _ h => h) ?_ (by assumption) ?_; rotate_left; (focus (refine Or.inl ⟨rfl, ?_⟩; intro w hSw; (try dsimp only at hSw); go_simp; (try with_reducible rfl); done)); (try simp only [Act.put, List.setIfInBounds_toArray, List.set_cons_zero, List.set_cons_succ])
            refine wpAnyH_take (i := 7) (oi := ⟨some 114, _, _, _, _, _⟩) (v := ?_) rfl (by as_aux_lemma => kernel_rfl) (by as_aux_lemma => kernel_rfl) (by as_aux_lemma => kernel_rfl) (fun _ _ _ h => h) ?_ (by assumption) ?_; rotate_left; (focus (refine Or.inl ⟨rfl, ?_⟩; intro w hSw; (try dsimp only at hSw); go_simp; (try with_reducible rfl); done)); (try simp only [Act.put, List.setIfInBounds_toArray, List.set_cons_zero, List.set_cons_succ])
            refine wpAnyH_take (i := 8) (oi := ⟨some 115, _, _, _, _, _⟩) (v := ?_) rfl (by as_aux_lemma => kernel_rfl) (by as_aux_lemma => kernel_rfl) (by as_aux_lemma => kernel_rfl) (fun _ _ _ h => h) ?_ (by assumption) ?_; rotate_left; (focus (refine Or.inl ⟨rfl, ?_⟩; intro w hSw; (try dsimp only at hSw); go_simp; (try with_reducible rfl); done)); (try simp only [Act.put, List.setIfInBounds_toArray, List.set_cons_zero, List.set_cons_succ])
            refine wpAnyH_ready (rs := [10]) (by kernel_rfl) (by simp) ?_
            refine AllReadyH.cons (o := ⟨none, _, _, _, _, _⟩) rfl (fun K hK => ?_) AllReadyH.nil
            have nz0 := (blk_cell BXZ.out 0).trans rfl; have fz0 := blk_frozen BXZ.out 0; have nz1 := (blk_cell BXZ.out 1).trans rfl; have fz1 := blk_frozen BXZ.out 1; have nz2 := (blk_cell BXZ.out 2).trans rfl; have fz2 := blk_frozen BXZ.out 2; have nz3 := (blk_cell BXZ.out 3).trans rfl; have fz3 := blk_frozen BXZ.out 3; have nz4 := (blk_cell BXZ.out 4).trans rfl; have fz4 := blk_frozen BXZ.out 4; have nz5 := (blk_cell BXZ.out 5).trans rfl; have fz5 := blk_frozen BXZ.out 5
            go_simp
            have HF := Lib.hid (six_below HN.out HGX.out (.int .i64 z26.f0) (.int .i64 z26.f1) (.int .u64 z26.f2) (.string z26.f3) (.slice E3 z26.f4.length e3) (.slice F3 z26.f5.length f3))
            have HX := Lib.hid (six_put BXZ.out (.int .i64 z26.f0) (.int .i64 z26.f1) (.int .u64 z26.f2) (.string z26.f3) (.slice E3 z26.f4.length e3) (.slice F3 z26.f5.length f3))
            have HRW := Lib.hid (rows_from RK.out (same_six HGL.out (.int .i64 z26.f0) (.int .i64 z26.f1) (.int .u64 z26.f2) (.string z26.f3) (.slice E3 z26.f4.length e3) (.slice F3 z26.f5.length f3)))
            clear nz0 nz1 nz2 nz3 nz4 nz5 fz0 fz1 fz2 fz3 fz4 fz5
            refine hK.out _ _ (KEEP.out _ HF.out) (fun hHeld2 => ?_)
            clear hK K hHeld; have hHeld := hHeld2; clear hHeld2; (try simp only [Act.put, List.setIfInBounds_toArray, List.set_cons_zero, List.set_cons_succ])
            refine wpAnyH_take (i := 11) (oi := ⟨some 16, _, _, _, _, _⟩) (v := ?_) rfl (by as_aux_lemma => kernel_rfl) (by as_aux_lemma => kernel_rfl) (by as_aux_lemma => kernel_rfl) (fun _ _ _ h => h) ?_ (by assumption) ?_; rotate_left; (focus (refine Or.inl ⟨rfl, ?_⟩; intro w hSw; (try dsimp only at hSw); go_simp; (try with_reducible rfl); done)); (try simp only [Act.put, List.setIfInBounds_toArray, List.set_cons_zero, List.set_cons_succ])
            refine wpAnyH_done (by kernel_rfl) ?_ _
            go_wp2
            go_meet
            case rel =>
              exact ⟨_, _, _, _, _, rfl, rfl, ⟨below_step HB.out HF.out⟩, ⟨blk_below XV.out HF.out⟩, ⟨HX.out⟩, ⟨HRW.out⟩⟩
        · go_simp
          have hb := below_alloc (Below.refl wn.heap.size wn) zeros
          refine hK.out _ _ (KEEP.out _ (below_step HN.out hb)) (fun hHeld2 => ?_)
          have BXZ := Lib.hid (blk_new wn zeros)
          have HGX := Lib.hid (below_size HN.out)
          have HN' := Lib.hid (below_step HN.out hb); clear HN; have HN := HN'; clear HN'
          clear hb; clear hK K hHeld; have hHeld := hHeld2; clear hHeld2; (try simp only [Act.put, List.setIfInBounds_toArray, List.set_cons_zero, List.set_cons_succ])
          generalize hgx : wn.alloc zeros = wx at *; clear hgx
          refine wpAnyH_ready (rs := [4]) (by kernel_rfl) (by simp) ?_
          refine AllReadyH.cons (o := ⟨some 112, _, _, _, _, _⟩) rfl (fun K hK => ?_) AllReadyH.nil
          go_simp
          have hb := below_alloc (Below.refl wx.heap.size wx) (.cells #[.int .i64 5, .int .i64 0, .int .u64 0, .string ⟨#[]⟩, .slice A l.length c, .slice none 0 0, .int .i64 3, .int .i64 0, .int .u64 (IntKind.u64.wrap n), .string ⟨#[]⟩, .slice none 0 0, .slice none 0 0] 26)
          refine hK.out _ _ (KEEP.out _ (below_step HN.out hb)) (fun hHeld2 => ?_)
          have GA := Lib.hid (blk_new wx (.cells #[.int .i64 5, .int .i64 0, .int .u64 0, .string ⟨#[]⟩, .slice A l.length c, .slice none 0 0, .int .i64 3, .int .i64 0, .int .u64 (IntKind.u64.wrap n), .string ⟨#[]⟩, .slice none 0 0, .slice none 0 0] 26))
          have HN' := Lib.hid (below_step HN.out hb); clear HN; have HN := HN'; clear HN'; have BXZ' := Lib.hid (blk_below BXZ.out hb); clear BXZ; have BXZ := BXZ'; clear BXZ'
          clear hb; clear hK K hHeld; have hHeld := hHeld2; clear hHeld2; (try simp only [Act.put, List.setIfInBounds_toArray, List.set_cons_zero, List.set_cons_succ])
          generalize hgk : wx.alloc (.cells #[.int .i64 5, .int .i64 0, .int .u64 0, .string ⟨#[]⟩, .slice A l.length c, .slice none 0 0, .int .i64 3, .int .i64 0, .int .u64 (IntKind.u64.wrap n), .string ⟨#[]⟩, .slice none 0 0, .slice none 0 0] 26) = wk at *; clear hgk
          obtain ⟨gk_, hgk⟩ : ∃ gk_, wx.heap.size = gk_ := ⟨_, rfl⟩; rw [hgk] at GA; (try rw [hgk]); clear hgk
          refine wpAnyH_ready (rs := [5]) (by kernel_rfl) (by simp) ?_
          refine AllReadyH.cons (o := ⟨some 113, _, _, _, _, _⟩) rfl (fun K hK => ?_) AllReadyH.nil
          go_simp
          go_at_call 42
          (with_reducible refine (GB.out _ _ (below_step HB.out HN.out) GA.out).mono ?_)
          rintro e wm ⟨v4, v5, rfl, hk4, hk5, hb⟩
          obtain ⟨E3, e3, rfl⟩ := Kd.R_slice hk4; obtain ⟨F3, f3, rfl⟩ := Kd.R_slice hk5; have RK := Lib.hid (And.intro hk4 hk5); clear hk4 hk5
          refine hK.out _ _ (KEEP.out _ (below_step HN.out hb)) (fun hHeld2 => ?_)
          have HGL := Lib.hid (blk_lt BXZ.out)
          have HN' := Lib.hid (below_step HN.out hb); clear HN; have HN := HN'; clear HN'; have BXZ' := Lib.hid (blk_below BXZ.out hb); clear BXZ; have BXZ := BXZ'; clear BXZ'
          clear hb GA; clear hK K hHeld; have hHeld := hHeld2; clear hHeld2; (try simp only [Act.put, List.setIfInBounds_toArray, List.set_cons_zero, List.set_cons_succ])
          refine wpAnyH_take (i := 6) (oi := ⟨some 107, _, _, _, _, _⟩) (v := ?_) rfl (by as_aux_lemma => kernel_rfl) (by as_aux_lemma => kernel_rfl) (by as_aux_lemma => kernel_rfl) (fun _ _ _ h => h) ?_ (by assumption) ?_; rotate_left; (focus (refine Or.inl ⟨rfl, ?_⟩; intro w hSw; (try dsimp only at hSw); go_simp; (try with_reducible rfl); done)); (try simp only [Act.put, List.setIfInBounds_toArray, List.set_cons_zero, List.set_cons_succ])
          refine wpAnyH_take (i := 7) (oi := ⟨some 114, _, _, _, _, _⟩) (v := ?_) rfl (by as_aux_lemma => kernel_rfl) (by as_aux_lemma => kernel_rfl) (by as_aux_lemma => kernel_rfl) (fun _ _ _ h => h) ?_ (by assumption) ?_; rotate_left; (focus (refine Or.inl ⟨rfl, ?_⟩; intro w hSw; (try dsimp only at hSw); go_simp; (try with_reducible rfl); done)); (try simp only [Act.put, List.setIfInBounds_toArray, List.set_cons_zero, List.set_cons_succ])
          refine wpAnyH_take (i := 8) (oi := ⟨some 115, _, _, _, _, _⟩) (v := ?_) rfl (by as_aux_lemma => kernel_rfl) (by as_aux_lemma => kernel_rfl) (by as_aux_lemma => kernel_rfl) (fun _ _ _ h => h) ?_ (by assumption) ?_; rotate_left; (focus (refine Or.inl ⟨rfl, ?_⟩; intro w hSw; (try dsimp only at hSw); go_simp; (try with_reducible rfl); done)); (try simp only [Act.put, List.setIfInBounds_toArray, List.set_cons_zero, List.set_cons_succ])
          refine wpAnyH_ready (rs := [10]) (by kernel_rfl) (by simp) ?_
          refine AllReadyH.cons (o := ⟨none, _, _, _, _, _⟩) rfl (fun K hK => ?_) AllReadyH.nil
          have nz0 := (blk_cell BXZ.out 0).trans rfl; have fz0 := blk_frozen BXZ.out 0; have nz1 := (blk_cell BXZ.out 1).trans rfl; have fz1 := blk_frozen BXZ.out 1; have nz2 := (blk_cell BXZ.out 2).trans rfl; have fz2 := blk_frozen BXZ.out 2; have nz3 := (blk_cell BXZ.out 3).trans rfl; have fz3 := blk_frozen BXZ.out 3; have nz4 := (blk_cell BXZ.out 4).trans rfl; have fz4 := blk_frozen BXZ.out 4; have nz5 := (blk_cell BXZ.out 5).trans rfl; have fz5 := blk_frozen BXZ.out 5
          go_simp
          have HF := Lib.hid (six_below HN.out HGX.out (.int .i64 z26.f0) (.int .i64 z26.f1) (.int .u64 z26.f2) (.string z26.f3) (.slice E3 z26.f4.length e3) (.slice F3 z26.f5.length f3))
          have HX := Lib.hid (six_put BXZ.out (.int .i64 z26.f0) (.int .i64 z26.f1) (.int .u64 z26.f2) (.string z26.f3) (.slice E3 z26.f4.length e3) (.slice F3 z26.f5.length f3))
          have HRW := Lib.hid (rows_from RK.out (same_six HGL.out (.int .i64 z26.f0) (.int .i64 z26.f1) (.int .u64 z26.f2) (.string z26.f3) (.slice E3 z26.f4.length e3) (.slice F3 z26.f5.length f3)))
          clear nz0 nz1 nz2 nz3 nz4 nz5 fz0 fz1 fz2 fz3 fz4 fz5
          refine hK.out _ _ (KEEP.out _ HF.out) (fun hHeld2 => ?_)
          clear hK K hHeld; have hHeld := hHeld2; clear hHeld2; (try simp only [Act.put, List.setIfInBounds_toArray, List.set_cons_zero, List.set_cons_succ])
          refine wpAnyH_take (i := 11) (oi := ⟨some 16, _, _, _, _, _⟩) (v := ?_) rfl (by as_aux_lemma => kernel_rfl) (by as_aux_lemma => kernel_rfl) (by as_aux_lemma => kernel_rfl) (fun _ _ _ h => h) ?_ (by assumption) ?_; rotate_left; (focus (refine Or.inl ⟨rfl, ?_⟩; intro w hSw; (try dsimp only at hSw); go_simp; (try with_reducible rfl); done)); (try simp only [Act.put, List.setIfInBounds_toArray, List.set_cons_zero, List.set_cons_succ])
          refine wpAnyH_done (by kernel_rfl) ?_ _
          go_wp2
          go_meet
          case rel =>
            exact ⟨_, _, _, _, _, rfl, rfl, ⟨below_step HB.out HF.out⟩, ⟨blk_below XV.out HF.out⟩, ⟨HX.out⟩, ⟨HRW.out⟩⟩
      · go_simp
        have hb := below_alloc (Below.refl wd.heap.size wd) zeros
        refine hK.out _ _ (KEEP.out _ (below_step HN.out hb)) (fun hHeld2 => ?_)
        have BXZ := Lib.hid (blk_new wd zeros)
        have HGX := Lib.hid (below_size HN.out)
        have HN' := Lib.hid (below_step HN.out hb); clear HN; have HN := HN'; clear HN'
        clear hb; clear hK K hHeld; have hHeld := hHeld2; clear hHeld2; (try simp only [Act.put, List.setIfInBounds_toArray, List.set_cons_zero, List.set_cons_succ])
        generalize hgx : wd.alloc zeros = wx at *; clear hgx
        refine wpAnyH_ready (rs := [3]) (by kernel_rfl) (by simp) ?_
        refine AllReadyH.cons (o := ⟨some 111, _, _, _, _, _⟩) rfl (fun K hK => ?_) AllReadyH.nil
        go_simp
        go_at_call 46
        (with_reducible refine (CB.out _ _).mono ?_)
        rintro e wn ⟨rfl, hb⟩
        refine hK.out _ _ (KEEP.out _ (below_step HN.out hb)) (fun hHeld2 => ?_)
        have HN' := Lib.hid (below_step HN.out hb); clear HN; have HN := HN'; clear HN'; have BXZ' := Lib.hid (blk_below BXZ.out hb); clear BXZ; have BXZ := BXZ'; clear BXZ'
        clear hb; clear hK K hHeld; have hHeld := hHeld2; clear hHeld2; (try simp only [Act.put, List.setIfInBounds_toArray, List.set_cons_zero, List.set_cons_succ])
        refine wpAnyH_ready (rs := [4]) (by kernel_rfl) (by simp) ?_
        refine AllReadyH.cons (o := ⟨some 112, _, _, _, _, _⟩) rfl (fun K hK => ?_) AllReadyH.nil
        go_simp
        have hb := below_alloc (Below.refl wn.heap.size wn) (.cells #[.int .i64 5, .int .i64 0, .int .u64 0, .string ⟨#[]⟩, .slice A l.length c, .slice none 0 0, .int .i64 3, .int .i64 0, .int .u64 (IntKind.u64.wrap n), .string ⟨#[]⟩, .slice none 0 0, .slice none 0 0] 26)
        refine hK.out _ _ (KEEP.out _ (below_step HN.out hb)) (fun hHeld2 => ?_)
        have GA := Lib.hid (blk_new wn (.cells #[.int .i64 5, .int .i64 0, .int .u64 0, .string ⟨#[]⟩, .slice A l.length c, .slice none 0 0, .int .i64 3, .int .i64 0, .int .u64 (IntKind.u64.wrap n), .string ⟨#[]⟩, .slice none 0 0, .slice none 0 0] 26))
        have HN' := Lib.hid (below_step HN.out hb); clear HN; have HN := HN'; clear HN'; have BXZ' := Lib.hid (blk_below BXZ.out hb); clear BXZ; have BXZ := BXZ'; clear BXZ'
        clear hb; clear hK K hHeld; have hHeld := hHeld2; clear hHeld2; (try simp only [Act.put, List.setIfInBounds_toArray, List.set_cons_zero, List.set_cons_succ])
        generalize hgk : wn.alloc (.cells #[.int .i64 5, .int .i64 0, .int .u64 0, .string ⟨#[]⟩, .slice A l.length c, .slice none 0 0, .int .i64 3, .int .i64 0, .int .u64 (IntKind.u64.wrap n), .string ⟨#[]⟩, .slice none 0 0, .slice none 0 0] 26) = wk at *; clear hgk
        obtain ⟨gk_, hgk⟩ : ∃ gk_, wn.heap.size = gk_ := ⟨_, rfl⟩; rw [hgk] at GA; (try rw [hgk]); clear hgk
        refine wpAnyH_ready (rs := [5]) (by kernel_rfl) (by simp) ?_
        refine AllReadyH.cons (o := ⟨some 113, _, _, _, _, _⟩) rfl (fun K hK => ?_) AllReadyH.nil
        go_simp
        go_at_call 42
        (with_reducible refine (GB.out _ _ (below_step HB.out HN.out) GA.out).mono ?_)
        rintro e wm ⟨v4, v5, rfl, hk4, hk5, hb⟩
        obtain ⟨E3, e3, rfl⟩ := Kd.R_slice hk4; obtain ⟨F3, f3, rfl⟩ := Kd.R_slice hk5; have RK := Lib.hid (And.intro hk4 hk5); clear hk4 hk5
        refine hK.out _ _ (KEEP.out _ (below_step HN.out hb)) (fun hHeld2 => ?_)
        have HGL := Lib.hid (blk_lt BXZ.out)
        have HN' := Lib.hid (below_step HN.out hb); clear HN; have HN := HN'; clear HN'; have BXZ' := Lib.hid (blk_below BXZ.out hb); clear BXZ; have BXZ := BXZ'; clear BXZ'
        clear hb GA; clear hK K hHeld; have hHeld := hHeld2; clear hHeld2; (try simp only [Act.put, List.setIfInBounds_toArray, List.set_cons_zero, List.set_cons_succ])
        refine wpAnyH_take (i := 6) (oi := ⟨some 107, _, _, _, _, _⟩) (v := ?_) rfl (by as_aux_lemma => kernel_rfl) (by as_aux_lemma => kernel_rfl) (by as_aux_lemma => kernel_rfl) (fun _ _ _ h => h) ?_ (by assumption) ?_; rotate_left; (focus (refine Or.inl ⟨rfl, ?_⟩; intro w hSw; (try dsimp only at hSw); go_simp; (try with_reducible rfl); done)); (try simp only [Act.put, List.setIfInBounds_toArray, List.set_cons_zero, List.set_cons_succ])
        refine wpAnyH_take (i := 7) (oi := ⟨some 114, _, _, _, _, _⟩) (v := ?_) rfl (by as_aux_lemma => kernel_rfl) (by as_aux_lemma => kernel_rfl) (by as_aux_lemma => kernel_rfl) (fun _ _ _ h => h) ?_ (by assumption) ?_; rotate_left; (focus (refine Or.inl ⟨rfl, ?_⟩; intro w hSw; (try dsimp only at hSw); go_simp; (try with_reducible rfl); done)); (try simp only [Act.put, List.setIfInBounds_toArray, List.set_cons_zero, List.set_cons_succ])
        refine wpAnyH_take (i := 8) (oi := ⟨some 115, _, _, _, _, _⟩) (v := ?_) rfl (by as_aux_lemma => kernel_rfl) (by as_aux_lemma => kernel_rfl) (by as_aux_lemma => kernel_rfl) (fun _ _ _ h => h) ?_ (by assumption) ?_; rotate_left; (focus (refine Or.inl ⟨rfl, ?_⟩; intro w hSw; (try dsimp only at hSw); go_simp; (try with_reducible rfl); done)); (try simp only [Act.put, List.setIfInBounds_toArray, List.set_cons_zero, List.set_cons_succ])
        refine wpAnyH_ready (rs := [10]) (by kernel_rfl) (by simp) ?_
        refine AllReadyH.cons (o := ⟨none, _, _, _, _, _⟩) rfl (fun K hK => ?_) AllReadyH.nil
        have nz0 := (blk_cell BXZ.out 0).trans rfl; have fz0 := blk_frozen BXZ.out 0; have nz1 := (blk_cell BXZ.out 1).trans rfl; have fz1 := blk_frozen BXZ.out 1; have nz2 := (blk_cell BXZ.out 2).trans rfl; have fz2 := blk_frozen BXZ.out 2; have nz3 := (blk_cell BXZ.out 3).trans rfl; have fz3 := blk_frozen BXZ.out 3; have nz4 := (blk_cell BXZ.out 4).trans rfl; have fz4 := blk_frozen BXZ.out 4; have nz5 := (blk_cell BXZ.out 5).trans rfl; have fz5 := blk_frozen BXZ.out 5
        go_simp
        have HF := Lib.hid (six_below HN.out HGX.out (.int .i64 z26.f0) (.int .i64 z26.f1) (.int .u64 z26.f2) (.string z26.f3) (.slice E3 z26.f4.length e3) (.slice F3 z26.f5.length f3))
        have HX := Lib.hid (six_put BXZ.out (.int .i64 z26.f0) (.int .i64 z26.f1) (.int .u64 z26.f2) (.string z26.f3) (.slice E3 z26.f4.length e3) (.slice F3 z26.f5.length f3))
        have HRW := Lib.hid (rows_from RK.out (same_six HGL.out (.int .i64 z26.f0) (.int .i64 z26.f1) (.int .u64 z26.f2) (.string z26.f3) (.slice E3 z26.f4.length e3) (.slice F3 z26.f5.length f3)))
        clear nz0 nz1 nz2 nz3 nz4 nz5 fz0 fz1 fz2 fz3 fz4 fz5
        refine hK.out _ _ (KEEP.out _ HF.out) (fun hHeld2 => ?_)
        clear hK K hHeld; have hHeld := hHeld2; clear hHeld2; (try simp only [Act.put, List.setIfInBounds_toArray, List.set_cons_zero, List.set_cons_succ])
        refine wpAnyH_take (i := 11) (oi := ⟨some 16, _, _, _, _, _⟩) (v := ?_) rfl (by as_aux_lemma => kernel_rfl) (by as_aux_lemma => kernel_rfl) (by as_aux_lemma => kernel_rfl) (fun _ _ _ h => h) ?_ (by assumption) ?_; rotate_left; (focus (refine Or.inl ⟨rfl, ?_⟩; intro w hSw; (try dsimp only at hSw); go_simp; (try with_reducible rfl); done)); (try simp only [Act.put, List.setIfInBounds_toArray, List.set_cons_zero, List.set_cons_succ])
        refine wpAnyH_done (by kernel_rfl) ?_ _
        go_wp2
        go_meet
        case rel =>
          exact ⟨_, _, _, _, _, rfl, rfl, ⟨below_step HB.out HF.out⟩, ⟨blk_below XV.out HF.out⟩, ⟨HX.out⟩, ⟨HRW.out⟩⟩
    case rest =>
    (try clear l0 l1 l2 l3 l4 l5)
    clear HB XV
    obtain ⟨gy, E3, e3, F3, f3, rfl, rfl, HB0, XV0, BY0, RY0⟩ := hcut
    have HB := Lib.hid HB0.out; clear HB0; have XV := Lib.hid XV0.out; clear XV0; have BY := Lib.hid BY0.out; clear BY0; have RY := Lib.hid RY0.out; clear RY0
    go_wp2_with (first | (go_at_call 25; (with_reducible refine (numC _ _).mono ?_); rintro e wd ⟨rfl, ⟨nd, rfl⟩⟩))
    all_goals (go_ret; exact ⟨rfl, by first | exact HB.out | exact pw_below_drewN HB.out _ | (rw [World.drewN_drewN]; exact pw_below_drewN HB.out _)⟩)
  | succ k2 =>
    have hlt : decide (i ≤ (l.length : Int)) = true := decide_eq_true (by omega)
    have LR := HLR.out
    have wi : wrap64 (i + 1) = i + 1 := Values.wrap_small _ (by omega) (by omega)
    have wi' : IntKind.i64.wrap (i + 1) = i + 1 := by rw [i64_w]; exact wi
    have HQ2 := Aside0.mk (show i + 1 + k2 = l.length + 1 ∧ -1 ≤ i + 1 from ⟨by omega, by omega⟩)
    have GX := Lib.hid (GI.out i)
    rw [HI.out i hi0 (by omega)] at GX
    by_cases hin : i < 0 ∨ (l.length : Int) ≤ i
    · rw [if_pos hin] at GX
      have z1 : decide (0 ≤ i) = true → decide (i < (l.length : Int)) = false := fun h => decide_eq_false (by have := of_decide_eq_true h; omega)
      have D : (decide (0 ≤ i) = false) ∨ (decide (0 ≤ i) = true ∧ decide (i < (l.length : Int)) = false) := by
        by_cases h : 0 ≤ i
        · exact .inr ⟨decide_eq_true h, z1 (decide_eq_true h)⟩
        · exact .inl (decide_eq_false h)
      clear hi1 hi0 h64 hin z1 LR
      go_upto_region 13 with (fail)
      go_cut [11, 12] (fun v11 v12 wc => ∃ (gx : Nat) (E2 : Option Addr) (e2 : Nat) (F2 : Option Addr) (f2 : Nat), v11 = .pointer (some ⟨gx, 0, none⟩) ∧ v12 = .int .i64 1803 ∧ Aside0 (Below w.heap.size w wc) ∧ Aside0 (wc.heap[gv]? = some (.cells #[.int .i64 5, .int .i64 0, .int .u64 0, .string ⟨#[]⟩, .slice A l.length c, .slice none 0 0] 26 (0, 0))) ∧ Aside0 (wc.heap[gx]? = some (.cells #[.int .i64 z26.f0, .int .i64 z26.f1, .int .u64 z26.f2, .string z26.f3, .slice E2 z26.f4.length e2, .slice F2 z26.f5.length f2] 26 (0, 0))) ∧ Aside0 (Rows4 wc z26 E2 e2 F2 f2))
      case first =>
        have XVD := Lib.hid (blk_below XV.out (below_drew (Below.refl wr.heap.size wr)))
        have hbn := below_drew (Below.refl wr.heap.size wr)
        have HB' := Lib.hid (below_step HB.out hbn); have XV' := Lib.hid (blk_below XV.out hbn); clear HB; have HB := HB'; clear HB'; clear XV; have XV := XV'; clear XV'
        clear hbn
        (try clear l0 l1 l2 l3 l4 l5 v0 v1 v2 v3 v4 v5)
        generalize hWD : wr.drew = wd at *
        have KEEP := Lib.hid (show ∀ w', Below wd.heap.size wd w' → (fun w' => Below wd.heap.size wd w' ∧ w'.cell? ⟨gv, 0, none⟩ = some (.int .i64 5) ∧ w'.cell? ⟨gv, 1, none⟩ = some (.int .i64 0) ∧ w'.cell? ⟨gv, 2, none⟩ = some (.int .u64 0) ∧ w'.cell? ⟨gv, 3, none⟩ = some (.string ⟨#[]⟩) ∧ w'.cell? ⟨gv, 4, none⟩ = some (.slice A l.length c) ∧ w'.cell? ⟨gv, 5, none⟩ = some (.slice none 0 0)) w' from fun w' h => ⟨h, (blk_cell (blk_below XVD.out h) 0).trans rfl, (blk_cell (blk_below XVD.out h) 1).trans rfl, (blk_cell (blk_below XVD.out h) 2).trans rfl, (blk_cell (blk_below XVD.out h) 3).trans rfl, (blk_cell (blk_below XVD.out h) 4).trans rfl, (blk_cell (blk_below XVD.out h) 5).trans rfl⟩)
        refine wp_region_held_drew (S := (fun w' => Below wd.heap.size wd w' ∧ w'.cell? ⟨gv, 0, none⟩ = some (.int .i64 5) ∧ w'.cell? ⟨gv, 1, none⟩ = some (.int .i64 0) ∧ w'.cell? ⟨gv, 2, none⟩ = some (.int .u64 0) ∧ w'.cell? ⟨gv, 3, none⟩ = some (.string ⟨#[]⟩) ∧ w'.cell? ⟨gv, 4, none⟩ = some (.slice A l.length c) ∧ w'.cell? ⟨gv, 5, none⟩ = some (.slice none 0 0))) (by kernel_rfl) ?_ (fun hHeld => ?_)
        · rw [hWD]; exact KEEP.out _ (Below.refl _ _)
        rw [hWD] at hHeld ⊢
        clear hWD XVD
        have HN := Lib.hid (Below.refl wd.heap.size wd)
        refine wpAnyH_take (i := 0) (oi := ⟨some 57, _, _, _, _, _⟩) (v := ?_) rfl (by as_aux_lemma => kernel_rfl) (by as_aux_lemma => kernel_rfl) (by as_aux_lemma => kernel_rfl) (fun _ _ _ h => h) ?_ (by assumption) ?_; rotate_left; (focus (refine Or.inl ⟨rfl, ?_⟩; intro w hSw; (try dsimp only at hSw); go_simp; (try with_reducible rfl); done)); (try simp only [Act.put, List.setIfInBounds_toArray, List.set_cons_zero, List.set_cons_succ])
        refine wpAnyH_take (i := 1) (oi := ⟨some 58, _, _, _, _, _⟩) (v := ?_) rfl (by as_aux_lemma => kernel_rfl) (by as_aux_lemma => kernel_rfl) (by as_aux_lemma => kernel_rfl) (fun _ _ _ h => h) ?_ (by assumption) ?_; rotate_left; (focus (refine Or.inl ⟨rfl, ?_⟩; intro w hSw; (try dsimp only at hSw); go_simp; (try with_reducible rfl); done)); (try simp only [Act.put, List.setIfInBounds_toArray, List.set_cons_zero, List.set_cons_succ])
        refine wpAnyH_ready (rs := [2, 8]) (by kernel_rfl) (by simp) ?_
        refine AllReadyH.cons (o := ⟨some 59, _, _, _, _, _⟩) rfl (fun K hK => ?_) (AllReadyH.cons (o := ⟨some 11, _, _, _, _, _⟩) rfl (fun K hK => ?_) AllReadyH.nil)
        · go_simp
          go_at_call 44
          (with_reducible refine (CN.out _ _).mono ?_)
          rintro e wn ⟨rfl, hb⟩
          refine hK.out _ _ (KEEP.out _ (below_step HN.out hb)) (fun hHeld2 => ?_)
          have HN' := Lib.hid (below_step HN.out hb); clear HN; have HN := HN'; clear HN'
          clear hb; clear hK K hHeld; have hHeld := hHeld2; clear hHeld2; (try simp only [Act.put, List.setIfInBounds_toArray, List.set_cons_zero, List.set_cons_succ])
          refine wpAnyH_ready (rs := [3, 8]) (by kernel_rfl) (by simp) ?_
          refine AllReadyH.cons (o := ⟨some 60, _, _, _, _, _⟩) rfl (fun K hK => ?_) (AllReadyH.cons (o := ⟨some 11, _, _, _, _, _⟩) rfl (fun K hK => ?_) AllReadyH.nil)
          · go_simp
            have hb := below_alloc (Below.refl wn.heap.size wn) (.cells #[.int .i64 5, .int .i64 0, .int .u64 0, .string ⟨#[]⟩, .slice A l.length c, .slice none 0 0, .int .i64 2, .int .i64 i, .int .u64 0, .string ⟨#[]⟩, .slice none 0 0, .slice none 0 0] 26)
            refine hK.out _ _ (KEEP.out _ (below_step HN.out hb)) (fun hHeld2 => ?_)
            have GA := Lib.hid (blk_new wn (.cells #[.int .i64 5, .int .i64 0, .int .u64 0, .string ⟨#[]⟩, .slice A l.length c, .slice none 0 0, .int .i64 2, .int .i64 i, .int .u64 0, .string ⟨#[]⟩, .slice none 0 0, .slice none 0 0] 26))
            have HN' := Lib.hid (below_step HN.out hb); clear HN; have HN := HN'; clear HN'
            clear hb; clear hK K hHeld; have hHeld := hHeld2; clear hHeld2; (try simp only [Act.put, List.setIfInBounds_toArray, List.set_cons_zero, List.set_cons_succ])
            generalize hgk : wn.alloc (.cells #[.int .i64 5, .int .i64 0, .int .u64 0, .string ⟨#[]⟩, .slice A l.length c, .slice none 0 0, .int .i64 2, .int .i64 i, .int .u64 0, .string ⟨#[]⟩, .slice none 0 0, .slice none 0 0] 26) = wk at *; clear hgk
            obtain ⟨gk_, hgk⟩ : ∃ gk_, wn.heap.size = gk_ := ⟨_, rfl⟩; rw [hgk] at GA; (try rw [hgk]); clear hgk
            refine wpAnyH_ready (rs := [4, 8]) (by kernel_rfl) (by simp) ?_
            refine AllReadyH.cons (o := ⟨some 61, _, _, _, _, _⟩) rfl (fun K hK => ?_) (AllReadyH.cons (o := ⟨some 11, _, _, _, _, _⟩) rfl (fun K hK => ?_) AllReadyH.nil)
            · go_simp
              go_at_call 42
              (with_reducible refine (GX.out _ _ (below_step HB.out HN.out) GA.out).mono ?_)
              rintro e wm ⟨v4, v5, rfl, hk4, hk5, hb⟩
              obtain ⟨E2, e2, rfl⟩ := Kd.R_slice hk4; obtain ⟨F2, f2, rfl⟩ := Kd.R_slice hk5; have RK := Lib.hid (And.intro hk4 hk5); clear hk4 hk5
              refine hK.out _ _ (KEEP.out _ (below_step HN.out hb)) (fun hHeld2 => ?_)
              have HN' := Lib.hid (below_step HN.out hb); clear HN; have HN := HN'; clear HN'
              clear hb GA; clear hK K hHeld; have hHeld := hHeld2; clear hHeld2; (try simp only [Act.put, List.setIfInBounds_toArray, List.set_cons_zero, List.set_cons_succ])
              refine wpAnyH_take (i := 5) (oi := ⟨some 56, _, _, _, _, _⟩) (v := ?_) rfl (by as_aux_lemma => kernel_rfl) (by as_aux_lemma => kernel_rfl) (by as_aux_lemma => kernel_rfl) (fun _ _ _ h => h) ?_ (by assumption) ?_; rotate_left; (focus (refine Or.inl ⟨rfl, ?_⟩; intro w hSw; (try dsimp only at hSw); go_simp; (try with_reducible rfl); done)); (try simp only [Act.put, List.setIfInBounds_toArray, List.set_cons_zero, List.set_cons_succ])
              refine wpAnyH_take (i := 6) (oi := ⟨some 62, _, _, _, _, _⟩) (v := ?_) rfl (by as_aux_lemma => kernel_rfl) (by as_aux_lemma => kernel_rfl) (by as_aux_lemma => kernel_rfl) (fun _ _ _ h => h) ?_ (by assumption) ?_; rotate_left; (focus (refine Or.inl ⟨rfl, ?_⟩; intro w hSw; (try dsimp only at hSw); go_simp; (try with_reducible rfl); done)); (try simp only [Act.put, List.setIfInBounds_toArray, List.set_cons_zero, List.set_cons_succ])
              refine wpAnyH_take (i := 7) (oi := ⟨some 63, _, _, _, _, _⟩) (v := ?_) rfl (by as_aux_lemma => kernel_rfl) (by as_aux_lemma => kernel_rfl) (by as_aux_lemma => kernel_rfl) (fun _ _ _ h => h) ?_ (by assumption) ?_; rotate_left; (focus (refine Or.inl ⟨rfl, ?_⟩; intro w hSw; (try dsimp only at hSw); go_simp; (try with_reducible rfl); done)); (try simp only [Act.put, List.setIfInBounds_toArray, List.set_cons_zero, List.set_cons_succ])
              refine wpAnyH_ready (rs := [8]) (by kernel_rfl) (by simp) ?_
              refine AllReadyH.cons (o := ⟨some 11, _, _, _, _, _⟩) rfl (fun K hK => ?_) AllReadyH.nil
              go_simp
              have hb := below_alloc (Below.refl wm.heap.size wm) zeros
              refine hK.out _ _ (KEEP.out _ (below_step HN.out hb)) (fun hHeld2 => ?_)
              have BXZ := Lib.hid (blk_new wm zeros)
              have HNA := Lib.hid (below_step HN.out hb)
              clear hb; clear hK K hHeld; have hHeld := hHeld2; clear hHeld2; (try simp only [Act.put, List.setIfInBounds_toArray, List.set_cons_zero, List.set_cons_succ])
              refine wpAnyH_ready (rs := [9]) (by kernel_rfl) (by simp) ?_
              refine AllReadyH.cons (o := ⟨none, _, _, _, _, _⟩) rfl (fun K hK => ?_) AllReadyH.nil
              have HF := Lib.hid (below_alloc HN.out (.cells #[.int .i64 z26.f0, .int .i64 z26.f1, .int .u64 z26.f2, .string z26.f3, .slice E2 z26.f4.length e2, .slice F2 z26.f5.length f2] 26))
              have HX := Lib.hid (blk_new wm (.cells #[.int .i64 z26.f0, .int .i64 z26.f1, .int .u64 z26.f2, .string z26.f3, .slice E2 z26.f4.length e2, .slice F2 z26.f5.length f2] 26))
              have HRW := Lib.hid (rows_from RK.out (same_alloc wm (.cells #[.int .i64 z26.f0, .int .i64 z26.f1, .int .u64 z26.f2, .string z26.f3, .slice E2 z26.f4.length e2, .slice F2 z26.f5.length f2] 26) _))
              go_simp
              refine hK.out _ _ (KEEP.out _ HF.out) (fun hHeld2 => ?_)
              clear hK K hHeld; have hHeld := hHeld2; clear hHeld2; (try simp only [Act.put, List.setIfInBounds_toArray, List.set_cons_zero, List.set_cons_succ])
              refine wpAnyH_take (i := 10) (oi := ⟨some 12, _, _, _, _, _⟩) (v := ?_) rfl (by as_aux_lemma => kernel_rfl) (by as_aux_lemma => kernel_rfl) (by as_aux_lemma => kernel_rfl) (fun _ _ _ h => h) ?_ (by assumption) ?_; rotate_left; (focus (refine Or.inl ⟨rfl, ?_⟩; intro w hSw; (try dsimp only at hSw); go_simp; (try with_reducible rfl); done)); (try simp only [Act.put, List.setIfInBounds_toArray, List.set_cons_zero, List.set_cons_succ])
              refine wpAnyH_done (by kernel_rfl) ?_ _
              go_wp2
              go_meet
              case rel =>
                exact ⟨_, _, _, _, _, rfl, rfl, ⟨below_step HB.out HF.out⟩, ⟨blk_below XV.out HF.out⟩, ⟨HX.out⟩, ⟨HRW.out⟩⟩
            · go_simp
              have hb := below_alloc (Below.refl wk.heap.size wk) zeros
              refine hK.out _ _ (KEEP.out _ (below_step HN.out hb)) (fun hHeld2 => ?_)
              have BXZ := Lib.hid (blk_new wk zeros)
              have HGX := Lib.hid (below_size HN.out)
              have HN' := Lib.hid (below_step HN.out hb); clear HN; have HN := HN'; clear HN'
              have GA' := Lib.hid (blk_below GA.out hb); clear GA; have GA := GA'; clear GA'
              clear hb; clear hK K hHeld; have hHeld := hHeld2; clear hHeld2; (try simp only [Act.put, List.setIfInBounds_toArray, List.set_cons_zero, List.set_cons_succ])
              generalize hgx : wk.alloc zeros = wx at *; clear hgx
              refine wpAnyH_ready (rs := [4]) (by kernel_rfl) (by simp) ?_
              refine AllReadyH.cons (o := ⟨some 61, _, _, _, _, _⟩) rfl (fun K hK => ?_) AllReadyH.nil
              go_simp
              go_at_call 42
              (with_reducible refine (GX.out _ _ (below_step HB.out HN.out) GA.out).mono ?_)
              rintro e wm ⟨v4, v5, rfl, hk4, hk5, hb⟩
              obtain ⟨E2, e2, rfl⟩ := Kd.R_slice hk4; obtain ⟨F2, f2, rfl⟩ := Kd.R_slice hk5; have RK := Lib.hid (And.intro hk4 hk5); clear hk4 hk5
              refine hK.out _ _ (KEEP.out _ (below_step HN.out hb)) (fun hHeld2 => ?_)
              have HGL := Lib.hid (blk_lt BXZ.out)
              have HN' := Lib.hid (below_step HN.out hb); clear HN; have HN := HN'; clear HN'; have BXZ' := Lib.hid (blk_below BXZ.out hb); clear BXZ; have BXZ := BXZ'; clear BXZ'
              clear hb GA; clear hK K hHeld; have hHeld := hHeld2; clear hHeld2; (try simp only [Act.put, List.setIfInBounds_toArray, List.set_cons_zero, List.set_cons_succ])
              refine wpAnyH_take (i := 5) (oi := ⟨some 56, _, _, _, _, _⟩) (v := ?_) rfl (by as_aux_lemma => kernel_rfl) (by as_aux_lemma => kernel_rfl) (by as_aux_lemma => kernel_rfl) (fun _ _ _ h => h) ?_ (by assumption) ?_; rotate_left; (focus (refine Or.inl ⟨rfl, ?_⟩; intro w hSw; (try dsimp only at hSw); go_simp; (try with_reducible rfl); done)); (try simp only [Act.put, List.setIfInBounds_toArray, List.set_cons_zero, List.set_cons_succ])
              refine wpAnyH_take (i := 6) (oi := ⟨some 62, _, _, _, _, _⟩) (v := ?_) rfl (by as_aux_lemma => kernel_rfl) (by as_aux_lemma => kernel_rfl) (by as_aux_lemma => kernel_rfl) (fun _ _ _ h => h) ?_ (by assumption) ?_; rotate_left; (focus (refine Or.inl ⟨rfl, ?_⟩; intro w hSw; (try dsimp only at hSw); go_simp; (try with_reducible rfl); done)); (try simp only [Act.put, List.setIfInBounds_toArray, List.set_cons_zero, List.set_cons_succ])
              refine wpAnyH_take (i := 7) (oi := ⟨some 63, _, _, _, _, _⟩) (v := ?_) rfl (by as_aux_lemma => kernel_rfl) (by as_aux_lemma => kernel_rfl) (by as_aux_lemma => kernel_rfl) (fun _ _ _ h => h) ?_ (by assumption) ?_; rotate_left; (focus (refine Or.inl ⟨rfl, ?_⟩; intro w hSw; (try dsimp only at hSw); go_simp; (try with_reducible rfl); done)); (try simp only [Act.put, List.setIfInBounds_toArray, List.set_cons_zero, List.set_cons_succ])
              refine wpAnyH_ready (rs := [9]) (by kernel_rfl) (by simp) ?_
              refine AllReadyH.cons (o := ⟨none, _, _, _, _, _⟩) rfl (fun K hK => ?_) AllReadyH.nil
              have nz0 := (blk_cell BXZ.out 0).trans rfl; have fz0 := blk_frozen BXZ.out 0; have nz1 := (blk_cell BXZ.out 1).trans rfl; have fz1 := blk_frozen BXZ.out 1; have nz2 := (blk_cell BXZ.out 2).trans rfl; have fz2 := blk_frozen BXZ.out 2; have nz3 := (blk_cell BXZ.out 3).trans rfl; have fz3 := blk_frozen BXZ.out 3; have nz4 := (blk_cell BXZ.out 4).trans rfl; have fz4 := blk_frozen BXZ.out 4; have nz5 := (blk_cell BXZ.out 5).trans rfl; have fz5 := blk_frozen BXZ.out 5
              go_simp
              have HF := Lib.hid (six_below HN.out HGX.out (.int .i64 z26.f0) (.int .i64 z26.f1) (.int .u64 z26.f2) (.string z26.f3) (.slice E2 z26.f4.length e2) (.slice F2 z26.f5.length f2))
              have HX := Lib.hid (six_put BXZ.out (.int .i64 z26.f0) (.int .i64 z26.f1) (.int .u64 z26.f2) (.string z26.f3) (.slice E2 z26.f4.length e2) (.slice F2 z26.f5.length f2))
              have HRW := Lib.hid (rows_from RK.out (same_six HGL.out (.int .i64 z26.f0) (.int .i64 z26.f1) (.int .u64 z26.f2) (.string z26.f3) (.slice E2 z26.f4.length e2) (.slice F2 z26.f5.length f2)))
              clear nz0 nz1 nz2 nz3 nz4 nz5 fz0 fz1 fz2 fz3 fz4 fz5
              refine hK.out _ _ (KEEP.out _ HF.out) (fun hHeld2 => ?_)
              clear hK K hHeld; have hHeld := hHeld2; clear hHeld2; (try simp only [Act.put, List.setIfInBounds_toArray, List.set_cons_zero, List.set_cons_succ])
              refine wpAnyH_take (i := 10) (oi := ⟨some 12, _, _, _, _, _⟩) (v := ?_) rfl (by as_aux_lemma => kernel_rfl) (by as_aux_lemma => kernel_rfl) (by as_aux_lemma => kernel_rfl) (fun _ _ _ h => h) ?_ (by assumption) ?_; rotate_left; (focus (refine Or.inl ⟨rfl, ?_⟩; intro w hSw; (try dsimp only at hSw); go_simp; (try with_reducible rfl); done)); (try simp only [Act.put, List.setIfInBounds_toArray, List.set_cons_zero, List.set_cons_succ])
              refine wpAnyH_done (by kernel_rfl) ?_ _
              go_wp2
              go_meet
              case rel =>
                exact ⟨_, _, _, _, _, rfl, rfl, ⟨below_step HB.out HF.out⟩, ⟨blk_below XV.out HF.out⟩, ⟨HX.out⟩, ⟨HRW.out⟩⟩
          · go_simp
            have hb := below_alloc (Below.refl wn.heap.size wn) zeros
            refine hK.out _ _ (KEEP.out _ (below_step HN.out hb)) (fun hHeld2 => ?_)
            have BXZ := Lib.hid (blk_new wn zeros)
            have HGX := Lib.hid (below_size HN.out)
            have HN' := Lib.hid (below_step HN.out hb); clear HN; have HN := HN'; clear HN'
            clear hb; clear hK K hHeld; have hHeld := hHeld2; clear hHeld2; (try simp only [Act.put, List.setIfInBounds_toArray, List.set_cons_zero, List.set_cons_succ])
            generalize hgx : wn.alloc zeros = wx at *; clear hgx
            refine wpAnyH_ready (rs := [3]) (by kernel_rfl) (by simp) ?_
            refine AllReadyH.cons (o := ⟨some 60, _, _, _, _, _⟩) rfl (fun K hK => ?_) AllReadyH.nil
            go_simp
            have hb := below_alloc (Below.refl wx.heap.size wx) (.cells #[.int .i64 5, .int .i64 0, .int .u64 0, .string ⟨#[]⟩, .slice A l.length c, .slice none 0 0, .int .i64 2, .int .i64 i, .int .u64 0, .string ⟨#[]⟩, .slice none 0 0, .slice none 0 0] 26)
            refine hK.out _ _ (KEEP.out _ (below_step HN.out hb)) (fun hHeld2 => ?_)
            have GA := Lib.hid (blk_new wx (.cells #[.int .i64 5, .int .i64 0, .int .u64 0, .string ⟨#[]⟩, .slice A l.length c, .slice none 0 0, .int .i64 2, .int .i64 i, .int .u64 0, .string ⟨#[]⟩, .slice none 0 0, .slice none 0 0] 26))
            have HN' := Lib.hid (below_step HN.out hb); clear HN; have HN := HN'; clear HN'; have BXZ' := Lib.hid (blk_below BXZ.out hb); clear BXZ; have BXZ := BXZ'; clear BXZ'
            clear hb; clear hK K hHeld; have hHeld := hHeld2; clear hHeld2; (try simp only [Act.put, List.setIfInBounds_toArray, List.set_cons_zero, List.set_cons_succ])
            generalize hgk : wx.alloc (.cells #[.int .i64 5, .int .i64 0, .int .u64 0, .string ⟨#[]⟩, .slice A l.length c, .slice none 0 0, .int .i64 2, .int .i64 i, .int .u64 0, .string ⟨#[]⟩, .slice none 0 0, .slice none 0 0] 26) = wk at *; clear hgk
            obtain ⟨gk_, hgk⟩ : ∃ gk_, wx.heap.size = gk_ := ⟨_, rfl⟩; rw [hgk] at GA; (try rw [hgk]); clear hgk
            refine wpAnyH_ready (rs := [4]) (by kernel_rfl) (by simp) ?_
            refine AllReadyH.cons (o := ⟨some 61, _, _, _, _, _⟩) rfl (fun K hK => ?_) AllReadyH.nil
            go_simp
            go_at_call 42
            (with_reducible refine (GX.out _ _ (below_step HB.out HN.out) GA.out).mono ?_)
            rintro e wm ⟨v4, v5, rfl, hk4, hk5, hb⟩
            obtain ⟨E2, e2, rfl⟩ := Kd.R_slice hk4; obtain ⟨F2, f2, rfl⟩ := Kd.R_slice hk5; have RK := Lib.hid (And.intro hk4 hk5); clear hk4 hk5
            refine hK.out _ _ (KEEP.out _ (below_step HN.out hb)) (fun hHeld2 => ?_)
            have HGL := Lib.hid (blk_lt BXZ.out)
            have HN' := Lib.hid (below_step HN.out hb); clear HN; have HN := HN'; clear HN'; have BXZ' := Lib.hid (blk_below BXZ.out hb); clear BXZ; have BXZ := BXZ'; clear BXZ'
            clear hb GA; clear hK K hHeld; have hHeld := hHeld2; clear hHeld2; (try simp only [Act.put, List.setIfInBounds_toArray, List.set_cons_zero, List.set_cons_succ])
            refine wpAnyH_take (i := 5) (oi := ⟨some 56, _, _, _, _, _⟩) (v := ?_) rfl (by as_aux_lemma => kernel_rfl) (by as_aux_lemma => kernel_rfl) (by as_aux_lemma => kernel_rfl) (fun _ _ _ h => h) ?_ (by assumption) ?_; rotate_left; (focus (refine Or.inl ⟨rfl, ?_⟩; intro w hSw; (try dsimp only at hSw); go_simp; (try with_reducible rfl); done)); (try simp only [Act.put, List.setIfInBounds_toArray, List.set_cons_zero, List.set_cons_succ])
            refine wpAnyH_take (i := 6) (oi := ⟨some 62, _, _, _, _, _⟩) (v := ?_) rfl (by as_aux_lemma => kernel_rfl) (by as_aux_lemma => kernel_rfl) (by as_aux_lemma => kernel_rfl) (fun _ _ _ h => h) ?_ (by assumption) ?_; rotate_left; (focus (refine Or.inl ⟨rfl, ?_⟩; intro w hSw; (try dsimp only at hSw); go_simp; (try with_reducible rfl); done)); (try simp only [Act.put, List.setIfInBounds_toArray, List.set_cons_zero, List.set_cons_succ])
            refine wpAnyH_take (i := 7) (oi := ⟨some 63, _, _, _, _, _⟩) (v := ?_) rfl (by as_aux_lemma => kernel_rfl) (by as_aux_lemma => kernel_rfl) (by as_aux_lemma => kernel_rfl) (fun _ _ _ h => h) ?_ (by assumption) ?_; rotate_left; (focus (refine Or.inl ⟨rfl, ?_⟩; intro w hSw; (try dsimp only at hSw); go_simp; (try with_reducible rfl); done)); (try simp only [Act.put, List.setIfInBounds_toArray, List.set_cons_zero, List.set_cons_succ])
            refine wpAnyH_ready (rs := [9]) (by kernel_rfl) (by simp) ?_
            refine AllReadyH.cons (o := ⟨none, _, _, _, _, _⟩) rfl (fun K hK => ?_) AllReadyH.nil
            have nz0 := (blk_cell BXZ.out 0).trans rfl; have fz0 := blk_frozen BXZ.out 0; have nz1 := (blk_cell BXZ.out 1).trans rfl; have fz1 := blk_frozen BXZ.out 1; have nz2 := (blk_cell BXZ.out 2).trans rfl; have fz2 := blk_frozen BXZ.out 2; have nz3 := (blk_cell BXZ.out 3).trans rfl; have fz3 := blk_frozen BXZ.out 3; have nz4 := (blk_cell BXZ.out 4).trans rfl; have fz4 := blk_frozen BXZ.out 4; have nz5 := (blk_cell BXZ.out 5).trans rfl; have fz5 := blk_frozen BXZ.out 5
            go_simp
            have HF := Lib.hid (six_below HN.out HGX.out (.int .i64 z26.f0) (.int .i64 z26.f1) (.int .u64 z26.f2) (.string z26.f3) (.slice E2 z26.f4.length e2) (.slice F2 z26.f5.length f2))
            have HX := Lib.hid (six_put BXZ.out (.int .i64 z26.f0) (.int .i64 z26.f1) (.int .u64 z26.f2) (.string z26.f3) (.slice E2 z26.f4.length e2) (.slice F2 z26.f5.length f2))
            have HRW := Lib.hid (rows_from RK.out (same_six HGL.out (.int .i64 z26.f0) (.int .i64 z26.f1) (.int .u64 z26.f2) (.string z26.f3) (.slice E2 z26.f4.length e2) (.slice F2 z26.f5.length f2)))
            clear nz0 nz1 nz2 nz3 nz4 nz5 fz0 fz1 fz2 fz3 fz4 fz5
            refine hK.out _ _ (KEEP.out _ HF.out) (fun hHeld2 => ?_)
            clear hK K hHeld; have hHeld := hHeld2; clear hHeld2; (try simp only [Act.put, List.setIfInBounds_toArray, List.set_cons_zero, List.set_cons_succ])
            refine wpAnyH_take (i := 10) (oi := ⟨some 12, _, _, _, _, _⟩) (v := ?_) rfl (by as_aux_lemma => kernel_rfl) (by as_aux_lemma => kernel_rfl) (by as_aux_lemma => kernel_rfl) (fun _ _ _ h => h) ?_ (by assumption) ?_; rotate_left; (focus (refine Or.inl ⟨rfl, ?_⟩; intro w hSw; (try dsimp only at hSw); go_simp; (try with_reducible rfl); done)); (try simp only [Act.put, List.setIfInBounds_toArray, List.set_cons_zero, List.set_cons_succ])
            refine wpAnyH_done (by kernel_rfl) ?_ _
            go_wp2
            go_meet
            case rel =>
              exact ⟨_, _, _, _, _, rfl, rfl, ⟨below_step HB.out HF.out⟩, ⟨blk_below XV.out HF.out⟩, ⟨HX.out⟩, ⟨HRW.out⟩⟩
        · go_simp
          have hb := below_alloc (Below.refl wd.heap.size wd) zeros
          refine hK.out _ _ (KEEP.out _ (below_step HN.out hb)) (fun hHeld2 => ?_)
          have BXZ := Lib.hid (blk_new wd zeros)
          have HGX := Lib.hid (below_size HN.out)
          have HN' := Lib.hid (below_step HN.out hb); clear HN; have HN := HN'; clear HN'
          clear hb; clear hK K hHeld; have hHeld := hHeld2; clear hHeld2; (try simp only [Act.put, List.setIfInBounds_toArray, List.set_cons_zero, List.set_cons_succ])
          generalize hgx : wd.alloc zeros = wx at *; clear hgx
          refine wpAnyH_ready (rs := [2]) (by kernel_rfl) (by simp) ?_
          refine AllReadyH.cons (o := ⟨some 59, _, _, _, _, _⟩) rfl (fun K hK => ?_) AllReadyH.nil
          go_simp
          go_at_call 44
          (with_reducible refine (CN.out _ _).mono ?_)
          rintro e wn ⟨rfl, hb⟩
          refine hK.out _ _ (KEEP.out _ (below_step HN.out hb)) (fun hHeld2 => ?_)
          have HN' := Lib.hid (below_step HN.out hb); clear HN; have HN := HN'; clear HN'; have BXZ' := Lib.hid (blk_below BXZ.out hb); clear BXZ; have BXZ := BXZ'; clear BXZ'
          clear hb; clear hK K hHeld; have hHeld := hHeld2; clear hHeld2; (try simp only [Act.put, List.setIfInBounds_toArray, List.set_cons_zero, List.set_cons_succ])
          refine wpAnyH_ready (rs := [3]) (by kernel_rfl) (by simp) ?_
          refine AllReadyH.cons (o := ⟨some 60, _, _, _, _, _⟩) rfl (fun K hK => ?_) AllReadyH.nil
          go_simp
          have hb := below_alloc (Below.refl wn.heap.size wn) (.cells #[.int .i64 5, .int .i64 0, .int .u64 0, .string ⟨#[]⟩, .slice A l.length c, .slice none 0 0, .int .i64 2, .int .i64 i, .int .u64 0, .string ⟨#[]⟩, .slice none 0 0, .slice none 0 0] 26)
          refine hK.out _ _ (KEEP.out _ (below_step HN.out hb)) (fun hHeld2 => ?_)
          have GA := Lib.hid (blk_new wn (.cells #[.int .i64 5, .int .i64 0, .int .u64 0, .string ⟨#[]⟩, .slice A l.length c, .slice none 0 0, .int .i64 2, .int .i64 i, .int .u64 0, .string ⟨#[]⟩, .slice none 0 0, .slice none 0 0] 26))
          have HN' := Lib.hid (below_step HN.out hb); clear HN; have HN := HN'; clear HN'; have BXZ' := Lib.hid (blk_below BXZ.out hb); clear BXZ; have BXZ := BXZ'; clear BXZ'
          clear hb; clear hK K hHeld; have hHeld := hHeld2; clear hHeld2; (try simp only [Act.put, List.setIfInBounds_toArray, List.set_cons_zero, List.set_cons_succ])
          generalize hgk : wn.alloc (.cells #[.int .i64 5, .int .i64 0, .int .u64 0, .string ⟨#[]⟩, .slice A l.length c, .slice none 0 0, .int .i64 2, .int .i64 i, .int .u64 0, .string ⟨#[]⟩, .slice none 0 0, .slice none 0 0] 26) = wk at *; clear hgk
          obtain ⟨gk_, hgk⟩ : ∃ gk_, wn.heap.size = gk_ := ⟨_, rfl⟩; rw [hgk] at GA; (try rw [hgk]); clear hgk
          refine wpAnyH_ready (rs := [4]) (by kernel_rfl) (by simp) ?_
          refine AllReadyH.cons (o := ⟨some 61, _, _, _, _, _⟩) rfl (fun K hK => ?_) AllReadyH.nil
          go_simp
          go_at_call 42
          (with_reducible refine (GX.out _ _ (below_step HB.out HN.out) GA.out).mono ?_)
          rintro e wm ⟨v4, v5, rfl, hk4, hk5, hb⟩
          obtain ⟨E2, e2, rfl⟩ := Kd.R_slice hk4; obtain ⟨F2, f2, rfl⟩ := Kd.R_slice hk5; have RK := Lib.hid (And.intro hk4 hk5); clear hk4 hk5
          refine hK.out _ _ (KEEP.out _ (below_step HN.out hb)) (fun hHeld2 => ?_)
          have HGL := Lib.hid (blk_lt BXZ.out)
          have HN' := Lib.hid (below_step HN.out hb); clear HN; have HN := HN'; clear HN'; have BXZ' := Lib.hid (blk_below BXZ.out hb); clear BXZ; have BXZ := BXZ'; clear BXZ'
          clear hb GA; clear hK K hHeld; have hHeld := hHeld2; clear hHeld2; (try simp only [Act.put, List.setIfInBounds_toArray, List.set_cons_zero, List.set_cons_succ])
          refine wpAnyH_take (i := 5) (oi := ⟨some 56, _, _, _, _, _⟩) (v := ?_) rfl (by as_aux_lemma => kernel_rfl) (by as_aux_lemma => kernel_rfl) (by as_aux_lemma => kernel_rfl) (fun _ _ _ h => h) ?_ (by assumption) ?_; rotate_left; (focus (refine Or.inl ⟨rfl, ?_⟩; intro w hSw; (try dsimp only at hSw); go_simp; (try with_reducible rfl); done)); (try simp only [Act.put, List.setIfInBounds_toArray, List.set_cons_zero, List.set_cons_succ])
          refine wpAnyH_take (i := 6) (oi := ⟨some 62, _, _, _, _, _⟩) (v := ?_) rfl (by as_aux_lemma => kernel_rfl) (by as_aux_lemma => kernel_rfl) (by as_aux_lemma => kernel_rfl) (fun _ _ _ h => h) ?_ (by assumption) ?_; rotate_left; (focus (refine Or.inl ⟨rfl, ?_⟩; intro w hSw; (try dsimp only at hSw); go_simp; (try with_reducible rfl); done)); (try simp only [Act.put, List.setIfInBounds_toArray, List.set_cons_zero, List.set_cons_succ])
          refine wpAnyH_take (i := 7) (oi := ⟨some 63, _, _, _, _, _⟩) (v := ?_) rfl (by as_aux_lemma => kernel_rfl) (by as_aux_lemma => kernel_rfl) (by as_aux_lemma => kernel_rfl) (fun _ _ _ h => h) ?_ (by assumption) ?_; rotate_left; (focus (refine Or.inl ⟨rfl, ?_⟩; intro w hSw; (try dsimp only at hSw); go_simp; (try with_reducible rfl); done)); (try simp only [Act.put, List.setIfInBounds_toArray, List.set_cons_zero, List.set_cons_succ])
          refine wpAnyH_ready (rs := [9]) (by kernel_rfl) (by simp) ?_
          refine AllReadyH.cons (o := ⟨none, _, _, _, _, _⟩) rfl (fun K hK => ?_) AllReadyH.nil
          have nz0 := (blk_cell BXZ.out 0).trans rfl; have fz0 := blk_frozen BXZ.out 0; have nz1 := (blk_cell BXZ.out 1).trans rfl; have fz1 := blk_frozen BXZ.out 1; have nz2 := (blk_cell BXZ.out 2).trans rfl; have fz2 := blk_frozen BXZ.out 2; have nz3 := (blk_cell BXZ.out 3).trans rfl; have fz3 := blk_frozen BXZ.out 3; have nz4 := (blk_cell BXZ.out 4).trans rfl; have fz4 := blk_frozen BXZ.out 4; have nz5 := (blk_cell BXZ.out 5).trans rfl; have fz5 := blk_frozen BXZ.out 5
          go_simp
          have HF := Lib.hid (six_below HN.out HGX.out (.int .i64 z26.f0) (.int .i64 z26.f1) (.int .u64 z26.f2) (.string z26.f3) (.slice E2 z26.f4.length e2) (.slice F2 z26.f5.length f2))
          have HX := Lib.hid (six_put BXZ.out (.int .i64 z26.f0) (.int .i64 z26.f1) (.int .u64 z26.f2) (.string z26.f3) (.slice E2 z26.f4.length e2) (.slice F2 z26.f5.length f2))
          have HRW := Lib.hid (rows_from RK.out (same_six HGL.out (.int .i64 z26.f0) (.int .i64 z26.f1) (.int .u64 z26.f2) (.string z26.f3) (.slice E2 z26.f4.length e2) (.slice F2 z26.f5.length f2)))
          clear nz0 nz1 nz2 nz3 nz4 nz5 fz0 fz1 fz2 fz3 fz4 fz5
          refine hK.out _ _ (KEEP.out _ HF.out) (fun hHeld2 => ?_)
          clear hK K hHeld; have hHeld := hHeld2; clear hHeld2; (try simp only [Act.put, List.setIfInBounds_toArray, List.set_cons_zero, List.set_cons_succ])
          refine wpAnyH_take (i := 10) (oi := ⟨some 12, _, _, _, _, _⟩) (v := ?_) rfl (by as_aux_lemma => kernel_rfl) (by as_aux_lemma => kernel_rfl) (by as_aux_lemma => kernel_rfl) (fun _ _ _ h => h) ?_ (by assumption) ?_; rotate_left; (focus (refine Or.inl ⟨rfl, ?_⟩; intro w hSw; (try dsimp only at hSw); go_simp; (try with_reducible rfl); done)); (try simp only [Act.put, List.setIfInBounds_toArray, List.set_cons_zero, List.set_cons_succ])
          refine wpAnyH_done (by kernel_rfl) ?_ _
          go_wp2
          go_meet
          case rel =>
            exact ⟨_, _, _, _, _, rfl, rfl, ⟨below_step HB.out HF.out⟩, ⟨blk_below XV.out HF.out⟩, ⟨HX.out⟩, ⟨HRW.out⟩⟩
      case rest =>
      (try clear l0 l1 l2 l3 l4 l5)
      clear HB XV
      obtain ⟨gx, E2, e2, F2, f2, rfl, rfl, HB0, XV0, BX0, RX0⟩ := hcut
      have HB := Lib.hid HB0.out; clear HB0; have XV := Lib.hid XV0.out; clear XV0; have BX := Lib.hid BX0.out; clear BX0; have RX := Lib.hid RX0.out; clear RX0
      clear BX RX
      rcases D with D | ⟨D, D'⟩
      all_goals
        go_upto_region 14 with (fail)
        go_cut [99] (fun v99 wc => v99 = .bool false ∧ Aside0 (Below w.heap.size w wc) ∧ Aside0 (wc.heap[gv]? = some (.cells #[.int .i64 5, .int .i64 0, .int .u64 0, .string ⟨#[]⟩, .slice A l.length c, .slice none 0 0] 26 (0, 0))))
        case first =>
          have hbn := below_drew (Below.refl wc.heap.size wc)
          have HB' := Lib.hid (below_step HB.out hbn); have XV' := Lib.hid (blk_below XV.out hbn); clear HB; have HB := HB'; clear HB'; clear XV; have XV := XV'; clear XV'
          clear hbn
          have KEEP : ∀ w', Below wc.drew.heap.size wc.drew w' → (Below wc.drew.heap.size wc.drew w') := fun w' h => h
          have KEEP := Lib.hid KEEP
          refine wp_region_held_drew (S := (fun w' => Below wc.drew.heap.size wc.drew w')) (by kernel_rfl) ?_ (fun hHeld => ?_)
          · exact KEEP.out _ (Below.refl _ _)
          refine wpAnyH_take (i := 0) (oi := ⟨some 64, _, _, _, _, _⟩) (v := ?_) rfl (by kernel_rfl) (by kernel_rfl) (by kernel_rfl) (fun _ _ _ h => h) ?_ (by assumption) ?_; rotate_left; (focus (refine Or.inl ⟨rfl, ?_⟩; intro w hSw; (try dsimp only at hSw); go_simp; (try with_reducible rfl); done)); (try simp only [Act.put, List.setIfInBounds_toArray, List.set_cons_zero, List.set_cons_succ])
          refine wpAnyH_take (i := 3) (oi := ⟨some 67, _, _, _, _, _⟩) (v := ?_) rfl (by kernel_rfl) (by kernel_rfl) (by kernel_rfl) (fun _ _ _ h => h) ?_ (by assumption) ?_; rotate_left; (focus (refine Or.inl ⟨rfl, ?_⟩; intro w hSw; (try dsimp only at hSw); go_simp; (try with_reducible rfl); done)); (try simp only [Act.put, List.setIfInBounds_toArray, List.set_cons_zero, List.set_cons_succ])
          refine wpAnyH_take (i := 4) (oi := ⟨some 68, _, _, _, _, _⟩) (v := ?_) rfl (by kernel_rfl) (by kernel_rfl) (by kernel_rfl) (fun _ _ _ h => h) ?_ (by assumption) ?_; rotate_left; (focus (refine Or.inl ⟨rfl, ?_⟩; intro w hSw; (try dsimp only at hSw); go_simp; (try with_reducible rfl); done)); (try simp only [Act.put, List.setIfInBounds_toArray, List.set_cons_zero, List.set_cons_succ])
          refine wpAnyH_ready (rs := [1]) (by kernel_rfl) (by simp) ?_
          refine AllReadyH.cons (o := ⟨some 65, _, _, _, _, _⟩) rfl (fun K hK => ?_) AllReadyH.nil
          go_simp
          (try (first | (go_at_call 25; (with_reducible refine (numB _ _).mono ?_); rintro e wn ⟨rfl, hb⟩)))
          refine hK.out _ _ ?_ (fun hHeld2 => ?_)
          · first | assumption | (exact KEEP.out _ (below_step (by first | assumption | exact And.left (by assumption) | exact Below.refl _ _) hb))
          clear hK K hHeld
          have hHeld := hHeld2; clear hHeld2
          (try simp only [Act.put, List.setIfInBounds_toArray, List.set_cons_zero, List.set_cons_succ])
          refine wpAnyH_take (i := 2) (oi := ⟨some 66, _, _, _, _, _⟩) (v := ?_) rfl (by kernel_rfl) (by kernel_rfl) (by kernel_rfl) (fun _ _ _ h => h) ?_ (by assumption) ?_; rotate_left; (focus (refine Or.inl ⟨rfl, ?_⟩; intro w hSw; (try dsimp only at hSw); go_simp; (try with_reducible rfl); done)); (try simp only [Act.put, List.setIfInBounds_toArray, List.set_cons_zero, List.set_cons_succ])
          refine wpAnyH_take (i := 5) (oi := ⟨some 69, _, _, _, _, _⟩) (v := ?_) rfl (by kernel_rfl) (by kernel_rfl) (by kernel_rfl) (fun _ _ _ h => h) ?_ (by assumption) ?_; rotate_left; (focus (refine Or.inl ⟨rfl, ?_⟩; intro w hSw; (try dsimp only at hSw); go_simp; (try with_reducible rfl); done)); (try simp only [Act.put, List.setIfInBounds_toArray, List.set_cons_zero, List.set_cons_succ])
          first | (refine wpAnyH_take (i := 6) (oi := ⟨some 70, _, _, _, _, _⟩) (v := ?_) rfl (by kernel_rfl) (by kernel_rfl) (by kernel_rfl) (fun _ _ _ h => h) ?_ (by assumption) ?_; rotate_left; (focus (refine Or.inl ⟨rfl, ?_⟩; intro w hSw; (try dsimp only at hSw); go_simp; (try with_reducible rfl); done)); (try simp only [Act.put, List.setIfInBounds_toArray, List.set_cons_zero, List.set_cons_succ])) | (refine wpAnyH_take (i := 6) (oi := ⟨some 70, _, _, _, _, _⟩) (v := undef) rfl (by kernel_rfl) (by kernel_rfl) (by kernel_rfl) (fun _ _ _ h => h) (Or.inr ⟨rfl, rfl⟩) (by assumption) ?_; (try simp only [Act.put, List.setIfInBounds_toArray, List.set_cons_zero, List.set_cons_succ]))
          first | (refine wpAnyH_take (i := 7) (oi := ⟨some 71, _, _, _, _, _⟩) (v := ?_) rfl (by kernel_rfl) (by kernel_rfl) (by kernel_rfl) (fun _ _ _ h => h) ?_ (by assumption) ?_; rotate_left; (focus (refine Or.inl ⟨rfl, ?_⟩; intro w hSw; (try dsimp only at hSw); go_simp; (try with_reducible rfl); done)); (try simp only [Act.put, List.setIfInBounds_toArray, List.set_cons_zero, List.set_cons_succ])) | (refine wpAnyH_take (i := 7) (oi := ⟨some 71, _, _, _, _, _⟩) (v := undef) rfl (by kernel_rfl) (by kernel_rfl) (by kernel_rfl) (fun _ _ _ h => h) (Or.inr ⟨rfl, rfl⟩) (by assumption) ?_; (try simp only [Act.put, List.setIfInBounds_toArray, List.set_cons_zero, List.set_cons_succ]))
          first | (refine wpAnyH_take (i := 8) (oi := ⟨some 72, _, _, _, _, _⟩) (v := ?_) rfl (by kernel_rfl) (by kernel_rfl) (by kernel_rfl) (fun _ _ _ h => h) ?_ (by assumption) ?_; rotate_left; (focus (refine Or.inl ⟨rfl, ?_⟩; intro w hSw; (try dsimp only at hSw); go_simp; (try with_reducible rfl); done)); (try simp only [Act.put, List.setIfInBounds_toArray, List.set_cons_zero, List.set_cons_succ])) | (refine wpAnyH_take (i := 8) (oi := ⟨some 72, _, _, _, _, _⟩) (v := undef) rfl (by kernel_rfl) (by kernel_rfl) (by kernel_rfl) (fun _ _ _ h => h) (Or.inr ⟨rfl, rfl⟩) (by assumption) ?_; (try simp only [Act.put, List.setIfInBounds_toArray, List.set_cons_zero, List.set_cons_succ]))
          first | (refine wpAnyH_take (i := 9) (oi := ⟨some 73, _, _, _, _, _⟩) (v := ?_) rfl (by kernel_rfl) (by kernel_rfl) (by kernel_rfl) (fun _ _ _ h => h) ?_ (by assumption) ?_; rotate_left; (focus (refine Or.inl ⟨rfl, ?_⟩; intro w hSw; (try dsimp only at hSw); go_simp; (try with_reducible rfl); done)); (try simp only [Act.put, List.setIfInBounds_toArray, List.set_cons_zero, List.set_cons_succ])) | (refine wpAnyH_take (i := 9) (oi := ⟨some 73, _, _, _, _, _⟩) (v := undef) rfl (by kernel_rfl) (by kernel_rfl) (by kernel_rfl) (fun _ _ _ h => h) (Or.inr ⟨rfl, rfl⟩) (by assumption) ?_; (try simp only [Act.put, List.setIfInBounds_toArray, List.set_cons_zero, List.set_cons_succ]))
          refine wpAnyH_take (i := 10) (oi := ⟨some 74, _, _, _, _, _⟩) (v := ?_) rfl (by kernel_rfl) (by kernel_rfl) (by kernel_rfl) (fun _ _ _ h => h) ?_ (by assumption) ?_; rotate_left; (focus (refine Or.inl ⟨rfl, ?_⟩; intro w hSw; (try dsimp only at hSw); go_simp; (try with_reducible rfl); done)); (try simp only [Act.put, List.setIfInBounds_toArray, List.set_cons_zero, List.set_cons_succ])
          refine wpAnyH_take (i := 11) (oi := ⟨some 75, _, _, _, _, _⟩) (v := ?_) rfl (by kernel_rfl) (by kernel_rfl) (by kernel_rfl) (fun _ _ _ h => h) ?_ (by assumption) ?_; rotate_left; (focus (refine Or.inl ⟨rfl, ?_⟩; intro w hSw; (try dsimp only at hSw); go_simp; (try with_reducible rfl); done)); (try simp only [Act.put, List.setIfInBounds_toArray, List.set_cons_zero, List.set_cons_succ])
          refine wpAnyH_take (i := 12) (oi := ⟨some 76, _, _, _, _, _⟩) (v := ?_) rfl (by kernel_rfl) (by kernel_rfl) (by kernel_rfl) (fun _ _ _ h => h) ?_ (by assumption) ?_; rotate_left; (focus (refine Or.inl ⟨rfl, ?_⟩; intro w hSw; (try dsimp only at hSw); go_simp; (try with_reducible rfl); done)); (try simp only [Act.put, List.setIfInBounds_toArray, List.set_cons_zero, List.set_cons_succ])
          first | (refine wpAnyH_take (i := 13) (oi := ⟨some 77, _, _, _, _, _⟩) (v := ?_) rfl (by kernel_rfl) (by kernel_rfl) (by kernel_rfl) (fun _ _ _ h => h) ?_ (by assumption) ?_; rotate_left; (focus (refine Or.inl ⟨rfl, ?_⟩; intro w hSw; (try dsimp only at hSw); go_simp; (try with_reducible rfl); done)); (try simp only [Act.put, List.setIfInBounds_toArray, List.set_cons_zero, List.set_cons_succ])) | (refine wpAnyH_take (i := 13) (oi := ⟨some 77, _, _, _, _, _⟩) (v := undef) rfl (by kernel_rfl) (by kernel_rfl) (by kernel_rfl) (fun _ _ _ h => h) (Or.inr ⟨rfl, rfl⟩) (by assumption) ?_; (try simp only [Act.put, List.setIfInBounds_toArray, List.set_cons_zero, List.set_cons_succ]))
          refine wpAnyH_ready (rs := [14]) (by kernel_rfl) (by simp) ?_
          refine AllReadyH.cons (o := ⟨some 78, _, _, _, _, _⟩) rfl (fun K hK => ?_) AllReadyH.nil
          go_simp
          (try (first | (go_at_call 25; (with_reducible refine (numB _ _).mono ?_); rintro e wn ⟨rfl, hb⟩)))
          refine hK.out _ _ ?_ (fun hHeld2 => ?_)
          · first | assumption | (exact KEEP.out _ (below_step (by first | assumption | exact And.left (by assumption) | exact Below.refl _ _) hb))
          clear hK K hHeld
          have hHeld := hHeld2; clear hHeld2
          (try simp only [Act.put, List.setIfInBounds_toArray, List.set_cons_zero, List.set_cons_succ])
          first | (refine wpAnyH_take (i := 15) (oi := ⟨some 79, _, _, _, _, _⟩) (v := ?_) rfl (by kernel_rfl) (by kernel_rfl) (by kernel_rfl) (fun _ _ _ h => h) ?_ (by assumption) ?_; rotate_left; (focus (refine Or.inl ⟨rfl, ?_⟩; intro w hSw; (try dsimp only at hSw); go_simp; (try with_reducible rfl); done)); (try simp only [Act.put, List.setIfInBounds_toArray, List.set_cons_zero, List.set_cons_succ])) | (refine wpAnyH_take (i := 15) (oi := ⟨some 79, _, _, _, _, _⟩) (v := undef) rfl (by kernel_rfl) (by kernel_rfl) (by kernel_rfl) (fun _ _ _ h => h) (Or.inr ⟨rfl, rfl⟩) (by assumption) ?_; (try simp only [Act.put, List.setIfInBounds_toArray, List.set_cons_zero, List.set_cons_succ]))
          first | (refine wpAnyH_take (i := 16) (oi := ⟨some 80, _, _, _, _, _⟩) (v := ?_) rfl (by kernel_rfl) (by kernel_rfl) (by kernel_rfl) (fun _ _ _ h => h) ?_ (by assumption) ?_; rotate_left; (focus (refine Or.inl ⟨rfl, ?_⟩; intro w hSw; (try dsimp only at hSw); go_simp; (try with_reducible rfl); done)); (try simp only [Act.put, List.setIfInBounds_toArray, List.set_cons_zero, List.set_cons_succ])) | (refine wpAnyH_take (i := 16) (oi := ⟨some 80, _, _, _, _, _⟩) (v := undef) rfl (by kernel_rfl) (by kernel_rfl) (by kernel_rfl) (fun _ _ _ h => h) (Or.inr ⟨rfl, rfl⟩) (by assumption) ?_; (try simp only [Act.put, List.setIfInBounds_toArray, List.set_cons_zero, List.set_cons_succ]))
          first | (refine wpAnyH_take (i := 17) (oi := ⟨some 81, _, _, _, _, _⟩) (v := ?_) rfl (by kernel_rfl) (by kernel_rfl) (by kernel_rfl) (fun _ _ _ h => h) ?_ (by assumption) ?_; rotate_left; (focus (refine Or.inl ⟨rfl, ?_⟩; intro w hSw; (try dsimp only at hSw); go_simp; (try with_reducible rfl); done)); (try simp only [Act.put, List.setIfInBounds_toArray, List.set_cons_zero, List.set_cons_succ])) | (refine wpAnyH_take (i := 17) (oi := ⟨some 81, _, _, _, _, _⟩) (v := undef) rfl (by kernel_rfl) (by kernel_rfl) (by kernel_rfl) (fun _ _ _ h => h) (Or.inr ⟨rfl, rfl⟩) (by assumption) ?_; (try simp only [Act.put, List.setIfInBounds_toArray, List.set_cons_zero, List.set_cons_succ]))
          first | (refine wpAnyH_take (i := 18) (oi := ⟨some 82, _, _, _, _, _⟩) (v := ?_) rfl (by kernel_rfl) (by kernel_rfl) (by kernel_rfl) (fun _ _ _ h => h) ?_ (by assumption) ?_; rotate_left; (focus (refine Or.inl ⟨rfl, ?_⟩; intro w hSw; (try dsimp only at hSw); go_simp; (try with_reducible rfl); done)); (try simp only [Act.put, List.setIfInBounds_toArray, List.set_cons_zero, List.set_cons_succ])) | (refine wpAnyH_take (i := 18) (oi := ⟨some 82, _, _, _, _, _⟩) (v := undef) rfl (by kernel_rfl) (by kernel_rfl) (by kernel_rfl) (fun _ _ _ h => h) (Or.inr ⟨rfl, rfl⟩) (by assumption) ?_; (try simp only [Act.put, List.setIfInBounds_toArray, List.set_cons_zero, List.set_cons_succ]))
          first | (refine wpAnyH_take (i := 19) (oi := ⟨some 83, _, _, _, _, _⟩) (v := ?_) rfl (by kernel_rfl) (by kernel_rfl) (by kernel_rfl) (fun _ _ _ h => h) ?_ (by assumption) ?_; rotate_left; (focus (refine Or.inl ⟨rfl, ?_⟩; intro w hSw; (try dsimp only at hSw); go_simp; (try with_reducible rfl); done)); (try simp only [Act.put, List.setIfInBounds_toArray, List.set_cons_zero, List.set_cons_succ])) | (refine wpAnyH_take (i := 19) (oi := ⟨some 83, _, _, _, _, _⟩) (v := undef) rfl (by kernel_rfl) (by kernel_rfl) (by kernel_rfl) (fun _ _ _ h => h) (Or.inr ⟨rfl, rfl⟩) (by assumption) ?_; (try simp only [Act.put, List.setIfInBounds_toArray, List.set_cons_zero, List.set_cons_succ]))
          first | (refine wpAnyH_take (i := 20) (oi := ⟨some 84, _, _, _, _, _⟩) (v := ?_) rfl (by kernel_rfl) (by kernel_rfl) (by kernel_rfl) (fun _ _ _ h => h) ?_ (by assumption) ?_; rotate_left; (focus (refine Or.inl ⟨rfl, ?_⟩; intro w hSw; (try dsimp only at hSw); go_simp; (try with_reducible rfl); done)); (try simp only [Act.put, List.setIfInBounds_toArray, List.set_cons_zero, List.set_cons_succ])) | (refine wpAnyH_take (i := 20) (oi := ⟨some 84, _, _, _, _, _⟩) (v := undef) rfl (by kernel_rfl) (by kernel_rfl) (by kernel_rfl) (fun _ _ _ h => h) (Or.inr ⟨rfl, rfl⟩) (by assumption) ?_; (try simp only [Act.put, List.setIfInBounds_toArray, List.set_cons_zero, List.set_cons_succ]))
          first | (refine wpAnyH_take (i := 21) (oi := ⟨some 85, _, _, _, _, _⟩) (v := ?_) rfl (by kernel_rfl) (by kernel_rfl) (by kernel_rfl) (fun _ _ _ h => h) ?_ (by assumption) ?_; rotate_left; (focus (refine Or.inl ⟨rfl, ?_⟩; intro w hSw; (try dsimp only at hSw); go_simp; (try with_reducible rfl); done)); (try simp only [Act.put, List.setIfInBounds_toArray, List.set_cons_zero, List.set_cons_succ])) | (refine wpAnyH_take (i := 21) (oi := ⟨some 85, _, _, _, _, _⟩) (v := undef) rfl (by kernel_rfl) (by kernel_rfl) (by kernel_rfl) (fun _ _ _ h => h) (Or.inr ⟨rfl, rfl⟩) (by assumption) ?_; (try simp only [Act.put, List.setIfInBounds_toArray, List.set_cons_zero, List.set_cons_succ]))
          refine wpAnyH_ready (rs := [22]) (by kernel_rfl) (by simp) ?_
          refine AllReadyH.cons (o := ⟨some 86, _, _, _, _, _⟩) rfl (fun K hK => ?_) AllReadyH.nil
          go_simp
          (try (first | (go_at_call 25; (with_reducible refine (numB _ _).mono ?_); rintro e wn ⟨rfl, hb⟩)))
          refine hK.out _ _ ?_ (fun hHeld2 => ?_)
          · first | assumption | (exact KEEP.out _ (below_step (by first | assumption | exact And.left (by assumption) | exact Below.refl _ _) hb))
          clear hK K hHeld
          have hHeld := hHeld2; clear hHeld2
          (try simp only [Act.put, List.setIfInBounds_toArray, List.set_cons_zero, List.set_cons_succ])
          first | (refine wpAnyH_take (i := 23) (oi := ⟨some 87, _, _, _, _, _⟩) (v := ?_) rfl (by kernel_rfl) (by kernel_rfl) (by kernel_rfl) (fun _ _ _ h => h) ?_ (by assumption) ?_; rotate_left; (focus (refine Or.inl ⟨rfl, ?_⟩; intro w hSw; (try dsimp only at hSw); go_simp; (try with_reducible rfl); done)); (try simp only [Act.put, List.setIfInBounds_toArray, List.set_cons_zero, List.set_cons_succ])) | (refine wpAnyH_take (i := 23) (oi := ⟨some 87, _, _, _, _, _⟩) (v := undef) rfl (by kernel_rfl) (by kernel_rfl) (by kernel_rfl) (fun _ _ _ h => h) (Or.inr ⟨rfl, rfl⟩) (by assumption) ?_; (try simp only [Act.put, List.setIfInBounds_toArray, List.set_cons_zero, List.set_cons_succ]))
          first | (refine wpAnyH_take (i := 24) (oi := ⟨some 88, _, _, _, _, _⟩) (v := ?_) rfl (by kernel_rfl) (by kernel_rfl) (by kernel_rfl) (fun _ _ _ h => h) ?_ (by assumption) ?_; rotate_left; (focus (refine Or.inl ⟨rfl, ?_⟩; intro w hSw; (try dsimp only at hSw); go_simp; (try with_reducible rfl); done)); (try simp only [Act.put, List.setIfInBounds_toArray, List.set_cons_zero, List.set_cons_succ])) | (refine wpAnyH_take (i := 24) (oi := ⟨some 88, _, _, _, _, _⟩) (v := undef) rfl (by kernel_rfl) (by kernel_rfl) (by kernel_rfl) (fun _ _ _ h => h) (Or.inr ⟨rfl, rfl⟩) (by assumption) ?_; (try simp only [Act.put, List.setIfInBounds_toArray, List.set_cons_zero, List.set_cons_succ]))
          refine wpAnyH_take (i := 25) (oi := ⟨some 89, _, _, _, _, _⟩) (v := ?_) rfl (by kernel_rfl) (by kernel_rfl) (by kernel_rfl) (fun _ _ _ h => h) ?_ (by assumption) ?_; rotate_left; (focus (refine Or.inl ⟨rfl, ?_⟩; intro w hSw; (try dsimp only at hSw); go_simp; (try with_reducible rfl); done)); (try simp only [Act.put, List.setIfInBounds_toArray, List.set_cons_zero, List.set_cons_succ])
          refine wpAnyH_take (i := 26) (oi := ⟨some 90, _, _, _, _, _⟩) (v := ?_) rfl (by kernel_rfl) (by kernel_rfl) (by kernel_rfl) (fun _ _ _ h => h) ?_ (by assumption) ?_; rotate_left; (focus (refine Or.inl ⟨rfl, ?_⟩; intro w hSw; (try dsimp only at hSw); go_simp; (try with_reducible rfl); done)); (try simp only [Act.put, List.setIfInBounds_toArray, List.set_cons_zero, List.set_cons_succ])
          first | (refine wpAnyH_take (i := 27) (oi := ⟨some 91, _, _, _, _, _⟩) (v := ?_) rfl (by kernel_rfl) (by kernel_rfl) (by kernel_rfl) (fun _ _ _ h => h) ?_ (by assumption) ?_; rotate_left; (focus (refine Or.inl ⟨rfl, ?_⟩; intro w hSw; (try dsimp only at hSw); go_simp; (try with_reducible rfl); done)); (try simp only [Act.put, List.setIfInBounds_toArray, List.set_cons_zero, List.set_cons_succ])) | (refine wpAnyH_take (i := 27) (oi := ⟨some 91, _, _, _, _, _⟩) (v := undef) rfl (by kernel_rfl) (by kernel_rfl) (by kernel_rfl) (fun _ _ _ h => h) (Or.inr ⟨rfl, rfl⟩) (by assumption) ?_; (try simp only [Act.put, List.setIfInBounds_toArray, List.set_cons_zero, List.set_cons_succ]))
          refine wpAnyH_ready (rs := [28]) (by kernel_rfl) (by simp) ?_
          refine AllReadyH.cons (o := ⟨some 92, _, _, _, _, _⟩) rfl (fun K hK => ?_) AllReadyH.nil
          go_simp
          (try (first | (go_at_call 25; (with_reducible refine (numB _ _).mono ?_); rintro e wn ⟨rfl, hb⟩)))
          refine hK.out _ _ ?_ (fun hHeld2 => ?_)
          · first | assumption | (exact KEEP.out _ (below_step (by first | assumption | exact And.left (by assumption) | exact Below.refl _ _) hb))
          clear hK K hHeld
          have hHeld := hHeld2; clear hHeld2
          (try simp only [Act.put, List.setIfInBounds_toArray, List.set_cons_zero, List.set_cons_succ])
          first | (refine wpAnyH_take (i := 29) (oi := ⟨some 93, _, _, _, _, _⟩) (v := ?_) rfl (by kernel_rfl) (by kernel_rfl) (by kernel_rfl) (fun _ _ _ h => h) ?_ (by assumption) ?_; rotate_left; (focus (refine Or.inl ⟨rfl, ?_⟩; intro w hSw; (try dsimp only at hSw); go_simp; (try with_reducible rfl); done)); (try simp only [Act.put, List.setIfInBounds_toArray, List.set_cons_zero, List.set_cons_succ])) | (refine wpAnyH_take (i := 29) (oi := ⟨some 93, _, _, _, _, _⟩) (v := undef) rfl (by kernel_rfl) (by kernel_rfl) (by kernel_rfl) (fun _ _ _ h => h) (Or.inr ⟨rfl, rfl⟩) (by assumption) ?_; (try simp only [Act.put, List.setIfInBounds_toArray, List.set_cons_zero, List.set_cons_succ]))
          first | (refine wpAnyH_take (i := 30) (oi := ⟨some 94, _, _, _, _, _⟩) (v := ?_) rfl (by kernel_rfl) (by kernel_rfl) (by kernel_rfl) (fun _ _ _ h => h) ?_ (by assumption) ?_; rotate_left; (focus (refine Or.inl ⟨rfl, ?_⟩; intro w hSw; (try dsimp only at hSw); go_simp; (try with_reducible rfl); done)); (try simp only [Act.put, List.setIfInBounds_toArray, List.set_cons_zero, List.set_cons_succ])) | (refine wpAnyH_take (i := 30) (oi := ⟨some 94, _, _, _, _, _⟩) (v := undef) rfl (by kernel_rfl) (by kernel_rfl) (by kernel_rfl) (fun _ _ _ h => h) (Or.inr ⟨rfl, rfl⟩) (by assumption) ?_; (try simp only [Act.put, List.setIfInBounds_toArray, List.set_cons_zero, List.set_cons_succ]))
          first | (refine wpAnyH_take (i := 31) (oi := ⟨some 95, _, _, _, _, _⟩) (v := ?_) rfl (by kernel_rfl) (by kernel_rfl) (by kernel_rfl) (fun _ _ _ h => h) ?_ (by assumption) ?_; rotate_left; (focus (refine Or.inl ⟨rfl, ?_⟩; intro w hSw; (try dsimp only at hSw); go_simp; (try with_reducible rfl); done)); (try simp only [Act.put, List.setIfInBounds_toArray, List.set_cons_zero, List.set_cons_succ])) | (refine wpAnyH_take (i := 31) (oi := ⟨some 95, _, _, _, _, _⟩) (v := undef) rfl (by kernel_rfl) (by kernel_rfl) (by kernel_rfl) (fun _ _ _ h => h) (Or.inr ⟨rfl, rfl⟩) (by assumption) ?_; (try simp only [Act.put, List.setIfInBounds_toArray, List.set_cons_zero, List.set_cons_succ]))
          refine wpAnyH_ready (rs := [32]) (by kernel_rfl) (by simp) ?_
          refine AllReadyH.cons (o := ⟨some 96, _, _, _, _, _⟩) rfl (fun K hK => ?_) AllReadyH.nil
          go_simp
          (try (first | (go_at_call 25; (with_reducible refine (numB _ _).mono ?_); rintro e wn ⟨rfl, hb⟩)))
          refine hK.out _ _ ?_ (fun hHeld2 => ?_)
          · first | assumption | (exact KEEP.out _ (below_step (by first | assumption | exact And.left (by assumption) | exact Below.refl _ _) hb))
          clear hK K hHeld
          have hHeld := hHeld2; clear hHeld2
          (try simp only [Act.put, List.setIfInBounds_toArray, List.set_cons_zero, List.set_cons_succ])
          first | (refine wpAnyH_take (i := 33) (oi := ⟨some 97, _, _, _, _, _⟩) (v := ?_) rfl (by kernel_rfl) (by kernel_rfl) (by kernel_rfl) (fun _ _ _ h => h) ?_ (by assumption) ?_; rotate_left; (focus (refine Or.inl ⟨rfl, ?_⟩; intro w hSw; (try dsimp only at hSw); go_simp; (try with_reducible rfl); done)); (try simp only [Act.put, List.setIfInBounds_toArray, List.set_cons_zero, List.set_cons_succ])) | (refine wpAnyH_take (i := 33) (oi := ⟨some 97, _, _, _, _, _⟩) (v := undef) rfl (by kernel_rfl) (by kernel_rfl) (by kernel_rfl) (fun _ _ _ h => h) (Or.inr ⟨rfl, rfl⟩) (by assumption) ?_; (try simp only [Act.put, List.setIfInBounds_toArray, List.set_cons_zero, List.set_cons_succ]))
          first | (refine wpAnyH_take (i := 34) (oi := ⟨some 98, _, _, _, _, _⟩) (v := ?_) rfl (by kernel_rfl) (by kernel_rfl) (by kernel_rfl) (fun _ _ _ h => h) ?_ (by assumption) ?_; rotate_left; (focus (refine Or.inl ⟨rfl, ?_⟩; intro w hSw; (try dsimp only at hSw); go_simp; (try with_reducible rfl); done)); (try simp only [Act.put, List.setIfInBounds_toArray, List.set_cons_zero, List.set_cons_succ])) | (refine wpAnyH_take (i := 34) (oi := ⟨some 98, _, _, _, _, _⟩) (v := undef) rfl (by kernel_rfl) (by kernel_rfl) (by kernel_rfl) (fun _ _ _ h => h) (Or.inr ⟨rfl, rfl⟩) (by assumption) ?_; (try simp only [Act.put, List.setIfInBounds_toArray, List.set_cons_zero, List.set_cons_succ]))
          refine wpAnyH_take (i := 35) (oi := ⟨some 99, _, _, _, _, _⟩) (v := ?_) rfl (by kernel_rfl) (by kernel_rfl) (by kernel_rfl) (fun _ _ _ h => h) ?_ (by assumption) ?_; rotate_left; (focus (refine Or.inl ⟨rfl, ?_⟩; intro w hSw; (try dsimp only at hSw); go_simp; (try with_reducible rfl); done)); (try simp only [Act.put, List.setIfInBounds_toArray, List.set_cons_zero, List.set_cons_succ])
          refine wpAnyH_done (by kernel_rfl) ?_ _
          all_goals
            (try go_wp2)
            go_meet
            case rel =>
              exact ⟨rfl, ⟨below_step HB.out (by first | assumption | exact And.left (by assumption) | exact Below.refl _ _)⟩, ⟨blk_below XV.out (by first | assumption | exact And.left (by assumption) | exact Below.refl _ _)⟩⟩
        case rest =>
        clear HB XV
        obtain ⟨rfl, HB0, XV0⟩ := hcut
        have HB := Lib.hid HB0.out; clear HB0; have XV := Lib.hid XV0.out; clear XV0
        go_wp2
        go_roundg k2
        case measure => omega
        case rel => exact ⟨i + 1, rfl, HQ2, ⟨HB.out⟩, ⟨XV.out⟩⟩
    · rw [if_neg hin] at GX
      have h0 : 0 ≤ i := by omega
      have h1 : i < (l.length : Int) := by omega
      obtain ⟨X, hX⟩ : ∃ X, rd_T26 l i = X := ⟨_, rfl⟩
      obtain ⟨D, hD⟩ := deep_any X
      have DD := Lib.hid hD
      rw [hX] at GX
      have XE := Lib.hid hX
      have z0 := eq_true h0; have z1 := eq_true h1
      have d0 : decide (0 ≤ i) = true := decide_eq_true h0
      have d1 : decide (i < (l.length : Int)) = true := decide_eq_true h1
      have HH := Lib.hid (And.intro h0 h1)
      clear hi1 hi0 h64 hin LR hX hD h0 h1
      go_upto_region 13 with (fail)
      go_cut [11, 12] (fun v11 v12 wc => ∃ (gx : Nat) (E2 : Option Addr) (e2 : Nat) (F2 : Option Addr) (f2 : Nat), v11 = .pointer (some ⟨gx, 0, none⟩) ∧ v12 = .int .i64 0 ∧ Aside0 (Below w.heap.size w wc) ∧ Aside0 (wc.heap[gv]? = some (.cells #[.int .i64 5, .int .i64 0, .int .u64 0, .string ⟨#[]⟩, .slice A l.length c, .slice none 0 0] 26 (0, 0))) ∧ Aside0 (wc.heap[gx]? = some (.cells #[.int .i64 X.f0, .int .i64 X.f1, .int .u64 X.f2, .string X.f3, .slice E2 X.f4.length e2, .slice F2 X.f5.length f2] 26 (0, 0))) ∧ Aside0 (Rows4 wc X E2 e2 F2 f2))
      case first =>
        have XVD := Lib.hid (blk_below XV.out (below_drew (Below.refl wr.heap.size wr)))
        have hbn := below_drew (Below.refl wr.heap.size wr)
        have HB' := Lib.hid (below_step HB.out hbn); have XV' := Lib.hid (blk_below XV.out hbn); clear HB; have HB := HB'; clear HB'; clear XV; have XV := XV'; clear XV'
        clear hbn
        (try clear l0 l1 l2 l3 l4 l5 v0 v1 v2 v3 v4 v5)
        generalize hWD : wr.drew = wd at *
        have KEEP := Lib.hid (show ∀ w', Below wd.heap.size wd w' → (fun w' => Below wd.heap.size wd w' ∧ w'.cell? ⟨gv, 0, none⟩ = some (.int .i64 5) ∧ w'.cell? ⟨gv, 1, none⟩ = some (.int .i64 0) ∧ w'.cell? ⟨gv, 2, none⟩ = some (.int .u64 0) ∧ w'.cell? ⟨gv, 3, none⟩ = some (.string ⟨#[]⟩) ∧ w'.cell? ⟨gv, 4, none⟩ = some (.slice A l.length c) ∧ w'.cell? ⟨gv, 5, none⟩ = some (.slice none 0 0)) w' from fun w' h => ⟨h, (blk_cell (blk_below XVD.out h) 0).trans rfl, (blk_cell (blk_below XVD.out h) 1).trans rfl, (blk_cell (blk_below XVD.out h) 2).trans rfl, (blk_cell (blk_below XVD.out h) 3).trans rfl, (blk_cell (blk_below XVD.out h) 4).trans rfl, (blk_cell (blk_below XVD.out h) 5).trans rfl⟩)
        refine wp_region_held_drew (S := (fun w' => Below wd.heap.size wd w' ∧ w'.cell? ⟨gv, 0, none⟩ = some (.int .i64 5) ∧ w'.cell? ⟨gv, 1, none⟩ = some (.int .i64 0) ∧ w'.cell? ⟨gv, 2, none⟩ = some (.int .u64 0) ∧ w'.cell? ⟨gv, 3, none⟩ = some (.string ⟨#[]⟩) ∧ w'.cell? ⟨gv, 4, none⟩ = some (.slice A l.length c) ∧ w'.cell? ⟨gv, 5, none⟩ = some (.slice none 0 0))) (by kernel_rfl) ?_ (fun hHeld => ?_)
        · rw [hWD]; exact KEEP.out _ (Below.refl _ _)
        rw [hWD] at hHeld ⊢
        clear hWD XVD
        have HN := Lib.hid (Below.refl wd.heap.size wd)
        refine wpAnyH_take (i := 0) (oi := ⟨some 57, _, _, _, _, _⟩) (v := ?_) rfl (by as_aux_lemma => kernel_rfl) (by as_aux_lemma => kernel_rfl) (by as_aux_lemma => kernel_rfl) (fun _ _ _ h => h) ?_ (by assumption) ?_; rotate_left; (focus (refine Or.inl ⟨rfl, ?_⟩; intro w hSw; (try dsimp only at hSw); go_simp; (try with_reducible rfl); done)); (try simp only [Act.put, List.setIfInBounds_toArray, List.set_cons_zero, List.set_cons_succ])
        refine wpAnyH_take (i := 1) (oi := ⟨some 58, _, _, _, _, _⟩) (v := ?_) rfl (by as_aux_lemma => kernel_rfl) (by as_aux_lemma => kernel_rfl) (by as_aux_lemma => kernel_rfl) (fun _ _ _ h => h) ?_ (by assumption) ?_; rotate_left; (focus (refine Or.inl ⟨rfl, ?_⟩; intro w hSw; (try dsimp only at hSw); go_simp; (try with_reducible rfl); done)); (try simp only [Act.put, List.setIfInBounds_toArray, List.set_cons_zero, List.set_cons_succ])
        refine wpAnyH_ready (rs := [2, 8]) (by kernel_rfl) (by simp) ?_
        refine AllReadyH.cons (o := ⟨some 59, _, _, _, _, _⟩) rfl (fun K hK => ?_) (AllReadyH.cons (o := ⟨some 11, _, _, _, _, _⟩) rfl (fun K hK => ?_) AllReadyH.nil)
        · go_simp
          go_at_call 44
          (with_reducible refine (CN.out _ _).mono ?_)
          rintro e wn ⟨rfl, hb⟩
          refine hK.out _ _ (KEEP.out _ (below_step HN.out hb)) (fun hHeld2 => ?_)
          have HN' := Lib.hid (below_step HN.out hb); clear HN; have HN := HN'; clear HN'
          clear hb; clear hK K hHeld; have hHeld := hHeld2; clear hHeld2; (try simp only [Act.put, List.setIfInBounds_toArray, List.set_cons_zero, List.set_cons_succ])
          refine wpAnyH_ready (rs := [3, 8]) (by kernel_rfl) (by simp) ?_
          refine AllReadyH.cons (o := ⟨some 60, _, _, _, _, _⟩) rfl (fun K hK => ?_) (AllReadyH.cons (o := ⟨some 11, _, _, _, _, _⟩) rfl (fun K hK => ?_) AllReadyH.nil)
          · go_simp
            have hb := below_alloc (Below.refl wn.heap.size wn) (.cells #[.int .i64 5, .int .i64 0, .int .u64 0, .string ⟨#[]⟩, .slice A l.length c, .slice none 0 0, .int .i64 2, .int .i64 i, .int .u64 0, .string ⟨#[]⟩, .slice none 0 0, .slice none 0 0] 26)
            refine hK.out _ _ (KEEP.out _ (below_step HN.out hb)) (fun hHeld2 => ?_)
            have GA := Lib.hid (blk_new wn (.cells #[.int .i64 5, .int .i64 0, .int .u64 0, .string ⟨#[]⟩, .slice A l.length c, .slice none 0 0, .int .i64 2, .int .i64 i, .int .u64 0, .string ⟨#[]⟩, .slice none 0 0, .slice none 0 0] 26))
            have HN' := Lib.hid (below_step HN.out hb); clear HN; have HN := HN'; clear HN'
            clear hb; clear hK K hHeld; have hHeld := hHeld2; clear hHeld2; (try simp only [Act.put, List.setIfInBounds_toArray, List.set_cons_zero, List.set_cons_succ])
            generalize hgk : wn.alloc (.cells #[.int .i64 5, .int .i64 0, .int .u64 0, .string ⟨#[]⟩, .slice A l.length c, .slice none 0 0, .int .i64 2, .int .i64 i, .int .u64 0, .string ⟨#[]⟩, .slice none 0 0, .slice none 0 0] 26) = wk at *; clear hgk
            obtain ⟨gk_, hgk⟩ : ∃ gk_, wn.heap.size = gk_ := ⟨_, rfl⟩; rw [hgk] at GA; (try rw [hgk]); clear hgk
            refine wpAnyH_ready (rs := [4, 8]) (by kernel_rfl) (by simp) ?_
            refine AllReadyH.cons (o := ⟨some 61, _, _, _, _, _⟩) rfl (fun K hK => ?_) (AllReadyH.cons (o := ⟨some 11, _, _, _, _, _⟩) rfl (fun K hK => ?_) AllReadyH.nil)
            · go_simp
              go_at_call 42
              (with_reducible refine (GX.out _ _ (below_step HB.out HN.out) GA.out).mono ?_)
              rintro e wm ⟨v4, v5, rfl, hk4, hk5, hb⟩
              obtain ⟨E2, e2, rfl⟩ := Kd.R_slice hk4; obtain ⟨F2, f2, rfl⟩ := Kd.R_slice hk5; have RK := Lib.hid (And.intro hk4 hk5); clear hk4 hk5
              refine hK.out _ _ (KEEP.out _ (below_step HN.out hb)) (fun hHeld2 => ?_)
              have HN' := Lib.hid (below_step HN.out hb); clear HN; have HN := HN'; clear HN'
              clear hb GA; clear hK K hHeld; have hHeld := hHeld2; clear hHeld2; (try simp only [Act.put, List.setIfInBounds_toArray, List.set_cons_zero, List.set_cons_succ])
              refine wpAnyH_take (i := 5) (oi := ⟨some 56, _, _, _, _, _⟩) (v := ?_) rfl (by as_aux_lemma => kernel_rfl) (by as_aux_lemma => kernel_rfl) (by as_aux_lemma => kernel_rfl) (fun _ _ _ h => h) ?_ (by assumption) ?_; rotate_left; (focus (refine Or.inl ⟨rfl, ?_⟩; intro w hSw; (try dsimp only at hSw); go_simp; (try with_reducible rfl); done)); (try simp only [Act.put, List.setIfInBounds_toArray, List.set_cons_zero, List.set_cons_succ])
              refine wpAnyH_take (i := 6) (oi := ⟨some 62, _, _, _, _, _⟩) (v := ?_) rfl (by as_aux_lemma => kernel_rfl) (by as_aux_lemma => kernel_rfl) (by as_aux_lemma => kernel_rfl) (fun _ _ _ h => h) ?_ (by assumption) ?_; rotate_left; (focus (refine Or.inl ⟨rfl, ?_⟩; intro w hSw; (try dsimp only at hSw); go_simp; (try with_reducible rfl); done)); (try simp only [Act.put, List.setIfInBounds_toArray, List.set_cons_zero, List.set_cons_succ])
              refine wpAnyH_take (i := 7) (oi := ⟨some 63, _, _, _, _, _⟩) (v := ?_) rfl (by as_aux_lemma => kernel_rfl) (by as_aux_lemma => kernel_rfl) (by as_aux_lemma => kernel_rfl) (fun _ _ _ h => h) ?_ (by assumption) ?_; rotate_left; (focus (refine Or.inl ⟨rfl, ?_⟩; intro w hSw; (try dsimp only at hSw); go_simp; (try with_reducible rfl); done)); (try simp only [Act.put, List.setIfInBounds_toArray, List.set_cons_zero, List.set_cons_succ])
              refine wpAnyH_ready (rs := [8]) (by kernel_rfl) (by simp) ?_
              refine AllReadyH.cons (o := ⟨some 11, _, _, _, _, _⟩) rfl (fun K hK => ?_) AllReadyH.nil
              go_simp
              have hb := below_alloc (Below.refl wm.heap.size wm) zeros
              refine hK.out _ _ (KEEP.out _ (below_step HN.out hb)) (fun hHeld2 => ?_)
              have BXZ := Lib.hid (blk_new wm zeros)
              have HNA := Lib.hid (below_step HN.out hb)
              clear hb; clear hK K hHeld; have hHeld := hHeld2; clear hHeld2; (try simp only [Act.put, List.setIfInBounds_toArray, List.set_cons_zero, List.set_cons_succ])
              refine wpAnyH_ready (rs := [9]) (by kernel_rfl) (by simp) ?_
              refine AllReadyH.cons (o := ⟨none, _, _, _, _, _⟩) rfl (fun K hK => ?_) AllReadyH.nil
              have HF := Lib.hid (below_alloc HN.out (.cells #[.int .i64 X.f0, .int .i64 X.f1, .int .u64 X.f2, .string X.f3, .slice E2 X.f4.length e2, .slice F2 X.f5.length f2] 26))
              have HX := Lib.hid (blk_new wm (.cells #[.int .i64 X.f0, .int .i64 X.f1, .int .u64 X.f2, .string X.f3, .slice E2 X.f4.length e2, .slice F2 X.f5.length f2] 26))
              have HRW := Lib.hid (rows_from RK.out (same_alloc wm (.cells #[.int .i64 X.f0, .int .i64 X.f1, .int .u64 X.f2, .string X.f3, .slice E2 X.f4.length e2, .slice F2 X.f5.length f2] 26) _))
              go_simp
              refine hK.out _ _ (KEEP.out _ HF.out) (fun hHeld2 => ?_)
              clear hK K hHeld; have hHeld := hHeld2; clear hHeld2; (try simp only [Act.put, List.setIfInBounds_toArray, List.set_cons_zero, List.set_cons_succ])
              refine wpAnyH_take (i := 10) (oi := ⟨some 12, _, _, _, _, _⟩) (v := ?_) rfl (by as_aux_lemma => kernel_rfl) (by as_aux_lemma => kernel_rfl) (by as_aux_lemma => kernel_rfl) (fun _ _ _ h => h) ?_ (by assumption) ?_; rotate_left; (focus (refine Or.inl ⟨rfl, ?_⟩; intro w hSw; (try dsimp only at hSw); go_simp; (try with_reducible rfl); done)); (try simp only [Act.put, List.setIfInBounds_toArray, List.set_cons_zero, List.set_cons_succ])
              refine wpAnyH_done (by kernel_rfl) ?_ _
              go_wp2
              go_meet
              case rel =>
                exact ⟨_, _, _, _, _, rfl, rfl, ⟨below_step HB.out HF.out⟩, ⟨blk_below XV.out HF.out⟩, ⟨HX.out⟩, ⟨HRW.out⟩⟩
            · go_simp
              have hb := below_alloc (Below.refl wk.heap.size wk) zeros
              refine hK.out _ _ (KEEP.out _ (below_step HN.out hb)) (fun hHeld2 => ?_)
              have BXZ := Lib.hid (blk_new wk zeros)
              have HGX := Lib.hid (below_size HN.out)
              have HN' := Lib.hid (below_step HN.out hb); clear HN; have HN := HN'; clear HN'
              have GA' := Lib.hid (blk_below GA.out hb); clear GA; have GA := GA'; clear GA'
              clear hb; clear hK K hHeld; have hHeld := hHeld2; clear hHeld2; (try simp only [Act.put, List.setIfInBounds_toArray, List.set_cons_zero, List.set_cons_succ])
              generalize hgx : wk.alloc zeros = wx at *; clear hgx
              refine wpAnyH_ready (rs := [4]) (by kernel_rfl) (by simp) ?_
              refine AllReadyH.cons (o := ⟨some 61, _, _, _, _, _⟩) rfl (fun K hK => ?_) AllReadyH.nil
              go_simp
              go_at_call 42
              (with_reducible refine (GX.out _ _ (below_step HB.out HN.out) GA.out).mono ?_)
              rintro e wm ⟨v4, v5, rfl, hk4, hk5, hb⟩
              obtain ⟨E2, e2, rfl⟩ := Kd.R_slice hk4; obtain ⟨F2, f2, rfl⟩ := Kd.R_slice hk5; have RK := Lib.hid (And.intro hk4 hk5); clear hk4 hk5
              refine hK.out _ _ (KEEP.out _ (below_step HN.out hb)) (fun hHeld2 => ?_)
              have HGL := Lib.hid (blk_lt BXZ.out)
              have HN' := Lib.hid (below_step HN.out hb); clear HN; have HN := HN'; clear HN'; have BXZ' := Lib.hid (blk_below BXZ.out hb); clear BXZ; have BXZ := BXZ'; clear BXZ'
              clear hb GA; clear hK K hHeld; have hHeld := hHeld2; clear hHeld2; (try simp only [Act.put, List.setIfInBounds_toArray, List.set_cons_zero, List.set_cons_succ])
              refine wpAnyH_take (i := 5) (oi := ⟨some 56, _, _, _, _, _⟩) (v := ?_) rfl (by as_aux_lemma => kernel_rfl) (by as_aux_lemma => kernel_rfl) (by as_aux_lemma => kernel_rfl) (fun _ _ _ h => h) ?_ (by assumption) ?_; rotate_left; (focus (refine Or.inl ⟨rfl, ?_⟩; intro w hSw; (try dsimp only at hSw); go_simp; (try with_reducible rfl); done)); (try simp only [Act.put, List.setIfInBounds_toArray, List.set_cons_zero, List.set_cons_succ])
              refine wpAnyH_take (i := 6) (oi := ⟨some 62, _, _, _, _, _⟩) (v := ?_) rfl (by as_aux_lemma => kernel_rfl) (by as_aux_lemma => kernel_rfl) (by as_aux_lemma => kernel_rfl) (fun _ _ _ h => h) ?_ (by assumption) ?_; rotate_left; (focus (refine Or.inl ⟨rfl, ?_⟩; intro w hSw; (try dsimp only at hSw); go_simp; (try with_reducible rfl); done)); (try simp only [Act.put, List.setIfInBounds_toArray, List.set_cons_zero, List.set_cons_succ])
              refine wpAnyH_take (i := 7) (oi := ⟨some 63, _, _, _, _, _⟩) (v := ?_) rfl (by as_aux_lemma => kernel_rfl) (by as_aux_lemma => kernel_rfl) (by as_aux_lemma => kernel_rfl) (fun _ _ _ h => h) ?_ (by assumption) ?_; rotate_left; (focus (refine Or.inl ⟨rfl, ?_⟩; intro w hSw; (try dsimp only at hSw); go_simp; (try with_reducible rfl); done)); (try simp only [Act.put, List.setIfInBounds_toArray, List.set_cons_zero, List.set_cons_succ])
              refine wpAnyH_ready (rs := [9]) (by kernel_rfl) (by simp) ?_
              refine AllReadyH.cons (o := ⟨none, _, _, _, _, _⟩) rfl (fun K hK => ?_) AllReadyH.nil
              have nz0 := (blk_cell BXZ.out 0).trans rfl; have fz0 := blk_frozen BXZ.out 0; have nz1 := (blk_cell BXZ.out 1).trans rfl; have fz1 := blk_frozen BXZ.out 1; have nz2 := (blk_cell BXZ.out 2).trans rfl; have fz2 := blk_frozen BXZ.out 2; have nz3 := (blk_cell BXZ.out 3).trans rfl; have fz3 := blk_frozen BXZ.out 3; have nz4 := (blk_cell BXZ.out 4).trans rfl; have fz4 := blk_frozen BXZ.out 4; have nz5 := (blk_cell BXZ.out 5).trans rfl; have fz5 := blk_frozen BXZ.out 5
              go_simp
              have HF := Lib.hid (six_below HN.out HGX.out (.int .i64 X.f0) (.int .i64 X.f1) (.int .u64 X.f2) (.string X.f3) (.slice E2 X.f4.length e2) (.slice F2 X.f5.length f2))
              have HX := Lib.hid (six_put BXZ.out (.int .i64 X.f0) (.int .i64 X.f1) (.int .u64 X.f2) (.string X.f3) (.slice E2 X.f4.length e2) (.slice F2 X.f5.length f2))
              have HRW := Lib.hid (rows_from RK.out (same_six HGL.out (.int .i64 X.f0) (.int .i64 X.f1) (.int .u64 X.f2) (.string X.f3) (.slice E2 X.f4.length e2) (.slice F2 X.f5.length f2)))
              clear nz0 nz1 nz2 nz3 nz4 nz5 fz0 fz1 fz2 fz3 fz4 fz5
              refine hK.out _ _ (KEEP.out _ HF.out) (fun hHeld2 => ?_)
              clear hK K hHeld; have hHeld := hHeld2; clear hHeld2; (try simp only [Act.put, List.setIfInBounds_toArray, List.set_cons_zero, List.set_cons_succ])
              refine wpAnyH_take (i := 10) (oi := ⟨some 12, _, _, _, _, _⟩) (v := ?_) rfl (by as_aux_lemma => kernel_rfl) (by as_aux_lemma => kernel_rfl) (by as_aux_lemma => kernel_rfl) (fun _ _ _ h => h) ?_ (by assumption) ?_; rotate_left; (focus (refine Or.inl ⟨rfl, ?_⟩; intro w hSw; (try dsimp only at hSw); go_simp; (try with_reducible rfl); done)); (try simp only [Act.put, List.setIfInBounds_toArray, List.set_cons_zero, List.set_cons_succ])
              refine wpAnyH_done (by kernel_rfl) ?_ _
              go_wp2
              go_meet
              case rel =>
                exact ⟨_, _, _, _, _, rfl, rfl, ⟨below_step HB.out HF.out⟩, ⟨blk_below XV.out HF.out⟩, ⟨HX.out⟩, ⟨HRW.out⟩⟩
          · go_simp
            have hb := below_alloc (Below.refl wn.heap.size wn) zeros
            refine hK.out _ _ (KEEP.out _ (below_step HN.out hb)) (fun hHeld2 => ?_)
            have BXZ := Lib.hid (blk_new wn zeros)
            have HGX := Lib.hid (below_size HN.out)
            have HN' := Lib.hid (below_step HN.out hb); clear HN; have HN := HN'; clear HN'
            clear hb; clear hK K hHeld; have hHeld := hHeld2; clear hHeld2; (try simp only [Act.put, List.setIfInBounds_toArray, List.set_cons_zero, List.set_cons_succ])
            generalize hgx : wn.alloc zeros = wx at *; clear hgx
            refine wpAnyH_ready (rs := [3]) (by kernel_rfl) (by simp) ?_
            refine AllReadyH.cons (o := ⟨some 60, _, _, _, _, _⟩) rfl (fun K hK => ?_) AllReadyH.nil
            go_simp
            have hb := below_alloc (Below.refl wx.heap.size wx) (.cells #[.int .i64 5, .int .i64 0, .int .u64 0, .string ⟨#[]⟩, .slice A l.length c, .slice none 0 0, .int .i64 2, .int .i64 i, .int .u64 0, .string ⟨#[]⟩, .slice none 0 0, .slice none 0 0] 26)
            refine hK.out _ _ (KEEP.out _ (below_step HN.out hb)) (fun hHeld2 => ?_)
            have GA := Lib.hid (blk_new wx (.cells #[.int .i64 5, .int .i64 0, .int .u64 0, .string ⟨#[]⟩, .slice A l.length c, .slice none 0 0, .int .i64 2, .int .i64 i, .int .u64 0, .string ⟨#[]⟩, .slice none 0 0, .slice none 0 0] 26))
            have HN' := Lib.hid (below_step HN.out hb); clear HN; have HN := HN'; clear HN'; have BXZ' := Lib.hid (blk_below BXZ.out hb); clear BXZ; have BXZ := BXZ'; clear BXZ'
            clear hb; clear hK K hHeld; have hHeld := hHeld2; clear hHeld2; (try simp only [Act.put, List.setIfInBounds_toArray, List.set_cons_zero, List.set_cons_succ])
            generalize hgk : wx.alloc (.cells #[.int .i64 5, .int .i64 0, .int .u64 0, .string ⟨#[]⟩, .slice A l.length c, .slice none 0 0, .int .i64 2, .int .i64 i, .int .u64 0, .string ⟨#[]⟩, .slice none 0 0, .slice none 0 0] 26) = wk at *; clear hgk
            obtain ⟨gk_, hgk⟩ : ∃ gk_, wx.heap.size = gk_ := ⟨_, rfl⟩; rw [hgk] at GA; (try rw [hgk]); clear hgk
            refine wpAnyH_ready (rs := [4]) (by kernel_rfl) (by simp) ?_
            refine AllReadyH.cons (o := ⟨some 61, _, _, _, _, _⟩) rfl (fun K hK => ?_) AllReadyH.nil
            go_simp
            go_at_call 42
            (with_reducible refine (GX.out _ _ (below_step HB.out HN.out) GA.out).mono ?_)
            rintro e wm ⟨v4, v5, rfl, hk4, hk5, hb⟩
            obtain ⟨E2, e2, rfl⟩ := Kd.R_slice hk4; obtain ⟨F2, f2, rfl⟩ := Kd.R_slice hk5; have RK := Lib.hid (And.intro hk4 hk5); clear hk4 hk5
            refine hK.out _ _ (KEEP.out _ (below_step HN.out hb)) (fun hHeld2 => ?_)
            have HGL := Lib.hid (blk_lt BXZ.out)
            have HN' := Lib.hid (below_step HN.out hb); clear HN; have HN := HN'; clear HN'; have BXZ' := Lib.hid (blk_below BXZ.out hb); clear BXZ; have BXZ := BXZ'; clear BXZ'
            clear hb GA; clear hK K hHeld; have hHeld := hHeld2; clear hHeld2; (try simp only [Act.put, List.setIfInBounds_toArray, List.set_cons_zero, List.set_cons_succ])
            refine wpAnyH_take (i := 5) (oi := ⟨some 56, _, _, _, _, _⟩) (v := ?_) rfl (by as_aux_lemma => kernel_rfl) (by as_aux_lemma => kernel_rfl) (by as_aux_lemma => kernel_rfl) (fun _ _ _ h => h) ?_ (by assumption) ?_; rotate_left; (focus (refine Or.inl ⟨rfl, ?_⟩; intro w hSw; (try dsimp only at hSw); go_simp; (try with_reducible rfl); done)); (try simp only [Act.put, List.setIfInBounds_toArray, List.set_cons_zero, List.set_cons_succ])
            refine wpAnyH_take (i := 6) (oi := ⟨some 62, _, _, _, _, _⟩) (v := ?_) rfl (by as_aux_lemma => kernel_rfl) (by as_aux_lemma => kernel_rfl) (by as_aux_lemma => kernel_rfl) (fun _ _ _ h => h) ?_ (by assumption) ?_; rotate_left; (focus (refine Or.inl ⟨rfl, ?_⟩; intro w hSw; (try dsimp only at hSw); go_simp; (try with_reducible rfl); done)); (try simp only [Act.put, List.setIfInBounds_toArray, List.set_cons_zero, List.set_cons_succ])
            refine wpAnyH_take (i := 7) (oi := ⟨some 63, _, _, _, _, _⟩) (v := ?_) rfl (by as_aux_lemma => kernel_rfl) (by as_aux_lemma => kernel_rfl) (by as_aux_lemma => kernel_rfl) (fun _ _ _ h => h) ?_ (by assumption) ?_; rotate_left; (focus (refine Or.inl ⟨rfl, ?_⟩; intro w hSw; (try dsimp only at hSw); go_simp; (try with_reducible rfl); done)); (try simp only [Act.put, List.setIfInBounds_toArray, List.set_cons_zero, List.set_cons_succ])
            refine wpAnyH_ready (rs := [9]) (by kernel_rfl) (by simp) ?_
            refine AllReadyH.cons (o := ⟨none, _, _, _, _, _⟩) rfl (fun K hK => ?_) AllReadyH.nil
            have nz0 := (blk_cell BXZ.out 0).trans rfl; have fz0 := blk_frozen BXZ.out 0; have nz1 := (blk_cell BXZ.out 1).trans rfl; have fz1 := blk_frozen BXZ.out 1; have nz2 := (blk_cell BXZ.out 2).trans rfl; have fz2 := blk_frozen BXZ.out 2; have nz3 := (blk_cell BXZ.out 3).trans rfl; have fz3 := blk_frozen BXZ.out 3; have nz4 := (blk_cell BXZ.out 4).trans rfl; have fz4 := blk_frozen BXZ.out 4; have nz5 := (blk_cell BXZ.out 5).trans rfl; have fz5 := blk_frozen BXZ.out 5
            go_simp
            have HF := Lib.hid (six_below HN.out HGX.out (.int .i64 X.f0) (.int .i64 X.f1) (.int .u64 X.f2) (.string X.f3) (.slice E2 X.f4.length e2) (.slice F2 X.f5.length f2))
            have HX := Lib.hid (six_put BXZ.out (.int .i64 X.f0) (.int .i64 X.f1) (.int .u64 X.f2) (.string X.f3) (.slice E2 X.f4.length e2) (.slice F2 X.f5.length f2))
            have HRW := Lib.hid (rows_from RK.out (same_six HGL.out (.int .i64 X.f0) (.int .i64 X.f1) (.int .u64 X.f2) (.string X.f3) (.slice E2 X.f4.length e2) (.slice F2 X.f5.length f2)))
            clear nz0 nz1 nz2 nz3 nz4 nz5 fz0 fz1 fz2 fz3 fz4 fz5
            refine hK.out _ _ (KEEP.out _ HF.out) (fun hHeld2 => ?_)
            clear hK K hHeld; have hHeld := hHeld2; clear hHeld2; (try simp only [Act.put, List.setIfInBounds_toArray, List.set_cons_zero, List.set_cons_succ])
            refine wpAnyH_take (i := 10) (oi := ⟨some 12, _, _, _, _, _⟩) (v := ?_) rfl (by as_aux_lemma => kernel_rfl) (by as_aux_lemma => kernel_rfl) (by as_aux_lemma => kernel_rfl) (fun _ _ _ h => h) ?_ (by assumption) ?_; rotate_left; (focus (refine Or.inl ⟨rfl, ?_⟩; intro w hSw; (try dsimp only at hSw); go_simp; (try with_reducible rfl); done)); (try simp only [Act.put, List.setIfInBounds_toArray, List.set_cons_zero, List.set_cons_succ])
            refine wpAnyH_done (by kernel_rfl) ?_ _
            go_wp2
            go_meet
            case rel =>
              exact ⟨_, _, _, _, _, rfl, rfl, ⟨below_step HB.out HF.out⟩, ⟨blk_below XV.out HF.out⟩, ⟨HX.out⟩, ⟨HRW.out⟩⟩
        · go_simp
          have hb := below_alloc (Below.refl wd.heap.size wd) zeros
          refine hK.out _ _ (KEEP.out _ (below_step HN.out hb)) (fun hHeld2 => ?_)
          have BXZ := Lib.hid (blk_new wd zeros)
          have HGX := Lib.hid (below_size HN.out)
          have HN' := Lib.hid (below_step HN.out hb); clear HN; have HN := HN'; clear HN'
          clear hb; clear hK K hHeld; have hHeld := hHeld2; clear hHeld2; (try simp only [Act.put, List.setIfInBounds_toArray, List.set_cons_zero, List.set_cons_succ])
          generalize hgx : wd.alloc zeros = wx at *; clear hgx
          refine wpAnyH_ready (rs := [2]) (by kernel_rfl) (by simp) ?_
          refine AllReadyH.cons (o := ⟨some 59, _, _, _, _, _⟩) rfl (fun K hK => ?_) AllReadyH.nil
          go_simp
          go_at_call 44
          (with_reducible refine (CN.out _ _).mono ?_)
          rintro e wn ⟨rfl, hb⟩
          refine hK.out _ _ (KEEP.out _ (below_step HN.out hb)) (fun hHeld2 => ?_)
          have HN' := Lib.hid (below_step HN.out hb); clear HN; have HN := HN'; clear HN'; have BXZ' := Lib.hid (blk_below BXZ.out hb); clear BXZ; have BXZ := BXZ'; clear BXZ'
          clear hb; clear hK K hHeld; have hHeld := hHeld2; clear hHeld2; (try simp only [Act.put, List.setIfInBounds_toArray, List.set_cons_zero, List.set_cons_succ])
          refine wpAnyH_ready (rs := [3]) (by kernel_rfl) (by simp) ?_
          refine AllReadyH.cons (o := ⟨some 60, _, _, _, _, _⟩) rfl (fun K hK => ?_) AllReadyH.nil
          go_simp
          have hb := below_alloc (Below.refl wn.heap.size wn) (.cells #[.int .i64 5, .int .i64 0, .int .u64 0, .string ⟨#[]⟩, .slice A l.length c, .slice none 0 0, .int .i64 2, .int .i64 i, .int .u64 0, .string ⟨#[]⟩, .slice none 0 0, .slice none 0 0] 26)
          refine hK.out _ _ (KEEP.out _ (below_step HN.out hb)) (fun hHeld2 => ?_)
          have GA := Lib.hid (blk_new wn (.cells #[.int .i64 5, .int .i64 0, .int .u64 0, .string ⟨#[]⟩, .slice A l.length c, .slice none 0 0, .int .i64 2, .int .i64 i, .int .u64 0, .string ⟨#[]⟩, .slice none 0 0, .slice none 0 0] 26))
          have HN' := Lib.hid (below_step HN.out hb); clear HN; have HN := HN'; clear HN'; have BXZ' := Lib.hid (blk_below BXZ.out hb); clear BXZ; have BXZ := BXZ'; clear BXZ'
          clear hb; clear hK K hHeld; have hHeld := hHeld2; clear hHeld2; (try simp only [Act.put, List.setIfInBounds_toArray, List.set_cons_zero, List.set_cons_succ])
          generalize hgk : wn.alloc (.cells #[.int .i64 5, .int .i64 0, .int .u64 0, .string ⟨#[]⟩, .slice A l.length c, .slice none 0 0, .int .i64 2, .int .i64 i, .int .u64 0, .string ⟨#[]⟩, .slice none 0 0, .slice none 0 0] 26) = wk at *; clear hgk
          obtain ⟨gk_, hgk⟩ : ∃ gk_, wn.heap.size = gk_ := ⟨_, rfl⟩; rw [hgk] at GA; (try rw [hgk]); clear hgk
          refine wpAnyH_ready (rs := [4]) (by kernel_rfl) (by simp) ?_
          refine AllReadyH.cons (o := ⟨some 61, _, _, _, _, _⟩) rfl (fun K hK => ?_) AllReadyH.nil
          go_simp
          go_at_call 42
          (with_reducible refine (GX.out _ _ (below_step HB.out HN.out) GA.out).mono ?_)
          rintro e wm ⟨v4, v5, rfl, hk4, hk5, hb⟩
          obtain ⟨E2, e2, rfl⟩ := Kd.R_slice hk4; obtain ⟨F2, f2, rfl⟩ := Kd.R_slice hk5; have RK := Lib.hid (And.intro hk4 hk5); clear hk4 hk5
          refine hK.out _ _ (KEEP.out _ (below_step HN.out hb)) (fun hHeld2 => ?_)
          have HGL := Lib.hid (blk_lt BXZ.out)
          have HN' := Lib.hid (below_step HN.out hb); clear HN; have HN := HN'; clear HN'; have BXZ' := Lib.hid (blk_below BXZ.out hb); clear BXZ; have BXZ := BXZ'; clear BXZ'
          clear hb GA; clear hK K hHeld; have hHeld := hHeld2; clear hHeld2; (try simp only [Act.put, List.setIfInBounds_toArray, List.set_cons_zero, List.set_cons_succ])
          refine wpAnyH_take (i := 5) (oi := ⟨some 56, _, _, _, _, _⟩) (v := ?_) rfl (by as_aux_lemma => kernel_rfl) (by as_aux_lemma => kernel_rfl) (by as_aux_lemma => kernel_rfl) (fun _ _ _ h => h) ?_ (by assumption) ?_; rotate_left; (focus (refine Or.inl ⟨rfl, ?_⟩; intro w hSw; (try dsimp only at hSw); go_simp; (try with_reducible rfl); done)); (try simp only [Act.put, List.setIfInBounds_toArray, List.set_cons_zero, List.set_cons_succ])
          refine wpAnyH_take (i := 6) (oi := ⟨some 62, _, _, _, _, _⟩) (v := ?_) rfl (by as_aux_lemma => kernel_rfl) (by as_aux_lemma => kernel_rfl) (by as_aux_lemma => kernel_rfl) (fun _ _ _ h => h) ?_ (by assumption) ?_; rotate_left; (focus (refine Or.inl ⟨rfl, ?_⟩; intro w hSw; (try dsimp only at hSw); go_simp; (try with_reducible rfl); done)); (try simp only [Act.put, List.setIfInBounds_toArray, List.set_cons_zero, List.set_cons_succ])
          refine wpAnyH_take (i := 7) (oi := ⟨some 63, _, _, _, _, _⟩) (v := ?_) rfl (by as_aux_lemma => kernel_rfl) (by as_aux_lemma => kernel_rfl) (by as_aux_lemma => kernel_rfl) (fun _ _ _ h => h) ?_ (by assumption) ?_; rotate_left; (focus (refine Or.inl ⟨rfl, ?_⟩; intro w hSw; (try dsimp only at hSw); go_simp; (try with_reducible rfl); done)); (try simp only [Act.put, List.setIfInBounds_toArray, List.set_cons_zero, List.set_cons_succ])
          refine wpAnyH_ready (rs := [9]) (by kernel_rfl) (by simp) ?_
          refine AllReadyH.cons (o := ⟨none, _, _, _, _, _⟩) rfl (fun K hK => ?_) AllReadyH.nil
          have nz0 := (blk_cell BXZ.out 0).trans rfl; have fz0 := blk_frozen BXZ.out 0; have nz1 := (blk_cell BXZ.out 1).trans rfl; have fz1 := blk_frozen BXZ.out 1; have nz2 := (blk_cell BXZ.out 2).trans rfl; have fz2 := blk_frozen BXZ.out 2; have nz3 := (blk_cell BXZ.out 3).trans rfl; have fz3 := blk_frozen BXZ.out 3; have nz4 := (blk_cell BXZ.out 4).trans rfl; have fz4 := blk_frozen BXZ.out 4; have nz5 := (blk_cell BXZ.out 5).trans rfl; have fz5 := blk_frozen BXZ.out 5
          go_simp
          have HF := Lib.hid (six_below HN.out HGX.out (.int .i64 X.f0) (.int .i64 X.f1) (.int .u64 X.f2) (.string X.f3) (.slice E2 X.f4.length e2) (.slice F2 X.f5.length f2))
          have HX := Lib.hid (six_put BXZ.out (.int .i64 X.f0) (.int .i64 X.f1) (.int .u64 X.f2) (.string X.f3) (.slice E2 X.f4.length e2) (.slice F2 X.f5.length f2))
          have HRW := Lib.hid (rows_from RK.out (same_six HGL.out (.int .i64 X.f0) (.int .i64 X.f1) (.int .u64 X.f2) (.string X.f3) (.slice E2 X.f4.length e2) (.slice F2 X.f5.length f2)))
          clear nz0 nz1 nz2 nz3 nz4 nz5 fz0 fz1 fz2 fz3 fz4 fz5
          refine hK.out _ _ (KEEP.out _ HF.out) (fun hHeld2 => ?_)
          clear hK K hHeld; have hHeld := hHeld2; clear hHeld2; (try simp only [Act.put, List.setIfInBounds_toArray, List.set_cons_zero, List.set_cons_succ])
          refine wpAnyH_take (i := 10) (oi := ⟨some 12, _, _, _, _, _⟩) (v := ?_) rfl (by as_aux_lemma => kernel_rfl) (by as_aux_lemma => kernel_rfl) (by as_aux_lemma => kernel_rfl) (fun _ _ _ h => h) ?_ (by assumption) ?_; rotate_left; (focus (refine Or.inl ⟨rfl, ?_⟩; intro w hSw; (try dsimp only at hSw); go_simp; (try with_reducible rfl); done)); (try simp only [Act.put, List.setIfInBounds_toArray, List.set_cons_zero, List.set_cons_succ])
          refine wpAnyH_done (by kernel_rfl) ?_ _
          go_wp2
          go_meet
          case rel =>
            exact ⟨_, _, _, _, _, rfl, rfl, ⟨below_step HB.out HF.out⟩, ⟨blk_below XV.out HF.out⟩, ⟨HX.out⟩, ⟨HRW.out⟩⟩
      case rest =>
      (try clear l0 l1 l2 l3 l4 l5)
      clear HB XV
      obtain ⟨gx, E2, e2, F2, f2, rfl, rfl, HB0, XV0, BX0, RX0⟩ := hcut
      have HB := Lib.hid HB0.out; clear HB0; have XV := Lib.hid XV0.out; clear XV0; have BX := Lib.hid BX0.out; clear BX0; have RX := Lib.hid RX0.out; clear RX0
      obtain ⟨ad, G4, g4, G5, g5, ea, hAt, hl4, hk4, hl5, hk5⟩ := At.of_elem (Kd.C_below HRR.out HB.out) i HH.out.1 HH.out.2
      rw [XE.out] at hAt hl4 hk4 hl5 hk5
      subst ea
      have QX := Lib.hid (show Rows4 wc X G4 g4 G5 g5 from ⟨hk4, hl4, hk5, hl5⟩)
      have hbd := below_drew (Below.refl wc.heap.size wc)
      obtain ⟨q0, q1, q2, q3, q4, q5⟩ := hAt.below hbd
      clear hbd hAt hl4 hk4 hl5 hk5
      have CI := Lib.hid (fun W (h : Below wc.drew.heap.size wc.drew W) => sv_all D X X E2 e2 F2 f2 G4 g4 G5 g5 W DD.out (Rows4.below RX.out (below_step (below_drew (Below.refl _ _)) h)) (Rows4.below QX.out (below_step (below_drew (Below.refl _ _)) h)))
      rw [sv_refl D X DD.out] at CI
      go_upto_region 14 with (fail)
      go_cut [99] (fun v99 wc => v99 = .bool false ∧ Aside0 (Below w.heap.size w wc) ∧ Aside0 (wc.heap[gv]? = some (.cells #[.int .i64 5, .int .i64 0, .int .u64 0, .string ⟨#[]⟩, .slice (some ad) l.length c, .slice none 0 0] 26 (0, 0))) ∧ Aside0 (wc.heap[gx]? = some (.cells #[.int .i64 X.f0, .int .i64 X.f1, .int .u64 X.f2, .string X.f3, .slice E2 X.f4.length e2, .slice F2 X.f5.length f2] 26 (0, 0))) ∧ Aside0 (Rows4 wc X E2 e2 F2 f2))
      case first =>
        have hbn := below_drew (Below.refl wc.heap.size wc)
        have HB' := Lib.hid (below_step HB.out hbn); have XV' := Lib.hid (blk_below XV.out hbn); have BX' := Lib.hid (blk_below BX.out hbn); have RX' := Lib.hid (Rows4.below RX.out hbn); clear HB; have HB := HB'; clear HB'; clear XV; have XV := XV'; clear XV'; clear BX; have BX := BX'; clear BX'; clear RX; have RX := RX'; clear RX'
        clear hbn
        have KEEP : ∀ w', Below wc.drew.heap.size wc.drew w' → (Below wc.drew.heap.size wc.drew w' ∧ w'.cell? ⟨gx, 0, none⟩ = some (.int .i64 X.f0) ∧ w'.cell? ⟨gx, 1, none⟩ = some (.int .i64 X.f1) ∧ w'.cell? ⟨gx, 2, none⟩ = some (.int .u64 X.f2) ∧ w'.cell? ⟨gx, 3, none⟩ = some (.string X.f3) ∧ w'.cell? ⟨gx, 4, none⟩ = some (.slice E2 X.f4.length e2) ∧ w'.cell? ⟨gx, 5, none⟩ = some (.slice F2 X.f5.length f2) ∧ w'.cell? (ad.add (i.toNat * 6)) = some (.int .i64 X.f0) ∧ w'.cell? (⟨(ad.add (i.toNat * 6)).block, (ad.add (i.toNat * 6)).off + 1, none⟩) = some (.int .i64 X.f1) ∧ w'.cell? (⟨(ad.add (i.toNat * 6)).block, (ad.add (i.toNat * 6)).off + 2, none⟩) = some (.int .u64 X.f2) ∧ w'.cell? (⟨(ad.add (i.toNat * 6)).block, (ad.add (i.toNat * 6)).off + 3, none⟩) = some (.string X.f3) ∧ w'.cell? (⟨(ad.add (i.toNat * 6)).block, (ad.add (i.toNat * 6)).off + 4, none⟩) = some (.slice G4 X.f4.length g4) ∧ w'.cell? (⟨(ad.add (i.toNat * 6)).block, (ad.add (i.toNat * 6)).off + 5, none⟩) = some (.slice G5 X.f5.length g5)) := fun w' h => ⟨h, (At.of_box (blk_below BX.out h)).g0, (At.of_box (blk_below BX.out h)).g1, (At.of_box (blk_below BX.out h)).g2, (At.of_box (blk_below BX.out h)).g3, (At.of_box (blk_below BX.out h)).g4, (At.of_box (blk_below BX.out h)).g5, pw_cell_below h q0, pw_cell_below h q1, pw_cell_below h q2, pw_cell_below h q3, pw_cell_below h q4, pw_cell_below h q5⟩
        have KEEP := Lib.hid KEEP
        refine wp_region_held_drew (S := (fun w' => Below wc.drew.heap.size wc.drew w' ∧ w'.cell? ⟨gx, 0, none⟩ = some (.int .i64 X.f0) ∧ w'.cell? ⟨gx, 1, none⟩ = some (.int .i64 X.f1) ∧ w'.cell? ⟨gx, 2, none⟩ = some (.int .u64 X.f2) ∧ w'.cell? ⟨gx, 3, none⟩ = some (.string X.f3) ∧ w'.cell? ⟨gx, 4, none⟩ = some (.slice E2 X.f4.length e2) ∧ w'.cell? ⟨gx, 5, none⟩ = some (.slice F2 X.f5.length f2) ∧ w'.cell? (ad.add (i.toNat * 6)) = some (.int .i64 X.f0) ∧ w'.cell? (⟨(ad.add (i.toNat * 6)).block, (ad.add (i.toNat * 6)).off + 1, none⟩) = some (.int .i64 X.f1) ∧ w'.cell? (⟨(ad.add (i.toNat * 6)).block, (ad.add (i.toNat * 6)).off + 2, none⟩) = some (.int .u64 X.f2) ∧ w'.cell? (⟨(ad.add (i.toNat * 6)).block, (ad.add (i.toNat * 6)).off + 3, none⟩) = some (.string X.f3) ∧ w'.cell? (⟨(ad.add (i.toNat * 6)).block, (ad.add (i.toNat * 6)).off + 4, none⟩) = some (.slice G4 X.f4.length g4) ∧ w'.cell? (⟨(ad.add (i.toNat * 6)).block, (ad.add (i.toNat * 6)).off + 5, none⟩) = some (.slice G5 X.f5.length g5))) (by kernel_rfl) ?_ (fun hHeld => ?_)
        · exact KEEP.out _ (Below.refl _ _)
        refine wpAnyH_take (i := 0) (oi := ⟨some 64, _, _, _, _, _⟩) (v := ?_) rfl (by kernel_rfl) (by kernel_rfl) (by kernel_rfl) (fun _ _ _ h => h) ?_ (by assumption) ?_; rotate_left; (focus (refine Or.inl ⟨rfl, ?_⟩; intro w hSw; (try dsimp only at hSw); go_simp; (try with_reducible rfl); done)); (try simp only [Act.put, List.setIfInBounds_toArray, List.set_cons_zero, List.set_cons_succ])
        refine wpAnyH_take (i := 3) (oi := ⟨some 67, _, _, _, _, _⟩) (v := ?_) rfl (by kernel_rfl) (by kernel_rfl) (by kernel_rfl) (fun _ _ _ h => h) ?_ (by assumption) ?_; rotate_left; (focus (refine Or.inl ⟨rfl, ?_⟩; intro w hSw; (try dsimp only at hSw); go_simp; (try with_reducible rfl); done)); (try simp only [Act.put, List.setIfInBounds_toArray, List.set_cons_zero, List.set_cons_succ])
        refine wpAnyH_take (i := 4) (oi := ⟨some 68, _, _, _, _, _⟩) (v := ?_) rfl (by kernel_rfl) (by kernel_rfl) (by kernel_rfl) (fun _ _ _ h => h) ?_ (by assumption) ?_; rotate_left; (focus (refine Or.inl ⟨rfl, ?_⟩; intro w hSw; (try dsimp only at hSw); go_simp; (try with_reducible rfl); done)); (try simp only [Act.put, List.setIfInBounds_toArray, List.set_cons_zero, List.set_cons_succ])
        refine wpAnyH_ready (rs := [1]) (by kernel_rfl) (by simp) ?_
        refine AllReadyH.cons (o := ⟨some 65, _, _, _, _, _⟩) rfl (fun K hK => ?_) AllReadyH.nil
        go_simp
        (try (first | (go_at_call 25; (with_reducible refine (numB _ _).mono ?_); rintro e wn ⟨rfl, hb⟩) | (go_at_call 26; (with_reducible refine (CI.out _ (by first | assumption | exact And.left (by assumption) | exact Below.refl _ _)).mono ?_); rintro e wn ⟨rfl, hb⟩)))
        refine hK.out _ _ ?_ (fun hHeld2 => ?_)
        · first | assumption | (exact KEEP.out _ (below_step (by first | assumption | exact And.left (by assumption) | exact Below.refl _ _) hb))
        clear hK K hHeld
        have hHeld := hHeld2; clear hHeld2
        (try simp only [Act.put, List.setIfInBounds_toArray, List.set_cons_zero, List.set_cons_succ])
        refine wpAnyH_take (i := 2) (oi := ⟨some 66, _, _, _, _, _⟩) (v := ?_) rfl (by kernel_rfl) (by kernel_rfl) (by kernel_rfl) (fun _ _ _ h => h) ?_ (by assumption) ?_; rotate_left; (focus (refine Or.inl ⟨rfl, ?_⟩; intro w hSw; (try dsimp only at hSw); go_simp; (try with_reducible rfl); done)); (try simp only [Act.put, List.setIfInBounds_toArray, List.set_cons_zero, List.set_cons_succ])
        refine wpAnyH_take (i := 5) (oi := ⟨some 69, _, _, _, _, _⟩) (v := ?_) rfl (by kernel_rfl) (by kernel_rfl) (by kernel_rfl) (fun _ _ _ h => h) ?_ (by assumption) ?_; rotate_left; (focus (refine Or.inl ⟨rfl, ?_⟩; intro w hSw; (try dsimp only at hSw); go_simp; (try with_reducible rfl); done)); (try simp only [Act.put, List.setIfInBounds_toArray, List.set_cons_zero, List.set_cons_succ])
        first | (refine wpAnyH_take (i := 6) (oi := ⟨some 70, _, _, _, _, _⟩) (v := ?_) rfl (by kernel_rfl) (by kernel_rfl) (by kernel_rfl) (fun _ _ _ h => h) ?_ (by assumption) ?_; rotate_left; (focus (refine Or.inl ⟨rfl, ?_⟩; intro w hSw; (try dsimp only at hSw); go_simp; (try with_reducible rfl); done)); (try simp only [Act.put, List.setIfInBounds_toArray, List.set_cons_zero, List.set_cons_succ])) | (refine wpAnyH_take (i := 6) (oi := ⟨some 70, _, _, _, _, _⟩) (v := undef) rfl (by kernel_rfl) (by kernel_rfl) (by kernel_rfl) (fun _ _ _ h => h) (Or.inr ⟨rfl, rfl⟩) (by assumption) ?_; (try simp only [Act.put, List.setIfInBounds_toArray, List.set_cons_zero, List.set_cons_succ]))
        first | (refine wpAnyH_take (i := 7) (oi := ⟨some 71, _, _, _, _, _⟩) (v := ?_) rfl (by kernel_rfl) (by kernel_rfl) (by kernel_rfl) (fun _ _ _ h => h) ?_ (by assumption) ?_; rotate_left; (focus (refine Or.inl ⟨rfl, ?_⟩; intro w hSw; (try dsimp only at hSw); go_simp; (try with_reducible rfl); done)); (try simp only [Act.put, List.setIfInBounds_toArray, List.set_cons_zero, List.set_cons_succ])) | (refine wpAnyH_take (i := 7) (oi := ⟨some 71, _, _, _, _, _⟩) (v := undef) rfl (by kernel_rfl) (by kernel_rfl) (by kernel_rfl) (fun _ _ _ h => h) (Or.inr ⟨rfl, rfl⟩) (by assumption) ?_; (try simp only [Act.put, List.setIfInBounds_toArray, List.set_cons_zero, List.set_cons_succ]))
        first | (refine wpAnyH_take (i := 8) (oi := ⟨some 72, _, _, _, _, _⟩) (v := ?_) rfl (by kernel_rfl) (by kernel_rfl) (by kernel_rfl) (fun _ _ _ h => h) ?_ (by assumption) ?_; rotate_left; (focus (refine Or.inl ⟨rfl, ?_⟩; intro w hSw; (try dsimp only at hSw); go_simp; (try with_reducible rfl); done)); (try simp only [Act.put, List.setIfInBounds_toArray, List.set_cons_zero, List.set_cons_succ])) | (refine wpAnyH_take (i := 8) (oi := ⟨some 72, _, _, _, _, _⟩) (v := undef) rfl (by kernel_rfl) (by kernel_rfl) (by kernel_rfl) (fun _ _ _ h => h) (Or.inr ⟨rfl, rfl⟩) (by assumption) ?_; (try simp only [Act.put, List.setIfInBounds_toArray, List.set_cons_zero, List.set_cons_succ]))
        first | (refine wpAnyH_take (i := 9) (oi := ⟨some 73, _, _, _, _, _⟩) (v := ?_) rfl (by kernel_rfl) (by kernel_rfl) (by kernel_rfl) (fun _ _ _ h => h) ?_ (by assumption) ?_; rotate_left; (focus (refine Or.inl ⟨rfl, ?_⟩; intro w hSw; (try dsimp only at hSw); go_simp; (try with_reducible rfl); done)); (try simp only [Act.put, List.setIfInBounds_toArray, List.set_cons_zero, List.set_cons_succ])) | (refine wpAnyH_take (i := 9) (oi := ⟨some 73, _, _, _, _, _⟩) (v := undef) rfl (by kernel_rfl) (by kernel_rfl) (by kernel_rfl) (fun _ _ _ h => h) (Or.inr ⟨rfl, rfl⟩) (by assumption) ?_; (try simp only [Act.put, List.setIfInBounds_toArray, List.set_cons_zero, List.set_cons_succ]))
        refine wpAnyH_take (i := 10) (oi := ⟨some 74, _, _, _, _, _⟩) (v := ?_) rfl (by kernel_rfl) (by kernel_rfl) (by kernel_rfl) (fun _ _ _ h => h) ?_ (by assumption) ?_; rotate_left; (focus (refine Or.inl ⟨rfl, ?_⟩; intro w hSw; (try dsimp only at hSw); go_simp; (try with_reducible rfl); done)); (try simp only [Act.put, List.setIfInBounds_toArray, List.set_cons_zero, List.set_cons_succ])
        refine wpAnyH_take (i := 11) (oi := ⟨some 75, _, _, _, _, _⟩) (v := ?_) rfl (by kernel_rfl) (by kernel_rfl) (by kernel_rfl) (fun _ _ _ h => h) ?_ (by assumption) ?_; rotate_left; (focus (refine Or.inl ⟨rfl, ?_⟩; intro w hSw; (try dsimp only at hSw); go_simp; (try with_reducible rfl); done)); (try simp only [Act.put, List.setIfInBounds_toArray, List.set_cons_zero, List.set_cons_succ])
        refine wpAnyH_take (i := 12) (oi := ⟨some 76, _, _, _, _, _⟩) (v := ?_) rfl (by kernel_rfl) (by kernel_rfl) (by kernel_rfl) (fun _ _ _ h => h) ?_ (by assumption) ?_; rotate_left; (focus (refine Or.inl ⟨rfl, ?_⟩; intro w hSw; (try dsimp only at hSw); go_simp; (try with_reducible rfl); done)); (try simp only [Act.put, List.setIfInBounds_toArray, List.set_cons_zero, List.set_cons_succ])
        first | (refine wpAnyH_take (i := 13) (oi := ⟨some 77, _, _, _, _, _⟩) (v := ?_) rfl (by kernel_rfl) (by kernel_rfl) (by kernel_rfl) (fun _ _ _ h => h) ?_ (by assumption) ?_; rotate_left; (focus (refine Or.inl ⟨rfl, ?_⟩; intro w hSw; (try dsimp only at hSw); go_simp; (try with_reducible rfl); done)); (try simp only [Act.put, List.setIfInBounds_toArray, List.set_cons_zero, List.set_cons_succ])) | (refine wpAnyH_take (i := 13) (oi := ⟨some 77, _, _, _, _, _⟩) (v := undef) rfl (by kernel_rfl) (by kernel_rfl) (by kernel_rfl) (fun _ _ _ h => h) (Or.inr ⟨rfl, rfl⟩) (by assumption) ?_; (try simp only [Act.put, List.setIfInBounds_toArray, List.set_cons_zero, List.set_cons_succ]))
        refine wpAnyH_ready (rs := [14]) (by kernel_rfl) (by simp) ?_
        refine AllReadyH.cons (o := ⟨some 78, _, _, _, _, _⟩) rfl (fun K hK => ?_) AllReadyH.nil
        go_simp
        (try (first | (go_at_call 25; (with_reducible refine (numB _ _).mono ?_); rintro e wn ⟨rfl, hb⟩) | (go_at_call 26; (with_reducible refine (CI.out _ (by first | assumption | exact And.left (by assumption) | exact Below.refl _ _)).mono ?_); rintro e wn ⟨rfl, hb⟩)))
        refine hK.out _ _ ?_ (fun hHeld2 => ?_)
        · first | assumption | (exact KEEP.out _ (below_step (by first | assumption | exact And.left (by assumption) | exact Below.refl _ _) hb))
        clear hK K hHeld
        have hHeld := hHeld2; clear hHeld2
        (try simp only [Act.put, List.setIfInBounds_toArray, List.set_cons_zero, List.set_cons_succ])
        first | (refine wpAnyH_take (i := 15) (oi := ⟨some 79, _, _, _, _, _⟩) (v := ?_) rfl (by kernel_rfl) (by kernel_rfl) (by kernel_rfl) (fun _ _ _ h => h) ?_ (by assumption) ?_; rotate_left; (focus (refine Or.inl ⟨rfl, ?_⟩; intro w hSw; (try dsimp only at hSw); go_simp; (try with_reducible rfl); done)); (try simp only [Act.put, List.setIfInBounds_toArray, List.set_cons_zero, List.set_cons_succ])) | (refine wpAnyH_take (i := 15) (oi := ⟨some 79, _, _, _, _, _⟩) (v := undef) rfl (by kernel_rfl) (by kernel_rfl) (by kernel_rfl) (fun _ _ _ h => h) (Or.inr ⟨rfl, rfl⟩) (by assumption) ?_; (try simp only [Act.put, List.setIfInBounds_toArray, List.set_cons_zero, List.set_cons_succ]))
        first | (refine wpAnyH_take (i := 16) (oi := ⟨some 80, _, _, _, _, _⟩) (v := ?_) rfl (by kernel_rfl) (by kernel_rfl) (by kernel_rfl) (fun _ _ _ h => h) ?_ (by assumption) ?_; rotate_left; (focus (refine Or.inl ⟨rfl, ?_⟩; intro w hSw; (try dsimp only at hSw); go_simp; (try with_reducible rfl); done)); (try simp only [Act.put, List.setIfInBounds_toArray, List.set_cons_zero, List.set_cons_succ])) | (refine wpAnyH_take (i := 16) (oi := ⟨some 80, _, _, _, _, _⟩) (v := undef) rfl (by kernel_rfl) (by kernel_rfl) (by kernel_rfl) (fun _ _ _ h => h) (Or.inr ⟨rfl, rfl⟩) (by assumption) ?_; (try simp only [Act.put, List.setIfInBounds_toArray, List.set_cons_zero, List.set_cons_succ]))
        first | (refine wpAnyH_take (i := 17) (oi := ⟨some 81, _, _, _, _, _⟩) (v := ?_) rfl (by kernel_rfl) (by kernel_rfl) (by kernel_rfl) (fun _ _ _ h => h) ?_ (by assumption) ?_; rotate_left; (focus (refine Or.inl ⟨rfl, ?_⟩; intro w hSw; (try dsimp only at hSw); go_simp; (try with_reducible rfl); done)); (try simp only [Act.put, List.setIfInBounds_toArray, List.set_cons_zero, List.set_cons_succ])) | (refine wpAnyH_take (i := 17) (oi := ⟨some 81, _, _, _, _, _⟩) (v := undef) rfl (by kernel_rfl) (by kernel_rfl) (by kernel_rfl) (fun _ _ _ h => h) (Or.inr ⟨rfl, rfl⟩) (by assumption) ?_; (try simp only [Act.put, List.setIfInBounds_toArray, List.set_cons_zero, List.set_cons_succ]))
        first | (refine wpAnyH_take (i := 18) (oi := ⟨some 82, _, _, _, _, _⟩) (v := ?_) rfl (by kernel_rfl) (by kernel_rfl) (by kernel_rfl) (fun _ _ _ h => h) ?_ (by assumption) ?_; rotate_left; (focus (refine Or.inl ⟨rfl, ?_⟩; intro w hSw; (try dsimp only at hSw); go_simp; (try with_reducible rfl); done)); (try simp only [Act.put, List.setIfInBounds_toArray, List.set_cons_zero, List.set_cons_succ])) | (refine wpAnyH_take (i := 18) (oi := ⟨some 82, _, _, _, _, _⟩) (v := undef) rfl (by kernel_rfl) (by kernel_rfl) (by kernel_rfl) (fun _ _ _ h => h) (Or.inr ⟨rfl, rfl⟩) (by assumption) ?_; (try simp only [Act.put, List.setIfInBounds_toArray, List.set_cons_zero, List.set_cons_succ]))
        first | (refine wpAnyH_take (i := 19) (oi := ⟨some 83, _, _, _, _, _⟩) (v := ?_) rfl (by kernel_rfl) (by kernel_rfl) (by kernel_rfl) (fun _ _ _ h => h) ?_ (by assumption) ?_; rotate_left; (focus (refine Or.inl ⟨rfl, ?_⟩; intro w hSw; (try dsimp only at hSw); go_simp; (try with_reducible rfl); done)); (try simp only [Act.put, List.setIfInBounds_toArray, List.set_cons_zero, List.set_cons_succ])) | (refine wpAnyH_take (i := 19) (oi := ⟨some 83, _, _, _, _, _⟩) (v := undef) rfl (by kernel_rfl) (by kernel_rfl) (by kernel_rfl) (fun _ _ _ h => h) (Or.inr ⟨rfl, rfl⟩) (by assumption) ?_; (try simp only [Act.put, List.setIfInBounds_toArray, List.set_cons_zero, List.set_cons_succ]))
        first | (refine wpAnyH_take (i := 20) (oi := ⟨some 84, _, _, _, _, _⟩) (v := ?_) rfl (by kernel_rfl) (by kernel_rfl) (by kernel_rfl) (fun _ _ _ h => h) ?_ (by assumption) ?_; rotate_left; (focus (refine Or.inl ⟨rfl, ?_⟩; intro w hSw; (try dsimp only at hSw); go_simp; (try with_reducible rfl); done)); (try simp only [Act.put, List.setIfInBounds_toArray, List.set_cons_zero, List.set_cons_succ])) | (refine wpAnyH_take (i := 20) (oi := ⟨some 84, _, _, _, _, _⟩) (v := undef) rfl (by kernel_rfl) (by kernel_rfl) (by kernel_rfl) (fun _ _ _ h => h) (Or.inr ⟨rfl, rfl⟩) (by assumption) ?_; (try simp only [Act.put, List.setIfInBounds_toArray, List.set_cons_zero, List.set_cons_succ]))
        first | (refine wpAnyH_take (i := 21) (oi := ⟨some 85, _, _, _, _, _⟩) (v := ?_) rfl (by kernel_rfl) (by kernel_rfl) (by kernel_rfl) (fun _ _ _ h => h) ?_ (by assumption) ?_; rotate_left; (focus (refine Or.inl ⟨rfl, ?_⟩; intro w hSw; (try dsimp only at hSw); go_simp; (try with_reducible rfl); done)); (try simp only [Act.put, List.setIfInBounds_toArray, List.set_cons_zero, List.set_cons_succ])) | (refine wpAnyH_take (i := 21) (oi := ⟨some 85, _, _, _, _, _⟩) (v := undef) rfl (by kernel_rfl) (by kernel_rfl) (by kernel_rfl) (fun _ _ _ h => h) (Or.inr ⟨rfl, rfl⟩) (by assumption) ?_; (try simp only [Act.put, List.setIfInBounds_toArray, List.set_cons_zero, List.set_cons_succ]))
        refine wpAnyH_ready (rs := [22]) (by kernel_rfl) (by simp) ?_
        refine AllReadyH.cons (o := ⟨some 86, _, _, _, _, _⟩) rfl (fun K hK => ?_) AllReadyH.nil
        go_simp
        (try (first | (go_at_call 25; (with_reducible refine (numB _ _).mono ?_); rintro e wn ⟨rfl, hb⟩) | (go_at_call 26; (with_reducible refine (CI.out _ (by first | assumption | exact And.left (by assumption) | exact Below.refl _ _)).mono ?_); rintro e wn ⟨rfl, hb⟩)))
        refine hK.out _ _ ?_ (fun hHeld2 => ?_)
        · first | assumption | (exact KEEP.out _ (below_step (by first | assumption | exact And.left (by assumption) | exact Below.refl _ _) hb))
        clear hK K hHeld
        have hHeld := hHeld2; clear hHeld2
        (try simp only [Act.put, List.setIfInBounds_toArray, List.set_cons_zero, List.set_cons_succ])
        first | (refine wpAnyH_take (i := 23) (oi := ⟨some 87, _, _, _, _, _⟩) (v := ?_) rfl (by kernel_rfl) (by kernel_rfl) (by kernel_rfl) (fun _ _ _ h => h) ?_ (by assumption) ?_; rotate_left; (focus (refine Or.inl ⟨rfl, ?_⟩; intro w hSw; (try dsimp only at hSw); go_simp; (try with_reducible rfl); done)); (try simp only [Act.put, List.setIfInBounds_toArray, List.set_cons_zero, List.set_cons_succ])) | (refine wpAnyH_take (i := 23) (oi := ⟨some 87, _, _, _, _, _⟩) (v := undef) rfl (by kernel_rfl) (by kernel_rfl) (by kernel_rfl) (fun _ _ _ h => h) (Or.inr ⟨rfl, rfl⟩) (by assumption) ?_; (try simp only [Act.put, List.setIfInBounds_toArray, List.set_cons_zero, List.set_cons_succ]))
        first | (refine wpAnyH_take (i := 24) (oi := ⟨some 88, _, _, _, _, _⟩) (v := ?_) rfl (by kernel_rfl) (by kernel_rfl) (by kernel_rfl) (fun _ _ _ h => h) ?_ (by assumption) ?_; rotate_left; (focus (refine Or.inl ⟨rfl, ?_⟩; intro w hSw; (try dsimp only at hSw); go_simp; (try with_reducible rfl); done)); (try simp only [Act.put, List.setIfInBounds_toArray, List.set_cons_zero, List.set_cons_succ])) | (refine wpAnyH_take (i := 24) (oi := ⟨some 88, _, _, _, _, _⟩) (v := undef) rfl (by kernel_rfl) (by kernel_rfl) (by kernel_rfl) (fun _ _ _ h => h) (Or.inr ⟨rfl, rfl⟩) (by assumption) ?_; (try simp only [Act.put, List.setIfInBounds_toArray, List.set_cons_zero, List.set_cons_succ]))
        refine wpAnyH_take (i := 25) (oi := ⟨some 89, _, _, _, _, _⟩) (v := ?_) rfl (by kernel_rfl) (by kernel_rfl) (by kernel_rfl) (fun _ _ _ h => h) ?_ (by assumption) ?_; rotate_left; (focus (refine Or.inl ⟨rfl, ?_⟩; intro w hSw; (try dsimp only at hSw); go_simp; (try with_reducible rfl); done)); (try simp only [Act.put, List.setIfInBounds_toArray, List.set_cons_zero, List.set_cons_succ])
        refine wpAnyH_take (i := 26) (oi := ⟨some 90, _, _, _, _, _⟩) (v := ?_) rfl (by kernel_rfl) (by kernel_rfl) (by kernel_rfl) (fun _ _ _ h => h) ?_ (by assumption) ?_; rotate_left; (focus (refine Or.inl ⟨rfl, ?_⟩; intro w hSw; (try dsimp only at hSw); go_simp; (try with_reducible rfl); done)); (try simp only [Act.put, List.setIfInBounds_toArray, List.set_cons_zero, List.set_cons_succ])
        first | (refine wpAnyH_take (i := 27) (oi := ⟨some 91, _, _, _, _, _⟩) (v := ?_) rfl (by kernel_rfl) (by kernel_rfl) (by kernel_rfl) (fun _ _ _ h => h) ?_ (by assumption) ?_; rotate_left; (focus (refine Or.inl ⟨rfl, ?_⟩; intro w hSw; (try dsimp only at hSw); go_simp; (try with_reducible rfl); done)); (try simp only [Act.put, List.setIfInBounds_toArray, List.set_cons_zero, List.set_cons_succ])) | (refine wpAnyH_take (i := 27) (oi := ⟨some 91, _, _, _, _, _⟩) (v := undef) rfl (by kernel_rfl) (by kernel_rfl) (by kernel_rfl) (fun _ _ _ h => h) (Or.inr ⟨rfl, rfl⟩) (by assumption) ?_; (try simp only [Act.put, List.setIfInBounds_toArray, List.set_cons_zero, List.set_cons_succ]))
        refine wpAnyH_ready (rs := [28]) (by kernel_rfl) (by simp) ?_
        refine AllReadyH.cons (o := ⟨some 92, _, _, _, _, _⟩) rfl (fun K hK => ?_) AllReadyH.nil
        go_simp
        (try (first | (go_at_call 25; (with_reducible refine (numB _ _).mono ?_); rintro e wn ⟨rfl, hb⟩) | (go_at_call 26; (with_reducible refine (CI.out _ (by first | assumption | exact And.left (by assumption) | exact Below.refl _ _)).mono ?_); rintro e wn ⟨rfl, hb⟩)))
        refine hK.out _ _ ?_ (fun hHeld2 => ?_)
        · first | assumption | (exact KEEP.out _ (below_step (by first | assumption | exact And.left (by assumption) | exact Below.refl _ _) hb))
        clear hK K hHeld
        have hHeld := hHeld2; clear hHeld2
        (try simp only [Act.put, List.setIfInBounds_toArray, List.set_cons_zero, List.set_cons_succ])
        first | (refine wpAnyH_take (i := 29) (oi := ⟨some 93, _, _, _, _, _⟩) (v := ?_) rfl (by kernel_rfl) (by kernel_rfl) (by kernel_rfl) (fun _ _ _ h => h) ?_ (by assumption) ?_; rotate_left; (focus (refine Or.inl ⟨rfl, ?_⟩; intro w hSw; (try dsimp only at hSw); go_simp; (try with_reducible rfl); done)); (try simp only [Act.put, List.setIfInBounds_toArray, List.set_cons_zero, List.set_cons_succ])) | (refine wpAnyH_take (i := 29) (oi := ⟨some 93, _, _, _, _, _⟩) (v := undef) rfl (by kernel_rfl) (by kernel_rfl) (by kernel_rfl) (fun _ _ _ h => h) (Or.inr ⟨rfl, rfl⟩) (by assumption) ?_; (try simp only [Act.put, List.setIfInBounds_toArray, List.set_cons_zero, List.set_cons_succ]))
        first | (refine wpAnyH_take (i := 30) (oi := ⟨some 94, _, _, _, _, _⟩) (v := ?_) rfl (by kernel_rfl) (by kernel_rfl) (by kernel_rfl) (fun _ _ _ h => h) ?_ (by assumption) ?_; rotate_left; (focus (refine Or.inl ⟨rfl, ?_⟩; intro w hSw; (try dsimp only at hSw); go_simp; (try with_reducible rfl); done)); (try simp only [Act.put, List.setIfInBounds_toArray, List.set_cons_zero, List.set_cons_succ])) | (refine wpAnyH_take (i := 30) (oi := ⟨some 94, _, _, _, _, _⟩) (v := undef) rfl (by kernel_rfl) (by kernel_rfl) (by kernel_rfl) (fun _ _ _ h => h) (Or.inr ⟨rfl, rfl⟩) (by assumption) ?_; (try simp only [Act.put, List.setIfInBounds_toArray, List.set_cons_zero, List.set_cons_succ]))
        first | (refine wpAnyH_take (i := 31) (oi := ⟨some 95, _, _, _, _, _⟩) (v := ?_) rfl (by kernel_rfl) (by kernel_rfl) (by kernel_rfl) (fun _ _ _ h => h) ?_ (by assumption) ?_; rotate_left; (focus (refine Or.inl ⟨rfl, ?_⟩; intro w hSw; (try dsimp only at hSw); go_simp; (try with_reducible rfl); done)); (try simp only [Act.put, List.setIfInBounds_toArray, List.set_cons_zero, List.set_cons_succ])) | (refine wpAnyH_take (i := 31) (oi := ⟨some 95, _, _, _, _, _⟩) (v := undef) rfl (by kernel_rfl) (by kernel_rfl) (by kernel_rfl) (fun _ _ _ h => h) (Or.inr ⟨rfl, rfl⟩) (by assumption) ?_; (try simp only [Act.put, List.setIfInBounds_toArray, List.set_cons_zero, List.set_cons_succ]))
        refine wpAnyH_ready (rs := [32]) (by kernel_rfl) (by simp) ?_
        refine AllReadyH.cons (o := ⟨some 96, _, _, _, _, _⟩) rfl (fun K hK => ?_) AllReadyH.nil
        go_simp
        (try (first | (go_at_call 25; (with_reducible refine (numB _ _).mono ?_); rintro e wn ⟨rfl, hb⟩) | (go_at_call 26; (with_reducible refine (CI.out _ (by first | assumption | exact And.left (by assumption) | exact Below.refl _ _)).mono ?_); rintro e wn ⟨rfl, hb⟩)))
        refine hK.out _ _ ?_ (fun hHeld2 => ?_)
        · first | assumption | (exact KEEP.out _ (below_step (by first | assumption | exact And.left (by assumption) | exact Below.refl _ _) hb))
        clear hK K hHeld
        have hHeld := hHeld2; clear hHeld2
        (try simp only [Act.put, List.setIfInBounds_toArray, List.set_cons_zero, List.set_cons_succ])
        first | (refine wpAnyH_take (i := 33) (oi := ⟨some 97, _, _, _, _, _⟩) (v := ?_) rfl (by kernel_rfl) (by kernel_rfl) (by kernel_rfl) (fun _ _ _ h => h) ?_ (by assumption) ?_; rotate_left; (focus (refine Or.inl ⟨rfl, ?_⟩; intro w hSw; (try dsimp only at hSw); go_simp; (try with_reducible rfl); done)); (try simp only [Act.put, List.setIfInBounds_toArray, List.set_cons_zero, List.set_cons_succ])) | (refine wpAnyH_take (i := 33) (oi := ⟨some 97, _, _, _, _, _⟩) (v := undef) rfl (by kernel_rfl) (by kernel_rfl) (by kernel_rfl) (fun _ _ _ h => h) (Or.inr ⟨rfl, rfl⟩) (by assumption) ?_; (try simp only [Act.put, List.setIfInBounds_toArray, List.set_cons_zero, List.set_cons_succ]))
        first | (refine wpAnyH_take (i := 34) (oi := ⟨some 98, _, _, _, _, _⟩) (v := ?_) rfl (by kernel_rfl) (by kernel_rfl) (by kernel_rfl) (fun _ _ _ h => h) ?_ (by assumption) ?_; rotate_left; (focus (refine Or.inl ⟨rfl, ?_⟩; intro w hSw; (try dsimp only at hSw); go_simp; (try with_reducible rfl); done)); (try simp only [Act.put, List.setIfInBounds_toArray, List.set_cons_zero, List.set_cons_succ])) | (refine wpAnyH_take (i := 34) (oi := ⟨some 98, _, _, _, _, _⟩) (v := undef) rfl (by kernel_rfl) (by kernel_rfl) (by kernel_rfl) (fun _ _ _ h => h) (Or.inr ⟨rfl, rfl⟩) (by assumption) ?_; (try simp only [Act.put, List.setIfInBounds_toArray, List.set_cons_zero, List.set_cons_succ]))
        refine wpAnyH_take (i := 35) (oi := ⟨some 99, _, _, _, _, _⟩) (v := ?_) rfl (by kernel_rfl) (by kernel_rfl) (by kernel_rfl) (fun _ _ _ h => h) ?_ (by assumption) ?_; rotate_left; (focus (refine Or.inl ⟨rfl, ?_⟩; intro w hSw; (try dsimp only at hSw); go_simp; (try with_reducible rfl); done)); (try simp only [Act.put, List.setIfInBounds_toArray, List.set_cons_zero, List.set_cons_succ])
        refine wpAnyH_done (by kernel_rfl) ?_ _
        all_goals
          (try go_wp2)
          go_meet
          case rel =>
            exact ⟨rfl, ⟨below_step HB.out (by first | assumption | exact And.left (by assumption) | exact Below.refl _ _)⟩, ⟨blk_below XV.out (by first | assumption | exact And.left (by assumption) | exact Below.refl _ _)⟩, ⟨blk_below BX.out (by first | assumption | exact And.left (by assumption) | exact Below.refl _ _)⟩, ⟨Rows4.below RX.out (by first | assumption | exact And.left (by assumption) | exact Below.refl _ _)⟩⟩
      case rest =>
      clear HB XV BX RX
      obtain ⟨rfl, HB0, XV0, BX0, RX0⟩ := hcut
      have HB := Lib.hid HB0.out; clear HB0; have XV := Lib.hid XV0.out; clear XV0; have BX := Lib.hid BX0.out; clear BX0; have RX := Lib.hid RX0.out; clear RX0
      go_wp2
      go_roundg k2
      case measure => omega
      case rel => exact ⟨i + 1, rfl, HQ2, ⟨HB.out⟩, ⟨XV.out⟩⟩
end Go.Proofs.YtepolmajebdphaaDoor.Fns
