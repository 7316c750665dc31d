/- Package value, walked: Get, of any tree. -/
import Derived.Test.YtepolmajebdphaaDoorValuesU
import Derived.Test.YtepolmajebdphaaDoorValues
namespace Go.Proofs.YtepolmajebdphaaDoor.Values
open Go.RowKit Go.Proofs.YtepolmajebdphaaDoor.Q Go.Proofs.YtepolmajebdphaaDoor.Real Go.Proofs.YtepolmajebdphaaDoor.RealPure Go.Proofs.YtepolmajebdphaaDoorW.PrintWords Go.Proofs.YtepolmajebdphaaDoorW.PrintLast Go.Proofs.YtepolmajebdphaaDoorW.PrintMore
set_option linter.unusedSimpArgs false
set_option linter.unusedVariables false

theorem fit_any {d : Nat} {y : V} (h : okG d y ∨ y = z26 ∨ ∃ d', okG d' y) : ∃ d', fitD d' y := by
  rcases h with h | rfl | ⟨d', h⟩
  · exact ⟨d, fit_of_ok d y h⟩
  · exact ⟨1, Nat.zero_le _, Nat.zero_le _, fun z hz => by cases hz⟩
  · exact ⟨d', fit_of_ok d' y h⟩

set_option maxHeartbeats 8000000 in
set_option maxRecDepth 100000 in
theorem Get_calls (x : V) (A4 : Option Addr) (c4 : Nat) (A5 : Option Addr) (c5 : Nat) (P : Option Addr) (cp : Nat) (ps : List ByteArray) (w : World) (h : Rows4 w x A4 c4 A5 c5) (hp : Kd.C Kd.string w P ps.length ps) :
    Calls Tryd.prog 23 #[arg x A4 c4 A5 c5, .slice P ps.length cp] w fun e w' => ∃ v4 v5, e = .returned (.tuple #[.agg #[.int .i64 (getR x ps).1.f0, .int .i64 (getR x ps).1.f1, .int .u64 (getR x ps).1.f2, .string (getR x ps).1.f3, v4, v5], .int .i64 (getR x ps).2]) ∧
      Kd.R k26 26 w' w.heap.size (fun k_ => some k_ ≠ v5.ownBlock) v4 (getR x ps).1.f4 ∧ Kd.R Kd.string 9 w' w.heap.size (fun _ => True) v5 (getR x ps).1.f5 ∧ Below w.heap.size w w' := by
  have hu26 := Tryd.underlying26
  have H0 := Lib.hid h; have HP := Lib.hid hp
  have CM := Lib.hid (May_calls x A4 c4 A5 c5)
  obtain ⟨R, hR⟩ : ∃ R, getR x ps = R := ⟨_, rfl⟩
  rw [hR]
  obtain ⟨y, ey⟩ := R
  simp only
  have CC : ∀ (dd : Nat) B4 d4 B5 d5 W, fitD dd y → Rows4 W y B4 d4 B5 d5 → Calls Tryd.prog 58 #[.agg #[.int .i64 y.f0, .int .i64 y.f1, .int .u64 y.f2, .string y.f3, .slice B4 y.f4.length d4, .slice B5 y.f5.length d5]] W fun e w' => ∃ v4 v5, e = .returned (.agg #[.int .i64 y.f0, .int .i64 y.f1, .int .u64 y.f2, .string y.f3, v4, v5]) ∧
      Kd.R k26 26 w' W.heap.size (fun k_ => some k_ ≠ v5.ownBlock) v4 y.f4 ∧ Kd.R Kd.string 9 w' W.heap.size (fun _ => True) v5 y.f5 ∧ Below W.heap.size W w' := fun dd B4 d4 B5 d5 W hf hr => Copy_all dd y B4 d4 B5 d5 W hf hr
  have CC := Lib.hid CC
  unfold getR at hR
  by_cases hm : ps.length ≤ 8 ∧ mayB x = true
  · rw [if_pos hm] at hR
    obtain ⟨hl, hm⟩ := hm
    have CA := Lib.hid (fun W (hb : Below w.heap.size w W) => At_calls x A4 c4 A5 c5 P cp ps 8 W (h.below hb) (Kd.C_below hp hb) (by omega) (okG_of_may 8 x 1024 hm))
    rw [hR] at CA
    rw [hm] at CM
    have t8 : decide (8 < (ps.length : Int)) = false := decide_eq_false (by omega)
    clear h hp hR hm hl
    go_enter Tryd.func23, Tryd.ntmps23
    go_upto_region 1 with (first | ((with_reducible refine gate_dst (N := 2) rfl ?_); (try (refine gate_guard (by rfl) ?_; dsimp only)); refine box_event ?hg (N := 2) ?hd (cs := #[.int .i64 x.f0, .int .i64 x.f1, .int .u64 x.f2, .string x.f3, .slice A4 x.f4.length c4, .slice A5 x.f5.length c5]) (t := 26) ?hr ?_; (case hd => rfl); (case hg => rfl); (case hr => first | (go_simp; done) | (go_simp; rfl)); intro gb hg w3 hbox hb; have BK := Aside0.mk hbox; have HB := Aside0.mk hb; have GE := Lib.hid hg; clear hb hbox hg))
    have A1 := Lib.hid (blk_alloc BK.out (.cells #[.int .i64 0, .int .i64 0, .int .u64 0, .string ⟨#[]⟩, .slice none 0 0, .slice none 0 0] 26))
    have A2 := Lib.hid (blk_new w3 (.cells #[.int .i64 0, .int .i64 0, .int .u64 0, .string ⟨#[]⟩, .slice none 0 0, .slice none 0 0] 26))
    have A3 := Lib.hid (below_alloc HB.out (.cells #[.int .i64 0, .int .i64 0, .int .u64 0, .string ⟨#[]⟩, .slice none 0 0, .slice none 0 0] 26))
    have GZ := Lib.hid (below_size HB.out)
    clear HB BK
    generalize w3.heap.size = gz at *
    generalize hw4 : w3.alloc (.cells #[.int .i64 0, .int .i64 0, .int .u64 0, .string ⟨#[]⟩, .slice none 0 0, .slice none 0 0] 26) = w4 at *
    clear hw4
    obtain ⟨g0, g1, g2, g3, g4, g5⟩ := At.of_box A1.out
    go_wp2_with (first | (go_at_call 28; (with_reducible refine (CM.out _ (H0.out.below A3.out)).mono ?_); rintro e w5 ⟨rfl, hb5⟩; have B1 := Lib.hid (blk_below A1.out hb5); have B2 := Lib.hid (blk_below A2.out hb5); have B3 := Lib.hid (below_step A3.out hb5); clear hb5; obtain ⟨g0, g1, g2, g3, g4, g5⟩ := At.of_box B1.out) | (go_at_call 57; (with_reducible refine (CA.out _ B3.out).mono ?_); rintro e w6 ⟨E4, d4, E5, d5, rfl, hRo, hok, hb6⟩; have C2 := Lib.hid (blk_below B2.out hb6); have C3 := Lib.hid (below_step B3.out hb6); have CB := Lib.hid hb6; have FD := Lib.hid (fit_any hok); have RO := Lib.hid hRo; clear hb6 hok hRo) | (go_at_call 58; obtain ⟨dd, hdd⟩ := FD.out; (with_reducible refine (CC.out dd _ _ _ _ _ hdd (RO.out.below (below_alloc CB.out _))).mono ?_); rintro e w7 ⟨v4, v5, rfl, hr4, hr5, hb7⟩; have D2 := Lib.hid (blk_below (blk_alloc C2.out _) hb7); have D3 := Lib.hid (below_step (below_alloc C3.out _) hb7); have R4 := Lib.hid hr4; have R5 := Lib.hid hr5; have OV4 := Lib.hid (R_one hr4); have OV5 := Lib.hid (R_one hr5); clear hb7 hr4 hr5) | ((with_reducible refine gate_store (t := 26) (p := 4) rfl ?_); refine row_event (by rfl) (by rfl) (by rfl) (by rfl) (by rfl) D2.out (by exact size26) (by rfl) (by exact all_six _ _ _ _ _ _ OV4.out OV5.out) ?_; intro w8 hz8 ho8 hb8; have Z8 := Lib.hid hz8; have HO8 := Lib.hid ho8; have HB8 := Lib.hid (hb8 GZ.out D3.out); clear hb8 ho8 hz8))
    refine bodyPost_ret (results_cell_row_tmp rfl _ _ gz 26 _ (0, 0) _ rfl Z8.out hu26 rfl (by exact size26)) rfl ?_
    exact ⟨v4, v5, rfl, R_past R4.out (Nat.lt_of_lt_of_le (blk_lt C2.out) (below_size (below_alloc (Below.refl _ _) _))) HO8.out C3.out, R_past R5.out (Nat.lt_of_lt_of_le (blk_lt C2.out) (below_size (below_alloc (Below.refl _ _) _))) HO8.out C3.out, HB8.out⟩
  · rw [if_neg hm] at hR
    obtain ⟨rfl, rfl⟩ := Prod.mk.inj hR
    clear hR CC h hp
    obtain ⟨ml, hml⟩ : ∃ q, mayB x = q := ⟨_, rfl⟩
    rw [hml] at hm CM
    obtain ⟨pl, hpl⟩ : ∃ q, decide (8 < (ps.length : Int)) = q := ⟨_, rfl⟩
    have hcase : pl = true ∨ ml = false := by
      cases ml
      · exact .inr rfl
      · have hgt : ¬ ps.length ≤ 8 := fun hh => hm ⟨hh, rfl⟩
        exact .inl (by rw [← hpl]; exact decide_eq_true (by omega))
    clear hm hml
    rcases hcase with rfl | rfl
    · go_enter Tryd.func23, Tryd.ntmps23
      go_upto_region 1 with (first | ((with_reducible refine gate_dst (N := 2) rfl ?_); (try (refine gate_guard (by rfl) ?_; dsimp only)); refine box_event ?hg (N := 2) ?hd (cs := #[.int .i64 x.f0, .int .i64 x.f1, .int .u64 x.f2, .string x.f3, .slice A4 x.f4.length c4, .slice A5 x.f5.length c5]) (t := 26) ?hr ?_; (case hd => rfl); (case hg => rfl); (case hr => first | (go_simp; done) | (go_simp; rfl)); intro gb hg w3 hbox hb; have BK := Aside0.mk hbox; have HB := Aside0.mk hb; have GE := Lib.hid hg; clear hb hbox hg))
      have A1 := Lib.hid (blk_alloc BK.out (.cells #[.int .i64 0, .int .i64 0, .int .u64 0, .string ⟨#[]⟩, .slice none 0 0, .slice none 0 0] 26))
      have A2 := Lib.hid (blk_new w3 (.cells #[.int .i64 0, .int .i64 0, .int .u64 0, .string ⟨#[]⟩, .slice none 0 0, .slice none 0 0] 26))
      have A3 := Lib.hid (below_alloc HB.out (.cells #[.int .i64 0, .int .i64 0, .int .u64 0, .string ⟨#[]⟩, .slice none 0 0, .slice none 0 0] 26))
      have GZ := Lib.hid (below_size HB.out)
      clear HB BK
      generalize w3.heap.size = gz at *
      generalize hw4 : w3.alloc (.cells #[.int .i64 0, .int .i64 0, .int .u64 0, .string ⟨#[]⟩, .slice none 0 0, .slice none 0 0] 26) = w4 at *
      clear hw4
      obtain ⟨g0, g1, g2, g3, g4, g5⟩ := At.of_box A1.out
      go_wp2_with (first | ((with_reducible refine gate_store (t := 26) (p := 4) rfl ?_); refine row_event (by rfl) (by rfl) (by rfl) (by rfl) (by rfl) (by first | exact B2.out | exact A2.out) (by exact size26) (by rfl) (by first | rfl | simp [Value.oneCell']) ?_; intro w8 hz8 ho8 hb8; have Z8 := Lib.hid hz8; have HB8 := Lib.hid (hb8 GZ.out (by first | exact B3.out | exact A3.out)); clear hb8 ho8 hz8))
      refine bodyPost_ret (results_cell_row_tmp rfl _ _ gz 26 _ (0, 0) _ rfl Z8.out hu26 rfl (by exact size26)) rfl ?_
      exact ⟨_, _, rfl, Kd.R_nil _ _ _ _ _, Kd.R_nil _ _ _ _ _, HB8.out⟩
    · cases pl
      all_goals
        go_enter Tryd.func23, Tryd.ntmps23
        go_upto_region 1 with (first | ((with_reducible refine gate_dst (N := 2) rfl ?_); (try (refine gate_guard (by rfl) ?_; dsimp only)); refine box_event ?hg (N := 2) ?hd (cs := #[.int .i64 x.f0, .int .i64 x.f1, .int .u64 x.f2, .string x.f3, .slice A4 x.f4.length c4, .slice A5 x.f5.length c5]) (t := 26) ?hr ?_; (case hd => rfl); (case hg => rfl); (case hr => first | (go_simp; done) | (go_simp; rfl)); intro gb hg w3 hbox hb; have BK := Aside0.mk hbox; have HB := Aside0.mk hb; have GE := Lib.hid hg; clear hb hbox hg))
        have A1 := Lib.hid (blk_alloc BK.out (.cells #[.int .i64 0, .int .i64 0, .int .u64 0, .string ⟨#[]⟩, .slice none 0 0, .slice none 0 0] 26))
        have A2 := Lib.hid (blk_new w3 (.cells #[.int .i64 0, .int .i64 0, .int .u64 0, .string ⟨#[]⟩, .slice none 0 0, .slice none 0 0] 26))
        have A3 := Lib.hid (below_alloc HB.out (.cells #[.int .i64 0, .int .i64 0, .int .u64 0, .string ⟨#[]⟩, .slice none 0 0, .slice none 0 0] 26))
        have GZ := Lib.hid (below_size HB.out)
        clear HB BK
        generalize w3.heap.size = gz at *
        generalize hw4 : w3.alloc (.cells #[.int .i64 0, .int .i64 0, .int .u64 0, .string ⟨#[]⟩, .slice none 0 0, .slice none 0 0] 26) = w4 at *
        clear hw4
        obtain ⟨g0, g1, g2, g3, g4, g5⟩ := At.of_box A1.out
        go_wp2_with (first | (go_at_call 28; (with_reducible refine (CM.out _ (H0.out.below A3.out)).mono ?_); rintro e w5 ⟨rfl, hb5⟩; have B2 := Lib.hid (blk_below A2.out hb5); have B3 := Lib.hid (below_step A3.out hb5); clear hb5) | ((with_reducible refine gate_store (t := 26) (p := 4) rfl ?_); refine row_event (by rfl) (by rfl) (by rfl) (by rfl) (by rfl) (by first | exact B2.out | exact A2.out) (by exact size26) (by rfl) (by first | rfl | simp [Value.oneCell']) ?_; intro w8 hz8 ho8 hb8; have Z8 := Lib.hid hz8; have HB8 := Lib.hid (hb8 GZ.out (by first | exact B3.out | exact A3.out)); clear hb8 ho8 hz8))
        refine bodyPost_ret (results_cell_row_tmp rfl _ _ gz 26 _ (0, 0) _ rfl Z8.out hu26 rfl (by exact size26)) rfl ?_
        exact ⟨_, _, rfl, Kd.R_nil _ _ _ _ _, Kd.R_nil _ _ _ _ _, HB8.out⟩
end Go.Proofs.YtepolmajebdphaaDoor.Values
