/- Package value, walked: Get, where a leaf is got. · Package value's contracts in the form of the kit's print. -/
import Derived.Test.YtepolmajebdphaaDoorValuesR
import Derived.Test.YtepolmajebdphaaDoorValuesK
namespace Go.Proofs.YtepolmajebdphaaDoor.Values
open Go.RowKit Go.Proofs.YtepolmajebdphaaDoor.Q Go.Proofs.YtepolmajebdphaaDoor.Real Go.Proofs.YtepolmajebdphaaDoor.RealPure Go.Proofs.YtepolmajebdphaaDoorW.PrintWords Go.Proofs.YtepolmajebdphaaDoorW.PrintLast Go.Proofs.YtepolmajebdphaaDoorW.PrintMore
set_option linter.unusedSimpArgs false
set_option linter.unusedVariables false

/-- What Get answers. -/
def getR (x : V) (ps : List ByteArray) : V × Int := if ps.length ≤ 8 ∧ mayB x = true then atR x ps else (z26, 400)

theorem Rows4.drew {w : World} {x : V} {A4 : Option Addr} {c4 : Nat} {A5 : Option Addr} {c5 : Nat} (h : Rows4 w x A4 c4 A5 c5) (m : Nat) : Rows4 (w.drewN m) x A4 c4 A5 c5 := h.below (pw_below_drewN (Below.refl _ _) m)

theorem all_six (a b c : Int) (s : ByteArray) (v4 v5 : Value) (h4 : v4.oneCell' = true) (h5 : v5.oneCell' = true) : (#[Value.int .i64 a, .int .i64 b, .int .u64 c, .string s, v4, v5] : Array Value).all (·.oneCell') = true := by
  rw [Array.all_eq_true_iff_forall_mem]
  intro v hv
  simp only [List.mem_toArray, List.mem_cons, List.not_mem_nil, or_false] at hv
  rcases hv with rfl | rfl | rfl | rfl | rfl | rfl <;> first | rfl | assumption
theorem R_one {α : Type} {d : Kd α} {e : Nat} {w : World} {base : Nat} {ok : Nat → Prop} {v : Value} {xs : List α} (h : d.R e w base ok v xs) : v.oneCell' = true := by
  obtain ⟨_, inner, ho, _⟩ := h
  rcases ho.2 with ⟨rfl, _⟩ | ⟨g, cap, cur, rfl, _⟩ <;> rfl
/-- A row of one's own stays, where one elder block alone is written; and its bottom is lowered. -/
theorem R_past {α : Type} {d : Kd α} {e : Nat} {w0 w6 w w1 : World} {o : Obj} {ok : Nat → Prop} {v : Value} {xs : List α} {g : Nat} (h : d.R e w (w6.alloc o).heap.size ok v xs) (hg : g < (w6.alloc o).heap.size) (hm : ∀ k, k ≠ g → w1.heap[k]? = w.heap[k]?) (hb : Below w0.heap.size w0 w6) :
    d.R e w1 w0.heap.size ok v xs :=
  Kd.R_mono (Kd.R_lower (Kd.R_move (Kd.R_bound h) (fun k hk => hm k (by have := hk.2.1; omega))) (below_size (below_alloc hb o))) (fun k hk => hk.1)

set_option maxHeartbeats 8000000 in
set_option maxRecDepth 100000 in
theorem Get_leaf (x : V) (A4 : Option Addr) (c4 : Nat) (A5 : Option Addr) (c5 : Nat) (P : Option Addr) (cp : Nat) (ps : List ByteArray) (w : World) (h : Rows4 w x A4 c4 A5 c5) (hp : Kd.C Kd.string w P ps.length ps) (h4 : (getR x ps).1.f4 = []) (h5 : (getR x ps).1.f5 = []) :
    Calls Tryd.prog 23 #[arg x A4 c4 A5 c5, .slice P ps.length cp] w fun e w' => ∃ v4 v5, e = .returned (.tuple #[.agg #[.int .i64 (getR x ps).1.f0, .int .i64 (getR x ps).1.f1, .int .u64 (getR x ps).1.f2, .string (getR x ps).1.f3, v4, v5], .int .i64 (getR x ps).2]) ∧
      Kd.R k26 26 w' w.heap.size (fun k_ => some k_ ≠ v5.ownBlock) v4 (getR x ps).1.f4 ∧ Kd.R Kd.string 9 w' w.heap.size (fun _ => True) v5 (getR x ps).1.f5 ∧ Below w.heap.size w w' := by
  have hu26 := Tryd.underlying26
  have H0 := Lib.hid h; have HP := Lib.hid hp
  have CM := Lib.hid (May_calls x A4 c4 A5 c5)
  obtain ⟨R, hR⟩ : ∃ R, getR x ps = R := ⟨_, rfl⟩
  rw [hR] at h4 h5 ⊢
  obtain ⟨y, ey⟩ := R
  simp only at h4 h5 ⊢
  have e4 : y.f4.length = 0 := by rw [h4]; rfl
  have e5 : y.f5.length = 0 := by rw [h5]; rfl
  have CC : ∀ B4 d4 B5 d5 W, Calls Tryd.prog 58 #[.agg #[.int .i64 y.f0, .int .i64 y.f1, .int .u64 y.f2, .string y.f3, .slice B4 y.f4.length d4, .slice B5 y.f5.length d5]] W fun e w' => ∃ v4 v5, e = .returned (.agg #[.int .i64 y.f0, .int .i64 y.f1, .int .u64 y.f2, .string y.f3, v4, v5]) ∧
      Kd.R k26 26 w' W.heap.size (fun k_ => some k_ ≠ v5.ownBlock) v4 y.f4 ∧ Kd.R Kd.string 9 w' W.heap.size (fun _ => True) v5 y.f5 ∧ Below W.heap.size W w' := fun B4 d4 B5 d5 W => by
    rw [e4, e5]; exact Copy_leaf y B4 d4 B5 d5 W h4 h5
  have CC := Lib.hid CC
  clear e4 e5
  unfold getR at hR
  by_cases hm : ps.length ≤ 8 ∧ mayB x = true
  · rw [if_pos hm] at hR
    obtain ⟨hl, hm⟩ := hm
    have CA := Lib.hid (fun W (hb : Below w.heap.size w W) => At_calls x A4 c4 A5 c5 P cp ps 8 W (h.below hb) (Kd.C_below hp hb) (by omega) (okG_of_may 8 x 1024 hm))
    rw [hR] at CA
    rw [hm] at CM
    have t8 : decide (8 < (ps.length : Int)) = false := decide_eq_false (by omega)
    have L4 := Lib.hid h4; have L5 := Lib.hid h5
    clear h hp h4 h5 hR hm hl
    go_enter Tryd.func23, Tryd.ntmps23
    go_upto_region 1 with (first | ((with_reducible refine gate_dst (N := 2) rfl ?_); (try (refine gate_guard (by rfl) ?_; dsimp only)); refine box_event ?hg (N := 2) ?hd (cs := #[.int .i64 x.f0, .int .i64 x.f1, .int .u64 x.f2, .string x.f3, .slice A4 x.f4.length c4, .slice A5 x.f5.length c5]) (t := 26) ?hr ?_; (case hd => rfl); (case hg => rfl); (case hr => first | (go_simp; done) | (go_simp; rfl)); intro gb hg w3 hbox hb; have BK := Aside0.mk hbox; have HB := Aside0.mk hb; have GE := Lib.hid hg; clear hb hbox hg))
    have A1 := Lib.hid (blk_alloc BK.out (.cells #[.int .i64 0, .int .i64 0, .int .u64 0, .string ⟨#[]⟩, .slice none 0 0, .slice none 0 0] 26))
    have A2 := Lib.hid (blk_new w3 (.cells #[.int .i64 0, .int .i64 0, .int .u64 0, .string ⟨#[]⟩, .slice none 0 0, .slice none 0 0] 26))
    have A3 := Lib.hid (below_alloc HB.out (.cells #[.int .i64 0, .int .i64 0, .int .u64 0, .string ⟨#[]⟩, .slice none 0 0, .slice none 0 0] 26))
    have GZ := Lib.hid (below_size HB.out)
    clear HB BK
    generalize w3.heap.size = gz at *
    generalize hw4 : w3.alloc (.cells #[.int .i64 0, .int .i64 0, .int .u64 0, .string ⟨#[]⟩, .slice none 0 0, .slice none 0 0] 26) = w4 at *
    clear hw4
    obtain ⟨g0, g1, g2, g3, g4, g5⟩ := At.of_box A1.out
    go_wp2_with (first | (go_at_call 28; (with_reducible refine (CM.out _ (H0.out.below A3.out)).mono ?_); rintro e w5 ⟨rfl, hb5⟩; have B1 := Lib.hid (blk_below A1.out hb5); have B2 := Lib.hid (blk_below A2.out hb5); have B3 := Lib.hid (below_step A3.out hb5); clear hb5; obtain ⟨g0, g1, g2, g3, g4, g5⟩ := At.of_box B1.out) | (go_at_call 57; (with_reducible refine (CA.out _ B3.out).mono ?_); rintro e w6 ⟨E4, d4, E5, d5, rfl, hRo, hok, hb6⟩; have C2 := Lib.hid (blk_below B2.out hb6); have C3 := Lib.hid (below_step B3.out hb6); clear hb6 hok hRo) | (go_at_call 58; (with_reducible refine (CC.out _ _ _ _ _).mono ?_); rintro e w7 ⟨v4, v5, rfl, hr4, hr5, hb7⟩; have D2 := Lib.hid (blk_below (blk_alloc C2.out _) hb7); have D3 := Lib.hid (below_step (below_alloc C3.out _) hb7); have R4 := Lib.hid hr4; have R5 := Lib.hid hr5; have OV4 := Lib.hid (R_one hr4); have OV5 := Lib.hid (R_one hr5); clear hb7 hr4 hr5) | ((with_reducible refine gate_store (t := 26) (p := 4) rfl ?_); refine row_event (by rfl) (by rfl) (by rfl) (by rfl) (by rfl) D2.out (by exact size26) (by rfl) (by exact all_six _ _ _ _ _ _ OV4.out OV5.out) ?_; intro w8 hz8 ho8 hb8; have Z8 := Lib.hid hz8; have HO8 := Lib.hid ho8; have HB8 := Lib.hid (hb8 GZ.out D3.out); clear hb8 ho8 hz8))
    refine bodyPost_ret (results_cell_row_tmp rfl _ _ gz 26 _ (0, 0) _ rfl Z8.out hu26 rfl (by exact size26)) rfl ?_
    exact ⟨v4, v5, rfl, R_past R4.out (Nat.lt_of_lt_of_le (blk_lt C2.out) (below_size (below_alloc (Below.refl _ _) _))) HO8.out C3.out, R_past R5.out (Nat.lt_of_lt_of_le (blk_lt C2.out) (below_size (below_alloc (Below.refl _ _) _))) HO8.out C3.out, HB8.out⟩
  · rw [if_neg hm] at hR
    obtain ⟨rfl, rfl⟩ := Prod.mk.inj hR
    clear hR h4 h5 CC h hp
    obtain ⟨ml, hml⟩ : ∃ q, mayB x = q := ⟨_, rfl⟩
    rw [hml] at hm CM
    obtain ⟨pl, hpl⟩ : ∃ q, decide (8 < (ps.length : Int)) = q := ⟨_, rfl⟩
    have hcase : pl = true ∨ ml = false := by
      cases ml
      · exact .inr rfl
      · have hgt : ¬ ps.length ≤ 8 := fun hh => hm ⟨hh, rfl⟩
        exact .inl (by rw [← hpl]; exact decide_eq_true (by omega))
    clear hm hml
    rcases hcase with rfl | rfl
    · go_enter Tryd.func23, Tryd.ntmps23
      go_upto_region 1 with (first | ((with_reducible refine gate_dst (N := 2) rfl ?_); (try (refine gate_guard (by rfl) ?_; dsimp only)); refine box_event ?hg (N := 2) ?hd (cs := #[.int .i64 x.f0, .int .i64 x.f1, .int .u64 x.f2, .string x.f3, .slice A4 x.f4.length c4, .slice A5 x.f5.length c5]) (t := 26) ?hr ?_; (case hd => rfl); (case hg => rfl); (case hr => first | (go_simp; done) | (go_simp; rfl)); intro gb hg w3 hbox hb; have BK := Aside0.mk hbox; have HB := Aside0.mk hb; have GE := Lib.hid hg; clear hb hbox hg))
      have A1 := Lib.hid (blk_alloc BK.out (.cells #[.int .i64 0, .int .i64 0, .int .u64 0, .string ⟨#[]⟩, .slice none 0 0, .slice none 0 0] 26))
      have A2 := Lib.hid (blk_new w3 (.cells #[.int .i64 0, .int .i64 0, .int .u64 0, .string ⟨#[]⟩, .slice none 0 0, .slice none 0 0] 26))
      have A3 := Lib.hid (below_alloc HB.out (.cells #[.int .i64 0, .int .i64 0, .int .u64 0, .string ⟨#[]⟩, .slice none 0 0, .slice none 0 0] 26))
      have GZ := Lib.hid (below_size HB.out)
      clear HB BK
      generalize w3.heap.size = gz at *
      generalize hw4 : w3.alloc (.cells #[.int .i64 0, .int .i64 0, .int .u64 0, .string ⟨#[]⟩, .slice none 0 0, .slice none 0 0] 26) = w4 at *
      clear hw4
      obtain ⟨g0, g1, g2, g3, g4, g5⟩ := At.of_box A1.out
      go_wp2_with (first | ((with_reducible refine gate_store (t := 26) (p := 4) rfl ?_); refine row_event (by rfl) (by rfl) (by rfl) (by rfl) (by rfl) (by first | exact B2.out | exact A2.out) (by exact size26) (by rfl) (by first | rfl | simp [Value.oneCell']) ?_; intro w8 hz8 ho8 hb8; have Z8 := Lib.hid hz8; have HB8 := Lib.hid (hb8 GZ.out (by first | exact B3.out | exact A3.out)); clear hb8 ho8 hz8))
      refine bodyPost_ret (results_cell_row_tmp rfl _ _ gz 26 _ (0, 0) _ rfl Z8.out hu26 rfl (by exact size26)) rfl ?_
      exact ⟨_, _, rfl, Kd.R_nil _ _ _ _ _, Kd.R_nil _ _ _ _ _, HB8.out⟩
    · cases pl
      all_goals
        go_enter Tryd.func23, Tryd.ntmps23
        go_upto_region 1 with (first | ((with_reducible refine gate_dst (N := 2) rfl ?_); (try (refine gate_guard (by rfl) ?_; dsimp only)); refine box_event ?hg (N := 2) ?hd (cs := #[.int .i64 x.f0, .int .i64 x.f1, .int .u64 x.f2, .string x.f3, .slice A4 x.f4.length c4, .slice A5 x.f5.length c5]) (t := 26) ?hr ?_; (case hd => rfl); (case hg => rfl); (case hr => first | (go_simp; done) | (go_simp; rfl)); intro gb hg w3 hbox hb; have BK := Aside0.mk hbox; have HB := Aside0.mk hb; have GE := Lib.hid hg; clear hb hbox hg))
        have A1 := Lib.hid (blk_alloc BK.out (.cells #[.int .i64 0, .int .i64 0, .int .u64 0, .string ⟨#[]⟩, .slice none 0 0, .slice none 0 0] 26))
        have A2 := Lib.hid (blk_new w3 (.cells #[.int .i64 0, .int .i64 0, .int .u64 0, .string ⟨#[]⟩, .slice none 0 0, .slice none 0 0] 26))
        have A3 := Lib.hid (below_alloc HB.out (.cells #[.int .i64 0, .int .i64 0, .int .u64 0, .string ⟨#[]⟩, .slice none 0 0, .slice none 0 0] 26))
        have GZ := Lib.hid (below_size HB.out)
        clear HB BK
        generalize w3.heap.size = gz at *
        generalize hw4 : w3.alloc (.cells #[.int .i64 0, .int .i64 0, .int .u64 0, .string ⟨#[]⟩, .slice none 0 0, .slice none 0 0] 26) = w4 at *
        clear hw4
        obtain ⟨g0, g1, g2, g3, g4, g5⟩ := At.of_box A1.out
        go_wp2_with (first | (go_at_call 28; (with_reducible refine (CM.out _ (H0.out.below A3.out)).mono ?_); rintro e w5 ⟨rfl, hb5⟩; have B2 := Lib.hid (blk_below A2.out hb5); have B3 := Lib.hid (below_step A3.out hb5); clear hb5) | ((with_reducible refine gate_store (t := 26) (p := 4) rfl ?_); refine row_event (by rfl) (by rfl) (by rfl) (by rfl) (by rfl) (by first | exact B2.out | exact A2.out) (by exact size26) (by rfl) (by first | rfl | simp [Value.oneCell']) ?_; intro w8 hz8 ho8 hb8; have Z8 := Lib.hid hz8; have HB8 := Lib.hid (hb8 GZ.out (by first | exact B3.out | exact A3.out)); clear hb8 ho8 hz8))
        refine bodyPost_ret (results_cell_row_tmp rfl _ _ gz 26 _ (0, 0) _ rfl Z8.out hu26 rfl (by exact size26)) rfl ?_
        exact ⟨_, _, rfl, Kd.R_nil _ _ _ _ _, Kd.R_nil _ _ _ _ _, HB8.out⟩
end Go.Proofs.YtepolmajebdphaaDoor.Values
namespace Go.Proofs.YtepolmajebdphaaDoor.Values
open Go.RowKit Go.Proofs.YtepolmajebdphaaDoor.Q Go.Proofs.YtepolmajebdphaaDoor.Real Go.Proofs.YtepolmajebdphaaDoor.RealPure Go.Proofs.YtepolmajebdphaaDoorW.PrintWords Go.Proofs.YtepolmajebdphaaDoorW.PrintLast Go.Proofs.YtepolmajebdphaaDoorW.PrintMore
set_option linter.unusedSimpArgs false
set_option linter.unusedVariables false

def value_May.f (a0_0 : Int) (a0_1 : Int) (a0_2 : Int) (a0_3 : ByteArray) (l0_4 : List S26) (l0_5 : List ByteArray) : Option Bool := some (mayB (⟨a0_0, a0_1, a0_2, a0_3, l0_4, l0_5⟩ : V))
theorem value_May.calls (a0_0 : Int) (a0_1 : Int) (a0_2 : Int) (a0_3 : ByteArray) (A0_4 : Option Addr) (c0_4 : Nat) (l0_4 : List S26) (A0_5 : Option Addr) (c0_5 : Nat) (l0_5 : List ByteArray) (r : Bool) (w : World) (hr0_4 : Kd.C k26 w A0_4 l0_4.length l0_4) (hc0_4 : l0_4.length ≤ c0_4) (hr0_5 : Kd.C Kd.string w A0_5 l0_5.length l0_5) (hc0_5 : l0_5.length ≤ c0_5) (h : value_May.f a0_0 a0_1 a0_2 a0_3 l0_4 l0_5 = some r) :
    Calls Tryd.prog 28 #[.agg #[.int .i64 a0_0, .int .i64 a0_1, .int .u64 a0_2, .string a0_3, .slice A0_4 l0_4.length c0_4, .slice A0_5 l0_5.length c0_5]] w fun e w' => e = .returned (.bool r) ∧ Below w.heap.size w w' := by
  unfold value_May.f at h
  cases h
  exact May_calls (⟨a0_0, a0_1, a0_2, a0_3, l0_4, l0_5⟩ : V) A0_4 c0_4 A0_5 c0_5 w ⟨hr0_4, hc0_4, hr0_5, hc0_5⟩

def value_True.f (a0_0 : Int) (a0_1 : Int) (a0_2 : Int) (a0_3 : ByteArray) (l0_4 : List S26) (l0_5 : List ByteArray) : Option Bool := if 0 ≤ a0_2 ∧ a0_2 < 2 ^ 64 then some (mayB (⟨a0_0, a0_1, a0_2, a0_3, l0_4, l0_5⟩ : V) && truthB (⟨a0_0, a0_1, a0_2, a0_3, l0_4, l0_5⟩ : V)) else none
theorem value_True.calls (a0_0 : Int) (a0_1 : Int) (a0_2 : Int) (a0_3 : ByteArray) (A0_4 : Option Addr) (c0_4 : Nat) (l0_4 : List S26) (A0_5 : Option Addr) (c0_5 : Nat) (l0_5 : List ByteArray) (r : Bool) (w : World) (hr0_4 : Kd.C k26 w A0_4 l0_4.length l0_4) (hc0_4 : l0_4.length ≤ c0_4) (hr0_5 : Kd.C Kd.string w A0_5 l0_5.length l0_5) (hc0_5 : l0_5.length ≤ c0_5) (h : value_True.f a0_0 a0_1 a0_2 a0_3 l0_4 l0_5 = some r) :
    Calls Tryd.prog 30 #[.agg #[.int .i64 a0_0, .int .i64 a0_1, .int .u64 a0_2, .string a0_3, .slice A0_4 l0_4.length c0_4, .slice A0_5 l0_5.length c0_5]] w fun e w' => e = .returned (.bool r) ∧ Below w.heap.size w w' := by
  unfold value_True.f at h
  split at h
  · rename_i hb
    cases h
    exact True_calls (⟨a0_0, a0_1, a0_2, a0_3, l0_4, l0_5⟩ : V) A0_4 c0_4 A0_5 c0_5 w ⟨hr0_4, hc0_4, hr0_5, hc0_5⟩ hb.1 hb.2
  · cases h

def value_Text.f (a0_0 : Int) (a0_1 : Int) (a0_2 : Int) (a0_3 : ByteArray) (l0_4 : List S26) (l0_5 : List ByteArray) : Option (ByteArray × Int) := if 0 ≤ a0_2 ∧ a0_2 < 2 ^ 64 then some (if mayB (⟨a0_0, a0_1, a0_2, a0_3, l0_4, l0_5⟩ : V) = true then saidS (⟨a0_0, a0_1, a0_2, a0_3, l0_4, l0_5⟩ : V) else ⟨#[]⟩, if mayB (⟨a0_0, a0_1, a0_2, a0_3, l0_4, l0_5⟩ : V) = true then saidE (⟨a0_0, a0_1, a0_2, a0_3, l0_4, l0_5⟩ : V) else 400) else none
theorem value_Text.calls (a0_0 : Int) (a0_1 : Int) (a0_2 : Int) (a0_3 : ByteArray) (A0_4 : Option Addr) (c0_4 : Nat) (l0_4 : List S26) (A0_5 : Option Addr) (c0_5 : Nat) (l0_5 : List ByteArray) (r1 : ByteArray) (r2 : Int) (w : World) (hT : Tabs w) (hr0_4 : Kd.C k26 w A0_4 l0_4.length l0_4) (hc0_4 : l0_4.length ≤ c0_4) (hr0_5 : Kd.C Kd.string w A0_5 l0_5.length l0_5) (hc0_5 : l0_5.length ≤ c0_5) (h : value_Text.f a0_0 a0_1 a0_2 a0_3 l0_4 l0_5 = some (r1, r2)) :
    Calls Tryd.prog 19 #[.agg #[.int .i64 a0_0, .int .i64 a0_1, .int .u64 a0_2, .string a0_3, .slice A0_4 l0_4.length c0_4, .slice A0_5 l0_5.length c0_5]] w fun e w' => e = .returned (.tuple #[.string r1, .int .i64 r2]) ∧ Below w.heap.size w w' := by
  unfold value_Text.f at h
  split at h
  · rename_i hb
    cases h
    exact Text_calls (⟨a0_0, a0_1, a0_2, a0_3, l0_4, l0_5⟩ : V) A0_4 c0_4 A0_5 c0_5 w hT ⟨hr0_4, hc0_4, hr0_5, hc0_5⟩ hb.1 hb.2
  · cases h

def value_Less.f (a0_0 : Int) (a0_1 : Int) (a0_2 : Int) (a0_3 : ByteArray) (l0_4 : List S26) (l0_5 : List ByteArray) (a1_0 : Int) (a1_1 : Int) (a1_2 : Int) (a1_3 : ByteArray) (l1_4 : List S26) (l1_5 : List ByteArray) : Option (Bool × Int) := some (lessB (⟨a0_0, a0_1, a0_2, a0_3, l0_4, l0_5⟩ : V) (⟨a1_0, a1_1, a1_2, a1_3, l1_4, l1_5⟩ : V), lessE (⟨a0_0, a0_1, a0_2, a0_3, l0_4, l0_5⟩ : V) (⟨a1_0, a1_1, a1_2, a1_3, l1_4, l1_5⟩ : V))
theorem value_Less.calls (a0_0 : Int) (a0_1 : Int) (a0_2 : Int) (a0_3 : ByteArray) (A0_4 : Option Addr) (c0_4 : Nat) (l0_4 : List S26) (A0_5 : Option Addr) (c0_5 : Nat) (l0_5 : List ByteArray) (a1_0 : Int) (a1_1 : Int) (a1_2 : Int) (a1_3 : ByteArray) (A1_4 : Option Addr) (c1_4 : Nat) (l1_4 : List S26) (A1_5 : Option Addr) (c1_5 : Nat) (l1_5 : List ByteArray) (r1 : Bool) (r2 : Int) (w : World) (hr0_4 : Kd.C k26 w A0_4 l0_4.length l0_4) (hc0_4 : l0_4.length ≤ c0_4) (hr0_5 : Kd.C Kd.string w A0_5 l0_5.length l0_5) (hc0_5 : l0_5.length ≤ c0_5) (hr1_4 : Kd.C k26 w A1_4 l1_4.length l1_4) (hc1_4 : l1_4.length ≤ c1_4) (hr1_5 : Kd.C Kd.string w A1_5 l1_5.length l1_5) (hc1_5 : l1_5.length ≤ c1_5) (h : value_Less.f a0_0 a0_1 a0_2 a0_3 l0_4 l0_5 a1_0 a1_1 a1_2 a1_3 l1_4 l1_5 = some (r1, r2)) :
    Calls Tryd.prog 21 #[.agg #[.int .i64 a0_0, .int .i64 a0_1, .int .u64 a0_2, .string a0_3, .slice A0_4 l0_4.length c0_4, .slice A0_5 l0_5.length c0_5], .agg #[.int .i64 a1_0, .int .i64 a1_1, .int .u64 a1_2, .string a1_3, .slice A1_4 l1_4.length c1_4, .slice A1_5 l1_5.length c1_5]] w fun e w' => e = .returned (.tuple #[.bool r1, .int .i64 r2]) ∧ Below w.heap.size w w' := by
  unfold value_Less.f at h
  cases h
  exact Less_calls (⟨a0_0, a0_1, a0_2, a0_3, l0_4, l0_5⟩ : V) (⟨a1_0, a1_1, a1_2, a1_3, l1_4, l1_5⟩ : V) A0_4 c0_4 A0_5 c0_5 A1_4 c1_4 A1_5 c1_5 w ⟨hr0_4, hc0_4, hr0_5, hc0_5⟩ ⟨hr1_4, hc1_4, hr1_5, hc1_5⟩

def rngB : Nat → V → Bool
  | 0, _ => true
  | d + 1, x => (decide (0 ≤ x.f2) && decide (x.f2 < 2 ^ 64)) && x.f4.all (rngB d)
theorem rng_of : ∀ d x, rngB d x = true → rngD d x
  | 0, _, _ => trivial
  | d + 1, x, h => by
    unfold rngB at h
    simp only [Bool.and_eq_true, decide_eq_true_eq, List.all_eq_true] at h
    exact ⟨h.1.1, h.1.2, fun z hz => rng_of d z (h.2 z hz)⟩

def value_Same.f (a0_0 : Int) (a0_1 : Int) (a0_2 : Int) (a0_3 : ByteArray) (l0_4 : List S26) (l0_5 : List ByteArray) (a1_0 : Int) (a1_1 : Int) (a1_2 : Int) (a1_3 : ByteArray) (l1_4 : List S26) (l1_5 : List ByteArray) : Option Bool := if rngB 8 (⟨a0_0, a0_1, a0_2, a0_3, l0_4, l0_5⟩ : V) = true ∧ rngB 8 (⟨a1_0, a1_1, a1_2, a1_3, l1_4, l1_5⟩ : V) = true then some (mayB (⟨a0_0, a0_1, a0_2, a0_3, l0_4, l0_5⟩ : V) && mayB (⟨a1_0, a1_1, a1_2, a1_3, l1_4, l1_5⟩ : V) && sameD 8 (⟨a0_0, a0_1, a0_2, a0_3, l0_4, l0_5⟩ : V) (⟨a1_0, a1_1, a1_2, a1_3, l1_4, l1_5⟩ : V)) else none
theorem value_Same.calls (a0_0 : Int) (a0_1 : Int) (a0_2 : Int) (a0_3 : ByteArray) (A0_4 : Option Addr) (c0_4 : Nat) (l0_4 : List S26) (A0_5 : Option Addr) (c0_5 : Nat) (l0_5 : List ByteArray) (a1_0 : Int) (a1_1 : Int) (a1_2 : Int) (a1_3 : ByteArray) (A1_4 : Option Addr) (c1_4 : Nat) (l1_4 : List S26) (A1_5 : Option Addr) (c1_5 : Nat) (l1_5 : List ByteArray) (r : Bool) (w : World) (hr0_4 : Kd.C k26 w A0_4 l0_4.length l0_4) (hc0_4 : l0_4.length ≤ c0_4) (hr0_5 : Kd.C Kd.string w A0_5 l0_5.length l0_5) (hc0_5 : l0_5.length ≤ c0_5) (hr1_4 : Kd.C k26 w A1_4 l1_4.length l1_4) (hc1_4 : l1_4.length ≤ c1_4) (hr1_5 : Kd.C Kd.string w A1_5 l1_5.length l1_5) (hc1_5 : l1_5.length ≤ c1_5) (h : value_Same.f a0_0 a0_1 a0_2 a0_3 l0_4 l0_5 a1_0 a1_1 a1_2 a1_3 l1_4 l1_5 = some r) :
    Calls Tryd.prog 32 #[.agg #[.int .i64 a0_0, .int .i64 a0_1, .int .u64 a0_2, .string a0_3, .slice A0_4 l0_4.length c0_4, .slice A0_5 l0_5.length c0_5], .agg #[.int .i64 a1_0, .int .i64 a1_1, .int .u64 a1_2, .string a1_3, .slice A1_4 l1_4.length c1_4, .slice A1_5 l1_5.length c1_5]] w fun e w' => e = .returned (.bool r) ∧ Below w.heap.size w w' := by
  unfold value_Same.f at h
  split at h
  · rename_i hb
    cases h
    exact Same_calls (⟨a0_0, a0_1, a0_2, a0_3, l0_4, l0_5⟩ : V) (⟨a1_0, a1_1, a1_2, a1_3, l1_4, l1_5⟩ : V) A0_4 c0_4 A0_5 c0_5 A1_4 c1_4 A1_5 c1_5 w ⟨hr0_4, hc0_4, hr0_5, hc0_5⟩ ⟨hr1_4, hc1_4, hr1_5, hc1_5⟩ (rng_of _ _ hb.1) (rng_of _ _ hb.2)
  · cases h
end Go.Proofs.YtepolmajebdphaaDoor.Values
