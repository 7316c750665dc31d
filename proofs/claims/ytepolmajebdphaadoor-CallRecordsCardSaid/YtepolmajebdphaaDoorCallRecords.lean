/- stolelaw18.CallRecords, walked: it answers true, whatever the value and the key. -/
import Derived.Test.YtepolmajebdphaaDoorCallKit
import Derived.Test.YtepolmajebdphaaDoorRecPure
namespace Go.Proofs.YtepolmajebdphaaDoor.Fns
open Go.RowKit Go.Proofs.YtepolmajebdphaaDoor.Q Go.Proofs.YtepolmajebdphaaDoor.Real Go.Proofs.YtepolmajebdphaaDoor.RealPure Go.Proofs.YtepolmajebdphaaDoor.Values Go.Proofs.YtepolmajebdphaaDoorW.PrintWords Go.Proofs.YtepolmajebdphaaDoorW.PrintLast Go.Proofs.YtepolmajebdphaaDoorW.PrintMore
set_option linter.unusedSimpArgs false
set_option linter.unusedVariables false
set_option maxRecDepth 100000

set_option maxHeartbeats 64000000 in
theorem callRecords_calls (v : V) (A4 : Option Addr) (c4 : Nat) (A5 : Option Addr) (c5 : Nat) (key : ByteArray) (w : World) (hT : Tabs w) (hv : Rows4 w v A4 c4 A5 c5) (rv : rngD 8 v) :
    Calls Tryd.prog 13 #[arg v A4 c4 A5 c5, .string key] w fun e w' => e = .returned (.bool true) ∧ Below w.heap.size w w' := by
  have hu26 := Tryd.underlying26
  show Calls _ _ #[.agg #[.int .i64 v.f0, .int .i64 v.f1, .int .u64 v.f2, .string v.f3, .slice A4 v.f4.length c4, .slice A5 v.f5.length c5], .string key] _ _
  have AW := Lib.hid (fun W (h : Below w.heap.size w W) => awake18_calls W (hT.below h))
  have MV := Lib.hid (show ∀ W, Below w.heap.size w W → Calls Tryd.prog 29 #[.agg #[.int .i64 v.f0, .int .i64 v.f1, .int .u64 v.f2, .string v.f3, .slice A4 v.f4.length c4, .slice A5 v.f5.length c5]] W fun e w' => e = .returned (.bool (mayB v)) ∧ Below W.heap.size W w' from fun W h => RefMay_calls v A4 c4 A5 c5 W (hv.below h))
  by_cases h6 : v.f0 = 6
  case neg =>
    have n6 : (v.f0 != 6) = true := bne_iff_ne.2 h6
    have m6 : (v.f0 == 6) = false := beq_eq_false_iff_ne.2 h6
    clear h6 hT hv rv MV
    go_enter Tryd.func13, Tryd.ntmps13
    go_wp2_with (first | ((with_reducible refine gate_dst (N := 2) rfl ?_); (try (refine gate_guard (by rfl) ?_; dsimp only)); refine box_event ?hg (N := 2) ?hd (cs := #[.int .i64 v.f0, .int .i64 v.f1, .int .u64 v.f2, .string v.f3, .slice A4 v.f4.length c4, .slice A5 v.f5.length c5]) (t := 26) ?hr ?_; (case hd => rfl); (case hg => rfl); (case hr => first | (go_simp; done) | (go_simp; rfl)); intro gv hg w0 hbox hbn; have HB := Lib.hid hbn; have XV := Lib.hid hbox; obtain ⟨v0, v1, v2, v3, v4, v5⟩ := At.of_box XV.out; clear hbn hbox hg) | (go_at_call 41; (with_reducible refine (AW.out _ HB.out).mono ?_); rintro e w1 ⟨rfl, hbn⟩; have HB' := Lib.hid (below_step HB.out hbn); have XV' := Lib.hid (blk_below XV.out hbn); clear HB; have HB := HB'; clear HB'; clear XV; have XV := XV'; clear XV'; (try clear v0 v1 v2 v3 v4 v5); obtain ⟨v0, v1, v2, v3, v4, v5⟩ := At.of_box XV.out; clear hbn))
    all_goals (go_ret; exact ⟨rfl, HB.out⟩)
  have n6 : (v.f0 != 6) = false := by rw [h6]; rfl
  have m6 : (v.f0 == 6) = true := by rw [h6]; rfl
  by_cases hm : mayB v = true
  case neg =>
    have hmf : mayB v = false := by simpa using hm
    rw [hmf] at MV
    clear h6 hT hv rv hm hmf
    go_enter Tryd.func13, Tryd.ntmps13
    go_wp2_with (first | ((with_reducible refine gate_dst (N := 2) rfl ?_); (try (refine gate_guard (by rfl) ?_; dsimp only)); refine box_event ?hg (N := 2) ?hd (cs := #[.int .i64 v.f0, .int .i64 v.f1, .int .u64 v.f2, .string v.f3, .slice A4 v.f4.length c4, .slice A5 v.f5.length c5]) (t := 26) ?hr ?_; (case hd => rfl); (case hg => rfl); (case hr => first | (go_simp; done) | (go_simp; rfl)); intro gv hg w0 hbox hbn; have HB := Lib.hid hbn; have XV := Lib.hid hbox; obtain ⟨v0, v1, v2, v3, v4, v5⟩ := At.of_box XV.out; clear hbn hbox hg) | (go_at_call 41; (with_reducible refine (AW.out _ HB.out).mono ?_); rintro e w1 ⟨rfl, hbn⟩; have HB' := Lib.hid (below_step HB.out hbn); have XV' := Lib.hid (blk_below XV.out hbn); clear HB; have HB := HB'; clear HB'; clear XV; have XV := XV'; clear XV'; (try clear v0 v1 v2 v3 v4 v5); obtain ⟨v0, v1, v2, v3, v4, v5⟩ := At.of_box XV.out; clear hbn) | (go_at_call 29; (with_reducible refine (MV.out _ HB.out).mono ?_); rintro e w2 ⟨rfl, hbn⟩; have HB' := Lib.hid (below_step HB.out hbn); have XV' := Lib.hid (blk_below XV.out hbn); clear HB; have HB := HB'; clear HB'; clear XV; have XV := XV'; clear XV'; (try clear v0 v1 v2 v3 v4 v5); obtain ⟨v0, v1, v2, v3, v4, v5⟩ := At.of_box XV.out; clear hbn))
    all_goals (go_ret; exact ⟨rfl, HB.out⟩)
  rw [hm] at MV
  by_cases hk : (65536 : Int) < (key.size : Int)
  case pos =>
    have dk : decide ((65536 : Int) < (key.size : Int)) = true := decide_eq_true hk
    clear h6 hT hv rv hm hk
    go_enter Tryd.func13, Tryd.ntmps13
    go_wp2_with (first | ((with_reducible refine gate_dst (N := 2) rfl ?_); (try (refine gate_guard (by rfl) ?_; dsimp only)); refine box_event ?hg (N := 2) ?hd (cs := #[.int .i64 v.f0, .int .i64 v.f1, .int .u64 v.f2, .string v.f3, .slice A4 v.f4.length c4, .slice A5 v.f5.length c5]) (t := 26) ?hr ?_; (case hd => rfl); (case hg => rfl); (case hr => first | (go_simp; done) | (go_simp; rfl)); intro gv hg w0 hbox hbn; have HB := Lib.hid hbn; have XV := Lib.hid hbox; obtain ⟨v0, v1, v2, v3, v4, v5⟩ := At.of_box XV.out; clear hbn hbox hg) | (go_at_call 41; (with_reducible refine (AW.out _ HB.out).mono ?_); rintro e w1 ⟨rfl, hbn⟩; have HB' := Lib.hid (below_step HB.out hbn); have XV' := Lib.hid (blk_below XV.out hbn); clear HB; have HB := HB'; clear HB'; clear XV; have XV := XV'; clear XV'; (try clear v0 v1 v2 v3 v4 v5); obtain ⟨v0, v1, v2, v3, v4, v5⟩ := At.of_box XV.out; clear hbn) | (go_at_call 29; (with_reducible refine (MV.out _ HB.out).mono ?_); rintro e w2 ⟨rfl, hbn⟩; have HB' := Lib.hid (below_step HB.out hbn); have XV' := Lib.hid (blk_below XV.out hbn); clear HB; have HB := HB'; clear HB'; clear XV; have XV := XV'; clear XV'; (try clear v0 v1 v2 v3 v4 v5); obtain ⟨v0, v1, v2, v3, v4, v5⟩ := At.of_box XV.out; clear hbn))
    all_goals (go_ret; exact ⟨rfl, HB.out⟩)
  have dk : decide ((65536 : Int) < (key.size : Int)) = false := decide_eq_false hk
  have hks : key.size ≤ 65536 := by omega
  have ho := own_of_may hm
  have hkb : keysB v.f5 = true := by
    have := ho
    unfold ownB at this
    rw [h6] at this
    simp at this
    exact this.2.2
  have hln : v.f5.length = v.f4.length := keys_len ho h6
  have h64 : v.f5.length ≤ 64 := (len_of_may hm).2
  have hidx : ∀ k : ByteArray, k.size ≤ 65536 → callR (⟨#[105, 110, 100, 101, 120]⟩ : ByteArray) [v, textV k] = (if keyI v.f5 k 0 < 0 ∨ (v.f4.length : Int) ≤ keyI v.f5 k 0 then (z26, 1803) else (rd_T26 v.f4 (keyI v.f5 k 0), 0)) := fun k hk => by
    rw [callR_index _ _ hm (may_textV k hk)]
    have e : idxI v (textV k) = some (keyI v.f5 k 0) := by
      unfold idxI
      rw [h6]
      rfl
    show indexR v (textV k) = _
    unfold indexR
    rw [e]
  have hG0 : callR (⟨#[105, 110, 100, 101, 120]⟩ : ByteArray) [v, numV 0] = (z26, 1802) := by
    rw [callR_index _ _ hm (may_numV 0 (by omega) (by omega))]
    have e : idxI v (numV 0) = none := by
      unfold idxI
      rw [h6]
      rfl
    show indexR v (numV 0) = _
    unfold indexR
    rw [e]
  have HG := Lib.hid (show ∀ (k : ByteArray) (g : Nat) (W : World), Below w.heap.size w W → W.heap[g]? = some (.cells #[.int .i64 v.f0, .int .i64 v.f1, .int .u64 v.f2, .string v.f3, .slice A4 v.f4.length c4, .slice A5 v.f5.length c5, .int .i64 4, .int .i64 0, .int .u64 0, .string k, .slice none 0 0, .slice none 0 0] 26 (0, 0)) → Calls Tryd.prog 42 #[.string (⟨#[105, 110, 100, 101, 120]⟩ : ByteArray), .slice (some ⟨g, 0, none⟩) 2 2] W fun e w' => Got W w' e (callR (⟨#[105, 110, 100, 101, 120]⟩ : ByteArray) [v, textV k]) from fun k => call2g (⟨#[105, 110, 100, 101, 120]⟩ : ByteArray) v (textV k) A4 c4 A5 c5 w hT hv rv rfl rfl (Int.le_refl 0) (by show (0 : Int) < 2 ^ 64; decide))
  have GZ := Lib.hid (show ∀ (g : Nat) (W : World), Below w.heap.size w W → W.heap[g]? = some (.cells #[.int .i64 v.f0, .int .i64 v.f1, .int .u64 v.f2, .string v.f3, .slice A4 v.f4.length c4, .slice A5 v.f5.length c5, .int .i64 2, .int .i64 0, .int .u64 0, .string ⟨#[]⟩, .slice none 0 0, .slice none 0 0] 26 (0, 0)) → Calls Tryd.prog 42 #[.string (⟨#[105, 110, 100, 101, 120]⟩ : ByteArray), .slice (some ⟨g, 0, none⟩) 2 2] W fun e w' => Got W w' e (callR (⟨#[105, 110, 100, 101, 120]⟩ : ByteArray) [v, numV 0]) from call2g (⟨#[105, 110, 100, 101, 120]⟩ : ByteArray) v (numV 0) A4 c4 A5 c5 w hT hv rv rfl rfl (Int.le_refl 0) (by show (0 : Int) < 2 ^ 64; decide))
  rw [hG0] at GZ
  have GL := Lib.hid (call1 (⟨#[108, 101, 110]⟩ : ByteArray) v A4 c4 A5 c5 w hT hv rv)
  rw [callR_len v hm (.inr h6)] at GL
  obtain ⟨K, hK⟩ : ∃ K, numV v.f4.length = K := ⟨_, rfl⟩
  rw [hK] at GL
  have KE := Lib.hid (show K = numV v.f5.length by rw [← hK, hln])
  have HX := Lib.hid hidx
  have KB := Lib.hid hkb; have LN := Lib.hid hln; have H64 := Lib.hid h64; have KS := Lib.hid hks
  have CN := Lib.hid num18; have CT := Lib.hid text18
  have HR4 := Lib.hid hv.k4; have HR5 := Lib.hid hv.k5
  clear h6 hT hv rv hm hk hks ho hkb hln h64 hidx hG0 hK
  go_enter Tryd.func13, Tryd.ntmps13
  go_wp2_with (first | ((with_reducible refine gate_dst (N := 2) rfl ?_); (try (refine gate_guard (by rfl) ?_; dsimp only)); refine box_event ?hg (N := 2) ?hd (cs := #[.int .i64 v.f0, .int .i64 v.f1, .int .u64 v.f2, .string v.f3, .slice A4 v.f4.length c4, .slice A5 v.f5.length c5]) (t := 26) ?hr ?_; (case hd => rfl); (case hg => rfl); (case hr => first | (go_simp; done) | (go_simp; rfl)); intro gv hg w0 hbox hbn; have HB := Lib.hid hbn; have XV := Lib.hid hbox; obtain ⟨v0, v1, v2, v3, v4, v5⟩ := At.of_box XV.out; clear hbn hbox hg) | (go_at_call 41; (with_reducible refine (AW.out _ HB.out).mono ?_); rintro e w1 ⟨rfl, hbn⟩; have HB' := Lib.hid (below_step HB.out hbn); have XV' := Lib.hid (blk_below XV.out hbn); clear HB; have HB := HB'; clear HB'; clear XV; have XV := XV'; clear XV'; (try clear v0 v1 v2 v3 v4 v5); obtain ⟨v0, v1, v2, v3, v4, v5⟩ := At.of_box XV.out; clear hbn) | (go_at_call 29; (with_reducible refine (MV.out _ HB.out).mono ?_); rintro e w2 ⟨rfl, hbn⟩; have HB' := Lib.hid (below_step HB.out hbn); have XV' := Lib.hid (blk_below XV.out hbn); clear HB; have HB := HB'; clear HB'; clear XV; have XV := XV'; clear XV'; (try clear v0 v1 v2 v3 v4 v5); obtain ⟨v0, v1, v2, v3, v4, v5⟩ := At.of_box XV.out; clear hbn))
  clear v0 v1 v2 v3 v4 v5
  go_loopg [5, 6] v.f5.length (fun kq v5 v6 wr => ∃ (th : Bool) (i : Int), v5 = .bool th ∧ v6 = .int .i64 i ∧ Aside0 (i + kq = v.f5.length ∧ 0 ≤ i) ∧ Aside0 (th = hasK (v.f5.take i.toNat) key) ∧ Aside0 (Below w.heap.size w wr) ∧ Aside0 (wr.heap[gv]? = some (.cells #[.int .i64 v.f0, .int .i64 v.f1, .int .u64 v.f2, .string v.f3, .slice A4 v.f4.length c4, .slice A5 v.f5.length c5] 26 (0, 0))))
  case atStart => exact ⟨false, 0, rfl, rfl, ⟨by omega, by omega⟩, ⟨rfl⟩, ⟨HB.out⟩, ⟨XV.out⟩⟩
  case round =>
  clear HB XV
  obtain ⟨th, i, rfl, rfl, HQ, HT, HB0, XV0⟩ := hrel
  have HB := Lib.hid HB0.out; have XV := Lib.hid XV0.out
  clear HB0 XV0
  obtain ⟨hi1, hi0⟩ := HQ.out
  have h64 := H64.out
  obtain ⟨v0, v1, v2, v3, v4, v5⟩ := At.of_box XV.out
  cases gk with
  | zero =>
    have hlt : decide (i < (v.f5.length : Int)) = false := decide_eq_false (by omega)
    have ht := HT.out
    rw [List.take_of_length_le (by omega)] at ht
    have hx := keyI_has v.f5 key 0 (Int.le_refl 0)
    rw [← ht] at hx
    have GK := Lib.hid (HG.out key)
    rw [HX.out key KS.out] at GK
    have LNE := LN.out
    have CK : ∀ W (E : Option Addr) (e1 : Nat) (F : Option Addr) (f1 : Nat), Rows4 W K E e1 F f1 → Calls Tryd.prog 26 #[.agg #[.int .i64 K.f0, .int .i64 K.f1, .int .u64 K.f2, .string K.f3, .slice E K.f4.length e1, .slice F K.f5.length f1], .agg #[.int .i64 2, .int .i64 (v.f5.length : Int), .int .u64 0, .string ⟨#[]⟩, .slice none 0 0, .slice none 0 0]] W fun e w' => e = .returned (.bool true) ∧ Below W.heap.size W w' := fun W E e1 F f1 hk => by
      have hl4 : K.f4 = [] := by rw [KE.out]; rfl
      have hc := sv_all 1 K (numV v.f5.length) E e1 F f1 none 0 none 0 W (deep_leaf K hl4) hk (rows_nil W (numV v.f5.length) rfl rfl)
      rw [show svD 1 K (numV v.f5.length) = true by rw [KE.out]; exact sv_refl 1 _ (deep_leaf _ rfl)] at hc
      exact hc
    have CKH := Lib.hid CK
    have DX : (th = true ∧ ∃ X, (if keyI v.f5 key 0 < 0 ∨ (v.f4.length : Int) ≤ keyI v.f5 key 0 then ((z26, 1803) : V × Int) else (rd_T26 v.f4 (keyI v.f5 key 0), 0)) = (X, 0)) ∨ (th = false ∧ (if keyI v.f5 key 0 < 0 ∨ (v.f4.length : Int) ≤ keyI v.f5 key 0 then ((z26, 1803) : V × Int) else (rd_T26 v.f4 (keyI v.f5 key 0), 0)) = (z26, 1803)) := by
      cases th
      · right
        exact ⟨rfl, by rw [hx.2 rfl, if_pos (.inl (by omega))]⟩
      · left
        have h1 := hx.1 rfl
        exact ⟨rfl, _, by rw [if_neg (by omega)]⟩
    obtain ⟨X, EK, hXK, hEK⟩ : ∃ X EK, (if keyI v.f5 key 0 < 0 ∨ (v.f4.length : Int) ≤ keyI v.f5 key 0 then ((z26, 1803) : V × Int) else (rd_T26 v.f4 (keyI v.f5 key 0), 0)) = (X, EK) ∧ ((th = true ∧ EK = 0) ∨ (th = false ∧ EK = 1803)) := by
      rcases DX with ⟨h1, X, h2⟩ | ⟨h1, h2⟩
      · exact ⟨X, 0, h2, .inl ⟨h1, rfl⟩⟩
      · exact ⟨z26, 1803, h2, .inr ⟨h1, rfl⟩⟩
    rw [hXK] at GK
    have TE := Lib.hid hEK
    clear hi1 hi0 h64 ht hx LNE DX hXK hEK HT CK
    go_upto_region 13 with (fail)
    go_cut [9, 10] (fun v9 v10 wc => ∃ (gx : Nat) (E2 : Option Addr) (e2 : Nat) (F2 : Option Addr) (f2 : Nat), v9 = .pointer (some ⟨gx, 0, none⟩) ∧ v10 = .int .i64 EK ∧ Aside0 (Below w.heap.size w wc) ∧ Aside0 (wc.heap[gv]? = some (.cells #[.int .i64 v.f0, .int .i64 v.f1, .int .u64 v.f2, .string v.f3, .slice A4 v.f4.length c4, .slice A5 v.f5.length c5] 26 (0, 0))) ∧ Aside0 (wc.heap[gx]? = some (.cells #[.int .i64 X.f0, .int .i64 X.f1, .int .u64 X.f2, .string X.f3, .slice E2 X.f4.length e2, .slice F2 X.f5.length f2] 26 (0, 0))) ∧ Aside0 (Rows4 wc X E2 e2 F2 f2))
    case first =>
      have XVD := Lib.hid (blk_below XV.out (below_drew (Below.refl wr.heap.size wr)))
      have hbn := below_drew (Below.refl wr.heap.size wr)
      have HB' := Lib.hid (below_step HB.out hbn); have XV' := Lib.hid (blk_below XV.out hbn); clear HB; have HB := HB'; clear HB'; clear XV; have XV := XV'; clear XV'
      clear hbn
      (try clear l0 l1 l2 l3 l4 l5 v0 v1 v2 v3 v4 v5)
      generalize hWD : wr.drew = wd at *
      have KEEP := Lib.hid (show ∀ w', Below wd.heap.size wd w' → (fun w' => Below wd.heap.size wd w' ∧ w'.cell? ⟨gv, 0, none⟩ = some (.int .i64 v.f0) ∧ w'.cell? ⟨gv, 1, none⟩ = some (.int .i64 v.f1) ∧ w'.cell? ⟨gv, 2, none⟩ = some (.int .u64 v.f2) ∧ w'.cell? ⟨gv, 3, none⟩ = some (.string v.f3) ∧ w'.cell? ⟨gv, 4, none⟩ = some (.slice A4 v.f4.length c4) ∧ w'.cell? ⟨gv, 5, none⟩ = some (.slice A5 v.f5.length c5)) w' from fun w' h => ⟨h, (blk_cell (blk_below XVD.out h) 0).trans rfl, (blk_cell (blk_below XVD.out h) 1).trans rfl, (blk_cell (blk_below XVD.out h) 2).trans rfl, (blk_cell (blk_below XVD.out h) 3).trans rfl, (blk_cell (blk_below XVD.out h) 4).trans rfl, (blk_cell (blk_below XVD.out h) 5).trans rfl⟩)
      refine wp_region_held_drew (S := (fun w' => Below wd.heap.size wd w' ∧ w'.cell? ⟨gv, 0, none⟩ = some (.int .i64 v.f0) ∧ w'.cell? ⟨gv, 1, none⟩ = some (.int .i64 v.f1) ∧ w'.cell? ⟨gv, 2, none⟩ = some (.int .u64 v.f2) ∧ w'.cell? ⟨gv, 3, none⟩ = some (.string v.f3) ∧ w'.cell? ⟨gv, 4, none⟩ = some (.slice A4 v.f4.length c4) ∧ w'.cell? ⟨gv, 5, none⟩ = some (.slice A5 v.f5.length c5))) (by kernel_rfl) ?_ (fun hHeld => ?_)
      · rw [hWD]; exact KEEP.out _ (Below.refl _ _)
      rw [hWD] at hHeld ⊢
      clear hWD XVD
      have HN := Lib.hid (Below.refl wd.heap.size wd)
      refine wpAnyH_take (i := 0) (oi := ⟨some 73, _, _, _, _, _⟩) (v := ?_) rfl (by as_aux_lemma => kernel_rfl) (by as_aux_lemma => kernel_rfl) (by as_aux_lemma => kernel_rfl) (fun _ _ _ h => h) ?_ (by assumption) ?_; rotate_left; (focus (refine Or.inl ⟨rfl, ?_⟩; intro w hSw; (try dsimp only at hSw); go_simp; (try with_reducible rfl); done)); (try simp only [Act.put, List.setIfInBounds_toArray, List.set_cons_zero, List.set_cons_succ])
      refine wpAnyH_take (i := 1) (oi := ⟨some 74, _, _, _, _, _⟩) (v := ?_) rfl (by as_aux_lemma => kernel_rfl) (by as_aux_lemma => kernel_rfl) (by as_aux_lemma => kernel_rfl) (fun _ _ _ h => h) ?_ (by assumption) ?_; rotate_left; (focus (refine Or.inl ⟨rfl, ?_⟩; intro w hSw; (try dsimp only at hSw); go_simp; (try with_reducible rfl); done)); (try simp only [Act.put, List.setIfInBounds_toArray, List.set_cons_zero, List.set_cons_succ])
      refine wpAnyH_ready (rs := [2, 8]) (by kernel_rfl) (by simp) ?_
      refine AllReadyH.cons (o := ⟨some 75, _, _, _, _, _⟩) rfl (fun K hK => ?_) (AllReadyH.cons (o := ⟨some 9, _, _, _, _, _⟩) rfl (fun K hK => ?_) AllReadyH.nil)
      · go_simp
        go_at_call 45
        (with_reducible refine (CT.out _ _).mono ?_)
        rintro e wn ⟨rfl, hb⟩
        refine hK.out _ _ (KEEP.out _ (below_step HN.out hb)) (fun hHeld2 => ?_)
        have HN' := Lib.hid (below_step HN.out hb); clear HN; have HN := HN'; clear HN'
        clear hb; clear hK K hHeld; have hHeld := hHeld2; clear hHeld2; (try simp only [Act.put, List.setIfInBounds_toArray, List.set_cons_zero, List.set_cons_succ])
        refine wpAnyH_ready (rs := [3, 8]) (by kernel_rfl) (by simp) ?_
        refine AllReadyH.cons (o := ⟨some 76, _, _, _, _, _⟩) rfl (fun K hK => ?_) (AllReadyH.cons (o := ⟨some 9, _, _, _, _, _⟩) rfl (fun K hK => ?_) AllReadyH.nil)
        · go_simp
          have hb := below_alloc (Below.refl wn.heap.size wn) (.cells #[.int .i64 v.f0, .int .i64 v.f1, .int .u64 v.f2, .string v.f3, .slice A4 v.f4.length c4, .slice A5 v.f5.length c5, .int .i64 4, .int .i64 0, .int .u64 0, .string key, .slice none 0 0, .slice none 0 0] 26)
          refine hK.out _ _ (KEEP.out _ (below_step HN.out hb)) (fun hHeld2 => ?_)
          have GA := Lib.hid (blk_new wn (.cells #[.int .i64 v.f0, .int .i64 v.f1, .int .u64 v.f2, .string v.f3, .slice A4 v.f4.length c4, .slice A5 v.f5.length c5, .int .i64 4, .int .i64 0, .int .u64 0, .string key, .slice none 0 0, .slice none 0 0] 26))
          have HN' := Lib.hid (below_step HN.out hb); clear HN; have HN := HN'; clear HN'
          clear hb; clear hK K hHeld; have hHeld := hHeld2; clear hHeld2; (try simp only [Act.put, List.setIfInBounds_toArray, List.set_cons_zero, List.set_cons_succ])
          generalize hgk : wn.alloc (.cells #[.int .i64 v.f0, .int .i64 v.f1, .int .u64 v.f2, .string v.f3, .slice A4 v.f4.length c4, .slice A5 v.f5.length c5, .int .i64 4, .int .i64 0, .int .u64 0, .string key, .slice none 0 0, .slice none 0 0] 26) = wk at *; clear hgk
          obtain ⟨gk_, hgk⟩ : ∃ gk_, wn.heap.size = gk_ := ⟨_, rfl⟩; rw [hgk] at GA; (try rw [hgk]); clear hgk
          refine wpAnyH_ready (rs := [4, 8]) (by kernel_rfl) (by simp) ?_
          refine AllReadyH.cons (o := ⟨some 77, _, _, _, _, _⟩) rfl (fun K hK => ?_) (AllReadyH.cons (o := ⟨some 9, _, _, _, _, _⟩) rfl (fun K hK => ?_) AllReadyH.nil)
          · go_simp
            go_at_call 42
            (with_reducible refine (GK.out _ _ (below_step HB.out HN.out) GA.out).mono ?_)
            rintro e wm ⟨v4, v5, rfl, hk4, hk5, hb⟩
            obtain ⟨E2, e2, rfl⟩ := Kd.R_slice hk4; obtain ⟨F2, f2, rfl⟩ := Kd.R_slice hk5; have RK := Lib.hid (And.intro hk4 hk5); clear hk4 hk5
            refine hK.out _ _ (KEEP.out _ (below_step HN.out hb)) (fun hHeld2 => ?_)
            have HN' := Lib.hid (below_step HN.out hb); clear HN; have HN := HN'; clear HN'
            clear hb GA; clear hK K hHeld; have hHeld := hHeld2; clear hHeld2; (try simp only [Act.put, List.setIfInBounds_toArray, List.set_cons_zero, List.set_cons_succ])
            refine wpAnyH_take (i := 5) (oi := ⟨some 72, _, _, _, _, _⟩) (v := ?_) rfl (by as_aux_lemma => kernel_rfl) (by as_aux_lemma => kernel_rfl) (by as_aux_lemma => kernel_rfl) (fun _ _ _ h => h) ?_ (by assumption) ?_; rotate_left; (focus (refine Or.inl ⟨rfl, ?_⟩; intro w hSw; (try dsimp only at hSw); go_simp; (try with_reducible rfl); done)); (try simp only [Act.put, List.setIfInBounds_toArray, List.set_cons_zero, List.set_cons_succ])
            refine wpAnyH_take (i := 6) (oi := ⟨some 78, _, _, _, _, _⟩) (v := ?_) rfl (by as_aux_lemma => kernel_rfl) (by as_aux_lemma => kernel_rfl) (by as_aux_lemma => kernel_rfl) (fun _ _ _ h => h) ?_ (by assumption) ?_; rotate_left; (focus (refine Or.inl ⟨rfl, ?_⟩; intro w hSw; (try dsimp only at hSw); go_simp; (try with_reducible rfl); done)); (try simp only [Act.put, List.setIfInBounds_toArray, List.set_cons_zero, List.set_cons_succ])
            refine wpAnyH_take (i := 7) (oi := ⟨some 79, _, _, _, _, _⟩) (v := ?_) rfl (by as_aux_lemma => kernel_rfl) (by as_aux_lemma => kernel_rfl) (by as_aux_lemma => kernel_rfl) (fun _ _ _ h => h) ?_ (by assumption) ?_; rotate_left; (focus (refine Or.inl ⟨rfl, ?_⟩; intro w hSw; (try dsimp only at hSw); go_simp; (try with_reducible rfl); done)); (try simp only [Act.put, List.setIfInBounds_toArray, List.set_cons_zero, List.set_cons_succ])
            refine wpAnyH_ready (rs := [8]) (by kernel_rfl) (by simp) ?_
            refine AllReadyH.cons (o := ⟨some 9, _, _, _, _, _⟩) rfl (fun K hK => ?_) AllReadyH.nil
            go_simp
            have hb := below_alloc (Below.refl wm.heap.size wm) zeros
            refine hK.out _ _ (KEEP.out _ (below_step HN.out hb)) (fun hHeld2 => ?_)
            have BXZ := Lib.hid (blk_new wm zeros)
            have HNA := Lib.hid (below_step HN.out hb)
            clear hb; clear hK K hHeld; have hHeld := hHeld2; clear hHeld2; (try simp only [Act.put, List.setIfInBounds_toArray, List.set_cons_zero, List.set_cons_succ])
            refine wpAnyH_ready (rs := [9]) (by kernel_rfl) (by simp) ?_
            refine AllReadyH.cons (o := ⟨none, _, _, _, _, _⟩) rfl (fun K hK => ?_) AllReadyH.nil
            have HF := Lib.hid (below_alloc HN.out (.cells #[.int .i64 X.f0, .int .i64 X.f1, .int .u64 X.f2, .string X.f3, .slice E2 X.f4.length e2, .slice F2 X.f5.length f2] 26))
            have HX := Lib.hid (blk_new wm (.cells #[.int .i64 X.f0, .int .i64 X.f1, .int .u64 X.f2, .string X.f3, .slice E2 X.f4.length e2, .slice F2 X.f5.length f2] 26))
            have HRW := Lib.hid (rows_from RK.out (same_alloc wm (.cells #[.int .i64 X.f0, .int .i64 X.f1, .int .u64 X.f2, .string X.f3, .slice E2 X.f4.length e2, .slice F2 X.f5.length f2] 26) _))
            go_simp
            refine hK.out _ _ (KEEP.out _ HF.out) (fun hHeld2 => ?_)
            clear hK K hHeld; have hHeld := hHeld2; clear hHeld2; (try simp only [Act.put, List.setIfInBounds_toArray, List.set_cons_zero, List.set_cons_succ])
            refine wpAnyH_take (i := 10) (oi := ⟨some 10, _, _, _, _, _⟩) (v := ?_) rfl (by as_aux_lemma => kernel_rfl) (by as_aux_lemma => kernel_rfl) (by as_aux_lemma => kernel_rfl) (fun _ _ _ h => h) ?_ (by assumption) ?_; rotate_left; (focus (refine Or.inl ⟨rfl, ?_⟩; intro w hSw; (try dsimp only at hSw); go_simp; (try with_reducible rfl); done)); (try simp only [Act.put, List.setIfInBounds_toArray, List.set_cons_zero, List.set_cons_succ])
            refine wpAnyH_done (by kernel_rfl) ?_ _
            go_wp2
            go_meet
            case rel =>
              exact ⟨_, _, _, _, _, rfl, rfl, ⟨below_step HB.out HF.out⟩, ⟨blk_below XV.out HF.out⟩, ⟨HX.out⟩, ⟨HRW.out⟩⟩
          · go_simp
            have hb := below_alloc (Below.refl wk.heap.size wk) zeros
            refine hK.out _ _ (KEEP.out _ (below_step HN.out hb)) (fun hHeld2 => ?_)
            have BXZ := Lib.hid (blk_new wk zeros)
            have HGX := Lib.hid (below_size HN.out)
            have HN' := Lib.hid (below_step HN.out hb); clear HN; have HN := HN'; clear HN'
            have GA' := Lib.hid (blk_below GA.out hb); clear GA; have GA := GA'; clear GA'
            clear hb; clear hK K hHeld; have hHeld := hHeld2; clear hHeld2; (try simp only [Act.put, List.setIfInBounds_toArray, List.set_cons_zero, List.set_cons_succ])
            generalize hgx : wk.alloc zeros = wx at *; clear hgx
            refine wpAnyH_ready (rs := [4]) (by kernel_rfl) (by simp) ?_
            refine AllReadyH.cons (o := ⟨some 77, _, _, _, _, _⟩) rfl (fun K hK => ?_) AllReadyH.nil
            go_simp
            go_at_call 42
            (with_reducible refine (GK.out _ _ (below_step HB.out HN.out) GA.out).mono ?_)
            rintro e wm ⟨v4, v5, rfl, hk4, hk5, hb⟩
            obtain ⟨E2, e2, rfl⟩ := Kd.R_slice hk4; obtain ⟨F2, f2, rfl⟩ := Kd.R_slice hk5; have RK := Lib.hid (And.intro hk4 hk5); clear hk4 hk5
            refine hK.out _ _ (KEEP.out _ (below_step HN.out hb)) (fun hHeld2 => ?_)
            have HGL := Lib.hid (blk_lt BXZ.out)
            have HN' := Lib.hid (below_step HN.out hb); clear HN; have HN := HN'; clear HN'; have BXZ' := Lib.hid (blk_below BXZ.out hb); clear BXZ; have BXZ := BXZ'; clear BXZ'
            clear hb GA; clear hK K hHeld; have hHeld := hHeld2; clear hHeld2; (try simp only [Act.put, List.setIfInBounds_toArray, List.set_cons_zero, List.set_cons_succ])
            refine wpAnyH_take (i := 5) (oi := ⟨some 72, _, _, _, _, _⟩) (v := ?_) rfl (by as_aux_lemma => kernel_rfl) (by as_aux_lemma => kernel_rfl) (by as_aux_lemma => kernel_rfl) (fun _ _ _ h => h) ?_ (by assumption) ?_; rotate_left; (focus (refine Or.inl ⟨rfl, ?_⟩; intro w hSw; (try dsimp only at hSw); go_simp; (try with_reducible rfl); done)); (try simp only [Act.put, List.setIfInBounds_toArray, List.set_cons_zero, List.set_cons_succ])
            refine wpAnyH_take (i := 6) (oi := ⟨some 78, _, _, _, _, _⟩) (v := ?_) rfl (by as_aux_lemma => kernel_rfl) (by as_aux_lemma => kernel_rfl) (by as_aux_lemma => kernel_rfl) (fun _ _ _ h => h) ?_ (by assumption) ?_; rotate_left; (focus (refine Or.inl ⟨rfl, ?_⟩; intro w hSw; (try dsimp only at hSw); go_simp; (try with_reducible rfl); done)); (try simp only [Act.put, List.setIfInBounds_toArray, List.set_cons_zero, List.set_cons_succ])
            refine wpAnyH_take (i := 7) (oi := ⟨some 79, _, _, _, _, _⟩) (v := ?_) rfl (by as_aux_lemma => kernel_rfl) (by as_aux_lemma => kernel_rfl) (by as_aux_lemma => kernel_rfl) (fun _ _ _ h => h) ?_ (by assumption) ?_; rotate_left; (focus (refine Or.inl ⟨rfl, ?_⟩; intro w hSw; (try dsimp only at hSw); go_simp; (try with_reducible rfl); done)); (try simp only [Act.put, List.setIfInBounds_toArray, List.set_cons_zero, List.set_cons_succ])
            refine wpAnyH_ready (rs := [9]) (by kernel_rfl) (by simp) ?_
            refine AllReadyH.cons (o := ⟨none, _, _, _, _, _⟩) rfl (fun K hK => ?_) AllReadyH.nil
            have nz0 := (blk_cell BXZ.out 0).trans rfl; have fz0 := blk_frozen BXZ.out 0; have nz1 := (blk_cell BXZ.out 1).trans rfl; have fz1 := blk_frozen BXZ.out 1; have nz2 := (blk_cell BXZ.out 2).trans rfl; have fz2 := blk_frozen BXZ.out 2; have nz3 := (blk_cell BXZ.out 3).trans rfl; have fz3 := blk_frozen BXZ.out 3; have nz4 := (blk_cell BXZ.out 4).trans rfl; have fz4 := blk_frozen BXZ.out 4; have nz5 := (blk_cell BXZ.out 5).trans rfl; have fz5 := blk_frozen BXZ.out 5
            go_simp
            have HF := Lib.hid (six_below HN.out HGX.out (.int .i64 X.f0) (.int .i64 X.f1) (.int .u64 X.f2) (.string X.f3) (.slice E2 X.f4.length e2) (.slice F2 X.f5.length f2))
            have HX := Lib.hid (six_put BXZ.out (.int .i64 X.f0) (.int .i64 X.f1) (.int .u64 X.f2) (.string X.f3) (.slice E2 X.f4.length e2) (.slice F2 X.f5.length f2))
            have HRW := Lib.hid (rows_from RK.out (same_six HGL.out (.int .i64 X.f0) (.int .i64 X.f1) (.int .u64 X.f2) (.string X.f3) (.slice E2 X.f4.length e2) (.slice F2 X.f5.length f2)))
            clear nz0 nz1 nz2 nz3 nz4 nz5 fz0 fz1 fz2 fz3 fz4 fz5
            refine hK.out _ _ (KEEP.out _ HF.out) (fun hHeld2 => ?_)
            clear hK K hHeld; have hHeld := hHeld2; clear hHeld2; (try simp only [Act.put, List.setIfInBounds_toArray, List.set_cons_zero, List.set_cons_succ])
            refine wpAnyH_take (i := 10) (oi := ⟨some 10, _, _, _, _, _⟩) (v := ?_) rfl (by as_aux_lemma => kernel_rfl) (by as_aux_lemma => kernel_rfl) (by as_aux_lemma => kernel_rfl) (fun _ _ _ h => h) ?_ (by assumption) ?_; rotate_left; (focus (refine Or.inl ⟨rfl, ?_⟩; intro w hSw; (try dsimp only at hSw); go_simp; (try with_reducible rfl); done)); (try simp only [Act.put, List.setIfInBounds_toArray, List.set_cons_zero, List.set_cons_succ])
            refine wpAnyH_done (by kernel_rfl) ?_ _
            go_wp2
            go_meet
            case rel =>
              exact ⟨_, _, _, _, _, rfl, rfl, ⟨below_step HB.out HF.out⟩, ⟨blk_below XV.out HF.out⟩, ⟨HX.out⟩, ⟨HRW.out⟩⟩
        · go_simp
          have hb := below_alloc (Below.refl wn.heap.size wn) zeros
          refine hK.out _ _ (KEEP.out _ (below_step HN.out hb)) (fun hHeld2 => ?_)
          have BXZ := Lib.hid (blk_new wn zeros)
          have HGX := Lib.hid (below_size HN.out)
          have HN' := Lib.hid (below_step HN.out hb); clear HN; have HN := HN'; clear HN'
          clear hb; clear hK K hHeld; have hHeld := hHeld2; clear hHeld2; (try simp only [Act.put, List.setIfInBounds_toArray, List.set_cons_zero, List.set_cons_succ])
          generalize hgx : wn.alloc zeros = wx at *; clear hgx
          refine wpAnyH_ready (rs := [3]) (by kernel_rfl) (by simp) ?_
          refine AllReadyH.cons (o := ⟨some 76, _, _, _, _, _⟩) rfl (fun K hK => ?_) AllReadyH.nil
          go_simp
          have hb := below_alloc (Below.refl wx.heap.size wx) (.cells #[.int .i64 v.f0, .int .i64 v.f1, .int .u64 v.f2, .string v.f3, .slice A4 v.f4.length c4, .slice A5 v.f5.length c5, .int .i64 4, .int .i64 0, .int .u64 0, .string key, .slice none 0 0, .slice none 0 0] 26)
          refine hK.out _ _ (KEEP.out _ (below_step HN.out hb)) (fun hHeld2 => ?_)
          have GA := Lib.hid (blk_new wx (.cells #[.int .i64 v.f0, .int .i64 v.f1, .int .u64 v.f2, .string v.f3, .slice A4 v.f4.length c4, .slice A5 v.f5.length c5, .int .i64 4, .int .i64 0, .int .u64 0, .string key, .slice none 0 0, .slice none 0 0] 26))
          have HN' := Lib.hid (below_step HN.out hb); clear HN; have HN := HN'; clear HN'; have BXZ' := Lib.hid (blk_below BXZ.out hb); clear BXZ; have BXZ := BXZ'; clear BXZ'
          clear hb; clear hK K hHeld; have hHeld := hHeld2; clear hHeld2; (try simp only [Act.put, List.setIfInBounds_toArray, List.set_cons_zero, List.set_cons_succ])
          generalize hgk : wx.alloc (.cells #[.int .i64 v.f0, .int .i64 v.f1, .int .u64 v.f2, .string v.f3, .slice A4 v.f4.length c4, .slice A5 v.f5.length c5, .int .i64 4, .int .i64 0, .int .u64 0, .string key, .slice none 0 0, .slice none 0 0] 26) = wk at *; clear hgk
          obtain ⟨gk_, hgk⟩ : ∃ gk_, wx.heap.size = gk_ := ⟨_, rfl⟩; rw [hgk] at GA; (try rw [hgk]); clear hgk
          refine wpAnyH_ready (rs := [4]) (by kernel_rfl) (by simp) ?_
          refine AllReadyH.cons (o := ⟨some 77, _, _, _, _, _⟩) rfl (fun K hK => ?_) AllReadyH.nil
          go_simp
          go_at_call 42
          (with_reducible refine (GK.out _ _ (below_step HB.out HN.out) GA.out).mono ?_)
          rintro e wm ⟨v4, v5, rfl, hk4, hk5, hb⟩
          obtain ⟨E2, e2, rfl⟩ := Kd.R_slice hk4; obtain ⟨F2, f2, rfl⟩ := Kd.R_slice hk5; have RK := Lib.hid (And.intro hk4 hk5); clear hk4 hk5
          refine hK.out _ _ (KEEP.out _ (below_step HN.out hb)) (fun hHeld2 => ?_)
          have HGL := Lib.hid (blk_lt BXZ.out)
          have HN' := Lib.hid (below_step HN.out hb); clear HN; have HN := HN'; clear HN'; have BXZ' := Lib.hid (blk_below BXZ.out hb); clear BXZ; have BXZ := BXZ'; clear BXZ'
          clear hb GA; clear hK K hHeld; have hHeld := hHeld2; clear hHeld2; (try simp only [Act.put, List.setIfInBounds_toArray, List.set_cons_zero, List.set_cons_succ])
          refine wpAnyH_take (i := 5) (oi := ⟨some 72, _, _, _, _, _⟩) (v := ?_) rfl (by as_aux_lemma => kernel_rfl) (by as_aux_lemma => kernel_rfl) (by as_aux_lemma => kernel_rfl) (fun _ _ _ h => h) ?_ (by assumption) ?_; rotate_left; (focus (refine Or.inl ⟨rfl, ?_⟩; intro w hSw; (try dsimp only at hSw); go_simp; (try with_reducible rfl); done)); (try simp only [Act.put, List.setIfInBounds_toArray, List.set_cons_zero, List.set_cons_succ])
          refine wpAnyH_take (i := 6) (oi := ⟨some 78, _, _, _, _, _⟩) (v := ?_) rfl (by as_aux_lemma => kernel_rfl) (by as_aux_lemma => kernel_rfl) (by as_aux_lemma => kernel_rfl) (fun _ _ _ h => h) ?_ (by assumption) ?_; rotate_left; (focus (refine Or.inl ⟨rfl, ?_⟩; intro w hSw; (try dsimp only at hSw); go_simp; (try with_reducible rfl); done)); (try simp only [Act.put, List.setIfInBounds_toArray, List.set_cons_zero, List.set_cons_succ])
          refine wpAnyH_take (i := 7) (oi := ⟨some 79, _, _, _, _, _⟩) (v := ?_) rfl (by as_aux_lemma => kernel_rfl) (by as_aux_lemma => kernel_rfl) (by as_aux_lemma => kernel_rfl) (fun _ _ _ h => h) ?_ (by assumption) ?_; rotate_left; (focus (refine Or.inl ⟨rfl, ?_⟩; intro w hSw; (try dsimp only at hSw); go_simp; (try with_reducible rfl); done)); (try simp only [Act.put, List.setIfInBounds_toArray, List.set_cons_zero, List.set_cons_succ])
          refine wpAnyH_ready (rs := [9]) (by kernel_rfl) (by simp) ?_
          refine AllReadyH.cons (o := ⟨none, _, _, _, _, _⟩) rfl (fun K hK => ?_) AllReadyH.nil
          have nz0 := (blk_cell BXZ.out 0).trans rfl; have fz0 := blk_frozen BXZ.out 0; have nz1 := (blk_cell BXZ.out 1).trans rfl; have fz1 := blk_frozen BXZ.out 1; have nz2 := (blk_cell BXZ.out 2).trans rfl; have fz2 := blk_frozen BXZ.out 2; have nz3 := (blk_cell BXZ.out 3).trans rfl; have fz3 := blk_frozen BXZ.out 3; have nz4 := (blk_cell BXZ.out 4).trans rfl; have fz4 := blk_frozen BXZ.out 4; have nz5 := (blk_cell BXZ.out 5).trans rfl; have fz5 := blk_frozen BXZ.out 5
          go_simp
          have HF := Lib.hid (six_below HN.out HGX.out (.int .i64 X.f0) (.int .i64 X.f1) (.int .u64 X.f2) (.string X.f3) (.slice E2 X.f4.length e2) (.slice F2 X.f5.length f2))
          have HX := Lib.hid (six_put BXZ.out (.int .i64 X.f0) (.int .i64 X.f1) (.int .u64 X.f2) (.string X.f3) (.slice E2 X.f4.length e2) (.slice F2 X.f5.length f2))
          have HRW := Lib.hid (rows_from RK.out (same_six HGL.out (.int .i64 X.f0) (.int .i64 X.f1) (.int .u64 X.f2) (.string X.f3) (.slice E2 X.f4.length e2) (.slice F2 X.f5.length f2)))
          clear nz0 nz1 nz2 nz3 nz4 nz5 fz0 fz1 fz2 fz3 fz4 fz5
          refine hK.out _ _ (KEEP.out _ HF.out) (fun hHeld2 => ?_)
          clear hK K hHeld; have hHeld := hHeld2; clear hHeld2; (try simp only [Act.put, List.setIfInBounds_toArray, List.set_cons_zero, List.set_cons_succ])
          refine wpAnyH_take (i := 10) (oi := ⟨some 10, _, _, _, _, _⟩) (v := ?_) rfl (by as_aux_lemma => kernel_rfl) (by as_aux_lemma => kernel_rfl) (by as_aux_lemma => kernel_rfl) (fun _ _ _ h => h) ?_ (by assumption) ?_; rotate_left; (focus (refine Or.inl ⟨rfl, ?_⟩; intro w hSw; (try dsimp only at hSw); go_simp; (try with_reducible rfl); done)); (try simp only [Act.put, List.setIfInBounds_toArray, List.set_cons_zero, List.set_cons_succ])
          refine wpAnyH_done (by kernel_rfl) ?_ _
          go_wp2
          go_meet
          case rel =>
            exact ⟨_, _, _, _, _, rfl, rfl, ⟨below_step HB.out HF.out⟩, ⟨blk_below XV.out HF.out⟩, ⟨HX.out⟩, ⟨HRW.out⟩⟩
      · go_simp
        have hb := below_alloc (Below.refl wd.heap.size wd) zeros
        refine hK.out _ _ (KEEP.out _ (below_step HN.out hb)) (fun hHeld2 => ?_)
        have BXZ := Lib.hid (blk_new wd zeros)
        have HGX := Lib.hid (below_size HN.out)
        have HN' := Lib.hid (below_step HN.out hb); clear HN; have HN := HN'; clear HN'
        clear hb; clear hK K hHeld; have hHeld := hHeld2; clear hHeld2; (try simp only [Act.put, List.setIfInBounds_toArray, List.set_cons_zero, List.set_cons_succ])
        generalize hgx : wd.alloc zeros = wx at *; clear hgx
        refine wpAnyH_ready (rs := [2]) (by kernel_rfl) (by simp) ?_
        refine AllReadyH.cons (o := ⟨some 75, _, _, _, _, _⟩) rfl (fun K hK => ?_) AllReadyH.nil
        go_simp
        go_at_call 45
        (with_reducible refine (CT.out _ _).mono ?_)
        rintro e wn ⟨rfl, hb⟩
        refine hK.out _ _ (KEEP.out _ (below_step HN.out hb)) (fun hHeld2 => ?_)
        have HN' := Lib.hid (below_step HN.out hb); clear HN; have HN := HN'; clear HN'; have BXZ' := Lib.hid (blk_below BXZ.out hb); clear BXZ; have BXZ := BXZ'; clear BXZ'
        clear hb; clear hK K hHeld; have hHeld := hHeld2; clear hHeld2; (try simp only [Act.put, List.setIfInBounds_toArray, List.set_cons_zero, List.set_cons_succ])
        refine wpAnyH_ready (rs := [3]) (by kernel_rfl) (by simp) ?_
        refine AllReadyH.cons (o := ⟨some 76, _, _, _, _, _⟩) rfl (fun K hK => ?_) AllReadyH.nil
        go_simp
        have hb := below_alloc (Below.refl wn.heap.size wn) (.cells #[.int .i64 v.f0, .int .i64 v.f1, .int .u64 v.f2, .string v.f3, .slice A4 v.f4.length c4, .slice A5 v.f5.length c5, .int .i64 4, .int .i64 0, .int .u64 0, .string key, .slice none 0 0, .slice none 0 0] 26)
        refine hK.out _ _ (KEEP.out _ (below_step HN.out hb)) (fun hHeld2 => ?_)
        have GA := Lib.hid (blk_new wn (.cells #[.int .i64 v.f0, .int .i64 v.f1, .int .u64 v.f2, .string v.f3, .slice A4 v.f4.length c4, .slice A5 v.f5.length c5, .int .i64 4, .int .i64 0, .int .u64 0, .string key, .slice none 0 0, .slice none 0 0] 26))
        have HN' := Lib.hid (below_step HN.out hb); clear HN; have HN := HN'; clear HN'; have BXZ' := Lib.hid (blk_below BXZ.out hb); clear BXZ; have BXZ := BXZ'; clear BXZ'
        clear hb; clear hK K hHeld; have hHeld := hHeld2; clear hHeld2; (try simp only [Act.put, List.setIfInBounds_toArray, List.set_cons_zero, List.set_cons_succ])
        generalize hgk : wn.alloc (.cells #[.int .i64 v.f0, .int .i64 v.f1, .int .u64 v.f2, .string v.f3, .slice A4 v.f4.length c4, .slice A5 v.f5.length c5, .int .i64 4, .int .i64 0, .int .u64 0, .string key, .slice none 0 0, .slice none 0 0] 26) = wk at *; clear hgk
        obtain ⟨gk_, hgk⟩ : ∃ gk_, wn.heap.size = gk_ := ⟨_, rfl⟩; rw [hgk] at GA; (try rw [hgk]); clear hgk
        refine wpAnyH_ready (rs := [4]) (by kernel_rfl) (by simp) ?_
        refine AllReadyH.cons (o := ⟨some 77, _, _, _, _, _⟩) rfl (fun K hK => ?_) AllReadyH.nil
        go_simp
        go_at_call 42
        (with_reducible refine (GK.out _ _ (below_step HB.out HN.out) GA.out).mono ?_)
        rintro e wm ⟨v4, v5, rfl, hk4, hk5, hb⟩
        obtain ⟨E2, e2, rfl⟩ := Kd.R_slice hk4; obtain ⟨F2, f2, rfl⟩ := Kd.R_slice hk5; have RK := Lib.hid (And.intro hk4 hk5); clear hk4 hk5
        refine hK.out _ _ (KEEP.out _ (below_step HN.out hb)) (fun hHeld2 => ?_)
        have HGL := Lib.hid (blk_lt BXZ.out)
        have HN' := Lib.hid (below_step HN.out hb); clear HN; have HN := HN'; clear HN'; have BXZ' := Lib.hid (blk_below BXZ.out hb); clear BXZ; have BXZ := BXZ'; clear BXZ'
        clear hb GA; clear hK K hHeld; have hHeld := hHeld2; clear hHeld2; (try simp only [Act.put, List.setIfInBounds_toArray, List.set_cons_zero, List.set_cons_succ])
        refine wpAnyH_take (i := 5) (oi := ⟨some 72, _, _, _, _, _⟩) (v := ?_) rfl (by as_aux_lemma => kernel_rfl) (by as_aux_lemma => kernel_rfl) (by as_aux_lemma => kernel_rfl) (fun _ _ _ h => h) ?_ (by assumption) ?_; rotate_left; (focus (refine Or.inl ⟨rfl, ?_⟩; intro w hSw; (try dsimp only at hSw); go_simp; (try with_reducible rfl); done)); (try simp only [Act.put, List.setIfInBounds_toArray, List.set_cons_zero, List.set_cons_succ])
        refine wpAnyH_take (i := 6) (oi := ⟨some 78, _, _, _, _, _⟩) (v := ?_) rfl (by as_aux_lemma => kernel_rfl) (by as_aux_lemma => kernel_rfl) (by as_aux_lemma => kernel_rfl) (fun _ _ _ h => h) ?_ (by assumption) ?_; rotate_left; (focus (refine Or.inl ⟨rfl, ?_⟩; intro w hSw; (try dsimp only at hSw); go_simp; (try with_reducible rfl); done)); (try simp only [Act.put, List.setIfInBounds_toArray, List.set_cons_zero, List.set_cons_succ])
        refine wpAnyH_take (i := 7) (oi := ⟨some 79, _, _, _, _, _⟩) (v := ?_) rfl (by as_aux_lemma => kernel_rfl) (by as_aux_lemma => kernel_rfl) (by as_aux_lemma => kernel_rfl) (fun _ _ _ h => h) ?_ (by assumption) ?_; rotate_left; (focus (refine Or.inl ⟨rfl, ?_⟩; intro w hSw; (try dsimp only at hSw); go_simp; (try with_reducible rfl); done)); (try simp only [Act.put, List.setIfInBounds_toArray, List.set_cons_zero, List.set_cons_succ])
        refine wpAnyH_ready (rs := [9]) (by kernel_rfl) (by simp) ?_
        refine AllReadyH.cons (o := ⟨none, _, _, _, _, _⟩) rfl (fun K hK => ?_) AllReadyH.nil
        have nz0 := (blk_cell BXZ.out 0).trans rfl; have fz0 := blk_frozen BXZ.out 0; have nz1 := (blk_cell BXZ.out 1).trans rfl; have fz1 := blk_frozen BXZ.out 1; have nz2 := (blk_cell BXZ.out 2).trans rfl; have fz2 := blk_frozen BXZ.out 2; have nz3 := (blk_cell BXZ.out 3).trans rfl; have fz3 := blk_frozen BXZ.out 3; have nz4 := (blk_cell BXZ.out 4).trans rfl; have fz4 := blk_frozen BXZ.out 4; have nz5 := (blk_cell BXZ.out 5).trans rfl; have fz5 := blk_frozen BXZ.out 5
        go_simp
        have HF := Lib.hid (six_below HN.out HGX.out (.int .i64 X.f0) (.int .i64 X.f1) (.int .u64 X.f2) (.string X.f3) (.slice E2 X.f4.length e2) (.slice F2 X.f5.length f2))
        have HX := Lib.hid (six_put BXZ.out (.int .i64 X.f0) (.int .i64 X.f1) (.int .u64 X.f2) (.string X.f3) (.slice E2 X.f4.length e2) (.slice F2 X.f5.length f2))
        have HRW := Lib.hid (rows_from RK.out (same_six HGL.out (.int .i64 X.f0) (.int .i64 X.f1) (.int .u64 X.f2) (.string X.f3) (.slice E2 X.f4.length e2) (.slice F2 X.f5.length f2)))
        clear nz0 nz1 nz2 nz3 nz4 nz5 fz0 fz1 fz2 fz3 fz4 fz5
        refine hK.out _ _ (KEEP.out _ HF.out) (fun hHeld2 => ?_)
        clear hK K hHeld; have hHeld := hHeld2; clear hHeld2; (try simp only [Act.put, List.setIfInBounds_toArray, List.set_cons_zero, List.set_cons_succ])
        refine wpAnyH_take (i := 10) (oi := ⟨some 10, _, _, _, _, _⟩) (v := ?_) rfl (by as_aux_lemma => kernel_rfl) (by as_aux_lemma => kernel_rfl) (by as_aux_lemma => kernel_rfl) (fun _ _ _ h => h) ?_ (by assumption) ?_; rotate_left; (focus (refine Or.inl ⟨rfl, ?_⟩; intro w hSw; (try dsimp only at hSw); go_simp; (try with_reducible rfl); done)); (try simp only [Act.put, List.setIfInBounds_toArray, List.set_cons_zero, List.set_cons_succ])
        refine wpAnyH_done (by kernel_rfl) ?_ _
        go_wp2
        go_meet
        case rel =>
          exact ⟨_, _, _, _, _, rfl, rfl, ⟨below_step HB.out HF.out⟩, ⟨blk_below XV.out HF.out⟩, ⟨HX.out⟩, ⟨HRW.out⟩⟩
    case rest =>
    (try clear l0 l1 l2 l3 l4 l5)
    clear HB XV
    obtain ⟨gx, E2, e2, F2, f2, rfl, rfl, HB0, XV0, BX0, RX0⟩ := hcut
    have HB := Lib.hid HB0.out; clear HB0; have XV := Lib.hid XV0.out; clear XV0; have BX := Lib.hid BX0.out; clear BX0; have RX := Lib.hid RX0.out; clear RX0
    clear BX RX
    go_upto_region 14 with (fail)
    go_cut [11, 12] (fun v11 v12 wc => ∃ (gy : Nat) (E3 : Option Addr) (e3 : Nat) (F3 : Option Addr) (f3 : Nat), v11 = .pointer (some ⟨gy, 0, none⟩) ∧ v12 = .int .i64 1802 ∧ Aside0 (Below w.heap.size w wc) ∧ Aside0 (wc.heap[gv]? = some (.cells #[.int .i64 v.f0, .int .i64 v.f1, .int .u64 v.f2, .string v.f3, .slice A4 v.f4.length c4, .slice A5 v.f5.length c5] 26 (0, 0))) ∧ Aside0 (wc.heap[gy]? = some (.cells #[.int .i64 z26.f0, .int .i64 z26.f1, .int .u64 z26.f2, .string z26.f3, .slice E3 z26.f4.length e3, .slice F3 z26.f5.length f3] 26 (0, 0))) ∧ Aside0 (Rows4 wc z26 E3 e3 F3 f3))
    case first =>
      have XVD := Lib.hid (blk_below XV.out (below_drew (Below.refl wc.heap.size wc)))
      have hbn := below_drew (Below.refl wc.heap.size wc)
      have HB' := Lib.hid (below_step HB.out hbn); have XV' := Lib.hid (blk_below XV.out hbn); clear HB; have HB := HB'; clear HB'; clear XV; have XV := XV'; clear XV'
      clear hbn
      (try clear l0 l1 l2 l3 l4 l5 v0 v1 v2 v3 v4 v5)
      generalize hWD : wc.drew = wd at *
      have KEEP := Lib.hid (show ∀ w', Below wd.heap.size wd w' → (fun w' => Below wd.heap.size wd w' ∧ w'.cell? ⟨gv, 0, none⟩ = some (.int .i64 v.f0) ∧ w'.cell? ⟨gv, 1, none⟩ = some (.int .i64 v.f1) ∧ w'.cell? ⟨gv, 2, none⟩ = some (.int .u64 v.f2) ∧ w'.cell? ⟨gv, 3, none⟩ = some (.string v.f3) ∧ w'.cell? ⟨gv, 4, none⟩ = some (.slice A4 v.f4.length c4) ∧ w'.cell? ⟨gv, 5, none⟩ = some (.slice A5 v.f5.length c5)) w' from fun w' h => ⟨h, (blk_cell (blk_below XVD.out h) 0).trans rfl, (blk_cell (blk_below XVD.out h) 1).trans rfl, (blk_cell (blk_below XVD.out h) 2).trans rfl, (blk_cell (blk_below XVD.out h) 3).trans rfl, (blk_cell (blk_below XVD.out h) 4).trans rfl, (blk_cell (blk_below XVD.out h) 5).trans rfl⟩)
      refine wp_region_held_drew (S := (fun w' => Below wd.heap.size wd w' ∧ w'.cell? ⟨gv, 0, none⟩ = some (.int .i64 v.f0) ∧ w'.cell? ⟨gv, 1, none⟩ = some (.int .i64 v.f1) ∧ w'.cell? ⟨gv, 2, none⟩ = some (.int .u64 v.f2) ∧ w'.cell? ⟨gv, 3, none⟩ = some (.string v.f3) ∧ w'.cell? ⟨gv, 4, none⟩ = some (.slice A4 v.f4.length c4) ∧ w'.cell? ⟨gv, 5, none⟩ = some (.slice A5 v.f5.length c5))) (by kernel_rfl) ?_ (fun hHeld => ?_)
      · rw [hWD]; exact KEEP.out _ (Below.refl _ _)
      rw [hWD] at hHeld ⊢
      clear hWD XVD
      have HN := Lib.hid (Below.refl wd.heap.size wd)
      refine wpAnyH_take (i := 0) (oi := ⟨some 81, _, _, _, _, _⟩) (v := ?_) rfl (by as_aux_lemma => kernel_rfl) (by as_aux_lemma => kernel_rfl) (by as_aux_lemma => kernel_rfl) (fun _ _ _ h => h) ?_ (by assumption) ?_; rotate_left; (focus (refine Or.inl ⟨rfl, ?_⟩; intro w hSw; (try dsimp only at hSw); go_simp; (try with_reducible rfl); done)); (try simp only [Act.put, List.setIfInBounds_toArray, List.set_cons_zero, List.set_cons_succ])
      refine wpAnyH_ready (rs := [1, 7]) (by kernel_rfl) (by simp) ?_
      refine AllReadyH.cons (o := ⟨some 82, _, _, _, _, _⟩) rfl (fun K hK => ?_) (AllReadyH.cons (o := ⟨some 11, _, _, _, _, _⟩) rfl (fun K hK => ?_) AllReadyH.nil)
      · go_simp
        go_at_call 44
        (with_reducible refine (CN.out _ _).mono ?_)
        rintro e wn ⟨rfl, hb⟩
        refine hK.out _ _ (KEEP.out _ (below_step HN.out hb)) (fun hHeld2 => ?_)
        have HN' := Lib.hid (below_step HN.out hb); clear HN; have HN := HN'; clear HN'
        clear hb; clear hK K hHeld; have hHeld := hHeld2; clear hHeld2; (try simp only [Act.put, List.setIfInBounds_toArray, List.set_cons_zero, List.set_cons_succ])
        refine wpAnyH_ready (rs := [2, 7]) (by kernel_rfl) (by simp) ?_
        refine AllReadyH.cons (o := ⟨some 83, _, _, _, _, _⟩) rfl (fun K hK => ?_) (AllReadyH.cons (o := ⟨some 11, _, _, _, _, _⟩) rfl (fun K hK => ?_) AllReadyH.nil)
        · go_simp
          have hb := below_alloc (Below.refl wn.heap.size wn) (.cells #[.int .i64 v.f0, .int .i64 v.f1, .int .u64 v.f2, .string v.f3, .slice A4 v.f4.length c4, .slice A5 v.f5.length c5, .int .i64 2, .int .i64 0, .int .u64 0, .string ⟨#[]⟩, .slice none 0 0, .slice none 0 0] 26)
          refine hK.out _ _ (KEEP.out _ (below_step HN.out hb)) (fun hHeld2 => ?_)
          have GA := Lib.hid (blk_new wn (.cells #[.int .i64 v.f0, .int .i64 v.f1, .int .u64 v.f2, .string v.f3, .slice A4 v.f4.length c4, .slice A5 v.f5.length c5, .int .i64 2, .int .i64 0, .int .u64 0, .string ⟨#[]⟩, .slice none 0 0, .slice none 0 0] 26))
          have HN' := Lib.hid (below_step HN.out hb); clear HN; have HN := HN'; clear HN'
          clear hb; clear hK K hHeld; have hHeld := hHeld2; clear hHeld2; (try simp only [Act.put, List.setIfInBounds_toArray, List.set_cons_zero, List.set_cons_succ])
          generalize hgk : wn.alloc (.cells #[.int .i64 v.f0, .int .i64 v.f1, .int .u64 v.f2, .string v.f3, .slice A4 v.f4.length c4, .slice A5 v.f5.length c5, .int .i64 2, .int .i64 0, .int .u64 0, .string ⟨#[]⟩, .slice none 0 0, .slice none 0 0] 26) = wk at *; clear hgk
          obtain ⟨gk_, hgk⟩ : ∃ gk_, wn.heap.size = gk_ := ⟨_, rfl⟩; rw [hgk] at GA; (try rw [hgk]); clear hgk
          refine wpAnyH_ready (rs := [3, 7]) (by kernel_rfl) (by simp) ?_
          refine AllReadyH.cons (o := ⟨some 84, _, _, _, _, _⟩) rfl (fun K hK => ?_) (AllReadyH.cons (o := ⟨some 11, _, _, _, _, _⟩) rfl (fun K hK => ?_) AllReadyH.nil)
          · go_simp
            go_at_call 42
            (with_reducible refine (GZ.out _ _ (below_step HB.out HN.out) GA.out).mono ?_)
            rintro e wm ⟨v4, v5, rfl, hk4, hk5, hb⟩
            obtain ⟨E3, e3, rfl⟩ := Kd.R_slice hk4; obtain ⟨F3, f3, rfl⟩ := Kd.R_slice hk5; have RK := Lib.hid (And.intro hk4 hk5); clear hk4 hk5
            refine hK.out _ _ (KEEP.out _ (below_step HN.out hb)) (fun hHeld2 => ?_)
            have HN' := Lib.hid (below_step HN.out hb); clear HN; have HN := HN'; clear HN'
            clear hb GA; clear hK K hHeld; have hHeld := hHeld2; clear hHeld2; (try simp only [Act.put, List.setIfInBounds_toArray, List.set_cons_zero, List.set_cons_succ])
            refine wpAnyH_take (i := 4) (oi := ⟨some 80, _, _, _, _, _⟩) (v := ?_) rfl (by as_aux_lemma => kernel_rfl) (by as_aux_lemma => kernel_rfl) (by as_aux_lemma => kernel_rfl) (fun _ _ _ h => h) ?_ (by assumption) ?_; rotate_left; (focus (refine Or.inl ⟨rfl, ?_⟩; intro w hSw; (try dsimp only at hSw); go_simp; (try with_reducible rfl); done)); (try simp only [Act.put, List.setIfInBounds_toArray, List.set_cons_zero, List.set_cons_succ])
            refine wpAnyH_take (i := 5) (oi := ⟨some 85, _, _, _, _, _⟩) (v := ?_) rfl (by as_aux_lemma => kernel_rfl) (by as_aux_lemma => kernel_rfl) (by as_aux_lemma => kernel_rfl) (fun _ _ _ h => h) ?_ (by assumption) ?_; rotate_left; (focus (refine Or.inl ⟨rfl, ?_⟩; intro w hSw; (try dsimp only at hSw); go_simp; (try with_reducible rfl); done)); (try simp only [Act.put, List.setIfInBounds_toArray, List.set_cons_zero, List.set_cons_succ])
            refine wpAnyH_take (i := 6) (oi := ⟨some 86, _, _, _, _, _⟩) (v := ?_) rfl (by as_aux_lemma => kernel_rfl) (by as_aux_lemma => kernel_rfl) (by as_aux_lemma => kernel_rfl) (fun _ _ _ h => h) ?_ (by assumption) ?_; rotate_left; (focus (refine Or.inl ⟨rfl, ?_⟩; intro w hSw; (try dsimp only at hSw); go_simp; (try with_reducible rfl); done)); (try simp only [Act.put, List.setIfInBounds_toArray, List.set_cons_zero, List.set_cons_succ])
            refine wpAnyH_ready (rs := [7]) (by kernel_rfl) (by simp) ?_
            refine AllReadyH.cons (o := ⟨some 11, _, _, _, _, _⟩) rfl (fun K hK => ?_) AllReadyH.nil
            go_simp
            have hb := below_alloc (Below.refl wm.heap.size wm) zeros
            refine hK.out _ _ (KEEP.out _ (below_step HN.out hb)) (fun hHeld2 => ?_)
            have BXZ := Lib.hid (blk_new wm zeros)
            have HNA := Lib.hid (below_step HN.out hb)
            clear hb; clear hK K hHeld; have hHeld := hHeld2; clear hHeld2; (try simp only [Act.put, List.setIfInBounds_toArray, List.set_cons_zero, List.set_cons_succ])
            refine wpAnyH_ready (rs := [8]) (by kernel_rfl) (by simp) ?_
            refine AllReadyH.cons (o := ⟨none, _, _, _, _, _⟩) rfl (fun K hK => ?_) AllReadyH.nil
            have HF := Lib.hid (below_alloc HN.out (.cells #[.int .i64 z26.f0, .int .i64 z26.f1, .int .u64 z26.f2, .string z26.f3, .slice E3 z26.f4.length e3, .slice F3 z26.f5.length f3] 26))
            have HX := Lib.hid (blk_new wm (.cells #[.int .i64 z26.f0, .int .i64 z26.f1, .int .u64 z26.f2, .string z26.f3, .slice E3 z26.f4.length e3, .slice F3 z26.f5.length f3] 26))
            have HRW := Lib.hid (rows_from RK.out (same_alloc wm (.cells #[.int .i64 z26.f0, .int .i64 z26.f1, .int .u64 z26.f2, .string z26.f3, .slice E3 z26.f4.length e3, .slice F3 z26.f5.length f3] 26) _))
            go_simp
            refine hK.out _ _ (KEEP.out _ HF.out) (fun hHeld2 => ?_)
            clear hK K hHeld; have hHeld := hHeld2; clear hHeld2; (try simp only [Act.put, List.setIfInBounds_toArray, List.set_cons_zero, List.set_cons_succ])
            refine wpAnyH_take (i := 9) (oi := ⟨some 12, _, _, _, _, _⟩) (v := ?_) rfl (by as_aux_lemma => kernel_rfl) (by as_aux_lemma => kernel_rfl) (by as_aux_lemma => kernel_rfl) (fun _ _ _ h => h) ?_ (by assumption) ?_; rotate_left; (focus (refine Or.inl ⟨rfl, ?_⟩; intro w hSw; (try dsimp only at hSw); go_simp; (try with_reducible rfl); done)); (try simp only [Act.put, List.setIfInBounds_toArray, List.set_cons_zero, List.set_cons_succ])
            refine wpAnyH_done (by kernel_rfl) ?_ _
            go_wp2
            go_meet
            case rel =>
              exact ⟨_, _, _, _, _, rfl, rfl, ⟨below_step HB.out HF.out⟩, ⟨blk_below XV.out HF.out⟩, ⟨HX.out⟩, ⟨HRW.out⟩⟩
          · go_simp
            have hb := below_alloc (Below.refl wk.heap.size wk) zeros
            refine hK.out _ _ (KEEP.out _ (below_step HN.out hb)) (fun hHeld2 => ?_)
            have BXZ := Lib.hid (blk_new wk zeros)
            have HGX := Lib.hid (below_size HN.out)
            have HN' := Lib.hid (below_step HN.out hb); clear HN; have HN := HN'; clear HN'
            have GA' := Lib.hid (blk_below GA.out hb); clear GA; have GA := GA'; clear GA'
            clear hb; clear hK K hHeld; have hHeld := hHeld2; clear hHeld2; (try simp only [Act.put, List.setIfInBounds_toArray, List.set_cons_zero, List.set_cons_succ])
            generalize hgx : wk.alloc zeros = wx at *; clear hgx
            refine wpAnyH_ready (rs := [3]) (by kernel_rfl) (by simp) ?_
            refine AllReadyH.cons (o := ⟨some 84, _, _, _, _, _⟩) rfl (fun K hK => ?_) AllReadyH.nil
            go_simp
            go_at_call 42
            (with_reducible refine (GZ.out _ _ (below_step HB.out HN.out) GA.out).mono ?_)
            rintro e wm ⟨v4, v5, rfl, hk4, hk5, hb⟩
            obtain ⟨E3, e3, rfl⟩ := Kd.R_slice hk4; obtain ⟨F3, f3, rfl⟩ := Kd.R_slice hk5; have RK := Lib.hid (And.intro hk4 hk5); clear hk4 hk5
            refine hK.out _ _ (KEEP.out _ (below_step HN.out hb)) (fun hHeld2 => ?_)
            have HGL := Lib.hid (blk_lt BXZ.out)
            have HN' := Lib.hid (below_step HN.out hb); clear HN; have HN := HN'; clear HN'; have BXZ' := Lib.hid (blk_below BXZ.out hb); clear BXZ; have BXZ := BXZ'; clear BXZ'
            clear hb GA; clear hK K hHeld; have hHeld := hHeld2; clear hHeld2; (try simp only [Act.put, List.setIfInBounds_toArray, List.set_cons_zero, List.set_cons_succ])
            refine wpAnyH_take (i := 4) (oi := ⟨some 80, _, _, _, _, _⟩) (v := ?_) rfl (by as_aux_lemma => kernel_rfl) (by as_aux_lemma => kernel_rfl) (by as_aux_lemma => kernel_rfl) (fun _ _ _ h => h) ?_ (by assumption) ?_; rotate_left; (focus (refine Or.inl ⟨rfl, ?_⟩; intro w hSw; (try dsimp only at hSw); go_simp; (try with_reducible rfl); done)); (try simp only [Act.put, List.setIfInBounds_toArray, List.set_cons_zero, List.set_cons_succ])
            refine wpAnyH_take (i := 5) (oi := ⟨some 85, _, _, _, _, _⟩) (v := ?_) rfl (by as_aux_lemma => kernel_rfl) (by as_aux_lemma => kernel_rfl) (by as_aux_lemma => kernel_rfl) (fun _ _ _ h => h) ?_ (by assumption) ?_; rotate_left; (focus (refine Or.inl ⟨rfl, ?_⟩; intro w hSw; (try dsimp only at hSw); go_simp; (try with_reducible rfl); done)); (try simp only [Act.put, List.setIfInBounds_toArray, List.set_cons_zero, List.set_cons_succ])
            refine wpAnyH_take (i := 6) (oi := ⟨some 86, _, _, _, _, _⟩) (v := ?_) rfl (by as_aux_lemma => kernel_rfl) (by as_aux_lemma => kernel_rfl) (by as_aux_lemma => kernel_rfl) (fun _ _ _ h => h) ?_ (by assumption) ?_; rotate_left; (focus (refine Or.inl ⟨rfl, ?_⟩; intro w hSw; (try dsimp only at hSw); go_simp; (try with_reducible rfl); done)); (try simp only [Act.put, List.setIfInBounds_toArray, List.set_cons_zero, List.set_cons_succ])
            refine wpAnyH_ready (rs := [8]) (by kernel_rfl) (by simp) ?_
            refine AllReadyH.cons (o := ⟨none, _, _, _, _, _⟩) rfl (fun K hK => ?_) AllReadyH.nil
            have nz0 := (blk_cell BXZ.out 0).trans rfl; have fz0 := blk_frozen BXZ.out 0; have nz1 := (blk_cell BXZ.out 1).trans rfl; have fz1 := blk_frozen BXZ.out 1; have nz2 := (blk_cell BXZ.out 2).trans rfl; have fz2 := blk_frozen BXZ.out 2; have nz3 := (blk_cell BXZ.out 3).trans rfl; have fz3 := blk_frozen BXZ.out 3; have nz4 := (blk_cell BXZ.out 4).trans rfl; have fz4 := blk_frozen BXZ.out 4; have nz5 := (blk_cell BXZ.out 5).trans rfl; have fz5 := blk_frozen BXZ.out 5
            go_simp
            have HF := Lib.hid (six_below HN.out HGX.out (.int .i64 z26.f0) (.int .i64 z26.f1) (.int .u64 z26.f2) (.string z26.f3) (.slice E3 z26.f4.length e3) (.slice F3 z26.f5.length f3))
            have HX := Lib.hid (six_put BXZ.out (.int .i64 z26.f0) (.int .i64 z26.f1) (.int .u64 z26.f2) (.string z26.f3) (.slice E3 z26.f4.length e3) (.slice F3 z26.f5.length f3))
            have HRW := Lib.hid (rows_from RK.out (same_six HGL.out (.int .i64 z26.f0) (.int .i64 z26.f1) (.int .u64 z26.f2) (.string z26.f3) (.slice E3 z26.f4.length e3) (.slice F3 z26.f5.length f3)))
            clear nz0 nz1 nz2 nz3 nz4 nz5 fz0 fz1 fz2 fz3 fz4 fz5
            refine hK.out _ _ (KEEP.out _ HF.out) (fun hHeld2 => ?_)
            clear hK K hHeld; have hHeld := hHeld2; clear hHeld2; (try simp only [Act.put, List.setIfInBounds_toArray, List.set_cons_zero, List.set_cons_succ])
            refine wpAnyH_take (i := 9) (oi := ⟨some 12, _, _, _, _, _⟩) (v := ?_) rfl (by as_aux_lemma => kernel_rfl) (by as_aux_lemma => kernel_rfl) (by as_aux_lemma => kernel_rfl) (fun _ _ _ h => h) ?_ (by assumption) ?_; rotate_left; (focus (refine Or.inl ⟨rfl, ?_⟩; intro w hSw; (try dsimp only at hSw); go_simp; (try with_reducible rfl); done)); (try simp only [Act.put, List.setIfInBounds_toArray, List.set_cons_zero, List.set_cons_succ])
            refine wpAnyH_done (by kernel_rfl) ?_ _
            go_wp2
            go_meet
            case rel =>
              exact ⟨_, _, _, _, _, rfl, rfl, ⟨below_step HB.out HF.out⟩, ⟨blk_below XV.out HF.out⟩, ⟨HX.out⟩, ⟨HRW.out⟩⟩
        · go_simp
          have hb := below_alloc (Below.refl wn.heap.size wn) zeros
          refine hK.out _ _ (KEEP.out _ (below_step HN.out hb)) (fun hHeld2 => ?_)
          have BXZ := Lib.hid (blk_new wn zeros)
          have HGX := Lib.hid (below_size HN.out)
          have HN' := Lib.hid (below_step HN.out hb); clear HN; have HN := HN'; clear HN'
          clear hb; clear hK K hHeld; have hHeld := hHeld2; clear hHeld2; (try simp only [Act.put, List.setIfInBounds_toArray, List.set_cons_zero, List.set_cons_succ])
          generalize hgx : wn.alloc zeros = wx at *; clear hgx
          refine wpAnyH_ready (rs := [2]) (by kernel_rfl) (by simp) ?_
          refine AllReadyH.cons (o := ⟨some 83, _, _, _, _, _⟩) rfl (fun K hK => ?_) AllReadyH.nil
          go_simp
          have hb := below_alloc (Below.refl wx.heap.size wx) (.cells #[.int .i64 v.f0, .int .i64 v.f1, .int .u64 v.f2, .string v.f3, .slice A4 v.f4.length c4, .slice A5 v.f5.length c5, .int .i64 2, .int .i64 0, .int .u64 0, .string ⟨#[]⟩, .slice none 0 0, .slice none 0 0] 26)
          refine hK.out _ _ (KEEP.out _ (below_step HN.out hb)) (fun hHeld2 => ?_)
          have GA := Lib.hid (blk_new wx (.cells #[.int .i64 v.f0, .int .i64 v.f1, .int .u64 v.f2, .string v.f3, .slice A4 v.f4.length c4, .slice A5 v.f5.length c5, .int .i64 2, .int .i64 0, .int .u64 0, .string ⟨#[]⟩, .slice none 0 0, .slice none 0 0] 26))
          have HN' := Lib.hid (below_step HN.out hb); clear HN; have HN := HN'; clear HN'; have BXZ' := Lib.hid (blk_below BXZ.out hb); clear BXZ; have BXZ := BXZ'; clear BXZ'
          clear hb; clear hK K hHeld; have hHeld := hHeld2; clear hHeld2; (try simp only [Act.put, List.setIfInBounds_toArray, List.set_cons_zero, List.set_cons_succ])
          generalize hgk : wx.alloc (.cells #[.int .i64 v.f0, .int .i64 v.f1, .int .u64 v.f2, .string v.f3, .slice A4 v.f4.length c4, .slice A5 v.f5.length c5, .int .i64 2, .int .i64 0, .int .u64 0, .string ⟨#[]⟩, .slice none 0 0, .slice none 0 0] 26) = wk at *; clear hgk
          obtain ⟨gk_, hgk⟩ : ∃ gk_, wx.heap.size = gk_ := ⟨_, rfl⟩; rw [hgk] at GA; (try rw [hgk]); clear hgk
          refine wpAnyH_ready (rs := [3]) (by kernel_rfl) (by simp) ?_
          refine AllReadyH.cons (o := ⟨some 84, _, _, _, _, _⟩) rfl (fun K hK => ?_) AllReadyH.nil
          go_simp
          go_at_call 42
          (with_reducible refine (GZ.out _ _ (below_step HB.out HN.out) GA.out).mono ?_)
          rintro e wm ⟨v4, v5, rfl, hk4, hk5, hb⟩
          obtain ⟨E3, e3, rfl⟩ := Kd.R_slice hk4; obtain ⟨F3, f3, rfl⟩ := Kd.R_slice hk5; have RK := Lib.hid (And.intro hk4 hk5); clear hk4 hk5
          refine hK.out _ _ (KEEP.out _ (below_step HN.out hb)) (fun hHeld2 => ?_)
          have HGL := Lib.hid (blk_lt BXZ.out)
          have HN' := Lib.hid (below_step HN.out hb); clear HN; have HN := HN'; clear HN'; have BXZ' := Lib.hid (blk_below BXZ.out hb); clear BXZ; have BXZ := BXZ'; clear BXZ'
          clear hb GA; clear hK K hHeld; have hHeld := hHeld2; clear hHeld2; (try simp only [Act.put, List.setIfInBounds_toArray, List.set_cons_zero, List.set_cons_succ])
          refine wpAnyH_take (i := 4) (oi := ⟨some 80, _, _, _, _, _⟩) (v := ?_) rfl (by as_aux_lemma => kernel_rfl) (by as_aux_lemma => kernel_rfl) (by as_aux_lemma => kernel_rfl) (fun _ _ _ h => h) ?_ (by assumption) ?_; rotate_left; (focus (refine Or.inl ⟨rfl, ?_⟩; intro w hSw; (try dsimp only at hSw); go_simp; (try with_reducible rfl); done)); (try simp only [Act.put, List.setIfInBounds_toArray, List.set_cons_zero, List.set_cons_succ])
          refine wpAnyH_take (i := 5) (oi := ⟨some 85, _, _, _, _, _⟩) (v := ?_) rfl (by as_aux_lemma => kernel_rfl) (by as_aux_lemma => kernel_rfl) (by as_aux_lemma => kernel_rfl) (fun _ _ _ h => h) ?_ (by assumption) ?_; rotate_left; (focus (refine Or.inl ⟨rfl, ?_⟩; intro w hSw; (try dsimp only at hSw); go_simp; (try with_reducible rfl); done)); (try simp only [Act.put, List.setIfInBounds_toArray, List.set_cons_zero, List.set_cons_succ])
          refine wpAnyH_take (i := 6) (oi := ⟨some 86, _, _, _, _, _⟩) (v := ?_) rfl (by as_aux_lemma => kernel_rfl) (by as_aux_lemma => kernel_rfl) (by as_aux_lemma => kernel_rfl) (fun _ _ _ h => h) ?_ (by assumption) ?_; rotate_left; (focus (refine Or.inl ⟨rfl, ?_⟩; intro w hSw; (try dsimp only at hSw); go_simp; (try with_reducible rfl); done)); (try simp only [Act.put, List.setIfInBounds_toArray, List.set_cons_zero, List.set_cons_succ])
          refine wpAnyH_ready (rs := [8]) (by kernel_rfl) (by simp) ?_
          refine AllReadyH.cons (o := ⟨none, _, _, _, _, _⟩) rfl (fun K hK => ?_) AllReadyH.nil
          have nz0 := (blk_cell BXZ.out 0).trans rfl; have fz0 := blk_frozen BXZ.out 0; have nz1 := (blk_cell BXZ.out 1).trans rfl; have fz1 := blk_frozen BXZ.out 1; have nz2 := (blk_cell BXZ.out 2).trans rfl; have fz2 := blk_frozen BXZ.out 2; have nz3 := (blk_cell BXZ.out 3).trans rfl; have fz3 := blk_frozen BXZ.out 3; have nz4 := (blk_cell BXZ.out 4).trans rfl; have fz4 := blk_frozen BXZ.out 4; have nz5 := (blk_cell BXZ.out 5).trans rfl; have fz5 := blk_frozen BXZ.out 5
          go_simp
          have HF := Lib.hid (six_below HN.out HGX.out (.int .i64 z26.f0) (.int .i64 z26.f1) (.int .u64 z26.f2) (.string z26.f3) (.slice E3 z26.f4.length e3) (.slice F3 z26.f5.length f3))
          have HX := Lib.hid (six_put BXZ.out (.int .i64 z26.f0) (.int .i64 z26.f1) (.int .u64 z26.f2) (.string z26.f3) (.slice E3 z26.f4.length e3) (.slice F3 z26.f5.length f3))
          have HRW := Lib.hid (rows_from RK.out (same_six HGL.out (.int .i64 z26.f0) (.int .i64 z26.f1) (.int .u64 z26.f2) (.string z26.f3) (.slice E3 z26.f4.length e3) (.slice F3 z26.f5.length f3)))
          clear nz0 nz1 nz2 nz3 nz4 nz5 fz0 fz1 fz2 fz3 fz4 fz5
          refine hK.out _ _ (KEEP.out _ HF.out) (fun hHeld2 => ?_)
          clear hK K hHeld; have hHeld := hHeld2; clear hHeld2; (try simp only [Act.put, List.setIfInBounds_toArray, List.set_cons_zero, List.set_cons_succ])
          refine wpAnyH_take (i := 9) (oi := ⟨some 12, _, _, _, _, _⟩) (v := ?_) rfl (by as_aux_lemma => kernel_rfl) (by as_aux_lemma => kernel_rfl) (by as_aux_lemma => kernel_rfl) (fun _ _ _ h => h) ?_ (by assumption) ?_; rotate_left; (focus (refine Or.inl ⟨rfl, ?_⟩; intro w hSw; (try dsimp only at hSw); go_simp; (try with_reducible rfl); done)); (try simp only [Act.put, List.setIfInBounds_toArray, List.set_cons_zero, List.set_cons_succ])
          refine wpAnyH_done (by kernel_rfl) ?_ _
          go_wp2
          go_meet
          case rel =>
            exact ⟨_, _, _, _, _, rfl, rfl, ⟨below_step HB.out HF.out⟩, ⟨blk_below XV.out HF.out⟩, ⟨HX.out⟩, ⟨HRW.out⟩⟩
      · go_simp
        have hb := below_alloc (Below.refl wd.heap.size wd) zeros
        refine hK.out _ _ (KEEP.out _ (below_step HN.out hb)) (fun hHeld2 => ?_)
        have BXZ := Lib.hid (blk_new wd zeros)
        have HGX := Lib.hid (below_size HN.out)
        have HN' := Lib.hid (below_step HN.out hb); clear HN; have HN := HN'; clear HN'
        clear hb; clear hK K hHeld; have hHeld := hHeld2; clear hHeld2; (try simp only [Act.put, List.setIfInBounds_toArray, List.set_cons_zero, List.set_cons_succ])
        generalize hgx : wd.alloc zeros = wx at *; clear hgx
        refine wpAnyH_ready (rs := [1]) (by kernel_rfl) (by simp) ?_
        refine AllReadyH.cons (o := ⟨some 82, _, _, _, _, _⟩) rfl (fun K hK => ?_) AllReadyH.nil
        go_simp
        go_at_call 44
        (with_reducible refine (CN.out _ _).mono ?_)
        rintro e wn ⟨rfl, hb⟩
        refine hK.out _ _ (KEEP.out _ (below_step HN.out hb)) (fun hHeld2 => ?_)
        have HN' := Lib.hid (below_step HN.out hb); clear HN; have HN := HN'; clear HN'; have BXZ' := Lib.hid (blk_below BXZ.out hb); clear BXZ; have BXZ := BXZ'; clear BXZ'
        clear hb; clear hK K hHeld; have hHeld := hHeld2; clear hHeld2; (try simp only [Act.put, List.setIfInBounds_toArray, List.set_cons_zero, List.set_cons_succ])
        refine wpAnyH_ready (rs := [2]) (by kernel_rfl) (by simp) ?_
        refine AllReadyH.cons (o := ⟨some 83, _, _, _, _, _⟩) rfl (fun K hK => ?_) AllReadyH.nil
        go_simp
        have hb := below_alloc (Below.refl wn.heap.size wn) (.cells #[.int .i64 v.f0, .int .i64 v.f1, .int .u64 v.f2, .string v.f3, .slice A4 v.f4.length c4, .slice A5 v.f5.length c5, .int .i64 2, .int .i64 0, .int .u64 0, .string ⟨#[]⟩, .slice none 0 0, .slice none 0 0] 26)
        refine hK.out _ _ (KEEP.out _ (below_step HN.out hb)) (fun hHeld2 => ?_)
        have GA := Lib.hid (blk_new wn (.cells #[.int .i64 v.f0, .int .i64 v.f1, .int .u64 v.f2, .string v.f3, .slice A4 v.f4.length c4, .slice A5 v.f5.length c5, .int .i64 2, .int .i64 0, .int .u64 0, .string ⟨#[]⟩, .slice none 0 0, .slice none 0 0] 26))
        have HN' := Lib.hid (below_step HN.out hb); clear HN; have HN := HN'; clear HN'; have BXZ' := Lib.hid (blk_below BXZ.out hb); clear BXZ; have BXZ := BXZ'; clear BXZ'
        clear hb; clear hK K hHeld; have hHeld := hHeld2; clear hHeld2; (try simp only [Act.put, List.setIfInBounds_toArray, List.set_cons_zero, List.set_cons_succ])
        generalize hgk : wn.alloc (.cells #[.int .i64 v.f0, .int .i64 v.f1, .int .u64 v.f2, .string v.f3, .slice A4 v.f4.length c4, .slice A5 v.f5.length c5, .int .i64 2, .int .i64 0, .int .u64 0, .string ⟨#[]⟩, .slice none 0 0, .slice none 0 0] 26) = wk at *; clear hgk
        obtain ⟨gk_, hgk⟩ : ∃ gk_, wn.heap.size = gk_ := ⟨_, rfl⟩; rw [hgk] at GA; (try rw [hgk]); clear hgk
        refine wpAnyH_ready (rs := [3]) (by kernel_rfl) (by simp) ?_
        refine AllReadyH.cons (o := ⟨some 84, _, _, _, _, _⟩) rfl (fun K hK => ?_) AllReadyH.nil
        go_simp
        go_at_call 42
        (with_reducible refine (GZ.out _ _ (below_step HB.out HN.out) GA.out).mono ?_)
        rintro e wm ⟨v4, v5, rfl, hk4, hk5, hb⟩
        obtain ⟨E3, e3, rfl⟩ := Kd.R_slice hk4; obtain ⟨F3, f3, rfl⟩ := Kd.R_slice hk5; have RK := Lib.hid (And.intro hk4 hk5); clear hk4 hk5
        refine hK.out _ _ (KEEP.out _ (below_step HN.out hb)) (fun hHeld2 => ?_)
        have HGL := Lib.hid (blk_lt BXZ.out)
        have HN' := Lib.hid (below_step HN.out hb); clear HN; have HN := HN'; clear HN'; have BXZ' := Lib.hid (blk_below BXZ.out hb); clear BXZ; have BXZ := BXZ'; clear BXZ'
        clear hb GA; clear hK K hHeld; have hHeld := hHeld2; clear hHeld2; (try simp only [Act.put, List.setIfInBounds_toArray, List.set_cons_zero, List.set_cons_succ])
        refine wpAnyH_take (i := 4) (oi := ⟨some 80, _, _, _, _, _⟩) (v := ?_) rfl (by as_aux_lemma => kernel_rfl) (by as_aux_lemma => kernel_rfl) (by as_aux_lemma => kernel_rfl) (fun _ _ _ h => h) ?_ (by assumption) ?_; rotate_left; (focus (refine Or.inl ⟨rfl, ?_⟩; intro w hSw; (try dsimp only at hSw); go_simp; (try with_reducible rfl); done)); (try simp only [Act.put, List.setIfInBounds_toArray, List.set_cons_zero, List.set_cons_succ])
        refine wpAnyH_take (i := 5) (oi := ⟨some 85, _, _, _, _, _⟩) (v := ?_) rfl (by as_aux_lemma => kernel_rfl) (by as_aux_lemma => kernel_rfl) (by as_aux_lemma => kernel_rfl) (fun _ _ _ h => h) ?_ (by assumption) ?_; rotate_left; (focus (refine Or.inl ⟨rfl, ?_⟩; intro w hSw; (try dsimp only at hSw); go_simp; (try with_reducible rfl); done)); (try simp only [Act.put, List.setIfInBounds_toArray, List.set_cons_zero, List.set_cons_succ])
        refine wpAnyH_take (i := 6) (oi := ⟨some 86, _, _, _, _, _⟩) (v := ?_) rfl (by as_aux_lemma => kernel_rfl) (by as_aux_lemma => kernel_rfl) (by as_aux_lemma => kernel_rfl) (fun _ _ _ h => h) ?_ (by assumption) ?_; rotate_left; (focus (refine Or.inl ⟨rfl, ?_⟩; intro w hSw; (try dsimp only at hSw); go_simp; (try with_reducible rfl); done)); (try simp only [Act.put, List.setIfInBounds_toArray, List.set_cons_zero, List.set_cons_succ])
        refine wpAnyH_ready (rs := [8]) (by kernel_rfl) (by simp) ?_
        refine AllReadyH.cons (o := ⟨none, _, _, _, _, _⟩) rfl (fun K hK => ?_) AllReadyH.nil
        have nz0 := (blk_cell BXZ.out 0).trans rfl; have fz0 := blk_frozen BXZ.out 0; have nz1 := (blk_cell BXZ.out 1).trans rfl; have fz1 := blk_frozen BXZ.out 1; have nz2 := (blk_cell BXZ.out 2).trans rfl; have fz2 := blk_frozen BXZ.out 2; have nz3 := (blk_cell BXZ.out 3).trans rfl; have fz3 := blk_frozen BXZ.out 3; have nz4 := (blk_cell BXZ.out 4).trans rfl; have fz4 := blk_frozen BXZ.out 4; have nz5 := (blk_cell BXZ.out 5).trans rfl; have fz5 := blk_frozen BXZ.out 5
        go_simp
        have HF := Lib.hid (six_below HN.out HGX.out (.int .i64 z26.f0) (.int .i64 z26.f1) (.int .u64 z26.f2) (.string z26.f3) (.slice E3 z26.f4.length e3) (.slice F3 z26.f5.length f3))
        have HX := Lib.hid (six_put BXZ.out (.int .i64 z26.f0) (.int .i64 z26.f1) (.int .u64 z26.f2) (.string z26.f3) (.slice E3 z26.f4.length e3) (.slice F3 z26.f5.length f3))
        have HRW := Lib.hid (rows_from RK.out (same_six HGL.out (.int .i64 z26.f0) (.int .i64 z26.f1) (.int .u64 z26.f2) (.string z26.f3) (.slice E3 z26.f4.length e3) (.slice F3 z26.f5.length f3)))
        clear nz0 nz1 nz2 nz3 nz4 nz5 fz0 fz1 fz2 fz3 fz4 fz5
        refine hK.out _ _ (KEEP.out _ HF.out) (fun hHeld2 => ?_)
        clear hK K hHeld; have hHeld := hHeld2; clear hHeld2; (try simp only [Act.put, List.setIfInBounds_toArray, List.set_cons_zero, List.set_cons_succ])
        refine wpAnyH_take (i := 9) (oi := ⟨some 12, _, _, _, _, _⟩) (v := ?_) rfl (by as_aux_lemma => kernel_rfl) (by as_aux_lemma => kernel_rfl) (by as_aux_lemma => kernel_rfl) (fun _ _ _ h => h) ?_ (by assumption) ?_; rotate_left; (focus (refine Or.inl ⟨rfl, ?_⟩; intro w hSw; (try dsimp only at hSw); go_simp; (try with_reducible rfl); done)); (try simp only [Act.put, List.setIfInBounds_toArray, List.set_cons_zero, List.set_cons_succ])
        refine wpAnyH_done (by kernel_rfl) ?_ _
        go_wp2
        go_meet
        case rel =>
          exact ⟨_, _, _, _, _, rfl, rfl, ⟨below_step HB.out HF.out⟩, ⟨blk_below XV.out HF.out⟩, ⟨HX.out⟩, ⟨HRW.out⟩⟩
    case rest =>
    (try clear l0 l1 l2 l3 l4 l5)
    clear HB XV
    obtain ⟨gy, E3, e3, F3, f3, rfl, rfl, HB0, XV0, BY0, RY0⟩ := hcut
    have HB := Lib.hid HB0.out; clear HB0; have XV := Lib.hid XV0.out; clear XV0; have BY := Lib.hid BY0.out; clear BY0; have RY := Lib.hid RY0.out; clear RY0
    clear BY RY
    obtain ⟨v0, v1, v2, v3, v4, v5⟩ := At.of_box XV.out
    go_upto_region 16 with (first | (go_at_call 42; (with_reducible refine (GL.out _ HB.out).mono ?_); rintro e wk ⟨E, e1, F, f1, rfl, hr, hbn⟩; have HB' := Lib.hid (below_step HB.out hbn); have XV' := Lib.hid (blk_below XV.out hbn); clear HB; have HB := HB'; clear HB'; clear XV; have XV := XV'; clear XV'; have RX := Lib.hid hr; have BN := Lib.hid (blk_new wk zeros); clear hbn hr) | ((with_reducible refine gate_store (t := 26) (p := 13) rfl ?_); refine row_event (by rfl) (by rfl) (by rfl) (by rfl) (by rfl) BN.out (by exact size26) (by rfl) (by first | rfl | simp [Value.oneCell']) ?_; intro wm hz ho hb0; have hbn := hb0 (w0 := wk) (Nat.le_refl _) (below_alloc (Below.refl _ _) _); have HB' := Lib.hid (below_step HB.out hbn); have XV' := Lib.hid (blk_below XV.out hbn); have RX' := Lib.hid (Rows4.below RX.out hbn); clear HB; have HB := HB'; clear HB'; clear XV; have XV := XV'; clear XV'; clear RX; have RX := RX'; clear RX'; have BX := Lib.hid hz; (try clear v0 v1 v2 v3 v4 v5); obtain ⟨v0, v1, v2, v3, v4, v5⟩ := At.of_box XV.out; clear hz ho hb0 hbn BN))
    have CM := Lib.hid (fun W (h : Below wm.drew.heap.size wm.drew W) => CKH.out W E e1 F f1 (Rows4.below RX.out (below_step (below_drew (Below.refl _ _)) h)))
    (try clear v0 v1 v2 v3 v4 v5)
    obtain ⟨rfl, rfl⟩ | ⟨rfl, rfl⟩ := TE.out
    all_goals
      go_cut [4] (fun v4 wc => v4 = .bool true ∧ Aside0 (Below w.heap.size w wc) ∧ Aside0 (wc.heap[gv]? = some (.cells #[.int .i64 v.f0, .int .i64 v.f1, .int .u64 v.f2, .string v.f3, .slice A4 v.f4.length c4, .slice A5 v.f5.length c5] 26 (0, 0))) ∧ Aside0 (Rows4 wc K E e1 F f1) ∧ Aside0 (wc.heap[wk.heap.size]? = some (.cells #[.int .i64 K.f0, .int .i64 K.f1, .int .u64 K.f2, .string K.f3, .slice E K.f4.length e1, .slice F K.f5.length f1] 26 (0, 0))))
      case first =>
        have hbn := below_drew (Below.refl wm.heap.size wm)
        have HB' := Lib.hid (below_step HB.out hbn); have XV' := Lib.hid (blk_below XV.out hbn); have RX' := Lib.hid (Rows4.below RX.out hbn); have BX' := Lib.hid (blk_below BX.out hbn); clear HB; have HB := HB'; clear HB'; clear XV; have XV := XV'; clear XV'; clear RX; have RX := RX'; clear RX'; clear BX; have BX := BX'; clear BX'
        clear hbn
        have KEEP : ∀ w', Below wm.drew.heap.size wm.drew w' → (Below wm.drew.heap.size wm.drew w' ∧ w'.cell? ⟨wk.heap.size, 0, none⟩ = some (.int .i64 K.f0) ∧ w'.cell? ⟨wk.heap.size, 1, none⟩ = some (.int .i64 K.f1) ∧ w'.cell? ⟨wk.heap.size, 2, none⟩ = some (.int .u64 K.f2) ∧ w'.cell? ⟨wk.heap.size, 3, none⟩ = some (.string K.f3) ∧ w'.cell? ⟨wk.heap.size, 4, none⟩ = some (.slice E K.f4.length e1) ∧ w'.cell? ⟨wk.heap.size, 5, none⟩ = some (.slice F K.f5.length f1) ∧ w'.cell? ⟨gv, 0, none⟩ = some (.int .i64 v.f0) ∧ w'.cell? ⟨gv, 1, none⟩ = some (.int .i64 v.f1) ∧ w'.cell? ⟨gv, 2, none⟩ = some (.int .u64 v.f2) ∧ w'.cell? ⟨gv, 3, none⟩ = some (.string v.f3) ∧ w'.cell? ⟨gv, 4, none⟩ = some (.slice A4 v.f4.length c4) ∧ w'.cell? ⟨gv, 5, none⟩ = some (.slice A5 v.f5.length c5)) := fun w' h => ⟨h, (At.of_box (blk_below BX.out h)).g0, (At.of_box (blk_below BX.out h)).g1, (At.of_box (blk_below BX.out h)).g2, (At.of_box (blk_below BX.out h)).g3, (At.of_box (blk_below BX.out h)).g4, (At.of_box (blk_below BX.out h)).g5, (At.of_box (blk_below XV.out h)).g0, (At.of_box (blk_below XV.out h)).g1, (At.of_box (blk_below XV.out h)).g2, (At.of_box (blk_below XV.out h)).g3, (At.of_box (blk_below XV.out h)).g4, (At.of_box (blk_below XV.out h)).g5⟩
        have KEEP := Lib.hid KEEP
        refine wp_region_held_drew (S := (fun w' => Below wm.drew.heap.size wm.drew w' ∧ w'.cell? ⟨wk.heap.size, 0, none⟩ = some (.int .i64 K.f0) ∧ w'.cell? ⟨wk.heap.size, 1, none⟩ = some (.int .i64 K.f1) ∧ w'.cell? ⟨wk.heap.size, 2, none⟩ = some (.int .u64 K.f2) ∧ w'.cell? ⟨wk.heap.size, 3, none⟩ = some (.string K.f3) ∧ w'.cell? ⟨wk.heap.size, 4, none⟩ = some (.slice E K.f4.length e1) ∧ w'.cell? ⟨wk.heap.size, 5, none⟩ = some (.slice F K.f5.length f1) ∧ w'.cell? ⟨gv, 0, none⟩ = some (.int .i64 v.f0) ∧ w'.cell? ⟨gv, 1, none⟩ = some (.int .i64 v.f1) ∧ w'.cell? ⟨gv, 2, none⟩ = some (.int .u64 v.f2) ∧ w'.cell? ⟨gv, 3, none⟩ = some (.string v.f3) ∧ w'.cell? ⟨gv, 4, none⟩ = some (.slice A4 v.f4.length c4) ∧ w'.cell? ⟨gv, 5, none⟩ = some (.slice A5 v.f5.length c5))) (by kernel_rfl) ?_ (fun hHeld => ?_)
        · exact KEEP.out _ (Below.refl _ _)
        refine wpAnyH_take (i := 0) (oi := ⟨some 93, _, _, _, _, _⟩) (v := ?_) rfl (by kernel_rfl) (by kernel_rfl) (by kernel_rfl) (fun _ _ _ h => h) ?_ (by assumption) ?_; rotate_left; (focus (refine Or.inl ⟨rfl, ?_⟩; intro w hSw; (try dsimp only at hSw); go_simp; (try with_reducible rfl); done)); (try simp only [Act.put, List.setIfInBounds_toArray, List.set_cons_zero, List.set_cons_succ])
        refine wpAnyH_take (i := 3) (oi := ⟨some 96, _, _, _, _, _⟩) (v := ?_) rfl (by kernel_rfl) (by kernel_rfl) (by kernel_rfl) (fun _ _ _ h => h) ?_ (by assumption) ?_; rotate_left; (focus (refine Or.inl ⟨rfl, ?_⟩; intro w hSw; (try dsimp only at hSw); go_simp; (try with_reducible rfl); done)); (try simp only [Act.put, List.setIfInBounds_toArray, List.set_cons_zero, List.set_cons_succ])
        refine wpAnyH_ready (rs := [1]) (by kernel_rfl) (by simp) ?_
        refine AllReadyH.cons (o := ⟨some 94, _, _, _, _, _⟩) rfl (fun K hK => ?_) AllReadyH.nil
        go_simp
        (try (first | (go_at_call 25; (with_reducible refine (numB _ _).mono ?_); rintro e wn ⟨rfl, hb⟩) | (go_at_call 44; (with_reducible refine (CN.out _ _).mono ?_); rintro e wn ⟨rfl, hb⟩) | (go_at_call 26; (with_reducible refine (CM.out _ (by first | assumption | exact And.left (by assumption) | exact Below.refl _ _)).mono ?_); rintro e wn ⟨rfl, hb⟩)))
        refine hK.out _ _ ?_ (fun hHeld2 => ?_)
        · first | assumption | (exact KEEP.out _ (below_step (by first | assumption | exact And.left (by assumption) | exact Below.refl _ _) hb))
        clear hK K hHeld
        have hHeld := hHeld2; clear hHeld2
        (try simp only [Act.put, List.setIfInBounds_toArray, List.set_cons_zero, List.set_cons_succ])
        refine wpAnyH_take (i := 2) (oi := ⟨some 95, _, _, _, _, _⟩) (v := ?_) rfl (by kernel_rfl) (by kernel_rfl) (by kernel_rfl) (fun _ _ _ h => h) ?_ (by assumption) ?_; rotate_left; (focus (refine Or.inl ⟨rfl, ?_⟩; intro w hSw; (try dsimp only at hSw); go_simp; (try with_reducible rfl); done)); (try simp only [Act.put, List.setIfInBounds_toArray, List.set_cons_zero, List.set_cons_succ])
        refine wpAnyH_take (i := 4) (oi := ⟨some 97, _, _, _, _, _⟩) (v := ?_) rfl (by kernel_rfl) (by kernel_rfl) (by kernel_rfl) (fun _ _ _ h => h) ?_ (by assumption) ?_; rotate_left; (focus (refine Or.inl ⟨rfl, ?_⟩; intro w hSw; (try dsimp only at hSw); go_simp; (try with_reducible rfl); done)); (try simp only [Act.put, List.setIfInBounds_toArray, List.set_cons_zero, List.set_cons_succ])
        refine wpAnyH_take (i := 5) (oi := ⟨some 98, _, _, _, _, _⟩) (v := ?_) rfl (by kernel_rfl) (by kernel_rfl) (by kernel_rfl) (fun _ _ _ h => h) ?_ (by assumption) ?_; rotate_left; (focus (refine Or.inl ⟨rfl, ?_⟩; intro w hSw; (try dsimp only at hSw); go_simp; (try with_reducible rfl); done)); (try simp only [Act.put, List.setIfInBounds_toArray, List.set_cons_zero, List.set_cons_succ])
        first | (refine wpAnyH_take (i := 6) (oi := ⟨some 99, _, _, _, _, _⟩) (v := ?_) rfl (by kernel_rfl) (by kernel_rfl) (by kernel_rfl) (fun _ _ _ h => h) ?_ (by assumption) ?_; rotate_left; (focus (refine Or.inl ⟨rfl, ?_⟩; intro w hSw; (try dsimp only at hSw); go_simp; (try with_reducible rfl); done)); (try simp only [Act.put, List.setIfInBounds_toArray, List.set_cons_zero, List.set_cons_succ])) | (refine wpAnyH_take (i := 6) (oi := ⟨some 99, _, _, _, _, _⟩) (v := undef) rfl (by kernel_rfl) (by kernel_rfl) (by kernel_rfl) (fun _ _ _ h => h) (Or.inr ⟨rfl, rfl⟩) (by assumption) ?_; (try simp only [Act.put, List.setIfInBounds_toArray, List.set_cons_zero, List.set_cons_succ]))
        first | (refine wpAnyH_take (i := 7) (oi := ⟨some 100, _, _, _, _, _⟩) (v := ?_) rfl (by kernel_rfl) (by kernel_rfl) (by kernel_rfl) (fun _ _ _ h => h) ?_ (by assumption) ?_; rotate_left; (focus (refine Or.inl ⟨rfl, ?_⟩; intro w hSw; (try dsimp only at hSw); go_simp; (try with_reducible rfl); done)); (try simp only [Act.put, List.setIfInBounds_toArray, List.set_cons_zero, List.set_cons_succ])) | (refine wpAnyH_take (i := 7) (oi := ⟨some 100, _, _, _, _, _⟩) (v := undef) rfl (by kernel_rfl) (by kernel_rfl) (by kernel_rfl) (fun _ _ _ h => h) (Or.inr ⟨rfl, rfl⟩) (by assumption) ?_; (try simp only [Act.put, List.setIfInBounds_toArray, List.set_cons_zero, List.set_cons_succ]))
        first | (refine wpAnyH_take (i := 8) (oi := ⟨some 101, _, _, _, _, _⟩) (v := ?_) rfl (by kernel_rfl) (by kernel_rfl) (by kernel_rfl) (fun _ _ _ h => h) ?_ (by assumption) ?_; rotate_left; (focus (refine Or.inl ⟨rfl, ?_⟩; intro w hSw; (try dsimp only at hSw); go_simp; (try with_reducible rfl); done)); (try simp only [Act.put, List.setIfInBounds_toArray, List.set_cons_zero, List.set_cons_succ])) | (refine wpAnyH_take (i := 8) (oi := ⟨some 101, _, _, _, _, _⟩) (v := undef) rfl (by kernel_rfl) (by kernel_rfl) (by kernel_rfl) (fun _ _ _ h => h) (Or.inr ⟨rfl, rfl⟩) (by assumption) ?_; (try simp only [Act.put, List.setIfInBounds_toArray, List.set_cons_zero, List.set_cons_succ]))
        refine wpAnyH_ready (rs := [9]) (by kernel_rfl) (by simp) ?_
        refine AllReadyH.cons (o := ⟨some 102, _, _, _, _, _⟩) rfl (fun K hK => ?_) AllReadyH.nil
        go_simp
        (try (first | (go_at_call 25; (with_reducible refine (numB _ _).mono ?_); rintro e wn ⟨rfl, hb⟩) | (go_at_call 44; (with_reducible refine (CN.out _ _).mono ?_); rintro e wn ⟨rfl, hb⟩) | (go_at_call 26; (with_reducible refine (CM.out _ (by first | assumption | exact And.left (by assumption) | exact Below.refl _ _)).mono ?_); rintro e wn ⟨rfl, hb⟩)))
        refine hK.out _ _ ?_ (fun hHeld2 => ?_)
        · first | assumption | (exact KEEP.out _ (below_step (by first | assumption | exact And.left (by assumption) | exact Below.refl _ _) hb))
        clear hK K hHeld
        have hHeld := hHeld2; clear hHeld2
        (try simp only [Act.put, List.setIfInBounds_toArray, List.set_cons_zero, List.set_cons_succ])
        first | (refine wpAnyH_take (i := 10) (oi := ⟨some 103, _, _, _, _, _⟩) (v := ?_) rfl (by kernel_rfl) (by kernel_rfl) (by kernel_rfl) (fun _ _ _ h => h) ?_ (by assumption) ?_; rotate_left; (focus (refine Or.inl ⟨rfl, ?_⟩; intro w hSw; (try dsimp only at hSw); go_simp; (try with_reducible rfl); done)); (try simp only [Act.put, List.setIfInBounds_toArray, List.set_cons_zero, List.set_cons_succ])) | (refine wpAnyH_take (i := 10) (oi := ⟨some 103, _, _, _, _, _⟩) (v := undef) rfl (by kernel_rfl) (by kernel_rfl) (by kernel_rfl) (fun _ _ _ h => h) (Or.inr ⟨rfl, rfl⟩) (by assumption) ?_; (try simp only [Act.put, List.setIfInBounds_toArray, List.set_cons_zero, List.set_cons_succ]))
        first | (refine wpAnyH_take (i := 11) (oi := ⟨some 104, _, _, _, _, _⟩) (v := ?_) rfl (by kernel_rfl) (by kernel_rfl) (by kernel_rfl) (fun _ _ _ h => h) ?_ (by assumption) ?_; rotate_left; (focus (refine Or.inl ⟨rfl, ?_⟩; intro w hSw; (try dsimp only at hSw); go_simp; (try with_reducible rfl); done)); (try simp only [Act.put, List.setIfInBounds_toArray, List.set_cons_zero, List.set_cons_succ])) | (refine wpAnyH_take (i := 11) (oi := ⟨some 104, _, _, _, _, _⟩) (v := undef) rfl (by kernel_rfl) (by kernel_rfl) (by kernel_rfl) (fun _ _ _ h => h) (Or.inr ⟨rfl, rfl⟩) (by assumption) ?_; (try simp only [Act.put, List.setIfInBounds_toArray, List.set_cons_zero, List.set_cons_succ]))
        refine wpAnyH_take (i := 12) (oi := ⟨some 105, _, _, _, _, _⟩) (v := ?_) rfl (by kernel_rfl) (by kernel_rfl) (by kernel_rfl) (fun _ _ _ h => h) ?_ (by assumption) ?_; rotate_left; (focus (refine Or.inl ⟨rfl, ?_⟩; intro w hSw; (try dsimp only at hSw); go_simp; (try with_reducible rfl); done)); (try simp only [Act.put, List.setIfInBounds_toArray, List.set_cons_zero, List.set_cons_succ])
        refine wpAnyH_take (i := 13) (oi := ⟨some 106, _, _, _, _, _⟩) (v := ?_) rfl (by kernel_rfl) (by kernel_rfl) (by kernel_rfl) (fun _ _ _ h => h) ?_ (by assumption) ?_; rotate_left; (focus (refine Or.inl ⟨rfl, ?_⟩; intro w hSw; (try dsimp only at hSw); go_simp; (try with_reducible rfl); done)); (try simp only [Act.put, List.setIfInBounds_toArray, List.set_cons_zero, List.set_cons_succ])
        first | (refine wpAnyH_take (i := 14) (oi := ⟨some 107, _, _, _, _, _⟩) (v := ?_) rfl (by kernel_rfl) (by kernel_rfl) (by kernel_rfl) (fun _ _ _ h => h) ?_ (by assumption) ?_; rotate_left; (focus (refine Or.inl ⟨rfl, ?_⟩; intro w hSw; (try dsimp only at hSw); go_simp; (try with_reducible rfl); done)); (try simp only [Act.put, List.setIfInBounds_toArray, List.set_cons_zero, List.set_cons_succ])) | (refine wpAnyH_take (i := 14) (oi := ⟨some 107, _, _, _, _, _⟩) (v := undef) rfl (by kernel_rfl) (by kernel_rfl) (by kernel_rfl) (fun _ _ _ h => h) (Or.inr ⟨rfl, rfl⟩) (by assumption) ?_; (try simp only [Act.put, List.setIfInBounds_toArray, List.set_cons_zero, List.set_cons_succ]))
        refine wpAnyH_ready (rs := [15]) (by kernel_rfl) (by simp) ?_
        refine AllReadyH.cons (o := ⟨some 108, _, _, _, _, _⟩) rfl (fun K hK => ?_) AllReadyH.nil
        go_simp
        (try (first | (go_at_call 25; (with_reducible refine (numB _ _).mono ?_); rintro e wn ⟨rfl, hb⟩) | (go_at_call 44; (with_reducible refine (CN.out _ _).mono ?_); rintro e wn ⟨rfl, hb⟩) | (go_at_call 26; (with_reducible refine (CM.out _ (by first | assumption | exact And.left (by assumption) | exact Below.refl _ _)).mono ?_); rintro e wn ⟨rfl, hb⟩)))
        refine hK.out _ _ ?_ (fun hHeld2 => ?_)
        · first | assumption | (exact KEEP.out _ (below_step (by first | assumption | exact And.left (by assumption) | exact Below.refl _ _) hb))
        clear hK K hHeld
        have hHeld := hHeld2; clear hHeld2
        (try simp only [Act.put, List.setIfInBounds_toArray, List.set_cons_zero, List.set_cons_succ])
        first | (refine wpAnyH_take (i := 16) (oi := ⟨some 109, _, _, _, _, _⟩) (v := ?_) rfl (by kernel_rfl) (by kernel_rfl) (by kernel_rfl) (fun _ _ _ h => h) ?_ (by assumption) ?_; rotate_left; (focus (refine Or.inl ⟨rfl, ?_⟩; intro w hSw; (try dsimp only at hSw); go_simp; (try with_reducible rfl); done)); (try simp only [Act.put, List.setIfInBounds_toArray, List.set_cons_zero, List.set_cons_succ])) | (refine wpAnyH_take (i := 16) (oi := ⟨some 109, _, _, _, _, _⟩) (v := undef) rfl (by kernel_rfl) (by kernel_rfl) (by kernel_rfl) (fun _ _ _ h => h) (Or.inr ⟨rfl, rfl⟩) (by assumption) ?_; (try simp only [Act.put, List.setIfInBounds_toArray, List.set_cons_zero, List.set_cons_succ]))
        refine wpAnyH_take (i := 17) (oi := ⟨some 110, _, _, _, _, _⟩) (v := ?_) rfl (by kernel_rfl) (by kernel_rfl) (by kernel_rfl) (fun _ _ _ h => h) ?_ (by assumption) ?_; rotate_left; (focus (refine Or.inl ⟨rfl, ?_⟩; intro w hSw; (try dsimp only at hSw); go_simp; (try with_reducible rfl); done)); (try simp only [Act.put, List.setIfInBounds_toArray, List.set_cons_zero, List.set_cons_succ])
        refine wpAnyH_take (i := 18) (oi := ⟨some 111, _, _, _, _, _⟩) (v := ?_) rfl (by kernel_rfl) (by kernel_rfl) (by kernel_rfl) (fun _ _ _ h => h) ?_ (by assumption) ?_; rotate_left; (focus (refine Or.inl ⟨rfl, ?_⟩; intro w hSw; (try dsimp only at hSw); go_simp; (try with_reducible rfl); done)); (try simp only [Act.put, List.setIfInBounds_toArray, List.set_cons_zero, List.set_cons_succ])
        first | (refine wpAnyH_take (i := 19) (oi := ⟨some 112, _, _, _, _, _⟩) (v := ?_) rfl (by kernel_rfl) (by kernel_rfl) (by kernel_rfl) (fun _ _ _ h => h) ?_ (by assumption) ?_; rotate_left; (focus (refine Or.inl ⟨rfl, ?_⟩; intro w hSw; (try dsimp only at hSw); go_simp; (try with_reducible rfl); done)); (try simp only [Act.put, List.setIfInBounds_toArray, List.set_cons_zero, List.set_cons_succ])) | (refine wpAnyH_take (i := 19) (oi := ⟨some 112, _, _, _, _, _⟩) (v := undef) rfl (by kernel_rfl) (by kernel_rfl) (by kernel_rfl) (fun _ _ _ h => h) (Or.inr ⟨rfl, rfl⟩) (by assumption) ?_; (try simp only [Act.put, List.setIfInBounds_toArray, List.set_cons_zero, List.set_cons_succ]))
        refine wpAnyH_ready (rs := [20]) (by kernel_rfl) (by simp) ?_
        refine AllReadyH.cons (o := ⟨some 113, _, _, _, _, _⟩) rfl (fun K hK => ?_) AllReadyH.nil
        go_simp
        (try (first | (go_at_call 25; (with_reducible refine (numB _ _).mono ?_); rintro e wn ⟨rfl, hb⟩) | (go_at_call 44; (with_reducible refine (CN.out _ _).mono ?_); rintro e wn ⟨rfl, hb⟩) | (go_at_call 26; (with_reducible refine (CM.out _ (by first | assumption | exact And.left (by assumption) | exact Below.refl _ _)).mono ?_); rintro e wn ⟨rfl, hb⟩)))
        refine hK.out _ _ ?_ (fun hHeld2 => ?_)
        · first | assumption | (exact KEEP.out _ (below_step (by first | assumption | exact And.left (by assumption) | exact Below.refl _ _) hb))
        clear hK K hHeld
        have hHeld := hHeld2; clear hHeld2
        (try simp only [Act.put, List.setIfInBounds_toArray, List.set_cons_zero, List.set_cons_succ])
        first | (refine wpAnyH_take (i := 21) (oi := ⟨some 114, _, _, _, _, _⟩) (v := ?_) rfl (by kernel_rfl) (by kernel_rfl) (by kernel_rfl) (fun _ _ _ h => h) ?_ (by assumption) ?_; rotate_left; (focus (refine Or.inl ⟨rfl, ?_⟩; intro w hSw; (try dsimp only at hSw); go_simp; (try with_reducible rfl); done)); (try simp only [Act.put, List.setIfInBounds_toArray, List.set_cons_zero, List.set_cons_succ])) | (refine wpAnyH_take (i := 21) (oi := ⟨some 114, _, _, _, _, _⟩) (v := undef) rfl (by kernel_rfl) (by kernel_rfl) (by kernel_rfl) (fun _ _ _ h => h) (Or.inr ⟨rfl, rfl⟩) (by assumption) ?_; (try simp only [Act.put, List.setIfInBounds_toArray, List.set_cons_zero, List.set_cons_succ]))
        refine wpAnyH_take (i := 22) (oi := ⟨some 115, _, _, _, _, _⟩) (v := ?_) rfl (by kernel_rfl) (by kernel_rfl) (by kernel_rfl) (fun _ _ _ h => h) ?_ (by assumption) ?_; rotate_left; (focus (refine Or.inl ⟨rfl, ?_⟩; intro w hSw; (try dsimp only at hSw); go_simp; (try with_reducible rfl); done)); (try simp only [Act.put, List.setIfInBounds_toArray, List.set_cons_zero, List.set_cons_succ])
        refine wpAnyH_take (i := 23) (oi := ⟨some 116, _, _, _, _, _⟩) (v := ?_) rfl (by kernel_rfl) (by kernel_rfl) (by kernel_rfl) (fun _ _ _ h => h) ?_ (by assumption) ?_; rotate_left; (focus (refine Or.inl ⟨rfl, ?_⟩; intro w hSw; (try dsimp only at hSw); go_simp; (try with_reducible rfl); done)); (try simp only [Act.put, List.setIfInBounds_toArray, List.set_cons_zero, List.set_cons_succ])
        first | (refine wpAnyH_take (i := 24) (oi := ⟨some 117, _, _, _, _, _⟩) (v := ?_) rfl (by kernel_rfl) (by kernel_rfl) (by kernel_rfl) (fun _ _ _ h => h) ?_ (by assumption) ?_; rotate_left; (focus (refine Or.inl ⟨rfl, ?_⟩; intro w hSw; (try dsimp only at hSw); go_simp; (try with_reducible rfl); done)); (try simp only [Act.put, List.setIfInBounds_toArray, List.set_cons_zero, List.set_cons_succ])) | (refine wpAnyH_take (i := 24) (oi := ⟨some 117, _, _, _, _, _⟩) (v := undef) rfl (by kernel_rfl) (by kernel_rfl) (by kernel_rfl) (fun _ _ _ h => h) (Or.inr ⟨rfl, rfl⟩) (by assumption) ?_; (try simp only [Act.put, List.setIfInBounds_toArray, List.set_cons_zero, List.set_cons_succ]))
        first | (refine wpAnyH_take (i := 25) (oi := ⟨some 118, _, _, _, _, _⟩) (v := ?_) rfl (by kernel_rfl) (by kernel_rfl) (by kernel_rfl) (fun _ _ _ h => h) ?_ (by assumption) ?_; rotate_left; (focus (refine Or.inl ⟨rfl, ?_⟩; intro w hSw; (try dsimp only at hSw); go_simp; (try with_reducible rfl); done)); (try simp only [Act.put, List.setIfInBounds_toArray, List.set_cons_zero, List.set_cons_succ])) | (refine wpAnyH_take (i := 25) (oi := ⟨some 118, _, _, _, _, _⟩) (v := undef) rfl (by kernel_rfl) (by kernel_rfl) (by kernel_rfl) (fun _ _ _ h => h) (Or.inr ⟨rfl, rfl⟩) (by assumption) ?_; (try simp only [Act.put, List.setIfInBounds_toArray, List.set_cons_zero, List.set_cons_succ]))
        first | (refine wpAnyH_take (i := 26) (oi := ⟨some 119, _, _, _, _, _⟩) (v := ?_) rfl (by kernel_rfl) (by kernel_rfl) (by kernel_rfl) (fun _ _ _ h => h) ?_ (by assumption) ?_; rotate_left; (focus (refine Or.inl ⟨rfl, ?_⟩; intro w hSw; (try dsimp only at hSw); go_simp; (try with_reducible rfl); done)); (try simp only [Act.put, List.setIfInBounds_toArray, List.set_cons_zero, List.set_cons_succ])) | (refine wpAnyH_take (i := 26) (oi := ⟨some 119, _, _, _, _, _⟩) (v := undef) rfl (by kernel_rfl) (by kernel_rfl) (by kernel_rfl) (fun _ _ _ h => h) (Or.inr ⟨rfl, rfl⟩) (by assumption) ?_; (try simp only [Act.put, List.setIfInBounds_toArray, List.set_cons_zero, List.set_cons_succ]))
        first | (refine wpAnyH_take (i := 27) (oi := ⟨some 120, _, _, _, _, _⟩) (v := ?_) rfl (by kernel_rfl) (by kernel_rfl) (by kernel_rfl) (fun _ _ _ h => h) ?_ (by assumption) ?_; rotate_left; (focus (refine Or.inl ⟨rfl, ?_⟩; intro w hSw; (try dsimp only at hSw); go_simp; (try with_reducible rfl); done)); (try simp only [Act.put, List.setIfInBounds_toArray, List.set_cons_zero, List.set_cons_succ])) | (refine wpAnyH_take (i := 27) (oi := ⟨some 120, _, _, _, _, _⟩) (v := undef) rfl (by kernel_rfl) (by kernel_rfl) (by kernel_rfl) (fun _ _ _ h => h) (Or.inr ⟨rfl, rfl⟩) (by assumption) ?_; (try simp only [Act.put, List.setIfInBounds_toArray, List.set_cons_zero, List.set_cons_succ]))
        refine wpAnyH_ready (rs := [28]) (by kernel_rfl) (by simp) ?_
        refine AllReadyH.cons (o := ⟨some 121, _, _, _, _, _⟩) rfl (fun K hK => ?_) AllReadyH.nil
        go_simp
        (try (first | (go_at_call 25; (with_reducible refine (numB _ _).mono ?_); rintro e wn ⟨rfl, hb⟩) | (go_at_call 44; (with_reducible refine (CN.out _ _).mono ?_); rintro e wn ⟨rfl, hb⟩) | (go_at_call 26; (with_reducible refine (CM.out _ (by first | assumption | exact And.left (by assumption) | exact Below.refl _ _)).mono ?_); rintro e wn ⟨rfl, hb⟩)))
        refine hK.out _ _ ?_ (fun hHeld2 => ?_)
        · first | assumption | (exact KEEP.out _ (below_step (by first | assumption | exact And.left (by assumption) | exact Below.refl _ _) hb))
        clear hK K hHeld
        have hHeld := hHeld2; clear hHeld2
        (try simp only [Act.put, List.setIfInBounds_toArray, List.set_cons_zero, List.set_cons_succ])
        refine wpAnyH_ready (rs := [29]) (by kernel_rfl) (by simp) ?_
        refine AllReadyH.cons (o := ⟨some 122, _, _, _, _, _⟩) rfl (fun K hK => ?_) AllReadyH.nil
        go_simp
        (try (first | (go_at_call 25; (with_reducible refine (numB _ _).mono ?_); rintro e wn ⟨rfl, hb⟩) | (go_at_call 44; (with_reducible refine (CN.out _ _).mono ?_); rintro e wn ⟨rfl, hb⟩) | (go_at_call 26; (with_reducible refine (CM.out _ (by first | assumption | exact And.left (by assumption) | exact Below.refl _ _)).mono ?_); rintro e wn ⟨rfl, hb⟩)))
        refine hK.out _ _ ?_ (fun hHeld2 => ?_)
        · first | assumption | (exact KEEP.out _ (below_step (by first | assumption | exact And.left (by assumption) | exact Below.refl _ _) hb))
        clear hK K hHeld
        have hHeld := hHeld2; clear hHeld2
        (try simp only [Act.put, List.setIfInBounds_toArray, List.set_cons_zero, List.set_cons_succ])
        refine wpAnyH_take (i := 30) (oi := ⟨some 123, _, _, _, _, _⟩) (v := ?_) rfl (by kernel_rfl) (by kernel_rfl) (by kernel_rfl) (fun _ _ _ h => h) ?_ (by assumption) ?_; rotate_left; (focus (refine Or.inl ⟨rfl, ?_⟩; intro w hSw; (try dsimp only at hSw); go_simp; (try with_reducible rfl); done)); (try simp only [Act.put, List.setIfInBounds_toArray, List.set_cons_zero, List.set_cons_succ])
        refine wpAnyH_take (i := 31) (oi := ⟨some 4, _, _, _, _, _⟩) (v := ?_) rfl (by kernel_rfl) (by kernel_rfl) (by kernel_rfl) (fun _ _ _ h => h) ?_ (by assumption) ?_; rotate_left; (focus (refine Or.inl ⟨rfl, ?_⟩; intro w hSw; (try dsimp only at hSw); go_simp; (try with_reducible rfl); done)); (try simp only [Act.put, List.setIfInBounds_toArray, List.set_cons_zero, List.set_cons_succ])
        refine wpAnyH_done (by kernel_rfl) ?_ _
        all_goals
          (try go_wp2)
          go_meet
          case rel =>
            exact ⟨rfl, ⟨below_step HB.out (by first | assumption | exact And.left (by assumption) | exact Below.refl _ _)⟩, ⟨blk_below XV.out (by first | assumption | exact And.left (by assumption) | exact Below.refl _ _)⟩, ⟨Rows4.below RX.out (by first | assumption | exact And.left (by assumption) | exact Below.refl _ _)⟩, ⟨blk_below BX.out (by first | assumption | exact And.left (by assumption) | exact Below.refl _ _)⟩⟩
      case rest =>
      clear HB XV RX BX
      obtain ⟨rfl, HB0, XV0, RX0, BX0⟩ := hcut
      have HB := Lib.hid HB0.out; clear HB0; have XV := Lib.hid XV0.out; clear XV0; have RX := Lib.hid RX0.out; clear RX0; have BX := Lib.hid BX0.out; clear BX0
      go_wp2
      all_goals (go_ret; exact ⟨rfl, HB.out⟩)
  | succ k2 =>
    have hlt : decide (i < (v.f5.length : Int)) = true := decide_eq_true (by omega)
    have h1 : i < (v.f5.length : Int) := by omega
    have h4 : i < (v.f4.length : Int) := by have := LN.out; omega
    have wi : wrap64 (i + 1) = i + 1 := Values.wrap_small _ (by omega) (by omega)
    have wi' : IntKind.i64.wrap (i + 1) = i + 1 := by rw [i64_w]; exact wi
    have HQ2 := Aside0.mk (show i + 1 + k2 = v.f5.length ∧ 0 ≤ i + 1 from ⟨by omega, by omega⟩)
    obtain ⟨k, hk⟩ : ∃ k, rdOf ByteArray.empty v.f5 i = k := ⟨_, rfl⟩
    have hkd : v.f5.getD i.toNat ByteArray.empty = k := hk
    have hks : k.size ≤ 32 := by rw [← hkd]; exact key_size KB.out i.toNat (by omega)
    have hko : keyI v.f5 k 0 = i := by rw [← hkd, keyI_own KB.out i.toNat (by omega)]; omega
    have GK := Lib.hid (HG.out k)
    rw [HX.out k (by omega), hko, if_neg (by omega)] at GK
    obtain ⟨X, hX⟩ : ∃ X, rd_T26 v.f4 i = X := ⟨_, rfl⟩
    obtain ⟨D, hD⟩ := deep_any X
    have DD := Lib.hid hD
    rw [hX] at GK
    have XE := Lib.hid hX
    have HKK := Lib.hid hk
    have HT2 : (th || (k.toList == key.toList)) = hasK (v.f5.take (i + 1).toNat) key := by
      rw [show (i + 1).toNat = i.toNat + 1 by omega, hasK_take v.f5 key i.toNat (by omega), hkd, ← HT.out]
    have HTT := Lib.hid HT2
    obtain ⟨ad5, ea5, hx5⟩ := Kd.at_string (Kd.C_below HR5.out HB.out) i hi0 h1
    rw [hk] at hx5
    have z0 := eq_true hi0; have z1 := eq_true h1; have z4 := eq_true h4
    have HH := Lib.hid (And.intro hi0 h4)
    subst ea5
    clear hi1 hi0 h64 hk hkd hks hko hX hD HT2 h1 h4 HT
    go_upto_region 9 with (fail)
    go_cut [7, 8] (fun v7 v8 wc => ∃ (gx : Nat) (E2 : Option Addr) (e2 : Nat) (F2 : Option Addr) (f2 : Nat), v7 = .pointer (some ⟨gx, 0, none⟩) ∧ v8 = .int .i64 0 ∧ Aside0 (Below w.heap.size w wc) ∧ Aside0 (wc.heap[gv]? = some (.cells #[.int .i64 v.f0, .int .i64 v.f1, .int .u64 v.f2, .string v.f3, .slice A4 v.f4.length c4, .slice (some ad5) v.f5.length c5] 26 (0, 0))) ∧ Aside0 (wc.heap[gx]? = some (.cells #[.int .i64 X.f0, .int .i64 X.f1, .int .u64 X.f2, .string X.f3, .slice E2 X.f4.length e2, .slice F2 X.f5.length f2] 26 (0, 0))) ∧ Aside0 (Rows4 wc X E2 e2 F2 f2))
    case first =>
      have XVD := Lib.hid (blk_below XV.out (below_drew (Below.refl wr.heap.size wr)))
      have hx5D := pw_cell_below (below_drew (Below.refl wr.heap.size wr)) hx5
      have hbn := below_drew (Below.refl wr.heap.size wr)
      have HB' := Lib.hid (below_step HB.out hbn); have XV' := Lib.hid (blk_below XV.out hbn); clear HB; have HB := HB'; clear HB'; clear XV; have XV := XV'; clear XV'
      clear hbn
      (try clear l0 l1 l2 l3 l4 l5 v0 v1 v2 v3 v4 v5)
      clear hx5
      generalize hWD : wr.drew = wd at *
      have KEEP := Lib.hid (show ∀ w', Below wd.heap.size wd w' → (fun w' => Below wd.heap.size wd w' ∧ w'.cell? ⟨gv, 0, none⟩ = some (.int .i64 v.f0) ∧ w'.cell? ⟨gv, 1, none⟩ = some (.int .i64 v.f1) ∧ w'.cell? ⟨gv, 2, none⟩ = some (.int .u64 v.f2) ∧ w'.cell? ⟨gv, 3, none⟩ = some (.string v.f3) ∧ w'.cell? ⟨gv, 4, none⟩ = some (.slice A4 v.f4.length c4) ∧ w'.cell? ⟨gv, 5, none⟩ = some (.slice (some ad5) v.f5.length c5) ∧ w'.cell? (ad5.add i.toNat) = some (.string k)) w' from fun w' h => ⟨h, (blk_cell (blk_below XVD.out h) 0).trans rfl, (blk_cell (blk_below XVD.out h) 1).trans rfl, (blk_cell (blk_below XVD.out h) 2).trans rfl, (blk_cell (blk_below XVD.out h) 3).trans rfl, (blk_cell (blk_below XVD.out h) 4).trans rfl, (blk_cell (blk_below XVD.out h) 5).trans rfl, pw_cell_below h hx5D⟩)
      refine wp_region_held_drew (S := (fun w' => Below wd.heap.size wd w' ∧ w'.cell? ⟨gv, 0, none⟩ = some (.int .i64 v.f0) ∧ w'.cell? ⟨gv, 1, none⟩ = some (.int .i64 v.f1) ∧ w'.cell? ⟨gv, 2, none⟩ = some (.int .u64 v.f2) ∧ w'.cell? ⟨gv, 3, none⟩ = some (.string v.f3) ∧ w'.cell? ⟨gv, 4, none⟩ = some (.slice A4 v.f4.length c4) ∧ w'.cell? ⟨gv, 5, none⟩ = some (.slice (some ad5) v.f5.length c5) ∧ w'.cell? (ad5.add i.toNat) = some (.string k))) (by kernel_rfl) ?_ (fun hHeld => ?_)
      · rw [hWD]; exact KEEP.out _ (Below.refl _ _)
      rw [hWD] at hHeld ⊢
      clear hWD XVD hx5D
      have HN := Lib.hid (Below.refl wd.heap.size wd)
      refine wpAnyH_take (i := 0) (oi := ⟨some 38, _, _, _, _, _⟩) (v := ?_) rfl (by as_aux_lemma => kernel_rfl) (by as_aux_lemma => kernel_rfl) (by as_aux_lemma => kernel_rfl) (fun _ _ _ h => h) ?_ (by assumption) ?_; rotate_left; (focus (refine Or.inl ⟨rfl, ?_⟩; intro w hSw; (try dsimp only at hSw); go_simp; (try with_reducible rfl); done)); (try simp only [Act.put, List.setIfInBounds_toArray, List.set_cons_zero, List.set_cons_succ])
      refine wpAnyH_take (i := 1) (oi := ⟨some 39, _, _, _, _, _⟩) (v := ?_) rfl (by as_aux_lemma => kernel_rfl) (by as_aux_lemma => kernel_rfl) (by as_aux_lemma => kernel_rfl) (fun _ _ _ h => h) ?_ (by assumption) ?_; rotate_left; (focus (refine Or.inl ⟨rfl, ?_⟩; intro w hSw; (try dsimp only at hSw); go_simp; (try with_reducible rfl); done)); (try simp only [Act.put, List.setIfInBounds_toArray, List.set_cons_zero, List.set_cons_succ])
      refine wpAnyH_take (i := 2) (oi := ⟨some 40, _, _, _, _, _⟩) (v := ?_) rfl (by as_aux_lemma => kernel_rfl) (by as_aux_lemma => kernel_rfl) (by as_aux_lemma => kernel_rfl) (fun _ _ _ h => h) ?_ (by assumption) ?_; rotate_left; (focus (refine Or.inl ⟨rfl, ?_⟩; intro w hSw; (try dsimp only at hSw); go_simp; (try with_reducible rfl); done)); (try simp only [Act.put, List.setIfInBounds_toArray, List.set_cons_zero, List.set_cons_succ])
      refine wpAnyH_take (i := 3) (oi := ⟨some 41, _, _, _, _, _⟩) (v := ?_) rfl (by as_aux_lemma => kernel_rfl) (by as_aux_lemma => kernel_rfl) (by as_aux_lemma => kernel_rfl) (fun _ _ _ h => h) ?_ (by assumption) ?_; rotate_left; (focus (refine Or.inl ⟨rfl, ?_⟩; intro w hSw; (try dsimp only at hSw); go_simp; (try with_reducible rfl); done)); (try simp only [Act.put, List.setIfInBounds_toArray, List.set_cons_zero, List.set_cons_succ])
      refine wpAnyH_take (i := 4) (oi := ⟨some 42, _, _, _, _, _⟩) (v := ?_) rfl (by as_aux_lemma => kernel_rfl) (by as_aux_lemma => kernel_rfl) (by as_aux_lemma => kernel_rfl) (fun _ _ _ h => h) ?_ (by assumption) ?_; rotate_left; (focus (refine Or.inl ⟨rfl, ?_⟩; intro w hSw; (try dsimp only at hSw); go_simp; (try with_reducible rfl); done)); (try simp only [Act.put, List.setIfInBounds_toArray, List.set_cons_zero, List.set_cons_succ])
      refine wpAnyH_take (i := 5) (oi := ⟨some 43, _, _, _, _, _⟩) (v := ?_) rfl (by as_aux_lemma => kernel_rfl) (by as_aux_lemma => kernel_rfl) (by as_aux_lemma => kernel_rfl) (fun _ _ _ h => h) ?_ (by assumption) ?_; rotate_left; (focus (refine Or.inl ⟨rfl, ?_⟩; intro w hSw; (try dsimp only at hSw); go_simp; (try with_reducible rfl); done)); (try simp only [Act.put, List.setIfInBounds_toArray, List.set_cons_zero, List.set_cons_succ])
      refine wpAnyH_ready (rs := [6, 12]) (by kernel_rfl) (by simp) ?_
      refine AllReadyH.cons (o := ⟨some 44, _, _, _, _, _⟩) rfl (fun K hK => ?_) (AllReadyH.cons (o := ⟨some 7, _, _, _, _, _⟩) rfl (fun K hK => ?_) AllReadyH.nil)
      · go_simp
        go_at_call 45
        (with_reducible refine (CT.out _ _).mono ?_)
        rintro e wn ⟨rfl, hb⟩
        refine hK.out _ _ (KEEP.out _ (below_step HN.out hb)) (fun hHeld2 => ?_)
        have HN' := Lib.hid (below_step HN.out hb); clear HN; have HN := HN'; clear HN'
        clear hb; clear hK K hHeld; have hHeld := hHeld2; clear hHeld2; (try simp only [Act.put, List.setIfInBounds_toArray, List.set_cons_zero, List.set_cons_succ])
        refine wpAnyH_ready (rs := [7, 12]) (by kernel_rfl) (by simp) ?_
        refine AllReadyH.cons (o := ⟨some 45, _, _, _, _, _⟩) rfl (fun K hK => ?_) (AllReadyH.cons (o := ⟨some 7, _, _, _, _, _⟩) rfl (fun K hK => ?_) AllReadyH.nil)
        · go_simp
          have hb := below_alloc (Below.refl wn.heap.size wn) (.cells #[.int .i64 v.f0, .int .i64 v.f1, .int .u64 v.f2, .string v.f3, .slice A4 v.f4.length c4, .slice (some ad5) v.f5.length c5, .int .i64 4, .int .i64 0, .int .u64 0, .string k, .slice none 0 0, .slice none 0 0] 26)
          refine hK.out _ _ (KEEP.out _ (below_step HN.out hb)) (fun hHeld2 => ?_)
          have GA := Lib.hid (blk_new wn (.cells #[.int .i64 v.f0, .int .i64 v.f1, .int .u64 v.f2, .string v.f3, .slice A4 v.f4.length c4, .slice (some ad5) v.f5.length c5, .int .i64 4, .int .i64 0, .int .u64 0, .string k, .slice none 0 0, .slice none 0 0] 26))
          have HN' := Lib.hid (below_step HN.out hb); clear HN; have HN := HN'; clear HN'
          clear hb; clear hK K hHeld; have hHeld := hHeld2; clear hHeld2; (try simp only [Act.put, List.setIfInBounds_toArray, List.set_cons_zero, List.set_cons_succ])
          generalize hgk : wn.alloc (.cells #[.int .i64 v.f0, .int .i64 v.f1, .int .u64 v.f2, .string v.f3, .slice A4 v.f4.length c4, .slice (some ad5) v.f5.length c5, .int .i64 4, .int .i64 0, .int .u64 0, .string k, .slice none 0 0, .slice none 0 0] 26) = wk at *; clear hgk
          obtain ⟨gk_, hgk⟩ : ∃ gk_, wn.heap.size = gk_ := ⟨_, rfl⟩; rw [hgk] at GA; (try rw [hgk]); clear hgk
          refine wpAnyH_ready (rs := [8, 12]) (by kernel_rfl) (by simp) ?_
          refine AllReadyH.cons (o := ⟨some 46, _, _, _, _, _⟩) rfl (fun K hK => ?_) (AllReadyH.cons (o := ⟨some 7, _, _, _, _, _⟩) rfl (fun K hK => ?_) AllReadyH.nil)
          · go_simp
            go_at_call 42
            (with_reducible refine (GK.out _ _ (below_step HB.out HN.out) GA.out).mono ?_)
            rintro e wm ⟨v4, v5, rfl, hk4, hk5, hb⟩
            obtain ⟨E2, e2, rfl⟩ := Kd.R_slice hk4; obtain ⟨F2, f2, rfl⟩ := Kd.R_slice hk5; have RK := Lib.hid (And.intro hk4 hk5); clear hk4 hk5
            refine hK.out _ _ (KEEP.out _ (below_step HN.out hb)) (fun hHeld2 => ?_)
            have HN' := Lib.hid (below_step HN.out hb); clear HN; have HN := HN'; clear HN'
            clear hb GA; clear hK K hHeld; have hHeld := hHeld2; clear hHeld2; (try simp only [Act.put, List.setIfInBounds_toArray, List.set_cons_zero, List.set_cons_succ])
            refine wpAnyH_take (i := 9) (oi := ⟨some 37, _, _, _, _, _⟩) (v := ?_) rfl (by as_aux_lemma => kernel_rfl) (by as_aux_lemma => kernel_rfl) (by as_aux_lemma => kernel_rfl) (fun _ _ _ h => h) ?_ (by assumption) ?_; rotate_left; (focus (refine Or.inl ⟨rfl, ?_⟩; intro w hSw; (try dsimp only at hSw); go_simp; (try with_reducible rfl); done)); (try simp only [Act.put, List.setIfInBounds_toArray, List.set_cons_zero, List.set_cons_succ])
            refine wpAnyH_take (i := 10) (oi := ⟨some 47, _, _, _, _, _⟩) (v := ?_) rfl (by as_aux_lemma => kernel_rfl) (by as_aux_lemma => kernel_rfl) (by as_aux_lemma => kernel_rfl) (fun _ _ _ h => h) ?_ (by assumption) ?_; rotate_left; (focus (refine Or.inl ⟨rfl, ?_⟩; intro w hSw; (try dsimp only at hSw); go_simp; (try with_reducible rfl); done)); (try simp only [Act.put, List.setIfInBounds_toArray, List.set_cons_zero, List.set_cons_succ])
            refine wpAnyH_take (i := 11) (oi := ⟨some 48, _, _, _, _, _⟩) (v := ?_) rfl (by as_aux_lemma => kernel_rfl) (by as_aux_lemma => kernel_rfl) (by as_aux_lemma => kernel_rfl) (fun _ _ _ h => h) ?_ (by assumption) ?_; rotate_left; (focus (refine Or.inl ⟨rfl, ?_⟩; intro w hSw; (try dsimp only at hSw); go_simp; (try with_reducible rfl); done)); (try simp only [Act.put, List.setIfInBounds_toArray, List.set_cons_zero, List.set_cons_succ])
            refine wpAnyH_ready (rs := [12]) (by kernel_rfl) (by simp) ?_
            refine AllReadyH.cons (o := ⟨some 7, _, _, _, _, _⟩) rfl (fun K hK => ?_) AllReadyH.nil
            go_simp
            have hb := below_alloc (Below.refl wm.heap.size wm) zeros
            refine hK.out _ _ (KEEP.out _ (below_step HN.out hb)) (fun hHeld2 => ?_)
            have BXZ := Lib.hid (blk_new wm zeros)
            have HNA := Lib.hid (below_step HN.out hb)
            clear hb; clear hK K hHeld; have hHeld := hHeld2; clear hHeld2; (try simp only [Act.put, List.setIfInBounds_toArray, List.set_cons_zero, List.set_cons_succ])
            refine wpAnyH_ready (rs := [13]) (by kernel_rfl) (by simp) ?_
            refine AllReadyH.cons (o := ⟨none, _, _, _, _, _⟩) rfl (fun K hK => ?_) AllReadyH.nil
            have HF := Lib.hid (below_alloc HN.out (.cells #[.int .i64 X.f0, .int .i64 X.f1, .int .u64 X.f2, .string X.f3, .slice E2 X.f4.length e2, .slice F2 X.f5.length f2] 26))
            have HX := Lib.hid (blk_new wm (.cells #[.int .i64 X.f0, .int .i64 X.f1, .int .u64 X.f2, .string X.f3, .slice E2 X.f4.length e2, .slice F2 X.f5.length f2] 26))
            have HRW := Lib.hid (rows_from RK.out (same_alloc wm (.cells #[.int .i64 X.f0, .int .i64 X.f1, .int .u64 X.f2, .string X.f3, .slice E2 X.f4.length e2, .slice F2 X.f5.length f2] 26) _))
            go_simp
            refine hK.out _ _ (KEEP.out _ HF.out) (fun hHeld2 => ?_)
            clear hK K hHeld; have hHeld := hHeld2; clear hHeld2; (try simp only [Act.put, List.setIfInBounds_toArray, List.set_cons_zero, List.set_cons_succ])
            refine wpAnyH_take (i := 14) (oi := ⟨some 8, _, _, _, _, _⟩) (v := ?_) rfl (by as_aux_lemma => kernel_rfl) (by as_aux_lemma => kernel_rfl) (by as_aux_lemma => kernel_rfl) (fun _ _ _ h => h) ?_ (by assumption) ?_; rotate_left; (focus (refine Or.inl ⟨rfl, ?_⟩; intro w hSw; (try dsimp only at hSw); go_simp; (try with_reducible rfl); done)); (try simp only [Act.put, List.setIfInBounds_toArray, List.set_cons_zero, List.set_cons_succ])
            refine wpAnyH_done (by kernel_rfl) ?_ _
            go_wp2
            go_meet
            case rel =>
              exact ⟨_, _, _, _, _, rfl, rfl, ⟨below_step HB.out HF.out⟩, ⟨blk_below XV.out HF.out⟩, ⟨HX.out⟩, ⟨HRW.out⟩⟩
          · go_simp
            have hb := below_alloc (Below.refl wk.heap.size wk) zeros
            refine hK.out _ _ (KEEP.out _ (below_step HN.out hb)) (fun hHeld2 => ?_)
            have BXZ := Lib.hid (blk_new wk zeros)
            have HGX := Lib.hid (below_size HN.out)
            have HN' := Lib.hid (below_step HN.out hb); clear HN; have HN := HN'; clear HN'
            have GA' := Lib.hid (blk_below GA.out hb); clear GA; have GA := GA'; clear GA'
            clear hb; clear hK K hHeld; have hHeld := hHeld2; clear hHeld2; (try simp only [Act.put, List.setIfInBounds_toArray, List.set_cons_zero, List.set_cons_succ])
            generalize hgx : wk.alloc zeros = wx at *; clear hgx
            refine wpAnyH_ready (rs := [8]) (by kernel_rfl) (by simp) ?_
            refine AllReadyH.cons (o := ⟨some 46, _, _, _, _, _⟩) rfl (fun K hK => ?_) AllReadyH.nil
            go_simp
            go_at_call 42
            (with_reducible refine (GK.out _ _ (below_step HB.out HN.out) GA.out).mono ?_)
            rintro e wm ⟨v4, v5, rfl, hk4, hk5, hb⟩
            obtain ⟨E2, e2, rfl⟩ := Kd.R_slice hk4; obtain ⟨F2, f2, rfl⟩ := Kd.R_slice hk5; have RK := Lib.hid (And.intro hk4 hk5); clear hk4 hk5
            refine hK.out _ _ (KEEP.out _ (below_step HN.out hb)) (fun hHeld2 => ?_)
            have HGL := Lib.hid (blk_lt BXZ.out)
            have HN' := Lib.hid (below_step HN.out hb); clear HN; have HN := HN'; clear HN'; have BXZ' := Lib.hid (blk_below BXZ.out hb); clear BXZ; have BXZ := BXZ'; clear BXZ'
            clear hb GA; clear hK K hHeld; have hHeld := hHeld2; clear hHeld2; (try simp only [Act.put, List.setIfInBounds_toArray, List.set_cons_zero, List.set_cons_succ])
            refine wpAnyH_take (i := 9) (oi := ⟨some 37, _, _, _, _, _⟩) (v := ?_) rfl (by as_aux_lemma => kernel_rfl) (by as_aux_lemma => kernel_rfl) (by as_aux_lemma => kernel_rfl) (fun _ _ _ h => h) ?_ (by assumption) ?_; rotate_left; (focus (refine Or.inl ⟨rfl, ?_⟩; intro w hSw; (try dsimp only at hSw); go_simp; (try with_reducible rfl); done)); (try simp only [Act.put, List.setIfInBounds_toArray, List.set_cons_zero, List.set_cons_succ])
            refine wpAnyH_take (i := 10) (oi := ⟨some 47, _, _, _, _, _⟩) (v := ?_) rfl (by as_aux_lemma => kernel_rfl) (by as_aux_lemma => kernel_rfl) (by as_aux_lemma => kernel_rfl) (fun _ _ _ h => h) ?_ (by assumption) ?_; rotate_left; (focus (refine Or.inl ⟨rfl, ?_⟩; intro w hSw; (try dsimp only at hSw); go_simp; (try with_reducible rfl); done)); (try simp only [Act.put, List.setIfInBounds_toArray, List.set_cons_zero, List.set_cons_succ])
            refine wpAnyH_take (i := 11) (oi := ⟨some 48, _, _, _, _, _⟩) (v := ?_) rfl (by as_aux_lemma => kernel_rfl) (by as_aux_lemma => kernel_rfl) (by as_aux_lemma => kernel_rfl) (fun _ _ _ h => h) ?_ (by assumption) ?_; rotate_left; (focus (refine Or.inl ⟨rfl, ?_⟩; intro w hSw; (try dsimp only at hSw); go_simp; (try with_reducible rfl); done)); (try simp only [Act.put, List.setIfInBounds_toArray, List.set_cons_zero, List.set_cons_succ])
            refine wpAnyH_ready (rs := [13]) (by kernel_rfl) (by simp) ?_
            refine AllReadyH.cons (o := ⟨none, _, _, _, _, _⟩) rfl (fun K hK => ?_) AllReadyH.nil
            have nz0 := (blk_cell BXZ.out 0).trans rfl; have fz0 := blk_frozen BXZ.out 0; have nz1 := (blk_cell BXZ.out 1).trans rfl; have fz1 := blk_frozen BXZ.out 1; have nz2 := (blk_cell BXZ.out 2).trans rfl; have fz2 := blk_frozen BXZ.out 2; have nz3 := (blk_cell BXZ.out 3).trans rfl; have fz3 := blk_frozen BXZ.out 3; have nz4 := (blk_cell BXZ.out 4).trans rfl; have fz4 := blk_frozen BXZ.out 4; have nz5 := (blk_cell BXZ.out 5).trans rfl; have fz5 := blk_frozen BXZ.out 5
            go_simp
            have HF := Lib.hid (six_below HN.out HGX.out (.int .i64 X.f0) (.int .i64 X.f1) (.int .u64 X.f2) (.string X.f3) (.slice E2 X.f4.length e2) (.slice F2 X.f5.length f2))
            have HX := Lib.hid (six_put BXZ.out (.int .i64 X.f0) (.int .i64 X.f1) (.int .u64 X.f2) (.string X.f3) (.slice E2 X.f4.length e2) (.slice F2 X.f5.length f2))
            have HRW := Lib.hid (rows_from RK.out (same_six HGL.out (.int .i64 X.f0) (.int .i64 X.f1) (.int .u64 X.f2) (.string X.f3) (.slice E2 X.f4.length e2) (.slice F2 X.f5.length f2)))
            clear nz0 nz1 nz2 nz3 nz4 nz5 fz0 fz1 fz2 fz3 fz4 fz5
            refine hK.out _ _ (KEEP.out _ HF.out) (fun hHeld2 => ?_)
            clear hK K hHeld; have hHeld := hHeld2; clear hHeld2; (try simp only [Act.put, List.setIfInBounds_toArray, List.set_cons_zero, List.set_cons_succ])
            refine wpAnyH_take (i := 14) (oi := ⟨some 8, _, _, _, _, _⟩) (v := ?_) rfl (by as_aux_lemma => kernel_rfl) (by as_aux_lemma => kernel_rfl) (by as_aux_lemma => kernel_rfl) (fun _ _ _ h => h) ?_ (by assumption) ?_; rotate_left; (focus (refine Or.inl ⟨rfl, ?_⟩; intro w hSw; (try dsimp only at hSw); go_simp; (try with_reducible rfl); done)); (try simp only [Act.put, List.setIfInBounds_toArray, List.set_cons_zero, List.set_cons_succ])
            refine wpAnyH_done (by kernel_rfl) ?_ _
            go_wp2
            go_meet
            case rel =>
              exact ⟨_, _, _, _, _, rfl, rfl, ⟨below_step HB.out HF.out⟩, ⟨blk_below XV.out HF.out⟩, ⟨HX.out⟩, ⟨HRW.out⟩⟩
        · go_simp
          have hb := below_alloc (Below.refl wn.heap.size wn) zeros
          refine hK.out _ _ (KEEP.out _ (below_step HN.out hb)) (fun hHeld2 => ?_)
          have BXZ := Lib.hid (blk_new wn zeros)
          have HGX := Lib.hid (below_size HN.out)
          have HN' := Lib.hid (below_step HN.out hb); clear HN; have HN := HN'; clear HN'
          clear hb; clear hK K hHeld; have hHeld := hHeld2; clear hHeld2; (try simp only [Act.put, List.setIfInBounds_toArray, List.set_cons_zero, List.set_cons_succ])
          generalize hgx : wn.alloc zeros = wx at *; clear hgx
          refine wpAnyH_ready (rs := [7]) (by kernel_rfl) (by simp) ?_
          refine AllReadyH.cons (o := ⟨some 45, _, _, _, _, _⟩) rfl (fun K hK => ?_) AllReadyH.nil
          go_simp
          have hb := below_alloc (Below.refl wx.heap.size wx) (.cells #[.int .i64 v.f0, .int .i64 v.f1, .int .u64 v.f2, .string v.f3, .slice A4 v.f4.length c4, .slice (some ad5) v.f5.length c5, .int .i64 4, .int .i64 0, .int .u64 0, .string k, .slice none 0 0, .slice none 0 0] 26)
          refine hK.out _ _ (KEEP.out _ (below_step HN.out hb)) (fun hHeld2 => ?_)
          have GA := Lib.hid (blk_new wx (.cells #[.int .i64 v.f0, .int .i64 v.f1, .int .u64 v.f2, .string v.f3, .slice A4 v.f4.length c4, .slice (some ad5) v.f5.length c5, .int .i64 4, .int .i64 0, .int .u64 0, .string k, .slice none 0 0, .slice none 0 0] 26))
          have HN' := Lib.hid (below_step HN.out hb); clear HN; have HN := HN'; clear HN'; have BXZ' := Lib.hid (blk_below BXZ.out hb); clear BXZ; have BXZ := BXZ'; clear BXZ'
          clear hb; clear hK K hHeld; have hHeld := hHeld2; clear hHeld2; (try simp only [Act.put, List.setIfInBounds_toArray, List.set_cons_zero, List.set_cons_succ])
          generalize hgk : wx.alloc (.cells #[.int .i64 v.f0, .int .i64 v.f1, .int .u64 v.f2, .string v.f3, .slice A4 v.f4.length c4, .slice (some ad5) v.f5.length c5, .int .i64 4, .int .i64 0, .int .u64 0, .string k, .slice none 0 0, .slice none 0 0] 26) = wk at *; clear hgk
          obtain ⟨gk_, hgk⟩ : ∃ gk_, wx.heap.size = gk_ := ⟨_, rfl⟩; rw [hgk] at GA; (try rw [hgk]); clear hgk
          refine wpAnyH_ready (rs := [8]) (by kernel_rfl) (by simp) ?_
          refine AllReadyH.cons (o := ⟨some 46, _, _, _, _, _⟩) rfl (fun K hK => ?_) AllReadyH.nil
          go_simp
          go_at_call 42
          (with_reducible refine (GK.out _ _ (below_step HB.out HN.out) GA.out).mono ?_)
          rintro e wm ⟨v4, v5, rfl, hk4, hk5, hb⟩
          obtain ⟨E2, e2, rfl⟩ := Kd.R_slice hk4; obtain ⟨F2, f2, rfl⟩ := Kd.R_slice hk5; have RK := Lib.hid (And.intro hk4 hk5); clear hk4 hk5
          refine hK.out _ _ (KEEP.out _ (below_step HN.out hb)) (fun hHeld2 => ?_)
          have HGL := Lib.hid (blk_lt BXZ.out)
          have HN' := Lib.hid (below_step HN.out hb); clear HN; have HN := HN'; clear HN'; have BXZ' := Lib.hid (blk_below BXZ.out hb); clear BXZ; have BXZ := BXZ'; clear BXZ'
          clear hb GA; clear hK K hHeld; have hHeld := hHeld2; clear hHeld2; (try simp only [Act.put, List.setIfInBounds_toArray, List.set_cons_zero, List.set_cons_succ])
          refine wpAnyH_take (i := 9) (oi := ⟨some 37, _, _, _, _, _⟩) (v := ?_) rfl (by as_aux_lemma => kernel_rfl) (by as_aux_lemma => kernel_rfl) (by as_aux_lemma => kernel_rfl) (fun _ _ _ h => h) ?_ (by assumption) ?_; rotate_left; (focus (refine Or.inl ⟨rfl, ?_⟩; intro w hSw; (try dsimp only at hSw); go_simp; (try with_reducible rfl); done)); (try simp only [Act.put, List.setIfInBounds_toArray, List.set_cons_zero, List.set_cons_succ])
          refine wpAnyH_take (i := 10) (oi := ⟨some 47, _, _, _, _, _⟩) (v := ?_) rfl (by as_aux_lemma => kernel_rfl) (by as_aux_lemma => kernel_rfl) (by as_aux_lemma => kernel_rfl) (fun _ _ _ h => h) ?_ (by assumption) ?_; rotate_left; (focus (refine Or.inl ⟨rfl, ?_⟩; intro w hSw; (try dsimp only at hSw); go_simp; (try with_reducible rfl); done)); (try simp only [Act.put, List.setIfInBounds_toArray, List.set_cons_zero, List.set_cons_succ])
          refine wpAnyH_take (i := 11) (oi := ⟨some 48, _, _, _, _, _⟩) (v := ?_) rfl (by as_aux_lemma => kernel_rfl) (by as_aux_lemma => kernel_rfl) (by as_aux_lemma => kernel_rfl) (fun _ _ _ h => h) ?_ (by assumption) ?_; rotate_left; (focus (refine Or.inl ⟨rfl, ?_⟩; intro w hSw; (try dsimp only at hSw); go_simp; (try with_reducible rfl); done)); (try simp only [Act.put, List.setIfInBounds_toArray, List.set_cons_zero, List.set_cons_succ])
          refine wpAnyH_ready (rs := [13]) (by kernel_rfl) (by simp) ?_
          refine AllReadyH.cons (o := ⟨none, _, _, _, _, _⟩) rfl (fun K hK => ?_) AllReadyH.nil
          have nz0 := (blk_cell BXZ.out 0).trans rfl; have fz0 := blk_frozen BXZ.out 0; have nz1 := (blk_cell BXZ.out 1).trans rfl; have fz1 := blk_frozen BXZ.out 1; have nz2 := (blk_cell BXZ.out 2).trans rfl; have fz2 := blk_frozen BXZ.out 2; have nz3 := (blk_cell BXZ.out 3).trans rfl; have fz3 := blk_frozen BXZ.out 3; have nz4 := (blk_cell BXZ.out 4).trans rfl; have fz4 := blk_frozen BXZ.out 4; have nz5 := (blk_cell BXZ.out 5).trans rfl; have fz5 := blk_frozen BXZ.out 5
          go_simp
          have HF := Lib.hid (six_below HN.out HGX.out (.int .i64 X.f0) (.int .i64 X.f1) (.int .u64 X.f2) (.string X.f3) (.slice E2 X.f4.length e2) (.slice F2 X.f5.length f2))
          have HX := Lib.hid (six_put BXZ.out (.int .i64 X.f0) (.int .i64 X.f1) (.int .u64 X.f2) (.string X.f3) (.slice E2 X.f4.length e2) (.slice F2 X.f5.length f2))
          have HRW := Lib.hid (rows_from RK.out (same_six HGL.out (.int .i64 X.f0) (.int .i64 X.f1) (.int .u64 X.f2) (.string X.f3) (.slice E2 X.f4.length e2) (.slice F2 X.f5.length f2)))
          clear nz0 nz1 nz2 nz3 nz4 nz5 fz0 fz1 fz2 fz3 fz4 fz5
          refine hK.out _ _ (KEEP.out _ HF.out) (fun hHeld2 => ?_)
          clear hK K hHeld; have hHeld := hHeld2; clear hHeld2; (try simp only [Act.put, List.setIfInBounds_toArray, List.set_cons_zero, List.set_cons_succ])
          refine wpAnyH_take (i := 14) (oi := ⟨some 8, _, _, _, _, _⟩) (v := ?_) rfl (by as_aux_lemma => kernel_rfl) (by as_aux_lemma => kernel_rfl) (by as_aux_lemma => kernel_rfl) (fun _ _ _ h => h) ?_ (by assumption) ?_; rotate_left; (focus (refine Or.inl ⟨rfl, ?_⟩; intro w hSw; (try dsimp only at hSw); go_simp; (try with_reducible rfl); done)); (try simp only [Act.put, List.setIfInBounds_toArray, List.set_cons_zero, List.set_cons_succ])
          refine wpAnyH_done (by kernel_rfl) ?_ _
          go_wp2
          go_meet
          case rel =>
            exact ⟨_, _, _, _, _, rfl, rfl, ⟨below_step HB.out HF.out⟩, ⟨blk_below XV.out HF.out⟩, ⟨HX.out⟩, ⟨HRW.out⟩⟩
      · go_simp
        have hb := below_alloc (Below.refl wd.heap.size wd) zeros
        refine hK.out _ _ (KEEP.out _ (below_step HN.out hb)) (fun hHeld2 => ?_)
        have BXZ := Lib.hid (blk_new wd zeros)
        have HGX := Lib.hid (below_size HN.out)
        have HN' := Lib.hid (below_step HN.out hb); clear HN; have HN := HN'; clear HN'
        clear hb; clear hK K hHeld; have hHeld := hHeld2; clear hHeld2; (try simp only [Act.put, List.setIfInBounds_toArray, List.set_cons_zero, List.set_cons_succ])
        generalize hgx : wd.alloc zeros = wx at *; clear hgx
        refine wpAnyH_ready (rs := [6]) (by kernel_rfl) (by simp) ?_
        refine AllReadyH.cons (o := ⟨some 44, _, _, _, _, _⟩) rfl (fun K hK => ?_) AllReadyH.nil
        go_simp
        go_at_call 45
        (with_reducible refine (CT.out _ _).mono ?_)
        rintro e wn ⟨rfl, hb⟩
        refine hK.out _ _ (KEEP.out _ (below_step HN.out hb)) (fun hHeld2 => ?_)
        have HN' := Lib.hid (below_step HN.out hb); clear HN; have HN := HN'; clear HN'; have BXZ' := Lib.hid (blk_below BXZ.out hb); clear BXZ; have BXZ := BXZ'; clear BXZ'
        clear hb; clear hK K hHeld; have hHeld := hHeld2; clear hHeld2; (try simp only [Act.put, List.setIfInBounds_toArray, List.set_cons_zero, List.set_cons_succ])
        refine wpAnyH_ready (rs := [7]) (by kernel_rfl) (by simp) ?_
        refine AllReadyH.cons (o := ⟨some 45, _, _, _, _, _⟩) rfl (fun K hK => ?_) AllReadyH.nil
        go_simp
        have hb := below_alloc (Below.refl wn.heap.size wn) (.cells #[.int .i64 v.f0, .int .i64 v.f1, .int .u64 v.f2, .string v.f3, .slice A4 v.f4.length c4, .slice (some ad5) v.f5.length c5, .int .i64 4, .int .i64 0, .int .u64 0, .string k, .slice none 0 0, .slice none 0 0] 26)
        refine hK.out _ _ (KEEP.out _ (below_step HN.out hb)) (fun hHeld2 => ?_)
        have GA := Lib.hid (blk_new wn (.cells #[.int .i64 v.f0, .int .i64 v.f1, .int .u64 v.f2, .string v.f3, .slice A4 v.f4.length c4, .slice (some ad5) v.f5.length c5, .int .i64 4, .int .i64 0, .int .u64 0, .string k, .slice none 0 0, .slice none 0 0] 26))
        have HN' := Lib.hid (below_step HN.out hb); clear HN; have HN := HN'; clear HN'; have BXZ' := Lib.hid (blk_below BXZ.out hb); clear BXZ; have BXZ := BXZ'; clear BXZ'
        clear hb; clear hK K hHeld; have hHeld := hHeld2; clear hHeld2; (try simp only [Act.put, List.setIfInBounds_toArray, List.set_cons_zero, List.set_cons_succ])
        generalize hgk : wn.alloc (.cells #[.int .i64 v.f0, .int .i64 v.f1, .int .u64 v.f2, .string v.f3, .slice A4 v.f4.length c4, .slice (some ad5) v.f5.length c5, .int .i64 4, .int .i64 0, .int .u64 0, .string k, .slice none 0 0, .slice none 0 0] 26) = wk at *; clear hgk
        obtain ⟨gk_, hgk⟩ : ∃ gk_, wn.heap.size = gk_ := ⟨_, rfl⟩; rw [hgk] at GA; (try rw [hgk]); clear hgk
        refine wpAnyH_ready (rs := [8]) (by kernel_rfl) (by simp) ?_
        refine AllReadyH.cons (o := ⟨some 46, _, _, _, _, _⟩) rfl (fun K hK => ?_) AllReadyH.nil
        go_simp
        go_at_call 42
        (with_reducible refine (GK.out _ _ (below_step HB.out HN.out) GA.out).mono ?_)
        rintro e wm ⟨v4, v5, rfl, hk4, hk5, hb⟩
        obtain ⟨E2, e2, rfl⟩ := Kd.R_slice hk4; obtain ⟨F2, f2, rfl⟩ := Kd.R_slice hk5; have RK := Lib.hid (And.intro hk4 hk5); clear hk4 hk5
        refine hK.out _ _ (KEEP.out _ (below_step HN.out hb)) (fun hHeld2 => ?_)
        have HGL := Lib.hid (blk_lt BXZ.out)
        have HN' := Lib.hid (below_step HN.out hb); clear HN; have HN := HN'; clear HN'; have BXZ' := Lib.hid (blk_below BXZ.out hb); clear BXZ; have BXZ := BXZ'; clear BXZ'
        clear hb GA; clear hK K hHeld; have hHeld := hHeld2; clear hHeld2; (try simp only [Act.put, List.setIfInBounds_toArray, List.set_cons_zero, List.set_cons_succ])
        refine wpAnyH_take (i := 9) (oi := ⟨some 37, _, _, _, _, _⟩) (v := ?_) rfl (by as_aux_lemma => kernel_rfl) (by as_aux_lemma => kernel_rfl) (by as_aux_lemma => kernel_rfl) (fun _ _ _ h => h) ?_ (by assumption) ?_; rotate_left; (focus (refine Or.inl ⟨rfl, ?_⟩; intro w hSw; (try dsimp only at hSw); go_simp; (try with_reducible rfl); done)); (try simp only [Act.put, List.setIfInBounds_toArray, List.set_cons_zero, List.set_cons_succ])
        refine wpAnyH_take (i := 10) (oi := ⟨some 47, _, _, _, _, _⟩) (v := ?_) rfl (by as_aux_lemma => kernel_rfl) (by as_aux_lemma => kernel_rfl) (by as_aux_lemma => kernel_rfl) (fun _ _ _ h => h) ?_ (by assumption) ?_; rotate_left; (focus (refine Or.inl ⟨rfl, ?_⟩; intro w hSw; (try dsimp only at hSw); go_simp; (try with_reducible rfl); done)); (try simp only [Act.put, List.setIfInBounds_toArray, List.set_cons_zero, List.set_cons_succ])
        refine wpAnyH_take (i := 11) (oi := ⟨some 48, _, _, _, _, _⟩) (v := ?_) rfl (by as_aux_lemma => kernel_rfl) (by as_aux_lemma => kernel_rfl) (by as_aux_lemma => kernel_rfl) (fun _ _ _ h => h) ?_ (by assumption) ?_; rotate_left; (focus (refine Or.inl ⟨rfl, ?_⟩; intro w hSw; (try dsimp only at hSw); go_simp; (try with_reducible rfl); done)); (try simp only [Act.put, List.setIfInBounds_toArray, List.set_cons_zero, List.set_cons_succ])
        refine wpAnyH_ready (rs := [13]) (by kernel_rfl) (by simp) ?_
        refine AllReadyH.cons (o := ⟨none, _, _, _, _, _⟩) rfl (fun K hK => ?_) AllReadyH.nil
        have nz0 := (blk_cell BXZ.out 0).trans rfl; have fz0 := blk_frozen BXZ.out 0; have nz1 := (blk_cell BXZ.out 1).trans rfl; have fz1 := blk_frozen BXZ.out 1; have nz2 := (blk_cell BXZ.out 2).trans rfl; have fz2 := blk_frozen BXZ.out 2; have nz3 := (blk_cell BXZ.out 3).trans rfl; have fz3 := blk_frozen BXZ.out 3; have nz4 := (blk_cell BXZ.out 4).trans rfl; have fz4 := blk_frozen BXZ.out 4; have nz5 := (blk_cell BXZ.out 5).trans rfl; have fz5 := blk_frozen BXZ.out 5
        go_simp
        have HF := Lib.hid (six_below HN.out HGX.out (.int .i64 X.f0) (.int .i64 X.f1) (.int .u64 X.f2) (.string X.f3) (.slice E2 X.f4.length e2) (.slice F2 X.f5.length f2))
        have HX := Lib.hid (six_put BXZ.out (.int .i64 X.f0) (.int .i64 X.f1) (.int .u64 X.f2) (.string X.f3) (.slice E2 X.f4.length e2) (.slice F2 X.f5.length f2))
        have HRW := Lib.hid (rows_from RK.out (same_six HGL.out (.int .i64 X.f0) (.int .i64 X.f1) (.int .u64 X.f2) (.string X.f3) (.slice E2 X.f4.length e2) (.slice F2 X.f5.length f2)))
        clear nz0 nz1 nz2 nz3 nz4 nz5 fz0 fz1 fz2 fz3 fz4 fz5
        refine hK.out _ _ (KEEP.out _ HF.out) (fun hHeld2 => ?_)
        clear hK K hHeld; have hHeld := hHeld2; clear hHeld2; (try simp only [Act.put, List.setIfInBounds_toArray, List.set_cons_zero, List.set_cons_succ])
        refine wpAnyH_take (i := 14) (oi := ⟨some 8, _, _, _, _, _⟩) (v := ?_) rfl (by as_aux_lemma => kernel_rfl) (by as_aux_lemma => kernel_rfl) (by as_aux_lemma => kernel_rfl) (fun _ _ _ h => h) ?_ (by assumption) ?_; rotate_left; (focus (refine Or.inl ⟨rfl, ?_⟩; intro w hSw; (try dsimp only at hSw); go_simp; (try with_reducible rfl); done)); (try simp only [Act.put, List.setIfInBounds_toArray, List.set_cons_zero, List.set_cons_succ])
        refine wpAnyH_done (by kernel_rfl) ?_ _
        go_wp2
        go_meet
        case rel =>
          exact ⟨_, _, _, _, _, rfl, rfl, ⟨below_step HB.out HF.out⟩, ⟨blk_below XV.out HF.out⟩, ⟨HX.out⟩, ⟨HRW.out⟩⟩
    case rest =>
    (try clear l0 l1 l2 l3 l4 l5)
    clear HB XV
    obtain ⟨gx, E2, e2, F2, f2, rfl, rfl, HB0, XV0, BX0, RX0⟩ := hcut
    have HB := Lib.hid HB0.out; clear HB0; have XV := Lib.hid XV0.out; clear XV0; have BX := Lib.hid BX0.out; clear BX0; have RX := Lib.hid RX0.out; clear RX0
    (try clear hx5 hx5a hx5d)
    have hx5 : wc.cell? (ad5.add i.toNat) = some (.string k) := by
      obtain ⟨ad', ea', hx'⟩ := Kd.at_string (Kd.C_below HR5.out HB.out) i HH.out.1 (by have := LN.out; have := HH.out.2; omega)
      obtain rfl := Option.some.inj ea'
      rw [hx']
      exact congrArg (fun z => some (Value.string z)) HKK.out
    obtain ⟨ad, G4, g4, G5, g5, ea, hAt, hl4, hk4, hl5, hk5⟩ := At.of_elem (Kd.C_below HR4.out HB.out) i HH.out.1 HH.out.2
    rw [XE.out] at hAt hl4 hk4 hl5 hk5
    subst ea
    have QX := Lib.hid (show Rows4 wc X G4 g4 G5 g5 from ⟨hk4, hl4, hk5, hl5⟩)
    have hbd := below_drew (Below.refl wc.heap.size wc)
    obtain ⟨q0, q1, q2, q3, q4, q5⟩ := hAt.below hbd
    clear hbd hAt hl4 hk4 hl5 hk5
    have CI := Lib.hid (fun W (h : Below wc.drew.heap.size wc.drew W) => sv_all D X X E2 e2 F2 f2 G4 g4 G5 g5 W DD.out (Rows4.below RX.out (below_step (below_drew (Below.refl _ _)) h)) (Rows4.below QX.out (below_step (below_drew (Below.refl _ _)) h)))
    rw [sv_refl D X DD.out] at CI
    go_upto_region 10 with (fail)
    clear hx5
    go_cut [61] (fun v61 wc => v61 = .bool false ∧ Aside0 (Below w.heap.size w wc) ∧ Aside0 (wc.heap[gv]? = some (.cells #[.int .i64 v.f0, .int .i64 v.f1, .int .u64 v.f2, .string v.f3, .slice (some ad) v.f4.length c4, .slice (some ad5) v.f5.length c5] 26 (0, 0))) ∧ Aside0 (wc.heap[gx]? = some (.cells #[.int .i64 X.f0, .int .i64 X.f1, .int .u64 X.f2, .string X.f3, .slice E2 X.f4.length e2, .slice F2 X.f5.length f2] 26 (0, 0))) ∧ Aside0 (Rows4 wc X E2 e2 F2 f2))
    case first =>
      have hbn := below_drew (Below.refl wc.heap.size wc)
      have HB' := Lib.hid (below_step HB.out hbn); have XV' := Lib.hid (blk_below XV.out hbn); have BX' := Lib.hid (blk_below BX.out hbn); have RX' := Lib.hid (Rows4.below RX.out hbn); clear HB; have HB := HB'; clear HB'; clear XV; have XV := XV'; clear XV'; clear BX; have BX := BX'; clear BX'; clear RX; have RX := RX'; clear RX'
      clear hbn
      have KEEP : ∀ w', Below wc.drew.heap.size wc.drew w' → (Below wc.drew.heap.size wc.drew w' ∧ w'.cell? ⟨gx, 0, none⟩ = some (.int .i64 X.f0) ∧ w'.cell? ⟨gx, 1, none⟩ = some (.int .i64 X.f1) ∧ w'.cell? ⟨gx, 2, none⟩ = some (.int .u64 X.f2) ∧ w'.cell? ⟨gx, 3, none⟩ = some (.string X.f3) ∧ w'.cell? ⟨gx, 4, none⟩ = some (.slice E2 X.f4.length e2) ∧ w'.cell? ⟨gx, 5, none⟩ = some (.slice F2 X.f5.length f2) ∧ w'.cell? ⟨gv, 0, none⟩ = some (.int .i64 v.f0) ∧ w'.cell? ⟨gv, 1, none⟩ = some (.int .i64 v.f1) ∧ w'.cell? ⟨gv, 2, none⟩ = some (.int .u64 v.f2) ∧ w'.cell? ⟨gv, 3, none⟩ = some (.string v.f3) ∧ w'.cell? ⟨gv, 4, none⟩ = some (.slice (some ad) v.f4.length c4) ∧ w'.cell? ⟨gv, 5, none⟩ = some (.slice (some ad5) v.f5.length c5) ∧ w'.cell? (ad.add (i.toNat * 6)) = some (.int .i64 X.f0) ∧ w'.cell? (⟨(ad.add (i.toNat * 6)).block, (ad.add (i.toNat * 6)).off + 1, none⟩) = some (.int .i64 X.f1) ∧ w'.cell? (⟨(ad.add (i.toNat * 6)).block, (ad.add (i.toNat * 6)).off + 2, none⟩) = some (.int .u64 X.f2) ∧ w'.cell? (⟨(ad.add (i.toNat * 6)).block, (ad.add (i.toNat * 6)).off + 3, none⟩) = some (.string X.f3) ∧ w'.cell? (⟨(ad.add (i.toNat * 6)).block, (ad.add (i.toNat * 6)).off + 4, none⟩) = some (.slice G4 X.f4.length g4) ∧ w'.cell? (⟨(ad.add (i.toNat * 6)).block, (ad.add (i.toNat * 6)).off + 5, none⟩) = some (.slice G5 X.f5.length g5)) := fun w' h => ⟨h, (At.of_box (blk_below BX.out h)).g0, (At.of_box (blk_below BX.out h)).g1, (At.of_box (blk_below BX.out h)).g2, (At.of_box (blk_below BX.out h)).g3, (At.of_box (blk_below BX.out h)).g4, (At.of_box (blk_below BX.out h)).g5, (At.of_box (blk_below XV.out h)).g0, (At.of_box (blk_below XV.out h)).g1, (At.of_box (blk_below XV.out h)).g2, (At.of_box (blk_below XV.out h)).g3, (At.of_box (blk_below XV.out h)).g4, (At.of_box (blk_below XV.out h)).g5, pw_cell_below h q0, pw_cell_below h q1, pw_cell_below h q2, pw_cell_below h q3, pw_cell_below h q4, pw_cell_below h q5⟩
      have KEEP := Lib.hid KEEP
      refine wp_region_held_drew (S := (fun w' => Below wc.drew.heap.size wc.drew w' ∧ w'.cell? ⟨gx, 0, none⟩ = some (.int .i64 X.f0) ∧ w'.cell? ⟨gx, 1, none⟩ = some (.int .i64 X.f1) ∧ w'.cell? ⟨gx, 2, none⟩ = some (.int .u64 X.f2) ∧ w'.cell? ⟨gx, 3, none⟩ = some (.string X.f3) ∧ w'.cell? ⟨gx, 4, none⟩ = some (.slice E2 X.f4.length e2) ∧ w'.cell? ⟨gx, 5, none⟩ = some (.slice F2 X.f5.length f2) ∧ w'.cell? ⟨gv, 0, none⟩ = some (.int .i64 v.f0) ∧ w'.cell? ⟨gv, 1, none⟩ = some (.int .i64 v.f1) ∧ w'.cell? ⟨gv, 2, none⟩ = some (.int .u64 v.f2) ∧ w'.cell? ⟨gv, 3, none⟩ = some (.string v.f3) ∧ w'.cell? ⟨gv, 4, none⟩ = some (.slice (some ad) v.f4.length c4) ∧ w'.cell? ⟨gv, 5, none⟩ = some (.slice (some ad5) v.f5.length c5) ∧ w'.cell? (ad.add (i.toNat * 6)) = some (.int .i64 X.f0) ∧ w'.cell? (⟨(ad.add (i.toNat * 6)).block, (ad.add (i.toNat * 6)).off + 1, none⟩) = some (.int .i64 X.f1) ∧ w'.cell? (⟨(ad.add (i.toNat * 6)).block, (ad.add (i.toNat * 6)).off + 2, none⟩) = some (.int .u64 X.f2) ∧ w'.cell? (⟨(ad.add (i.toNat * 6)).block, (ad.add (i.toNat * 6)).off + 3, none⟩) = some (.string X.f3) ∧ w'.cell? (⟨(ad.add (i.toNat * 6)).block, (ad.add (i.toNat * 6)).off + 4, none⟩) = some (.slice G4 X.f4.length g4) ∧ w'.cell? (⟨(ad.add (i.toNat * 6)).block, (ad.add (i.toNat * 6)).off + 5, none⟩) = some (.slice G5 X.f5.length g5))) (by kernel_rfl) ?_ (fun hHeld => ?_)
      · exact KEEP.out _ (Below.refl _ _)
      refine wpAnyH_take (i := 0) (oi := ⟨some 49, _, _, _, _, _⟩) (v := ?_) rfl (by kernel_rfl) (by kernel_rfl) (by kernel_rfl) (fun _ _ _ h => h) ?_ (by assumption) ?_; rotate_left; (focus (refine Or.inl ⟨rfl, ?_⟩; intro w hSw; (try dsimp only at hSw); go_simp; (try with_reducible rfl); done)); (try simp only [Act.put, List.setIfInBounds_toArray, List.set_cons_zero, List.set_cons_succ])
      refine wpAnyH_ready (rs := [1]) (by kernel_rfl) (by simp) ?_
      refine AllReadyH.cons (o := ⟨some 50, _, _, _, _, _⟩) rfl (fun K hK => ?_) AllReadyH.nil
      go_simp
      (try (first | (go_at_call 25; (with_reducible refine (numB _ _).mono ?_); rintro e wn ⟨rfl, hb⟩) | (go_at_call 26; (with_reducible refine (CI.out _ (by first | assumption | exact And.left (by assumption) | exact Below.refl _ _)).mono ?_); rintro e wn ⟨rfl, hb⟩)))
      refine hK.out _ _ ?_ (fun hHeld2 => ?_)
      · first | assumption | (exact KEEP.out _ (below_step (by first | assumption | exact And.left (by assumption) | exact Below.refl _ _) hb))
      clear hK K hHeld
      have hHeld := hHeld2; clear hHeld2
      (try simp only [Act.put, List.setIfInBounds_toArray, List.set_cons_zero, List.set_cons_succ])
      refine wpAnyH_take (i := 2) (oi := ⟨some 51, _, _, _, _, _⟩) (v := ?_) rfl (by kernel_rfl) (by kernel_rfl) (by kernel_rfl) (fun _ _ _ h => h) ?_ (by assumption) ?_; rotate_left; (focus (refine Or.inl ⟨rfl, ?_⟩; intro w hSw; (try dsimp only at hSw); go_simp; (try with_reducible rfl); done)); (try simp only [Act.put, List.setIfInBounds_toArray, List.set_cons_zero, List.set_cons_succ])
      refine wpAnyH_take (i := 3) (oi := ⟨some 52, _, _, _, _, _⟩) (v := ?_) rfl (by kernel_rfl) (by kernel_rfl) (by kernel_rfl) (fun _ _ _ h => h) ?_ (by assumption) ?_; rotate_left; (focus (refine Or.inl ⟨rfl, ?_⟩; intro w hSw; (try dsimp only at hSw); go_simp; (try with_reducible rfl); done)); (try simp only [Act.put, List.setIfInBounds_toArray, List.set_cons_zero, List.set_cons_succ])
      first | (refine wpAnyH_take (i := 4) (oi := ⟨some 53, _, _, _, _, _⟩) (v := ?_) rfl (by kernel_rfl) (by kernel_rfl) (by kernel_rfl) (fun _ _ _ h => h) ?_ (by assumption) ?_; rotate_left; (focus (refine Or.inl ⟨rfl, ?_⟩; intro w hSw; (try dsimp only at hSw); go_simp; (try with_reducible rfl); done)); (try simp only [Act.put, List.setIfInBounds_toArray, List.set_cons_zero, List.set_cons_succ])) | (refine wpAnyH_take (i := 4) (oi := ⟨some 53, _, _, _, _, _⟩) (v := undef) rfl (by kernel_rfl) (by kernel_rfl) (by kernel_rfl) (fun _ _ _ h => h) (Or.inr ⟨rfl, rfl⟩) (by assumption) ?_; (try simp only [Act.put, List.setIfInBounds_toArray, List.set_cons_zero, List.set_cons_succ]))
      first | (refine wpAnyH_take (i := 5) (oi := ⟨some 54, _, _, _, _, _⟩) (v := ?_) rfl (by kernel_rfl) (by kernel_rfl) (by kernel_rfl) (fun _ _ _ h => h) ?_ (by assumption) ?_; rotate_left; (focus (refine Or.inl ⟨rfl, ?_⟩; intro w hSw; (try dsimp only at hSw); go_simp; (try with_reducible rfl); done)); (try simp only [Act.put, List.setIfInBounds_toArray, List.set_cons_zero, List.set_cons_succ])) | (refine wpAnyH_take (i := 5) (oi := ⟨some 54, _, _, _, _, _⟩) (v := undef) rfl (by kernel_rfl) (by kernel_rfl) (by kernel_rfl) (fun _ _ _ h => h) (Or.inr ⟨rfl, rfl⟩) (by assumption) ?_; (try simp only [Act.put, List.setIfInBounds_toArray, List.set_cons_zero, List.set_cons_succ]))
      first | (refine wpAnyH_take (i := 6) (oi := ⟨some 55, _, _, _, _, _⟩) (v := ?_) rfl (by kernel_rfl) (by kernel_rfl) (by kernel_rfl) (fun _ _ _ h => h) ?_ (by assumption) ?_; rotate_left; (focus (refine Or.inl ⟨rfl, ?_⟩; intro w hSw; (try dsimp only at hSw); go_simp; (try with_reducible rfl); done)); (try simp only [Act.put, List.setIfInBounds_toArray, List.set_cons_zero, List.set_cons_succ])) | (refine wpAnyH_take (i := 6) (oi := ⟨some 55, _, _, _, _, _⟩) (v := undef) rfl (by kernel_rfl) (by kernel_rfl) (by kernel_rfl) (fun _ _ _ h => h) (Or.inr ⟨rfl, rfl⟩) (by assumption) ?_; (try simp only [Act.put, List.setIfInBounds_toArray, List.set_cons_zero, List.set_cons_succ]))
      first | (refine wpAnyH_take (i := 7) (oi := ⟨some 56, _, _, _, _, _⟩) (v := ?_) rfl (by kernel_rfl) (by kernel_rfl) (by kernel_rfl) (fun _ _ _ h => h) ?_ (by assumption) ?_; rotate_left; (focus (refine Or.inl ⟨rfl, ?_⟩; intro w hSw; (try dsimp only at hSw); go_simp; (try with_reducible rfl); done)); (try simp only [Act.put, List.setIfInBounds_toArray, List.set_cons_zero, List.set_cons_succ])) | (refine wpAnyH_take (i := 7) (oi := ⟨some 56, _, _, _, _, _⟩) (v := undef) rfl (by kernel_rfl) (by kernel_rfl) (by kernel_rfl) (fun _ _ _ h => h) (Or.inr ⟨rfl, rfl⟩) (by assumption) ?_; (try simp only [Act.put, List.setIfInBounds_toArray, List.set_cons_zero, List.set_cons_succ]))
      first | (refine wpAnyH_take (i := 8) (oi := ⟨some 57, _, _, _, _, _⟩) (v := ?_) rfl (by kernel_rfl) (by kernel_rfl) (by kernel_rfl) (fun _ _ _ h => h) ?_ (by assumption) ?_; rotate_left; (focus (refine Or.inl ⟨rfl, ?_⟩; intro w hSw; (try dsimp only at hSw); go_simp; (try with_reducible rfl); done)); (try simp only [Act.put, List.setIfInBounds_toArray, List.set_cons_zero, List.set_cons_succ])) | (refine wpAnyH_take (i := 8) (oi := ⟨some 57, _, _, _, _, _⟩) (v := undef) rfl (by kernel_rfl) (by kernel_rfl) (by kernel_rfl) (fun _ _ _ h => h) (Or.inr ⟨rfl, rfl⟩) (by assumption) ?_; (try simp only [Act.put, List.setIfInBounds_toArray, List.set_cons_zero, List.set_cons_succ]))
      first | (refine wpAnyH_take (i := 9) (oi := ⟨some 58, _, _, _, _, _⟩) (v := ?_) rfl (by kernel_rfl) (by kernel_rfl) (by kernel_rfl) (fun _ _ _ h => h) ?_ (by assumption) ?_; rotate_left; (focus (refine Or.inl ⟨rfl, ?_⟩; intro w hSw; (try dsimp only at hSw); go_simp; (try with_reducible rfl); done)); (try simp only [Act.put, List.setIfInBounds_toArray, List.set_cons_zero, List.set_cons_succ])) | (refine wpAnyH_take (i := 9) (oi := ⟨some 58, _, _, _, _, _⟩) (v := undef) rfl (by kernel_rfl) (by kernel_rfl) (by kernel_rfl) (fun _ _ _ h => h) (Or.inr ⟨rfl, rfl⟩) (by assumption) ?_; (try simp only [Act.put, List.setIfInBounds_toArray, List.set_cons_zero, List.set_cons_succ]))
      refine wpAnyH_ready (rs := [10]) (by kernel_rfl) (by simp) ?_
      refine AllReadyH.cons (o := ⟨some 59, _, _, _, _, _⟩) rfl (fun K hK => ?_) AllReadyH.nil
      go_simp
      (try (first | (go_at_call 25; (with_reducible refine (numB _ _).mono ?_); rintro e wn ⟨rfl, hb⟩) | (go_at_call 26; (with_reducible refine (CI.out _ (by first | assumption | exact And.left (by assumption) | exact Below.refl _ _)).mono ?_); rintro e wn ⟨rfl, hb⟩)))
      refine hK.out _ _ ?_ (fun hHeld2 => ?_)
      · first | assumption | (exact KEEP.out _ (below_step (by first | assumption | exact And.left (by assumption) | exact Below.refl _ _) hb))
      clear hK K hHeld
      have hHeld := hHeld2; clear hHeld2
      (try simp only [Act.put, List.setIfInBounds_toArray, List.set_cons_zero, List.set_cons_succ])
      first | (refine wpAnyH_take (i := 11) (oi := ⟨some 60, _, _, _, _, _⟩) (v := ?_) rfl (by kernel_rfl) (by kernel_rfl) (by kernel_rfl) (fun _ _ _ h => h) ?_ (by assumption) ?_; rotate_left; (focus (refine Or.inl ⟨rfl, ?_⟩; intro w hSw; (try dsimp only at hSw); go_simp; (try with_reducible rfl); done)); (try simp only [Act.put, List.setIfInBounds_toArray, List.set_cons_zero, List.set_cons_succ])) | (refine wpAnyH_take (i := 11) (oi := ⟨some 60, _, _, _, _, _⟩) (v := undef) rfl (by kernel_rfl) (by kernel_rfl) (by kernel_rfl) (fun _ _ _ h => h) (Or.inr ⟨rfl, rfl⟩) (by assumption) ?_; (try simp only [Act.put, List.setIfInBounds_toArray, List.set_cons_zero, List.set_cons_succ]))
      refine wpAnyH_take (i := 12) (oi := ⟨some 61, _, _, _, _, _⟩) (v := ?_) rfl (by kernel_rfl) (by kernel_rfl) (by kernel_rfl) (fun _ _ _ h => h) ?_ (by assumption) ?_; rotate_left; (focus (refine Or.inl ⟨rfl, ?_⟩; intro w hSw; (try dsimp only at hSw); go_simp; (try with_reducible rfl); done)); (try simp only [Act.put, List.setIfInBounds_toArray, List.set_cons_zero, List.set_cons_succ])
      refine wpAnyH_done (by kernel_rfl) ?_ _
      all_goals
        (try go_wp2)
        go_meet
        case rel =>
          exact ⟨rfl, ⟨below_step HB.out (by first | assumption | exact And.left (by assumption) | exact Below.refl _ _)⟩, ⟨blk_below XV.out (by first | assumption | exact And.left (by assumption) | exact Below.refl _ _)⟩, ⟨blk_below BX.out (by first | assumption | exact And.left (by assumption) | exact Below.refl _ _)⟩, ⟨Rows4.below RX.out (by first | assumption | exact And.left (by assumption) | exact Below.refl _ _)⟩⟩
    case rest =>
    clear HB XV BX RX
    obtain ⟨rfl, HB0, XV0, BX0, RX0⟩ := hcut
    have HB := Lib.hid HB0.out; clear HB0; have XV := Lib.hid XV0.out; clear XV0; have BX := Lib.hid BX0.out; clear BX0; have RX := Lib.hid RX0.out; clear RX0
    have hx5 : wc.cell? (ad5.add i.toNat) = some (.string k) := by
      obtain ⟨ad', ea', hx'⟩ := Kd.at_string (Kd.C_below HR5.out HB.out) i HH.out.1 (by have := LN.out; have := HH.out.2; omega)
      obtain rfl := Option.some.inj ea'
      rw [hx']
      exact congrArg (fun z => some (Value.string z)) HKK.out
    obtain ⟨v0, v1, v2, v3, v4, v5⟩ := At.of_box XV.out
    cases th
    all_goals
      go_wp2
      all_goals
        go_roundg k2
        case measure => omega
        case rel => exact ⟨_, i + 1, rfl, rfl, HQ2, ⟨by simpa using HTT.out⟩, ⟨HB.out⟩, ⟨XV.out⟩⟩
end Go.Proofs.YtepolmajebdphaaDoor.Fns
