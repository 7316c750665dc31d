/- The law EvalRows, walked: whatever the pipe and the Env, its answer is true. -/
import Derived.Test.YtdghnfmhcnlppaaGreatDoorRowsP
import Derived.Test.YtdghnfmhcnlppaaGreatDoorEnvMay
import Derived.Test.YtdghnfmhcnlppaaGreatDoorMayRef
import Derived.Test.YtdghnfmhcnlppaaGreatDoorRowsFrame
namespace Go.Proofs.YtdghnfmhcnlppaaGreatDoor.Eval
open Go.RowKit Go.Proofs.YtdghnfmhcnlppaaGreatDoor.Q Go.Proofs.YtdghnfmhcnlppaaGreatDoor.Real Go.Proofs.YtdghnfmhcnlppaaGreatDoor.RealPure Go.Proofs.YtdghnfmhcnlppaaGreatDoor.Values Go.Proofs.YtdghnfmhcnlppaaGreatDoor.Fns Go.Proofs.YtdghnfmhcnlppaaGreatDoorW.PrintWords Go.Proofs.YtdghnfmhcnlppaaGreatDoorW.PrintLast Go.Proofs.YtdghnfmhcnlppaaGreatDoorW.PrintMore
set_option linter.unusedSimpArgs false
set_option linter.unusedVariables false

theorem C_oneR {α : Type} {d : Kd α} {w : World} {ad : Addr} {n : Nat} {xs : List α} (z : α) (h : d.C w (some ad) n xs) (i : Nat) (hi : i < n) : d.C w (some (ad.add (i * d.sz))) 1 [xs.getD i z] := by
  obtain ⟨ad', c, e, hl, hK, hc⟩ := Kd.C_get h z (i : Int) (by omega) (by omega)
  obtain rfl : ad = ad' := Option.some.inj e
  have ti : (i : Int).toNat = i := by omega
  rw [ti] at hK hc
  refine ⟨rfl, by decide, fun _ => ⟨_, rfl, fun j p hj => ?_⟩⟩
  cases j with
  | succ j => simp at hj
  | zero =>
    obtain rfl : rdOf z xs (i : Int) = p := by
      have e : rdOf z xs (i : Int) = xs.getD i z := by unfold rdOf; rw [ti]
      rw [e]; exact Option.some.inj hj
    refine ⟨c, hl, hK, fun k u hu => ?_⟩
    rw [Nat.zero_mul, Nat.zero_add, Addr.add_add]
    exact hc k u hu
theorem box2 {w : World} {g : Nat} {v0 v1 : Value} {t : Nat} (h : w.heap[g]? = some (.cells #[v0, v1] t (0, 0))) : w.cell? ⟨g, 0, none⟩ = some v0 ∧ w.cell? ⟨g, 1, none⟩ = some v1 := ⟨(blk_cell h 0).trans rfl, (blk_cell h 1).trans rfl⟩
theorem sizeC : (Tryz.prog.info? 50).map (·.size) = some 2 := by kernel_rfl
theorem OwnV.below {W W1 : World} {b : Nat} {x : V} {E : Option Addr} {e : Nat} {F : Option Addr} {f : Nat} (h : OwnV W b x E e F f) (hb : Below W.heap.size W W1) : OwnV W1 b x E e F f := h.same (fun k _ hk => hb.block k hk)

theorem SameFrom.of_newR {b g : Nat} {W Wa : World} (h : Below g W Wa) (hg : W.heap.size = g) (v0 v1 v2 v3 v4 v5 : Value) :
    SameFrom b W ((((((Wa.setCell ⟨g, 0, none⟩ v0).setCell ⟨g, 1, none⟩ v1).setCell ⟨g, 2, none⟩ v2).setCell ⟨g, 3, none⟩ v3).setCell ⟨g, 4, none⟩ v4).setCell ⟨g, 5, none⟩ v5) :=
  fun k _ hk => (row_far6 (by omega) v0 v1 v2 v3 v4 v5).trans (h.block k (by omega))
theorem pipeR_good (q : List Cm) (e : En) (hok : envB e = true) (h : goodE e) : Good (pipeR q e).1 := by
  unfold pipeR
  split
  · exact reckR_good e hok h q [] z27 (fun z hz => by cases hz) good_zero
  · exact good_zero
theorem own_M2 {W W1 : World} {b : Nat} {x : V} {E : Option Addr} {e : Nat} {F : Option Addr} {f : Nat} (h : OwnV W b x E e F f) (hb : Below W.heap.size W W1) {b0 : Nat} (h0 : b0 ≤ b) :
    k27.M W1 b0 (fun k => b ≤ k ∧ k < W.heap.size) x [.int .i64 x.f0, .int .i64 x.f1, .int .u64 x.f2, .string x.f3, .slice E x.f4.length e, .slice F x.f5.length f] := by
  obtain ⟨ok, ok', h4, h5⟩ := h
  exact k27_mkM W1 b0 _ x (Kd.R_lower (Kd.R_below (Kd.R_mono (Kd.R_bound h4) (fun k hk => ⟨hk.2.1, hk.2.2.1⟩)) hb) h0) (Kd.R_lower (Kd.R_below (Kd.R_mono (Kd.R_bound h5) (fun k hk => ⟨hk.2.1, hk.2.2.1⟩)) hb) h0)
abbrev zerosC : Obj := .cells #[.string ⟨#[]⟩, .slice none 0 0] 50

set_option maxHeartbeats 16000000 in
set_option maxRecDepth 100000 in
theorem rows_calls (p : List Cm) (A : Option Addr) (cp : Nat) (e : En) (A4 : Option Addr) (c4 : Nat) (A5 : Option Addr) (c5 : Nat) (A6 : Option Addr) (c6 : Nat) (w : World) (hT : Tabs w)
    (hA : Kd.C kC w A p.length p) (hc : p.length ≤ cp) (hl : p.length ≤ 8796093022208) (hs : ∀ x ∈ p, Pipe.sizedM x) (hE : RowsE w e A4 c4 A5 c5 A6 c6) (hgd : goodE e) (hns : ∀ x ∈ e.f1, x.f0.size ≤ 140737488355328) :
    Calls Tryz.prog 4 #[.slice A p.length cp, envV e A4 c4 A5 c5 A6 c6] w fun en w' => en = .returned (.bool true) ∧ Below w.heap.size w w' := by
  have hu27 := Tryz.underlying27
  have huE := Tryz.underlying30
  have HT := Lib.hid hT
  have HGD := Lib.hid hgd
  have HP := Lib.hid hA
  have HE := Lib.hid hE
  have HCP := Lib.hid hc
  have CPM := Lib.hid (fun W (h : Kd.C kC W A p.length p) => (by
    obtain ⟨k, hk⟩ := Pipe.pmay_total p hl hs
    exact stoleref13_PipeMay.calls k A cp p (Pipe.mayP p) W h hc hk : Calls Tryz.prog 15 #[.slice A p.length cp] W fun en w' => en = .returned (.bool (Pipe.mayP p)) ∧ Below W.heap.size W w'))
  have CEM := Lib.hid (fun W (h : RowsE W e A4 c4 A5 c5 A6 c6) => (by exact envMay_calls e A4 c4 A5 c5 A6 c6 W h hns : Calls Tryz.prog 16 #[.agg #[.int .i64 e.f0.f0, .int .i64 e.f0.f1, .int .u64 e.f0.f2, .string e.f0.f3, .slice A4 e.f0.f4.length c4, .slice A5 e.f0.f5.length c5, .slice A6 e.f1.length c6]] W fun en w' => en = .returned (.bool (envB e)) ∧ Below W.heap.size W w'))
  have CPE := Lib.hid (show ∀ (q : List Cm) (B : Option Addr) (cq : Nat) (W : World), Kd.C kC W B q.length q → q.length ≤ cq → RowsE W e A4 c4 A5 c5 A6 c6 → Below w.heap.size w W → Calls Tryz.prog 8 #[.slice B q.length cq, .agg #[.int .i64 e.f0.f0, .int .i64 e.f0.f1, .int .u64 e.f0.f2, .string e.f0.f3, .slice A4 e.f0.f4.length c4, .slice A5 e.f0.f5.length c5, .slice A6 e.f1.length c6]] W fun en w' => ∃ v4 v5, en = .returned (.tuple #[.agg #[.int .i64 (pipeR q e).1.f0, .int .i64 (pipeR q e).1.f1, .int .u64 (pipeR q e).1.f2, .string (pipeR q e).1.f3, v4, v5], .int .i64 (pipeR q e).2]) ∧ Kd.R k27 27 w' W.heap.size (fun k_ => some k_ ≠ v5.ownBlock) v4 (pipeR q e).1.f4 ∧ Kd.R Kd.string 9 w' W.heap.size (fun _ => True) v5 (pipeR q e).1.f5 ∧ Below W.heap.size W w' from
    fun q B cq W h1 h2 h3 h4 => Pipe_calls q B cq e A4 c4 A5 c5 A6 c6 W h3 h1 h2 (hT.below h4) hgd)
  have HLP := Lib.hid hl
  clear hT hA hc hl hs hE hgd hns
  obtain ⟨pm, hpm⟩ : ∃ b, Pipe.mayP p = b := ⟨_, rfl⟩
  obtain ⟨em, hem⟩ : ∃ b, envB e = b := ⟨_, rfl⟩
  rw [hpm] at CPM
  rw [hem] at CEM
  show Calls Tryz.prog 4 #[.slice A p.length cp, .agg #[.int .i64 e.f0.f0, .int .i64 e.f0.f1, .int .u64 e.f0.f2, .string e.f0.f3, .slice A4 e.f0.f4.length c4, .slice A5 e.f0.f5.length c5, .slice A6 e.f1.length c6]] w _
  go_enter Tryz.func4, Tryz.ntmps4
  go_upto_region 1 with (fail)
  have BE := Lib.hid (blk_new w (.cells #[.int .i64 e.f0.f0, .int .i64 e.f0.f1, .int .u64 e.f0.f2, .string e.f0.f3, .slice A4 e.f0.f4.length c4, .slice A5 e.f0.f5.length c5, .slice A6 e.f1.length c6] 30))
  have HB := Lib.hid (below_alloc (Below.refl w.heap.size w) (.cells #[.int .i64 e.f0.f0, .int .i64 e.f0.f1, .int .u64 e.f0.f2, .string e.f0.f3, .slice A4 e.f0.f4.length c4, .slice A5 e.f0.f5.length c5, .slice A6 e.f1.length c6] 30))
  have HP1 := Lib.hid (Kd.C_below HP.out HB.out); have HE1 := Lib.hid (HE.out.below HB.out); clear HP HE; have HP := HP1; have HE := HE1; clear HP1 HE1
  generalize w.alloc (.cells #[.int .i64 e.f0.f0, .int .i64 e.f0.f1, .int .u64 e.f0.f2, .string e.f0.f3, .slice A4 e.f0.f4.length c4, .slice A5 e.f0.f5.length c5, .slice A6 e.f1.length c6] 30) = w0 at *
  generalize hg3 : w.heap.size = g3 at BE ⊢
  clear hg3
  obtain ⟨x0, x1, x2, x3, x4, x5, x6⟩ := box7 BE.out
  go_upto_region 3 with (first | (go_at_call 14; (with_reducible refine (awake_calls _ (HT.out.below HB.out)).mono ?_); rintro en w1 ⟨rfl, hb⟩; have BE' := Lib.hid (blk_below BE.out hb); have HE' := Lib.hid (RowsE.below HE.out hb); have HP' := Lib.hid (Kd.C_below HP.out hb); have HB' := Lib.hid (below_step HB.out hb); clear BE; have BE := BE'; clear BE'; clear HE; have HE := HE'; clear HE'; clear HP; have HP := HP'; clear HP'; clear HB; have HB := HB'; clear HB'; (try clear x0 x1 x2 x3 x4 x5 x6); obtain ⟨x0, x1, x2, x3, x4, x5, x6⟩ := box7 BE.out; clear hb))
  by_cases h2 : p.length < 2
  · have t1 : decide (p.length < 2) = true := decide_eq_true h2
    have t2 : decide ((p.length : Int) < 2) = true := decide_eq_true (by omega)
    go_wp2_with (fail)
    go_ret
    exact ⟨rfl, HB.out⟩
  have t1 : decide (p.length < 2) = false := decide_eq_false h2
  have t2 : decide ((p.length : Int) < 2) = false := decide_eq_false (by omega)
  cases pm
  · go_wp2_with (first | (go_at_call 15; (with_reducible refine (CPM.out _ HP.out).mono ?_); rintro en w2 ⟨rfl, hb⟩; have BE' := Lib.hid (blk_below BE.out hb); have HE' := Lib.hid (RowsE.below HE.out hb); have HP' := Lib.hid (Kd.C_below HP.out hb); have HB' := Lib.hid (below_step HB.out hb); clear BE; have BE := BE'; clear BE'; clear HE; have HE := HE'; clear HE'; clear HP; have HP := HP'; clear HP'; clear HB; have HB := HB'; clear HB'; (try clear x0 x1 x2 x3 x4 x5 x6); obtain ⟨x0, x1, x2, x3, x4, x5, x6⟩ := box7 BE.out; clear hb))
    go_ret
    exact ⟨rfl, HB.out⟩
  cases em
  · go_wp2_with (first | (go_at_call 15; (with_reducible refine (CPM.out _ HP.out).mono ?_); rintro en w2 ⟨rfl, hb⟩; have BE' := Lib.hid (blk_below BE.out hb); have HE' := Lib.hid (RowsE.below HE.out hb); have HP' := Lib.hid (Kd.C_below HP.out hb); have HB' := Lib.hid (below_step HB.out hb); clear BE; have BE := BE'; clear BE'; clear HE; have HE := HE'; clear HE'; clear HP; have HP := HP'; clear HP'; clear HB; have HB := HB'; clear HB'; (try clear x0 x1 x2 x3 x4 x5 x6); obtain ⟨x0, x1, x2, x3, x4, x5, x6⟩ := box7 BE.out; clear hb) | (go_at_call 16; (with_reducible refine (CEM.out _ HE.out).mono ?_); rintro en w3 ⟨rfl, hb⟩; have BE' := Lib.hid (blk_below BE.out hb); have HE' := Lib.hid (RowsE.below HE.out hb); have HP' := Lib.hid (Kd.C_below HP.out hb); have HB' := Lib.hid (below_step HB.out hb); clear BE; have BE := BE'; clear BE'; clear HE; have HE := HE'; clear HE'; clear HP; have HP := HP'; clear HP'; clear HB; have HB := HB'; clear HB'; (try clear x0 x1 x2 x3 x4 x5 x6); obtain ⟨x0, x1, x2, x3, x4, x5, x6⟩ := box7 BE.out; clear hb))
    go_ret
    exact ⟨rfl, HB.out⟩
  go_upto_region 5 with (first | (go_at_call 15; (with_reducible refine (CPM.out _ HP.out).mono ?_); rintro en w2 ⟨rfl, hb⟩; have BE' := Lib.hid (blk_below BE.out hb); have HE' := Lib.hid (RowsE.below HE.out hb); have HP' := Lib.hid (Kd.C_below HP.out hb); have HB' := Lib.hid (below_step HB.out hb); clear BE; have BE := BE'; clear BE'; clear HE; have HE := HE'; clear HE'; clear HP; have HP := HP'; clear HP'; clear HB; have HB := HB'; clear HB'; (try clear x0 x1 x2 x3 x4 x5 x6); obtain ⟨x0, x1, x2, x3, x4, x5, x6⟩ := box7 BE.out; clear hb) | (go_at_call 16; (with_reducible refine (CEM.out _ HE.out).mono ?_); rintro en w3 ⟨rfl, hb⟩; have BE' := Lib.hid (blk_below BE.out hb); have HE' := Lib.hid (RowsE.below HE.out hb); have HP' := Lib.hid (Kd.C_below HP.out hb); have HB' := Lib.hid (below_step HB.out hb); clear BE; have BE := BE'; clear BE'; clear HE; have HE := HE'; clear HE'; clear HP; have HP := HP'; clear HP'; clear HB; have HB := HB'; clear HB'; (try clear x0 x1 x2 x3 x4 x5 x6); obtain ⟨x0, x1, x2, x3, x4, x5, x6⟩ := box7 BE.out; clear hb))
  clear CPM CEM
  obtain ⟨n, hn⟩ : ∃ n, p.length = n + 1 := ⟨p.length - 1, by omega⟩
  have hn1 : 1 ≤ n := by omega
  have HALL := Lib.hid (rows_all hpm hem n hn hn1)
  have HN7 := Lib.hid (rows_all hpm hem n hn hn1).1
  obtain ⟨⟨xa, na⟩, hRa⟩ : ∃ r, pipeR p e = r := ⟨_, rfl⟩
  have HRA := Lib.hid hRa
  have CPA := Lib.hid (fun W (h1 : Kd.C kC W A p.length p) (h3 : RowsE W e A4 c4 A5 c5 A6 c6) (h4 : Below w.heap.size w W) => CPE.out p A cp W h1 HCP.out h3 h4)
  rw [hRa] at CPA
  rw [hn] at CPA
  have HPN := Lib.hid (show Kd.C kC w3 A (n + 1) p by rw [← hn]; exact HP.out)
  clear HP
  have HNL := Lib.hid hn
  have HCN := Lib.hid (show n + 1 ≤ cp by have := HCP.out; omega)
  have HN1 := Lib.hid hn1
  rw [hn]
  have HEM := Lib.hid hem
  have HGB := Lib.hid (fun q : List Cm => pipeR_good q e hem HGD.out)
  clear t1 t2 h2 hRa hpm hem hn hn1
  go_upto_region 6 with (first | (go_at_call 8; (with_reducible refine (CPA.out _ HPN.out HE.out HB.out).mono ?_); rintro en w4 ⟨v4, v5, rfl, hk4, hk5, hb⟩; have BE' := Lib.hid (blk_below BE.out hb); have HE' := Lib.hid (RowsE.below HE.out hb); have HPN' := Lib.hid (Kd.C_below HPN.out hb); have HB' := Lib.hid (below_step HB.out hb); clear BE; have BE := BE'; clear BE'; clear HE; have HE := HE'; clear HE'; clear HPN; have HPN := HPN'; clear HPN'; clear HB; have HB := HB'; clear HB'; (try clear x0 x1 x2 x3 x4 x5 x6); obtain ⟨x0, x1, x2, x3, x4, x5, x6⟩ := box7 BE.out; obtain ⟨Ea, ea, rfl⟩ := Kd.R_slice hk4; obtain ⟨Fa, fa, rfl⟩ := Kd.R_slice hk5; have RA := Lib.hid (own_mk hk4 hk5).rows; clear hk4 hk5; clear hb) | ((with_reducible refine gate_store (t := 27) (p := 5) rfl ?_); refine row_event (by rfl) (by rfl) (by rfl) (by rfl) (by rfl) (blk_new w4 zeros) (by exact size27) (by rfl) (by first | rfl | simp [Value.oneCell']) ?_; intro w5 hz ho hb0; have hb := hb0 (w0 := w4) (Nat.le_refl _) (below_alloc (Below.refl _ _) _); have BE' := Lib.hid (blk_below BE.out hb); have HE' := Lib.hid (RowsE.below HE.out hb); have HPN' := Lib.hid (Kd.C_below HPN.out hb); have HB' := Lib.hid (below_step HB.out hb); have RA' := Lib.hid (Rows4.below RA.out hb); clear BE; have BE := BE'; clear BE'; clear HE; have HE := HE'; clear HE'; clear HPN; have HPN := HPN'; clear HPN'; clear HB; have HB := HB'; clear HB'; clear RA; have RA := RA'; clear RA'; (try clear x0 x1 x2 x3 x4 x5 x6); obtain ⟨x0, x1, x2, x3, x4, x5, x6⟩ := box7 BE.out; have B5 := Lib.hid hz; clear hz ho hb0 hb))
  generalize hg5 : w4.heap.size = g5 at *
  clear hg5 CPA
  have hlt : (p.take n).length = n := by rw [List.length_take]; have := HNL.out; omega
  obtain ⟨⟨xb, nb⟩, hRb⟩ : ∃ r, pipeR (p.take n) e = r := ⟨_, rfl⟩
  have CPB := Lib.hid (fun W (h1 : Kd.C kC W A n (p.take n)) (h3 : RowsE W e A4 c4 A5 c5 A6 c6) (h4 : Below w.heap.size w W) => (by have q := CPE.out (p.take n) A cp W (by rw [hlt]; exact h1) (by rw [hlt]; have := HCN.out; omega) h3 h4; rw [hRb, hlt] at q; exact q : Calls Tryz.prog 8 #[.slice A n cp, .agg #[.int .i64 e.f0.f0, .int .i64 e.f0.f1, .int .u64 e.f0.f2, .string e.f0.f3, .slice A4 e.f0.f4.length c4, .slice A5 e.f0.f5.length c5, .slice A6 e.f1.length c6]] W fun en w' => ∃ v4 v5, en = .returned (.tuple #[.agg #[.int .i64 xb.f0, .int .i64 xb.f1, .int .u64 xb.f2, .string xb.f3, v4, v5], .int .i64 nb]) ∧ Kd.R k27 27 w' W.heap.size (fun k_ => some k_ ≠ v5.ownBlock) v4 xb.f4 ∧ Kd.R Kd.string 9 w' W.heap.size (fun _ => True) v5 xb.f5 ∧ Below W.heap.size W w'))
  have HPT := Lib.hid (show Kd.C kC w5 A n (p.take n) by have q := Kd.C_take (k := kC) (w := w5) (A := A) (xs := p) (m := n) (by rw [HNL.out]; exact HPN.out) (by have := HNL.out; omega); rw [hlt] at q; exact q)
  have HALL2 := HALL.out
  rw [HRA.out, hRb] at HALL2
  clear HALL
  have HALL := Lib.hid HALL2
  clear HALL2
  have HGXB := Lib.hid (show Good xb by have q := HGB.out (p.take n); rw [hRb] at q; exact q)
  clear hlt hRb
  have wn1 : wrap64 ((n : Int) + 1 - 1) = (n : Int) := by rw [Int.add_sub_cancel]; exact Values.wrap_small _ (by have := HN7.out; omega) (by have := HN7.out; omega)
  have wn2 : wrap64 (n : Int) = (n : Int) := Values.wrap_small _ (by have := HN7.out; omega) (by have := HN7.out; omega)
  have wn1' : IntKind.i64.wrap ((n : Int) + 1 - 1) = (n : Int) := by rw [i64_w]; exact wn1
  have wn2' : IntKind.i64.wrap (n : Int) = (n : Int) := by rw [i64_w]; exact wn2
  have hsl : ∀ W, (Instr.slice 22 (.slice A (n + 1) cp) none (some (.int .i64 (n : Int))) none).run Tryz.prog W = .ok (.slice A n cp) W := by
    obtain ⟨i0, hi0, hz0, hz1, hz2⟩ := info_parts Q.info50
    have q := cut_to 22 50 .i64 Tryz.underlying22 hi0 A (n + 1) cp (n : Int) (by omega) (by push_cast; omega) HCN.out
    rw [Int.toNat_natCast] at q; exact q
  go_cut [7, 8] (fun v7 v8 wc => ∃ (g7 : Nat) (E : Option Addr) (e4 : Nat) (Fa : Option Addr) (f4 : Nat), v7 = .pointer (some ⟨g7, 0, none⟩) ∧ v8 = .int .i64 nb ∧ Aside0 (wc.heap[g7]? = some (.cells #[.int .i64 xb.f0, .int .i64 xb.f1, .int .u64 xb.f2, .string xb.f3, .slice E xb.f4.length e4, .slice Fa xb.f5.length f4] 27 (0, 0))) ∧ Aside0 (OwnV wc w5.heap.size xb E e4 Fa f4) ∧ Aside0 (Below w5.heap.size w5 wc))
  case first =>
    have hbd := below_drew (Below.refl w5.heap.size w5)
    have BE' := Lib.hid (blk_below BE.out hbd); have HE' := Lib.hid (RowsE.below HE.out hbd); have HPN' := Lib.hid (Kd.C_below HPN.out hbd); have HB' := Lib.hid (below_step HB.out hbd); have RA' := Lib.hid (Rows4.below RA.out hbd); have B5' := Lib.hid (blk_below B5.out hbd); have HPT' := Lib.hid (Kd.C_below HPT.out hbd); clear BE; have BE := BE'; clear BE'; clear HE; have HE := HE'; clear HE'; clear HPN; have HPN := HPN'; clear HPN'; clear HB; have HB := HB'; clear HB'; clear RA; have RA := RA'; clear RA'; clear B5; have B5 := B5'; clear B5'; clear HPT; have HPT := HPT'; clear HPT'; (try clear x0 x1 x2 x3 x4 x5 x6); obtain ⟨x0, x1, x2, x3, x4, x5, x6⟩ := box7 BE.out
    have HD := Lib.hid hbd
    have HSZ := Lib.hid (show w5.drew.heap.size = w5.heap.size from rfl)
    clear hbd
    (try clear x0 x1 x2 x3 x4 x5 x6)
    generalize hWD : w5.drew = wd at *
    have KEEP := Lib.hid (show ∀ w', Below wd.heap.size wd w' → (fun w' => Below wd.heap.size wd w' ∧ w'.cell? ⟨g3, 0, none⟩ = some (.int .i64 e.f0.f0) ∧ w'.cell? ⟨g3, 1, none⟩ = some (.int .i64 e.f0.f1) ∧ w'.cell? ⟨g3, 2, none⟩ = some (.int .u64 e.f0.f2) ∧ w'.cell? ⟨g3, 3, none⟩ = some (.string e.f0.f3) ∧ w'.cell? ⟨g3, 4, none⟩ = some (.slice A4 e.f0.f4.length c4) ∧ w'.cell? ⟨g3, 5, none⟩ = some (.slice A5 e.f0.f5.length c5) ∧ w'.cell? ⟨g3, 6, none⟩ = some (.slice A6 e.f1.length c6)) w' from fun w' h => ⟨h, (blk_cell (blk_below BE.out h) 0).trans rfl, (blk_cell (blk_below BE.out h) 1).trans rfl, (blk_cell (blk_below BE.out h) 2).trans rfl, (blk_cell (blk_below BE.out h) 3).trans rfl, (blk_cell (blk_below BE.out h) 4).trans rfl, (blk_cell (blk_below BE.out h) 5).trans rfl, (blk_cell (blk_below BE.out h) 6).trans rfl⟩)
    refine wp_region_held_drew (S := (fun w' => Below wd.heap.size wd w' ∧ w'.cell? ⟨g3, 0, none⟩ = some (.int .i64 e.f0.f0) ∧ w'.cell? ⟨g3, 1, none⟩ = some (.int .i64 e.f0.f1) ∧ w'.cell? ⟨g3, 2, none⟩ = some (.int .u64 e.f0.f2) ∧ w'.cell? ⟨g3, 3, none⟩ = some (.string e.f0.f3) ∧ w'.cell? ⟨g3, 4, none⟩ = some (.slice A4 e.f0.f4.length c4) ∧ w'.cell? ⟨g3, 5, none⟩ = some (.slice A5 e.f0.f5.length c5) ∧ w'.cell? ⟨g3, 6, none⟩ = some (.slice A6 e.f1.length c6))) (by kernel_rfl) ?_ (fun hHeld => ?_)
    · rw [hWD]; exact KEEP.out _ (Below.refl _ _)
    rw [hWD] at hHeld ⊢
    clear hWD
    have HN := Lib.hid (Below.refl wd.heap.size wd)
    refine wpAnyH_take (i := 0) (oi := ⟨some 38, _, _, _, _, _⟩) (v := ?_) rfl (by as_aux_lemma => kernel_rfl) (by as_aux_lemma => kernel_rfl) (by as_aux_lemma => kernel_rfl) (fun _ _ _ h => h) ?_ (by assumption) ?_; rotate_left; (focus (refine Or.inl ⟨rfl, ?_⟩; intro w hSw; (try dsimp only at hSw); go_simp; (try with_reducible rfl); done)); (try simp only [Act.put, List.setIfInBounds_toArray, List.set_cons_zero, List.set_cons_succ])
    refine wpAnyH_take (i := 1) (oi := ⟨some 39, _, _, _, _, _⟩) (v := ?_) rfl (by as_aux_lemma => kernel_rfl) (by as_aux_lemma => kernel_rfl) (by as_aux_lemma => kernel_rfl) (fun _ _ _ h => h) ?_ (by assumption) ?_; rotate_left; (focus (refine Or.inl ⟨rfl, ?_⟩; intro w hSw; (try dsimp only at hSw); go_simp; (try with_reducible rfl); done)); (try simp only [Act.put, List.setIfInBounds_toArray, List.set_cons_zero, List.set_cons_succ])
    refine wpAnyH_take (i := 2) (oi := ⟨some 40, _, _, _, _, _⟩) (v := ?_) rfl (by as_aux_lemma => kernel_rfl) (by as_aux_lemma => kernel_rfl) (by as_aux_lemma => kernel_rfl) (fun _ _ _ h => h) ?_ (by assumption) ?_; rotate_left; (focus (refine Or.inl ⟨rfl, ?_⟩; intro w hSw; (try dsimp only at hSw); go_simp; (try with_reducible rfl); done)); (try simp only [Act.put, List.setIfInBounds_toArray, List.set_cons_zero, List.set_cons_succ])
    refine wpAnyH_take (i := 3) (oi := ⟨some 41, _, _, _, _, _⟩) (v := ?_) rfl (by as_aux_lemma => kernel_rfl) (by as_aux_lemma => kernel_rfl) (by as_aux_lemma => kernel_rfl) (fun _ _ _ h => h) ?_ (by assumption) ?_; rotate_left; (focus (refine Or.inl ⟨rfl, ?_⟩; intro w hSw; (try dsimp only at hSw); go_simp; (try with_reducible rfl); done)); (try simp only [Act.put, List.setIfInBounds_toArray, List.set_cons_zero, List.set_cons_succ])
    refine wpAnyH_take (i := 4) (oi := ⟨some 42, _, _, _, _, _⟩) (v := ?_) rfl (by as_aux_lemma => kernel_rfl) (by as_aux_lemma => kernel_rfl) (by as_aux_lemma => kernel_rfl) (fun _ _ _ h => h) ?_ (by assumption) ?_; rotate_left; (focus (refine Or.inl ⟨rfl, ?_⟩; intro w hSw; (try dsimp only at hSw); go_simp; (try with_reducible rfl); done)); (try simp only [Act.put, List.setIfInBounds_toArray, List.set_cons_zero, List.set_cons_succ])
    refine wpAnyH_take (i := 5) (oi := ⟨some 43, _, _, _, _, _⟩) (v := ?_) rfl (by as_aux_lemma => kernel_rfl) (by as_aux_lemma => kernel_rfl) (by as_aux_lemma => kernel_rfl) (fun _ _ _ h => h) ?_ (by assumption) ?_; rotate_left; (focus (refine Or.inl ⟨rfl, ?_⟩; intro w hSw; (try dsimp only at hSw); go_simp; (try with_reducible rfl); done)); (try simp only [Act.put, List.setIfInBounds_toArray, List.set_cons_zero, List.set_cons_succ])
    refine wpAnyH_ready (rs := [6, 10]) (by kernel_rfl) (by simp) ?_
    refine AllReadyH.cons (o := ⟨some 44, _, _, _, _, _⟩) rfl (fun K hK => ?_) (AllReadyH.cons (o := ⟨some 7, _, _, _, _, _⟩) rfl (fun K hK => ?_) AllReadyH.nil)
    · go_simp
      go_at_call 8
      (with_reducible refine (CPB.out _ (Kd.C_below HPT.out HN.out) (HE.out.below HN.out) (below_step HB.out HN.out)).mono ?_)
      rintro en wq1 ⟨v4, v5, rfl, hk4, hk5, hb⟩
      obtain ⟨E, e4, rfl⟩ := Kd.R_slice hk4; obtain ⟨Fa, f4, rfl⟩ := Kd.R_slice hk5; have RK := Lib.hid (own_mk hk4 hk5); have LEC := Lib.hid (below_size HN.out); clear hk4 hk5
      refine hK.out _ _ (KEEP.out _ (below_step HN.out hb)) (fun hHeld2 => ?_)
      have HN' := Lib.hid (below_step HN.out hb); clear HN; have HN := HN'; clear HN'
      clear hb; clear hK K hHeld; have hHeld := hHeld2; clear hHeld2; (try simp only [Act.put, List.setIfInBounds_toArray, List.set_cons_zero, List.set_cons_succ])
      refine wpAnyH_take (i := 7) (oi := ⟨some 37, _, _, _, _, _⟩) (v := ?_) rfl (by as_aux_lemma => kernel_rfl) (by as_aux_lemma => kernel_rfl) (by as_aux_lemma => kernel_rfl) (fun _ _ _ h => h) ?_ (by assumption) ?_; rotate_left; (focus (refine Or.inl ⟨rfl, ?_⟩; intro w hSw; (try dsimp only at hSw); go_simp; (try with_reducible rfl); done)); (try simp only [Act.put, List.setIfInBounds_toArray, List.set_cons_zero, List.set_cons_succ])
      refine wpAnyH_take (i := 8) (oi := ⟨some 45, _, _, _, _, _⟩) (v := ?_) rfl (by as_aux_lemma => kernel_rfl) (by as_aux_lemma => kernel_rfl) (by as_aux_lemma => kernel_rfl) (fun _ _ _ h => h) ?_ (by assumption) ?_; rotate_left; (focus (refine Or.inl ⟨rfl, ?_⟩; intro w hSw; (try dsimp only at hSw); go_simp; (try with_reducible rfl); done)); (try simp only [Act.put, List.setIfInBounds_toArray, List.set_cons_zero, List.set_cons_succ])
      refine wpAnyH_take (i := 9) (oi := ⟨some 46, _, _, _, _, _⟩) (v := ?_) rfl (by as_aux_lemma => kernel_rfl) (by as_aux_lemma => kernel_rfl) (by as_aux_lemma => kernel_rfl) (fun _ _ _ h => h) ?_ (by assumption) ?_; rotate_left; (focus (refine Or.inl ⟨rfl, ?_⟩; intro w hSw; (try dsimp only at hSw); go_simp; (try with_reducible rfl); done)); (try simp only [Act.put, List.setIfInBounds_toArray, List.set_cons_zero, List.set_cons_succ])
      refine wpAnyH_ready (rs := [10]) (by kernel_rfl) (by simp) ?_
      refine AllReadyH.cons (o := ⟨some 7, _, _, _, _, _⟩) rfl (fun K hK => ?_) AllReadyH.nil
      go_simp
      have hb := below_alloc (Below.refl wq1.heap.size wq1) zeros
      refine hK.out _ _ (KEEP.out _ (below_step HN.out hb)) (fun hHeld2 => ?_)
      have B70 := Lib.hid (blk_new wq1 zeros)
      have GEB7 := Lib.hid (below_size HN.out)
      have BAB7 := Lib.hid hb
      have HN' := Lib.hid (below_step HN.out hb); clear HN; have HN := HN'; clear HN'
      clear hb; clear hK K hHeld; have hHeld := hHeld2; clear hHeld2; (try simp only [Act.put, List.setIfInBounds_toArray, List.set_cons_zero, List.set_cons_succ])
      (try clear HGK); generalize hgk : wq1.heap.size = gq2 at *; have HGK := Lib.hid hgk; clear hgk
      generalize hwk : wq1.alloc zeros = wq2 at *; clear hwk
      have B7 := B70; clear B70
      refine wpAnyH_ready (rs := [11]) (by kernel_rfl) (by simp) ?_
      refine AllReadyH.cons (o := ⟨none, _, _, _, _, _⟩) rfl (fun K hK => ?_) AllReadyH.nil
      have nz0 := (blk_cell B7.out 0).trans rfl; have fz0 := blk_frozen B7.out 0; have nz1 := (blk_cell B7.out 1).trans rfl; have fz1 := blk_frozen B7.out 1; have nz2 := (blk_cell B7.out 2).trans rfl; have fz2 := blk_frozen B7.out 2; have nz3 := (blk_cell B7.out 3).trans rfl; have fz3 := blk_frozen B7.out 3; have nz4 := (blk_cell B7.out 4).trans rfl; have fz4 := blk_frozen B7.out 4; have nz5 := (blk_cell B7.out 5).trans rfl; have fz5 := blk_frozen B7.out 5
      go_simp
      have HX := Lib.hid (row_put6 B7.out (.int .i64 xb.f0) (.int .i64 xb.f1) (.int .u64 xb.f2) (.string xb.f3) (.slice E xb.f4.length e4) (.slice Fa xb.f5.length f4))
      have HF := Lib.hid (row_below6 HN.out GEB7.out (.int .i64 xb.f0) (.int .i64 xb.f1) (.int .u64 xb.f2) (.string xb.f3) (.slice E xb.f4.length e4) (.slice Fa xb.f5.length f4))
      clear nz0 fz0 nz1 fz1 nz2 fz2 nz3 fz3 nz4 fz4 nz5 fz5
      have HRW := Lib.hid (OwnV.lower (b' := w5.heap.size) (RK.out.same (SameFrom.of_newR BAB7.out HGK.out (.int .i64 xb.f0) (.int .i64 xb.f1) (.int .u64 xb.f2) (.string xb.f3) (.slice E xb.f4.length e4) (.slice Fa xb.f5.length f4))) (by have := LEC.out; have := HSZ.out; omega))
      refine hK.out _ _ (KEEP.out _ HF.out) (fun hHeld2 => ?_)
      clear hK K hHeld; have hHeld := hHeld2; clear hHeld2; (try simp only [Act.put, List.setIfInBounds_toArray, List.set_cons_zero, List.set_cons_succ])
      refine wpAnyH_take (i := 12) (oi := ⟨some 8, _, _, _, _, _⟩) (v := ?_) rfl (by as_aux_lemma => kernel_rfl) (by as_aux_lemma => kernel_rfl) (by as_aux_lemma => kernel_rfl) (fun _ _ _ h => h) ?_ (by assumption) ?_; rotate_left; (focus (refine Or.inl ⟨rfl, ?_⟩; intro w hSw; (try dsimp only at hSw); go_simp; (try with_reducible rfl); done)); (try simp only [Act.put, List.setIfInBounds_toArray, List.set_cons_zero, List.set_cons_succ])
      refine wpAnyH_done (by kernel_rfl) ?_ _
      go_wp2
      go_meet
      case rel =>
        exact ⟨_, _, _, _, _, rfl, rfl, ⟨HX.out⟩, ⟨HRW.out⟩, ⟨below_step HD.out HF.out⟩⟩
    · go_simp
      have hb := below_alloc (Below.refl wd.heap.size wd) zeros
      refine hK.out _ _ (KEEP.out _ (below_step HN.out hb)) (fun hHeld2 => ?_)
      have B70 := Lib.hid (blk_new wd zeros)
      have GEB7 := Lib.hid (below_size HN.out)
      have BAB7 := Lib.hid hb
      have HN' := Lib.hid (below_step HN.out hb); clear HN; have HN := HN'; clear HN'
      clear hb; clear hK K hHeld; have hHeld := hHeld2; clear hHeld2; (try simp only [Act.put, List.setIfInBounds_toArray, List.set_cons_zero, List.set_cons_succ])
      generalize hwk : wd.alloc zeros = wq1 at *; clear hwk
      have B7 := B70; clear B70
      refine wpAnyH_ready (rs := [6]) (by kernel_rfl) (by simp) ?_
      refine AllReadyH.cons (o := ⟨some 44, _, _, _, _, _⟩) rfl (fun K hK => ?_) AllReadyH.nil
      go_simp
      go_at_call 8
      (with_reducible refine (CPB.out _ (Kd.C_below HPT.out HN.out) (HE.out.below HN.out) (below_step HB.out HN.out)).mono ?_)
      rintro en wq2 ⟨v4, v5, rfl, hk4, hk5, hb⟩
      obtain ⟨E, e4, rfl⟩ := Kd.R_slice hk4; obtain ⟨Fa, f4, rfl⟩ := Kd.R_slice hk5; have RK := Lib.hid (own_mk hk4 hk5); have LEC := Lib.hid (below_size HN.out); clear hk4 hk5
      have GLB7 := Lib.hid (blk_lt B7.out)
      refine hK.out _ _ (KEEP.out _ (below_step HN.out hb)) (fun hHeld2 => ?_)
      have B7' := Lib.hid (blk_below B7.out hb)
      have HN' := Lib.hid (below_step HN.out hb)
      clear B7 HN; have HN := HN'; clear HN'; have B7 := B7'; clear B7'
      clear hb; clear hK K hHeld; have hHeld := hHeld2; clear hHeld2; (try simp only [Act.put, List.setIfInBounds_toArray, List.set_cons_zero, List.set_cons_succ])
      refine wpAnyH_take (i := 7) (oi := ⟨some 37, _, _, _, _, _⟩) (v := ?_) rfl (by as_aux_lemma => kernel_rfl) (by as_aux_lemma => kernel_rfl) (by as_aux_lemma => kernel_rfl) (fun _ _ _ h => h) ?_ (by assumption) ?_; rotate_left; (focus (refine Or.inl ⟨rfl, ?_⟩; intro w hSw; (try dsimp only at hSw); go_simp; (try with_reducible rfl); done)); (try simp only [Act.put, List.setIfInBounds_toArray, List.set_cons_zero, List.set_cons_succ])
      refine wpAnyH_take (i := 8) (oi := ⟨some 45, _, _, _, _, _⟩) (v := ?_) rfl (by as_aux_lemma => kernel_rfl) (by as_aux_lemma => kernel_rfl) (by as_aux_lemma => kernel_rfl) (fun _ _ _ h => h) ?_ (by assumption) ?_; rotate_left; (focus (refine Or.inl ⟨rfl, ?_⟩; intro w hSw; (try dsimp only at hSw); go_simp; (try with_reducible rfl); done)); (try simp only [Act.put, List.setIfInBounds_toArray, List.set_cons_zero, List.set_cons_succ])
      refine wpAnyH_take (i := 9) (oi := ⟨some 46, _, _, _, _, _⟩) (v := ?_) rfl (by as_aux_lemma => kernel_rfl) (by as_aux_lemma => kernel_rfl) (by as_aux_lemma => kernel_rfl) (fun _ _ _ h => h) ?_ (by assumption) ?_; rotate_left; (focus (refine Or.inl ⟨rfl, ?_⟩; intro w hSw; (try dsimp only at hSw); go_simp; (try with_reducible rfl); done)); (try simp only [Act.put, List.setIfInBounds_toArray, List.set_cons_zero, List.set_cons_succ])
      refine wpAnyH_ready (rs := [11]) (by kernel_rfl) (by simp) ?_
      refine AllReadyH.cons (o := ⟨none, _, _, _, _, _⟩) rfl (fun K hK => ?_) AllReadyH.nil
      have nz0 := (blk_cell B7.out 0).trans rfl; have fz0 := blk_frozen B7.out 0; have nz1 := (blk_cell B7.out 1).trans rfl; have fz1 := blk_frozen B7.out 1; have nz2 := (blk_cell B7.out 2).trans rfl; have fz2 := blk_frozen B7.out 2; have nz3 := (blk_cell B7.out 3).trans rfl; have fz3 := blk_frozen B7.out 3; have nz4 := (blk_cell B7.out 4).trans rfl; have fz4 := blk_frozen B7.out 4; have nz5 := (blk_cell B7.out 5).trans rfl; have fz5 := blk_frozen B7.out 5
      go_simp
      have HX := Lib.hid (row_put6 B7.out (.int .i64 xb.f0) (.int .i64 xb.f1) (.int .u64 xb.f2) (.string xb.f3) (.slice E xb.f4.length e4) (.slice Fa xb.f5.length f4))
      have HF := Lib.hid (row_below6 HN.out GEB7.out (.int .i64 xb.f0) (.int .i64 xb.f1) (.int .u64 xb.f2) (.string xb.f3) (.slice E xb.f4.length e4) (.slice Fa xb.f5.length f4))
      clear nz0 fz0 nz1 fz1 nz2 fz2 nz3 fz3 nz4 fz4 nz5 fz5
      have HRW := Lib.hid (OwnV.lower (b' := w5.heap.size) (RK.out.same (same_six GLB7.out (.int .i64 xb.f0) (.int .i64 xb.f1) (.int .u64 xb.f2) (.string xb.f3) (.slice E xb.f4.length e4) (.slice Fa xb.f5.length f4))) (by have := LEC.out; have := HSZ.out; omega))
      refine hK.out _ _ (KEEP.out _ HF.out) (fun hHeld2 => ?_)
      clear hK K hHeld; have hHeld := hHeld2; clear hHeld2; (try simp only [Act.put, List.setIfInBounds_toArray, List.set_cons_zero, List.set_cons_succ])
      refine wpAnyH_take (i := 12) (oi := ⟨some 8, _, _, _, _, _⟩) (v := ?_) rfl (by as_aux_lemma => kernel_rfl) (by as_aux_lemma => kernel_rfl) (by as_aux_lemma => kernel_rfl) (fun _ _ _ h => h) ?_ (by assumption) ?_; rotate_left; (focus (refine Or.inl ⟨rfl, ?_⟩; intro w hSw; (try dsimp only at hSw); go_simp; (try with_reducible rfl); done)); (try simp only [Act.put, List.setIfInBounds_toArray, List.set_cons_zero, List.set_cons_succ])
      refine wpAnyH_done (by kernel_rfl) ?_ _
      go_wp2
      go_meet
      case rel =>
        exact ⟨_, _, _, _, _, rfl, rfl, ⟨HX.out⟩, ⟨HRW.out⟩, ⟨below_step HD.out HF.out⟩⟩
  case rest =>
  obtain ⟨g7, E7, e7, F7, f7, rfl, rfl, HX0, HO0, HB0⟩ := hcut
  have hbc := HB0.out
  have HBS := Lib.hid hbc
  have BE' := Lib.hid (blk_below BE.out hbc); have HE' := Lib.hid (RowsE.below HE.out hbc); have HPN' := Lib.hid (Kd.C_below HPN.out hbc); have HB' := Lib.hid (below_step HB.out hbc); have RA' := Lib.hid (Rows4.below RA.out hbc); have B5' := Lib.hid (blk_below B5.out hbc); have HPT' := Lib.hid (Kd.C_below HPT.out hbc); clear BE; have BE := BE'; clear BE'; clear HE; have HE := HE'; clear HE'; clear HPN; have HPN := HPN'; clear HPN'; clear HB; have HB := HB'; clear HB'; clear RA; have RA := RA'; clear RA'; clear B5; have B5 := B5'; clear B5'; clear HPT; have HPT := HPT'; clear HPT'; (try clear x0 x1 x2 x3 x4 x5 x6); obtain ⟨x0, x1, x2, x3, x4, x5, x6⟩ := box7 BE.out
  have B7 := Lib.hid HX0.out
  have RB := Lib.hid HO0.out
  clear HX0 HO0 HB0 hbc hsl CPB HPT wn1 wn1'
  by_cases hb0 : nb ≠ 0
  · obtain rfl : na = nb := HALL.out.2.2.2.1 hb0
    have e1 : (na == 0) = false := beq_eq_false_iff_ne.2 hb0
    have e2 : decide (na = 0) = false := decide_eq_false hb0
    have e3 : (na = 0) = False := eq_false hb0
    clear BE HE HPN RA B5 B7 RB x0 x1 x2 x3 x4 x5 x6 CPE
    go_wp2_with (first | (go_at_call 11; (with_reducible refine (numB na _).mono ?_); rintro en wn ⟨rfl, hb⟩; have HB' := Lib.hid (below_step HB.out hb); clear HB; have HB := HB'; clear HB'; clear hb))
    go_ret
    exact ⟨by simp, HB.out⟩
  have hb0 : nb = 0 := Decidable.byContradiction hb0
  subst hb0
  go_upto_region 9 with (first | (go_at_call 11; (with_reducible refine (numB 0 _).mono ?_); rintro en w8 ⟨rfl, hb⟩; have BE' := Lib.hid (blk_below BE.out hb); have HE' := Lib.hid (RowsE.below HE.out hb); have HPN' := Lib.hid (Kd.C_below HPN.out hb); have HB' := Lib.hid (below_step HB.out hb); have RA' := Lib.hid (Rows4.below RA.out hb); have B5' := Lib.hid (blk_below B5.out hb); have HBS' := Lib.hid (below_step HBS.out hb); have B7' := Lib.hid (blk_below B7.out hb); have RB' := Lib.hid (OwnV.below RB.out hb); clear BE; have BE := BE'; clear BE'; clear HE; have HE := HE'; clear HE'; clear HPN; have HPN := HPN'; clear HPN'; clear HB; have HB := HB'; clear HB'; clear RA; have RA := RA'; clear RA'; clear B5; have B5 := B5'; clear B5'; clear HBS; have HBS := HBS'; clear HBS'; clear B7; have B7 := B7'; clear B7'; clear RB; have RB := RB'; clear RB'; (try clear x0 x1 x2 x3 x4 x5 x6); obtain ⟨x0, x1, x2, x3, x4, x5, x6⟩ := box7 BE.out; clear hb))
  have HRR := Lib.hid (HALL.out.2.2.2.2 (by first | exact rfl | trivial))
  have HPA := Lib.hid HALL.out.2.2.1
  have HL8 := Lib.hid HALL.out.2.1
  clear HALL
  obtain ⟨ad, F1, f1, rfl, y0, y1, l1, k1⟩ := at_T50 HPN.out (n : Int) (by omega) (by push_cast; omega)
  rw [Int.toNat_natCast] at y0 y1
  generalize rd_T50 p (n : Int) = c at *
  have KF := Lib.hid k1
  have LF := Lib.hid l1
  clear k1 l1
  go_wp2_with (first | ((with_reducible refine gate_store (t := 50) (p := 9) rfl ?_); refine row_event (by rfl) (by rfl) (by rfl) (by rfl) (by rfl) (blk_new w8 zerosC) (by exact sizeC) (by rfl) (by first | rfl | simp [Value.oneCell']) ?_; intro w9 hz ho hb0; have hb := hb0 (w0 := w8) (Nat.le_refl _) (below_alloc (Below.refl _ _) _); have BE' := Lib.hid (blk_below BE.out hb); have HE' := Lib.hid (RowsE.below HE.out hb); have HPN' := Lib.hid (Kd.C_below HPN.out hb); have HB' := Lib.hid (below_step HB.out hb); have RA' := Lib.hid (Rows4.below RA.out hb); have B5' := Lib.hid (blk_below B5.out hb); have HBS' := Lib.hid (below_step HBS.out hb); have B7' := Lib.hid (blk_below B7.out hb); have RB' := Lib.hid (OwnV.below RB.out hb); have KF' := Lib.hid (Kd.C_below KF.out hb); clear BE; have BE := BE'; clear BE'; clear HE; have HE := HE'; clear HE'; clear HPN; have HPN := HPN'; clear HPN'; clear HB; have HB := HB'; clear HB'; clear RA; have RA := RA'; clear RA'; clear B5; have B5 := B5'; clear B5'; clear HBS; have HBS := HBS'; clear HBS'; clear B7; have B7 := B7'; clear B7'; clear RB; have RB := RB'; clear RB'; clear KF; have KF := KF'; clear KF'; (try clear x0 x1 x2 x3 x4 x5 x6); obtain ⟨x0, x1, x2, x3, x4, x5, x6⟩ := box7 BE.out; have B9 := Lib.hid hz; clear hz ho hb0 hb))
  generalize hg9 : w8.heap.size = g9 at *
  clear hg9 y0 y1 x0 x1 x2 x3 x4 x5 x6
  obtain ⟨ALL, hALL⟩ : ∃ r, argsR e c.f1 = r := ⟨_, rfl⟩
  have HRR2 := HRR.out
  rw [hALL] at HRR2
  clear HRR
  have HRR := Lib.hid HRR2
  have HALLE := Lib.hid hALL
  clear HRR2 hALL
  have HCM := Lib.hid (fun a (ha : a ∈ c.f1) => argR_good e a HEM.out HGD.out)
  go_loopg [10, 11] c.f1.length (fun kq v10 v11 wr => ∃ (i : Nat) (acc : List V) (Av : Option Addr) (cv : Nat), v10 = .slice Av acc.length cv ∧ v11 = .int .i64 (i : Int) ∧ Aside0 (i + kq = c.f1.length ∧ acc.length = i) ∧ Aside0 (contA e acc (c.f1.drop i) = ALL) ∧ Aside0 (∀ z ∈ acc, Good z) ∧ Aside0 (Kd.R k27 27 wr w5.heap.size (fun _ => True) (.slice Av acc.length cv) acc) ∧ Aside0 (∀ k, (Value.slice Av acc.length cv).ownBlock = some k → w9.heap.size ≤ k) ∧ Aside0 (Below w9.heap.size w9 wr))
  case atStart => exact ⟨0, [], none, 0, rfl, rfl, ⟨by simp, rfl⟩, ⟨by rw [List.drop_zero, ← HALLE.out]; unfold contA; rw [List.nil_append]⟩, ⟨fun z hz => by cases hz⟩, ⟨Kd.R_nil _ _ _ _ _⟩, ⟨fun k hk => by simp [Value.ownBlock] at hk⟩, ⟨Below.refl _ _⟩⟩
  case round =>
    obtain ⟨i, acc, Av, cv, rfl, rfl, HI, HM, HGA0, HO0, HV0, HBR0⟩ := hrel
    have HGA := Lib.hid HGA0.out; have HO := Lib.hid HO0.out; have HV := Lib.hid HV0.out; have HBR := Lib.hid HBR0.out; clear HGA0 HO0 HV0 HBR0
    obtain ⟨hi, hai⟩ := HI.out
    have HB5 := Lib.hid (show w5.heap.size ≤ wr.heap.size from Nat.le_trans (below_size HBS.out) (below_size HBR.out))
    cases gk with
    | zero =>
      have hlt : decide (i < c.f1.length) = false := decide_eq_false (by omega)
      have hlt' : decide ((i : Int) < (c.f1.length : Int)) = false := decide_eq_false (by omega)
      have hM := HM.out
      rw [List.drop_of_length_le (by omega), contA_nil] at hM
      have hrr := HRR.out
      rw [← hM] at hrr
      have hrr : (xa, na) = callR c.f0 (acc ++ [xb]) := by rw [hrr]; exact if_pos rfl
      have HLI := Lib.hid (show acc.length ≤ 8 by have := HL8.out; omega)
      have HRG := Lib.hid (show ∀ z ∈ acc ++ [xb], rngD 8 z from fun z hz => (List.mem_append.1 hz).elim (fun h => (HGA.out z h).1 8) (fun h => by rw [List.mem_singleton.1 h]; exact HGXB.out.1 8))
      have CCL := Lib.hid (fun W (B : Option Addr) (cb : Nat) (hb : Below w.heap.size w W) (hk : Kd.C k27 W B (acc ++ [xb]).length (acc ++ [xb])) => (by have q := Call_calls c.f0 (acc ++ [xb]) B cb W ⟨HT.out.below hb, by rw [List.length_append]; have := HLI.out; simp; omega, hk, HRG.out⟩; rw [← hrr, show (acc ++ [xb]).length = acc.length + 1 by simp] at q; exact q : Calls Tryz.prog 17 #[.string c.f0, .slice B (acc.length + 1) cb] W fun en w' => ∃ v4 v5, en = .returned (.tuple #[.agg #[.int .i64 xa.f0, .int .i64 xa.f1, .int .u64 xa.f2, .string xa.f3, v4, v5], .int .i64 na]) ∧ Kd.R k27 27 w' W.heap.size (fun k_ => some k_ ≠ v5.ownBlock) v4 xa.f4 ∧ Kd.R Kd.string 9 w' W.heap.size (fun _ => True) v5 xa.f5 ∧ Below W.heap.size W w'))
      clear hM hrr hi hai HM HRR HALLE HCM HPA CPE
      have B7R := Lib.hid (blk_below B7.out HBR.out)
      obtain ⟨u0, u1, u2, u3, u4, u5⟩ := box6 B7R.out
      have B9R := Lib.hid (blk_below B9.out HBR.out)
      obtain ⟨p0, p1⟩ := box2 B9R.out
      have HOW := Lib.hid HO.out
      have HSW := Lib.hid HB5.out
      go_upto_region 19 with (first | ((with_reducible refine gate_builtin (b := .append) (xs := #[.tmp 93, .tmp 95]) rfl ?_); at_builtin; refine Kd.R_append k27 (w0 := wr) w5.heap.size rfl (.tmp 93) (.tmp 95) 24 27 (.agg #[.int .i64 0, .int .i64 0, .int .u64 0, .string ⟨#[]⟩, .slice none 0 0, .slice none 0 0]) 88 rfl Tryz.underlying24 info27 rfl (by exact Nat.succ_pos 5) (by decide) (.slice Av acc.length cv) acc xb [.int .i64 xb.f0, .int .i64 xb.f1, .int .u64 xb.f2, .string xb.f3, .slice E7 xb.f4.length e7, .slice F7 xb.f5.length f7] (fun _ => True) (fun k => w5.heap.size ≤ k ∧ k < w9.heap.size) rfl rfl ?aP ?aK (fun _ _ => trivial) ?aO (Below.refl _ _) ?aS ?aL ?_; (case aP => exact own_M2 RB.out HBR.out (Nat.le_refl _)); (case aK => exact fun k hk => ⟨trivial, fun h => by have := HV.out k h.symm; have := hk.2; omega⟩); (case aO => exact HOW.out); (case aS => exact HSW.out); (case aL => have := HLI.out; omega); intro v9 wz hr9 hb9 hg9 hat9; obtain ⟨A9, c9, rfl⟩ := Kd.R_slice hr9; have HR9 := Lib.hid hr9; have HG9 := Lib.hid hg9; have HT9 := Lib.hid hat9; clear hr9 hb9 hg9 hat9))
      clear u0 u1 u2 u3 u4 u5 B7R B9R p0 p1
      have HBZ := Lib.hid ((HBR.out).grown HG9.out (below_size HBR.out) HV.out)
      have HR9L := Lib.hid (Kd.R_reads' HR9.out)
      have HB' := Lib.hid (below_step HB.out HBZ.out); have RA' := Lib.hid (Rows4.below RA.out HBZ.out); have B5' := Lib.hid (blk_below B5.out HBZ.out); have B9' := Lib.hid (blk_below B9.out HBZ.out); clear HB; have HB := HB'; clear HB'; clear RA; have RA := RA'; clear RA'; clear B5; have B5 := B5'; clear B5'; clear B9; have B9 := B9'; clear B9'
      have HCZ := Lib.hid (show Kd.C k27 wz A9 (acc ++ [xb]).length (acc ++ [xb]) from HR9L.out.2.2)
      clear HR9L HR9 HG9 HT9 HBZ HOW HO HV
      obtain ⟨q0, q1⟩ := box2 B9.out
      go_upto_region 20 with (first | (go_at_call 17; (with_reducible refine (CCL.out _ _ _ HB.out HCZ.out).mono ?_); rintro en wf ⟨v4, v5, rfl, hk4, hk5, hb⟩; have HB' := Lib.hid (below_step HB.out hb); have RA' := Lib.hid (Rows4.below RA.out hb); have B5' := Lib.hid (blk_below B5.out hb); have B9' := Lib.hid (blk_below B9.out hb); have HCZ' := Lib.hid (Kd.C_below HCZ.out hb); clear HB; have HB := HB'; clear HB'; clear RA; have RA := RA'; clear RA'; clear B5; have B5 := B5'; clear B5'; clear B9; have B9 := B9'; clear B9'; clear HCZ; have HCZ := HCZ'; clear HCZ'; obtain ⟨E14, e14, rfl⟩ := Kd.R_slice hk4; obtain ⟨F14, f14, rfl⟩ := Kd.R_slice hk5; have R14 := Lib.hid (own_mk hk4 hk5).rows; clear hk4 hk5; clear hb) | ((with_reducible refine gate_store (t := 27) (p := 14) rfl ?_); refine row_event (by rfl) (by rfl) (by rfl) (by rfl) (by rfl) (blk_new wf zeros) (by exact size27) (by rfl) (by first | rfl | simp [Value.oneCell']) ?_; intro wg hz ho hb0; have hb := hb0 (w0 := wf) (Nat.le_refl _) (below_alloc (Below.refl _ _) _); have HB' := Lib.hid (below_step HB.out hb); have RA' := Lib.hid (Rows4.below RA.out hb); have B5' := Lib.hid (blk_below B5.out hb); have B9' := Lib.hid (blk_below B9.out hb); have HCZ' := Lib.hid (Kd.C_below HCZ.out hb); have R14' := Lib.hid (Rows4.below R14.out hb); clear HB; have HB := HB'; clear HB'; clear RA; have RA := RA'; clear RA'; clear B5; have B5 := B5'; clear B5'; clear B9; have B9 := B9'; clear B9'; clear HCZ; have HCZ := HCZ'; clear HCZ'; clear R14; have R14 := R14'; clear R14'; have B14 := Lib.hid hz; clear hz ho hb0 hb))
      clear q0 q1 HCZ B9
      generalize hg14 : wf.heap.size = g14 at *
      clear hg14
      obtain ⟨s0, s1, s2, s3, s4, s5⟩ := box6 B5.out
      obtain ⟨t0, t1, t2, t3, t4, t5⟩ := box6 B14.out
      go_wp2_with (first | (go_at_call 11; (with_reducible refine (numB na _).mono ?_); rintro en wh ⟨rfl, hb⟩; have HB' := Lib.hid (below_step HB.out hb); have RA' := Lib.hid (Rows4.below RA.out hb); have R14' := Lib.hid (Rows4.below R14.out hb); have B5' := Lib.hid (blk_below B5.out hb); have B14' := Lib.hid (blk_below B14.out hb); clear HB; have HB := HB'; clear HB'; clear RA; have RA := RA'; clear RA'; clear R14; have R14 := R14'; clear R14'; clear B5; have B5 := B5'; clear B5'; clear B14; have B14 := B14'; clear B14'; (try clear s0 s1 s2 s3 s4 s5); obtain ⟨s0, s1, s2, s3, s4, s5⟩ := box6 B5.out; (try clear t0 t1 t2 t3 t4 t5); obtain ⟨t0, t1, t2, t3, t4, t5⟩ := box6 B14.out; clear hb) | (go_at_call 10; (with_reducible refine (sv_same xa Ea ea Fa fa E14 e14 F14 f14 _ RA.out R14.out).mono ?_); rintro en wi ⟨rfl, hb⟩; have HB' := Lib.hid (below_step HB.out hb); have RA' := Lib.hid (Rows4.below RA.out hb); have R14' := Lib.hid (Rows4.below R14.out hb); have B5' := Lib.hid (blk_below B5.out hb); have B14' := Lib.hid (blk_below B14.out hb); clear HB; have HB := HB'; clear HB'; clear RA; have RA := RA'; clear RA'; clear R14; have R14 := R14'; clear R14'; clear B5; have B5 := B5'; clear B5'; clear B14; have B14 := B14'; clear B14'; (try clear s0 s1 s2 s3 s4 s5); obtain ⟨s0, s1, s2, s3, s4, s5⟩ := box6 B5.out; (try clear t0 t1 t2 t3 t4 t5); obtain ⟨t0, t1, t2, t3, t4, t5⟩ := box6 B14.out; clear hb))
      go_ret
      exact ⟨by simp, HB.out⟩
    | succ k2 =>
      have hlt : decide (i < c.f1.length) = true := decide_eq_true (by omega)
      have hlt' : decide ((i : Int) < (c.f1.length : Int)) = true := decide_eq_true (by omega)
      have hic : i < c.f1.length := by omega
      have HIC := Lib.hid hic
      obtain ⟨adF, hadF, _⟩ := KF.out.2.2 (by omega)
      subst hadF
      have wi : wrap64 ((i : Int) + 1) = (i : Int) + 1 := Values.wrap_small _ (by have := HL8.out; omega) (by have := HL8.out; omega)
      have wi' : IntKind.i64.wrap ((i : Int) + 1) = (i : Int) + 1 := by rw [i64_w]; exact wi
      have hs1 : ∀ W, (Instr.slice 48 (.slice (some adF) c.f1.length f1) (some (.int .i64 (i : Int))) (some (.int .i64 ((i : Int) + 1))) none).run Tryz.prog W = .ok (.slice (some (adF.add (i * 5))) 1 (f1 - i)) W := by
        have hai2 : (Tryz.prog.info? 57).map (·.size) = some 5 := by kernel_rfl
        obtain ⟨i0, hi0, hz0⟩ := Option.map_eq_some_iff.1 hai2
        have q := cut_mid 48 57 .i64 .i64 Tryz.underlying48 hi0 5 hz0 (some adF) c.f1.length f1 (i : Int) ((i : Int) + 1) (by omega) (by omega) (by omega) LF.out
        have e1 : (i : Int).toNat = i := by omega
        have e2 : ((i : Int) + 1).toNat = i + 1 := by omega
        rw [e1, e2, if_neg (by have := LF.out; omega), show i + 1 - i = 1 by omega] at q
        exact q
      have h14 : 1 ≤ f1 - i := by have := LF.out; omega
      have H14 := Lib.hid h14
      have KA1 := Lib.hid (show Kd.C kA w9 (some (adF.add (i * 5))) 1 [rd_T57 c.f1 (i : Int)] from C_oneR z57 KF.out i hic)
      have hstep := rd_A c.f1 i hic
      have hM := HM.out
      rw [hstep] at hM
      have hmem : rd_T57 c.f1 (i : Int) ∈ c.f1 := List.mem_of_mem_drop (i := i) (by rw [hstep]; exact List.mem_cons_self)
      have hpa := HPA.out _ hmem
      have hga := HCM.out _ hmem
      generalize rd_T57 c.f1 (i : Int) = ai at *
      obtain ⟨⟨xi, ni⟩, hXi⟩ : ∃ r, pipeR [⟨⟨#[]⟩, [ai]⟩] e = r := ⟨_, rfl⟩
      have CPI := Lib.hid (fun W (B : Option Addr) (h1 : Kd.C kC W B 1 [⟨⟨#[]⟩, [ai]⟩]) (h3 : RowsE W e A4 c4 A5 c5 A6 c6) (h4 : Below w.heap.size w W) => (by have q := CPE.out [⟨⟨#[]⟩, [ai]⟩] B 1 W h1 (Nat.le_refl _) h3 h4; rw [hXi] at q; exact q : Calls Tryz.prog 8 #[.slice B 1 1, .agg #[.int .i64 e.f0.f0, .int .i64 e.f0.f1, .int .u64 e.f0.f2, .string e.f0.f3, .slice A4 e.f0.f4.length c4, .slice A5 e.f0.f5.length c5, .slice A6 e.f1.length c6]] W fun en w' => ∃ v4 v5, en = .returned (.tuple #[.agg #[.int .i64 xi.f0, .int .i64 xi.f1, .int .u64 xi.f2, .string xi.f3, v4, v5], .int .i64 ni]) ∧ Kd.R k27 27 w' W.heap.size (fun k_ => some k_ ≠ v5.ownBlock) v4 xi.f4 ∧ Kd.R Kd.string 9 w' W.heap.size (fun _ => True) v5 xi.f5 ∧ Below W.heap.size W w'))
      rw [hXi] at hpa
      have HPX := Lib.hid hpa
      have HGX := Lib.hid hga
      have HMM := Lib.hid hM
      clear hpa hga hM hmem hXi hstep h14 HM hi hai hic
      have BE' := Lib.hid (blk_below BE.out HBR.out); have HE' := Lib.hid (RowsE.below HE.out HBR.out); have HB' := Lib.hid (below_step HB.out HBR.out); have RA' := Lib.hid (Rows4.below RA.out HBR.out); have B5' := Lib.hid (blk_below B5.out HBR.out); have HBS' := Lib.hid (below_step HBS.out HBR.out); have B7' := Lib.hid (blk_below B7.out HBR.out); have RB' := Lib.hid (OwnV.below RB.out HBR.out); have B9' := Lib.hid (blk_below B9.out HBR.out); have KA1' := Lib.hid (Kd.C_below KA1.out HBR.out); clear BE; have BE := BE'; clear BE'; clear HE; have HE := HE'; clear HE'; clear HB; have HB := HB'; clear HB'; clear RA; have RA := RA'; clear RA'; clear B5; have B5 := B5'; clear B5'; clear HBS; have HBS := HBS'; clear HBS'; clear B7; have B7 := B7'; clear B7'; clear RB; have RB := RB'; clear RB'; clear B9; have B9 := B9'; clear B9'; clear KA1; have KA1 := KA1'; clear KA1'
      obtain ⟨y0, y1⟩ := box2 B9.out
      go_upto_region 14 with (fail)
      clear y0 y1
      go_cut [12, 13] (fun v12 v13 wc => ∃ (g12 : Nat) (E : Option Addr) (e4 : Nat) (Fa : Option Addr) (f4 : Nat), v12 = .pointer (some ⟨g12, 0, none⟩) ∧ v13 = .int .i64 ni ∧ Aside0 (wc.heap[g12]? = some (.cells #[.int .i64 xi.f0, .int .i64 xi.f1, .int .u64 xi.f2, .string xi.f3, .slice E xi.f4.length e4, .slice Fa xi.f5.length f4] 27 (0, 0))) ∧ Aside0 (OwnV wc wr.heap.size xi E e4 Fa f4) ∧ Aside0 (Below wr.heap.size wr wc))
      case first =>
        have hbd := below_drew (Below.refl wr.heap.size wr)
        have BE' := Lib.hid (blk_below BE.out hbd); have HE' := Lib.hid (RowsE.below HE.out hbd); have HB' := Lib.hid (below_step HB.out hbd); have RA' := Lib.hid (Rows4.below RA.out hbd); have B5' := Lib.hid (blk_below B5.out hbd); have HBS' := Lib.hid (below_step HBS.out hbd); have B7' := Lib.hid (blk_below B7.out hbd); have RB' := Lib.hid (OwnV.below RB.out hbd); have B9' := Lib.hid (blk_below B9.out hbd); have KA1' := Lib.hid (Kd.C_below KA1.out hbd); clear BE; have BE := BE'; clear BE'; clear HE; have HE := HE'; clear HE'; clear HB; have HB := HB'; clear HB'; clear RA; have RA := RA'; clear RA'; clear B5; have B5 := B5'; clear B5'; clear HBS; have HBS := HBS'; clear HBS'; clear B7; have B7 := B7'; clear B7'; clear RB; have RB := RB'; clear RB'; clear B9; have B9 := B9'; clear B9'; clear KA1; have KA1 := KA1'; clear KA1'
        have HD := Lib.hid hbd
        have HSZ := Lib.hid (show wr.drew.heap.size = wr.heap.size from rfl)
        clear hbd
        generalize hWD : wr.drew = wd at *
        have KEEP := Lib.hid (show ∀ w', Below wd.heap.size wd w' → (fun w' => Below wd.heap.size wd w' ∧ w'.cell? ⟨g3, 0, none⟩ = some (.int .i64 e.f0.f0) ∧ w'.cell? ⟨g3, 1, none⟩ = some (.int .i64 e.f0.f1) ∧ w'.cell? ⟨g3, 2, none⟩ = some (.int .u64 e.f0.f2) ∧ w'.cell? ⟨g3, 3, none⟩ = some (.string e.f0.f3) ∧ w'.cell? ⟨g3, 4, none⟩ = some (.slice A4 e.f0.f4.length c4) ∧ w'.cell? ⟨g3, 5, none⟩ = some (.slice A5 e.f0.f5.length c5) ∧ w'.cell? ⟨g3, 6, none⟩ = some (.slice A6 e.f1.length c6) ∧ w'.cell? ⟨g9, 1, none⟩ = some (.slice (some adF) c.f1.length f1)) w' from fun w' h => ⟨h, (blk_cell (blk_below BE.out h) 0).trans rfl, (blk_cell (blk_below BE.out h) 1).trans rfl, (blk_cell (blk_below BE.out h) 2).trans rfl, (blk_cell (blk_below BE.out h) 3).trans rfl, (blk_cell (blk_below BE.out h) 4).trans rfl, (blk_cell (blk_below BE.out h) 5).trans rfl, (blk_cell (blk_below BE.out h) 6).trans rfl, (blk_cell (blk_below B9.out h) 1).trans rfl⟩)
        refine wp_region_held_drew (S := (fun w' => Below wd.heap.size wd w' ∧ w'.cell? ⟨g3, 0, none⟩ = some (.int .i64 e.f0.f0) ∧ w'.cell? ⟨g3, 1, none⟩ = some (.int .i64 e.f0.f1) ∧ w'.cell? ⟨g3, 2, none⟩ = some (.int .u64 e.f0.f2) ∧ w'.cell? ⟨g3, 3, none⟩ = some (.string e.f0.f3) ∧ w'.cell? ⟨g3, 4, none⟩ = some (.slice A4 e.f0.f4.length c4) ∧ w'.cell? ⟨g3, 5, none⟩ = some (.slice A5 e.f0.f5.length c5) ∧ w'.cell? ⟨g3, 6, none⟩ = some (.slice A6 e.f1.length c6) ∧ w'.cell? ⟨g9, 1, none⟩ = some (.slice (some adF) c.f1.length f1))) (by kernel_rfl) ?_ (fun hHeld => ?_)
        · rw [hWD]; exact KEEP.out _ (Below.refl _ _)
        rw [hWD] at hHeld ⊢
        clear hWD
        have HN := Lib.hid (Below.refl wd.heap.size wd)
        refine wpAnyH_take (i := 0) (oi := ⟨some 69, _, _, _, _, _⟩) (v := ?_) rfl (by as_aux_lemma => kernel_rfl) (by as_aux_lemma => kernel_rfl) (by as_aux_lemma => kernel_rfl) (fun _ _ _ h => h) ?_ (by assumption) ?_; rotate_left; (focus (refine Or.inl ⟨rfl, ?_⟩; intro w hSw; (try dsimp only at hSw); go_simp; (try with_reducible rfl); done)); (try simp only [Act.put, List.setIfInBounds_toArray, List.set_cons_zero, List.set_cons_succ])
        refine wpAnyH_take (i := 1) (oi := ⟨some 70, _, _, _, _, _⟩) (v := ?_) rfl (by as_aux_lemma => kernel_rfl) (by as_aux_lemma => kernel_rfl) (by as_aux_lemma => kernel_rfl) (fun _ _ _ h => h) ?_ (by assumption) ?_; rotate_left; (focus (refine Or.inl ⟨rfl, ?_⟩; intro w hSw; (try dsimp only at hSw); go_simp; (try with_reducible rfl); done)); (try simp only [Act.put, List.setIfInBounds_toArray, List.set_cons_zero, List.set_cons_succ])
        refine wpAnyH_take (i := 2) (oi := ⟨some 71, _, _, _, _, _⟩) (v := ?_) rfl (by as_aux_lemma => kernel_rfl) (by as_aux_lemma => kernel_rfl) (by as_aux_lemma => kernel_rfl) (fun _ _ _ h => h) ?_ (by assumption) ?_; rotate_left; (focus (refine Or.inl ⟨rfl, ?_⟩; intro w hSw; (try dsimp only at hSw); go_simp; (try with_reducible rfl); done)); (try simp only [Act.put, List.setIfInBounds_toArray, List.set_cons_zero, List.set_cons_succ])
        refine wpAnyH_take (i := 3) (oi := ⟨some 72, _, _, _, _, _⟩) (v := ?_) rfl (by as_aux_lemma => kernel_rfl) (by as_aux_lemma => kernel_rfl) (by as_aux_lemma => kernel_rfl) (fun _ _ _ h => h) ?_ (by assumption) ?_; rotate_left; (focus (refine Or.inl ⟨rfl, ?_⟩; intro w hSw; (try dsimp only at hSw); go_simp; (try with_reducible rfl); done)); (try simp only [Act.put, List.setIfInBounds_toArray, List.set_cons_zero, List.set_cons_succ])
        refine wpAnyH_take (i := 4) (oi := ⟨some 73, _, _, _, _, _⟩) (v := ?_) rfl (by as_aux_lemma => kernel_rfl) (by as_aux_lemma => kernel_rfl) (by as_aux_lemma => kernel_rfl) (fun _ _ _ h => h) ?_ (by assumption) ?_; rotate_left; (focus (refine Or.inl ⟨rfl, ?_⟩; intro w hSw; (try dsimp only at hSw); go_simp; (try with_reducible rfl); done)); (try simp only [Act.put, List.setIfInBounds_toArray, List.set_cons_zero, List.set_cons_succ])
        refine wpAnyH_take (i := 5) (oi := ⟨some 74, _, _, _, _, _⟩) (v := ?_) rfl (by as_aux_lemma => kernel_rfl) (by as_aux_lemma => kernel_rfl) (by as_aux_lemma => kernel_rfl) (fun _ _ _ h => h) ?_ (by assumption) ?_; rotate_left; (focus (refine Or.inl ⟨rfl, ?_⟩; intro w hSw; (try dsimp only at hSw); go_simp; (try with_reducible rfl); done)); (try simp only [Act.put, List.setIfInBounds_toArray, List.set_cons_zero, List.set_cons_succ])
        refine wpAnyH_take (i := 6) (oi := ⟨some 75, _, _, _, _, _⟩) (v := ?_) rfl (by as_aux_lemma => kernel_rfl) (by as_aux_lemma => kernel_rfl) (by as_aux_lemma => kernel_rfl) (fun _ _ _ h => h) ?_ (by assumption) ?_; rotate_left; (focus (refine Or.inl ⟨rfl, ?_⟩; intro w hSw; (try dsimp only at hSw); go_simp; (try with_reducible rfl); done)); (try simp only [Act.put, List.setIfInBounds_toArray, List.set_cons_zero, List.set_cons_succ])
        refine wpAnyH_take (i := 8) (oi := ⟨some 77, _, _, _, _, _⟩) (v := ?_) rfl (by as_aux_lemma => kernel_rfl) (by as_aux_lemma => kernel_rfl) (by as_aux_lemma => kernel_rfl) (fun _ _ _ h => h) ?_ (by assumption) ?_; rotate_left; (focus (refine Or.inl ⟨rfl, ?_⟩; intro w hSw; (try dsimp only at hSw); go_simp; (try with_reducible rfl); done)); (try simp only [Act.put, List.setIfInBounds_toArray, List.set_cons_zero, List.set_cons_succ])
        refine wpAnyH_ready (rs := [7, 13]) (by kernel_rfl) (by simp) ?_
        refine AllReadyH.cons (o := ⟨some 76, _, _, _, _, _⟩) rfl (fun K hK => ?_) (AllReadyH.cons (o := ⟨some 12, _, _, _, _, _⟩) rfl (fun K hK => ?_) AllReadyH.nil)
        · go_simp
          have hb := below_alloc (Below.refl wd.heap.size wd) (.cells #[.string ⟨#[]⟩, .slice (some (adF.add (i * 5))) 1 (f1 - i)] 50)
          refine hK.out _ _ (KEEP.out _ (below_step HN.out hb)) (fun hHeld2 => ?_)
          have P20 := Lib.hid (row_lit kC 50 wd [⟨⟨#[]⟩, [ai]⟩] [.string ⟨#[]⟩, .slice (some (adF.add (i * 5))) 1 (f1 - i)] (reps_cmd _ ⟨⟨#[]⟩, [ai]⟩ (Kd.C_below KA1.out HN.out) H14.out) (by simp))
          have HN' := Lib.hid (below_step HN.out hb); clear HN; have HN := HN'; clear HN'
          clear hb; clear hK K hHeld; have hHeld := hHeld2; clear hHeld2; (try simp only [Act.put, List.setIfInBounds_toArray, List.set_cons_zero, List.set_cons_succ])
          generalize hwk : wd.alloc (.cells #[.string ⟨#[]⟩, .slice (some (adF.add (i * 5))) 1 (f1 - i)] 50) = wq1 at *; clear hwk
          have P2 := P20; clear P20
          refine wpAnyH_ready (rs := [9, 13]) (by kernel_rfl) (by simp) ?_
          refine AllReadyH.cons (o := ⟨some 78, _, _, _, _, _⟩) rfl (fun K hK => ?_) (AllReadyH.cons (o := ⟨some 12, _, _, _, _, _⟩) rfl (fun K hK => ?_) AllReadyH.nil)
          · go_simp
            go_at_call 8
            (with_reducible refine (CPI.out _ _ P2.out (HE.out.below HN.out) (below_step HB.out HN.out)).mono ?_)
            rintro en wq2 ⟨v4, v5, rfl, hk4, hk5, hb⟩
            obtain ⟨E, e4, rfl⟩ := Kd.R_slice hk4; obtain ⟨Fa, f4, rfl⟩ := Kd.R_slice hk5; have RK := Lib.hid (own_mk hk4 hk5); have LEC := Lib.hid (below_size HN.out); clear hk4 hk5
            refine hK.out _ _ (KEEP.out _ (below_step HN.out hb)) (fun hHeld2 => ?_)
            have P2' := Lib.hid (Kd.C_below P2.out hb)
            have HN' := Lib.hid (below_step HN.out hb)
            clear P2 HN; have HN := HN'; clear HN'; have P2 := P2'; clear P2'
            clear hb; clear hK K hHeld; have hHeld := hHeld2; clear hHeld2; (try simp only [Act.put, List.setIfInBounds_toArray, List.set_cons_zero, List.set_cons_succ])
            refine wpAnyH_take (i := 10) (oi := ⟨some 68, _, _, _, _, _⟩) (v := ?_) rfl (by as_aux_lemma => kernel_rfl) (by as_aux_lemma => kernel_rfl) (by as_aux_lemma => kernel_rfl) (fun _ _ _ h => h) ?_ (by assumption) ?_; rotate_left; (focus (refine Or.inl ⟨rfl, ?_⟩; intro w hSw; (try dsimp only at hSw); go_simp; (try with_reducible rfl); done)); (try simp only [Act.put, List.setIfInBounds_toArray, List.set_cons_zero, List.set_cons_succ])
            refine wpAnyH_take (i := 11) (oi := ⟨some 79, _, _, _, _, _⟩) (v := ?_) rfl (by as_aux_lemma => kernel_rfl) (by as_aux_lemma => kernel_rfl) (by as_aux_lemma => kernel_rfl) (fun _ _ _ h => h) ?_ (by assumption) ?_; rotate_left; (focus (refine Or.inl ⟨rfl, ?_⟩; intro w hSw; (try dsimp only at hSw); go_simp; (try with_reducible rfl); done)); (try simp only [Act.put, List.setIfInBounds_toArray, List.set_cons_zero, List.set_cons_succ])
            refine wpAnyH_take (i := 12) (oi := ⟨some 80, _, _, _, _, _⟩) (v := ?_) rfl (by as_aux_lemma => kernel_rfl) (by as_aux_lemma => kernel_rfl) (by as_aux_lemma => kernel_rfl) (fun _ _ _ h => h) ?_ (by assumption) ?_; rotate_left; (focus (refine Or.inl ⟨rfl, ?_⟩; intro w hSw; (try dsimp only at hSw); go_simp; (try with_reducible rfl); done)); (try simp only [Act.put, List.setIfInBounds_toArray, List.set_cons_zero, List.set_cons_succ])
            refine wpAnyH_ready (rs := [13]) (by kernel_rfl) (by simp) ?_
            refine AllReadyH.cons (o := ⟨some 12, _, _, _, _, _⟩) rfl (fun K hK => ?_) AllReadyH.nil
            go_simp
            have hb := below_alloc (Below.refl wq2.heap.size wq2) zeros
            refine hK.out _ _ (KEEP.out _ (below_step HN.out hb)) (fun hHeld2 => ?_)
            have B120 := Lib.hid (blk_new wq2 zeros)
            have GEB12 := Lib.hid (below_size HN.out)
            have BAB12 := Lib.hid hb
            have P2' := Lib.hid (Kd.C_below P2.out hb)
            have HN' := Lib.hid (below_step HN.out hb)
            clear P2 HN; have HN := HN'; clear HN'; have P2 := P2'; clear P2'
            clear hb; clear hK K hHeld; have hHeld := hHeld2; clear hHeld2; (try simp only [Act.put, List.setIfInBounds_toArray, List.set_cons_zero, List.set_cons_succ])
            (try clear HGK); generalize hgk : wq2.heap.size = gq3 at *; have HGK := Lib.hid hgk; clear hgk
            generalize hwk : wq2.alloc zeros = wq3 at *; clear hwk
            have B12 := B120; clear B120
            refine wpAnyH_ready (rs := [14]) (by kernel_rfl) (by simp) ?_
            refine AllReadyH.cons (o := ⟨none, _, _, _, _, _⟩) rfl (fun K hK => ?_) AllReadyH.nil
            have nz0 := (blk_cell B12.out 0).trans rfl; have fz0 := blk_frozen B12.out 0; have nz1 := (blk_cell B12.out 1).trans rfl; have fz1 := blk_frozen B12.out 1; have nz2 := (blk_cell B12.out 2).trans rfl; have fz2 := blk_frozen B12.out 2; have nz3 := (blk_cell B12.out 3).trans rfl; have fz3 := blk_frozen B12.out 3; have nz4 := (blk_cell B12.out 4).trans rfl; have fz4 := blk_frozen B12.out 4; have nz5 := (blk_cell B12.out 5).trans rfl; have fz5 := blk_frozen B12.out 5
            go_simp
            have HX := Lib.hid (row_put6 B12.out (.int .i64 xi.f0) (.int .i64 xi.f1) (.int .u64 xi.f2) (.string xi.f3) (.slice E xi.f4.length e4) (.slice Fa xi.f5.length f4))
            have HF := Lib.hid (row_below6 HN.out GEB12.out (.int .i64 xi.f0) (.int .i64 xi.f1) (.int .u64 xi.f2) (.string xi.f3) (.slice E xi.f4.length e4) (.slice Fa xi.f5.length f4))
            clear nz0 fz0 nz1 fz1 nz2 fz2 nz3 fz3 nz4 fz4 nz5 fz5
            have HRW := Lib.hid (OwnV.lower (b' := wr.heap.size) (RK.out.same (SameFrom.of_newR BAB12.out HGK.out (.int .i64 xi.f0) (.int .i64 xi.f1) (.int .u64 xi.f2) (.string xi.f3) (.slice E xi.f4.length e4) (.slice Fa xi.f5.length f4))) (by have := LEC.out; have := HSZ.out; omega))
            refine hK.out _ _ (KEEP.out _ HF.out) (fun hHeld2 => ?_)
            clear hK K hHeld; have hHeld := hHeld2; clear hHeld2; (try simp only [Act.put, List.setIfInBounds_toArray, List.set_cons_zero, List.set_cons_succ])
            refine wpAnyH_take (i := 15) (oi := ⟨some 13, _, _, _, _, _⟩) (v := ?_) rfl (by as_aux_lemma => kernel_rfl) (by as_aux_lemma => kernel_rfl) (by as_aux_lemma => kernel_rfl) (fun _ _ _ h => h) ?_ (by assumption) ?_; rotate_left; (focus (refine Or.inl ⟨rfl, ?_⟩; intro w hSw; (try dsimp only at hSw); go_simp; (try with_reducible rfl); done)); (try simp only [Act.put, List.setIfInBounds_toArray, List.set_cons_zero, List.set_cons_succ])
            refine wpAnyH_done (by kernel_rfl) ?_ _
            go_wp2
            go_meet
            case rel =>
              exact ⟨_, _, _, _, _, rfl, rfl, ⟨HX.out⟩, ⟨HRW.out⟩, ⟨below_step HD.out HF.out⟩⟩
          · go_simp
            have hb := below_alloc (Below.refl wq1.heap.size wq1) zeros
            refine hK.out _ _ (KEEP.out _ (below_step HN.out hb)) (fun hHeld2 => ?_)
            have B120 := Lib.hid (blk_new wq1 zeros)
            have GEB12 := Lib.hid (below_size HN.out)
            have BAB12 := Lib.hid hb
            have P2' := Lib.hid (Kd.C_below P2.out hb)
            have HN' := Lib.hid (below_step HN.out hb)
            clear P2 HN; have HN := HN'; clear HN'; have P2 := P2'; clear P2'
            clear hb; clear hK K hHeld; have hHeld := hHeld2; clear hHeld2; (try simp only [Act.put, List.setIfInBounds_toArray, List.set_cons_zero, List.set_cons_succ])
            (try clear HGK); generalize hgk : wq1.heap.size = gq2 at *; have HGK := Lib.hid hgk; clear hgk
            generalize hwk : wq1.alloc zeros = wq2 at *; clear hwk
            have B12 := B120; clear B120
            refine wpAnyH_ready (rs := [9]) (by kernel_rfl) (by simp) ?_
            refine AllReadyH.cons (o := ⟨some 78, _, _, _, _, _⟩) rfl (fun K hK => ?_) AllReadyH.nil
            go_simp
            go_at_call 8
            (with_reducible refine (CPI.out _ _ P2.out (HE.out.below HN.out) (below_step HB.out HN.out)).mono ?_)
            rintro en wq3 ⟨v4, v5, rfl, hk4, hk5, hb⟩
            obtain ⟨E, e4, rfl⟩ := Kd.R_slice hk4; obtain ⟨Fa, f4, rfl⟩ := Kd.R_slice hk5; have RK := Lib.hid (own_mk hk4 hk5); have LEC := Lib.hid (below_size HN.out); clear hk4 hk5
            have GLB12 := Lib.hid (blk_lt B12.out)
            refine hK.out _ _ (KEEP.out _ (below_step HN.out hb)) (fun hHeld2 => ?_)
            have P2' := Lib.hid (Kd.C_below P2.out hb)
            have B12' := Lib.hid (blk_below B12.out hb)
            have HN' := Lib.hid (below_step HN.out hb)
            clear P2 B12 HN; have HN := HN'; clear HN'; have P2 := P2'; clear P2'; have B12 := B12'; clear B12'
            clear hb; clear hK K hHeld; have hHeld := hHeld2; clear hHeld2; (try simp only [Act.put, List.setIfInBounds_toArray, List.set_cons_zero, List.set_cons_succ])
            refine wpAnyH_take (i := 10) (oi := ⟨some 68, _, _, _, _, _⟩) (v := ?_) rfl (by as_aux_lemma => kernel_rfl) (by as_aux_lemma => kernel_rfl) (by as_aux_lemma => kernel_rfl) (fun _ _ _ h => h) ?_ (by assumption) ?_; rotate_left; (focus (refine Or.inl ⟨rfl, ?_⟩; intro w hSw; (try dsimp only at hSw); go_simp; (try with_reducible rfl); done)); (try simp only [Act.put, List.setIfInBounds_toArray, List.set_cons_zero, List.set_cons_succ])
            refine wpAnyH_take (i := 11) (oi := ⟨some 79, _, _, _, _, _⟩) (v := ?_) rfl (by as_aux_lemma => kernel_rfl) (by as_aux_lemma => kernel_rfl) (by as_aux_lemma => kernel_rfl) (fun _ _ _ h => h) ?_ (by assumption) ?_; rotate_left; (focus (refine Or.inl ⟨rfl, ?_⟩; intro w hSw; (try dsimp only at hSw); go_simp; (try with_reducible rfl); done)); (try simp only [Act.put, List.setIfInBounds_toArray, List.set_cons_zero, List.set_cons_succ])
            refine wpAnyH_take (i := 12) (oi := ⟨some 80, _, _, _, _, _⟩) (v := ?_) rfl (by as_aux_lemma => kernel_rfl) (by as_aux_lemma => kernel_rfl) (by as_aux_lemma => kernel_rfl) (fun _ _ _ h => h) ?_ (by assumption) ?_; rotate_left; (focus (refine Or.inl ⟨rfl, ?_⟩; intro w hSw; (try dsimp only at hSw); go_simp; (try with_reducible rfl); done)); (try simp only [Act.put, List.setIfInBounds_toArray, List.set_cons_zero, List.set_cons_succ])
            refine wpAnyH_ready (rs := [14]) (by kernel_rfl) (by simp) ?_
            refine AllReadyH.cons (o := ⟨none, _, _, _, _, _⟩) rfl (fun K hK => ?_) AllReadyH.nil
            have nz0 := (blk_cell B12.out 0).trans rfl; have fz0 := blk_frozen B12.out 0; have nz1 := (blk_cell B12.out 1).trans rfl; have fz1 := blk_frozen B12.out 1; have nz2 := (blk_cell B12.out 2).trans rfl; have fz2 := blk_frozen B12.out 2; have nz3 := (blk_cell B12.out 3).trans rfl; have fz3 := blk_frozen B12.out 3; have nz4 := (blk_cell B12.out 4).trans rfl; have fz4 := blk_frozen B12.out 4; have nz5 := (blk_cell B12.out 5).trans rfl; have fz5 := blk_frozen B12.out 5
            go_simp
            have HX := Lib.hid (row_put6 B12.out (.int .i64 xi.f0) (.int .i64 xi.f1) (.int .u64 xi.f2) (.string xi.f3) (.slice E xi.f4.length e4) (.slice Fa xi.f5.length f4))
            have HF := Lib.hid (row_below6 HN.out GEB12.out (.int .i64 xi.f0) (.int .i64 xi.f1) (.int .u64 xi.f2) (.string xi.f3) (.slice E xi.f4.length e4) (.slice Fa xi.f5.length f4))
            clear nz0 fz0 nz1 fz1 nz2 fz2 nz3 fz3 nz4 fz4 nz5 fz5
            have HRW := Lib.hid (OwnV.lower (b' := wr.heap.size) (RK.out.same (same_six GLB12.out (.int .i64 xi.f0) (.int .i64 xi.f1) (.int .u64 xi.f2) (.string xi.f3) (.slice E xi.f4.length e4) (.slice Fa xi.f5.length f4))) (by have := LEC.out; have := HSZ.out; omega))
            refine hK.out _ _ (KEEP.out _ HF.out) (fun hHeld2 => ?_)
            clear hK K hHeld; have hHeld := hHeld2; clear hHeld2; (try simp only [Act.put, List.setIfInBounds_toArray, List.set_cons_zero, List.set_cons_succ])
            refine wpAnyH_take (i := 15) (oi := ⟨some 13, _, _, _, _, _⟩) (v := ?_) rfl (by as_aux_lemma => kernel_rfl) (by as_aux_lemma => kernel_rfl) (by as_aux_lemma => kernel_rfl) (fun _ _ _ h => h) ?_ (by assumption) ?_; rotate_left; (focus (refine Or.inl ⟨rfl, ?_⟩; intro w hSw; (try dsimp only at hSw); go_simp; (try with_reducible rfl); done)); (try simp only [Act.put, List.setIfInBounds_toArray, List.set_cons_zero, List.set_cons_succ])
            refine wpAnyH_done (by kernel_rfl) ?_ _
            go_wp2
            go_meet
            case rel =>
              exact ⟨_, _, _, _, _, rfl, rfl, ⟨HX.out⟩, ⟨HRW.out⟩, ⟨below_step HD.out HF.out⟩⟩
        · go_simp
          have hb := below_alloc (Below.refl wd.heap.size wd) zeros
          refine hK.out _ _ (KEEP.out _ (below_step HN.out hb)) (fun hHeld2 => ?_)
          have B120 := Lib.hid (blk_new wd zeros)
          have GEB12 := Lib.hid (below_size HN.out)
          have BAB12 := Lib.hid hb
          have HN' := Lib.hid (below_step HN.out hb); clear HN; have HN := HN'; clear HN'
          clear hb; clear hK K hHeld; have hHeld := hHeld2; clear hHeld2; (try simp only [Act.put, List.setIfInBounds_toArray, List.set_cons_zero, List.set_cons_succ])
          generalize hwk : wd.alloc zeros = wq1 at *; clear hwk
          have B12 := B120; clear B120
          refine wpAnyH_ready (rs := [7]) (by kernel_rfl) (by simp) ?_
          refine AllReadyH.cons (o := ⟨some 76, _, _, _, _, _⟩) rfl (fun K hK => ?_) AllReadyH.nil
          go_simp
          have hb := below_alloc (Below.refl wq1.heap.size wq1) (.cells #[.string ⟨#[]⟩, .slice (some (adF.add (i * 5))) 1 (f1 - i)] 50)
          refine hK.out _ _ (KEEP.out _ (below_step HN.out hb)) (fun hHeld2 => ?_)
          have P20 := Lib.hid (row_lit kC 50 wq1 [⟨⟨#[]⟩, [ai]⟩] [.string ⟨#[]⟩, .slice (some (adF.add (i * 5))) 1 (f1 - i)] (reps_cmd _ ⟨⟨#[]⟩, [ai]⟩ (Kd.C_below KA1.out HN.out) H14.out) (by simp))
          have B12' := Lib.hid (blk_below B12.out hb)
          have HN' := Lib.hid (below_step HN.out hb)
          clear B12 HN; have HN := HN'; clear HN'; have B12 := B12'; clear B12'
          clear hb; clear hK K hHeld; have hHeld := hHeld2; clear hHeld2; (try simp only [Act.put, List.setIfInBounds_toArray, List.set_cons_zero, List.set_cons_succ])
          (try clear HGK); generalize hgk : wq1.heap.size = gq2 at *; have HGK := Lib.hid hgk; clear hgk
          generalize hwk : wq1.alloc (.cells #[.string ⟨#[]⟩, .slice (some (adF.add (i * 5))) 1 (f1 - i)] 50) = wq2 at *; clear hwk
          have P2 := P20; clear P20
          refine wpAnyH_ready (rs := [9]) (by kernel_rfl) (by simp) ?_
          refine AllReadyH.cons (o := ⟨some 78, _, _, _, _, _⟩) rfl (fun K hK => ?_) AllReadyH.nil
          go_simp
          go_at_call 8
          (with_reducible refine (CPI.out _ _ P2.out (HE.out.below HN.out) (below_step HB.out HN.out)).mono ?_)
          rintro en wq3 ⟨v4, v5, rfl, hk4, hk5, hb⟩
          obtain ⟨E, e4, rfl⟩ := Kd.R_slice hk4; obtain ⟨Fa, f4, rfl⟩ := Kd.R_slice hk5; have RK := Lib.hid (own_mk hk4 hk5); have LEC := Lib.hid (below_size HN.out); clear hk4 hk5
          have GLB12 := Lib.hid (blk_lt B12.out)
          refine hK.out _ _ (KEEP.out _ (below_step HN.out hb)) (fun hHeld2 => ?_)
          have B12' := Lib.hid (blk_below B12.out hb)
          have P2' := Lib.hid (Kd.C_below P2.out hb)
          have HN' := Lib.hid (below_step HN.out hb)
          clear B12 P2 HN; have HN := HN'; clear HN'; have B12 := B12'; clear B12'; have P2 := P2'; clear P2'
          clear hb; clear hK K hHeld; have hHeld := hHeld2; clear hHeld2; (try simp only [Act.put, List.setIfInBounds_toArray, List.set_cons_zero, List.set_cons_succ])
          refine wpAnyH_take (i := 10) (oi := ⟨some 68, _, _, _, _, _⟩) (v := ?_) rfl (by as_aux_lemma => kernel_rfl) (by as_aux_lemma => kernel_rfl) (by as_aux_lemma => kernel_rfl) (fun _ _ _ h => h) ?_ (by assumption) ?_; rotate_left; (focus (refine Or.inl ⟨rfl, ?_⟩; intro w hSw; (try dsimp only at hSw); go_simp; (try with_reducible rfl); done)); (try simp only [Act.put, List.setIfInBounds_toArray, List.set_cons_zero, List.set_cons_succ])
          refine wpAnyH_take (i := 11) (oi := ⟨some 79, _, _, _, _, _⟩) (v := ?_) rfl (by as_aux_lemma => kernel_rfl) (by as_aux_lemma => kernel_rfl) (by as_aux_lemma => kernel_rfl) (fun _ _ _ h => h) ?_ (by assumption) ?_; rotate_left; (focus (refine Or.inl ⟨rfl, ?_⟩; intro w hSw; (try dsimp only at hSw); go_simp; (try with_reducible rfl); done)); (try simp only [Act.put, List.setIfInBounds_toArray, List.set_cons_zero, List.set_cons_succ])
          refine wpAnyH_take (i := 12) (oi := ⟨some 80, _, _, _, _, _⟩) (v := ?_) rfl (by as_aux_lemma => kernel_rfl) (by as_aux_lemma => kernel_rfl) (by as_aux_lemma => kernel_rfl) (fun _ _ _ h => h) ?_ (by assumption) ?_; rotate_left; (focus (refine Or.inl ⟨rfl, ?_⟩; intro w hSw; (try dsimp only at hSw); go_simp; (try with_reducible rfl); done)); (try simp only [Act.put, List.setIfInBounds_toArray, List.set_cons_zero, List.set_cons_succ])
          refine wpAnyH_ready (rs := [14]) (by kernel_rfl) (by simp) ?_
          refine AllReadyH.cons (o := ⟨none, _, _, _, _, _⟩) rfl (fun K hK => ?_) AllReadyH.nil
          have nz0 := (blk_cell B12.out 0).trans rfl; have fz0 := blk_frozen B12.out 0; have nz1 := (blk_cell B12.out 1).trans rfl; have fz1 := blk_frozen B12.out 1; have nz2 := (blk_cell B12.out 2).trans rfl; have fz2 := blk_frozen B12.out 2; have nz3 := (blk_cell B12.out 3).trans rfl; have fz3 := blk_frozen B12.out 3; have nz4 := (blk_cell B12.out 4).trans rfl; have fz4 := blk_frozen B12.out 4; have nz5 := (blk_cell B12.out 5).trans rfl; have fz5 := blk_frozen B12.out 5
          go_simp
          have HX := Lib.hid (row_put6 B12.out (.int .i64 xi.f0) (.int .i64 xi.f1) (.int .u64 xi.f2) (.string xi.f3) (.slice E xi.f4.length e4) (.slice Fa xi.f5.length f4))
          have HF := Lib.hid (row_below6 HN.out GEB12.out (.int .i64 xi.f0) (.int .i64 xi.f1) (.int .u64 xi.f2) (.string xi.f3) (.slice E xi.f4.length e4) (.slice Fa xi.f5.length f4))
          clear nz0 fz0 nz1 fz1 nz2 fz2 nz3 fz3 nz4 fz4 nz5 fz5
          have HRW := Lib.hid (OwnV.lower (b' := wr.heap.size) (RK.out.same (same_six GLB12.out (.int .i64 xi.f0) (.int .i64 xi.f1) (.int .u64 xi.f2) (.string xi.f3) (.slice E xi.f4.length e4) (.slice Fa xi.f5.length f4))) (by have := LEC.out; have := HSZ.out; omega))
          refine hK.out _ _ (KEEP.out _ HF.out) (fun hHeld2 => ?_)
          clear hK K hHeld; have hHeld := hHeld2; clear hHeld2; (try simp only [Act.put, List.setIfInBounds_toArray, List.set_cons_zero, List.set_cons_succ])
          refine wpAnyH_take (i := 15) (oi := ⟨some 13, _, _, _, _, _⟩) (v := ?_) rfl (by as_aux_lemma => kernel_rfl) (by as_aux_lemma => kernel_rfl) (by as_aux_lemma => kernel_rfl) (fun _ _ _ h => h) ?_ (by assumption) ?_; rotate_left; (focus (refine Or.inl ⟨rfl, ?_⟩; intro w hSw; (try dsimp only at hSw); go_simp; (try with_reducible rfl); done)); (try simp only [Act.put, List.setIfInBounds_toArray, List.set_cons_zero, List.set_cons_succ])
          refine wpAnyH_done (by kernel_rfl) ?_ _
          go_wp2
          go_meet
          case rel =>
            exact ⟨_, _, _, _, _, rfl, rfl, ⟨HX.out⟩, ⟨HRW.out⟩, ⟨below_step HD.out HF.out⟩⟩
      case rest =>
      obtain ⟨g12, E12, e12, F12, f12, rfl, rfl, HX0, HO0, HB0⟩ := hcut
      have HBC := Lib.hid HB0.out
      have B12 := Lib.hid HX0.out
      have RX := Lib.hid HO0.out
      clear HX0 HO0 HB0 hs1 CPI
      have HB9 := Lib.hid (below_step HBR.out HBC.out)
      have HBW := Lib.hid (below_step HB.out HBC.out)
      by_cases hx : (argR e ai).2 ≠ 0
      · have hpx := HPX.out
        rw [if_neg hx] at hpx
        obtain ⟨rfl, rfl⟩ := Prod.mk.inj hpx
        have hmm := HMM.out
        rw [contA_no _ _ _ _ hx] at hmm
        have hrr := HRR.out
        rw [← hmm, if_neg hx] at hrr
        obtain ⟨rfl, rfl⟩ := Prod.mk.inj hrr
        generalize (argR e ai).2 = na at *
        have e1 : (na == 0) = false := beq_eq_false_iff_ne.2 hx
        have e2 : decide (na = 0) = false := decide_eq_false hx
        have e3 : (na = 0) = False := eq_false hx
        clear BE HE RA B5 B7 RB B9 KA1 B12 RX CPE HB HBR HBC HB9 HPX HMM HRR hpx hmm hrr
        go_wp2_with (first | (go_at_call 11; (with_reducible refine (numB na _).mono ?_); rintro en wn ⟨rfl, hb⟩; have HBW' := Lib.hid (below_step HBW.out hb); clear HBW; have HBW := HBW'; clear HBW'; clear hb))
        go_ret
        exact ⟨by simp, HBW.out⟩
      have hx : (argR e ai).2 = 0 := Decidable.byContradiction hx
      have hpx := HPX.out
      rw [if_pos hx] at hpx
      obtain ⟨rfl, rfl⟩ := Prod.mk.inj hpx
      have hmm := HMM.out
      rw [contA_yes _ _ _ _ hx] at hmm
      generalize (argR e ai).1 = xi at *
      have HMS := Lib.hid hmm
      clear hmm hpx HPX HMM hx
      have HOC := Lib.hid (Kd.R_below HO.out HBC.out)
      go_upto_region 17 with (first | (go_at_call 11; (with_reducible refine (numB 0 _).mono ?_); rintro en wn ⟨rfl, hb⟩; have B12' := Lib.hid (blk_below B12.out hb); have RX' := Lib.hid (OwnV.below RX.out hb); have HOC' := Lib.hid (Kd.R_below HOC.out hb); have HB9' := Lib.hid (below_step HB9.out hb); have HBW' := Lib.hid (below_step HBW.out hb); have HBC' := Lib.hid (below_step HBC.out hb); clear B12; have B12 := B12'; clear B12'; clear RX; have RX := RX'; clear RX'; clear HOC; have HOC := HOC'; clear HOC'; clear HB9; have HB9 := HB9'; clear HB9'; clear HBW; have HBW := HBW'; clear HBW'; clear HBC; have HBC := HBC'; clear HBC'; (try clear z0 z1 z2 z3 z4 z5); obtain ⟨z0, z1, z2, z3, z4, z5⟩ := box6 B12.out; clear hb))
      have HOW := Lib.hid HOC.out
      have HSW := Lib.hid (Nat.le_trans HB5.out (below_size HBC.out))
      go_wp2_with (first | ((with_reducible refine gate_builtin (b := .append) (xs := #[.tmp 89, .tmp 91]) rfl ?_); at_builtin; refine Kd.R_append k27 (w0 := wn) w5.heap.size rfl (.tmp 89) (.tmp 91) 24 27 (.agg #[.int .i64 0, .int .i64 0, .int .u64 0, .string ⟨#[]⟩, .slice none 0 0, .slice none 0 0]) 88 rfl Tryz.underlying24 info27 rfl (by exact Nat.succ_pos 5) (by decide) (.slice Av acc.length cv) acc xi [.int .i64 xi.f0, .int .i64 xi.f1, .int .u64 xi.f2, .string xi.f3, .slice E12 xi.f4.length e12, .slice F12 xi.f5.length f12] (fun _ => True) (fun k => wr.heap.size ≤ k ∧ k < wn.heap.size) rfl rfl ?aP ?aK (fun _ _ => trivial) ?aO (Below.refl _ _) ?aS ?aL ?_; (case aP => exact own_M2 RX.out (Below.refl _ _) (Nat.le_trans HB5.out (Nat.le_refl _))); (case aK => exact fun k hk => ⟨trivial, fun h => by have := Kd.R_lt HO.out k h.symm; have := hk.1; omega⟩); (case aO => exact HOW.out); (case aS => exact HSW.out); (case aL => have := HL8.out; have := HI.out; omega); intro v9 wz hr9 hb9 hg9 hat9; obtain ⟨A9, c9, rfl⟩ := Kd.R_slice hr9; have HR9 := Lib.hid hr9; have HG9 := Lib.hid hg9; have HT9 := Lib.hid hat9; clear hr9 hb9 hg9 hat9))
      go_roundg k2
      case measure => omega
      case rel =>
        have hbz := (HB9.out).grown HG9.out (below_size HB9.out) HV.out
        exact ⟨i + 1, acc ++ [xi], A9, c9, by simp, by first | rfl | simp, ⟨by have := HI.out; omega, by rw [List.length_append, HI.out.2]; rfl⟩, ⟨HMS.out⟩, ⟨fun z hz => by rcases List.mem_append.1 hz with h | h; exact HGA.out z h; rw [List.mem_singleton.1 h]; exact HGX.out⟩, ⟨HR9.out⟩, ⟨fun k hk => by rcases HT9.out with h | ⟨b, h, hb⟩; exact HV.out k (by rw [← h]; exact hk); rw [h] at hk; obtain rfl := Option.some.inj hk; exact Nat.le_trans (below_size HB9.out) hb⟩, ⟨hbz⟩⟩
end Go.Proofs.YtdghnfmhcnlppaaGreatDoor.Eval
