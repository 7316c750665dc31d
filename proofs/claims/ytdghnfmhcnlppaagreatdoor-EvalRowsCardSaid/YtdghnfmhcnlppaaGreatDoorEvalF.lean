/- Package eval, walked: Pipe: whatever the pipe, whatever the Env. -/
import Derived.Test.YtdghnfmhcnlppaaGreatDoorEvalE
namespace Go.Proofs.YtdghnfmhcnlppaaGreatDoor.Eval
open Go.RowKit Go.Proofs.YtdghnfmhcnlppaaGreatDoor.Q Go.Proofs.YtdghnfmhcnlppaaGreatDoor.Real Go.Proofs.YtdghnfmhcnlppaaGreatDoor.RealPure Go.Proofs.YtdghnfmhcnlppaaGreatDoor.Values Go.Proofs.YtdghnfmhcnlppaaGreatDoor.Fns Go.Proofs.YtdghnfmhcnlppaaGreatDoorW.PrintWords Go.Proofs.YtdghnfmhcnlppaaGreatDoorW.PrintLast Go.Proofs.YtdghnfmhcnlppaaGreatDoorW.PrintMore
set_option linter.unusedSimpArgs false
set_option linter.unusedVariables false

set_option maxHeartbeats 16000000 in
set_option maxRecDepth 100000 in
theorem Pipe_calls (p : List Cm) (A : Option Addr) (cp : Nat) (e : En) (A4 : Option Addr) (c4 : Nat) (A5 : Option Addr) (c5 : Nat) (A6 : Option Addr) (c6 : Nat) (w : World)
    (h : RowsE w e A4 c4 A5 c5 A6 c6) (hA : Kd.C kC w A p.length p) (hc : p.length ≤ cp) (hT : Tabs w) (hgd : goodE e) :
    Calls Tryz.prog 8 #[.slice A p.length cp, envV e A4 c4 A5 c5 A6 c6] w fun en w' => Got w w' en (pipeR p e) := by
  have hu27 := Tryz.underlying27
  have CP := Lib.hid (fun W (hb : Below w.heap.size w W) => Pipe.May_calls A cp p W (Kd.C_below hA hb) hc)
  have CM := Lib.hid (fun g W (hb : Below w.heap.size w W) (hE : W.heap[g]? = some (envO e A4 c4 A5 c5 A6 c6)) => may_calls e A4 c4 A5 c5 A6 c6 g w W hb hE h)
  have CR := Lib.hid (fun g W (hb : Below w.heap.size w W) (hE : W.heap[g]? = some (envO e A4 c4 A5 c5 A6 c6)) (h1 : Pipe.mayP p = true) (h2 : envB e = true) => reckon_calls p A cp e A4 c4 A5 c5 A6 c6 g W hE (h.below hb) (Kd.C_below hA hb) h1 h2 (hT.below hb) hgd)
  have HG := Lib.hid (fun (h2 : envB e = true) => (reckR_good e h2 hgd p [] z27 (fun z hz => by cases hz) good_zero))
  clear h hA hc hT hgd
  obtain ⟨RR, hRR⟩ : ∃ RR, pipeR p e = RR := ⟨_, rfl⟩
  rw [hRR]
  unfold pipeR at hRR
  obtain ⟨mp, hmp⟩ : ∃ b, Pipe.mayP p = b := ⟨_, rfl⟩
  rw [hmp] at CP hRR
  have HMP := Lib.hid hmp
  clear hmp
  obtain ⟨me, hme⟩ : ∃ b, envB e = b := ⟨_, rfl⟩
  rw [hme] at hRR
  have CM := Lib.hid (fun g W hb hE => by have q := CM.out g W hb hE; rw [hme] at q; exact q : ∀ g W (hb : Below w.heap.size w W) (hE : W.heap[g]? = some (envO e A4 c4 A5 c5 A6 c6)), Calls Tryz.prog 23 #[.pointer (some ⟨g, 0, none⟩)] W fun en w' => en = .returned (.bool me) ∧ Below W.heap.size W w')
  have HME := Lib.hid hme
  clear hme
  have HRR := Lib.hid hRR
  clear hRR
  go_enter Tryz.func8, Tryz.ntmps8
  go_upto_region 1 with (first | ((with_reducible refine gate_dst (N := 3) rfl ?_); (try (refine gate_guard (by rfl) ?_; dsimp only)); refine box_event ?hg (N := 3) ?hd (cs := #[.int .i64 e.f0.f0, .int .i64 e.f0.f1, .int .u64 e.f0.f2, .string e.f0.f3, .slice A4 e.f0.f4.length c4, .slice A5 e.f0.f5.length c5, .slice A6 e.f1.length c6]) (t := 30) ?hr ?_; (case hd => rfl); (case hg => rfl); (case hr => first | (go_simp; done) | (go_simp; rfl)); intro gb hg w3 hbox hb; have BK := Lib.hid hbox; have HB := Lib.hid hb; have GE := Lib.hid hg; clear hb hbox hg))
  have A1 := Lib.hid (blk_alloc BK.out zeros)
  have A2 := Lib.hid (blk_new w3 zeros)
  have A3 := Lib.hid (below_alloc HB.out zeros)
  have GZ := Lib.hid (below_size HB.out)
  clear HB BK
  have S3 := Lib.hid (show w3.heap.size < (w3.alloc zeros).heap.size by simp)
  generalize w3.heap.size = gz at *
  generalize hw4 : w3.alloc zeros = w4 at *
  clear hw4
  cases mp
  · have HRX := Lib.hid (show RR = (z27, 1900) by rw [← HRR.out]; rfl)
    go_wp2_with (first | (go_at_call 22; (with_reducible refine (CP.out _ A3.out).mono ?_); rintro en w5 ⟨rfl, hb5⟩; have Z5 := Lib.hid (blk_below A2.out hb5); have HB5 := Lib.hid (below_step A3.out hb5); clear hb5) | ((with_reducible refine gate_store (t := 27) (p := 4) rfl ?_); refine row_event (by rfl) (by rfl) (by rfl) (by rfl) (by rfl) Z5.out (by exact size27) (by rfl) (by first | rfl | simp [Value.oneCell']) ?_; intro w8 hz8 ho8 hb8; have Z8 := Lib.hid hz8; have HB8 := Lib.hid (hb8 GZ.out HB5.out); clear hb8 ho8 hz8))
    refine bodyPost_ret (results_cell_row_tmp rfl _ _ gz 27 _ (0, 0) _ rfl Z8.out hu27 rfl (by exact size27)) rfl ?_
    rw [HRX.out]
    exact ⟨.slice none 0 0, .slice none 0 0, rfl, Kd.R_nil _ _ _ _ _, Kd.R_nil _ _ _ _ _, HB8.out⟩
  cases me
  · have HRX := Lib.hid (show RR = (z27, 1900) by rw [← HRR.out]; rfl)
    go_wp2_with (first | (go_at_call 22; (with_reducible refine (CP.out _ A3.out).mono ?_); rintro en w5 ⟨rfl, hb5⟩; have Z5 := Lib.hid (blk_below A2.out hb5); have Y5 := Lib.hid (blk_below A1.out hb5); have HB5 := Lib.hid (below_step A3.out hb5); clear hb5) | (go_at_call 23; (with_reducible refine (CM.out _ _ HB5.out Y5.out).mono ?_); rintro en w6 ⟨rfl, hb6⟩; have Z6 := Lib.hid (blk_below Z5.out hb6); have HB6 := Lib.hid (below_step HB5.out hb6); clear hb6) | ((with_reducible refine gate_store (t := 27) (p := 4) rfl ?_); refine row_event (by rfl) (by rfl) (by rfl) (by rfl) (by rfl) Z6.out (by exact size27) (by rfl) (by first | rfl | simp [Value.oneCell']) ?_; intro w8 hz8 ho8 hb8; have Z8 := Lib.hid hz8; have HB8 := Lib.hid (hb8 GZ.out HB6.out); clear hb8 ho8 hz8))
    refine bodyPost_ret (results_cell_row_tmp rfl _ _ gz 27 _ (0, 0) _ rfl Z8.out hu27 rfl (by exact size27)) rfl ?_
    rw [HRX.out]
    exact ⟨.slice none 0 0, .slice none 0 0, rfl, Kd.R_nil _ _ _ _ _, Kd.R_nil _ _ _ _ _, HB8.out⟩
  have HRX := Lib.hid (show RR = reckR e p [] z27 by rw [← HRR.out]; rfl)
  obtain ⟨d, hd⟩ := (HG.out HME.out).2
  have CR := Lib.hid (fun g W hb hE => CR.out g W hb hE HMP.out HME.out)
  obtain ⟨⟨x, n⟩, hx⟩ : ∃ r, reckR e p [] z27 = r := ⟨_, rfl⟩
  rw [hx] at CR hd
  have HRX := Lib.hid (HRX.out.trans hx)
  have CC := Lib.hid (fun (E : Option Addr) (e4 : Nat) (Fa : Option Addr) (f4 : Nat) W (hr : Rows4 W x E e4 Fa f4) => Copy_all d x E e4 Fa f4 W hd hr)
  clear hx hd HG HRR
  go_wp2_with (first | (go_at_call 22; (with_reducible refine (CP.out _ A3.out).mono ?_); rintro en w5 ⟨rfl, hb5⟩; have Z5 := Lib.hid (blk_below A2.out hb5); have Y5 := Lib.hid (blk_below A1.out hb5); have HB5 := Lib.hid (below_step A3.out hb5); clear hb5) | (go_at_call 23; (with_reducible refine (CM.out _ _ HB5.out Y5.out).mono ?_); rintro en w6 ⟨rfl, hb6⟩; have Z6 := Lib.hid (blk_below Z5.out hb6); have Y6 := Lib.hid (blk_below Y5.out hb6); have HB6 := Lib.hid (below_step HB5.out hb6); clear hb6) | (go_at_call 24; (with_reducible refine (CR.out _ _ HB6.out Y6.out).mono ?_); rintro en w7 ⟨E, e4, Fa, f4, rfl, hr7, hb7⟩; have Z7 := Lib.hid (blk_alloc (blk_below Z6.out hb7) zeros); have HB7 := Lib.hid (below_alloc (below_step HB6.out hb7) zeros); have BN := Lib.hid (blk_new w7 zeros); have NE := Lib.hid (show gz ≠ w7.heap.size from Nat.ne_of_lt (blk_lt (blk_below Z6.out hb7))); have LE7 := Lib.hid (below_size (below_step HB6.out hb7)); have RW7 := Lib.hid hr7; clear hb7 hr7) | ((with_reducible refine gate_store (t := 27) (p := 6) rfl ?_); refine row_event (by rfl) (by rfl) (by rfl) (by rfl) (by rfl) BN.out (by exact size27) (by rfl) (by first | rfl | simp [Value.oneCell']) ?_; intro w8 hz8 ho8 hb8; have Z8 := Lib.hid ((ho8 _ NE.out).trans Z7.out); have HB8 := Lib.hid (hb8 LE7.out HB7.out); have RW8 := Lib.hid (RW7.out.below (hb8 (Nat.le_refl _) (below_alloc (Below.refl _ _) zeros))); have G8 := Lib.hid (blk_lt Z8.out); obtain ⟨s0, s1, s2, s3, s4, s5⟩ := At.of_box hz8; clear hb8 ho8 hz8) | (go_at_call 25; (with_reducible refine (CC.out _ _ _ _ _ RW8.out).mono ?_); rintro en w9 ⟨v4, v5, rfl, h4, h5, hb9⟩; obtain ⟨E9, e9, rfl⟩ := Kd.R_slice h4; obtain ⟨F9, f9, rfl⟩ := Kd.R_slice h5; have H4 := Lib.hid h4; have H5 := Lib.hid h5; have Z9 := Lib.hid (blk_below Z8.out hb9); have HB9 := Lib.hid (below_step HB8.out hb9); clear h4 h5 hb9) | ((with_reducible refine gate_store (t := 27) (p := 4) rfl ?_); refine row_event (by rfl) (by rfl) (by rfl) (by rfl) (by rfl) Z9.out (by exact size27) (by rfl) (by first | rfl | simp [Value.oneCell']) ?_; intro wf hzf hof hbf; have ZF := Lib.hid hzf; have HOF := Lib.hid hof; have HBF := Lib.hid (hbf GZ.out HB9.out); clear hbf hof hzf))
  refine bodyPost_ret (results_cell_row_tmp rfl _ _ gz 27 _ (0, 0) _ rfl ZF.out hu27 rfl (by exact size27)) rfl ?_
  rw [HRX.out]
  exact ⟨_, _, rfl, R_other H4.out G8.out HOF.out (below_size HB8.out), R_other H5.out G8.out HOF.out (below_size HB8.out), HBF.out⟩
end Go.Proofs.YtdghnfmhcnlppaaGreatDoor.Eval
