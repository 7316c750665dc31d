/- The law Pipes, walked: whatever the words and the pipe, within their sizes, its answer is true. -/
import Derived.Test.YthaapadjlknieaaPurePipes
import Derived.Test.YthaapadjlknieaaPipeSpoilB
import Derived.Test.YthaapadjlknieaaQ4
namespace Go.Proofs.Ythaapadjlknieaa.Pipe
open Go.RowKit Go.Proofs.Ythaapadjlknieaa.Q Go.Proofs.YthaapadjlknieaaW.PrintWords Go.Proofs.YthaapadjlknieaaW.PrintLast Go.Proofs.YthaapadjlknieaaW.PrintMore
/-- A row of one's own that begins no lower than what was spoiled ends. -/
theorem R_sp {base top m : Nat} {ok : Nat → Prop} {w w' : World} {v : Value} {l : List Cm} (h : kC.R 38 w top ok v l) (hs : Sp base top m w w') : kC.R 38 w' top ok v l :=
  Kd.R_mono (Kd.R_step (Kd.R_bound h) (fun k hk hl => hs.2.1 k hk.2.1 hl)) (fun _ hk => hk.1)
def AnsP (w : World) (r1 : List Cm) (r2 : Int) (e : Ending) (w' : World) : Prop := ∃ v, e = .returned (.tuple #[v, .int .i64 r2]) ∧ kC.R 38 w' w.heap.size (fun _ => True) v r1 ∧ Below w.heap.size w w'
set_option maxHeartbeats 8000000 in
set_option maxRecDepth 100000 in
theorem pipes_calls (A0 : Option Addr) (c0 : Nat) (l0 : List Wd) (A1 : Option Addr) (c1 : Nat) (l1 : List Cm) (w : World) (hA0 : Kd.C kW w A0 l0.length l0) (hc0 : l0.length ≤ c0) (hl0 : l0.length ≤ 1048575) (hz0 : ∀ x ∈ l0, sizedW x)
    (hA1 : Kd.C kC w A1 l1.length l1) (hc1 : l1.length ≤ c1) (hl1 : l1.length ≤ 1048576) (hz1 : ∀ x ∈ l1, Pure.sizedM x) :
    Calls Try.prog 3 #[.slice A0 l0.length c0, .slice A1 l1.length c1] w fun e w' => e = .returned (.bool true) ∧ Below w.heap.size w w' := by
  have HA0 := Lib.hid hA0; have HC0 := Lib.hid hc0; have HL0 := Lib.hid hl0; have HZ0 := Lib.hid hz0
  have HA1 := Lib.hid hA1; have HC1 := Lib.hid hc1; have HL1 := Lib.hid hl1
  obtain ⟨kcp, hcp⟩ := Pure.copy_total l1 hl1 (fun x hx => (hz1 x hx).1)
  obtain ⟨ksx, hsx⟩ := Pure.same_total l1 (by omega) (fun x hx => (hz1 x hx).1)
  obtain ⟨kpm, hpm⟩ := Pure.pmay_total l1 (by omega) hz1
  obtain ⟨⟨r1, r2⟩, hR⟩ : ∃ R, parseR l0 = R := ⟨_, rfl⟩
  have hps := Pure.parse_small l0
  have hpc := Pure.parse_sizedC l0
  have hpp := Pure.parse_sizedP l0
  have hrf := parse_ref l0
  rw [hR] at hps hpc hpp hrf
  have hps' : r1.length ≤ 8 ∧ ∀ c ∈ r1, c.f1.length ≤ 1048576 := ⟨hps.1, fun c hc => (hpc c hc).1⟩
  obtain ⟨ksa, hsa⟩ := Pure.same_total r1 (by omega) hpc
  have HPA := Lib.hid (fun W (k : Kd.C kW W A0 l0.length l0) => (by have h := Parse_calls A0 c0 l0 W k hc0 (by omega); rw [hR] at h; exact h : Calls Try.prog 7 #[.slice A0 l0.length c0] W (AnsP W r1 r2)))
  have HPR := Lib.hid (fun W (k : Kd.C kW W A0 l0.length l0) => (by have h := RParse_calls A0 c0 l0 W k hc0 hl0 hz0; rw [hrf] at h; exact h : Calls Try.prog 8 #[.slice A0 l0.length c0] W (AnsP W r1 r2)))
  have HSA := Lib.hid (fun W (Aa : Option Addr) (ca : Nat) (Ab : Option Addr) (cb : Nat) (ka : Kd.C kC W Aa r1.length r1) (ha : r1.length ≤ ca) (kb : Kd.C kC W Ab r1.length r1) (hb : r1.length ≤ cb) => stolelaw0_SamePipe.calls ksa Aa ca r1 Ab cb r1 true W ka ha kb hb hsa)
  have HSX := Lib.hid (fun W (Aa : Option Addr) (ca : Nat) (Ab : Option Addr) (cb : Nat) (ka : Kd.C kC W Aa l1.length l1) (ha : l1.length ≤ ca) (kb : Kd.C kC W Ab l1.length l1) (hb : l1.length ≤ cb) => stolelaw0_SamePipe.calls ksx Aa ca l1 Ab cb l1 true W ka ha kb hb hsx)
  have HCP := Lib.hid (fun W (Aa : Option Addr) (ca : Nat) (ka : Kd.C kC W Aa l1.length l1) (ha : l1.length ≤ ca) => stolelaw0_CopyPipe.calls kcp Aa ca l1 l1 W ka ha hcp)
  obtain ⟨bm, hbm⟩ : ∃ b, mayP l1 = b := ⟨_, rfl⟩
  rw [hbm] at hpm
  have HPM := Lib.hid (fun W (Aa : Option Addr) (ca : Nat) (ka : Kd.C kC W Aa l1.length l1) (ha : l1.length ≤ ca) => stoleref13_PipeMay.calls kpm Aa ca l1 bm W ka ha hpm)
  have HMA := Lib.hid (fun W (Aa : Option Addr) (ca : Nat) (ka : Kd.C kC W Aa l1.length l1) (ha : l1.length ≤ ca) => (by have q := May_calls Aa ca l1 W ka ha; rw [hbm] at q; exact q : Calls Try.prog 13 #[.slice Aa l1.length ca] W fun e w' => e = .returned (.bool bm) ∧ Below W.heap.size W w'))
  have HSP := Lib.hid (fun (W1 W : World) (base : Nat) (v : Value) (ok : Nat → Prop) (h : kC.R 38 W1 base ok v r1) (hbl : Below W1.heap.size W1 W) (hb : base ≤ W1.heap.size) => spoilP_calls 1048576 base W1.heap.size r1 v W ((sh_pipe h hpp).sp (Sp.of_below hbl hb)) (by omega) hps'.2 (Nat.le_refl _) (Nat.le_trans hb (below_size hbl)))
  have HAW := Lib.hid (fun W => stolelaw15_awake.calls 60 true W (show stolelaw15_awake.f 60 = some true by kernel_rfl))
  clear hA0 hc0 hl0 hz0 hA1 hc1 hl1 hz1 hR hps hpc hpp hrf hps' hsa hcp hsx hpm hbm
  go_enter Try.func3, Try.ntmps3
  go_upto_region 2 with (go_at_call 7; refine (HPA.out _ HA0.out).mono ?_; rintro e w1 ⟨va, rfl, hra, hb1⟩; obtain ⟨Aa, ca, rfl, hca, hCa⟩ := Kd.R_reads hra; have HRa := Lib.hid hra; have HCa := Lib.hid hCa; have Hca := Lib.hid hca; have HB1 := Lib.hid hb1; clear hra hCa hca hb1)
  go_upto_region 3 with (go_at_call 8; refine (HPR.out _ (Kd.C_below HA0.out HB1.out)).mono ?_; rintro e w2 ⟨vb, rfl, hrb, hb2⟩; obtain ⟨Ab, cb, rfl, hcb, hCb⟩ := Kd.R_reads hrb; have HRb := Lib.hid hrb; have HCb := Lib.hid hCb; have Hcb := Lib.hid hcb; have HB2 := Lib.hid hb2; clear hrb hCb hcb hb2)
  have HCa2 := Lib.hid (Kd.C_below HCa.out HB2.out)
  have HRa2 := Lib.hid (Kd.R_below HRa.out HB2.out)
  go_upto_region 5 with (first | (go_at_call 9; refine (HSA.out _ _ _ _ _ HCa2.out Hca.out HCb.out Hcb.out).mono ?_; rintro e w3 ⟨rfl, hb3⟩; have HB3 := Lib.hid hb3; clear hb3) | (go_at_call 10; refine (stolelaw0_Num.calls r2 r2 _ rfl).mono ?_; rintro e w4 ⟨rfl, hd4⟩; have HB4 := Lib.hid (Drawn0.below hd4); clear hd4))
  have HB14 := Lib.hid (below_step (below_step HB2.out HB3.out) HB4.out)
  have HB04 := Lib.hid (below_step HB1.out HB14.out)
  have HRb4 := Lib.hid (Kd.R_below HRb.out (below_step HB3.out HB4.out))
  go_upto_region 6 with (go_at_call 11; refine (HSP.out w1 _ w.heap.size _ _ HRa.out HB14.out (below_size HB1.out)).mono ?_; rintro e w5 ⟨rfl, m5, hs5⟩; have HS5 := Lib.hid hs5; clear hs5)
  have HRb5 := Lib.hid (R_sp HRb4.out HS5.out)
  have HCb5 := Lib.hid (Kd.R_reads' HRb5.out).2.2
  have HB05 := Lib.hid (Below.trans HB04.out HS5.out.1)
  go_upto_region 7 with (go_at_call 7; refine (HPA.out _ (Kd.C_below HA0.out HB05.out)).mono ?_; rintro e w6 ⟨vc, rfl, hrc, hb6⟩; obtain ⟨Ac, cc, rfl, hcc, hCc⟩ := Kd.R_reads hrc; have HCc := Lib.hid hCc; have Hcc := Lib.hid hcc; have HB6 := Lib.hid hb6; clear hrc hCc hcc hb6)
  have HB06 := Lib.hid (below_step HB05.out HB6.out)
  have HCb6 := Lib.hid (Kd.C_below HCb5.out HB6.out)
  go_upto_region 8 with (go_at_call 12; refine (HCP.out _ A1 c1 (Kd.C_below HA1.out HB06.out) HC1.out).mono ?_; rintro e w7 ⟨vx, rfl, hrx, hb7⟩; obtain ⟨Ax, cx, rfl, hcx, hCx⟩ := Kd.R_reads hrx; have HCx := Lib.hid hCx; have Hcx := Lib.hid hcx; have HB7 := Lib.hid hb7; clear hrx hCx hcx hb7)
  have HB07 := Lib.hid (below_step HB06.out HB7.out)
  have HCb7 := Lib.hid (Kd.C_below HCb6.out HB7.out)
  have HCc7 := Lib.hid (Kd.C_below HCc.out HB7.out)
  cases bm
  all_goals
    go_wp2_with (first | (go_at_call 9; (with_reducible refine (HSA.out _ _ _ _ _ HCc7.out Hcc.out HCb7.out Hcb.out).mono ?_); rintro e w8 ⟨rfl, hb8⟩; have HB8 := Lib.hid hb8; clear hb8) | (go_at_call 13; (with_reducible refine (HMA.out _ _ _ (Kd.C_below HCx.out HB8.out) Hcx.out).mono ?_); rintro e w9 ⟨rfl, hb9⟩; have HB9 := Lib.hid (below_step HB8.out hb9); have HB09 := Lib.hid (below_step HB07.out HB9.out); clear hb9) | (go_at_call 14; (with_reducible refine (HPM.out _ _ _ (Kd.C_below HA1.out HB09.out) HC1.out).mono ?_); rintro e w10 ⟨rfl, hb10⟩; have HBX := Lib.hid (below_step HB9.out hb10); have HB0X := Lib.hid (below_step HB07.out HBX.out); clear hb10) | (go_at_call 9; (with_reducible refine (HSX.out _ _ _ _ _ (Kd.C_below HCx.out HBX.out) Hcx.out (Kd.C_below HA1.out HB0X.out) HC1.out).mono ?_); rintro e w11 ⟨rfl, hb11⟩; have HBY := Lib.hid (below_step HBX.out hb11); clear hb11) | (go_at_call 15; (with_reducible refine (HAW.out _).mono ?_); rintro e w12 ⟨rfl, hb12⟩; have HBZ := Lib.hid (below_step HBY.out hb12); clear hb12))
    go_ret
    exact ⟨by simp, below_step HB07.out HBZ.out⟩
end Go.Proofs.Ythaapadjlknieaa.Pipe
