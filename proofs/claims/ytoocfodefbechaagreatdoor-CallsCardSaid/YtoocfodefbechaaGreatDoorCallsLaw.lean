/- The law Calls, walked: whatever the function's name and the arguments, its answer is true. -/
import Derived.Test.YtoocfodefbechaaGreatDoorCallsP
import Derived.Test.YtoocfodefbechaaGreatDoorAwake18
import Derived.Test.YtoocfodefbechaaGreatDoorC3
namespace Go.Proofs.YtoocfodefbechaaGreatDoor.Fns
open Go.RowKit Go.Proofs.YtoocfodefbechaaGreatDoor.Q Go.Proofs.YtoocfodefbechaaGreatDoor.Real Go.Proofs.YtoocfodefbechaaGreatDoor.RealPure Go.Proofs.YtoocfodefbechaaGreatDoor.Values Go.Proofs.YtoocfodefbechaaGreatDoorW.PrintWords Go.Proofs.YtoocfodefbechaaGreatDoorW.PrintLast Go.Proofs.YtoocfodefbechaaGreatDoorW.PrintMore
set_option linter.unusedSimpArgs false
set_option linter.unusedVariables false
section
variable {P : Program} {ops : Array Oper} {rest : List Oper} {o : Oper} {a : Act} {Q : Exit → Act → World → Prop}
theorem lit_raw (e n : Nat) {W : World} (hgd : o.guard = none) {N : Tmp} (_hd : o.dst = some N) {inner : List Value}
    (hrun : (execOp a.eval o).run P W = .ok (.value (.slice (some ⟨W.heap.size, 0, none⟩) n n)) (W.alloc (.cells inner.toArray e)))
    (h : ∀ g w1, w1.heap[g]? = some (.cells inner.toArray e (0, 0)) → Below W.heap.size W w1 → wpList P ops Q rest (a.put o.dst (.slice (some ⟨g, 0, none⟩) n n)) w1) : wpList P ops Q (o :: rest) a W :=
  Kd.event_run hgd hrun (h _ _ (blk_new W _) (below_alloc (Below.refl _ _) _))
end
theorem tmod9 (a : Int) : ∃ K : Nat, wrap64 (Int.tmod (IntKind.u64.wrap a) 9) = (K : Int) ∧ K < 9 := by
  have e : IntKind.u64.wrap a = a % 18446744073709551616 := rfl
  have h2 : 0 ≤ a % 18446744073709551616 := by omega
  obtain ⟨m, hm⟩ := Int.eq_ofNat_of_zero_le h2
  have hl : m % 9 < 9 := Nat.mod_lt _ (by decide)
  have e2 : Int.tmod (m : Int) 9 = ((m % 9 : Nat) : Int) := rfl
  obtain ⟨q, hq⟩ : ∃ q, m % 9 = q := ⟨_, rfl⟩
  rw [hq] at hl e2
  refine ⟨q, ?_, hl⟩
  have hw : wrap64 (q : Int) = (q : Int) := by
    clear hq e2 hm h2 e
    exact Values.wrap_small (q : Int) (by omega) (by omega)
  rw [e, hm, e2]
  exact hw
set_option maxHeartbeats 16000000 in
set_option maxRecDepth 100000 in
theorem calls_calls (a0 : Int) (a1 : ByteArray) (A2 : Option Addr) (c2 : Nat) (l2 : List V) (w : World) (hT : Tabs w) (hl2 : l2.length ≤ c2) (hr2 : Kd.C k27 w A2 l2.length l2) (hrg : ∀ z ∈ l2, rngD 8 z) (hsz : ∀ z ∈ l2, szD 41 z) (hn2 : l2.length < 1599289640401) :
    Calls Tryz.prog 3 #[.int .i64 a0, .string a1, .slice A2 l2.length c2] w fun e w' => e = .returned (.bool true) ∧ Below w.heap.size w w' := by
  have hu27 := Tryz.underlying27
  obtain ⟨k, hk, hk9⟩ := tmod9 a0
  have HT := Lib.hid hT; have HL := Lib.hid hl2; have HR2 := Lib.hid hr2; have HRG := Lib.hid hrg; have HSZ := Lib.hid hsz; have HN := Lib.hid hn2; have HK9 := Lib.hid hk9; have HK := Lib.hid hk
  clear hT hl2 hr2 hrg hsz hn2 hk9 hk
  obtain ⟨n, hn⟩ : ∃ n, l2.length = n := ⟨_, rfl⟩
  have HLN := Lib.hid hn
  go_enter Tryz.func3, Tryz.ntmps3
  go_upto_region 2 with ((with_reducible refine gate_dst (N := 17) rfl ?_); refine lit_raw 9 9 ?hg (N := 17) ?hd (inner := [.string ⟨#[108, 101, 110]⟩, .string ⟨#[105, 110, 100, 101, 120]⟩, .string ⟨#[101, 113]⟩, .string ⟨#[108, 116]⟩, .string ⟨#[110, 111, 116]⟩, .string ⟨#[97, 110, 100]⟩, .string ⟨#[111, 114]⟩, .string ⟨#[99, 97, 116]⟩, .string a1]) ?hr ?_; (case hd => rfl); (case hg => rfl); (case hr => first | (go_simp; done) | (go_simp; rfl)); intro g17 w17 hb17 hb; have BK := Lib.hid hb17; have HB := Lib.hid hb; clear hb17 hb)
  have hcell : ∀ i : Nat, i < 9 → ∃ s, w17.cell? ⟨g17, i, none⟩ = some (.string s) := by
    intro i hi
    match i, hi with
    | 0, _ => exact ⟨_, (blk_cell BK.out 0).trans rfl⟩
    | 1, _ => exact ⟨_, (blk_cell BK.out 1).trans rfl⟩
    | 2, _ => exact ⟨_, (blk_cell BK.out 2).trans rfl⟩
    | 3, _ => exact ⟨_, (blk_cell BK.out 3).trans rfl⟩
    | 4, _ => exact ⟨_, (blk_cell BK.out 4).trans rfl⟩
    | 5, _ => exact ⟨_, (blk_cell BK.out 5).trans rfl⟩
    | 6, _ => exact ⟨_, (blk_cell BK.out 6).trans rfl⟩
    | 7, _ => exact ⟨_, (blk_cell BK.out 7).trans rfl⟩
    | 8, _ => exact ⟨_, (blk_cell BK.out 8).trans rfl⟩
    | _ + 9, h => omega
  obtain ⟨nm, hcl⟩ := hcell k HK9.out
  have hk := HK.out
  have hlt9 : ((k : Int) < 9) = True := eq_true (by have := HK9.out; omega)
  have hge9 : ((0 : Int) ≤ (k : Int)) = True := eq_true (by omega)
  clear hcell BK
  go_wp2
  clear hcl hk hlt9 hge9 HK HK9
  have A3 := Aside0.mk HB.out
  clear HB
  go_loopg [9, 10] n (fun kq v9 v10 w' => ∃ (i : Int) (vs : Value), v9 = vs ∧ v10 = .int .i64 i ∧ Aside0 (i + kq = n ∧ 0 ≤ i) ∧ Aside0 (Kd.R k27 27 w' w.heap.size (fun _ => True) vs ((l2.take i.toNat).map (truncD 40))) ∧ Aside0 (Below w.heap.size w w'))
  case atStart => exact ⟨0, _, rfl, rfl, ⟨by omega, by omega⟩, ⟨Kd.R_nil _ _ _ _ _⟩, A3⟩
  case round =>
    clear A3
    obtain ⟨i, vs, rfl, rfl, HI, HO0, HB0⟩ := hrel
    have HB := Lib.hid HB0.out; have HO := Lib.hid HO0.out
    clear HB0 HO0
    obtain ⟨hi1, hi0⟩ := HI.out
    cases gk with
    | succ k2 =>
      have hlt : decide (i < (n : Int)) = true := decide_eq_true (by omega)
      have hlt' : i < (l2.length : Int) := by rw [HLN.out]; omega
      have hltn : i < (n : Int) := by omega
      obtain ⟨ad, E4, e4, E5, e5, rfl, hAt, hl4, hk4, hl5, hk5⟩ := At.of_elem HR2.out i hi0 hlt'
      have q0 := eq_true hi0
      have q1 := eq_true hltn
      have wi : wrap64 (i + 1) = i + 1 := Values.wrap_small _ (by have := HN.out; have := HLN.out; omega) (by have := HN.out; have := HLN.out; omega)
      have wi' : IntKind.i64.wrap (i + 1) = i + 1 := by rw [i64_w]; exact wi
      have HI2 := Aside0.mk (show i + 1 + k2 = n ∧ 0 ≤ i + 1 from ⟨by omega, by omega⟩)
      have HRW := Lib.hid (Rows4.below ⟨hk4, hl4, hk5, hl5⟩ HB.out)
      have hin := rd_mem l2 i hi0 hlt'
      have HS := Lib.hid (HSZ.out _ hin)
      have htk : (l2.take (i + 1).toNat).map (truncD 40) = (l2.take i.toNat).map (truncD 40) ++ [truncD 40 (rd_T27 l2 i)] := by
        have e : (i + 1).toNat = i.toNat + 1 := by omega
        have e3 : l2[i.toNat]'(by omega) = rd_T27 l2 i := by
          unfold rd_T27
          rw [List.getD_eq_getElem?_getD, List.getElem?_eq_getElem (by omega)]
          rfl
        rw [e, List.take_succ_eq_append_getElem (by omega), List.map_append, e3]
        rfl
      have HTK := Lib.hid htk
      have HLT := Lib.hid (show ((l2.take i.toNat).map (truncD 40)).length + 1 ≤ n by rw [List.length_map, List.length_take, HLN.out]; omega)
      obtain ⟨a0', a1', a2', a3', a4', a5'⟩ := hAt.below HB.out
      obtain ⟨ts, hts⟩ : ∃ ts, (l2.take i.toNat).map (truncD 40) = ts := ⟨_, rfl⟩
      rw [hts] at HO HTK HLT
      clear hts hk4 hl4 hk5 hl5 hAt htk hin
      obtain ⟨x, hx⟩ : ∃ x, rd_T27 l2 i = x := ⟨_, rfl⟩
      rw [hx] at HRW HS HTK a0' a1' a2' a3' a4' a5'
      clear hx
      obtain ⟨Av, cv, hvs⟩ := Kd.R_slice HO.out
      subst hvs
      have CC := Lib.hid (fun W (hb : Below wr.heap.size wr W) => (by exact CopyV_calls 40 (by decide) x E4 e4 E5 e5 W (HRW.out.below hb) HS.out : Calls Tryz.prog 4 #[.agg #[.int .i64 x.f0, .int .i64 x.f1, .int .u64 x.f2, .string x.f3, .slice E4 x.f4.length e4, .slice E5 x.f5.length e5], .int .i64 40] W fun e w' => ∃ v4 v5, e = .returned (.agg #[.int .i64 x.f0, .int .i64 x.f1, .int .u64 x.f2, .string x.f3, v4, v5]) ∧ Kd.R k27 27 w' W.heap.size (fun k_ => some k_ ≠ v5.ownBlock) v4 (truncD 40 x).f4 ∧ Kd.R Kd.string 9 w' W.heap.size (fun _ => True) v5 x.f5 ∧ Below W.heap.size W w'))

      go_wp2_with (first | (go_at_call 4; (with_reducible refine (CC.out _ (Below.refl _ _)).mono ?_); rintro e wc ⟨v4, v5, rfl, h4, h5, hb⟩; have H4 := Lib.hid h4; have H5 := Lib.hid h5; have HBC := Lib.hid hb; have HB2 := Lib.hid (below_step HB.out hb); clear h4 h5 hb) | ((with_reducible refine gate_builtin (b := .append) (xs := #[.tmp 31, .tmp 37]) rfl ?_); at_builtin; refine Kd.R_append k27 (w0 := w) w.heap.size rfl (.tmp 31) (.tmp 37) 22 27 (.agg #[(.int .i64 0), (.int .i64 0), (.int .u64 0), (.string ⟨#[]⟩), (.slice none 0 0), (.slice none 0 0)]) 88 rfl Tryz.underlying22 info27 rfl (by decide) (by omega) (.slice Av ts.length cv) ts (truncD 40 x) [.int .i64 x.f0, .int .i64 x.f1, .int .u64 x.f2, .string x.f3, v4, v5] (fun _ => True) (fun k => wr.heap.size ≤ k) rfl rfl ?aP ?aK (fun _ _ => trivial) ?aO HB2.out ?aS ?aL ?_; (case aP => exact k27_mkM _ _ _ (truncD 40 x) (Kd.R_mono (Kd.R_lower (Kd.R_bound H4.out) (below_size HB.out)) (fun k hk => hk.2.1)) (Kd.R_mono (Kd.R_lower (Kd.R_bound H5.out) (below_size HB.out)) (fun k hk => hk.2.1))); (case aK => exact (fun k hk => ⟨trivial, fun he => by have := Kd.R_lt HO.out k he.symm; omega⟩)); (case aO => exact (Kd.R_below HO.out HBC.out)); (case aS => exact (below_size HB2.out)); (case aL => have h1 := HLT.out; have h2 := HN.out; have h3 := HLN.out; omega); intro v9 w9 hr9 hb9 hg9 hat9; have HO9 := Lib.hid hr9; have HB9 := Lib.hid hb9; clear hr9 hb9 hg9 hat9))
      go_roundg k2
      case measure => omega
      case rel => exact ⟨i + 1, _, rfl, rfl, HI2, ⟨by rw [HTK.out]; exact HO9.out⟩, ⟨HB9.out⟩⟩
    | zero =>
      have hlt : decide (i < (n : Int)) = false := decide_eq_false (by omega)
      have HOX := HO.out
      rw [List.take_of_length_le (by rw [HLN.out]; omega)] at HOX
      clear HO hi1 hi0 HI
      obtain ⟨Av, cv, hvs⟩ := Kd.R_slice HOX
      rw [List.length_map, HLN.out] at hvs
      subst hvs
      have HO := Lib.hid HOX
      clear HOX
      have few : n < 2199023255552 := by have h2 := HN.out; have h3 := HLN.out; omega
      obtain ⟨R, hR⟩ : ∃ R, callR nm l2 = R := ⟨_, rfl⟩
      have hsm := callR_small nm l2
      rw [hR] at hsm
      obtain ⟨dR, hdR⟩ := deep_any R.1
      have HOC := Lib.hid (Kd.R_reads' HO.out).2.2
      have CL := Lib.hid (fun W (hb : Below wr.heap.size wr W) => (by
        have q := Call_calls nm (l2.map (truncD 40)) Av cv W ⟨HT.out.below (below_step HB.out hb), by rw [List.length_map, HLN.out]; exact few, Kd.C_below HOC.out hb, fun z hz => by obtain ⟨y, hy, rfl⟩ := List.mem_map.1 hz; exact PureV.rng_trunc 40 8 y (HRG.out y hy)⟩
        rw [callR_trunc, List.length_map, HLN.out, hR] at q
        exact q : Calls Tryz.prog 5 #[.string nm, .slice Av n cv] W fun e w' => Got W w' e R))
      have RC := Lib.hid (fun W (hb : Below w.heap.size w W) => (by
        have q := RefCall_calls nm l2 A2 c2 W (Kd.C_below HR2.out hb) HL.out (by rw [HLN.out]; exact few) HRG.out
        rw [hR, HLN.out] at q
        exact q : Calls Tryz.prog 6 #[.string nm, .slice A2 n c2] W (Done3 W R)))
      have HSM := Lib.hid hsm; have HDR := Lib.hid hdR
      clear hsm hdR hR few
      have HRR := Lib.hid (Below.refl wr.heap.size wr)
      go_upto_region 9 with (first | (go_at_call 5; (with_reducible refine (CL.out _ HRR.out).mono ?_); rintro e wa ⟨v4, v5, rfl, h4, h5, hb⟩; obtain ⟨E4, e4, rfl⟩ := Kd.R_slice h4; obtain ⟨E5, e5, rfl⟩ := Kd.R_slice h5; have H4 := Lib.hid h4; have H5 := Lib.hid h5; have HRn := Lib.hid (below_step HRR.out hb); clear HRR ; have HRR := HRn; clear HRn; have HA := Lib.hid (Below.refl wa.heap.size wa); have HWA := Lib.hid (below_size hb); clear h4 h5 hb) | ((with_reducible refine gate_dst (N := 11) rfl ?_); refine box_event ?hg (N := 11) ?hd (cs := #[.int .i64 0, .int .i64 0, .int .u64 0, .string ⟨#[]⟩, .slice none 0 0, .slice none 0 0]) (t := 27) ?hr ?_; (case hd => rfl); (case hg => rfl); (case hr => first | (go_simp; done) | (go_simp; rfl)); intro g11 hg wb11 hbox hb; have G11 := Lib.hid (show wa.heap.size ≤ g11 by rw [hg]; exact below_size HA.out); have B11 := Lib.hid hbox; have HRn := Lib.hid (below_step HRR.out hb); have HAn := Lib.hid (below_step HA.out hb); clear HRR HA; have HRR := HRn; clear HRn; have HA := HAn; clear HAn; clear hbox hb hg) | ((with_reducible refine gate_store (t := 27) (p := 11) rfl ?_); refine row_event (by rfl) (by rfl) (by rfl) (by rfl) (by rfl) B11.out (by exact size27) (by rfl) (by first | rfl | simp [Value.oneCell']) ?_; intro ws1 hz ho hb0; have HA1 := Lib.hid (hb0 (w0 := wa) G11.out HA.out); have HR1 := Lib.hid (hb0 (w0 := wr) (Nat.le_trans HWA.out G11.out) HRR.out); have B1 := Lib.hid hz; clear hz ho hb0 HA HRR B11; have HA := HA1; have HRR := HR1; have B11 := B1; clear HA1 HR1 B1))
      go_upto_region 10 with (first | (go_at_call 6; (with_reducible refine (RC.out _ (below_step HB.out HRR.out)).mono ?_); rintro e wq ⟨F4, f4, F5, f5, rfl, hr, hb⟩; have HQ := Lib.hid hr; have HRn := Lib.hid (below_step HRR.out hb); have HAn := Lib.hid (below_step HA.out hb); have B11n := Lib.hid (blk_below B11.out hb); clear HRR HA B11; have HRR := HRn; clear HRn; have HA := HAn; clear HAn; have B11 := B11n; clear B11n; have HBQ := Lib.hid (Below.refl wq.heap.size wq); clear hr hb) | ((with_reducible refine gate_dst (N := 13) rfl ?_); refine box_event ?hg (N := 13) ?hd (cs := #[.int .i64 0, .int .i64 0, .int .u64 0, .string ⟨#[]⟩, .slice none 0 0, .slice none 0 0]) (t := 27) ?hr ?_; (case hd => rfl); (case hg => rfl); (case hr => first | (go_simp; done) | (go_simp; rfl)); intro g13 hg wb13 hbox hb; have G13 := Lib.hid (show wq.heap.size ≤ g13 by rw [hg]; exact below_size HBQ.out); have NE := Lib.hid (show g11 ≠ g13 by rw [hg]; exact Nat.ne_of_lt (blk_lt B11.out)); have B13 := Lib.hid hbox; have GA := Lib.hid (show wa.heap.size ≤ g13 by rw [hg]; exact below_size HA.out); have HRn := Lib.hid (below_step HRR.out hb); have HAn := Lib.hid (below_step HA.out hb); have HBQn := Lib.hid (below_step HBQ.out hb); have B11n := Lib.hid (blk_below B11.out hb); clear HRR HA HBQ B11; have HRR := HRn; clear HRn; have HA := HAn; clear HAn; have HBQ := HBQn; clear HBQn; have B11 := B11n; clear B11n; clear hbox hb hg) | ((with_reducible refine gate_store (t := 27) (p := 13) rfl ?_); refine row_event (by rfl) (by rfl) (by rfl) (by rfl) (by rfl) B13.out (by exact size27) (by rfl) (by first | rfl | simp [Value.oneCell']) ?_; intro ws2 hz ho hb0; have HA1 := Lib.hid (hb0 (w0 := wa) GA.out HA.out); have HR1 := Lib.hid (hb0 (w0 := wr) (Nat.le_trans HWA.out GA.out) HRR.out); have HQ1 := Lib.hid (hb0 (w0 := wq) G13.out HBQ.out); have B1 := Lib.hid hz; have B2 := Lib.hid ((ho g11 NE.out).trans B11.out); clear hz ho hb0 HA HRR HBQ B13 B11; have HA := HA1; have HRR := HR1; have HBQ := HQ1; have B13 := B1; have B11 := B2; clear HA1 HR1 HQ1 B1 B2))
      have HRA := Lib.hid (show Rows4 wa R.1 E4 e4 E5 e5 from ⟨(Kd.R_reads' H4.out).2.2, (Kd.R_reads' H4.out).2.1, (Kd.R_reads' H5.out).2.2, (Kd.R_reads' H5.out).2.1⟩)
      obtain ⟨qa0, qa1, qa2, qa3, qa4, qa5⟩ := At.of_box B11.out
      obtain ⟨qb0, qb1, qb2, qb3, qb4, qb5⟩ := At.of_box B13.out
      have SV := Lib.hid (fun W (ha : Below wa.heap.size wa W) (hq : Below wq.heap.size wq W) => (by have q := sv_all dR R.1 R.1 E4 e4 E5 e5 F4 f4 F5 f5 W HDR.out (HRA.out.below ha) (HQ.out.below hq); rw [PureV.sv_refl dR R.1 HDR.out] at q; exact q : Calls Tryz.prog 7 #[.agg #[.int .i64 R.1.f0, .int .i64 R.1.f1, .int .u64 R.1.f2, .string R.1.f3, .slice E4 R.1.f4.length e4, .slice E5 R.1.f5.length e5], .agg #[.int .i64 R.1.f0, .int .i64 R.1.f1, .int .u64 R.1.f2, .string R.1.f3, .slice F4 R.1.f4.length f4, .slice F5 R.1.f5.length f5]] W fun e w' => e = .returned (.bool true) ∧ Below W.heap.size W w'))
      go_upto_region 12 with (first | (go_at_call 7; (with_reducible refine (SV.out _ HA.out HBQ.out).mono ?_); rintro e wv ⟨rfl, hb⟩; have HRn := Lib.hid (below_step HRR.out hb); have HAn := Lib.hid (below_step HA.out hb); have B11n := Lib.hid (blk_below B11.out hb); clear HRR HA B11; have HRR := HRn; clear HRn; have HA := HAn; clear HAn; have B11 := B11n; clear B11n; clear hb) | (go_at_call 8; (with_reducible refine (stolelaw0_Num.calls R.2 R.2 _ rfl).mono ?_); rintro e wn ⟨rfl, hd⟩; have hb := Drawn0.below hd; have HRn := Lib.hid (below_step HRR.out hb); have HAn := Lib.hid (below_step HA.out hb); have B11n := Lib.hid (blk_below B11.out hb); clear HRR HA B11; have HRR := HRn; clear HRn; have HA := HAn; clear HAn; have B11 := B11n; clear B11n; clear hb hd))
      clear qa0 qa1 qa2 qa3 qa4 qa5 qb0 qb1 qb2 qb3 qb4 qb5
      obtain ⟨qa0, qa1, qa2, qa3, qa4, qa5⟩ := At.of_box B11.out
      have SP := Lib.hid (fun W (ha : Below wa.heap.size wa W) => (spoil_small R.1 HSM.out R.1.f0 R.1.f1 R.1.f2 R.1.f3 (.slice E4 R.1.f4.length e4) (.slice E5 R.1.f5.length e5) wa W wr.heap.size _ _ (Kd.R_lower H4.out (Nat.le_refl _)) (Kd.R_lower H5.out (Nat.le_refl _)) ha HWA.out))
      go_upto_region 13 with (first | (go_at_call 9; (with_reducible refine (SP.out _ HA.out).mono ?_); rintro e wo ⟨rfl, hb⟩; have HRS := Lib.hid (Below.trans HRR.out hb); clear hb))
      clear qa0 qa1 qa2 qa3 qa4 qa5
      have HRT := Aside0.mk HRS.out
      clear HRS HRR HA HBQ B11 B13 SV SP HQ H4 H5 HRA G11 G13 GA NE HSM HDR CL RC HWA
      go_wp2
      generalize wr = wp at *
      go_loopg [15] n (fun kq v15 w' => ∃ (i : Int), v15 = .int .i64 i ∧ Aside0 (i + kq = n ∧ 0 ≤ i) ∧ Aside0 (Below wp.heap.size wp w'))
      case atStart => exact ⟨0, rfl, ⟨by omega, by omega⟩, HRT⟩
      case round =>
        clear HRT
        obtain ⟨i, rfl, HI, HR0⟩ := hrel
        have HRR := Lib.hid HR0.out
        clear HR0
        obtain ⟨hi1, hi0⟩ := HI.out
        cases gk with
        | zero =>
          have hlt : decide (i < (n : Int)) = false := decide_eq_false (by omega)
          have CW := Lib.hid (fun W (hb : Below wp.heap.size wp W) => awake18_calls W (HT.out.below (below_step HB.out hb)))
          go_wp2_with (first | (go_at_call 10; (with_reducible refine (CW.out _ HRR.out).mono ?_); rintro e wz ⟨rfl, hb⟩; have HZ := Lib.hid (below_step HB.out (below_step HRR.out hb)); clear hb))
          go_ret
          exact ⟨rfl, HZ.out⟩
        | succ k2 =>
          have hlt : decide (i < (n : Int)) = true := decide_eq_true (by omega)
          have hltn : i < (n : Int) := by omega
          have hlt' : i < (l2.length : Int) := by rw [HLN.out]; omega
          have hlt2 : i < ((l2.map (truncD 40)).length : Int) := by rw [List.length_map, HLN.out]; omega
          obtain ⟨ad, E4, e4, E5, e5, had, hAt, hl4, hk4, hl5, hk5⟩ := At.of_elem HR2.out i hi0 hlt'
          subst had
          obtain ⟨bd, F4, f4, F5, f5, hbd, hBt, hm4, hj4, hm5, hj5⟩ := At.of_elem HOC.out i hi0 hlt2
          subst hbd
          have et : rd_T27 (l2.map (truncD 40)) i = truncD 40 (rd_T27 l2 i) := by
            unfold rd_T27
            rw [List.getD_eq_getElem?_getD, List.getD_eq_getElem?_getD, List.getElem?_map, List.getElem?_eq_getElem (by omega)]
            rfl
          rw [et] at hBt hm4 hj4 hm5 hj5
          have q0 := eq_true hi0
          have q1 := eq_true hltn
          have wi : wrap64 (i + 1) = i + 1 := Values.wrap_small _ (by have := HN.out; have := HLN.out; omega) (by have := HN.out; have := HLN.out; omega)
          have wi' : IntKind.i64.wrap (i + 1) = i + 1 := by rw [i64_w]; exact wi
          have HI2 := Aside0.mk (show i + 1 + k2 = n ∧ 0 ≤ i + 1 from ⟨by omega, by omega⟩)
          have HRW := Lib.hid (Rows4.below ⟨hk4, hl4, hk5, hl5⟩ HB.out)
          have HRV := Lib.hid (⟨hj4, hm4, hj5, hm5⟩ : Rows4 wp _ F4 f4 F5 f5)
          have HS := Lib.hid (HSZ.out _ (rd_mem l2 i hi0 hlt'))
          have HX := Lib.hid (hAt.below HB.out); have HY := Lib.hid hBt
          clear hk4 hl4 hk5 hl5 hAt hj4 hm4 hj5 hm5 hBt et hlt2
          generalize rd_T27 l2 i = x at *
          obtain ⟨dx, hdx⟩ := deep_any (truncD 40 x)
          have hsv := PureV.sv_refl dx _ hdx
          have CC := Lib.hid (fun W (hb : Below wp.heap.size wp W) => (by exact CopyV_calls 40 (by decide) x E4 e4 E5 e5 W (HRW.out.below hb) HS.out : Calls Tryz.prog 4 #[.agg #[.int .i64 x.f0, .int .i64 x.f1, .int .u64 x.f2, .string x.f3, .slice E4 x.f4.length e4, .slice E5 x.f5.length e5], .int .i64 40] W fun e w' => ∃ v4 v5, e = .returned (.agg #[.int .i64 x.f0, .int .i64 x.f1, .int .u64 x.f2, .string x.f3, v4, v5]) ∧ Kd.R k27 27 w' W.heap.size (fun k_ => some k_ ≠ v5.ownBlock) v4 (truncD 40 x).f4 ∧ Kd.R Kd.string 9 w' W.heap.size (fun _ => True) v5 x.f5 ∧ Below W.heap.size W w'))
          have SV := Lib.hid (fun W (H4 : Option Addr) (h4 : Nat) (H5 : Option Addr) (h5 : Nat) (hb : Below wp.heap.size wp W) (hr : Rows4 W (truncD 40 x) H4 h4 H5 h5) => (by have q := sv_all dx (truncD 40 x) (truncD 40 x) F4 f4 F5 f5 H4 h4 H5 h5 W hdx (HRV.out.below hb) hr; rw [hsv] at q; exact q : Calls Tryz.prog 7 #[.agg #[.int .i64 x.f0, .int .i64 x.f1, .int .u64 x.f2, .string x.f3, .slice F4 (truncD 40 x).f4.length f4, .slice F5 x.f5.length f5], .agg #[.int .i64 x.f0, .int .i64 x.f1, .int .u64 x.f2, .string x.f3, .slice H4 (truncD 40 x).f4.length h4, .slice H5 x.f5.length h5]] W fun e w' => e = .returned (.bool true) ∧ Below W.heap.size W w'))
          clear hsv hdx
          go_upto_region 16 with (fail)
          have HRd := Lib.hid (below_drew HRR.out); clear HRR; have HRR := HRd; clear HRd
          have KEEP := Lib.hid (show ∀ w', Below wp.heap.size wp w' → (fun w' => Below wp.heap.size wp w' ∧ w'.cell? (ad.add (i.toNat * 6)) = some (.int .i64 x.f0) ∧ w'.cell? (⟨(ad.add (i.toNat * 6)).block, (ad.add (i.toNat * 6)).off + 1, none⟩) = some (.int .i64 x.f1) ∧ w'.cell? (⟨(ad.add (i.toNat * 6)).block, (ad.add (i.toNat * 6)).off + 2, none⟩) = some (.int .u64 x.f2) ∧ w'.cell? (⟨(ad.add (i.toNat * 6)).block, (ad.add (i.toNat * 6)).off + 3, none⟩) = some (.string x.f3) ∧ w'.cell? (⟨(ad.add (i.toNat * 6)).block, (ad.add (i.toNat * 6)).off + 4, none⟩) = some (.slice E4 x.f4.length e4) ∧ w'.cell? (⟨(ad.add (i.toNat * 6)).block, (ad.add (i.toNat * 6)).off + 5, none⟩) = some (.slice E5 x.f5.length e5) ∧ w'.cell? (bd.add (i.toNat * 6)) = some (.int .i64 x.f0) ∧ w'.cell? (⟨(bd.add (i.toNat * 6)).block, (bd.add (i.toNat * 6)).off + 1, none⟩) = some (.int .i64 x.f1) ∧ w'.cell? (⟨(bd.add (i.toNat * 6)).block, (bd.add (i.toNat * 6)).off + 2, none⟩) = some (.int .u64 x.f2) ∧ w'.cell? (⟨(bd.add (i.toNat * 6)).block, (bd.add (i.toNat * 6)).off + 3, none⟩) = some (.string x.f3) ∧ w'.cell? (⟨(bd.add (i.toNat * 6)).block, (bd.add (i.toNat * 6)).off + 4, none⟩) = some (.slice F4 (truncD 40 x).f4.length f4) ∧ w'.cell? (⟨(bd.add (i.toNat * 6)).block, (bd.add (i.toNat * 6)).off + 5, none⟩) = some (.slice F5 x.f5.length f5)) w' from fun w' h => ⟨h, (HX.out.below h).g0, (HX.out.below h).g1, (HX.out.below h).g2, (HX.out.below h).g3, (HX.out.below h).g4, (HX.out.below h).g5, (HY.out.below h).g0, (HY.out.below h).g1, (HY.out.below h).g2, (HY.out.below h).g3, (HY.out.below h).g4, (HY.out.below h).g5⟩)
          clear HX HY
          generalize hWD : World.drew _ = wd at *
          refine wp_region_held_drew (S := (fun w' => Below wp.heap.size wp w' ∧ w'.cell? (ad.add (i.toNat * 6)) = some (.int .i64 x.f0) ∧ w'.cell? (⟨(ad.add (i.toNat * 6)).block, (ad.add (i.toNat * 6)).off + 1, none⟩) = some (.int .i64 x.f1) ∧ w'.cell? (⟨(ad.add (i.toNat * 6)).block, (ad.add (i.toNat * 6)).off + 2, none⟩) = some (.int .u64 x.f2) ∧ w'.cell? (⟨(ad.add (i.toNat * 6)).block, (ad.add (i.toNat * 6)).off + 3, none⟩) = some (.string x.f3) ∧ w'.cell? (⟨(ad.add (i.toNat * 6)).block, (ad.add (i.toNat * 6)).off + 4, none⟩) = some (.slice E4 x.f4.length e4) ∧ w'.cell? (⟨(ad.add (i.toNat * 6)).block, (ad.add (i.toNat * 6)).off + 5, none⟩) = some (.slice E5 x.f5.length e5) ∧ w'.cell? (bd.add (i.toNat * 6)) = some (.int .i64 x.f0) ∧ w'.cell? (⟨(bd.add (i.toNat * 6)).block, (bd.add (i.toNat * 6)).off + 1, none⟩) = some (.int .i64 x.f1) ∧ w'.cell? (⟨(bd.add (i.toNat * 6)).block, (bd.add (i.toNat * 6)).off + 2, none⟩) = some (.int .u64 x.f2) ∧ w'.cell? (⟨(bd.add (i.toNat * 6)).block, (bd.add (i.toNat * 6)).off + 3, none⟩) = some (.string x.f3) ∧ w'.cell? (⟨(bd.add (i.toNat * 6)).block, (bd.add (i.toNat * 6)).off + 4, none⟩) = some (.slice F4 (truncD 40 x).f4.length f4) ∧ w'.cell? (⟨(bd.add (i.toNat * 6)).block, (bd.add (i.toNat * 6)).off + 5, none⟩) = some (.slice F5 x.f5.length f5))) (by kernel_rfl) ?_ (fun hHeld => ?_)
          · rw [hWD]; exact KEEP.out _ HRR.out
          rw [hWD] at hHeld ⊢
          clear hWD
          refine wpAnyH_take (i := 0) (oi := ⟨some 69, _, _, _, _, _⟩) (v := ?_) rfl (by kernel_rfl) (by kernel_rfl) (by kernel_rfl) (fun _ _ _ h => h) ?_ (by assumption) ?_; rotate_left; (focus (refine Or.inl ⟨rfl, ?_⟩; intro w hSw; (try dsimp only at hSw); go_simp; (try with_reducible rfl); done)); (try simp only [Act.put, List.setIfInBounds_toArray, List.set_cons_zero, List.set_cons_succ])
          refine wpAnyH_take (i := 1) (oi := ⟨some 70, _, _, _, _, _⟩) (v := ?_) rfl (by kernel_rfl) (by kernel_rfl) (by kernel_rfl) (fun _ _ _ h => h) ?_ (by assumption) ?_; rotate_left; (focus (refine Or.inl ⟨rfl, ?_⟩; intro w hSw; (try dsimp only at hSw); go_simp; (try with_reducible rfl); done)); (try simp only [Act.put, List.setIfInBounds_toArray, List.set_cons_zero, List.set_cons_succ])
          refine wpAnyH_take (i := 2) (oi := ⟨some 71, _, _, _, _, _⟩) (v := ?_) rfl (by kernel_rfl) (by kernel_rfl) (by kernel_rfl) (fun _ _ _ h => h) ?_ (by assumption) ?_; rotate_left; (focus (refine Or.inl ⟨rfl, ?_⟩; intro w hSw; (try dsimp only at hSw); go_simp; (try with_reducible rfl); done)); (try simp only [Act.put, List.setIfInBounds_toArray, List.set_cons_zero, List.set_cons_succ])
          refine wpAnyH_take (i := 3) (oi := ⟨some 72, _, _, _, _, _⟩) (v := ?_) rfl (by kernel_rfl) (by kernel_rfl) (by kernel_rfl) (fun _ _ _ h => h) ?_ (by assumption) ?_; rotate_left; (focus (refine Or.inl ⟨rfl, ?_⟩; intro w hSw; (try dsimp only at hSw); go_simp; (try with_reducible rfl); done)); (try simp only [Act.put, List.setIfInBounds_toArray, List.set_cons_zero, List.set_cons_succ])
          refine wpAnyH_take (i := 4) (oi := ⟨some 73, _, _, _, _, _⟩) (v := ?_) rfl (by kernel_rfl) (by kernel_rfl) (by kernel_rfl) (fun _ _ _ h => h) ?_ (by assumption) ?_; rotate_left; (focus (refine Or.inl ⟨rfl, ?_⟩; intro w hSw; (try dsimp only at hSw); go_simp; (try with_reducible rfl); done)); (try simp only [Act.put, List.setIfInBounds_toArray, List.set_cons_zero, List.set_cons_succ])
          refine wpAnyH_take (i := 5) (oi := ⟨some 74, _, _, _, _, _⟩) (v := ?_) rfl (by kernel_rfl) (by kernel_rfl) (by kernel_rfl) (fun _ _ _ h => h) ?_ (by assumption) ?_; rotate_left; (focus (refine Or.inl ⟨rfl, ?_⟩; intro w hSw; (try dsimp only at hSw); go_simp; (try with_reducible rfl); done)); (try simp only [Act.put, List.setIfInBounds_toArray, List.set_cons_zero, List.set_cons_succ])
          refine wpAnyH_take (i := 6) (oi := ⟨some 75, _, _, _, _, _⟩) (v := ?_) rfl (by kernel_rfl) (by kernel_rfl) (by kernel_rfl) (fun _ _ _ h => h) ?_ (by assumption) ?_; rotate_left; (focus (refine Or.inl ⟨rfl, ?_⟩; intro w hSw; (try dsimp only at hSw); go_simp; (try with_reducible rfl); done)); (try simp only [Act.put, List.setIfInBounds_toArray, List.set_cons_zero, List.set_cons_succ])
          refine wpAnyH_take (i := 7) (oi := ⟨some 76, _, _, _, _, _⟩) (v := ?_) rfl (by kernel_rfl) (by kernel_rfl) (by kernel_rfl) (fun _ _ _ h => h) ?_ (by assumption) ?_; rotate_left; (focus (refine Or.inl ⟨rfl, ?_⟩; intro w hSw; (try dsimp only at hSw); go_simp; (try with_reducible rfl); done)); (try simp only [Act.put, List.setIfInBounds_toArray, List.set_cons_zero, List.set_cons_succ])
          refine wpAnyH_ready (rs := [8]) (by kernel_rfl) (by simp) ?_
          refine AllReadyH.cons (o := ⟨some 77, _, _, _, _, _⟩) rfl (fun K hK => ?_) AllReadyH.nil
          go_simp
          go_at_call 4; (with_reducible refine (CC.out _ HRR.out).mono ?_); rintro e wc ⟨v4, v5, rfl, h4, h5, hb⟩; obtain ⟨J4, j4, rfl⟩ := Kd.R_slice h4; obtain ⟨J5, j5, rfl⟩ := Kd.R_slice h5; have HJ := Lib.hid (show Rows4 wc (truncD 40 x) J4 j4 J5 j5 from ⟨(Kd.R_reads' h4).2.2, (Kd.R_reads' h4).2.1, (Kd.R_reads' h5).2.2, (Kd.R_reads' h5).2.1⟩); have HRn := Lib.hid (below_step HRR.out hb); clear HRR h4 h5 hb; have HRR := HRn; clear HRn
          refine hK.out _ _ (KEEP.out _ HRR.out) (fun hHeld2 => ?_)
          clear hK K hHeld; have hHeld := hHeld2; clear hHeld2; (try simp only [Act.put, List.setIfInBounds_toArray, List.set_cons_zero, List.set_cons_succ])
          refine wpAnyH_ready (rs := [9]) (by kernel_rfl) (by simp) ?_
          refine AllReadyH.cons (o := ⟨some 78, _, _, _, _, _⟩) rfl (fun K hK => ?_) AllReadyH.nil
          go_simp
          go_at_call 7; (with_reducible refine (SV.out _ _ _ _ _ HRR.out HJ.out).mono ?_); rintro e wv ⟨rfl, hb⟩; have HRn := Lib.hid (below_step HRR.out hb); clear HRR hb; have HRR := HRn; clear HRn
          refine hK.out _ _ (KEEP.out _ HRR.out) (fun hHeld2 => ?_)
          clear hK K hHeld; have hHeld := hHeld2; clear hHeld2; (try simp only [Act.put, List.setIfInBounds_toArray, List.set_cons_zero, List.set_cons_succ])
          refine wpAnyH_take (i := 10) (oi := ⟨some 79, _, _, _, _, _⟩) (v := ?_) rfl (by kernel_rfl) (by kernel_rfl) (by kernel_rfl) (fun _ _ _ h => h) ?_ (by assumption) ?_; rotate_left; (focus (refine Or.inl ⟨rfl, ?_⟩; intro w hSw; (try dsimp only at hSw); go_simp; (try with_reducible rfl); done)); (try simp only [Act.put, List.setIfInBounds_toArray, List.set_cons_zero, List.set_cons_succ])
          refine wpAnyH_done (by kernel_rfl) ?_ _
          go_wp2
          go_roundg k2
          case measure => omega
          case rel => exact ⟨i + 1, rfl, HI2, ⟨HRR.out⟩⟩
end Go.Proofs.YtoocfodefbechaaGreatDoor.Fns
