/- The law's SpoilPipe, walked. -/
import Derived.Test.YthaapadjlknieaaPipeSpoil
import Derived.StillTailTactics
namespace Go.Proofs.Ythaapadjlknieaa.Pipe
open Go.RowKit Go.Proofs.Ythaapadjlknieaa.Q Go.Proofs.YthaapadjlknieaaW.PrintWords Go.Proofs.YthaapadjlknieaaW.PrintLast Go.Proofs.YthaapadjlknieaaW.PrintMore
set_option maxRecDepth 100000

/-- The cells that a look at a[i] and at a[i].Args[j] reads. -/
theorem shp_at {B : Nat} {w : World} {base top : Nat} {p : List Cm} {A : Option Addr} {cv i : Nat} {z : Cm} (h : ShP B w base top p (.slice A p.length cv)) (hz : p[i]? = some z) :
    ∃ (g : Nat) (cur : Array Value) (s : ByteArray) (A1 : Option Addr) (c1 : Nat), A = some ⟨g, 0, none⟩ ∧ (base ≤ g ∧ g < top) ∧ w.heap[g]? = some (.cells cur 38 (0, 0)) ∧ cur[i * 2]? = some (.string s) ∧ s.size ≤ B ∧ cur[i * 2 + 1]? = some (.slice A1 z.f1.length c1) ∧ ShA B w base top z.f1 (.slice A1 z.f1.length c1) := by
  rcases h with ⟨h0, _⟩ | ⟨g, cap, cur, ev, hb, hg, hc⟩
  · rw [h0] at hz; cases hz
  · injection ev with ea _ ec
    obtain ⟨s, v1, c0, hs, c1, ha⟩ := hc i z hz
    obtain ⟨A1, c1', rfl⟩ := ha.sl
    exact ⟨g, cur, s, A1, c1', ea, hb, hg, c0, hs, c1, ha⟩
theorem sha_at {B : Nat} {w : World} {base top : Nat} {l : List Ag} {A : Option Addr} {cv j : Nat} {z : Ag} (h : ShA B w base top l (.slice A l.length cv)) (hz : l[j]? = some z) :
    ∃ (g : Nat) (cur : Array Value) (i0 : Int) (A2 : Option Addr) (c2 : Nat), A = some ⟨g, 0, none⟩ ∧ (base ≤ g ∧ g < top) ∧ w.heap[g]? = some (.cells cur 41 (0, 0)) ∧ cur[j * 5]? = some (.int .i64 i0) ∧ cur[j * 5 + 2]? = some (.slice A2 z.f2.length c2) ∧ ShT B w base top z.f2.length (.slice A2 z.f2.length c2) := by
  rcases h with ⟨h0, _⟩ | ⟨g, cap, cur, ev, hb, hg, hc⟩
  · rw [h0] at hz; cases hz
  · injection ev with ea _ ec
    obtain ⟨i0, v2, c0, c2, ht⟩ := hc j z hz
    obtain ⟨A2, c2', rfl⟩ := ht.sl
    exact ⟨g, cur, i0, A2, c2', ea, hb, hg, c0, c2, ht⟩

@[irreducible] def stepN (i : Nat) : Nat := i * 1048577
theorem stepN_succ (i : Nat) : stepN (i + 1) = stepN i + 1048577 := by unfold stepN; omega
theorem stepN_le {i : Nat} (h : i ≤ 1048577) : stepN i ≤ 1099513724929 := by unfold stepN; omega
set_option maxHeartbeats 16000000 in
theorem spoilP_calls (B base top : Nat) (p : List Cm) (v : Value) (w : World) (h : ShP B w base top p v) (hn : p.length ≤ 1048577) (hm : ∀ c ∈ p, c.f1.length ≤ 1048576) (hB : B ≤ 1048576) (hbase : base ≤ w.heap.size) :
    Calls Try.prog 11 #[v] w fun e w' => e = .returned (.tuple #[]) ∧ ∃ m, Sp base top m w w' := by
  have hu38 := Try.underlying38
  have hu41 := Try.underlying41
  obtain ⟨A, cv, rfl⟩ := h.sl
  have H := Lib.hid h; have HM := Lib.hid hm; have HBB := Lib.hid hB; have HBS := Lib.hid hbase
  clear h hm hB hbase
  obtain ⟨n, hpn⟩ : ∃ n, p.length = n := ⟨_, rfl⟩
  have HP := Lib.hid hpn
  rw [hpn] at hn ⊢
  clear hpn
  have HNN := Lib.hid hn
  clear hn
  go_enter Try.func11, Try.ntmps11
  go_wp2
  go_loopg [2] n (fun kq v2 wr => ∃ (i m : Nat), v2 = .int .i64 (i : Int) ∧ Aside0 (i + kq = n) ∧ Aside0 (m ≤ stepN i) ∧ Aside0 (Sp base top m w wr))
  case atStart => exact ⟨0, 0, rfl, ⟨by omega⟩, ⟨Nat.zero_le _⟩, ⟨Sp.refl _ _ _⟩⟩
  case round =>
  obtain ⟨i, m, rfl, HI, HM1, HS⟩ := hrel
  cases gk with
  | zero =>
    have hlt : decide (i < n) = false := decide_eq_false (by have := HI.out; omega)
    go_wp2
    all_goals first | go_end0 | (refine bodyPost_ret (results_none rfl _ _ _) rfl ?_)
    all_goals exact ⟨rfl, m, HS.out⟩
  | succ k2 =>
    have hil : i < n := by have := HI.out; omega
    have hlt : decide (i < n) = true := decide_eq_true hil
    have hz : p[i]? = some (p[i]'(by rw [HP.out]; exact hil)) := List.getElem?_eq_getElem _
    obtain ⟨z, hze⟩ : ∃ z, p[i]'(by rw [HP.out]; exact hil) = z := ⟨_, rfl⟩
    rw [hze] at hz
    have HZ := Lib.hid hz
    have HZM := Lib.hid (HM.out z (List.mem_of_getElem? hz))
    have hsz : stepN i ≤ 1099513724929 := stepN_le (by have := HNN.out; omega)
    have HSZ := Lib.hid hsz
    have WI := Lib.hid (show wrap64 ((i : Int) + 1) = (i : Int) + 1 from wrap_small _ (by have := HNN.out; omega) (by have := HNN.out; omega))
    have wi' : IntKind.i64.wrap ((i : Int) + 1) = (i : Int) + 1 := by rw [i64_w]; exact WI.out
    have z0 := eq_true (show (0 : Int) ≤ (i : Int) by omega); have z1 := eq_true (show (i : Int) < (n : Int) by omega)
    obtain ⟨la, hla⟩ : ∃ la, z.f1.length = la := ⟨_, rfl⟩
    have HLA := Lib.hid hla
    clear hz hze hsz hil hla
    go_upto_region 4 with (fail)
    go_loopg [3] la (fun kq v3 wr => ∃ (j m2 : Nat), v3 = .int .i64 (j : Int) ∧ Aside0 (j + kq = la) ∧ Aside0 (m2 ≤ stepN i + j) ∧ Aside0 (Sp base top m2 w wr))
    case atStart => exact ⟨0, m, rfl, ⟨by omega⟩, ⟨HM1.out⟩, HS⟩
    case round =>
    clear HM1 HS
    obtain ⟨j, m2, rfl, HJ, HM2, HS2⟩ := hrel
    obtain ⟨g, cur, s, A1, c1, hAe, hgb, hg, hc0, hs0, hc1, ha⟩ := shp_at (by have := H.out.sp HS2.out; rw [HP.out] at this ⊢; exact this) HZ.out
    subst hAe
    rw [HLA.out] at hc1
    have b0 : wr.cell? ⟨g, i * 2, none⟩ = some (.string s) := (blk_cell hg _).trans hc0
    have b1 : wr.cell? ⟨g, i * 2 + 1, none⟩ = some (.slice A1 la c1) := (blk_cell hg _).trans hc1
    have fz0 := blk_frozen hg (i * 2)
    have HG := Lib.hid hg; have HC0 := Lib.hid hc0; have HC1 := Lib.hid hc1; have HGB := Lib.hid hgb; have HSS := Lib.hid hs0; have HAA := Lib.hid ha
    clear hg hc0 hc1 hgb hs0 ha
    cases gk with
    | zero =>
      have hltj : decide (j < la) = false := decide_eq_false (by have := HJ.out; omega)
      have q1 : (9223372036854775807 < s.size + 1) = False := eq_false (by have h1 := HSS.out; have h2 := HBB.out; have h3 := HM2.out; have h4 := HSZ.out; have h5 := HZM.out; have h6 := HLA.out; have h7 := HJ.out; omega)
      go_wp2
      go_roundg k2
      case measure => omega
      case rel =>
        refine ⟨i + 1, m2 + 1, by push_cast; rfl, ⟨by have := HI.out; omega⟩, ⟨by rw [stepN_succ]; have h3 := HM2.out; have h5 := HZM.out; have h6 := HLA.out; have h7 := HJ.out; omega⟩, ⟨HS2.out.trans (Sp.set HG.out HC0.out HGB.out.1 HGB.out.2 (.inr (.inr ⟨s, _, rfl, rfl, ?_⟩)))⟩⟩
        rw [ByteArray.size_append]
        exact Nat.le_refl _
    | succ k3 =>
      have hjl : j < la := by have := HJ.out; omega
      have hltj : decide (j < la) = true := decide_eq_true hjl
      have hy : z.f1[j]? = some (z.f1[j]'(by rw [HLA.out]; exact hjl)) := List.getElem?_eq_getElem _
      obtain ⟨y, hye⟩ : ∃ y, z.f1[j]'(by rw [HLA.out]; exact hjl) = y := ⟨_, rfl⟩
      rw [hye] at hy
      have HY := Lib.hid hy
      obtain ⟨ga, cua, i0, A2, c2, hA1, hgab, hga, hd0, hd2, ht⟩ := sha_at (by have h := HAA.out; rw [HLA.out] at h ⊢; exact h) HY.out
      subst hA1
      have d2 : wr.cell? ⟨ga, j * 5 + 2, none⟩ = some (.slice A2 y.f2.length c2) := (blk_cell hga _).trans hd2
      have CT := Lib.hid (spoilT_calls (B + m2) base top y.f2.length (.slice A2 y.f2.length c2) wr ht (by have h2 := HBB.out; have h3 := HM2.out; have h4 := HSZ.out; have h5 := HZM.out; have h6 := HLA.out; have h7 := HJ.out; omega))
      have z2 := eq_true (show (0 : Int) ≤ (j : Int) by omega); have z3 := eq_true (show (j : Int) < (la : Int) by omega)
      have WJ := Lib.hid (show wrap64 ((j : Int) + 1) = (j : Int) + 1 from wrap_small _ (by have h5 := HZM.out; have h6 := HLA.out; omega) (by have h5 := HZM.out; have h6 := HLA.out; omega))
      have wj' : IntKind.i64.wrap ((j : Int) + 1) = (j : Int) + 1 := by rw [i64_w]; exact WJ.out
      have HJL := Lib.hid hjl
      clear hy hye hgab hga hd0 hd2 ht hjl
      go_upto_region 7 with (first | (go_at_call 22; (with_reducible refine (CT.out).mono ?_); rintro e wn ⟨rfl, hsp⟩; have HSP := Lib.hid hsp; clear hsp))
      have HS3 := Lib.hid (HS2.out.trans HSP.out)
      clear b0 b1 d2 fz0 HG HC0 HC1 HGB HSS HAA CT
      obtain ⟨g', cur', s', A1', c1', hAe, hgb, hg, hc0, hs0, hc1, ha⟩ := shp_at (by have := H.out.sp HS3.out; rw [HP.out] at this ⊢; exact this) HZ.out
      have hge : g = g' := by injection hAe with e; injection e
      subst hge
      clear hAe
      obtain ⟨gb, cub, i1, A2', c2', hA1, hgab, hga, hd0, hd2, ht⟩ := sha_at (by have h := ha; rw [HLA.out] at h ⊢; exact h) HY.out
      subst hA1
      rw [HLA.out] at hc1
      have HGA := Lib.hid (blk_drew hga); have HD0 := Lib.hid hd0; have HGAB := Lib.hid hgab
      have b1 : wn.cell? ⟨g, i * 2 + 1, none⟩ = some (.slice (some ⟨gb, 0, none⟩) la c1') := (blk_cell hg _).trans hc1
      have b1d : wn.drew.cell? ⟨g, i * 2 + 1, none⟩ = some (.slice (some ⟨gb, 0, none⟩) la c1') := (blk_cell (blk_drew hg) _).trans hc1
      have d0 : wn.cell? ⟨gb, j * 5, none⟩ = some (.int .i64 i1) := (blk_cell hga _).trans hd0
      have d0d : wn.drew.cell? ⟨gb, j * 5, none⟩ = some (.int .i64 i1) := (blk_cell (blk_drew hga) _).trans hd0
      have fz := blk_frozen hga (j * 5)
      have fzd := blk_frozen (blk_drew hga) (j * 5)
      have HSD := Lib.hid (show Sp base top (m2 + 1) w wn.drew from (HS3.out.trans (Sp.of_below (below_drew (Below.refl _ _)) (Nat.le_trans HBS.out HS3.out.1.size))))
      clear hgb hg hc0 hs0 hc1 ha hgab hga hd0 hd2 ht HSP HS3
      go_still_tail 18, (by kernel_rfl)
      change wpList _ _ _ _ _ wn.drew
      generalize wn.drew = wd at *
      clear b1 d0 fz
      go_wp2
      go_roundg k3
      case measure => omega
      case rel =>
        refine ⟨j + 1, m2 + 1 + 0, by push_cast; rfl, ⟨by have := HJ.out; omega⟩, ⟨by have h3 := HM2.out; omega⟩, ⟨HSD.out.trans (Sp.set HGA.out HD0.out HGAB.out.1 HGAB.out.2 (.inr (.inl ⟨_, _, rfl, rfl⟩)))⟩⟩
end Go.Proofs.Ythaapadjlknieaa.Pipe
