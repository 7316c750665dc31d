/- stolelaw19.awake, walked: it answers true. -/
import Derived.Test.YtdghnfmhcnlppaaGreatDoorEvalK
import Derived.Deep.RegionHeld3
namespace Go.Proofs.YtdghnfmhcnlppaaGreatDoor.Eval
open Go.RowKit Go.Proofs.YtdghnfmhcnlppaaGreatDoor.Q Go.Proofs.YtdghnfmhcnlppaaGreatDoor.Real Go.Proofs.YtdghnfmhcnlppaaGreatDoor.RealPure Go.Proofs.YtdghnfmhcnlppaaGreatDoor.Values Go.Proofs.YtdghnfmhcnlppaaGreatDoor.Fns Go.Proofs.YtdghnfmhcnlppaaGreatDoorW.PrintWords Go.Proofs.YtdghnfmhcnlppaaGreatDoorW.PrintLast Go.Proofs.YtdghnfmhcnlppaaGreatDoorW.PrintMore
set_option linter.unusedSimpArgs false
set_option linter.unusedVariables false

def recA : V := ⟨6, 0, 0, ⟨#[]⟩, [numV 5], [⟨#[97]⟩]⟩
def envA : En := ⟨recA, [⟨⟨#[120]⟩, numV 1⟩, ⟨⟨#[120]⟩, numV 5⟩]⟩
abbrev a1A : Ag := ⟨0, ⟨#[]⟩, [⟨#[97]⟩], 0, ⟨#[]⟩⟩
abbrev a2A : Ag := ⟨1, ⟨#[120]⟩, [], 0, ⟨#[]⟩⟩
abbrev a3A : Ag := ⟨1, ⟨#[121]⟩, [], 0, ⟨#[]⟩⟩
abbrev a4A : Ag := ⟨0, ⟨#[]⟩, [⟨#[98]⟩], 0, ⟨#[]⟩⟩
abbrev p1A : List Cm := [⟨⟨#[]⟩, [a1A]⟩, ⟨⟨#[101, 113]⟩, [a2A]⟩]
abbrev p2A : List Cm := [⟨⟨#[]⟩, [a3A]⟩]
abbrev p4A : List Cm := [⟨⟨#[]⟩, [a4A]⟩]
theorem pipe1A : pipeR p1A envA = (⟨1, 1, 0, ⟨#[]⟩, [], []⟩, 0) := by kernel_rfl
theorem pipe2A : pipeR p2A envA = (⟨0, 0, 0, ⟨#[]⟩, [], []⟩, 1901) := by kernel_rfl
theorem pipe3A : pipeR [] envA = (⟨0, 0, 0, ⟨#[]⟩, [], []⟩, 1900) := by kernel_rfl
theorem pipe4A : pipeR p4A envA = (⟨0, 0, 0, ⟨#[]⟩, [], []⟩, 401) := by kernel_rfl
theorem goodA : goodE envA := by
  refine ⟨fun d => ?_, fun v hv d => ?_⟩
  · cases d with
    | zero => trivial
    | succ d => exact ⟨by decide, by decide, fun z hz => by rw [List.mem_singleton.1 hz]; exact (good_leaf rfl rfl rfl).1 d⟩
  · simp only [envA, List.mem_cons, List.not_mem_nil, or_false] at hv
    rcases hv with rfl | rfl <;> exact (good_leaf rfl rfl rfl).1 d
theorem box6 {w : World} {g : Nat} {v0 v1 v2 v3 v4 v5 : Value} {t : Nat} (h : w.heap[g]? = some (.cells #[v0, v1, v2, v3, v4, v5] t (0, 0))) :
    w.cell? ⟨g, 0, none⟩ = some v0 ∧ w.cell? ⟨g, 1, none⟩ = some v1 ∧ w.cell? ⟨g, 2, none⟩ = some v2 ∧ w.cell? ⟨g, 3, none⟩ = some v3 ∧ w.cell? ⟨g, 4, none⟩ = some v4 ∧ w.cell? ⟨g, 5, none⟩ = some v5 :=
  ⟨(blk_cell h 0).trans rfl, (blk_cell h 1).trans rfl, (blk_cell h 2).trans rfl, (blk_cell h 3).trans rfl, (blk_cell h 4).trans rfl, (blk_cell h 5).trans rfl⟩
/-- Pipe, its answer's rows as what lies. -/
theorem pipe_got (p : List Cm) (A : Option Addr) (cp : Nat) (e : En) (A4 : Option Addr) (c4 : Nat) (A5 : Option Addr) (c5 : Nat) (A6 : Option Addr) (c6 : Nat) (w : World) (x : V) (n : Int) (hx : pipeR p e = (x, n))
    (h : RowsE w e A4 c4 A5 c5 A6 c6) (hA : Kd.C kC w A p.length p) (hc : p.length ≤ cp) (hT : Tabs w) (hgd : goodE e) :
    Calls Tryz.prog 8 #[.slice A p.length cp, envV e A4 c4 A5 c5 A6 c6] w fun en w' => ∃ E e4 Fa f4, en = .returned (.tuple #[arg x E e4 Fa f4, .int .i64 n]) ∧ Rows4 w' x E e4 Fa f4 ∧ Below w.heap.size w w' := by
  have q := Pipe_calls p A cp e A4 c4 A5 c5 A6 c6 w h hA hc hT hgd
  rw [hx] at q
  refine q.mono fun en w' ⟨v4, v5, he, h4, h5, hb⟩ => ?_
  obtain ⟨E, e4, rfl, l4, k4⟩ := Kd.R_reads h4
  obtain ⟨Fa, f4, rfl, l5, k5⟩ := Kd.R_reads h5
  exact ⟨E, e4, Fa, f4, he, ⟨k4, l4, k5, l5⟩, hb⟩
theorem reps_vars (W : World) (x y : Vr) {A4 : Option Addr} {c4 : Nat} {A5 : Option Addr} {c5 : Nat} {B4 : Option Addr} {d4 : Nat} {B5 : Option Addr} {d5 : Nat} (h : Rows4 W x.f1 A4 c4 A5 c5) (h' : Rows4 W y.f1 B4 d4 B5 d5) :
    Reps (kX.K W) 7 [x, y] [.string x.f0, .int .i64 x.f1.f0, .int .i64 x.f1.f1, .int .u64 x.f1.f2, .string x.f1.f3, .slice A4 x.f1.f4.length c4, .slice A5 x.f1.f5.length c5, .string y.f0, .int .i64 y.f1.f0, .int .i64 y.f1.f1, .int .u64 y.f1.f2, .string y.f1.f3, .slice B4 y.f1.f4.length d4, .slice B5 y.f1.f5.length d5] := by
  have hk := K_var W x h
  have hk2 := K_var W y h'
  have h2 := ((Reps.none (kX.K W) 7).snoc hk (kX.K_len hk)).snoc hk2 (kX.K_len hk2)
  simpa using h2
abbrev zerosE : Obj := .cells #[.int .i64 0, .int .i64 0, .int .u64 0, .string ⟨#[]⟩, .slice none 0 0, .slice none 0 0, .slice none 0 0] 30
set_option maxHeartbeats 16000000 in
set_option maxRecDepth 100000 in
theorem awake_calls (w : World) (hT : Tabs w) : Calls Tryz.prog 14 #[] w fun en w' => en = .returned (.bool true) ∧ Below w.heap.size w w' := by
  have hu27 := Tryz.underlying27
  have huE := Tryz.underlying30
  have HB := Lib.hid (Below.refl w.heap.size w)
  have HT := Lib.hid hT
  clear hT
  go_enter Tryz.func14, Tryz.ntmps14
  go_upto_region 2 with (first | ((with_reducible refine gate_dst (N := 11) rfl ?_); refine lit_row Kd.string 9 1 ?hg (N := 11) ?hd (xs := ([⟨#[97]⟩] : List ByteArray)) (inner := [.string ⟨#[97]⟩]) rfl ?hr ?hp (by decide) ?_; (case hd => rfl); (case hg => rfl); (case hr => first | (go_simp; done) | (go_simp; rfl)); (case hp => exact reps_str _ _); intro adVK wlVK hc hb; have VK := Lib.hid hc; have HB' := Lib.hid (below_step HB.out hb); clear HB; have HB := HB'; clear HB'; clear hc hb) | (go_at_call 18; (with_reducible refine (num_calls 5 _).mono ?_); rintro en wn1 ⟨rfl, hb⟩; have HB' := Lib.hid (below_step HB.out hb); have VK' := Lib.hid (Kd.C_below VK.out hb); clear HB; have HB := HB'; clear HB'; clear VK; have VK := VK'; clear VK'; clear hb) | ((with_reducible refine gate_dst (N := 13) rfl ?_); refine lit_row k27 27 1 ?hg (N := 13) ?hd (xs := ([numV 5] : List V)) (inner := [.int .i64 (numV 5).f0, .int .i64 (numV 5).f1, .int .u64 (numV 5).f2, .string (numV 5).f3, .slice none 0 0, .slice none 0 0]) rfl ?hr ?hp (by decide) ?_; (case hd => rfl); (case hg => rfl); (case hr => first | (go_simp; done) | (go_simp; rfl)); (case hp => exact reps1 (K_of (rows_nil _ (numV 5) rfl rfl))); intro adVI wlVI hc hb; have VI := Lib.hid hc; have HB' := Lib.hid (below_step HB.out hb); have VK' := Lib.hid (Kd.C_below VK.out hb); clear HB; have HB := HB'; clear HB'; clear VK; have VK := VK'; clear VK'; clear hc hb) | ((with_reducible refine gate_store (t := 27) (p := 1) rfl ?_); refine row_event (by rfl) (by rfl) (by rfl) (by rfl) (by rfl) (blk_new wlVI zeros) (by exact size27) (by rfl) (by first | rfl | simp [Value.oneCell']) ?_; intro w1 hz ho hb0; have hb := hb0 (w0 := wlVI) (Nat.le_refl _) (below_alloc (Below.refl _ _) _); have HB' := Lib.hid (below_step HB.out hb); have VK' := Lib.hid (Kd.C_below VK.out hb); have VI' := Lib.hid (Kd.C_below VI.out hb); clear HB; have HB := HB'; clear HB'; clear VK; have VK := VK'; clear VK'; clear VI; have VI := VI'; clear VI'; have BR := Lib.hid hz; (try clear r0 r1 r2 r3 r4 r5); obtain ⟨r0, r1, r2, r3, r4, r5⟩ := box6 BR.out; clear hz ho hb0 hb))
  have HR := Lib.hid (⟨VI.out, Nat.le_refl _, VK.out, Nat.le_refl _⟩ : Rows4 w1 recA (some adVI) 1 (some adVK) 1)
  clear VI VK
  generalize hgr : wlVI.heap.size = gr at *
  clear hgr
  go_cut [2] (fun v2 wc => ∃ (ge : Nat) (adVV : Addr), v2 = .pointer (some ⟨ge, 0, none⟩) ∧ Aside0 (wc.heap[ge]? = some (.cells #[.int .i64 6, .int .i64 0, .int .u64 0, .string ⟨#[]⟩, .slice (some adVI) 1 1, .slice (some adVK) 1 1, .slice (some adVV) 2 2] 30 (0, 0))) ∧ Aside0 (RowsE wc envA (some adVI) 1 (some adVK) 1 (some adVV) 2) ∧ Aside0 (Below w.heap.size w wc))
  case first =>
    have hbd := below_drew (Below.refl w1.heap.size w1)
    have HB' := Lib.hid (below_step HB.out hbd); have BR' := Lib.hid (blk_below BR.out hbd); have HR' := Lib.hid (Rows4.below HR.out hbd); clear HB; have HB := HB'; clear HB'; clear BR; have BR := BR'; clear BR'; clear HR; have HR := HR'; clear HR'
    clear hbd
    (try clear r0 r1 r2 r3 r4 r5)
    have BRd := Lib.hid BR.out
    generalize hWD : w1.drew = wd at *
    have KEEP := Lib.hid (show ∀ w', Below wd.heap.size wd w' → (fun w' => Below wd.heap.size wd w' ∧ w'.cell? ⟨gr, 0, none⟩ = some (.int .i64 6) ∧ w'.cell? ⟨gr, 1, none⟩ = some (.int .i64 0) ∧ w'.cell? ⟨gr, 2, none⟩ = some (.int .u64 0) ∧ w'.cell? ⟨gr, 3, none⟩ = some (.string ⟨#[]⟩) ∧ w'.cell? ⟨gr, 4, none⟩ = some (.slice (some adVI) 1 1) ∧ w'.cell? ⟨gr, 5, none⟩ = some (.slice (some adVK) 1 1)) w' from fun w' h => ⟨h, (blk_cell (blk_below BRd.out h) 0).trans rfl, (blk_cell (blk_below BRd.out h) 1).trans rfl, (blk_cell (blk_below BRd.out h) 2).trans rfl, (blk_cell (blk_below BRd.out h) 3).trans rfl, (blk_cell (blk_below BRd.out h) 4).trans rfl, (blk_cell (blk_below BRd.out h) 5).trans rfl⟩)
    refine wp_region_held_drew (S := (fun w' => Below wd.heap.size wd w' ∧ w'.cell? ⟨gr, 0, none⟩ = some (.int .i64 6) ∧ w'.cell? ⟨gr, 1, none⟩ = some (.int .i64 0) ∧ w'.cell? ⟨gr, 2, none⟩ = some (.int .u64 0) ∧ w'.cell? ⟨gr, 3, none⟩ = some (.string ⟨#[]⟩) ∧ w'.cell? ⟨gr, 4, none⟩ = some (.slice (some adVI) 1 1) ∧ w'.cell? ⟨gr, 5, none⟩ = some (.slice (some adVK) 1 1))) (by kernel_rfl) ?_ (fun hHeld => ?_)
    · rw [hWD]; exact KEEP.out _ (Below.refl _ _)
    rw [hWD] at hHeld ⊢
    clear hWD
    have HN := Lib.hid (Below.refl wd.heap.size wd)
    refine wpAnyH_take (i := 0) (oi := ⟨some 15, _, _, _, _, _⟩) (v := ?_) rfl (by as_aux_lemma => kernel_rfl) (by as_aux_lemma => kernel_rfl) (by as_aux_lemma => kernel_rfl) (fun _ _ _ h => h) ?_ (by assumption) ?_; rotate_left; (focus (refine Or.inl ⟨rfl, ?_⟩; intro w hSw; (try dsimp only at hSw); go_simp; (try with_reducible rfl); done)); (try simp only [Act.put, List.setIfInBounds_toArray, List.set_cons_zero, List.set_cons_succ])
    refine wpAnyH_ready (rs := [1, 7]) (by kernel_rfl) (by simp) ?_
    refine AllReadyH.cons (o := ⟨some 16, _, _, _, _, _⟩) rfl (fun K hK => ?_) (AllReadyH.cons (o := ⟨some 2, _, _, _, _, _⟩) rfl (fun K hK => ?_) AllReadyH.nil)
    · go_simp
      go_at_call 18
      (with_reducible refine (num_calls 1 _).mono ?_)
      rintro en wq1 ⟨rfl, hb⟩
      refine hK.out _ _ (KEEP.out _ (below_step HN.out hb)) (fun hHeld2 => ?_)
      have HN' := Lib.hid (below_step HN.out hb); clear HN; have HN := HN'; clear HN'
      clear hb; clear hK K hHeld; have hHeld := hHeld2; clear hHeld2; (try simp only [Act.put, List.setIfInBounds_toArray, List.set_cons_zero, List.set_cons_succ])
      refine wpAnyH_take (i := 2) (oi := ⟨some 17, _, _, _, _, _⟩) (v := ?_) rfl (by as_aux_lemma => kernel_rfl) (by as_aux_lemma => kernel_rfl) (by as_aux_lemma => kernel_rfl) (fun _ _ _ h => h) ?_ (by assumption) ?_; rotate_left; (focus (refine Or.inl ⟨rfl, ?_⟩; intro w hSw; (try dsimp only at hSw); go_simp; (try with_reducible rfl); done)); (try simp only [Act.put, List.setIfInBounds_toArray, List.set_cons_zero, List.set_cons_succ])
      refine wpAnyH_ready (rs := [3, 7]) (by kernel_rfl) (by simp) ?_
      refine AllReadyH.cons (o := ⟨some 18, _, _, _, _, _⟩) rfl (fun K hK => ?_) (AllReadyH.cons (o := ⟨some 2, _, _, _, _, _⟩) rfl (fun K hK => ?_) AllReadyH.nil)
      · go_simp
        go_at_call 18
        (with_reducible refine (num_calls 5 _).mono ?_)
        rintro en wq2 ⟨rfl, hb⟩
        refine hK.out _ _ (KEEP.out _ (below_step HN.out hb)) (fun hHeld2 => ?_)
        have HN' := Lib.hid (below_step HN.out hb); clear HN; have HN := HN'; clear HN'
        clear hb; clear hK K hHeld; have hHeld := hHeld2; clear hHeld2; (try simp only [Act.put, List.setIfInBounds_toArray, List.set_cons_zero, List.set_cons_succ])
        refine wpAnyH_take (i := 4) (oi := ⟨some 19, _, _, _, _, _⟩) (v := ?_) rfl (by as_aux_lemma => kernel_rfl) (by as_aux_lemma => kernel_rfl) (by as_aux_lemma => kernel_rfl) (fun _ _ _ h => h) ?_ (by assumption) ?_; rotate_left; (focus (refine Or.inl ⟨rfl, ?_⟩; intro w hSw; (try dsimp only at hSw); go_simp; (try with_reducible rfl); done)); (try simp only [Act.put, List.setIfInBounds_toArray, List.set_cons_zero, List.set_cons_succ])
        refine wpAnyH_ready (rs := [5, 7]) (by kernel_rfl) (by simp) ?_
        refine AllReadyH.cons (o := ⟨some 20, _, _, _, _, _⟩) rfl (fun K hK => ?_) (AllReadyH.cons (o := ⟨some 2, _, _, _, _, _⟩) rfl (fun K hK => ?_) AllReadyH.nil)
        · go_simp
          have hb := below_alloc (Below.refl wq2.heap.size wq2) (.cells #[.string ⟨#[120]⟩, .int .i64 (numV 1).f0, .int .i64 (numV 1).f1, .int .u64 (numV 1).f2, .string (numV 1).f3, .slice none (numV 1).f4.length 0, .slice none (numV 1).f5.length 0, .string ⟨#[120]⟩, .int .i64 (numV 5).f0, .int .i64 (numV 5).f1, .int .u64 (numV 5).f2, .string (numV 5).f3, .slice none (numV 5).f4.length 0, .slice none (numV 5).f5.length 0] 34)
          refine hK.out _ _ (KEEP.out _ (below_step HN.out hb)) (fun hHeld2 => ?_)
          have VV0 := Lib.hid (blk_new wq2 (.cells #[.string ⟨#[120]⟩, .int .i64 (numV 1).f0, .int .i64 (numV 1).f1, .int .u64 (numV 1).f2, .string (numV 1).f3, .slice none (numV 1).f4.length 0, .slice none (numV 1).f5.length 0, .string ⟨#[120]⟩, .int .i64 (numV 5).f0, .int .i64 (numV 5).f1, .int .u64 (numV 5).f2, .string (numV 5).f3, .slice none (numV 5).f4.length 0, .slice none (numV 5).f5.length 0] 34))
          have GEVV := Lib.hid (below_size HN.out)
          have HN' := Lib.hid (below_step HN.out hb); clear HN; have HN := HN'; clear HN'
          clear hb; clear hK K hHeld; have hHeld := hHeld2; clear hHeld2; (try simp only [Act.put, List.setIfInBounds_toArray, List.set_cons_zero, List.set_cons_succ])
          generalize hgk : wq2.heap.size = gq3 at *; (try clear hgk)
          generalize hwk : wq2.alloc (.cells #[.string ⟨#[120]⟩, .int .i64 (numV 1).f0, .int .i64 (numV 1).f1, .int .u64 (numV 1).f2, .string (numV 1).f3, .slice none (numV 1).f4.length 0, .slice none (numV 1).f5.length 0, .string ⟨#[120]⟩, .int .i64 (numV 5).f0, .int .i64 (numV 5).f1, .int .u64 (numV 5).f2, .string (numV 5).f3, .slice none (numV 5).f4.length 0, .slice none (numV 5).f5.length 0] 34) = wq3 at *; clear hwk
          have VV := VV0; clear VV0
          refine wpAnyH_take (i := 6) (oi := ⟨some 21, _, _, _, _, _⟩) (v := ?_) rfl (by as_aux_lemma => kernel_rfl) (by as_aux_lemma => kernel_rfl) (by as_aux_lemma => kernel_rfl) (fun _ _ _ h => h) ?_ (by assumption) ?_; rotate_left; (focus (refine Or.inl ⟨rfl, ?_⟩; intro w hSw; (try dsimp only at hSw); go_simp; (try with_reducible rfl); done)); (try simp only [Act.put, List.setIfInBounds_toArray, List.set_cons_zero, List.set_cons_succ])
          refine wpAnyH_ready (rs := [7]) (by kernel_rfl) (by simp) ?_
          refine AllReadyH.cons (o := ⟨some 2, _, _, _, _, _⟩) rfl (fun K hK => ?_) AllReadyH.nil
          go_simp
          have hb := below_alloc (Below.refl wq3.heap.size wq3) zerosE
          refine hK.out _ _ (KEEP.out _ (below_step HN.out hb)) (fun hHeld2 => ?_)
          have BE0 := Lib.hid (blk_new wq3 zerosE)
          have GEBE := Lib.hid (below_size HN.out)
          have VV' := Lib.hid (blk_below VV.out hb)
          have HN' := Lib.hid (below_step HN.out hb)
          clear VV HN; have HN := HN'; clear HN'; have VV := VV'; clear VV'
          clear hb; clear hK K hHeld; have hHeld := hHeld2; clear hHeld2; (try simp only [Act.put, List.setIfInBounds_toArray, List.set_cons_zero, List.set_cons_succ])
          generalize hgk : wq3.heap.size = gq4 at *; (try clear hgk)
          generalize hwk : wq3.alloc zerosE = wq4 at *; clear hwk
          have BE := BE0; clear BE0
          refine wpAnyH_ready (rs := [8]) (by kernel_rfl) (by simp) ?_
          refine AllReadyH.cons (o := ⟨none, _, _, _, _, _⟩) rfl (fun K hK => ?_) AllReadyH.nil
          have nz0 := (blk_cell BE.out 0).trans rfl; have fz0 := blk_frozen BE.out 0; have nz1 := (blk_cell BE.out 1).trans rfl; have fz1 := blk_frozen BE.out 1; have nz2 := (blk_cell BE.out 2).trans rfl; have fz2 := blk_frozen BE.out 2; have nz3 := (blk_cell BE.out 3).trans rfl; have fz3 := blk_frozen BE.out 3; have nz4 := (blk_cell BE.out 4).trans rfl; have fz4 := blk_frozen BE.out 4; have nz5 := (blk_cell BE.out 5).trans rfl; have fz5 := blk_frozen BE.out 5; have nz6 := (blk_cell BE.out 6).trans rfl; have fz6 := blk_frozen BE.out 6
          go_simp
          have HX := Lib.hid (row_put7 BE.out (.int .i64 6) (.int .i64 0) (.int .u64 0) (.string ⟨#[]⟩) (.slice (some adVI) 1 1) (.slice (some adVK) 1 1) (.slice (some ⟨gq3, 0, none⟩) 2 2))
          have HF := Lib.hid (row_below7 HN.out GEBE.out (.int .i64 6) (.int .i64 0) (.int .u64 0) (.string ⟨#[]⟩) (.slice (some adVI) 1 1) (.slice (some adVK) 1 1) (.slice (some ⟨gq3, 0, none⟩) 2 2))
          clear nz0 fz0 nz1 fz1 nz2 fz2 nz3 fz3 nz4 fz4 nz5 fz5 nz6 fz6
          have VVf := Lib.hid ((row_far7 (Ne.symm (blk_ne BE.out VV.out (by decide))) (.int .i64 6) (.int .i64 0) (.int .u64 0) (.string ⟨#[]⟩) (.slice (some adVI) 1 1) (.slice (some adVK) 1 1) (.slice (some ⟨gq3, 0, none⟩) 2 2)).trans VV.out)
          refine hK.out _ _ (KEEP.out _ HF.out) (fun hHeld2 => ?_)
          clear hK K hHeld; have hHeld := hHeld2; clear hHeld2; (try simp only [Act.put, List.setIfInBounds_toArray, List.set_cons_zero, List.set_cons_succ])
          refine wpAnyH_done (by kernel_rfl) ?_ _
          go_wp2
          go_meet
          case rel =>
            have HVC := block_C kX (xs := [⟨⟨#[120]⟩, numV 1⟩, ⟨⟨#[120]⟩, numV 5⟩]) VVf.out (reps_vars _ ⟨⟨#[120]⟩, numV 1⟩ ⟨⟨#[120]⟩, numV 5⟩ (rows_nil _ (numV 1) rfl rfl) (rows_nil _ (numV 5) rfl rfl)) (by decide)
            exact ⟨_, _, rfl, ⟨HX.out⟩, ⟨⟨HR.out.below HF.out, HVC, Nat.le_refl _⟩⟩, ⟨below_step HB.out HF.out⟩⟩
        · go_simp
          have hb := below_alloc (Below.refl wq2.heap.size wq2) zerosE
          refine hK.out _ _ (KEEP.out _ (below_step HN.out hb)) (fun hHeld2 => ?_)
          have BE0 := Lib.hid (blk_new wq2 zerosE)
          have GEBE := Lib.hid (below_size HN.out)
          have HN' := Lib.hid (below_step HN.out hb); clear HN; have HN := HN'; clear HN'
          clear hb; clear hK K hHeld; have hHeld := hHeld2; clear hHeld2; (try simp only [Act.put, List.setIfInBounds_toArray, List.set_cons_zero, List.set_cons_succ])
          generalize hgk : wq2.heap.size = gq3 at *; (try clear hgk)
          generalize hwk : wq2.alloc zerosE = wq3 at *; clear hwk
          have BE := BE0; clear BE0
          refine wpAnyH_ready (rs := [5]) (by kernel_rfl) (by simp) ?_
          refine AllReadyH.cons (o := ⟨some 20, _, _, _, _, _⟩) rfl (fun K hK => ?_) AllReadyH.nil
          go_simp
          have hb := below_alloc (Below.refl wq3.heap.size wq3) (.cells #[.string ⟨#[120]⟩, .int .i64 (numV 1).f0, .int .i64 (numV 1).f1, .int .u64 (numV 1).f2, .string (numV 1).f3, .slice none (numV 1).f4.length 0, .slice none (numV 1).f5.length 0, .string ⟨#[120]⟩, .int .i64 (numV 5).f0, .int .i64 (numV 5).f1, .int .u64 (numV 5).f2, .string (numV 5).f3, .slice none (numV 5).f4.length 0, .slice none (numV 5).f5.length 0] 34)
          refine hK.out _ _ (KEEP.out _ (below_step HN.out hb)) (fun hHeld2 => ?_)
          have VV0 := Lib.hid (blk_new wq3 (.cells #[.string ⟨#[120]⟩, .int .i64 (numV 1).f0, .int .i64 (numV 1).f1, .int .u64 (numV 1).f2, .string (numV 1).f3, .slice none (numV 1).f4.length 0, .slice none (numV 1).f5.length 0, .string ⟨#[120]⟩, .int .i64 (numV 5).f0, .int .i64 (numV 5).f1, .int .u64 (numV 5).f2, .string (numV 5).f3, .slice none (numV 5).f4.length 0, .slice none (numV 5).f5.length 0] 34))
          have GEVV := Lib.hid (below_size HN.out)
          have BE' := Lib.hid (blk_below BE.out hb)
          have HN' := Lib.hid (below_step HN.out hb)
          clear BE HN; have HN := HN'; clear HN'; have BE := BE'; clear BE'
          clear hb; clear hK K hHeld; have hHeld := hHeld2; clear hHeld2; (try simp only [Act.put, List.setIfInBounds_toArray, List.set_cons_zero, List.set_cons_succ])
          generalize hgk : wq3.heap.size = gq4 at *; (try clear hgk)
          generalize hwk : wq3.alloc (.cells #[.string ⟨#[120]⟩, .int .i64 (numV 1).f0, .int .i64 (numV 1).f1, .int .u64 (numV 1).f2, .string (numV 1).f3, .slice none (numV 1).f4.length 0, .slice none (numV 1).f5.length 0, .string ⟨#[120]⟩, .int .i64 (numV 5).f0, .int .i64 (numV 5).f1, .int .u64 (numV 5).f2, .string (numV 5).f3, .slice none (numV 5).f4.length 0, .slice none (numV 5).f5.length 0] 34) = wq4 at *; clear hwk
          have VV := VV0; clear VV0
          refine wpAnyH_take (i := 6) (oi := ⟨some 21, _, _, _, _, _⟩) (v := ?_) rfl (by as_aux_lemma => kernel_rfl) (by as_aux_lemma => kernel_rfl) (by as_aux_lemma => kernel_rfl) (fun _ _ _ h => h) ?_ (by assumption) ?_; rotate_left; (focus (refine Or.inl ⟨rfl, ?_⟩; intro w hSw; (try dsimp only at hSw); go_simp; (try with_reducible rfl); done)); (try simp only [Act.put, List.setIfInBounds_toArray, List.set_cons_zero, List.set_cons_succ])
          refine wpAnyH_ready (rs := [8]) (by kernel_rfl) (by simp) ?_
          refine AllReadyH.cons (o := ⟨none, _, _, _, _, _⟩) rfl (fun K hK => ?_) AllReadyH.nil
          have nz0 := (blk_cell BE.out 0).trans rfl; have fz0 := blk_frozen BE.out 0; have nz1 := (blk_cell BE.out 1).trans rfl; have fz1 := blk_frozen BE.out 1; have nz2 := (blk_cell BE.out 2).trans rfl; have fz2 := blk_frozen BE.out 2; have nz3 := (blk_cell BE.out 3).trans rfl; have fz3 := blk_frozen BE.out 3; have nz4 := (blk_cell BE.out 4).trans rfl; have fz4 := blk_frozen BE.out 4; have nz5 := (blk_cell BE.out 5).trans rfl; have fz5 := blk_frozen BE.out 5; have nz6 := (blk_cell BE.out 6).trans rfl; have fz6 := blk_frozen BE.out 6
          go_simp
          have HX := Lib.hid (row_put7 BE.out (.int .i64 6) (.int .i64 0) (.int .u64 0) (.string ⟨#[]⟩) (.slice (some adVI) 1 1) (.slice (some adVK) 1 1) (.slice (some ⟨gq4, 0, none⟩) 2 2))
          have HF := Lib.hid (row_below7 HN.out GEBE.out (.int .i64 6) (.int .i64 0) (.int .u64 0) (.string ⟨#[]⟩) (.slice (some adVI) 1 1) (.slice (some adVK) 1 1) (.slice (some ⟨gq4, 0, none⟩) 2 2))
          clear nz0 fz0 nz1 fz1 nz2 fz2 nz3 fz3 nz4 fz4 nz5 fz5 nz6 fz6
          have VVf := Lib.hid ((row_far7 (Ne.symm (blk_ne BE.out VV.out (by decide))) (.int .i64 6) (.int .i64 0) (.int .u64 0) (.string ⟨#[]⟩) (.slice (some adVI) 1 1) (.slice (some adVK) 1 1) (.slice (some ⟨gq4, 0, none⟩) 2 2)).trans VV.out)
          refine hK.out _ _ (KEEP.out _ HF.out) (fun hHeld2 => ?_)
          clear hK K hHeld; have hHeld := hHeld2; clear hHeld2; (try simp only [Act.put, List.setIfInBounds_toArray, List.set_cons_zero, List.set_cons_succ])
          refine wpAnyH_done (by kernel_rfl) ?_ _
          go_wp2
          go_meet
          case rel =>
            have HVC := block_C kX (xs := [⟨⟨#[120]⟩, numV 1⟩, ⟨⟨#[120]⟩, numV 5⟩]) VVf.out (reps_vars _ ⟨⟨#[120]⟩, numV 1⟩ ⟨⟨#[120]⟩, numV 5⟩ (rows_nil _ (numV 1) rfl rfl) (rows_nil _ (numV 5) rfl rfl)) (by decide)
            exact ⟨_, _, rfl, ⟨HX.out⟩, ⟨⟨HR.out.below HF.out, HVC, Nat.le_refl _⟩⟩, ⟨below_step HB.out HF.out⟩⟩
      · go_simp
        have hb := below_alloc (Below.refl wq1.heap.size wq1) zerosE
        refine hK.out _ _ (KEEP.out _ (below_step HN.out hb)) (fun hHeld2 => ?_)
        have BE0 := Lib.hid (blk_new wq1 zerosE)
        have GEBE := Lib.hid (below_size HN.out)
        have HN' := Lib.hid (below_step HN.out hb); clear HN; have HN := HN'; clear HN'
        clear hb; clear hK K hHeld; have hHeld := hHeld2; clear hHeld2; (try simp only [Act.put, List.setIfInBounds_toArray, List.set_cons_zero, List.set_cons_succ])
        generalize hgk : wq1.heap.size = gq2 at *; (try clear hgk)
        generalize hwk : wq1.alloc zerosE = wq2 at *; clear hwk
        have BE := BE0; clear BE0
        refine wpAnyH_ready (rs := [3]) (by kernel_rfl) (by simp) ?_
        refine AllReadyH.cons (o := ⟨some 18, _, _, _, _, _⟩) rfl (fun K hK => ?_) AllReadyH.nil
        go_simp
        go_at_call 18
        (with_reducible refine (num_calls 5 _).mono ?_)
        rintro en wq3 ⟨rfl, hb⟩
        refine hK.out _ _ (KEEP.out _ (below_step HN.out hb)) (fun hHeld2 => ?_)
        have BE' := Lib.hid (blk_below BE.out hb)
        have HN' := Lib.hid (below_step HN.out hb)
        clear BE HN; have HN := HN'; clear HN'; have BE := BE'; clear BE'
        clear hb; clear hK K hHeld; have hHeld := hHeld2; clear hHeld2; (try simp only [Act.put, List.setIfInBounds_toArray, List.set_cons_zero, List.set_cons_succ])
        refine wpAnyH_take (i := 4) (oi := ⟨some 19, _, _, _, _, _⟩) (v := ?_) rfl (by as_aux_lemma => kernel_rfl) (by as_aux_lemma => kernel_rfl) (by as_aux_lemma => kernel_rfl) (fun _ _ _ h => h) ?_ (by assumption) ?_; rotate_left; (focus (refine Or.inl ⟨rfl, ?_⟩; intro w hSw; (try dsimp only at hSw); go_simp; (try with_reducible rfl); done)); (try simp only [Act.put, List.setIfInBounds_toArray, List.set_cons_zero, List.set_cons_succ])
        refine wpAnyH_ready (rs := [5]) (by kernel_rfl) (by simp) ?_
        refine AllReadyH.cons (o := ⟨some 20, _, _, _, _, _⟩) rfl (fun K hK => ?_) AllReadyH.nil
        go_simp
        have hb := below_alloc (Below.refl wq3.heap.size wq3) (.cells #[.string ⟨#[120]⟩, .int .i64 (numV 1).f0, .int .i64 (numV 1).f1, .int .u64 (numV 1).f2, .string (numV 1).f3, .slice none (numV 1).f4.length 0, .slice none (numV 1).f5.length 0, .string ⟨#[120]⟩, .int .i64 (numV 5).f0, .int .i64 (numV 5).f1, .int .u64 (numV 5).f2, .string (numV 5).f3, .slice none (numV 5).f4.length 0, .slice none (numV 5).f5.length 0] 34)
        refine hK.out _ _ (KEEP.out _ (below_step HN.out hb)) (fun hHeld2 => ?_)
        have VV0 := Lib.hid (blk_new wq3 (.cells #[.string ⟨#[120]⟩, .int .i64 (numV 1).f0, .int .i64 (numV 1).f1, .int .u64 (numV 1).f2, .string (numV 1).f3, .slice none (numV 1).f4.length 0, .slice none (numV 1).f5.length 0, .string ⟨#[120]⟩, .int .i64 (numV 5).f0, .int .i64 (numV 5).f1, .int .u64 (numV 5).f2, .string (numV 5).f3, .slice none (numV 5).f4.length 0, .slice none (numV 5).f5.length 0] 34))
        have GEVV := Lib.hid (below_size HN.out)
        have BE' := Lib.hid (blk_below BE.out hb)
        have HN' := Lib.hid (below_step HN.out hb)
        clear BE HN; have HN := HN'; clear HN'; have BE := BE'; clear BE'
        clear hb; clear hK K hHeld; have hHeld := hHeld2; clear hHeld2; (try simp only [Act.put, List.setIfInBounds_toArray, List.set_cons_zero, List.set_cons_succ])
        generalize hgk : wq3.heap.size = gq4 at *; (try clear hgk)
        generalize hwk : wq3.alloc (.cells #[.string ⟨#[120]⟩, .int .i64 (numV 1).f0, .int .i64 (numV 1).f1, .int .u64 (numV 1).f2, .string (numV 1).f3, .slice none (numV 1).f4.length 0, .slice none (numV 1).f5.length 0, .string ⟨#[120]⟩, .int .i64 (numV 5).f0, .int .i64 (numV 5).f1, .int .u64 (numV 5).f2, .string (numV 5).f3, .slice none (numV 5).f4.length 0, .slice none (numV 5).f5.length 0] 34) = wq4 at *; clear hwk
        have VV := VV0; clear VV0
        refine wpAnyH_take (i := 6) (oi := ⟨some 21, _, _, _, _, _⟩) (v := ?_) rfl (by as_aux_lemma => kernel_rfl) (by as_aux_lemma => kernel_rfl) (by as_aux_lemma => kernel_rfl) (fun _ _ _ h => h) ?_ (by assumption) ?_; rotate_left; (focus (refine Or.inl ⟨rfl, ?_⟩; intro w hSw; (try dsimp only at hSw); go_simp; (try with_reducible rfl); done)); (try simp only [Act.put, List.setIfInBounds_toArray, List.set_cons_zero, List.set_cons_succ])
        refine wpAnyH_ready (rs := [8]) (by kernel_rfl) (by simp) ?_
        refine AllReadyH.cons (o := ⟨none, _, _, _, _, _⟩) rfl (fun K hK => ?_) AllReadyH.nil
        have nz0 := (blk_cell BE.out 0).trans rfl; have fz0 := blk_frozen BE.out 0; have nz1 := (blk_cell BE.out 1).trans rfl; have fz1 := blk_frozen BE.out 1; have nz2 := (blk_cell BE.out 2).trans rfl; have fz2 := blk_frozen BE.out 2; have nz3 := (blk_cell BE.out 3).trans rfl; have fz3 := blk_frozen BE.out 3; have nz4 := (blk_cell BE.out 4).trans rfl; have fz4 := blk_frozen BE.out 4; have nz5 := (blk_cell BE.out 5).trans rfl; have fz5 := blk_frozen BE.out 5; have nz6 := (blk_cell BE.out 6).trans rfl; have fz6 := blk_frozen BE.out 6
        go_simp
        have HX := Lib.hid (row_put7 BE.out (.int .i64 6) (.int .i64 0) (.int .u64 0) (.string ⟨#[]⟩) (.slice (some adVI) 1 1) (.slice (some adVK) 1 1) (.slice (some ⟨gq4, 0, none⟩) 2 2))
        have HF := Lib.hid (row_below7 HN.out GEBE.out (.int .i64 6) (.int .i64 0) (.int .u64 0) (.string ⟨#[]⟩) (.slice (some adVI) 1 1) (.slice (some adVK) 1 1) (.slice (some ⟨gq4, 0, none⟩) 2 2))
        clear nz0 fz0 nz1 fz1 nz2 fz2 nz3 fz3 nz4 fz4 nz5 fz5 nz6 fz6
        have VVf := Lib.hid ((row_far7 (Ne.symm (blk_ne BE.out VV.out (by decide))) (.int .i64 6) (.int .i64 0) (.int .u64 0) (.string ⟨#[]⟩) (.slice (some adVI) 1 1) (.slice (some adVK) 1 1) (.slice (some ⟨gq4, 0, none⟩) 2 2)).trans VV.out)
        refine hK.out _ _ (KEEP.out _ HF.out) (fun hHeld2 => ?_)
        clear hK K hHeld; have hHeld := hHeld2; clear hHeld2; (try simp only [Act.put, List.setIfInBounds_toArray, List.set_cons_zero, List.set_cons_succ])
        refine wpAnyH_done (by kernel_rfl) ?_ _
        go_wp2
        go_meet
        case rel =>
          have HVC := block_C kX (xs := [⟨⟨#[120]⟩, numV 1⟩, ⟨⟨#[120]⟩, numV 5⟩]) VVf.out (reps_vars _ ⟨⟨#[120]⟩, numV 1⟩ ⟨⟨#[120]⟩, numV 5⟩ (rows_nil _ (numV 1) rfl rfl) (rows_nil _ (numV 5) rfl rfl)) (by decide)
          exact ⟨_, _, rfl, ⟨HX.out⟩, ⟨⟨HR.out.below HF.out, HVC, Nat.le_refl _⟩⟩, ⟨below_step HB.out HF.out⟩⟩
    · go_simp
      have hb := below_alloc (Below.refl wd.heap.size wd) zerosE
      refine hK.out _ _ (KEEP.out _ (below_step HN.out hb)) (fun hHeld2 => ?_)
      have BE0 := Lib.hid (blk_new wd zerosE)
      have GEBE := Lib.hid (below_size HN.out)
      have HN' := Lib.hid (below_step HN.out hb); clear HN; have HN := HN'; clear HN'
      clear hb; clear hK K hHeld; have hHeld := hHeld2; clear hHeld2; (try simp only [Act.put, List.setIfInBounds_toArray, List.set_cons_zero, List.set_cons_succ])
      generalize hwk : wd.alloc zerosE = wq1 at *; clear hwk
      have BE := BE0; clear BE0
      refine wpAnyH_ready (rs := [1]) (by kernel_rfl) (by simp) ?_
      refine AllReadyH.cons (o := ⟨some 16, _, _, _, _, _⟩) rfl (fun K hK => ?_) AllReadyH.nil
      go_simp
      go_at_call 18
      (with_reducible refine (num_calls 1 _).mono ?_)
      rintro en wq2 ⟨rfl, hb⟩
      refine hK.out _ _ (KEEP.out _ (below_step HN.out hb)) (fun hHeld2 => ?_)
      have BE' := Lib.hid (blk_below BE.out hb)
      have HN' := Lib.hid (below_step HN.out hb)
      clear BE HN; have HN := HN'; clear HN'; have BE := BE'; clear BE'
      clear hb; clear hK K hHeld; have hHeld := hHeld2; clear hHeld2; (try simp only [Act.put, List.setIfInBounds_toArray, List.set_cons_zero, List.set_cons_succ])
      refine wpAnyH_take (i := 2) (oi := ⟨some 17, _, _, _, _, _⟩) (v := ?_) rfl (by as_aux_lemma => kernel_rfl) (by as_aux_lemma => kernel_rfl) (by as_aux_lemma => kernel_rfl) (fun _ _ _ h => h) ?_ (by assumption) ?_; rotate_left; (focus (refine Or.inl ⟨rfl, ?_⟩; intro w hSw; (try dsimp only at hSw); go_simp; (try with_reducible rfl); done)); (try simp only [Act.put, List.setIfInBounds_toArray, List.set_cons_zero, List.set_cons_succ])
      refine wpAnyH_ready (rs := [3]) (by kernel_rfl) (by simp) ?_
      refine AllReadyH.cons (o := ⟨some 18, _, _, _, _, _⟩) rfl (fun K hK => ?_) AllReadyH.nil
      go_simp
      go_at_call 18
      (with_reducible refine (num_calls 5 _).mono ?_)
      rintro en wq3 ⟨rfl, hb⟩
      refine hK.out _ _ (KEEP.out _ (below_step HN.out hb)) (fun hHeld2 => ?_)
      have BE' := Lib.hid (blk_below BE.out hb)
      have HN' := Lib.hid (below_step HN.out hb)
      clear BE HN; have HN := HN'; clear HN'; have BE := BE'; clear BE'
      clear hb; clear hK K hHeld; have hHeld := hHeld2; clear hHeld2; (try simp only [Act.put, List.setIfInBounds_toArray, List.set_cons_zero, List.set_cons_succ])
      refine wpAnyH_take (i := 4) (oi := ⟨some 19, _, _, _, _, _⟩) (v := ?_) rfl (by as_aux_lemma => kernel_rfl) (by as_aux_lemma => kernel_rfl) (by as_aux_lemma => kernel_rfl) (fun _ _ _ h => h) ?_ (by assumption) ?_; rotate_left; (focus (refine Or.inl ⟨rfl, ?_⟩; intro w hSw; (try dsimp only at hSw); go_simp; (try with_reducible rfl); done)); (try simp only [Act.put, List.setIfInBounds_toArray, List.set_cons_zero, List.set_cons_succ])
      refine wpAnyH_ready (rs := [5]) (by kernel_rfl) (by simp) ?_
      refine AllReadyH.cons (o := ⟨some 20, _, _, _, _, _⟩) rfl (fun K hK => ?_) AllReadyH.nil
      go_simp
      have hb := below_alloc (Below.refl wq3.heap.size wq3) (.cells #[.string ⟨#[120]⟩, .int .i64 (numV 1).f0, .int .i64 (numV 1).f1, .int .u64 (numV 1).f2, .string (numV 1).f3, .slice none (numV 1).f4.length 0, .slice none (numV 1).f5.length 0, .string ⟨#[120]⟩, .int .i64 (numV 5).f0, .int .i64 (numV 5).f1, .int .u64 (numV 5).f2, .string (numV 5).f3, .slice none (numV 5).f4.length 0, .slice none (numV 5).f5.length 0] 34)
      refine hK.out _ _ (KEEP.out _ (below_step HN.out hb)) (fun hHeld2 => ?_)
      have VV0 := Lib.hid (blk_new wq3 (.cells #[.string ⟨#[120]⟩, .int .i64 (numV 1).f0, .int .i64 (numV 1).f1, .int .u64 (numV 1).f2, .string (numV 1).f3, .slice none (numV 1).f4.length 0, .slice none (numV 1).f5.length 0, .string ⟨#[120]⟩, .int .i64 (numV 5).f0, .int .i64 (numV 5).f1, .int .u64 (numV 5).f2, .string (numV 5).f3, .slice none (numV 5).f4.length 0, .slice none (numV 5).f5.length 0] 34))
      have GEVV := Lib.hid (below_size HN.out)
      have BE' := Lib.hid (blk_below BE.out hb)
      have HN' := Lib.hid (below_step HN.out hb)
      clear BE HN; have HN := HN'; clear HN'; have BE := BE'; clear BE'
      clear hb; clear hK K hHeld; have hHeld := hHeld2; clear hHeld2; (try simp only [Act.put, List.setIfInBounds_toArray, List.set_cons_zero, List.set_cons_succ])
      generalize hgk : wq3.heap.size = gq4 at *; (try clear hgk)
      generalize hwk : wq3.alloc (.cells #[.string ⟨#[120]⟩, .int .i64 (numV 1).f0, .int .i64 (numV 1).f1, .int .u64 (numV 1).f2, .string (numV 1).f3, .slice none (numV 1).f4.length 0, .slice none (numV 1).f5.length 0, .string ⟨#[120]⟩, .int .i64 (numV 5).f0, .int .i64 (numV 5).f1, .int .u64 (numV 5).f2, .string (numV 5).f3, .slice none (numV 5).f4.length 0, .slice none (numV 5).f5.length 0] 34) = wq4 at *; clear hwk
      have VV := VV0; clear VV0
      refine wpAnyH_take (i := 6) (oi := ⟨some 21, _, _, _, _, _⟩) (v := ?_) rfl (by as_aux_lemma => kernel_rfl) (by as_aux_lemma => kernel_rfl) (by as_aux_lemma => kernel_rfl) (fun _ _ _ h => h) ?_ (by assumption) ?_; rotate_left; (focus (refine Or.inl ⟨rfl, ?_⟩; intro w hSw; (try dsimp only at hSw); go_simp; (try with_reducible rfl); done)); (try simp only [Act.put, List.setIfInBounds_toArray, List.set_cons_zero, List.set_cons_succ])
      refine wpAnyH_ready (rs := [8]) (by kernel_rfl) (by simp) ?_
      refine AllReadyH.cons (o := ⟨none, _, _, _, _, _⟩) rfl (fun K hK => ?_) AllReadyH.nil
      have nz0 := (blk_cell BE.out 0).trans rfl; have fz0 := blk_frozen BE.out 0; have nz1 := (blk_cell BE.out 1).trans rfl; have fz1 := blk_frozen BE.out 1; have nz2 := (blk_cell BE.out 2).trans rfl; have fz2 := blk_frozen BE.out 2; have nz3 := (blk_cell BE.out 3).trans rfl; have fz3 := blk_frozen BE.out 3; have nz4 := (blk_cell BE.out 4).trans rfl; have fz4 := blk_frozen BE.out 4; have nz5 := (blk_cell BE.out 5).trans rfl; have fz5 := blk_frozen BE.out 5; have nz6 := (blk_cell BE.out 6).trans rfl; have fz6 := blk_frozen BE.out 6
      go_simp
      have HX := Lib.hid (row_put7 BE.out (.int .i64 6) (.int .i64 0) (.int .u64 0) (.string ⟨#[]⟩) (.slice (some adVI) 1 1) (.slice (some adVK) 1 1) (.slice (some ⟨gq4, 0, none⟩) 2 2))
      have HF := Lib.hid (row_below7 HN.out GEBE.out (.int .i64 6) (.int .i64 0) (.int .u64 0) (.string ⟨#[]⟩) (.slice (some adVI) 1 1) (.slice (some adVK) 1 1) (.slice (some ⟨gq4, 0, none⟩) 2 2))
      clear nz0 fz0 nz1 fz1 nz2 fz2 nz3 fz3 nz4 fz4 nz5 fz5 nz6 fz6
      have VVf := Lib.hid ((row_far7 (Ne.symm (blk_ne BE.out VV.out (by decide))) (.int .i64 6) (.int .i64 0) (.int .u64 0) (.string ⟨#[]⟩) (.slice (some adVI) 1 1) (.slice (some adVK) 1 1) (.slice (some ⟨gq4, 0, none⟩) 2 2)).trans VV.out)
      refine hK.out _ _ (KEEP.out _ HF.out) (fun hHeld2 => ?_)
      clear hK K hHeld; have hHeld := hHeld2; clear hHeld2; (try simp only [Act.put, List.setIfInBounds_toArray, List.set_cons_zero, List.set_cons_succ])
      refine wpAnyH_done (by kernel_rfl) ?_ _
      go_wp2
      go_meet
      case rel =>
        have HVC := block_C kX (xs := [⟨⟨#[120]⟩, numV 1⟩, ⟨⟨#[120]⟩, numV 5⟩]) VVf.out (reps_vars _ ⟨⟨#[120]⟩, numV 1⟩ ⟨⟨#[120]⟩, numV 5⟩ (rows_nil _ (numV 1) rfl rfl) (rows_nil _ (numV 5) rfl rfl)) (by decide)
        exact ⟨_, _, rfl, ⟨HX.out⟩, ⟨⟨HR.out.below HF.out, HVC, Nat.le_refl _⟩⟩, ⟨below_step HB.out HF.out⟩⟩
  case rest =>
    clear HB HR BR
    (try clear r0 r1 r2 r3 r4 r5)
    obtain ⟨ge, adVV, rfl, HX0, HE0, HB0⟩ := hcut
    have HX := Lib.hid HX0.out; have HE := Lib.hid HE0.out; have HB := Lib.hid HB0.out; clear HX0 HE0 HB0
    obtain ⟨x0, x1, x2, x3, x4, x5, x6⟩ := box7 HX.out
    have CP1 := Lib.hid (fun W (cp : Nat) (A : Option Addr) (h : RowsE W envA (some adVI) 1 (some adVK) 1 (some adVV) 2) (hb : Below w.heap.size w W) (hA : Kd.C kC W A 2 p1A) (hc : 2 ≤ cp) => (by exact pipe_got p1A A cp envA (some adVI) 1 (some adVK) 1 (some adVV) 2 W _ _ pipe1A h hA hc (HT.out.below hb) goodA : Calls Tryz.prog 8 #[.slice A 2 cp, .agg #[.int .i64 6, .int .i64 0, .int .u64 0, .string ⟨#[]⟩, .slice (some adVI) 1 1, .slice (some adVK) 1 1, .slice (some adVV) 2 2]] W fun en w' => ∃ E e4 Fa f4, en = .returned (.tuple #[.agg #[.int .i64 1, .int .i64 1, .int .u64 0, .string ⟨#[]⟩, .slice E 0 e4, .slice Fa 0 f4], .int .i64 0]) ∧ Rows4 w' (⟨1, 1, 0, ⟨#[]⟩, [], []⟩ : V) E e4 Fa f4 ∧ Below W.heap.size W w'))
    have CP2 := Lib.hid (fun W (cp : Nat) (A : Option Addr) (h : RowsE W envA (some adVI) 1 (some adVK) 1 (some adVV) 2) (hb : Below w.heap.size w W) (hA : Kd.C kC W A 1 p2A) (hc : 1 ≤ cp) => (by exact pipe_got p2A A cp envA (some adVI) 1 (some adVK) 1 (some adVV) 2 W _ _ pipe2A h hA hc (HT.out.below hb) goodA : Calls Tryz.prog 8 #[.slice A 1 cp, .agg #[.int .i64 6, .int .i64 0, .int .u64 0, .string ⟨#[]⟩, .slice (some adVI) 1 1, .slice (some adVK) 1 1, .slice (some adVV) 2 2]] W fun en w' => ∃ E e4 Fa f4, en = .returned (.tuple #[.agg #[.int .i64 0, .int .i64 0, .int .u64 0, .string ⟨#[]⟩, .slice E 0 e4, .slice Fa 0 f4], .int .i64 1901]) ∧ Rows4 w' (⟨0, 0, 0, ⟨#[]⟩, [], []⟩ : V) E e4 Fa f4 ∧ Below W.heap.size W w'))
    have CP3 := Lib.hid (fun W (cp : Nat) (A : Option Addr) (h : RowsE W envA (some adVI) 1 (some adVK) 1 (some adVV) 2) (hb : Below w.heap.size w W) (hA : Kd.C kC W A 0 ([] : List Cm)) (hc : 0 ≤ cp) => (by exact pipe_got ([] : List Cm) A cp envA (some adVI) 1 (some adVK) 1 (some adVV) 2 W _ _ pipe3A h hA hc (HT.out.below hb) goodA : Calls Tryz.prog 8 #[.slice A 0 cp, .agg #[.int .i64 6, .int .i64 0, .int .u64 0, .string ⟨#[]⟩, .slice (some adVI) 1 1, .slice (some adVK) 1 1, .slice (some adVV) 2 2]] W fun en w' => ∃ E e4 Fa f4, en = .returned (.tuple #[.agg #[.int .i64 0, .int .i64 0, .int .u64 0, .string ⟨#[]⟩, .slice E 0 e4, .slice Fa 0 f4], .int .i64 1900]) ∧ Rows4 w' (⟨0, 0, 0, ⟨#[]⟩, [], []⟩ : V) E e4 Fa f4 ∧ Below W.heap.size W w'))
    have CP4 := Lib.hid (fun W (cp : Nat) (A : Option Addr) (h : RowsE W envA (some adVI) 1 (some adVK) 1 (some adVV) 2) (hb : Below w.heap.size w W) (hA : Kd.C kC W A 1 p4A) (hc : 1 ≤ cp) => (by exact pipe_got p4A A cp envA (some adVI) 1 (some adVK) 1 (some adVV) 2 W _ _ pipe4A h hA hc (HT.out.below hb) goodA : Calls Tryz.prog 8 #[.slice A 1 cp, .agg #[.int .i64 6, .int .i64 0, .int .u64 0, .string ⟨#[]⟩, .slice (some adVI) 1 1, .slice (some adVK) 1 1, .slice (some adVV) 2 2]] W fun en w' => ∃ E e4 Fa f4, en = .returned (.tuple #[.agg #[.int .i64 0, .int .i64 0, .int .u64 0, .string ⟨#[]⟩, .slice E 0 e4, .slice Fa 0 f4], .int .i64 401]) ∧ Rows4 w' (⟨0, 0, 0, ⟨#[]⟩, [], []⟩ : V) E e4 Fa f4 ∧ Below W.heap.size W w'))
    go_upto_region 4 with (first | ((with_reducible refine gate_dst (N := 23) rfl ?_); refine lit_row Kd.string 9 1 ?hg (N := 23) ?hd (xs := ([⟨#[97]⟩] : List ByteArray)) (inner := [.string ⟨#[97]⟩]) rfl ?hr ?hp (by decide) ?_; (case hd => rfl); (case hg => rfl); (case hr => first | (go_simp; done) | (go_simp; rfl)); (case hp => exact reps_str _ _); intro adKA wlKA hc hb; have KA := Lib.hid hc; have HX' := Lib.hid (blk_below HX.out hb); have HE' := Lib.hid (RowsE.below HE.out hb); have HB' := Lib.hid (below_step HB.out hb); clear HX; have HX := HX'; clear HX'; clear HE; have HE := HE'; clear HE'; clear HB; have HB := HB'; clear HB'; (try clear x0 x1 x2 x3 x4 x5 x6); obtain ⟨x0, x1, x2, x3, x4, x5, x6⟩ := box7 HX.out; clear hc hb) | ((with_reducible refine gate_dst (N := 25) rfl ?_); refine lit_row kA 57 1 ?hg (N := 25) ?hd (xs := ([a1A] : List Ag)) (inner := [.int .i64 0, .string ⟨#[]⟩, .slice (some adKA) 1 1, .int .i64 0, .string ⟨#[]⟩]) rfl ?hr ?hp (by decide) ?_; (case hd => rfl); (case hg => rfl); (case hr => first | (go_simp; done) | (go_simp; rfl)); (case hp => exact reps_arg _ a1A KA.out (Nat.le_refl _)); intro adL1 wlL1 hc hb; have L1 := Lib.hid hc; have HX' := Lib.hid (blk_below HX.out hb); have HE' := Lib.hid (RowsE.below HE.out hb); have HB' := Lib.hid (below_step HB.out hb); have KA' := Lib.hid (Kd.C_below KA.out hb); clear HX; have HX := HX'; clear HX'; clear HE; have HE := HE'; clear HE'; clear HB; have HB := HB'; clear HB'; clear KA; have KA := KA'; clear KA'; (try clear x0 x1 x2 x3 x4 x5 x6); obtain ⟨x0, x1, x2, x3, x4, x5, x6⟩ := box7 HX.out; clear hc hb) | ((with_reducible refine gate_dst (N := 28) rfl ?_); refine lit_row kA 57 1 ?hg (N := 28) ?hd (xs := ([a2A] : List Ag)) (inner := [.int .i64 1, .string ⟨#[120]⟩, .slice none 0 0, .int .i64 0, .string ⟨#[]⟩]) rfl ?hr ?hp (by decide) ?_; (case hd => rfl); (case hg => rfl); (case hr => first | (go_simp; done) | (go_simp; rfl)); (case hp => exact reps_arg _ a2A (Kd.C_nil _ _) (Nat.le_refl _)); intro adL2 wlL2 hc hb; have L2 := Lib.hid hc; have HX' := Lib.hid (blk_below HX.out hb); have HE' := Lib.hid (RowsE.below HE.out hb); have HB' := Lib.hid (below_step HB.out hb); have KA' := Lib.hid (Kd.C_below KA.out hb); have L1' := Lib.hid (Kd.C_below L1.out hb); clear HX; have HX := HX'; clear HX'; clear HE; have HE := HE'; clear HE'; clear HB; have HB := HB'; clear HB'; clear KA; have KA := KA'; clear KA'; clear L1; have L1 := L1'; clear L1'; (try clear x0 x1 x2 x3 x4 x5 x6); obtain ⟨x0, x1, x2, x3, x4, x5, x6⟩ := box7 HX.out; clear hc hb) | ((with_reducible refine gate_dst (N := 30) rfl ?_); refine lit_row kC 50 2 ?hg (N := 30) ?hd (xs := (p1A : List Cm)) (inner := [.string ⟨#[]⟩, .slice (some adL1) 1 1, .string ⟨#[101, 113]⟩, .slice (some adL2) 1 1]) rfl ?hr ?hp (by decide) ?_; (case hd => rfl); (case hg => rfl); (case hr => first | (go_simp; done) | (go_simp; rfl)); (case hp => exact reps_cmd2 _ ⟨⟨#[]⟩, [a1A]⟩ ⟨⟨#[101, 113]⟩, [a2A]⟩ L1.out (Nat.le_refl _) L2.out (Nat.le_refl _)); intro adC1 wlC1 hc hb; have C1 := Lib.hid hc; have HX' := Lib.hid (blk_below HX.out hb); have HE' := Lib.hid (RowsE.below HE.out hb); have HB' := Lib.hid (below_step HB.out hb); have KA' := Lib.hid (Kd.C_below KA.out hb); have L1' := Lib.hid (Kd.C_below L1.out hb); have L2' := Lib.hid (Kd.C_below L2.out hb); clear HX; have HX := HX'; clear HX'; clear HE; have HE := HE'; clear HE'; clear HB; have HB := HB'; clear HB'; clear KA; have KA := KA'; clear KA'; clear L1; have L1 := L1'; clear L1'; clear L2; have L2 := L2'; clear L2'; (try clear x0 x1 x2 x3 x4 x5 x6); obtain ⟨x0, x1, x2, x3, x4, x5, x6⟩ := box7 HX.out; clear hc hb) | (go_at_call 8; (with_reducible refine (CP1.out _ _ _ HE.out HB.out C1.out (Nat.le_refl _)).mono ?_); rintro en wp1 ⟨E1, e1, F1, f1, rfl, hr, hb⟩; have HX' := Lib.hid (blk_below HX.out hb); have HE' := Lib.hid (RowsE.below HE.out hb); have HB' := Lib.hid (below_step HB.out hb); have KA' := Lib.hid (Kd.C_below KA.out hb); have L1' := Lib.hid (Kd.C_below L1.out hb); have L2' := Lib.hid (Kd.C_below L2.out hb); have C1' := Lib.hid (Kd.C_below C1.out hb); clear HX; have HX := HX'; clear HX'; clear HE; have HE := HE'; clear HE'; clear HB; have HB := HB'; clear HB'; clear KA; have KA := KA'; clear KA'; clear L1; have L1 := L1'; clear L1'; clear L2; have L2 := L2'; clear L2'; clear C1; have C1 := C1'; clear C1'; (try clear x0 x1 x2 x3 x4 x5 x6); obtain ⟨x0, x1, x2, x3, x4, x5, x6⟩ := box7 HX.out; have R1 := Lib.hid hr; clear hr; clear hb) | ((with_reducible refine gate_store (t := 27) (p := 3) rfl ?_); refine row_event (by rfl) (by rfl) (by rfl) (by rfl) (by rfl) (blk_new wp1 zeros) (by exact size27) (by rfl) (by first | rfl | simp [Value.oneCell']) ?_; intro wp1s hz ho hb0; have hb := hb0 (w0 := wp1) (Nat.le_refl _) (below_alloc (Below.refl _ _) _); have HX' := Lib.hid (blk_below HX.out hb); have HE' := Lib.hid (RowsE.below HE.out hb); have HB' := Lib.hid (below_step HB.out hb); have KA' := Lib.hid (Kd.C_below KA.out hb); have L1' := Lib.hid (Kd.C_below L1.out hb); have L2' := Lib.hid (Kd.C_below L2.out hb); have C1' := Lib.hid (Kd.C_below C1.out hb); have R1' := Lib.hid (Rows4.below R1.out hb); clear HX; have HX := HX'; clear HX'; clear HE; have HE := HE'; clear HE'; clear HB; have HB := HB'; clear HB'; clear KA; have KA := KA'; clear KA'; clear L1; have L1 := L1'; clear L1'; clear L2; have L2 := L2'; clear L2'; clear C1; have C1 := C1'; clear C1'; clear R1; have R1 := R1'; clear R1'; (try clear x0 x1 x2 x3 x4 x5 x6); obtain ⟨x0, x1, x2, x3, x4, x5, x6⟩ := box7 HX.out; have B1 := Lib.hid hz; (try clear x0 x1 x2 x3 x4 x5 x6); obtain ⟨x0, x1, x2, x3, x4, x5, x6⟩ := box7 HX.out; (try clear y1_0 y1_1 y1_2 y1_3 y1_4 y1_5); obtain ⟨y1_0, y1_1, y1_2, y1_3, y1_4, y1_5⟩ := box6 B1.out; clear hz ho hb0 hb))
    clear KA L1 L2 C1
    go_upto_region 5 with (first | ((with_reducible refine gate_dst (N := 37) rfl ?_); refine lit_row kA 57 1 ?hg (N := 37) ?hd (xs := ([a3A] : List Ag)) (inner := [.int .i64 1, .string ⟨#[121]⟩, .slice none 0 0, .int .i64 0, .string ⟨#[]⟩]) rfl ?hr ?hp (by decide) ?_; (case hd => rfl); (case hg => rfl); (case hr => first | (go_simp; done) | (go_simp; rfl)); (case hp => exact reps_arg _ a3A (Kd.C_nil _ _) (Nat.le_refl _)); intro adL3 wlL3 hc hb; have L3 := Lib.hid hc; have HX' := Lib.hid (blk_below HX.out hb); have HE' := Lib.hid (RowsE.below HE.out hb); have HB' := Lib.hid (below_step HB.out hb); have R1' := Lib.hid (Rows4.below R1.out hb); have B1' := Lib.hid (blk_below B1.out hb); clear HX; have HX := HX'; clear HX'; clear HE; have HE := HE'; clear HE'; clear HB; have HB := HB'; clear HB'; clear R1; have R1 := R1'; clear R1'; clear B1; have B1 := B1'; clear B1'; (try clear x0 x1 x2 x3 x4 x5 x6); obtain ⟨x0, x1, x2, x3, x4, x5, x6⟩ := box7 HX.out; (try clear y1_0 y1_1 y1_2 y1_3 y1_4 y1_5); obtain ⟨y1_0, y1_1, y1_2, y1_3, y1_4, y1_5⟩ := box6 B1.out; clear hc hb) | ((with_reducible refine gate_dst (N := 39) rfl ?_); refine lit_row kC 50 1 ?hg (N := 39) ?hd (xs := (p2A : List Cm)) (inner := [.string ⟨#[]⟩, .slice (some adL3) 1 1]) rfl ?hr ?hp (by decide) ?_; (case hd => rfl); (case hg => rfl); (case hr => first | (go_simp; done) | (go_simp; rfl)); (case hp => exact reps_cmd _ ⟨⟨#[]⟩, [a3A]⟩ L3.out (Nat.le_refl _)); intro adC2 wlC2 hc hb; have C2 := Lib.hid hc; have HX' := Lib.hid (blk_below HX.out hb); have HE' := Lib.hid (RowsE.below HE.out hb); have HB' := Lib.hid (below_step HB.out hb); have R1' := Lib.hid (Rows4.below R1.out hb); have B1' := Lib.hid (blk_below B1.out hb); have L3' := Lib.hid (Kd.C_below L3.out hb); clear HX; have HX := HX'; clear HX'; clear HE; have HE := HE'; clear HE'; clear HB; have HB := HB'; clear HB'; clear R1; have R1 := R1'; clear R1'; clear B1; have B1 := B1'; clear B1'; clear L3; have L3 := L3'; clear L3'; (try clear x0 x1 x2 x3 x4 x5 x6); obtain ⟨x0, x1, x2, x3, x4, x5, x6⟩ := box7 HX.out; (try clear y1_0 y1_1 y1_2 y1_3 y1_4 y1_5); obtain ⟨y1_0, y1_1, y1_2, y1_3, y1_4, y1_5⟩ := box6 B1.out; clear hc hb) | (go_at_call 8; (with_reducible refine (CP2.out _ _ _ HE.out HB.out C2.out (Nat.le_refl _)).mono ?_); rintro en wp2 ⟨E2, e2, F2, f2, rfl, hr, hb⟩; have HX' := Lib.hid (blk_below HX.out hb); have HE' := Lib.hid (RowsE.below HE.out hb); have HB' := Lib.hid (below_step HB.out hb); have R1' := Lib.hid (Rows4.below R1.out hb); have B1' := Lib.hid (blk_below B1.out hb); have L3' := Lib.hid (Kd.C_below L3.out hb); have C2' := Lib.hid (Kd.C_below C2.out hb); clear HX; have HX := HX'; clear HX'; clear HE; have HE := HE'; clear HE'; clear HB; have HB := HB'; clear HB'; clear R1; have R1 := R1'; clear R1'; clear B1; have B1 := B1'; clear B1'; clear L3; have L3 := L3'; clear L3'; clear C2; have C2 := C2'; clear C2'; (try clear x0 x1 x2 x3 x4 x5 x6); obtain ⟨x0, x1, x2, x3, x4, x5, x6⟩ := box7 HX.out; (try clear y1_0 y1_1 y1_2 y1_3 y1_4 y1_5); obtain ⟨y1_0, y1_1, y1_2, y1_3, y1_4, y1_5⟩ := box6 B1.out; have R2 := Lib.hid hr; clear hr; clear hb) | ((with_reducible refine gate_store (t := 27) (p := 5) rfl ?_); refine row_event (by rfl) (by rfl) (by rfl) (by rfl) (by rfl) (blk_new wp2 zeros) (by exact size27) (by rfl) (by first | rfl | simp [Value.oneCell']) ?_; intro wp2s hz ho hb0; have hb := hb0 (w0 := wp2) (Nat.le_refl _) (below_alloc (Below.refl _ _) _); have HX' := Lib.hid (blk_below HX.out hb); have HE' := Lib.hid (RowsE.below HE.out hb); have HB' := Lib.hid (below_step HB.out hb); have R1' := Lib.hid (Rows4.below R1.out hb); have B1' := Lib.hid (blk_below B1.out hb); have L3' := Lib.hid (Kd.C_below L3.out hb); have C2' := Lib.hid (Kd.C_below C2.out hb); have R2' := Lib.hid (Rows4.below R2.out hb); clear HX; have HX := HX'; clear HX'; clear HE; have HE := HE'; clear HE'; clear HB; have HB := HB'; clear HB'; clear R1; have R1 := R1'; clear R1'; clear B1; have B1 := B1'; clear B1'; clear L3; have L3 := L3'; clear L3'; clear C2; have C2 := C2'; clear C2'; clear R2; have R2 := R2'; clear R2'; (try clear x0 x1 x2 x3 x4 x5 x6); obtain ⟨x0, x1, x2, x3, x4, x5, x6⟩ := box7 HX.out; (try clear y1_0 y1_1 y1_2 y1_3 y1_4 y1_5); obtain ⟨y1_0, y1_1, y1_2, y1_3, y1_4, y1_5⟩ := box6 B1.out; have B2 := Lib.hid hz; clear hz ho hb0 hb))
    clear L3 C2 R2 B2
    go_upto_region 6 with (first | (go_at_call 8; (with_reducible refine (CP3.out _ _ _ HE.out HB.out (Kd.C_nil _ _) (Nat.le_refl _)).mono ?_); rintro en wp3 ⟨E3, e3, F3, f3, rfl, hr, hb⟩; have HX' := Lib.hid (blk_below HX.out hb); have HE' := Lib.hid (RowsE.below HE.out hb); have HB' := Lib.hid (below_step HB.out hb); have R1' := Lib.hid (Rows4.below R1.out hb); have B1' := Lib.hid (blk_below B1.out hb); clear HX; have HX := HX'; clear HX'; clear HE; have HE := HE'; clear HE'; clear HB; have HB := HB'; clear HB'; clear R1; have R1 := R1'; clear R1'; clear B1; have B1 := B1'; clear B1'; (try clear x0 x1 x2 x3 x4 x5 x6); obtain ⟨x0, x1, x2, x3, x4, x5, x6⟩ := box7 HX.out; (try clear y1_0 y1_1 y1_2 y1_3 y1_4 y1_5); obtain ⟨y1_0, y1_1, y1_2, y1_3, y1_4, y1_5⟩ := box6 B1.out; have R3 := Lib.hid hr; clear hr; clear hb) | ((with_reducible refine gate_store (t := 27) (p := 7) rfl ?_); refine row_event (by rfl) (by rfl) (by rfl) (by rfl) (by rfl) (blk_new wp3 zeros) (by exact size27) (by rfl) (by first | rfl | simp [Value.oneCell']) ?_; intro wp3s hz ho hb0; have hb := hb0 (w0 := wp3) (Nat.le_refl _) (below_alloc (Below.refl _ _) _); have HX' := Lib.hid (blk_below HX.out hb); have HE' := Lib.hid (RowsE.below HE.out hb); have HB' := Lib.hid (below_step HB.out hb); have R1' := Lib.hid (Rows4.below R1.out hb); have B1' := Lib.hid (blk_below B1.out hb); have R3' := Lib.hid (Rows4.below R3.out hb); clear HX; have HX := HX'; clear HX'; clear HE; have HE := HE'; clear HE'; clear HB; have HB := HB'; clear HB'; clear R1; have R1 := R1'; clear R1'; clear B1; have B1 := B1'; clear B1'; clear R3; have R3 := R3'; clear R3'; (try clear x0 x1 x2 x3 x4 x5 x6); obtain ⟨x0, x1, x2, x3, x4, x5, x6⟩ := box7 HX.out; (try clear y1_0 y1_1 y1_2 y1_3 y1_4 y1_5); obtain ⟨y1_0, y1_1, y1_2, y1_3, y1_4, y1_5⟩ := box6 B1.out; have B3 := Lib.hid hz; clear hz ho hb0 hb))
    clear R3 B3
    go_upto_region 7 with (first | ((with_reducible refine gate_dst (N := 50) rfl ?_); refine lit_row Kd.string 9 1 ?hg (N := 50) ?hd (xs := ([⟨#[98]⟩] : List ByteArray)) (inner := [.string ⟨#[98]⟩]) rfl ?hr ?hp (by decide) ?_; (case hd => rfl); (case hg => rfl); (case hr => first | (go_simp; done) | (go_simp; rfl)); (case hp => exact reps_str _ _); intro adKB wlKB hc hb; have KB := Lib.hid hc; have HX' := Lib.hid (blk_below HX.out hb); have HE' := Lib.hid (RowsE.below HE.out hb); have HB' := Lib.hid (below_step HB.out hb); have R1' := Lib.hid (Rows4.below R1.out hb); have B1' := Lib.hid (blk_below B1.out hb); clear HX; have HX := HX'; clear HX'; clear HE; have HE := HE'; clear HE'; clear HB; have HB := HB'; clear HB'; clear R1; have R1 := R1'; clear R1'; clear B1; have B1 := B1'; clear B1'; (try clear x0 x1 x2 x3 x4 x5 x6); obtain ⟨x0, x1, x2, x3, x4, x5, x6⟩ := box7 HX.out; (try clear y1_0 y1_1 y1_2 y1_3 y1_4 y1_5); obtain ⟨y1_0, y1_1, y1_2, y1_3, y1_4, y1_5⟩ := box6 B1.out; clear hc hb) | ((with_reducible refine gate_dst (N := 52) rfl ?_); refine lit_row kA 57 1 ?hg (N := 52) ?hd (xs := ([a4A] : List Ag)) (inner := [.int .i64 0, .string ⟨#[]⟩, .slice (some adKB) 1 1, .int .i64 0, .string ⟨#[]⟩]) rfl ?hr ?hp (by decide) ?_; (case hd => rfl); (case hg => rfl); (case hr => first | (go_simp; done) | (go_simp; rfl)); (case hp => exact reps_arg _ a4A KB.out (Nat.le_refl _)); intro adL4 wlL4 hc hb; have L4 := Lib.hid hc; have HX' := Lib.hid (blk_below HX.out hb); have HE' := Lib.hid (RowsE.below HE.out hb); have HB' := Lib.hid (below_step HB.out hb); have R1' := Lib.hid (Rows4.below R1.out hb); have B1' := Lib.hid (blk_below B1.out hb); have KB' := Lib.hid (Kd.C_below KB.out hb); clear HX; have HX := HX'; clear HX'; clear HE; have HE := HE'; clear HE'; clear HB; have HB := HB'; clear HB'; clear R1; have R1 := R1'; clear R1'; clear B1; have B1 := B1'; clear B1'; clear KB; have KB := KB'; clear KB'; (try clear x0 x1 x2 x3 x4 x5 x6); obtain ⟨x0, x1, x2, x3, x4, x5, x6⟩ := box7 HX.out; (try clear y1_0 y1_1 y1_2 y1_3 y1_4 y1_5); obtain ⟨y1_0, y1_1, y1_2, y1_3, y1_4, y1_5⟩ := box6 B1.out; clear hc hb) | ((with_reducible refine gate_dst (N := 54) rfl ?_); refine lit_row kC 50 1 ?hg (N := 54) ?hd (xs := (p4A : List Cm)) (inner := [.string ⟨#[]⟩, .slice (some adL4) 1 1]) rfl ?hr ?hp (by decide) ?_; (case hd => rfl); (case hg => rfl); (case hr => first | (go_simp; done) | (go_simp; rfl)); (case hp => exact reps_cmd _ ⟨⟨#[]⟩, [a4A]⟩ L4.out (Nat.le_refl _)); intro adC4 wlC4 hc hb; have C4 := Lib.hid hc; have HX' := Lib.hid (blk_below HX.out hb); have HE' := Lib.hid (RowsE.below HE.out hb); have HB' := Lib.hid (below_step HB.out hb); have R1' := Lib.hid (Rows4.below R1.out hb); have B1' := Lib.hid (blk_below B1.out hb); have KB' := Lib.hid (Kd.C_below KB.out hb); have L4' := Lib.hid (Kd.C_below L4.out hb); clear HX; have HX := HX'; clear HX'; clear HE; have HE := HE'; clear HE'; clear HB; have HB := HB'; clear HB'; clear R1; have R1 := R1'; clear R1'; clear B1; have B1 := B1'; clear B1'; clear KB; have KB := KB'; clear KB'; clear L4; have L4 := L4'; clear L4'; (try clear x0 x1 x2 x3 x4 x5 x6); obtain ⟨x0, x1, x2, x3, x4, x5, x6⟩ := box7 HX.out; (try clear y1_0 y1_1 y1_2 y1_3 y1_4 y1_5); obtain ⟨y1_0, y1_1, y1_2, y1_3, y1_4, y1_5⟩ := box6 B1.out; clear hc hb) | (go_at_call 8; (with_reducible refine (CP4.out _ _ _ HE.out HB.out C4.out (Nat.le_refl _)).mono ?_); rintro en wp4 ⟨E4, e4, F4, f4, rfl, hr, hb⟩; have HX' := Lib.hid (blk_below HX.out hb); have HE' := Lib.hid (RowsE.below HE.out hb); have HB' := Lib.hid (below_step HB.out hb); have R1' := Lib.hid (Rows4.below R1.out hb); have B1' := Lib.hid (blk_below B1.out hb); have KB' := Lib.hid (Kd.C_below KB.out hb); have L4' := Lib.hid (Kd.C_below L4.out hb); have C4' := Lib.hid (Kd.C_below C4.out hb); clear HX; have HX := HX'; clear HX'; clear HE; have HE := HE'; clear HE'; clear HB; have HB := HB'; clear HB'; clear R1; have R1 := R1'; clear R1'; clear B1; have B1 := B1'; clear B1'; clear KB; have KB := KB'; clear KB'; clear L4; have L4 := L4'; clear L4'; clear C4; have C4 := C4'; clear C4'; (try clear x0 x1 x2 x3 x4 x5 x6); obtain ⟨x0, x1, x2, x3, x4, x5, x6⟩ := box7 HX.out; (try clear y1_0 y1_1 y1_2 y1_3 y1_4 y1_5); obtain ⟨y1_0, y1_1, y1_2, y1_3, y1_4, y1_5⟩ := box6 B1.out; have R4 := Lib.hid hr; clear hr; clear hb) | ((with_reducible refine gate_store (t := 27) (p := 9) rfl ?_); refine row_event (by rfl) (by rfl) (by rfl) (by rfl) (by rfl) (blk_new wp4 zeros) (by exact size27) (by rfl) (by first | rfl | simp [Value.oneCell']) ?_; intro wp4s hz ho hb0; have hb := hb0 (w0 := wp4) (Nat.le_refl _) (below_alloc (Below.refl _ _) _); have HX' := Lib.hid (blk_below HX.out hb); have HE' := Lib.hid (RowsE.below HE.out hb); have HB' := Lib.hid (below_step HB.out hb); have R1' := Lib.hid (Rows4.below R1.out hb); have B1' := Lib.hid (blk_below B1.out hb); have KB' := Lib.hid (Kd.C_below KB.out hb); have L4' := Lib.hid (Kd.C_below L4.out hb); have C4' := Lib.hid (Kd.C_below C4.out hb); have R4' := Lib.hid (Rows4.below R4.out hb); clear HX; have HX := HX'; clear HX'; clear HE; have HE := HE'; clear HE'; clear HB; have HB := HB'; clear HB'; clear R1; have R1 := R1'; clear R1'; clear B1; have B1 := B1'; clear B1'; clear KB; have KB := KB'; clear KB'; clear L4; have L4 := L4'; clear L4'; clear C4; have C4 := C4'; clear C4'; clear R4; have R4 := R4'; clear R4'; (try clear x0 x1 x2 x3 x4 x5 x6); obtain ⟨x0, x1, x2, x3, x4, x5, x6⟩ := box7 HX.out; (try clear y1_0 y1_1 y1_2 y1_3 y1_4 y1_5); obtain ⟨y1_0, y1_1, y1_2, y1_3, y1_4, y1_5⟩ := box6 B1.out; have B4 := Lib.hid hz; clear hz ho hb0 hb))
    clear KB L4 C4 R4 B4 HX HE R1 x0 x1 x2 x3 x4 x5 x6
    go_wp2_with (first | (go_at_call 10; (with_reducible refine ((by exact sv_leafs (⟨1, 1, 0, ⟨#[]⟩, [], []⟩ : V) ⟨1, 1, 0, ⟨#[]⟩, [], []⟩ rfl rfl rfl rfl (by kernel_rfl) E1 e1 F1 f1 _ : Calls Tryz.prog 10 #[.agg #[.int .i64 1, .int .i64 1, .int .u64 0, .string ⟨#[]⟩, .slice E1 0 e1, .slice F1 0 f1], .agg #[.int .i64 1, .int .i64 1, .int .u64 0, .string ⟨#[]⟩, .slice none 0 0, .slice none 0 0]] _ _)).mono ?_); rintro en ws1 ⟨rfl, hb⟩; have HB' := Lib.hid (below_step HB.out hb); clear HB; have HB := HB'; clear HB'; clear hb) | (go_at_call 11; (with_reducible refine (numB 0 _).mono ?_); rintro en wn0 ⟨rfl, hb⟩; have HB' := Lib.hid (below_step HB.out hb); clear HB; have HB := HB'; clear HB'; clear hb) | (go_at_call 11; (with_reducible refine (numB 1901 _).mono ?_); rintro en wn1901 ⟨rfl, hb⟩; have HB' := Lib.hid (below_step HB.out hb); clear HB; have HB := HB'; clear HB'; clear hb) | (go_at_call 11; (with_reducible refine (numB 1900 _).mono ?_); rintro en wn1900 ⟨rfl, hb⟩; have HB' := Lib.hid (below_step HB.out hb); clear HB; have HB := HB'; clear HB'; clear hb) | (go_at_call 11; (with_reducible refine (numB 401 _).mono ?_); rintro en wn401 ⟨rfl, hb⟩; have HB' := Lib.hid (below_step HB.out hb); clear HB; have HB := HB'; clear HB'; clear hb))
    go_ret
    exact ⟨by simp, HB.out⟩
end Go.Proofs.YtdghnfmhcnlppaaGreatDoor.Eval
