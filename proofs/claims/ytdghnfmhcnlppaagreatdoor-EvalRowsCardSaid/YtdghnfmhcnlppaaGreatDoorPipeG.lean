/- Package pipe, walked: whether an argument may be. -/
import Derived.Test.YtdghnfmhcnlppaaGreatDoorPipeF
import Derived.Laws.BitsLemmas
namespace Go.Proofs.YtdghnfmhcnlppaaGreatDoor.Pipe
open Go.RowKit Go.Proofs.YtdghnfmhcnlppaaGreatDoor.Q Go.Proofs.YtdghnfmhcnlppaaGreatDoorW.PrintWords Go.Proofs.YtdghnfmhcnlppaaGreatDoorW.PrintLast Go.Proofs.YtdghnfmhcnlppaaGreatDoorW.PrintMore
set_option linter.unusedSimpArgs false
set_option linter.unusedVariables false

/-- An argument's five cells lie at an address. -/
structure AtA (w : World) (p : Addr) (x : Ag) (A2 : Option Addr) (c2 : Nat) : Prop where
  g0 : w.cell? p = some (.int .i64 x.f0)
  g1 : w.cell? ⟨p.block, p.off + 1, none⟩ = some (.string x.f1)
  g2 : w.cell? ⟨p.block, p.off + 2, none⟩ = some (.slice A2 x.f2.length c2)
  g3 : w.cell? ⟨p.block, p.off + 3, none⟩ = some (.int .i64 x.f3)
  g4 : w.cell? ⟨p.block, p.off + 4, none⟩ = some (.string x.f4)
theorem AtA.below {w w1 : World} {p : Addr} {x : Ag} {A2 : Option Addr} {c2 : Nat} (h : AtA w p x A2 c2) (hb : Below w.heap.size w w1) : AtA w1 p x A2 c2 :=
  ⟨pw_cell_below hb h.g0, pw_cell_below hb h.g1, pw_cell_below hb h.g2, pw_cell_below hb h.g3, pw_cell_below hb h.g4⟩
theorem i64_and1 (n : Int) : bits .and .i64 n 1 = n % 2 := by
  have h1 : (BitVec.ofInt 64 1).toNat = 2 ^ 1 - 1 := by decide
  have key : (BitVec.ofInt 64 n &&& BitVec.ofInt 64 1).toNat = (n % ((2 ^ 64 : Nat) : Int)).toNat % 2 ^ 1 := by
    rw [BitVec.toNat_and, BitVec.toNat_ofInt, h1, Nat.and_two_pow_sub_one_eq_mod]
  show IntKind.i64.wrap ((BitVec.ofInt 64 n &&& BitVec.ofInt 64 1).toNat : Nat) = n % 2
  rw [key, IntKind.wrap_i64]
  omega
theorem low_same (n : Int) : (n == bits .and .i64 n 1) = (n == 0 || n == 1) := by
  rw [i64_and1]
  by_cases h0 : n = 0
  · subst h0; rfl
  by_cases h1 : n = 1
  · subst h1; rfl
  rw [beq_eq_false_iff_ne.2 h0, beq_eq_false_iff_ne.2 h1]
  exact beq_eq_false_iff_ne.2 (by omega)
set_option maxHeartbeats 16000000 in
set_option maxRecDepth 100000 in
theorem argMay_calls (p : Addr) (x : Ag) (A2 : Option Addr) (c2 : Nat) (w : World) (h : AtA w p x A2 c2) (hr : Kd.C Kd.string w A2 x.f2.length x.f2) :
    Calls Tryz.prog 40 #[.pointer (some p)] w fun e w' => e = .returned (.bool (amB x)) ∧ Below w.heap.size w w' := by
  have CN := Lib.hid (name_calls x.f1)
  have CP := Lib.hid (fun W (hb : Below w.heap.size w W) => path_calls x.f2 A2 c2 W (Kd.C_below hr hb))
  have CI := Lib.hid (int_calls x.f3)
  have BN := Lib.hid (blk_new w zerosA)
  have B0 := Lib.hid (below_alloc (Below.refl _ w) zerosA)
  have H0 := Lib.hid h
  clear hr h
  have k0 := H0.out.g0
  unfold amB
  refine kinds_of x.f0 _ fun b0 b1 b2 b3 b4 b5 e0 e1 e2 e3 e4 e5 hm => ?_
  have n1 : (x.f0 != 1) = !b1 := by rw [← e1]; rfl
  rw [n1, e0, e1, e2, e3, e4, e5]
  have l2 : x.f2.isEmpty = decide (x.f2.length = 0) := by cases x.f2 <;> rfl
  have l4 : x.f4.toList.length = x.f4.size := toList_length _
  have l5 : (x.f3 == 0 || true && x.f3 == 1) = (x.f3 == 0 || x.f3 == 1) := by simp
  rw [l2, l4]
  clear l2 l4
  obtain ⟨tb, htb⟩ : ∃ z, decide ((x.f4.size : Int) ≤ 65536) = z := ⟨_, rfl⟩
  have htb' : decide (x.f4.size ≤ 65536) = tb := by rw [← htb]; exact decide_eq_decide.2 (by omega)
  rw [htb']
  (simp only [List.mem_cons, List.not_mem_nil, or_false, Prod.mk.injEq] at hm; rcases hm with ⟨rfl, rfl, rfl, rfl, rfl, rfl⟩ | ⟨rfl, rfl, rfl, rfl, rfl, rfl⟩ | ⟨rfl, rfl, rfl, rfl, rfl, rfl⟩ | ⟨rfl, rfl, rfl, rfl, rfl, rfl⟩ | ⟨rfl, rfl, rfl, rfl, rfl, rfl⟩ | ⟨rfl, rfl, rfl, rfl, rfl, rfl⟩ | ⟨rfl, rfl, rfl, rfl, rfl, rfl⟩)
  · -- 0
    go_enter Tryz.func40, Tryz.ntmps40
    go_upto_region 2 with (first | ((with_reducible refine gate_store (t := 57) (p := 3) rfl ?_); refine row_event (by rfl) (by rfl) (by rfl) (by rfl) (by rfl) BN.out (by exact sizeA) (by rfl) (by first | rfl | simp [Value.oneCell']) ?_; intro w7 hz7 ho7 hb7; have B7 := Lib.hid (hb7 (Nat.le_refl _) B0.out); have Z7 := Lib.hid hz7; clear hb7 ho7 hz7))
    clear k0
    obtain ⟨g0, g1, g2, g3, g4⟩ := H0.out.below B7.out
    go_wp2
    have Z8 := Lib.hid (show w7.heap[w.heap.size]? = some (.cells #[.int .i64 x.f0, .string ⟨#[]⟩, .slice none 0 0, .int .i64 0, .string ⟨#[]⟩] 57 (0, 0)) from Z7.out)
    have B8 := Lib.hid (show Below w.heap.size w w7 from B7.out)
    (try clear s0 s1 s2 s3 s4)
    clear g0 g1 g2 g3 g4 Z7
    obtain ⟨g0, g1, g2, g3, g4⟩ := H0.out.below B8.out
    have y1 := (blk_cell Z8.out 1).trans rfl; have y3 := (blk_cell Z8.out 3).trans rfl; have y4 := (blk_cell Z8.out 4).trans rfl
    have CP8 := Lib.hid (fun m => CP.out (w7.drewN m) (pw_below_drewN B8.out m))
    generalize hn2 : x.f2.length = n2 at *
    cases hs1 : (x.f1.toList == ([] : List UInt8)) with
    | false =>
      go_quiet (first | (go_at_call 70; (with_reducible refine (CP8.out _).mono ?_); rintro e w' ⟨rfl, ⟨nd, rfl⟩⟩; (try first | exact ⟨rfl, _, World.drewN_drewN _ _ _⟩ | exact ⟨rfl, _, Eq.trans (World.drewN_drewN _ _ _) (congrArg (World.drewN _) (Nat.add_assoc _ _ _))⟩)) | (go_at_call 71; (with_reducible refine (CI.out _).mono ?_); rintro e w' ⟨rfl, ⟨nd2, rfl⟩⟩; (try first | exact ⟨rfl, _, World.drewN_drewN _ _ _⟩ | exact ⟨rfl, _, Eq.trans (World.drewN_drewN _ _ _) (congrArg (World.drewN _) (Nat.add_assoc _ _ _))⟩)))
      go_wp2
      go_ret
      exact ⟨by first | rfl | (simp [*]; done), by repeat (first | exact B8.out | apply pw_below_drewN)⟩
    | true =>
      cases hs3 : (x.f3 == 0) with
      | false =>
        go_quiet (first | (go_at_call 70; (with_reducible refine (CP8.out _).mono ?_); rintro e w' ⟨rfl, ⟨nd, rfl⟩⟩; (try first | exact ⟨rfl, _, World.drewN_drewN _ _ _⟩ | exact ⟨rfl, _, Eq.trans (World.drewN_drewN _ _ _) (congrArg (World.drewN _) (Nat.add_assoc _ _ _))⟩)) | (go_at_call 71; (with_reducible refine (CI.out _).mono ?_); rintro e w' ⟨rfl, ⟨nd2, rfl⟩⟩; (try first | exact ⟨rfl, _, World.drewN_drewN _ _ _⟩ | exact ⟨rfl, _, Eq.trans (World.drewN_drewN _ _ _) (congrArg (World.drewN _) (Nat.add_assoc _ _ _))⟩)))
        go_wp2
        go_ret
        exact ⟨by first | rfl | (simp [*]; done), by repeat (first | exact B8.out | apply pw_below_drewN)⟩
      | true =>
        cases hs4 : (x.f4.toList == ([] : List UInt8)) with
        | false =>
          go_quiet (first | (go_at_call 70; (with_reducible refine (CP8.out _).mono ?_); rintro e w' ⟨rfl, ⟨nd, rfl⟩⟩; (try first | exact ⟨rfl, _, World.drewN_drewN _ _ _⟩ | exact ⟨rfl, _, Eq.trans (World.drewN_drewN _ _ _) (congrArg (World.drewN _) (Nat.add_assoc _ _ _))⟩)) | (go_at_call 71; (with_reducible refine (CI.out _).mono ?_); rintro e w' ⟨rfl, ⟨nd2, rfl⟩⟩; (try first | exact ⟨rfl, _, World.drewN_drewN _ _ _⟩ | exact ⟨rfl, _, Eq.trans (World.drewN_drewN _ _ _) (congrArg (World.drewN _) (Nat.add_assoc _ _ _))⟩)))
          go_wp2
          go_ret
          exact ⟨by first | rfl | (simp [*]; done), by repeat (first | exact B8.out | apply pw_below_drewN)⟩
        | true =>
          cases hpb : pathB x.f2 with
          | false =>
            rw [hpb] at CP8
            go_quiet (first | (go_at_call 70; (with_reducible refine (CP8.out _).mono ?_); rintro e w' ⟨rfl, ⟨nd, rfl⟩⟩; (try first | exact ⟨rfl, _, World.drewN_drewN _ _ _⟩ | exact ⟨rfl, _, Eq.trans (World.drewN_drewN _ _ _) (congrArg (World.drewN _) (Nat.add_assoc _ _ _))⟩)) | (go_at_call 71; (with_reducible refine (CI.out _).mono ?_); rintro e w' ⟨rfl, ⟨nd2, rfl⟩⟩; (try first | exact ⟨rfl, _, World.drewN_drewN _ _ _⟩ | exact ⟨rfl, _, Eq.trans (World.drewN_drewN _ _ _) (congrArg (World.drewN _) (Nat.add_assoc _ _ _))⟩)))
            go_wp2
            go_ret
            exact ⟨by first | rfl | (simp [*]; done), by repeat (first | exact B8.out | apply pw_below_drewN)⟩
          | true =>
            rw [hpb] at CP8
            cases hib : intB x.f3 with
            | false =>
              rw [hib] at CI
              go_quiet (first | (go_at_call 70; (with_reducible refine (CP8.out _).mono ?_); rintro e w' ⟨rfl, ⟨nd, rfl⟩⟩; (try first | exact ⟨rfl, _, World.drewN_drewN _ _ _⟩ | exact ⟨rfl, _, Eq.trans (World.drewN_drewN _ _ _) (congrArg (World.drewN _) (Nat.add_assoc _ _ _))⟩)) | (go_at_call 71; (with_reducible refine (CI.out _).mono ?_); rintro e w' ⟨rfl, ⟨nd2, rfl⟩⟩; (try first | exact ⟨rfl, _, World.drewN_drewN _ _ _⟩ | exact ⟨rfl, _, Eq.trans (World.drewN_drewN _ _ _) (congrArg (World.drewN _) (Nat.add_assoc _ _ _))⟩)))
              go_wp2
              go_ret
              exact ⟨by first | rfl | (simp [*]; done), by repeat (first | exact B8.out | apply pw_below_drewN)⟩
            | true =>
              rw [hib] at CI
              go_quiet (first | (go_at_call 70; (with_reducible refine (CP8.out _).mono ?_); rintro e w' ⟨rfl, ⟨nd, rfl⟩⟩; (try first | exact ⟨rfl, _, World.drewN_drewN _ _ _⟩ | exact ⟨rfl, _, Eq.trans (World.drewN_drewN _ _ _) (congrArg (World.drewN _) (Nat.add_assoc _ _ _))⟩)) | (go_at_call 71; (with_reducible refine (CI.out _).mono ?_); rintro e w' ⟨rfl, ⟨nd2, rfl⟩⟩; (try first | exact ⟨rfl, _, World.drewN_drewN _ _ _⟩ | exact ⟨rfl, _, Eq.trans (World.drewN_drewN _ _ _) (congrArg (World.drewN _) (Nat.add_assoc _ _ _))⟩)))
              go_wp2
              go_ret
              exact ⟨by first | rfl | (simp [*]; done), by repeat (first | exact B8.out | apply pw_below_drewN)⟩
  · cases hnb : nameB x.f1 with
    | false =>
      rw [hnb] at CN
      go_enter Tryz.func40, Tryz.ntmps40
      go_upto_region 2 with (first | ((with_reducible refine gate_store (t := 57) (p := 3) rfl ?_); refine row_event (by rfl) (by rfl) (by rfl) (by rfl) (by rfl) BN.out (by exact sizeA) (by rfl) (by first | rfl | simp [Value.oneCell']) ?_; intro w7 hz7 ho7 hb7; have B7 := Lib.hid (hb7 (Nat.le_refl _) B0.out); have Z7 := Lib.hid hz7; clear hb7 ho7 hz7))
      clear k0
      obtain ⟨g0, g1, g2, g3, g4⟩ := H0.out.below B7.out
      have z1 := (blk_cell Z7.out 1).trans rfl; have f1 := blk_frozen Z7.out 1
      have BS := Lib.hid (show Below w.heap.size w (w7.setCell ⟨w.heap.size, 1, none⟩ (.string x.f1)) from below_set B7.out (Nat.le_refl _))
      obtain ⟨s0, s1, s2, s3, s4⟩ := H0.out.below BS.out
      go_wp2_with (first | (go_at_call 41; refine (CN.out _).mono ?_; rintro e w' ⟨rfl, ⟨nd, rfl⟩⟩))
      go_ret
      exact ⟨by first | rfl | (simp [*]; done), pw_below_drewN BS.out _⟩
    | true =>
      rw [hnb] at CN
      go_enter Tryz.func40, Tryz.ntmps40
      go_upto_region 2 with (first | ((with_reducible refine gate_store (t := 57) (p := 3) rfl ?_); refine row_event (by rfl) (by rfl) (by rfl) (by rfl) (by rfl) BN.out (by exact sizeA) (by rfl) (by first | rfl | simp [Value.oneCell']) ?_; intro w7 hz7 ho7 hb7; have B7 := Lib.hid (hb7 (Nat.le_refl _) B0.out); have Z7 := Lib.hid hz7; clear hb7 ho7 hz7))
      clear k0
      obtain ⟨g0, g1, g2, g3, g4⟩ := H0.out.below B7.out
      have z1 := (blk_cell Z7.out 1).trans rfl; have f1 := blk_frozen Z7.out 1
      have BS := Lib.hid (show Below w.heap.size w (w7.setCell ⟨w.heap.size, 1, none⟩ (.string x.f1)) from below_set B7.out (Nat.le_refl _))
      obtain ⟨s0, s1, s2, s3, s4⟩ := H0.out.below BS.out
      go_wp2_with (first | (go_at_call 41; refine (CN.out _).mono ?_; rintro e w' ⟨rfl, ⟨nd, rfl⟩⟩))
      have Z8 := Lib.hid (show ((w7.setCell ⟨w.heap.size, 1, none⟩ (.string x.f1)).drewN nd).heap[w.heap.size]? = some (.cells #[.int .i64 x.f0, .string x.f1, .slice none 0 0, .int .i64 0, .string ⟨#[]⟩] 57 (0, 0)) from blk_drewN (blk_put Z7.out 1 _ rfl) nd)
      have B8 := Lib.hid (show Below w.heap.size w ((w7.setCell ⟨w.heap.size, 1, none⟩ (.string x.f1)).drewN nd) from pw_below_drewN BS.out nd)
      (try clear s0 s1 s2 s3 s4)
      clear g0 g1 g2 g3 g4 Z7
      generalize ((w7.setCell ⟨w.heap.size, 1, none⟩ (.string x.f1)).drewN nd) = w8 at *
      obtain ⟨g0, g1, g2, g3, g4⟩ := H0.out.below B8.out
      have y1 := (blk_cell Z8.out 1).trans rfl; have y3 := (blk_cell Z8.out 3).trans rfl; have y4 := (blk_cell Z8.out 4).trans rfl
      have CP8 := Lib.hid (fun m => CP.out (w8.drewN m) (pw_below_drewN B8.out m))
      generalize hn2 : x.f2.length = n2 at *
      cases hs3 : (x.f3 == 0) with
      | false =>
        go_quiet (first | (go_at_call 70; (with_reducible refine (CP8.out _).mono ?_); rintro e w' ⟨rfl, ⟨nd, rfl⟩⟩; (try first | exact ⟨rfl, _, World.drewN_drewN _ _ _⟩ | exact ⟨rfl, _, Eq.trans (World.drewN_drewN _ _ _) (congrArg (World.drewN _) (Nat.add_assoc _ _ _))⟩)) | (go_at_call 71; (with_reducible refine (CI.out _).mono ?_); rintro e w' ⟨rfl, ⟨nd2, rfl⟩⟩; (try first | exact ⟨rfl, _, World.drewN_drewN _ _ _⟩ | exact ⟨rfl, _, Eq.trans (World.drewN_drewN _ _ _) (congrArg (World.drewN _) (Nat.add_assoc _ _ _))⟩)))
        go_wp2
        go_ret
        exact ⟨by first | rfl | (simp [*]; done), by repeat (first | exact B8.out | apply pw_below_drewN)⟩
      | true =>
        cases hs4 : (x.f4.toList == ([] : List UInt8)) with
        | false =>
          go_quiet (first | (go_at_call 70; (with_reducible refine (CP8.out _).mono ?_); rintro e w' ⟨rfl, ⟨nd, rfl⟩⟩; (try first | exact ⟨rfl, _, World.drewN_drewN _ _ _⟩ | exact ⟨rfl, _, Eq.trans (World.drewN_drewN _ _ _) (congrArg (World.drewN _) (Nat.add_assoc _ _ _))⟩)) | (go_at_call 71; (with_reducible refine (CI.out _).mono ?_); rintro e w' ⟨rfl, ⟨nd2, rfl⟩⟩; (try first | exact ⟨rfl, _, World.drewN_drewN _ _ _⟩ | exact ⟨rfl, _, Eq.trans (World.drewN_drewN _ _ _) (congrArg (World.drewN _) (Nat.add_assoc _ _ _))⟩)))
          go_wp2
          go_ret
          exact ⟨by first | rfl | (simp [*]; done), by repeat (first | exact B8.out | apply pw_below_drewN)⟩
        | true =>
          cases hpb : pathB x.f2 with
          | false =>
            rw [hpb] at CP8
            go_quiet (first | (go_at_call 70; (with_reducible refine (CP8.out _).mono ?_); rintro e w' ⟨rfl, ⟨nd, rfl⟩⟩; (try first | exact ⟨rfl, _, World.drewN_drewN _ _ _⟩ | exact ⟨rfl, _, Eq.trans (World.drewN_drewN _ _ _) (congrArg (World.drewN _) (Nat.add_assoc _ _ _))⟩)) | (go_at_call 71; (with_reducible refine (CI.out _).mono ?_); rintro e w' ⟨rfl, ⟨nd2, rfl⟩⟩; (try first | exact ⟨rfl, _, World.drewN_drewN _ _ _⟩ | exact ⟨rfl, _, Eq.trans (World.drewN_drewN _ _ _) (congrArg (World.drewN _) (Nat.add_assoc _ _ _))⟩)))
            go_wp2
            go_ret
            exact ⟨by first | rfl | (simp [*]; done), by repeat (first | exact B8.out | apply pw_below_drewN)⟩
          | true =>
            rw [hpb] at CP8
            cases hib : intB x.f3 with
            | false =>
              rw [hib] at CI
              go_quiet (first | (go_at_call 70; (with_reducible refine (CP8.out _).mono ?_); rintro e w' ⟨rfl, ⟨nd, rfl⟩⟩; (try first | exact ⟨rfl, _, World.drewN_drewN _ _ _⟩ | exact ⟨rfl, _, Eq.trans (World.drewN_drewN _ _ _) (congrArg (World.drewN _) (Nat.add_assoc _ _ _))⟩)) | (go_at_call 71; (with_reducible refine (CI.out _).mono ?_); rintro e w' ⟨rfl, ⟨nd2, rfl⟩⟩; (try first | exact ⟨rfl, _, World.drewN_drewN _ _ _⟩ | exact ⟨rfl, _, Eq.trans (World.drewN_drewN _ _ _) (congrArg (World.drewN _) (Nat.add_assoc _ _ _))⟩)))
              go_wp2
              go_ret
              exact ⟨by first | rfl | (simp [*]; done), by repeat (first | exact B8.out | apply pw_below_drewN)⟩
            | true =>
              rw [hib] at CI
              go_quiet (first | (go_at_call 70; (with_reducible refine (CP8.out _).mono ?_); rintro e w' ⟨rfl, ⟨nd, rfl⟩⟩; (try first | exact ⟨rfl, _, World.drewN_drewN _ _ _⟩ | exact ⟨rfl, _, Eq.trans (World.drewN_drewN _ _ _) (congrArg (World.drewN _) (Nat.add_assoc _ _ _))⟩)) | (go_at_call 71; (with_reducible refine (CI.out _).mono ?_); rintro e w' ⟨rfl, ⟨nd2, rfl⟩⟩; (try first | exact ⟨rfl, _, World.drewN_drewN _ _ _⟩ | exact ⟨rfl, _, Eq.trans (World.drewN_drewN _ _ _) (congrArg (World.drewN _) (Nat.add_assoc _ _ _))⟩)))
              go_wp2
              go_ret
              exact ⟨by first | rfl | (simp [*]; done), by repeat (first | exact B8.out | apply pw_below_drewN)⟩
  · -- 2
    go_enter Tryz.func40, Tryz.ntmps40
    go_upto_region 2 with (first | ((with_reducible refine gate_store (t := 57) (p := 3) rfl ?_); refine row_event (by rfl) (by rfl) (by rfl) (by rfl) (by rfl) BN.out (by exact sizeA) (by rfl) (by first | rfl | simp [Value.oneCell']) ?_; intro w7 hz7 ho7 hb7; have B7 := Lib.hid (hb7 (Nat.le_refl _) B0.out); have Z7 := Lib.hid hz7; clear hb7 ho7 hz7))
    clear k0
    obtain ⟨g0, g1, g2, g3, g4⟩ := H0.out.below B7.out
    have z3 := (blk_cell Z7.out 3).trans rfl; have f3 := blk_frozen Z7.out 3
    have BS := Lib.hid (show Below w.heap.size w (w7.setCell ⟨w.heap.size, 3, none⟩ (.int .i64 x.f3)) from below_set B7.out (Nat.le_refl _))
    obtain ⟨s0, s1, s2, s3, s4⟩ := H0.out.below BS.out
    go_wp2
    have Z8 := Lib.hid (show (w7.setCell ⟨w.heap.size, 3, none⟩ (.int .i64 x.f3)).heap[w.heap.size]? = some (.cells #[.int .i64 x.f0, .string ⟨#[]⟩, .slice none 0 0, .int .i64 x.f3, .string ⟨#[]⟩] 57 (0, 0)) from blk_put Z7.out 3 _ rfl)
    have B8 := Lib.hid (show Below w.heap.size w (w7.setCell ⟨w.heap.size, 3, none⟩ (.int .i64 x.f3)) from BS.out)
    (try clear s0 s1 s2 s3 s4)
    clear g0 g1 g2 g3 g4 Z7
    generalize (w7.setCell ⟨w.heap.size, 3, none⟩ (.int .i64 x.f3)) = w8 at *
    obtain ⟨g0, g1, g2, g3, g4⟩ := H0.out.below B8.out
    have y1 := (blk_cell Z8.out 1).trans rfl; have y3 := (blk_cell Z8.out 3).trans rfl; have y4 := (blk_cell Z8.out 4).trans rfl
    have CP8 := Lib.hid (fun m => CP.out (w8.drewN m) (pw_below_drewN B8.out m))
    generalize hn2 : x.f2.length = n2 at *
    cases hs1 : (x.f1.toList == ([] : List UInt8)) with
    | false =>
      go_quiet (first | (go_at_call 70; (with_reducible refine (CP8.out _).mono ?_); rintro e w' ⟨rfl, ⟨nd, rfl⟩⟩; (try first | exact ⟨rfl, _, World.drewN_drewN _ _ _⟩ | exact ⟨rfl, _, Eq.trans (World.drewN_drewN _ _ _) (congrArg (World.drewN _) (Nat.add_assoc _ _ _))⟩)) | (go_at_call 71; (with_reducible refine (CI.out _).mono ?_); rintro e w' ⟨rfl, ⟨nd2, rfl⟩⟩; (try first | exact ⟨rfl, _, World.drewN_drewN _ _ _⟩ | exact ⟨rfl, _, Eq.trans (World.drewN_drewN _ _ _) (congrArg (World.drewN _) (Nat.add_assoc _ _ _))⟩)))
      go_wp2
      go_ret
      exact ⟨by first | rfl | (simp [*]; done), by repeat (first | exact B8.out | apply pw_below_drewN)⟩
    | true =>
      cases hs4 : (x.f4.toList == ([] : List UInt8)) with
      | false =>
        go_quiet (first | (go_at_call 70; (with_reducible refine (CP8.out _).mono ?_); rintro e w' ⟨rfl, ⟨nd, rfl⟩⟩; (try first | exact ⟨rfl, _, World.drewN_drewN _ _ _⟩ | exact ⟨rfl, _, Eq.trans (World.drewN_drewN _ _ _) (congrArg (World.drewN _) (Nat.add_assoc _ _ _))⟩)) | (go_at_call 71; (with_reducible refine (CI.out _).mono ?_); rintro e w' ⟨rfl, ⟨nd2, rfl⟩⟩; (try first | exact ⟨rfl, _, World.drewN_drewN _ _ _⟩ | exact ⟨rfl, _, Eq.trans (World.drewN_drewN _ _ _) (congrArg (World.drewN _) (Nat.add_assoc _ _ _))⟩)))
        go_wp2
        go_ret
        exact ⟨by first | rfl | (simp [*]; done), by repeat (first | exact B8.out | apply pw_below_drewN)⟩
      | true =>
        cases hsp : decide (n2 = 0) with
        | false =>
          have hpl : (n2 == 0) = false := (show decide (n2 = 0) = false from hsp); have hpl2 : ((n2 : Int) == 0) = false := (by rw [← hpl]; cases n2 <;> rfl)
          go_quiet (first | (go_at_call 70; (with_reducible refine (CP8.out _).mono ?_); rintro e w' ⟨rfl, ⟨nd, rfl⟩⟩; (try first | exact ⟨rfl, _, World.drewN_drewN _ _ _⟩ | exact ⟨rfl, _, Eq.trans (World.drewN_drewN _ _ _) (congrArg (World.drewN _) (Nat.add_assoc _ _ _))⟩)) | (go_at_call 71; (with_reducible refine (CI.out _).mono ?_); rintro e w' ⟨rfl, ⟨nd2, rfl⟩⟩; (try first | exact ⟨rfl, _, World.drewN_drewN _ _ _⟩ | exact ⟨rfl, _, Eq.trans (World.drewN_drewN _ _ _) (congrArg (World.drewN _) (Nat.add_assoc _ _ _))⟩)))
          go_wp2
          go_ret
          exact ⟨by first | rfl | (simp [*]; done), by repeat (first | exact B8.out | apply pw_below_drewN)⟩
        | true =>
          have hpl : (n2 == 0) = true := (show decide (n2 = 0) = true from hsp); have hpl2 : ((n2 : Int) == 0) = true := (by rw [← hpl]; cases n2 <;> rfl)
          cases hpb : pathB x.f2 with
          | false =>
            rw [hpb] at CP8
            go_quiet (first | (go_at_call 70; (with_reducible refine (CP8.out _).mono ?_); rintro e w' ⟨rfl, ⟨nd, rfl⟩⟩; (try first | exact ⟨rfl, _, World.drewN_drewN _ _ _⟩ | exact ⟨rfl, _, Eq.trans (World.drewN_drewN _ _ _) (congrArg (World.drewN _) (Nat.add_assoc _ _ _))⟩)) | (go_at_call 71; (with_reducible refine (CI.out _).mono ?_); rintro e w' ⟨rfl, ⟨nd2, rfl⟩⟩; (try first | exact ⟨rfl, _, World.drewN_drewN _ _ _⟩ | exact ⟨rfl, _, Eq.trans (World.drewN_drewN _ _ _) (congrArg (World.drewN _) (Nat.add_assoc _ _ _))⟩)))
            go_wp2
            go_ret
            exact ⟨by first | rfl | (simp [*]; done), by repeat (first | exact B8.out | apply pw_below_drewN)⟩
          | true =>
            rw [hpb] at CP8
            cases hib : intB x.f3 with
            | false =>
              rw [hib] at CI
              go_quiet (first | (go_at_call 70; (with_reducible refine (CP8.out _).mono ?_); rintro e w' ⟨rfl, ⟨nd, rfl⟩⟩; (try first | exact ⟨rfl, _, World.drewN_drewN _ _ _⟩ | exact ⟨rfl, _, Eq.trans (World.drewN_drewN _ _ _) (congrArg (World.drewN _) (Nat.add_assoc _ _ _))⟩)) | (go_at_call 71; (with_reducible refine (CI.out _).mono ?_); rintro e w' ⟨rfl, ⟨nd2, rfl⟩⟩; (try first | exact ⟨rfl, _, World.drewN_drewN _ _ _⟩ | exact ⟨rfl, _, Eq.trans (World.drewN_drewN _ _ _) (congrArg (World.drewN _) (Nat.add_assoc _ _ _))⟩)))
              go_wp2
              go_ret
              exact ⟨by first | rfl | (simp [*]; done), by repeat (first | exact B8.out | apply pw_below_drewN)⟩
            | true =>
              rw [hib] at CI
              go_quiet (first | (go_at_call 70; (with_reducible refine (CP8.out _).mono ?_); rintro e w' ⟨rfl, ⟨nd, rfl⟩⟩; (try first | exact ⟨rfl, _, World.drewN_drewN _ _ _⟩ | exact ⟨rfl, _, Eq.trans (World.drewN_drewN _ _ _) (congrArg (World.drewN _) (Nat.add_assoc _ _ _))⟩)) | (go_at_call 71; (with_reducible refine (CI.out _).mono ?_); rintro e w' ⟨rfl, ⟨nd2, rfl⟩⟩; (try first | exact ⟨rfl, _, World.drewN_drewN _ _ _⟩ | exact ⟨rfl, _, Eq.trans (World.drewN_drewN _ _ _) (congrArg (World.drewN _) (Nat.add_assoc _ _ _))⟩)))
              go_wp2
              go_ret
              exact ⟨by first | rfl | (simp [*]; done), by repeat (first | exact B8.out | apply pw_below_drewN)⟩
  · -- 3
    go_enter Tryz.func40, Tryz.ntmps40
    go_upto_region 2 with (first | ((with_reducible refine gate_store (t := 57) (p := 3) rfl ?_); refine row_event (by rfl) (by rfl) (by rfl) (by rfl) (by rfl) BN.out (by exact sizeA) (by rfl) (by first | rfl | simp [Value.oneCell']) ?_; intro w7 hz7 ho7 hb7; have B7 := Lib.hid (hb7 (Nat.le_refl _) B0.out); have Z7 := Lib.hid hz7; clear hb7 ho7 hz7))
    clear k0
    obtain ⟨g0, g1, g2, g3, g4⟩ := H0.out.below B7.out
    have z4 := (blk_cell Z7.out 4).trans rfl; have f4 := blk_frozen Z7.out 4
    have BS := Lib.hid (show Below w.heap.size w (w7.setCell ⟨w.heap.size, 4, none⟩ (.string x.f4)) from below_set B7.out (Nat.le_refl _))
    obtain ⟨s0, s1, s2, s3, s4⟩ := H0.out.below BS.out
    go_wp2
    have Z8 := Lib.hid (show (w7.setCell ⟨w.heap.size, 4, none⟩ (.string x.f4)).heap[w.heap.size]? = some (.cells #[.int .i64 x.f0, .string ⟨#[]⟩, .slice none 0 0, .int .i64 0, .string x.f4] 57 (0, 0)) from blk_put Z7.out 4 _ rfl)
    have B8 := Lib.hid (show Below w.heap.size w (w7.setCell ⟨w.heap.size, 4, none⟩ (.string x.f4)) from BS.out)
    (try clear s0 s1 s2 s3 s4)
    clear g0 g1 g2 g3 g4 Z7
    generalize (w7.setCell ⟨w.heap.size, 4, none⟩ (.string x.f4)) = w8 at *
    obtain ⟨g0, g1, g2, g3, g4⟩ := H0.out.below B8.out
    have y1 := (blk_cell Z8.out 1).trans rfl; have y3 := (blk_cell Z8.out 3).trans rfl; have y4 := (blk_cell Z8.out 4).trans rfl
    have CP8 := Lib.hid (fun m => CP.out (w8.drewN m) (pw_below_drewN B8.out m))
    generalize hn2 : x.f2.length = n2 at *
    cases hs1 : (x.f1.toList == ([] : List UInt8)) with
    | false =>
      go_quiet (first | (go_at_call 70; (with_reducible refine (CP8.out _).mono ?_); rintro e w' ⟨rfl, ⟨nd, rfl⟩⟩; (try first | exact ⟨rfl, _, World.drewN_drewN _ _ _⟩ | exact ⟨rfl, _, Eq.trans (World.drewN_drewN _ _ _) (congrArg (World.drewN _) (Nat.add_assoc _ _ _))⟩)) | (go_at_call 71; (with_reducible refine (CI.out _).mono ?_); rintro e w' ⟨rfl, ⟨nd2, rfl⟩⟩; (try first | exact ⟨rfl, _, World.drewN_drewN _ _ _⟩ | exact ⟨rfl, _, Eq.trans (World.drewN_drewN _ _ _) (congrArg (World.drewN _) (Nat.add_assoc _ _ _))⟩)))
      go_wp2
      go_ret
      exact ⟨by first | rfl | (simp [*]; done), by repeat (first | exact B8.out | apply pw_below_drewN)⟩
    | true =>
      cases hs3 : (x.f3 == 0) with
      | false =>
        go_quiet (first | (go_at_call 70; (with_reducible refine (CP8.out _).mono ?_); rintro e w' ⟨rfl, ⟨nd, rfl⟩⟩; (try first | exact ⟨rfl, _, World.drewN_drewN _ _ _⟩ | exact ⟨rfl, _, Eq.trans (World.drewN_drewN _ _ _) (congrArg (World.drewN _) (Nat.add_assoc _ _ _))⟩)) | (go_at_call 71; (with_reducible refine (CI.out _).mono ?_); rintro e w' ⟨rfl, ⟨nd2, rfl⟩⟩; (try first | exact ⟨rfl, _, World.drewN_drewN _ _ _⟩ | exact ⟨rfl, _, Eq.trans (World.drewN_drewN _ _ _) (congrArg (World.drewN _) (Nat.add_assoc _ _ _))⟩)))
        go_wp2
        go_ret
        exact ⟨by first | rfl | (simp [*]; done), by repeat (first | exact B8.out | apply pw_below_drewN)⟩
      | true =>
        cases hsp : decide (n2 = 0) with
        | false =>
          have hpl : (n2 == 0) = false := (show decide (n2 = 0) = false from hsp); have hpl2 : ((n2 : Int) == 0) = false := (by rw [← hpl]; cases n2 <;> rfl)
          go_quiet (first | (go_at_call 70; (with_reducible refine (CP8.out _).mono ?_); rintro e w' ⟨rfl, ⟨nd, rfl⟩⟩; (try first | exact ⟨rfl, _, World.drewN_drewN _ _ _⟩ | exact ⟨rfl, _, Eq.trans (World.drewN_drewN _ _ _) (congrArg (World.drewN _) (Nat.add_assoc _ _ _))⟩)) | (go_at_call 71; (with_reducible refine (CI.out _).mono ?_); rintro e w' ⟨rfl, ⟨nd2, rfl⟩⟩; (try first | exact ⟨rfl, _, World.drewN_drewN _ _ _⟩ | exact ⟨rfl, _, Eq.trans (World.drewN_drewN _ _ _) (congrArg (World.drewN _) (Nat.add_assoc _ _ _))⟩)))
          go_wp2
          go_ret
          exact ⟨by first | rfl | (simp [*]; done), by repeat (first | exact B8.out | apply pw_below_drewN)⟩
        | true =>
          have hpl : (n2 == 0) = true := (show decide (n2 = 0) = true from hsp); have hpl2 : ((n2 : Int) == 0) = true := (by rw [← hpl]; cases n2 <;> rfl)
          cases hpb : pathB x.f2 with
          | false =>
            rw [hpb] at CP8
            go_quiet (first | (go_at_call 70; (with_reducible refine (CP8.out _).mono ?_); rintro e w' ⟨rfl, ⟨nd, rfl⟩⟩; (try first | exact ⟨rfl, _, World.drewN_drewN _ _ _⟩ | exact ⟨rfl, _, Eq.trans (World.drewN_drewN _ _ _) (congrArg (World.drewN _) (Nat.add_assoc _ _ _))⟩)) | (go_at_call 71; (with_reducible refine (CI.out _).mono ?_); rintro e w' ⟨rfl, ⟨nd2, rfl⟩⟩; (try first | exact ⟨rfl, _, World.drewN_drewN _ _ _⟩ | exact ⟨rfl, _, Eq.trans (World.drewN_drewN _ _ _) (congrArg (World.drewN _) (Nat.add_assoc _ _ _))⟩)))
            go_wp2
            go_ret
            exact ⟨by first | rfl | (simp [*]; done), by repeat (first | exact B8.out | apply pw_below_drewN)⟩
          | true =>
            rw [hpb] at CP8
            cases hib : intB x.f3 with
            | false =>
              rw [hib] at CI
              go_quiet (first | (go_at_call 70; (with_reducible refine (CP8.out _).mono ?_); rintro e w' ⟨rfl, ⟨nd, rfl⟩⟩; (try first | exact ⟨rfl, _, World.drewN_drewN _ _ _⟩ | exact ⟨rfl, _, Eq.trans (World.drewN_drewN _ _ _) (congrArg (World.drewN _) (Nat.add_assoc _ _ _))⟩)) | (go_at_call 71; (with_reducible refine (CI.out _).mono ?_); rintro e w' ⟨rfl, ⟨nd2, rfl⟩⟩; (try first | exact ⟨rfl, _, World.drewN_drewN _ _ _⟩ | exact ⟨rfl, _, Eq.trans (World.drewN_drewN _ _ _) (congrArg (World.drewN _) (Nat.add_assoc _ _ _))⟩)))
              go_wp2
              go_ret
              exact ⟨by first | rfl | (simp [*]; done), by repeat (first | exact B8.out | apply pw_below_drewN)⟩
            | true =>
              rw [hib] at CI
              go_quiet (first | (go_at_call 70; (with_reducible refine (CP8.out _).mono ?_); rintro e w' ⟨rfl, ⟨nd, rfl⟩⟩; (try first | exact ⟨rfl, _, World.drewN_drewN _ _ _⟩ | exact ⟨rfl, _, Eq.trans (World.drewN_drewN _ _ _) (congrArg (World.drewN _) (Nat.add_assoc _ _ _))⟩)) | (go_at_call 71; (with_reducible refine (CI.out _).mono ?_); rintro e w' ⟨rfl, ⟨nd2, rfl⟩⟩; (try first | exact ⟨rfl, _, World.drewN_drewN _ _ _⟩ | exact ⟨rfl, _, Eq.trans (World.drewN_drewN _ _ _) (congrArg (World.drewN _) (Nat.add_assoc _ _ _))⟩)))
              go_wp2
              go_ret
              exact ⟨by first | rfl | (simp [*]; done), by repeat (first | exact B8.out | apply pw_below_drewN)⟩
  · -- 4
    go_enter Tryz.func40, Tryz.ntmps40
    go_upto_region 2 with (first | ((with_reducible refine gate_store (t := 57) (p := 3) rfl ?_); refine row_event (by rfl) (by rfl) (by rfl) (by rfl) (by rfl) BN.out (by exact sizeA) (by rfl) (by first | rfl | simp [Value.oneCell']) ?_; intro w7 hz7 ho7 hb7; have B7 := Lib.hid (hb7 (Nat.le_refl _) B0.out); have Z7 := Lib.hid hz7; clear hb7 ho7 hz7))
    clear k0
    obtain ⟨g0, g1, g2, g3, g4⟩ := H0.out.below B7.out
    have z3 := (blk_cell Z7.out 3).trans rfl; have f3 := blk_frozen Z7.out 3
    have BS := Lib.hid (show Below w.heap.size w (w7.setCell ⟨w.heap.size, 3, none⟩ (.int .i64 (bits BinOp.and IntKind.i64 x.f3 1))) from below_set B7.out (Nat.le_refl _))
    obtain ⟨s0, s1, s2, s3, s4⟩ := H0.out.below BS.out
    go_wp2
    have Z8 := Lib.hid (show (w7.setCell ⟨w.heap.size, 3, none⟩ (.int .i64 (bits BinOp.and IntKind.i64 x.f3 1))).heap[w.heap.size]? = some (.cells #[.int .i64 x.f0, .string ⟨#[]⟩, .slice none 0 0, .int .i64 (bits BinOp.and IntKind.i64 x.f3 1), .string ⟨#[]⟩] 57 (0, 0)) from blk_put Z7.out 3 _ rfl)
    have B8 := Lib.hid (show Below w.heap.size w (w7.setCell ⟨w.heap.size, 3, none⟩ (.int .i64 (bits BinOp.and IntKind.i64 x.f3 1))) from BS.out)
    (try clear s0 s1 s2 s3 s4)
    clear g0 g1 g2 g3 g4 Z7
    generalize (w7.setCell ⟨w.heap.size, 3, none⟩ (.int .i64 (bits BinOp.and IntKind.i64 x.f3 1))) = w8 at *
    obtain ⟨g0, g1, g2, g3, g4⟩ := H0.out.below B8.out
    have y1 := (blk_cell Z8.out 1).trans rfl; have y3 := (blk_cell Z8.out 3).trans rfl; have y4 := (blk_cell Z8.out 4).trans rfl
    have CP8 := Lib.hid (fun m => CP.out (w8.drewN m) (pw_below_drewN B8.out m))
    generalize hn2 : x.f2.length = n2 at *
    cases hs1 : (x.f1.toList == ([] : List UInt8)) with
    | false =>
      go_quiet (first | (go_at_call 70; (with_reducible refine (CP8.out _).mono ?_); rintro e w' ⟨rfl, ⟨nd, rfl⟩⟩; (try first | exact ⟨rfl, _, World.drewN_drewN _ _ _⟩ | exact ⟨rfl, _, Eq.trans (World.drewN_drewN _ _ _) (congrArg (World.drewN _) (Nat.add_assoc _ _ _))⟩)) | (go_at_call 71; (with_reducible refine (CI.out _).mono ?_); rintro e w' ⟨rfl, ⟨nd2, rfl⟩⟩; (try first | exact ⟨rfl, _, World.drewN_drewN _ _ _⟩ | exact ⟨rfl, _, Eq.trans (World.drewN_drewN _ _ _) (congrArg (World.drewN _) (Nat.add_assoc _ _ _))⟩)))
      go_wp2
      go_ret
      exact ⟨by first | rfl | (simp [*]; done), by repeat (first | exact B8.out | apply pw_below_drewN)⟩
    | true =>
      cases hs3 : (x.f3 == 0 || x.f3 == 1) with
      | false =>
        have hlow := (low_same x.f3).trans hs3
        go_quiet (first | (go_at_call 70; (with_reducible refine (CP8.out _).mono ?_); rintro e w' ⟨rfl, ⟨nd, rfl⟩⟩; (try first | exact ⟨rfl, _, World.drewN_drewN _ _ _⟩ | exact ⟨rfl, _, Eq.trans (World.drewN_drewN _ _ _) (congrArg (World.drewN _) (Nat.add_assoc _ _ _))⟩)) | (go_at_call 71; (with_reducible refine (CI.out _).mono ?_); rintro e w' ⟨rfl, ⟨nd2, rfl⟩⟩; (try first | exact ⟨rfl, _, World.drewN_drewN _ _ _⟩ | exact ⟨rfl, _, Eq.trans (World.drewN_drewN _ _ _) (congrArg (World.drewN _) (Nat.add_assoc _ _ _))⟩)))
        go_wp2
        go_ret
        exact ⟨by first | rfl | (simp [*]; done), by repeat (first | exact B8.out | apply pw_below_drewN)⟩
      | true =>
        have hlow := (low_same x.f3).trans hs3
        cases hs4 : (x.f4.toList == ([] : List UInt8)) with
        | false =>
          go_quiet (first | (go_at_call 70; (with_reducible refine (CP8.out _).mono ?_); rintro e w' ⟨rfl, ⟨nd, rfl⟩⟩; (try first | exact ⟨rfl, _, World.drewN_drewN _ _ _⟩ | exact ⟨rfl, _, Eq.trans (World.drewN_drewN _ _ _) (congrArg (World.drewN _) (Nat.add_assoc _ _ _))⟩)) | (go_at_call 71; (with_reducible refine (CI.out _).mono ?_); rintro e w' ⟨rfl, ⟨nd2, rfl⟩⟩; (try first | exact ⟨rfl, _, World.drewN_drewN _ _ _⟩ | exact ⟨rfl, _, Eq.trans (World.drewN_drewN _ _ _) (congrArg (World.drewN _) (Nat.add_assoc _ _ _))⟩)))
          go_wp2
          go_ret
          exact ⟨by first | rfl | (simp [*]; done), by repeat (first | exact B8.out | apply pw_below_drewN)⟩
        | true =>
          cases hsp : decide (n2 = 0) with
          | false =>
            have hpl : (n2 == 0) = false := (show decide (n2 = 0) = false from hsp); have hpl2 : ((n2 : Int) == 0) = false := (by rw [← hpl]; cases n2 <;> rfl)
            go_quiet (first | (go_at_call 70; (with_reducible refine (CP8.out _).mono ?_); rintro e w' ⟨rfl, ⟨nd, rfl⟩⟩; (try first | exact ⟨rfl, _, World.drewN_drewN _ _ _⟩ | exact ⟨rfl, _, Eq.trans (World.drewN_drewN _ _ _) (congrArg (World.drewN _) (Nat.add_assoc _ _ _))⟩)) | (go_at_call 71; (with_reducible refine (CI.out _).mono ?_); rintro e w' ⟨rfl, ⟨nd2, rfl⟩⟩; (try first | exact ⟨rfl, _, World.drewN_drewN _ _ _⟩ | exact ⟨rfl, _, Eq.trans (World.drewN_drewN _ _ _) (congrArg (World.drewN _) (Nat.add_assoc _ _ _))⟩)))
            go_wp2
            go_ret
            exact ⟨by first | rfl | (simp [*]; done), by repeat (first | exact B8.out | apply pw_below_drewN)⟩
          | true =>
            have hpl : (n2 == 0) = true := (show decide (n2 = 0) = true from hsp); have hpl2 : ((n2 : Int) == 0) = true := (by rw [← hpl]; cases n2 <;> rfl)
            cases hpb : pathB x.f2 with
            | false =>
              rw [hpb] at CP8
              go_quiet (first | (go_at_call 70; (with_reducible refine (CP8.out _).mono ?_); rintro e w' ⟨rfl, ⟨nd, rfl⟩⟩; (try first | exact ⟨rfl, _, World.drewN_drewN _ _ _⟩ | exact ⟨rfl, _, Eq.trans (World.drewN_drewN _ _ _) (congrArg (World.drewN _) (Nat.add_assoc _ _ _))⟩)) | (go_at_call 71; (with_reducible refine (CI.out _).mono ?_); rintro e w' ⟨rfl, ⟨nd2, rfl⟩⟩; (try first | exact ⟨rfl, _, World.drewN_drewN _ _ _⟩ | exact ⟨rfl, _, Eq.trans (World.drewN_drewN _ _ _) (congrArg (World.drewN _) (Nat.add_assoc _ _ _))⟩)))
              go_wp2
              go_ret
              exact ⟨by first | rfl | (simp [*]; done), by repeat (first | exact B8.out | apply pw_below_drewN)⟩
            | true =>
              rw [hpb] at CP8
              cases hib : intB x.f3 with
              | false =>
                rw [hib] at CI
                go_quiet (first | (go_at_call 70; (with_reducible refine (CP8.out _).mono ?_); rintro e w' ⟨rfl, ⟨nd, rfl⟩⟩; (try first | exact ⟨rfl, _, World.drewN_drewN _ _ _⟩ | exact ⟨rfl, _, Eq.trans (World.drewN_drewN _ _ _) (congrArg (World.drewN _) (Nat.add_assoc _ _ _))⟩)) | (go_at_call 71; (with_reducible refine (CI.out _).mono ?_); rintro e w' ⟨rfl, ⟨nd2, rfl⟩⟩; (try first | exact ⟨rfl, _, World.drewN_drewN _ _ _⟩ | exact ⟨rfl, _, Eq.trans (World.drewN_drewN _ _ _) (congrArg (World.drewN _) (Nat.add_assoc _ _ _))⟩)))
                go_wp2
                go_ret
                exact ⟨by first | rfl | (simp [*]; done), by repeat (first | exact B8.out | apply pw_below_drewN)⟩
              | true =>
                rw [hib] at CI
                go_quiet (first | (go_at_call 70; (with_reducible refine (CP8.out _).mono ?_); rintro e w' ⟨rfl, ⟨nd, rfl⟩⟩; (try first | exact ⟨rfl, _, World.drewN_drewN _ _ _⟩ | exact ⟨rfl, _, Eq.trans (World.drewN_drewN _ _ _) (congrArg (World.drewN _) (Nat.add_assoc _ _ _))⟩)) | (go_at_call 71; (with_reducible refine (CI.out _).mono ?_); rintro e w' ⟨rfl, ⟨nd2, rfl⟩⟩; (try first | exact ⟨rfl, _, World.drewN_drewN _ _ _⟩ | exact ⟨rfl, _, Eq.trans (World.drewN_drewN _ _ _) (congrArg (World.drewN _) (Nat.add_assoc _ _ _))⟩)))
                go_wp2
                go_ret
                exact ⟨by first | rfl | (simp [*]; done), by repeat (first | exact B8.out | apply pw_below_drewN)⟩
  · -- 5
    go_enter Tryz.func40, Tryz.ntmps40
    go_upto_region 2 with (first | ((with_reducible refine gate_store (t := 57) (p := 3) rfl ?_); refine row_event (by rfl) (by rfl) (by rfl) (by rfl) (by rfl) BN.out (by exact sizeA) (by rfl) (by first | rfl | simp [Value.oneCell']) ?_; intro w7 hz7 ho7 hb7; have B7 := Lib.hid (hb7 (Nat.le_refl _) B0.out); have Z7 := Lib.hid hz7; clear hb7 ho7 hz7))
    clear k0
    obtain ⟨g0, g1, g2, g3, g4⟩ := H0.out.below B7.out
    go_wp2
    have Z8 := Lib.hid (show w7.heap[w.heap.size]? = some (.cells #[.int .i64 x.f0, .string ⟨#[]⟩, .slice none 0 0, .int .i64 0, .string ⟨#[]⟩] 57 (0, 0)) from Z7.out)
    have B8 := Lib.hid (show Below w.heap.size w w7 from B7.out)
    (try clear s0 s1 s2 s3 s4)
    clear g0 g1 g2 g3 g4 Z7
    obtain ⟨g0, g1, g2, g3, g4⟩ := H0.out.below B8.out
    have y1 := (blk_cell Z8.out 1).trans rfl; have y3 := (blk_cell Z8.out 3).trans rfl; have y4 := (blk_cell Z8.out 4).trans rfl
    have CP8 := Lib.hid (fun m => CP.out (w7.drewN m) (pw_below_drewN B8.out m))
    generalize hn2 : x.f2.length = n2 at *
    cases hs1 : (x.f1.toList == ([] : List UInt8)) with
    | false =>
      go_quiet (first | (go_at_call 70; (with_reducible refine (CP8.out _).mono ?_); rintro e w' ⟨rfl, ⟨nd, rfl⟩⟩; (try first | exact ⟨rfl, _, World.drewN_drewN _ _ _⟩ | exact ⟨rfl, _, Eq.trans (World.drewN_drewN _ _ _) (congrArg (World.drewN _) (Nat.add_assoc _ _ _))⟩)) | (go_at_call 71; (with_reducible refine (CI.out _).mono ?_); rintro e w' ⟨rfl, ⟨nd2, rfl⟩⟩; (try first | exact ⟨rfl, _, World.drewN_drewN _ _ _⟩ | exact ⟨rfl, _, Eq.trans (World.drewN_drewN _ _ _) (congrArg (World.drewN _) (Nat.add_assoc _ _ _))⟩)))
      go_wp2
      go_ret
      exact ⟨by first | rfl | (simp [*]; done), by repeat (first | exact B8.out | apply pw_below_drewN)⟩
    | true =>
      cases hs3 : (x.f3 == 0) with
      | false =>
        go_quiet (first | (go_at_call 70; (with_reducible refine (CP8.out _).mono ?_); rintro e w' ⟨rfl, ⟨nd, rfl⟩⟩; (try first | exact ⟨rfl, _, World.drewN_drewN _ _ _⟩ | exact ⟨rfl, _, Eq.trans (World.drewN_drewN _ _ _) (congrArg (World.drewN _) (Nat.add_assoc _ _ _))⟩)) | (go_at_call 71; (with_reducible refine (CI.out _).mono ?_); rintro e w' ⟨rfl, ⟨nd2, rfl⟩⟩; (try first | exact ⟨rfl, _, World.drewN_drewN _ _ _⟩ | exact ⟨rfl, _, Eq.trans (World.drewN_drewN _ _ _) (congrArg (World.drewN _) (Nat.add_assoc _ _ _))⟩)))
        go_wp2
        go_ret
        exact ⟨by first | rfl | (simp [*]; done), by repeat (first | exact B8.out | apply pw_below_drewN)⟩
      | true =>
        cases hs4 : (x.f4.toList == ([] : List UInt8)) with
        | false =>
          go_quiet (first | (go_at_call 70; (with_reducible refine (CP8.out _).mono ?_); rintro e w' ⟨rfl, ⟨nd, rfl⟩⟩; (try first | exact ⟨rfl, _, World.drewN_drewN _ _ _⟩ | exact ⟨rfl, _, Eq.trans (World.drewN_drewN _ _ _) (congrArg (World.drewN _) (Nat.add_assoc _ _ _))⟩)) | (go_at_call 71; (with_reducible refine (CI.out _).mono ?_); rintro e w' ⟨rfl, ⟨nd2, rfl⟩⟩; (try first | exact ⟨rfl, _, World.drewN_drewN _ _ _⟩ | exact ⟨rfl, _, Eq.trans (World.drewN_drewN _ _ _) (congrArg (World.drewN _) (Nat.add_assoc _ _ _))⟩)))
          go_wp2
          go_ret
          exact ⟨by first | rfl | (simp [*]; done), by repeat (first | exact B8.out | apply pw_below_drewN)⟩
        | true =>
          cases hsp : decide (n2 = 0) with
          | false =>
            have hpl : (n2 == 0) = false := (show decide (n2 = 0) = false from hsp); have hpl2 : ((n2 : Int) == 0) = false := (by rw [← hpl]; cases n2 <;> rfl)
            go_quiet (first | (go_at_call 70; (with_reducible refine (CP8.out _).mono ?_); rintro e w' ⟨rfl, ⟨nd, rfl⟩⟩; (try first | exact ⟨rfl, _, World.drewN_drewN _ _ _⟩ | exact ⟨rfl, _, Eq.trans (World.drewN_drewN _ _ _) (congrArg (World.drewN _) (Nat.add_assoc _ _ _))⟩)) | (go_at_call 71; (with_reducible refine (CI.out _).mono ?_); rintro e w' ⟨rfl, ⟨nd2, rfl⟩⟩; (try first | exact ⟨rfl, _, World.drewN_drewN _ _ _⟩ | exact ⟨rfl, _, Eq.trans (World.drewN_drewN _ _ _) (congrArg (World.drewN _) (Nat.add_assoc _ _ _))⟩)))
            go_wp2
            go_ret
            exact ⟨by first | rfl | (simp [*]; done), by repeat (first | exact B8.out | apply pw_below_drewN)⟩
          | true =>
            have hpl : (n2 == 0) = true := (show decide (n2 = 0) = true from hsp); have hpl2 : ((n2 : Int) == 0) = true := (by rw [← hpl]; cases n2 <;> rfl)
            cases hpb : pathB x.f2 with
            | false =>
              rw [hpb] at CP8
              go_quiet (first | (go_at_call 70; (with_reducible refine (CP8.out _).mono ?_); rintro e w' ⟨rfl, ⟨nd, rfl⟩⟩; (try first | exact ⟨rfl, _, World.drewN_drewN _ _ _⟩ | exact ⟨rfl, _, Eq.trans (World.drewN_drewN _ _ _) (congrArg (World.drewN _) (Nat.add_assoc _ _ _))⟩)) | (go_at_call 71; (with_reducible refine (CI.out _).mono ?_); rintro e w' ⟨rfl, ⟨nd2, rfl⟩⟩; (try first | exact ⟨rfl, _, World.drewN_drewN _ _ _⟩ | exact ⟨rfl, _, Eq.trans (World.drewN_drewN _ _ _) (congrArg (World.drewN _) (Nat.add_assoc _ _ _))⟩)))
              go_wp2
              go_ret
              exact ⟨by first | rfl | (simp [*]; done), by repeat (first | exact B8.out | apply pw_below_drewN)⟩
            | true =>
              rw [hpb] at CP8
              cases hib : intB x.f3 with
              | false =>
                rw [hib] at CI
                go_quiet (first | (go_at_call 70; (with_reducible refine (CP8.out _).mono ?_); rintro e w' ⟨rfl, ⟨nd, rfl⟩⟩; (try first | exact ⟨rfl, _, World.drewN_drewN _ _ _⟩ | exact ⟨rfl, _, Eq.trans (World.drewN_drewN _ _ _) (congrArg (World.drewN _) (Nat.add_assoc _ _ _))⟩)) | (go_at_call 71; (with_reducible refine (CI.out _).mono ?_); rintro e w' ⟨rfl, ⟨nd2, rfl⟩⟩; (try first | exact ⟨rfl, _, World.drewN_drewN _ _ _⟩ | exact ⟨rfl, _, Eq.trans (World.drewN_drewN _ _ _) (congrArg (World.drewN _) (Nat.add_assoc _ _ _))⟩)))
                go_wp2
                go_ret
                exact ⟨by first | rfl | (simp [*]; done), by repeat (first | exact B8.out | apply pw_below_drewN)⟩
              | true =>
                rw [hib] at CI
                go_quiet (first | (go_at_call 70; (with_reducible refine (CP8.out _).mono ?_); rintro e w' ⟨rfl, ⟨nd, rfl⟩⟩; (try first | exact ⟨rfl, _, World.drewN_drewN _ _ _⟩ | exact ⟨rfl, _, Eq.trans (World.drewN_drewN _ _ _) (congrArg (World.drewN _) (Nat.add_assoc _ _ _))⟩)) | (go_at_call 71; (with_reducible refine (CI.out _).mono ?_); rintro e w' ⟨rfl, ⟨nd2, rfl⟩⟩; (try first | exact ⟨rfl, _, World.drewN_drewN _ _ _⟩ | exact ⟨rfl, _, Eq.trans (World.drewN_drewN _ _ _) (congrArg (World.drewN _) (Nat.add_assoc _ _ _))⟩)))
                go_wp2
                go_ret
                exact ⟨by first | rfl | (simp [*]; done), by repeat (first | exact B8.out | apply pw_below_drewN)⟩
  · -- 6
    go_enter Tryz.func40, Tryz.ntmps40
    go_upto_region 2 with (first | ((with_reducible refine gate_store (t := 57) (p := 3) rfl ?_); refine row_event (by rfl) (by rfl) (by rfl) (by rfl) (by rfl) BN.out (by exact sizeA) (by rfl) (by first | rfl | simp [Value.oneCell']) ?_; intro w7 hz7 ho7 hb7; have B7 := Lib.hid (hb7 (Nat.le_refl _) B0.out); have Z7 := Lib.hid hz7; clear hb7 ho7 hz7))
    clear k0
    obtain ⟨g0, g1, g2, g3, g4⟩ := H0.out.below B7.out
    go_wp2
    go_ret
    exact ⟨by first | rfl | (simp [*]; done), B7.out⟩
end Go.Proofs.YtdghnfmhcnlppaaGreatDoor.Pipe
