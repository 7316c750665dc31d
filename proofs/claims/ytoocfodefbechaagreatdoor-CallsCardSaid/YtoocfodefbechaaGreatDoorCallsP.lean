/- The law Calls in plain words: Call of copies cut at forty levels, what SpoilValue does to what Call answered. -/
import Derived.Test.YtoocfodefbechaaGreatDoorRefCall
import Derived.Test.YtoocfodefbechaaGreatDoorValP
import Derived.Test.YtoocfodefbechaaGreatDoorCopyV
namespace Go.Proofs.YtoocfodefbechaaGreatDoor.Fns
open Go.RowKit Go.Proofs.YtoocfodefbechaaGreatDoor.Q Go.Proofs.YtoocfodefbechaaGreatDoor.Real Go.Proofs.YtoocfodefbechaaGreatDoor.RealPure Go.Proofs.YtoocfodefbechaaGreatDoor.Values Go.Proofs.YtoocfodefbechaaGreatDoorW.PrintWords Go.Proofs.YtoocfodefbechaaGreatDoorW.PrintLast Go.Proofs.YtoocfodefbechaaGreatDoorW.PrintMore
set_option linter.unusedSimpArgs false
set_option linter.unusedVariables false
theorem callR_trunc (nm : ByteArray) (l : List V) : callR nm (l.map (truncD 40)) = callR nm l := by
  unfold callR
  rw [List.length_map]
  have ha : ((l.map (truncD 40)).any fun v => !mayB v) = l.any fun v => !mayB v := by
    rw [List.any_map]
    congr 1
    funext v
    show (!mayB (truncD 40 v)) = !mayB v
    rw [trunc_may]
  rw [ha]
  split
  · rfl
  split
  · rfl
  split
  · rfl
  · rename_i h
    have hall : ∀ z ∈ l, mayB z = true := fun z hz => by
      have q := List.any_eq_false.1 (Bool.eq_false_iff.2 h) z hz
      simpa using q
    have e : l.map (truncD 40) = l := by
      have : l.map (truncD 40) = l.map id := List.map_congr_left (fun z hz => trunc_of_may (hall z hz))
      rw [this, List.map_id]
    rw [e]
def Small (U : V) : Prop := (∃ d, d + 1 ≤ 8 ∧ okG (d + 1) U) ∨ (U.f4 = [] ∧ U.f5 = [])
theorem small_may {x : V} (h : mayB x = true) : Small x := .inl ⟨7, by decide, okG_of_may 8 x 1024 h⟩
theorem pickL_in (b : Bool) : ∀ (l : List V) (z : V), pickL b l z = z ∨ pickL b l z ∈ l
  | [], z => .inl rfl
  | x :: xs, z => by
    unfold pickL
    split
    · exact .inr List.mem_cons_self
    · exact (pickL_in b xs z).imp id (List.mem_cons_of_mem _)
theorem indexR_in (x y : V) : (indexR x y).1 = z27 ∨ (indexR x y).1 ∈ x.f4 := by
  unfold indexR
  split
  · exact .inl rfl
  · split
    · exact .inl rfl
    · rename_i h
      exact .inr (rd_mem x.f4 _ (by omega) (by omega))
theorem callR_small (nm : ByteArray) (l : List V) : Small (callR nm l).1 := by
  unfold callR
  rw [known_lt]
  split
  · exact .inr ⟨rfl, rfl⟩
  split
  · exact .inr ⟨rfl, rfl⟩
  split
  · exact .inr ⟨rfl, rfl⟩
  rename_i h0 h1 h2
  have hall : ∀ z ∈ l, mayB z = true := fun z hz => by
    have q := List.any_eq_false.1 (Bool.eq_false_iff.2 h2) z hz
    simpa using q
  generalize fnNo nm = f at *
  match f, h0, h1 with
  | 0, _, _ => exact .inr (by show (lengthR _).1.f4 = [] ∧ (lengthR _).1.f5 = []; unfold lengthR; split; exact ⟨rfl, rfl⟩; split; exact ⟨rfl, rfl⟩; exact ⟨rfl, rfl⟩)
  | 1, _, h1 =>
    have hn : 2 ≤ l.length := by simp [countBad, knownR] at h1; omega
    show Small (indexR (rd_T27 l 0) (rd_T27 l 1)).1
    have hm := hall _ (rd_mem l 0 (by omega) (by omega))
    cases indexR_in (rd_T27 l 0) (rd_T27 l 1) with
    | inl e => rw [e]; exact .inr ⟨rfl, rfl⟩
    | inr e => exact .inl ⟨6, by decide, (okG_of_may 8 _ 1024 hm).2 _ e⟩
  | 2, _, _ => exact .inr ⟨rfl, rfl⟩
  | 3, _, _ =>
    have e : doesR 3 l = if lessE (rd_T27 l 0) (rd_T27 l 1) = 0 then (boolV (lessB (rd_T27 l 0) (rd_T27 l 1)), 0) else (z27, 1802) := rfl
    rw [e]
    split <;> exact .inr ⟨rfl, rfl⟩
  | 4, _, _ => exact .inr ⟨rfl, rfl⟩
  | 5, _, h1 =>
    have hn : 1 ≤ l.length := by simp [countBad, knownR] at h1; omega
    show Small (pickR l false)
    have hl := rd_mem l ((l.length : Int) - 1) (by omega) (by omega)
    unfold pickR
    cases pickL_in false l (rd_T27 l ((l.length : Int) - 1)) with
    | inl e => rw [e]; exact small_may (hall _ hl)
    | inr e => exact small_may (hall _ e)
  | 6, _, h1 =>
    have hn : 1 ≤ l.length := by simp [countBad, knownR] at h1; omega
    show Small (pickR l true)
    have hl := rd_mem l ((l.length : Int) - 1) (by omega) (by omega)
    unfold pickR
    cases pickL_in true l (rd_T27 l ((l.length : Int) - 1)) with
    | inl e => rw [e]; exact small_may (hall _ hl)
    | inr e => exact small_may (hall _ e)
  | f + 7, h0, _ =>
    have hf : f = 0 := by simp at h0; omega
    subst hf
    exact .inr (cat_nil l [] false)
theorem spoil_small (U : V) (hU : Small U) (i0 i1 u2 : Int) (s3 : ByteArray) (v4 v5 : Value) (W W2 : World) (base : Nat) (ok ok' : Nat → Prop) (h4 : Kd.R k27 27 W base ok v4 U.f4) (h5 : Kd.R Kd.string 9 W base ok' v5 U.f5)
    (hb : Below W.heap.size W W2) (hbase : base ≤ W.heap.size) :
    Calls Tryz.prog 9 #[.agg #[.int .i64 i0, .int .i64 i1, .int .u64 u2, .string s3, v4, v5]] W2 fun e W' => e = .returned (.tuple #[]) ∧ Below base W2 W' := by
  have g4 := Kd.R_move (Kd.R_bound h4) (fun k hk => hb.block k hk.2.2.1)
  have g5 := Kd.R_move (Kd.R_bound h5) (fun k hk => hb.block k hk.2.2.1)
  have hb2 : base ≤ W2.heap.size := Nat.le_trans hbase hb.size
  rcases hU with ⟨d, hd, hg⟩ | ⟨e4, e5⟩
  · have hs4 := sh_vals (B := 32) d (fun z hz => ⟨PureV.okG_deep d z (hg.2 z hz), PureV.okG_ksz d z (hg.2 z hz)⟩) g4
    have hs5 := sh_texts (B := 32) g5 (PureV.own_keys hg.1)
    have hn : 32 + nodesD (d + 1) U ≤ 4611686018427387904 := by
      have h1 := PureV.nodes_bound (d + 1) U hg
      have h2 : 65 ^ (d + 1) ≤ 65 ^ 8 := Nat.pow_le_pow_right (by decide) hd
      have h3 : (65 : Nat) ^ 8 = 318644812890625 := by decide
      omega
    exact (spoil_all (d + 1) U i0 i1 u2 s3 v4 v5 32 base W2.heap.size W2 hs4 hs5 hn hb2 (Nat.le_refl _)).mono fun e W' h => ⟨h.1, h.2.1⟩
  · have hs4 := sh_vals (B := 32) 0 (fun z hz => by rw [e4] at hz; cases hz) g4
    have hs5 := sh_texts (B := 32) g5 (fun z hz => by rw [e5] at hz; cases hz)
    have hn : 32 + nodesD 1 U ≤ 4611686018427387904 := by
      rw [show nodesD 1 U = 1 + sumN (nodesD 0) U.f4 from rfl, e4]
      decide
    exact (spoil_all 1 U i0 i1 u2 s3 v4 v5 32 base W2.heap.size W2 hs4 hs5 hn hb2 (Nat.le_refl _)).mono fun e W' h => ⟨h.1, h.2.1⟩
end Go.Proofs.YtoocfodefbechaaGreatDoor.Fns
