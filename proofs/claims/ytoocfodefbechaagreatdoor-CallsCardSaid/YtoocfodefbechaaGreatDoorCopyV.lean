/- The law's CopyValue and CopyTexts, of any tree whose rows can be copied: what they answer; what reads as data is such a tree. -/
import Derived.Test.YtoocfodefbechaaGreatDoorValues
import Derived.Test.YtoocfodefbechaaGreatDoorV1
import Derived.Test.YtoocfodefbechaaGreatDoorSv
import Derived.ChangeArms
import Derived.DataElems
import Derived.Carry
namespace Go.Proofs.YtoocfodefbechaaGreatDoor.Values
open Go.RowKit Go.Proofs.YtoocfodefbechaaGreatDoor.Q Go.Proofs.YtoocfodefbechaaGreatDoor.Real Go.Proofs.YtoocfodefbechaaGreatDoor.RealPure Go.Proofs.YtoocfodefbechaaGreatDoorW.PrintWords Go.Proofs.YtoocfodefbechaaGreatDoorW.PrintLast Go.Proofs.YtoocfodefbechaaGreatDoorW.PrintMore
set_option linter.unusedSimpArgs false
set_option linter.unusedVariables false

def truncD : Nat → V → V
  | 0, x => ⟨x.f0, x.f1, x.f2, x.f3, [], x.f5⟩
  | d + 1, x => ⟨x.f0, x.f1, x.f2, x.f3, x.f4.map (truncD d), x.f5⟩
def szD : Nat → V → Prop
  | 0, _ => True
  | d + 1, x => x.f4.length < 1599289640401 ∧ x.f5.length < 8796093022208 ∧ ∀ z ∈ x.f4, szD d z
theorem copyF_le {a0 a1 a2 : Int} {a3 : ByteArray} {l4 : List V} {l5 : List ByteArray} {a6 : Int} {k : Nat} {r} (h : stolelaw0_CopyValue.f k a0 a1 a2 a3 l4 l5 a6 = some r) : ∀ m, stolelaw0_CopyValue.f (k + m) a0 a1 a2 a3 l4 l5 a6 = some r
  | 0 => h
  | m + 1 => stolelaw0_CopyValue.mono a0 a1 a2 a3 l4 l5 a6 (k + m) _ (copyF_le h m)
theorem copyL_le {x1 x6 b0 b1 b2 : Int} {b3 : ByteArray} {b4 : List V} {b5 : List ByteArray} {c0 c1 c2 : Int} {c3 : ByteArray} {c4 : List V} {c5 : List ByteArray} {k : Nat} {r} (h : stolelaw0_CopyValue.l0 k x1 x6 b0 b1 b2 b3 b4 b5 c0 c1 c2 c3 c4 c5 = some r) : ∀ m, stolelaw0_CopyValue.l0 (k + m) x1 x6 b0 b1 b2 b3 b4 b5 c0 c1 c2 c3 c4 c5 = some r
  | 0 => h
  | m + 1 => (stolelaw0_CopyValue.mono_l (k + m)).2 x1 x6 b0 b1 b2 b3 b4 b5 c0 c1 c2 c3 c4 c5 _ (copyL_le h m)
theorem copy_loop (d : Nat) (hd : d < 1000000) (l4 : List V) (hl : l4.length < 1599289640401) (b0 b1 b2 : Int) (b3 : ByteArray) (b5 : List ByteArray) (c0 c1 c2 : Int) (c3 : ByteArray) (c5 : List ByteArray)
    (ih : ∀ z ∈ l4, ∃ k, stolelaw0_CopyValue.f k z.f0 z.f1 z.f2 z.f3 z.f4 z.f5 (d : Int) = some (z.f0, z.f1, z.f2, z.f3, (truncD d z).f4, z.f5)) :
    ∀ m i acc, i + m = l4.length → acc.length = i → ∃ k, stolelaw0_CopyValue.l0 k ((d : Int) + 1) (i : Int) b0 b1 b2 b3 l4 b5 c0 c1 c2 c3 acc c5 = some (c0, c1, c2, c3, acc ++ (l4.drop i).map (truncD d), c5)
  | 0, i, acc, h, ha => ⟨1, by
    unfold stolelaw0_CopyValue.l0
    rw [if_neg (by omega), List.drop_eq_nil_of_le (by omega)]
    simp⟩
  | m + 1, i, acc, h, ha => by
    have hi : i < l4.length := by omega
    have hrd : rd_T27 l4 (i : Int) = l4[i] := by unfold rd_T27; simp [hi]
    obtain ⟨k1, h1⟩ := ih l4[i] (List.getElem_mem hi)
    obtain ⟨k2, h2⟩ := copy_loop d hd l4 hl b0 b1 b2 b3 b5 c0 c1 c2 c3 c5 ih m (i + 1) (acc ++ [truncD d l4[i]]) (by omega) (by rw [List.length_append, ha]; rfl)
    refine ⟨k1 + k2 + 1, ?_⟩
    have e1 : wrap64 ((d : Int) + 1 - 1) = (d : Int) := by rw [wrap_small _ (by omega) (by omega)]; omega
    have e2 : wrap64 ((i : Int) + 1) = ((i + 1 : Nat) : Int) := by rw [wrap_small _ (by omega) (by omega)]; rfl
    unfold stolelaw0_CopyValue.l0
    rw [if_pos (by omega), if_pos (by omega), if_pos (by omega), hrd, e1, copyF_le h1 k2]
    show (if acc.length < 1599289640401 then _ else none) = _
    rw [if_pos (by omega), e2]
    have e3 : (⟨l4[i].f0, l4[i].f1, l4[i].f2, l4[i].f3, (truncD d l4[i]).f4, l4[i].f5⟩ : S27) = truncD d l4[i] := by cases d <;> rfl
    rw [e3, Nat.add_comm k1 k2, copyL_le h2 k1]
    rw [List.drop_eq_getElem_cons hi, List.map_cons]
    simp
theorem copy_total : ∀ d x, d < 1000000 → szD (d + 1) x → ∃ k, stolelaw0_CopyValue.f k x.f0 x.f1 x.f2 x.f3 x.f4 x.f5 (d : Int) = some (x.f0, x.f1, x.f2, x.f3, (truncD d x).f4, x.f5)
  | 0, x, _, h => ⟨2, by
    have h5 := h.2.1
    unfold stolelaw0_CopyValue.f
    rw [Option.bind_some, if_pos (by simpa using h5)]
    unfold stolelaw0_CopyValue.l0
    by_cases c : (0 : Int) < (x.f4.length : Int)
    · rw [if_pos c, if_neg (by decide)]; rfl
    · rw [if_neg c]; rfl⟩
  | d + 1, x, hd, h => by
    obtain ⟨k, hk⟩ := copy_loop d (by omega) x.f4 h.1 x.f0 x.f1 x.f2 x.f3 x.f5 x.f0 x.f1 x.f2 x.f3 x.f5 (fun z hz => copy_total d z (by omega) (h.2.2 z hz)) x.f4.length 0 [] (by omega) rfl
    refine ⟨k + 1, ?_⟩
    have h5 := h.2.1
    unfold stolelaw0_CopyValue.f
    rw [Option.bind_some, if_pos (by simpa using h5)]
    have e : ((d + 1 : Nat) : Int) = (d : Int) + 1 := by omega
    rw [e]
    simpa [truncD] using hk
theorem CopyV_calls (d : Nat) (hd : d < 1000000) (x : V) (A4 : Option Addr) (c4 : Nat) (A5 : Option Addr) (c5 : Nat) (w : World) (h : Rows4 w x A4 c4 A5 c5) (hs : szD (d + 1) x) :
    Calls Tryz.prog 4 #[arg x A4 c4 A5 c5, .int .i64 (d : Int)] w fun e w' => ∃ v4 v5, e = .returned (.agg #[.int .i64 x.f0, .int .i64 x.f1, .int .u64 x.f2, .string x.f3, v4, v5]) ∧
      Kd.R k27 27 w' w.heap.size (fun k_ => some k_ ≠ v5.ownBlock) v4 (truncD d x).f4 ∧ Kd.R Kd.string 9 w' w.heap.size (fun _ => True) v5 x.f5 ∧ Below w.heap.size w w' := by
  obtain ⟨k, hk⟩ := copy_total d x hd hs
  exact stolelaw0_CopyValue.calls k x.f0 x.f1 x.f2 x.f3 A4 c4 x.f4 A5 c5 x.f5 (d : Int) _ _ _ _ _ _ w h.k4 h.l4 h.k5 h.l5 hk
theorem trunc_own (d : Nat) (x : V) : ownB (truncD (d + 1) x) = ownB x := by
  unfold ownB plainB truncD
  simp
theorem trunc_mayL (d e : Nat) (ih : ∀ z l, (mayD d (truncD e z) l) = mayD d z l) : ∀ ys l, mayL (mayD d) (ys.map (truncD e)) l = mayL (mayD d) ys l
  | [], _ => rfl
  | y :: ys, l => by
    rw [List.map_cons]
    unfold mayL
    rw [ih y l]
    split
    · exact trunc_mayL d e ih ys _
    · rfl
theorem trunc_mayD : ∀ d e, d < e → ∀ x l, mayD d (truncD e x) l = mayD d x l
  | 0, e, h, x, l => by cases e <;> rfl
  | d + 1, 0, h, x, l => by omega
  | d + 1, e + 1, h, x, l => by
    unfold mayD
    rw [trunc_own]
    show (if l - 1 < 0 then (false, l - 1) else if ownB x = true then mayL (mayD d) (x.f4.map (truncD e)) (l - 1) else (false, l - 1)) = _
    rw [trunc_mayL d e (fun z l => trunc_mayD d e (by omega) z l)]
theorem trunc_may (x : V) : mayB (truncD 40 x) = mayB x := by
  unfold mayB
  rw [trunc_mayD 8 40 (by decide)]
theorem trunc_same : ∀ e x, deepD (e + 1) x → truncD e x = x
  | 0, ⟨f0, f1, f2, f3, f4, f5⟩, h => by
    have h4 : f4 = [] := by
      cases f4 with
      | nil => rfl
      | cons y ys => exact (h y List.mem_cons_self).elim
    subst h4
    rfl
  | e + 1, ⟨f0, f1, f2, f3, f4, f5⟩, h => by
    have h4 : f4.map (truncD e) = f4 := by
      conv => rhs; rw [← List.map_id f4]
      exact List.map_congr_left fun z hz => trunc_same e z (h z hz)
    show (⟨f0, f1, f2, f3, f4.map (truncD e), f5⟩ : V) = _
    rw [h4]
theorem may_deepD : ∀ d x l, (mayD d x l).1 = true → deepD d x
  | 0, x, l, h => by cases h
  | d + 1, x, l, h => by
    unfold mayD at h
    split at h
    · cases h
    · split at h
      · intro z hz
        obtain ⟨l', h2⟩ := may_each _ _ _ h z hz
        exact may_deepD d z l' h2
      · cases h
theorem may_deep {x : V} (h : mayB x = true) : deepD 8 x := may_deepD 8 x 1024 h
theorem trunc_of_may {x : V} (h : mayB x = true) : truncD 40 x = x := trunc_same 40 x (deep_le (may_deep h) (by decide))
end Go.Proofs.YtoocfodefbechaaGreatDoor.Values
