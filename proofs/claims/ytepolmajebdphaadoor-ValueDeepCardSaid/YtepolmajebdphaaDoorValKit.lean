/- Rows of values and of texts in blocks, read. -/
import Derived.Test.YtepolmajebdphaaDoorAwake4
namespace Go.Proofs.YtepolmajebdphaaDoor.Values
open Go.RowKit Go.Proofs.YtepolmajebdphaaDoor.Q Go.Proofs.YtepolmajebdphaaDoor.Real Go.Proofs.YtepolmajebdphaaDoor.RealPure Go.Proofs.YtepolmajebdphaaDoorW.PrintWords Go.Proofs.YtepolmajebdphaaDoorW.PrintLast Go.Proofs.YtepolmajebdphaaDoorW.PrintMore
set_option linter.unusedSimpArgs false
set_option linter.unusedVariables false
set_option maxRecDepth 100000

/-! ### rows in blocks -/
theorem row_blockV {W : World} {g : Nat} {xs : List V} {cs : List Value} (hg : W.heap[g]? = some (.cells cs.toArray 26 (0, 0))) (h : Reps (k26.K W) 6 xs cs) (hl : xs.length ≤ 9223372036854775807) : Kd.C k26 W (some ⟨g, 0, none⟩) xs.length xs := by
  refine ⟨rfl, hl, fun _ => ⟨⟨g, 0, none⟩, rfl, fun j p hj => ⟨(cs.drop (j * 6)).take 6, ?_, h.2 j p hj, fun i u hu => ?_⟩⟩⟩
  · have hjl := (List.getElem?_eq_some_iff.1 hj).1
    have h1 : j * 6 + 6 ≤ cs.length := by rw [h.1, ← Nat.succ_mul]; exact Nat.mul_le_mul_right _ hjl
    show ((cs.drop (j * 6)).take 6).length = 6
    rw [List.length_take, List.length_drop]
    omega
  · rw [List.getElem?_take] at hu
    split at hu
    · rw [List.getElem?_drop] at hu
      show W.cell? ((⟨g, 0, none⟩ : Addr).add (j * 6 + i)) = some u
      rw [Addr.add_lit, blk_cell hg _]
      simpa using hu
    · cases hu
theorem row_blockT {W : World} {g n : Nat} {xs : List ByteArray} {cs : List Value} (hg : W.heap[g]? = some (.cells cs.toArray 9 (0, 0))) (h : ∀ (j : Nat) (p : ByteArray), xs[j]? = some p → cs[j]? = some (Value.string p)) (hn : xs.length = n) (hl : n ≤ 9223372036854775807) : Kd.C Kd.string W (some ⟨g, 0, none⟩) n xs := by
  refine ⟨hn, hl, fun _ => ⟨⟨g, 0, none⟩, rfl, fun j p hj => ⟨[.string p], rfl, rfl, fun i u hu => ?_⟩⟩⟩
  rcases i with _ | i
  · obtain rfl : Value.string p = u := Option.some.inj hu
    show W.cell? ((⟨g, 0, none⟩ : Addr).add (j * 1 + 0)) = _
    rw [Addr.add_lit, blk_cell hg _]
    have := h j p hj
    simpa using this
  · simp at hu
theorem reps2V {W : World} {x y : V} {c0 c1 c2 c3 c4 c5 d0 d1 d2 d3 d4 d5 : Value} (hx : k26.K W x [c0, c1, c2, c3, c4, c5]) (hy : k26.K W y [d0, d1, d2, d3, d4, d5]) : Reps (k26.K W) 6 [x, y] [c0, c1, c2, c3, c4, c5, d0, d1, d2, d3, d4, d5] := by
  refine ⟨rfl, fun j p hj => ?_⟩
  rcases j with _ | _ | j
  · obtain rfl : x = p := Option.some.inj hj
    exact hx
  · obtain rfl : y = p := Option.some.inj hj
    exact hy
  · simp at hj
theorem leafV (W : World) (y : V) (h4 : y.f4 = []) (h5 : y.f5 = []) : k26.K W y [.int .i64 y.f0, .int .i64 y.f1, .int .u64 y.f2, .string y.f3, .slice none 0 0, .slice none 0 0] := by
  have := k26_mk W y (A4 := none) (c4 := 0) (by rw [h4]; exact Nat.le_refl _) (by rw [h4]; exact Kd.C_nil _ _) (A5 := none) (c5 := 0) (by rw [h5]; exact Nat.le_refl _) (by rw [h5]; exact Kd.C_nil _ _)
  rw [h4, h5] at this
  exact this

end Go.Proofs.YtepolmajebdphaaDoor.Values
