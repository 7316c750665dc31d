/- Bytes that are made, as a text. · What cat answers of texts and numbers; rows of leaves, in cells. · stolelaw18.CallCats, walked: it answers true, whatever the texts and the numbers. -/
import Derived.Test.YtepolmajebdphaaDoorValues
import Derived.Test.YtepolmajebdphaaDoorCallKit
import Derived.Test.YtepolmajebdphaaDoorD1
import Derived.Deep.AppendLies
import Derived.Test.YtepolmajebdphaaDoorAwake18
import Derived.Deep.CutBlock
namespace Go.Proofs.YtepolmajebdphaaDoor.Fns
open Go.RowKit Go.Proofs.YtepolmajebdphaaDoor.Q Go.Proofs.YtepolmajebdphaaDoor.Real Go.Proofs.YtepolmajebdphaaDoor.RealPure Go.Proofs.YtepolmajebdphaaDoor.Values Go.Proofs.YtepolmajebdphaaDoorW.PrintWords Go.Proofs.YtepolmajebdphaaDoorW.PrintLast Go.Proofs.YtepolmajebdphaaDoorW.PrintMore
set_option linter.unusedSimpArgs false
set_option linter.unusedVariables false
set_option maxRecDepth 100000
/-! ### zeros that are made -/
def zs (n : Nat) : ByteArray := ⟨(List.replicate n (0 : UInt8)).toArray⟩
theorem zs_size (n : Nat) : (zs n).size = n := by unfold zs; show (List.replicate n (0 : UInt8)).toArray.size = n; simp
theorem made_bytes (n : Int) (h0 : 0 ≤ n) (h1 : n ≤ 70000) (W : World) : (Instr.makeSlice 57 (.int .i64 n) (.int .i64 n)).run Tryd.prog W = .ok (.slice (some ⟨W.heap.size, 0, none⟩) n.toNat n.toNat) (W.alloc (.cells (madeCells #[.int .u8 0] n.toNat) 5)) := by
  obtain ⟨i0, hi, hz0, hz1, hz2⟩ := info_parts (by kernel_rfl : (Tryd.prog.info? 5).map (fun i => (i.zero, i.size, i.bytes)) = some (some (.int .u8 0), 1, 1))
  have := run_make (P := Tryd.prog) W 57 5 i0 (.int .u8 0) Tryd.underlying57 hi hz0 .i64 .i64 n n h0 (Int.le_refl _) (by rw [hz2]; omega) (by omega)
  rw [hz1, Nat.mul_one] at this
  exact this
theorem conv_bytes (W : World) (g n c : Nat) (h : W.heap[g]? = some (.cells (madeCells #[.int .u8 0] n) 5 (0, 0))) : (convert 57 9 (.slice (some ⟨g, 0, none⟩) n c)).run Tryd.prog W = .ok (.string (zs n)) W := by
  have := run_convert_bytes_back (P := Tryd.prog) W 57 9 5 ⟨g, 0, none⟩ c (List.replicate n (0 : UInt8)) Tryd.underlying57 Tryd.underlying5 Tryd.underlying9 (fun j hj => by
    rw [Addr.add_lit, blk_cell h _]
    simp at hj
    simp [madeCells, hj, Nat.mod_one])
  rw [List.length_replicate] at this
  exact this
end Go.Proofs.YtepolmajebdphaaDoor.Fns
namespace Go.Proofs.YtepolmajebdphaaDoor.Fns
open Go.RowKit Go.Proofs.YtepolmajebdphaaDoor.Q Go.Proofs.YtepolmajebdphaaDoor.D Go.Proofs.YtepolmajebdphaaDoor.Real Go.Proofs.YtepolmajebdphaaDoor.RealPure Go.Proofs.YtepolmajebdphaaDoor.Values Go.Proofs.YtepolmajebdphaaDoorW.PrintWords Go.Proofs.YtepolmajebdphaaDoorW.PrintLast Go.Proofs.YtepolmajebdphaaDoorW.PrintMore
set_option linter.unusedSimpArgs false
set_option linter.unusedVariables false
set_option maxRecDepth 100000

theorem _root_.Go.Proofs.YtepolmajebdphaaDoor.Values.open_texts {H : Type} {enc : TypeId × Value → H} {w : World} {sp : Nat → Bool} {held : Bool} {t : TypeId} {v : Value} {d : DataW H} {ps : List MemPlace} (ht : Tryd.prog.underlying t = some (.slice 9)) (hv : v.cells.toList = [v]) (h : DataW.Trod enc Tryd.prog w 0 sp held t v d ps) :
    ∃ (A : Option Addr) (l : List ByteArray) (c : Nat), v = .slice A l.length c ∧ l.length ≤ c ∧ Kd.C Kd.string w A l.length l := by
  obtain ⟨fuel, h⟩ := h
  rw [hv] at h
  obtain ⟨A, l, c, e, hl, hr⟩ := read_texts ht h
  exact ⟨A, l, c, by injection e, hl, hr⟩
/-! ### the pieces -/
def digB (z : Int) : ByteArray := ⟨(Lib.itoa z).toArray⟩
def pieceS (l : List ByteArray) (i : Nat) : ByteArray := l.getD i ByteArray.empty
def pieceZ (k i : Nat) : Int := (i : Int) - (k : Int)
def argsV (l : List ByteArray) (k : Nat) : Nat → List V
  | 0 => []
  | i + 1 => argsV l k i ++ [textV (pieceS l i), numV (pieceZ k i)]
def argsC (l : List ByteArray) (k : Nat) : Nat → List Value
  | 0 => []
  | i + 1 => argsC l k i ++ [.int .i64 4, .int .i64 0, .int .u64 0, .string (pieceS l i), .slice none 0 0, .slice none 0 0, .int .i64 2, .int .i64 (pieceZ k i), .int .u64 0, .string ⟨#[]⟩, .slice none 0 0, .slice none 0 0]
def wantB (l : List ByteArray) (k : Nat) : Nat → ByteArray
  | 0 => ⟨#[]⟩
  | i + 1 => wantB l k i ++ pieceS l i ++ digB (pieceZ k i)
theorem argsV_len (l : List ByteArray) (k : Nat) : ∀ i, (argsV l k i).length = 2 * i
  | 0 => rfl
  | i + 1 => by rw [argsV, List.length_append, argsV_len l k i]; rfl
theorem leafF (W : World) (y : V) (h4 : y.f4 = []) (h5 : y.f5 = []) : k26.K W y [.int .i64 y.f0, .int .i64 y.f1, .int .u64 y.f2, .string y.f3, .slice none 0 0, .slice none 0 0] := leafK2 W y h4 h5
theorem args_reps (W : World) (l : List ByteArray) (k : Nat) : ∀ i, Reps (k26.K W) 6 (argsV l k i) (argsC l k i)
  | 0 => Reps.none _ _
  | i + 1 => by
    have h1 := (args_reps W l k i).snoc (show k26.K W (textV (pieceS l i)) [.int .i64 4, .int .i64 0, .int .u64 0, .string (pieceS l i), .slice none 0 0, .slice none 0 0] from leafF W (textV (pieceS l i)) rfl rfl) rfl
    have h2 := h1.snoc (show k26.K W (numV (pieceZ k i)) [.int .i64 2, .int .i64 (pieceZ k i), .int .u64 0, .string ⟨#[]⟩, .slice none 0 0, .slice none 0 0] from leafF W (numV (pieceZ k i)) rfl rfl) rfl
    simpa [argsV, argsC] using h2
/-- A row of one's own, read. -/
theorem own_readsF {W : World} {base n : Nat} {v : Value} {cs : List Value} {xs : List V} (h : W.ownsRow base 26 6 v n cs) (hr : Reps (k26.K W) 6 xs cs) (hn : xs.length = n) : ∃ A c, v = .slice A n c ∧ n ≤ c ∧ Kd.C k26 W A n xs := by
  obtain ⟨hl, h2⟩ := h
  rcases h2 with ⟨rfl, h0⟩ | ⟨g, cap, cur, rfl, hg, hh, hc, hm, hsz, ht⟩
  · subst h0
    obtain rfl : xs = [] := List.eq_nil_of_length_eq_zero hn
    exact ⟨none, 0, rfl, Nat.le_refl _, Kd.C_nil _ _⟩
  · refine ⟨some ⟨g, 0, none⟩, cap, rfl, hc, hn, Nat.le_trans hc hm, fun _ => ⟨⟨g, 0, none⟩, rfl, fun j p hj => ⟨(cs.drop (j * 6)).take 6, ?_, hr.2 j p hj, fun i u hu => ?_⟩⟩⟩
    · have hjl := (List.getElem?_eq_some_iff.1 hj).1
      have h1 : j * 6 + 6 ≤ cs.length := by rw [hr.1, ← Nat.succ_mul]; exact Nat.mul_le_mul_right _ hjl
      show ((cs.drop (j * 6)).take 6).length = 6
      rw [List.length_take, List.length_drop]
      omega
    · rw [List.getElem?_take] at hu
      split at hu
      · rw [List.getElem?_drop] at hu
        show W.cell? ((⟨g, 0, none⟩ : Addr).add (j * 6 + i)) = some u
        rw [Addr.add_lit, blk_cell hh _]
        rw [← ht, List.getElem?_take] at hu
        split at hu
        · simpa using hu
        · cases hu
      · cases hu
/-! ### what cat answers -/
def sumL : List V → Nat
  | [] => 0
  | x :: xs => (saidS x).size + sumL xs
def joinL : List V → List UInt8
  | [] => []
  | x :: xs => (saidS x).data.toList ++ joinL xs
theorem size_data (s : ByteArray) : s.data.toList.length = s.size := by rw [Array.length_toList]; rfl
theorem catL_long : ∀ (xs : List V) (acc : List UInt8), (∀ x ∈ xs, saidE x = 0) → catL xs acc true = (z26, 1803)
  | [], _, _ => rfl
  | x :: xs, acc, h => by
    unfold catL
    rw [if_pos (h x List.mem_cons_self), Bool.true_or, if_pos rfl]
    exact catL_long xs acc fun z hz => h z (List.mem_cons_of_mem _ hz)
theorem catL_eq : ∀ (xs : List V) (acc : List UInt8), (∀ x ∈ xs, saidE x = 0) → catL xs acc false = (if acc.length + sumL xs ≤ 65536 ∨ xs = [] then (textV ⟨(acc ++ joinL xs).toArray⟩, 0) else (z26, 1803))
  | [], acc, _ => by simp [catL, sumL, joinL]
  | x :: xs, acc, h => by
    unfold catL
    rw [if_pos (h x List.mem_cons_self), Bool.false_or]
    have hx : ∀ z ∈ xs, saidE z = 0 := fun z hz => h z (List.mem_cons_of_mem _ hz)
    by_cases c : 65536 < ((acc.length : Int) + ((saidS x).size : Int))
    · rw [if_pos (decide_eq_true c), catL_long xs acc hx, if_neg]
      simp only [sumL, reduceCtorEq, or_false]
      omega
    · rw [if_neg (by simp; omega), catL_eq xs _ hx]
      have e : (acc ++ (saidS x).data.toList).length = acc.length + (saidS x).size := by rw [List.length_append, size_data]
      rw [e]
      by_cases c2 : acc.length + (saidS x).size + sumL xs ≤ 65536
      · rw [if_pos (.inl c2), if_pos (.inl (by simp only [sumL]; omega))]
        simp [joinL]
      · by_cases c3 : xs = []
        · subst c3
          exfalso
          simp only [sumL] at c2
          omega
        · rw [if_neg (by simp [c3]; omega), if_neg (by simp only [sumL, reduceCtorEq, or_false]; omega)]
theorem cat_eq (xs : List V) (h : ∀ x ∈ xs, saidE x = 0) : catR xs = (if sumL xs ≤ 65536 then (textV ⟨(joinL xs).toArray⟩, 0) else (z26, 1803)) := by
  unfold catR
  rw [catL_eq xs [] h]
  by_cases c : xs = []
  · subst c; rfl
  · simp [c]
theorem sumL_app : ∀ xs ys, sumL (xs ++ ys) = sumL xs + sumL ys
  | [], ys => by simp [sumL]
  | x :: xs, ys => by rw [List.cons_append, sumL, sumL, sumL_app xs ys]; omega
theorem joinL_app : ∀ xs ys, joinL (xs ++ ys) = joinL xs ++ joinL ys
  | [], ys => rfl
  | x :: xs, ys => by rw [List.cons_append, joinL, joinL, joinL_app xs ys, List.append_assoc]
theorem said_text (s : ByteArray) : saidS (textV s) = s := rfl
theorem said_num (z : Int) : saidS (numV z) = digB z := rfl
theorem app_data (a b : ByteArray) : (a ++ b).data.toList = a.data.toList ++ b.data.toList := by simp
theorem want_join (l : List ByteArray) (k : Nat) : ∀ i, joinL (argsV l k i) = (wantB l k i).data.toList
  | 0 => rfl
  | i + 1 => by
    rw [argsV, joinL_app, want_join l k i, wantB, app_data, app_data]
    simp [joinL, said_text, said_num]
theorem want_sum (l : List ByteArray) (k : Nat) : ∀ i, sumL (argsV l k i) = (wantB l k i).size
  | 0 => rfl
  | i + 1 => by
    rw [argsV, sumL_app, want_sum l k i, wantB, ByteArray.size_append, ByteArray.size_append]
    simp [sumL, said_text, said_num]
    omega
theorem args_said (l : List ByteArray) (k : Nat) : ∀ i, ∀ x ∈ argsV l k i, saidE x = 0
  | 0, x, h => by cases h
  | i + 1, x, h => by
    rw [argsV, List.mem_append] at h
    rcases h with h | h
    · exact args_said l k i x h
    · simp only [List.mem_cons, List.not_mem_nil, or_false] at h
      rcases h with rfl | rfl <;> rfl
theorem args_may (l : List ByteArray) (k : Nat) (hk : k < 8) : ∀ i, i ≤ 6 → (∀ j, j < i → (pieceS l j).size ≤ 65536) → ∀ x ∈ argsV l k i, mayB x = true
  | 0, _, _, x, h => by cases h
  | i + 1, hi, hs, x, h => by
    rw [argsV, List.mem_append] at h
    rcases h with h | h
    · exact args_may l k hk i (by omega) (fun j hj => hs j (by omega)) x h
    · simp only [List.mem_cons, List.not_mem_nil, or_false] at h
      rcases h with rfl | rfl
      · exact may_textV _ (hs i (by omega))
      · exact may_numV _ (by unfold pieceZ; omega) (by unfold pieceZ; omega)
theorem args_rng (l : List ByteArray) (k : Nat) : ∀ i, ∀ x ∈ argsV l k i, rngD 8 x
  | 0, x, h => by cases h
  | i + 1, x, h => by
    rw [argsV, List.mem_append] at h
    rcases h with h | h
    · exact args_rng l k i x h
    · simp only [List.mem_cons, List.not_mem_nil, or_false] at h
      rcases h with rfl | rfl <;> exact ⟨Int.le_refl 0, by show (0 : Int) < 2 ^ 64; decide, fun z hz => by cases hz⟩
theorem cat_args (l : List ByteArray) (k : Nat) (hk : k < 8) (i : Nat) (hi : i ≤ 6) (hs : ∀ j, j < i → (pieceS l j).size ≤ 65536) :
    callR (⟨#[99, 97, 116]⟩ : ByteArray) (argsV l k i) = (if (wantB l k i).size ≤ 65536 then (textV (wantB l k i), 0) else (z26, 1803)) := by
  rw [callR_of _ _ 7 (by kernel_rfl) (by kernel_rfl) (by unfold countBad knownR; simp) (args_may l k hk i hi hs)]
  show catR _ = _
  rw [cat_eq _ (args_said l k i), want_sum, want_join]
/-! ### many alike -/
theorem cat_many (s : ByteArray) (n : Nat) (hs : s.size = 9000) (hn : n ≤ 8) : callR (⟨#[99, 97, 116]⟩ : ByteArray) (List.replicate n (textV s)) = (if 9000 * n ≤ 65536 then (textV ⟨(joinL (List.replicate n (textV s))).toArray⟩, 0) else (z26, 1803)) := by
  rw [callR_of _ _ 7 (by kernel_rfl) (by kernel_rfl) (by unfold countBad knownR; simp) (fun z hz => by rw [(List.mem_replicate.1 hz).2]; exact may_textV _ (by omega))]
  show catR _ = _
  rw [cat_eq _ (fun z hz => by rw [(List.mem_replicate.1 hz).2]; rfl)]
  have e : ∀ n, sumL (List.replicate n (textV s)) = 9000 * n := fun n => by
    induction n with
    | zero => rfl
    | succ n ih => rw [List.replicate_succ, sumL, ih, said_text, hs]; omega
  rw [e]
theorem join_many (s : ByteArray) (hs : s.size = 9000) : ∀ n, (joinL (List.replicate n (textV s))).length = 9000 * n
  | 0 => rfl
  | n + 1 => by rw [List.replicate_succ, joinL, List.length_append, join_many s hs n, said_text, size_data, hs]; omega
def sameC (r : List Value) (n : Nat) : List Value := (List.range n).flatMap fun _ => r
theorem sameC_succ (r : List Value) (n : Nat) : sameC r (n + 1) = sameC r n ++ r := by
  unfold sameC
  rw [List.range_succ, List.flatMap_append]
  simp
theorem reps_same (W : World) (x : V) (r : List Value) (h : k26.K W x r) : ∀ n, Reps (k26.K W) 6 (List.replicate n x) (sameC r n)
  | 0 => Reps.none _ _
  | n + 1 => by
    rw [List.replicate_succ', sameC_succ]
    exact (reps_same W x r h n).snoc h (k26.K_len h)
/-! ### Number -/
theorem number_all : ((List.range 13).all fun (i : Nat) => ((stoleref1_Number.f 40 ((i : Int) - 7)).map fun b => b.data.toList) == some (digB ((i : Int) - 7)).data.toList) = true := by kernel_rfl
theorem number_of (z : Int) (h0 : -7 ≤ z) (h1 : z ≤ 5) : stoleref1_Number.f 40 z = some (digB z) := by
  have h := List.all_eq_true.1 number_all (z + 7).toNat (List.mem_range.2 (by omega))
  rw [show (((z + 7).toNat : Nat) : Int) - 7 = z by omega] at h
  have h2 := eq_of_beq h
  cases hf : stoleref1_Number.f 40 z with
  | none => rw [hf] at h2; cases h2
  | some b =>
    rw [hf] at h2
    have h3 : b.data.toList = (digB z).data.toList := Option.some.inj h2
    have h4 : b = digB z := by
      cases b
      unfold digB at h3 ⊢
      simp at h3 ⊢
      rw [← h3]
    rw [h4]
theorem number_calls (z : Int) (h0 : -7 ≤ z) (h1 : z ≤ 5) (W : World) : Calls Tryd.prog 47 #[.int .i64 z] W fun e w' => e = .returned (.string (digB z)) ∧ Below W.heap.size W w' := stoleref1_Number.calls 40 z _ W (number_of z h0 h1)
theorem dig_size (z : Int) (h0 : -7 ≤ z) (h1 : z ≤ 5) : (digB z).size ≤ 2 := by
  have h : ((List.range 13).all fun (i : Nat) => decide ((digB ((i : Int) - 7)).size ≤ 2)) = true := by kernel_rfl
  have h := List.all_eq_true.1 h (z + 7).toNat (List.mem_range.2 (by omega))
  rw [show (((z + 7).toNat : Nat) : Int) - 7 = z by omega] at h
  simpa using h
theorem want_size (l : List ByteArray) (k : Nat) (hk : k < 8) : ∀ i, i ≤ 6 → (∀ j, j < i → (pieceS l j).size ≤ 65536) → (wantB l k i).size ≤ 65538 * i
  | 0, _, _ => Nat.le_refl _
  | i + 1, hi, hs => by
    have h1 := want_size l k hk i (by omega) (fun j hj => hs j (by omega))
    have h2 := dig_size (pieceZ k i) (by unfold pieceZ; omega) (by unfold pieceZ; omega)
    have h3 := hs i (by omega)
    rw [wantB, ByteArray.size_append, ByteArray.size_append]
    omega
theorem and7C (a : Int) : ∃ K : Nat, bits .and .i64 a 7 = (K : Int) ∧ K < 8 := by
  have hc : (BitVec.ofInt 64 7).toNat = 2 ^ 3 - 1 := by decide
  have key : (BitVec.ofInt 64 a &&& BitVec.ofInt 64 7).toNat = (a % ((2 ^ 64 : Nat) : Int)).toNat % 2 ^ 3 := by
    rw [BitVec.toNat_and, BitVec.toNat_ofInt, hc, Nat.and_two_pow_sub_one_eq_mod]
  have hv : bits .and .i64 a 7 = ((a % ((2 ^ 64 : Nat) : Int)).toNat % 2 ^ 3 : Nat) := by
    show IntKind.i64.wrap ((BitVec.ofInt 64 a &&& BitVec.ofInt 64 7).toNat : Nat) = _
    rw [key, IntKind.wrap_i64]
    omega
  exact ⟨_, hv, Nat.mod_lt _ (by decide)⟩
end Go.Proofs.YtepolmajebdphaaDoor.Fns
namespace Go.Proofs.YtepolmajebdphaaDoor.Fns
open Go.RowKit Go.Proofs.YtepolmajebdphaaDoor.Q Go.Proofs.YtepolmajebdphaaDoor.Real Go.Proofs.YtepolmajebdphaaDoor.RealPure Go.Proofs.YtepolmajebdphaaDoor.Values Go.Proofs.YtepolmajebdphaaDoorW.PrintWords Go.Proofs.YtepolmajebdphaaDoorW.PrintLast Go.Proofs.YtepolmajebdphaaDoorW.PrintMore
set_option linter.unusedSimpArgs false
set_option linter.unusedVariables false
set_option maxRecDepth 100000

set_option maxHeartbeats 64000000 in
theorem callCats_calls (A : Option Addr) (l : List ByteArray) (c : Nat) (x y : Int) (w : World) (hT : Tabs w) (hl : l.length ≤ c) (hr : Kd.C Kd.string w A l.length l) :
    Calls Tryd.prog 12 #[.slice A l.length c, .int .i64 x, .int .i64 y] w fun e w' => e = .returned (.bool true) ∧ Below w.heap.size w w' := by
  have hu26 := Tryd.underlying26
  have AW := Lib.hid (fun W (h : Below w.heap.size w W) => awake18_calls W (hT.below h))
  have HT := Lib.hid hT; have HR := Lib.hid hr; have HLm := Lib.hid hr.2.1
  have CN := Lib.hid num18; have CT := Lib.hid text18
  clear hT hl hr
  go_enter Tryd.func12, Tryd.ntmps12
  obtain ⟨K, hK, hK8⟩ := and7C x
  go_upto_region 3 with (first | (go_at_call 41; (with_reducible refine (AW.out _ (Below.refl _ _)).mono ?_); rintro e w1 ⟨rfl, hbn⟩; have HB := Lib.hid hbn; clear hbn))
  go_upto_block 0 with (fail)
  go_cut [6, 7, 8, 9] (fun v6 v7 v8 v9 wc => ∃ (i : Nat), v8 = .string (wantB l K i) ∧ Aside0 (i ≤ 6 ∧ ∀ j, j < i → (pieceS l j).size ≤ 65536) ∧ Aside0 (wc.ownsRow w.heap.size 26 6 v7 (2 * i) (argsC l K i)) ∧ Aside0 (Below w.heap.size w wc))
  case first =>
    go_wp2
    go_loopg [7, 8, 9] 6 (fun kq v7 v8 v9 wr => ∃ (i : Nat), v8 = .string (wantB l K i) ∧ v9 = .int .i64 (i : Int) ∧ Aside0 (i + kq = 6 ∧ i ≤ l.length ∧ ∀ j, j < i → (pieceS l j).size ≤ 65536) ∧ Aside0 (wr.ownsRow w.heap.size 26 6 v7 (2 * i) (argsC l K i)) ∧ Aside0 (Below w.heap.size w wr))
    case atStart => exact ⟨0, rfl, rfl, ⟨rfl, Nat.zero_le _, fun j hj => absurd hj (Nat.not_lt_zero j)⟩, ⟨World.ownsRow_nil _ _ _ _⟩, ⟨HB.out⟩⟩
    case round =>
    clear HB
    obtain ⟨i, rfl, rfl, HQ, HO0, HB0⟩ := hrel
    have HO := Lib.hid HO0.out; have HB := Lib.hid HB0.out
    obtain ⟨hi, hil, his⟩ := HQ.out
    clear HO0 HB0 HQ
    have HS := Lib.hid his
    clear his
    by_cases hend : i = l.length ∨ i = 6
    · have d0 : (decide (i < l.length) = false) ∨ (decide (i < l.length) = true ∧ decide ((i : Int) < 6) = false) := by
        by_cases h : i = l.length
        · exact .inl (decide_eq_false (by omega))
        · exact .inr ⟨decide_eq_true (by omega), decide_eq_false (by omega)⟩
      have HI := Lib.hid (show i ≤ 6 by omega)
      clear hend hi hil
      rcases d0 with d0 | ⟨d0, d1⟩
      all_goals
        go_wp2
        go_meet
        case rel => exact ⟨i, rfl, ⟨HI.out, HS.out⟩, ⟨HO.out⟩, ⟨HB.out⟩⟩
    · have hi6 : i < 6 := by omega
      have hin : i < l.length := by omega
      have d0 : decide (i < l.length) = true := decide_eq_true (by omega)
      have d1 : decide ((i : Int) < 6) = true := decide_eq_true (by omega)
      obtain ⟨ad, ea, hx⟩ := Kd.at_string (Kd.C_below HR.out HB.out) (i : Int) (by omega) (by omega)
      subst ea
      rw [show rdOf ByteArray.empty l (i : Int) = pieceS l i from rfl, Int.toNat_natCast] at hx
      have z0 := eq_true (show (0 : Int) ≤ (i : Int) by omega); have z1 := eq_true (show (i : Int) < (l.length : Int) by omega)
      have HI := Lib.hid (And.intro hi6 (And.intro hin hi))
      obtain ⟨k2, rfl⟩ : ∃ k, gk = k + 1 := ⟨gk - 1, by omega⟩
      clear hend hi hil hi6 hin
      by_cases hs : (65536 : Int) < ((pieceS l i).size : Int)
      · have ds : decide ((65536 : Int) < ((pieceS l i).size : Int)) = true := decide_eq_true hs
        clear hs
        go_wp2
        all_goals (try go_ret)
        all_goals exact ⟨rfl, HB.out⟩
      · have ds : decide ((65536 : Int) < ((pieceS l i).size : Int)) = false := decide_eq_false hs
        have HS1 := Lib.hid (show (pieceS l i).size ≤ 65536 by omega)
        clear hs
        have wz : wrap64 ((i : Int) - (K : Int)) = pieceZ K i := Values.wrap_small _ (by omega) (by have := HI.out.1; omega)
        have wz2 : IntKind.i64.wrap ((i : Int) - (K : Int)) = pieceZ K i := by rw [i64_w]; exact wz
        have wi : wrap64 ((i : Int) + 1) = (i : Int) + 1 := Values.wrap_small _ (by omega) (by have := HI.out.1; omega)
        have hz6 : -7 ≤ pieceZ K i ∧ pieceZ K i ≤ 5 := by have := HI.out.1; unfold pieceZ; omega
        have HZ := Lib.hid hz6
        have CNU := Lib.hid (number_calls (pieceZ K i) hz6.1 hz6.2)
        have HWS := Lib.hid (want_size l K hK8 i (Nat.le_of_lt HI.out.1) HS.out)
        have HDS := Lib.hid (dig_size (pieceZ K i) hz6.1 hz6.2)
        obtain ⟨i0, hi0, hz0, hz1, hz2⟩ := info_parts Q.info26
        have WI := Lib.hid wi
        clear hz6 wi
        generalize hze : pieceZ K i = z at *
        have HZE := Lib.hid hze
        clear hze
        go_upto_region 11 with (first
          | (go_at_call 45; (with_reducible refine (CT.out _ _).mono ?_); rintro e wt ⟨rfl, hbt⟩; have H1 := Lib.hid hbt; clear hbt)
          | (go_at_call 44; (with_reducible refine (CN.out _ _).mono ?_); rintro e wn ⟨rfl, hbt⟩; have H2 := Lib.hid (below_step H1.out hbt); clear hbt)
          | (at_builtin; refine wpList_append_lies _ rfl (.tmp 36) (.tmp 47) 23 rfl w.heap.size 26 i0 _ 6 88 Tryd.underlying23 hi0 hz0 hz1 hz2 rfl (by decide) u7 (2 * i) (argsC l K i) rfl (own_move HO.out (fun k hk => (below_alloc H2.out _).block k (HO.out.lt k hk).2)) ⟨wn.heap.size, 0, none⟩ 2 2 [.int .i64 4, .int .i64 0, .int .u64 0, .string (pieceS l i), .slice none 0 0, .slice none 0 0, .int .i64 2, .int .i64 z, .int .u64 0, .string ⟨#[]⟩, .slice none 0 0, .slice none 0 0] rfl rfl (fun j_ u_ hj_ => World.news_of_block (blk_new wn (.cells #[.int .i64 4, .int .i64 0, .int .u64 0, .string (pieceS l i), .slice none 0 0, .slice none 0 0, .int .i64 2, .int .i64 z, .int .u64 0, .string ⟨#[]⟩, .slice none 0 0, .slice none 0 0] 26)) j_ u_ hj_) (by intro u_ hu_; simp only [List.mem_cons, List.not_mem_nil, or_false] at hu_; rcases hu_ with rfl | rfl | rfl | rfl | rfl | rfl | rfl | rfl | rfl | rfl | rfl | rfl <;> rfl) (by decide) (by have := HI.out.1; unfold maxLen; omega) (by have := HI.out.1; omega) (below_size (below_step HB.out (below_alloc H2.out _))) _ rfl ?_; intro g cap wa hown hgrow hat hlt1; have HG := Lib.hid (And.intro hown hgrow); clear hown hgrow hat hlt1))
        have HBa := Lib.hid ((below_step HB.out (below_alloc H2.out _)).grown HG.out.2 (below_size (below_step HB.out (below_alloc H2.out _))) (fun k hk => (HO.out.lt k hk).1))
        have HOa := Lib.hid HG.out.1
        clear HG HO H1 H2 hx
        have HQ := Lib.hid (Below.refl wa.heap.size wa)
        obtain ⟨ad', ea', hx⟩ := Kd.at_string (Kd.C_below HR.out HBa.out) (i : Int) (by omega) (by have := HI.out.2.1; omega)
        obtain rfl := Option.some.inj ea'
        rw [show rdOf ByteArray.empty l (i : Int) = pieceS l i from rfl, Int.toNat_natCast] at hx
        have hxd := pw_cell_below (below_drew (Below.refl wa.heap.size wa)) hx
        have hq1 : (9223372036854775807 < (wantB l K i).size + (pieceS l i).size) = False := eq_false (by have := HWS.out; have := HS1.out; have := HI.out.1; omega)
        have hq2 : (9223372036854775807 < (wantB l K i).size + (pieceS l i).size + (digB z).size) = False := eq_false (by have := HWS.out; have := HS1.out; have := HI.out.1; have := HDS.out; omega)
        have hbn := below_drew (Below.refl wa.heap.size wa)
        have HQ' := Lib.hid (below_step HQ.out hbn); clear HQ; have HQ := HQ'; clear HQ'
        clear hbn
        have KEEP : ∀ w', Below wa.drew.heap.size wa.drew w' → (Below wa.drew.heap.size wa.drew w' ∧ w'.cell? (ad.add i) = some (.string (pieceS l i))) := fun w' h => ⟨h, pw_cell_below h hxd⟩
        (go_region_held3 (fun w' => Below wa.drew.heap.size wa.drew w' ∧ w'.cell? (ad.add i) = some (.string (pieceS l i))) (first | exact KEEP _ (Below.refl _ _) | exact KEEP _ (below_step (by first | assumption | exact And.left (by assumption) | exact Below.refl _ _) hb) | assumption) (first | (go_at_call 47; (with_reducible refine (CNU.out _).mono ?_); rintro e wn ⟨rfl, hb⟩)))
        all_goals
          go_wp2
          go_roundg k2
          case measure => omega
          case rel =>
            exact ⟨i + 1, by rw [wantB, HZE.out], by rw [WI.out]; push_cast; rfl, ⟨by have := HI.out.2.2; omega, by have := HI.out.2.1; omega, fun j hj => if h : j < i then HS.out j h else by rw [show j = i by omega]; exact HS1.out⟩, ⟨by rw [argsC, HZE.out]; exact own_move HOa.out (fun k hk => (below_step HQ.out (by first | assumption | exact And.left (by assumption) | exact Below.refl _ _)).block k (HOa.out.lt k hk).2)⟩, ⟨below_step HBa.out (below_step HQ.out (by first | assumption | exact And.left (by assumption) | exact Below.refl _ _))⟩⟩
  case rest =>
  clear HB
  generalize wc = wq at *
  obtain ⟨i, rfl, HQ0, HO0, HB0⟩ := hcut
  have HB := Lib.hid HB0.out
  obtain ⟨hi6, hsz⟩ := HQ0.out
  obtain ⟨A7, c7, rfl, hc7, hC7⟩ := own_readsF HO0.out (args_reps wq l K i) (argsV_len l K i)
  have GC := Lib.hid (show ∀ W, Below wq.heap.size wq W → Calls Tryd.prog 42 #[.string (⟨#[99, 97, 116]⟩ : ByteArray), .slice A7 (2 * i) c7] W fun e w' => GotR W w' e (callR (⟨#[99, 97, 116]⟩ : ByteArray) (argsV l K i)) from fun W hb => by
    have h := Call_calls (⟨#[99, 97, 116]⟩ : ByteArray) (argsV l K i) A7 c7 W ⟨HT.out.below (below_step HB.out hb), by rw [argsV_len]; omega, by rw [argsV_len]; exact Kd.C_below hC7 hb, args_rng l K i⟩
    rw [argsV_len] at h
    exact h.mono fun e w' h => got_r h (Below.refl _ _))
  rw [cat_args l K hK8 i hi6 hsz] at GC
  have HWS := Lib.hid (want_size l K hK8 i hi6 hsz)
  have HI6 := Lib.hid hi6
  clear HQ0 HO0 HB0 hc7 hC7 hi6 hsz hK hK8
  generalize wantB l K i = want at *
  have HQ := Lib.hid (Below.refl wq.heap.size wq)
  by_cases hw : want.size ≤ 65536
  case neg =>
    have dw : decide ((65536 : Int) < (want.size : Int)) = true := decide_eq_true (by omega)
    have dw2 : decide (65536 < want.size) = true := decide_eq_true (by omega)
    rw [if_neg hw] at GC
    clear hw
    go_wp2_with (first | (go_at_call 42; (with_reducible refine (GC.out _ HQ.out).mono ?_); rintro e wk ⟨E, e1, F, f1, rfl, hr, hbn⟩; have HQ' := Lib.hid (below_step HQ.out hbn); clear HQ; have HQ := HQ'; clear HQ'; have RX := Lib.hid hr; have BN := Lib.hid (blk_new wk zeros); clear hbn hr) | ((with_reducible refine gate_store (t := 26) (p := 10) rfl ?_); refine row_event (by rfl) (by rfl) (by rfl) (by rfl) (by rfl) BN.out (by exact size26) (by rfl) (by first | rfl | simp [Value.oneCell']) ?_; intro wm hz ho hb0; have hbn := hb0 (w0 := wk) (Nat.le_refl _) (below_alloc (Below.refl _ _) _); have HQ' := Lib.hid (below_step HQ.out hbn); have RX' := Lib.hid (Rows4.below RX.out hbn); clear HQ; have HQ := HQ'; clear HQ'; clear RX; have RX := RX'; clear RX'; have BX := Lib.hid hz; skip; clear hz ho hb0 hbn BN) | (go_at_call 25; (with_reducible refine (numC _ _).mono ?_); rintro e wd ⟨rfl, ⟨nd, rfl⟩⟩))
    all_goals (go_ret; exact ⟨rfl, by first | exact below_step HB.out HQ.out | exact pw_below_drewN (below_step HB.out HQ.out) _⟩)
  case pos =>
    have dw : decide ((65536 : Int) < (want.size : Int)) = false := decide_eq_false (by omega)
    have dw2 : decide (65536 < want.size) = false := decide_eq_false (by omega)
    rw [if_pos hw] at GC
    clear hw
    go_upto_region 13 with (first | (go_at_call 42; (with_reducible refine (GC.out _ HQ.out).mono ?_); rintro e wk ⟨E, e1, F, f1, rfl, hr, hbn⟩; have HQ' := Lib.hid (below_step HQ.out hbn); clear HQ; have HQ := HQ'; clear HQ'; have RX := Lib.hid hr; have BN := Lib.hid (blk_new wk zeros); clear hbn hr) | ((with_reducible refine gate_store (t := 26) (p := 10) rfl ?_); refine row_event (by rfl) (by rfl) (by rfl) (by rfl) (by rfl) BN.out (by exact size26) (by rfl) (by first | rfl | simp [Value.oneCell']) ?_; intro wm hz ho hb0; have hbn := hb0 (w0 := wk) (Nat.le_refl _) (below_alloc (Below.refl _ _) _); have HQ' := Lib.hid (below_step HQ.out hbn); have RX' := Lib.hid (Rows4.below RX.out hbn); clear HQ; have HQ := HQ'; clear HQ'; clear RX; have RX := RX'; clear RX'; have BX := Lib.hid hz; skip; clear hz ho hb0 hbn BN))
    generalize wk.heap.size = g10 at *
    obtain ⟨KY, hKY, hKY8⟩ := and7C y
    have wk1 : wrap64 (1 + (KY : Int)) = (KY : Int) + 1 := (Values.wrap_small _ (by omega) (by omega)).trans (by omega)
    have HKY := Lib.hid hKY8
    clear hKY8
    go_upto_region 16 with (fail)
    have mk9 : (Instr.makeSlice 57 (.int .i64 9000) (.int .i64 9000)).run Tryd.prog wm = .ok (.slice (some ⟨wm.heap.size, 0, none⟩) 9000 9000) (wm.alloc (.cells (madeCells #[.int .u8 0] 9000) 5)) := made_bytes 9000 (by decide) (by decide) wm
    have cv9 : (convert 57 9 (.slice (some ⟨wm.heap.size, 0, none⟩) 9000 9000)).run Tryd.prog (wm.alloc (.cells (madeCells #[.int .u8 0] 9000) 5)) = .ok (.string (zs 9000)) (wm.alloc (.cells (madeCells #[.int .u8 0] 9000) 5)) := conv_bytes (wm.alloc (.cells (madeCells #[.int .u8 0] 9000) 5)) wm.heap.size 9000 9000 (blk_new _ _)
    have HZN := Lib.hid (zs_size 9000)
    generalize zs 9000 = Z at *
    go_upto_region 17 with (first | (go_at_call 45; (with_reducible refine (CT.out _ _).mono ?_); rintro e wt ⟨rfl, hbt⟩; have hbn := below_step (below_alloc (Below.refl wm.heap.size wm) _) hbt; clear hbt; have HQ' := Lib.hid (below_step HQ.out hbn); have RX' := Lib.hid (Rows4.below RX.out hbn); have BX' := Lib.hid (blk_below BX.out hbn); clear HQ; have HQ := HQ'; clear HQ'; clear RX; have RX := RX'; clear RX'; clear BX; have BX := BX'; clear BX'; clear hbn))
    have hbn := below_alloc (Below.refl wt.heap.size wt) (.cells #[.int .i64 4, .int .i64 0, .int .u64 0, .string Z, .slice none 0 0, .slice none 0 0] 26)
    have HQ' := Lib.hid (below_step HQ.out hbn); have RX' := Lib.hid (Rows4.below RX.out hbn); have BX' := Lib.hid (blk_below BX.out hbn); clear HQ; have HQ := HQ'; clear HQ'; clear RX; have RX := RX'; clear RX'; clear BX; have BX := BX'; clear BX'
    have XZ := Lib.hid (blk_new wt (.cells #[.int .i64 4, .int .i64 0, .int .u64 0, .string Z, .slice none 0 0, .slice none 0 0] 26))
    clear hbn mk9 cv9 wk1 hKY
    generalize wt.alloc (.cells #[.int .i64 4, .int .i64 0, .int .u64 0, .string Z, .slice none 0 0, .slice none 0 0] 26) = w5 at *
    generalize wt.heap.size = g13 at *
    go_wp2
    go_loopg [14, 15] (KY + 1) (fun kq v14 v15 wr => ∃ (i : Nat), v15 = .int .i64 (i : Int) ∧ Aside0 (i + kq = KY + 1) ∧ Aside0 (wr.ownsRow w5.heap.size 26 6 v14 i (sameC [.int .i64 4, .int .i64 0, .int .u64 0, .string Z, .slice none 0 0, .slice none 0 0] i)) ∧ Aside0 (Below w5.heap.size w5 wr))
    case atStart => exact ⟨0, rfl, ⟨by omega⟩, ⟨World.ownsRow_nil _ _ _ _⟩, ⟨Below.refl _ _⟩⟩
    case round =>
    obtain ⟨n, rfl, HN0, HO0, HB0⟩ := hrel
    have HO := Lib.hid HO0.out; have HB5 := Lib.hid HB0.out
    have hn := HN0.out
    clear HN0 HO0 HB0
    have XZr := Lib.hid (blk_below XZ.out HB5.out)
    obtain ⟨z0, z1, z2, z3, z4, z5⟩ := six18 XZr.out
    cases gk with
    | succ k2 =>
      have hk8 := HKY.out
      have hlt : decide ((n : Int) < (KY : Int) + 1) = true := decide_eq_true (by omega)
      have hltn : decide (n < KY + 1) = true := decide_eq_true (by omega)
      have WI := Lib.hid (show wrap64 ((n : Int) + 1) = (n : Int) + 1 from Values.wrap_small _ (by omega) (by omega))
      have HN := Lib.hid (show n < 8 by omega)
      have HHN := Lib.hid hn
      clear hn hk8
      obtain ⟨i0, hi0, hz0, hz1, hz2⟩ := info_parts Q.info26
      go_wp2_with (at_builtin; refine wpList_append_lies _ rfl (.tmp 83) (.tmp 85) 23 rfl w5.heap.size 26 i0 _ 6 88 Tryd.underlying23 hi0 hz0 hz1 hz2 rfl (by decide) u14 n (sameC [.int .i64 4, .int .i64 0, .int .u64 0, .string Z, .slice none 0 0, .slice none 0 0] n) rfl (own_move HO.out (fun k hk => (below_alloc (Below.refl wr.heap.size wr) _).block k (HO.out.lt k hk).2)) ⟨wr.heap.size, 0, none⟩ 1 1 [.int .i64 4, .int .i64 0, .int .u64 0, .string Z, .slice none 0 0, .slice none 0 0] rfl rfl (fun j_ u_ hj_ => World.news_of_block (blk_new wr (.cells #[.int .i64 4, .int .i64 0, .int .u64 0, .string Z, .slice none 0 0, .slice none 0 0] 26)) j_ u_ hj_) (by intro u_ hu_; simp only [List.mem_cons, List.not_mem_nil, or_false] at hu_; rcases hu_ with rfl | rfl | rfl | rfl | rfl | rfl <;> rfl) (by decide) (by have := HN.out; unfold maxLen; omega) (by have := HN.out; omega) (below_size (below_step HB5.out (below_alloc (Below.refl _ _) _))) _ rfl ?_; intro g cap wa hown hgrow hat hlt1; have HG := Lib.hid (And.intro hown hgrow); clear hown hgrow hat hlt1)
      go_roundg k2
      case measure => omega
      case rel =>
        exact ⟨n + 1, by rw [WI.out]; push_cast; rfl, ⟨by have := HHN.out; omega⟩, ⟨by rw [sameC_succ]; exact HG.out.1⟩, ⟨(below_step HB5.out (below_alloc (Below.refl _ _) _)).grown HG.out.2 (below_size (below_step HB5.out (below_alloc (Below.refl _ _) _))) (fun k hk => (HO.out.lt k hk).1)⟩⟩
    | zero =>
      have hlt : decide ((n : Int) < (KY : Int) + 1) = false := decide_eq_false (by omega)
      have hltn : decide (n < KY + 1) = false := decide_eq_false (by omega)
      obtain rfl : n = KY + 1 := by omega
      clear hn z0 z1 z2 z3 z4 z5
      obtain ⟨A9, c9, rfl, hc9, hC9⟩ := own_readsF HO.out (reps_same wr (textV Z) [.int .i64 4, .int .i64 0, .int .u64 0, .string Z, .slice none 0 0, .slice none 0 0] (leafF wr (textV Z) rfl rfl) (KY + 1)) (by simp)
      have hbn := HB5.out
      have HQ' := Lib.hid (below_step HQ.out hbn); have RX' := Lib.hid (Rows4.below RX.out hbn); have BX' := Lib.hid (blk_below BX.out hbn); clear HQ; have HQ := HQ'; clear HQ'; clear RX; have RX := RX'; clear RX'; clear BX; have BX := BX'; clear BX'
      clear HB5 hbn
      have GD := Lib.hid (show Calls Tryd.prog 42 #[.string (⟨#[99, 97, 116]⟩ : ByteArray), .slice A9 (KY + 1) c9] wr fun e w' => GotR wr w' e (callR (⟨#[99, 97, 116]⟩ : ByteArray) (List.replicate (KY + 1) (textV Z))) from by
        have h := Call_calls (⟨#[99, 97, 116]⟩ : ByteArray) (List.replicate (KY + 1) (textV Z)) A9 c9 wr ⟨HT.out.below (below_step HB.out HQ.out), by rw [List.length_replicate]; have := HKY.out; omega, by rw [List.length_replicate]; exact hC9, fun z hz => by
          rw [(List.mem_replicate.1 hz).2]
          exact ⟨Int.le_refl 0, by show (0 : Int) < 2 ^ 64; decide, fun z hz => by cases hz⟩⟩
        rw [List.length_replicate] at h
        exact h.mono fun e w' h => got_r h (Below.refl _ _))
      rw [cat_many Z (KY + 1) HZN.out (by have := HKY.out; omega)] at GD
      have w93 : wrap64 (9000 * ((KY : Int) + 1)) = 9000 * ((KY : Int) + 1) := Values.wrap_small _ (by omega) (by have := HKY.out; omega)
      clear HO hc9 hC9
      by_cases h72 : 9000 * (KY + 1) ≤ 65536
      · rw [if_pos h72] at GD
        have d94 : decide ((65536 : Int) < 9000 * ((KY : Int) + 1)) = false := decide_eq_false (by omega)
        have d108 : decide (9000 * ((KY : Int) + 1) ≤ (65536 : Int)) = true := decide_eq_true (by omega)
        have hJ : ((⟨(joinL (List.replicate (KY + 1) (textV Z))).toArray⟩ : ByteArray).size : Int) = 9000 * ((KY : Int) + 1) := by
          rw [size_list, join_many Z HZN.out]
          push_cast
          rfl
        generalize (⟨(joinL (List.replicate (KY + 1) (textV Z))).toArray⟩ : ByteArray) = J at *
        have f3J : (textV J).f3 = J := rfl
        have dJ : ((J.size : Int) != 9000 * ((KY : Int) + 1)) = false := by rw [hJ]; simp
        clear h72
        go_upto_region 25 with (first | (go_at_call 42; (with_reducible refine (GD.out).mono ?_); rintro e wk2 ⟨E2, e2, F2, f2, rfl, hr, hbn⟩; have HQ' := Lib.hid (below_step HQ.out hbn); have RX' := Lib.hid (Rows4.below RX.out hbn); have BX' := Lib.hid (blk_below BX.out hbn); clear HQ; have HQ := HQ'; clear HQ'; clear RX; have RX := RX'; clear RX'; clear BX; have BX := BX'; clear BX'; have RX2 := Lib.hid hr; have BN := Lib.hid (blk_new wk2 zeros); clear hbn hr) | ((with_reducible refine gate_store (t := 26) (p := 16) rfl ?_); refine row_event (by rfl) (by rfl) (by rfl) (by rfl) (by rfl) BN.out (by exact size26) (by rfl) (by first | rfl | simp [Value.oneCell']) ?_; intro wm2 hz ho hb0; have hbn := hb0 (w0 := wk2) (Nat.le_refl _) (below_alloc (Below.refl _ _) _); have HQ' := Lib.hid (below_step HQ.out hbn); have RX' := Lib.hid (Rows4.below RX.out hbn); have BX' := Lib.hid (blk_below BX.out hbn); have RX2' := Lib.hid (Rows4.below RX2.out hbn); clear HQ; have HQ := HQ'; clear HQ'; clear RX; have RX := RX'; clear RX'; clear BX; have BX := BX'; clear BX'; clear RX2; have RX2 := RX2'; clear RX2'; have BX2 := Lib.hid hz; skip; clear hz ho hb0 hbn BN; have BY := Lib.hid (six18 BX2.out); obtain ⟨y0, y1, y2, y3, y4, y5⟩ := BY.out; clear BY) | (go_at_call 25; (with_reducible refine (numB _ _).mono ?_); rintro e wn2 ⟨rfl, hbn⟩; have HQ' := Lib.hid (below_step HQ.out hbn); have RX' := Lib.hid (Rows4.below RX.out hbn); have BX' := Lib.hid (blk_below BX.out hbn); have RX2' := Lib.hid (Rows4.below RX2.out hbn); have BX2' := Lib.hid (blk_below BX2.out hbn); clear HQ; have HQ := HQ'; clear HQ'; clear RX; have RX := RX'; clear RX'; clear BX; have BX := BX'; clear BX'; clear RX2; have RX2 := RX2'; clear RX2'; clear BX2; have BX2 := BX2'; clear BX2'; clear hbn; (try clear y0 y1 y2 y3 y4 y5); obtain ⟨y0, y1, y2, y3, y4, y5⟩ := six18 BX2.out))
        clear y0 y1 y2 y3 y4 y5 RX2 BX2
        have CK := Lib.hid (show ∀ W, Below wn2.drew.heap.size wn2.drew W → Calls Tryd.prog 26 #[.agg #[.int .i64 (textV want).f0, .int .i64 (textV want).f1, .int .u64 (textV want).f2, .string (textV want).f3, .slice E (textV want).f4.length e1, .slice F (textV want).f5.length f1], .agg #[.int .i64 4, .int .i64 0, .int .u64 0, .string want, .slice none 0 0, .slice none 0 0]] W fun e w' => e = .returned (.bool true) ∧ Below W.heap.size W w' from fun W h => by
          have hc := sv_all 1 (textV want) (textV want) E e1 F f1 none 0 none 0 W (deep_leaf _ rfl) (Rows4.below RX.out (below_step (below_drew (Below.refl _ _)) h)) (rows_nil W (textV want) rfl rfl)
          rw [sv_refl 1 _ (deep_leaf _ rfl)] at hc
          exact hc)
        go_cut [6] (fun v6 wc => v6 = .bool true ∧ Aside0 (Below wq.heap.size wq wc) ∧ Aside0 (wc.heap[g10]? = some (.cells #[.int .i64 (textV want).f0, .int .i64 (textV want).f1, .int .u64 (textV want).f2, .string (textV want).f3, .slice E (textV want).f4.length e1, .slice F (textV want).f5.length f1] 26 (0, 0))))
        case first =>
          have hbn := below_drew (Below.refl wn2.heap.size wn2)
          have HQ' := Lib.hid (below_step HQ.out hbn); have BX' := Lib.hid (blk_below BX.out hbn); clear HQ; have HQ := HQ'; clear HQ'; clear BX; have BX := BX'; clear BX'
          clear hbn
          have KEEP : ∀ w', Below wn2.drew.heap.size wn2.drew w' → (Below wn2.drew.heap.size wn2.drew w' ∧ w'.cell? ⟨g10, 0, none⟩ = some (.int .i64 (textV want).f0) ∧ w'.cell? ⟨g10, 1, none⟩ = some (.int .i64 (textV want).f1) ∧ w'.cell? ⟨g10, 2, none⟩ = some (.int .u64 (textV want).f2) ∧ w'.cell? ⟨g10, 3, none⟩ = some (.string (textV want).f3) ∧ w'.cell? ⟨g10, 4, none⟩ = some (.slice E (textV want).f4.length e1) ∧ w'.cell? ⟨g10, 5, none⟩ = some (.slice F (textV want).f5.length f1)) := fun w' h => ⟨h, (At.of_box (blk_below BX.out h)).g0, (At.of_box (blk_below BX.out h)).g1, (At.of_box (blk_below BX.out h)).g2, (At.of_box (blk_below BX.out h)).g3, (At.of_box (blk_below BX.out h)).g4, (At.of_box (blk_below BX.out h)).g5⟩
          have KEEP := Lib.hid KEEP
          refine wp_region_held_drew (S := (fun w' => Below wn2.drew.heap.size wn2.drew w' ∧ w'.cell? ⟨g10, 0, none⟩ = some (.int .i64 (textV want).f0) ∧ w'.cell? ⟨g10, 1, none⟩ = some (.int .i64 (textV want).f1) ∧ w'.cell? ⟨g10, 2, none⟩ = some (.int .u64 (textV want).f2) ∧ w'.cell? ⟨g10, 3, none⟩ = some (.string (textV want).f3) ∧ w'.cell? ⟨g10, 4, none⟩ = some (.slice E (textV want).f4.length e1) ∧ w'.cell? ⟨g10, 5, none⟩ = some (.slice F (textV want).f5.length f1))) (by kernel_rfl) ?_ (fun hHeld => ?_)
          · exact KEEP.out _ (Below.refl _ _)
          refine wpAnyH_take (i := 0) (oi := { dst := some 123, op := _, type := _, pos := _, after := _, guard := _ }) (v := ?_) rfl (by kernel_rfl) (by kernel_rfl) (by kernel_rfl) (fun _ _ _ h => h) ?_ (by assumption) ?_; rotate_left; (focus (refine Or.inl ⟨rfl, ?_⟩; intro w hSw; (try dsimp only at hSw); go_simp; (try with_reducible rfl); done)); (try simp only [Act.put, List.setIfInBounds_toArray, List.set_cons_zero, List.set_cons_succ])
          refine wpAnyH_ready (rs := [1]) (by kernel_rfl) (by simp) ?_
          refine AllReadyH.cons (o := { dst := some 124, op := _, type := _, pos := _, after := _, guard := _ }) rfl (fun K hK => ?_) AllReadyH.nil
          go_simp
          (try (first | (go_at_call 25; (with_reducible refine (numB _ _).mono ?_); rintro e wn ⟨rfl, hb⟩) | (go_at_call 45; (with_reducible refine (CT.out _ _).mono ?_); rintro e wn ⟨rfl, hb⟩) | (go_at_call 26; (with_reducible refine (CK.out _ (by first | assumption | exact And.left (by assumption) | exact Below.refl _ _)).mono ?_); rintro e wn ⟨rfl, hb⟩)))
          refine hK.out _ _ ?_ (fun hHeld2 => ?_)
          · first | assumption | (exact KEEP.out _ (below_step (by first | assumption | exact And.left (by assumption) | exact Below.refl _ _) hb))
          clear hK K hHeld
          have hHeld := hHeld2; clear hHeld2
          (try simp only [Act.put, List.setIfInBounds_toArray, List.set_cons_zero, List.set_cons_succ])
          refine wpAnyH_take (i := 2) (oi := { dst := some 125, op := _, type := _, pos := _, after := _, guard := _ }) (v := ?_) rfl (by kernel_rfl) (by kernel_rfl) (by kernel_rfl) (fun _ _ _ h => h) ?_ (by assumption) ?_; rotate_left; (focus (refine Or.inl ⟨rfl, ?_⟩; intro w hSw; (try dsimp only at hSw); go_simp; (try with_reducible rfl); done)); (try simp only [Act.put, List.setIfInBounds_toArray, List.set_cons_zero, List.set_cons_succ])
          refine wpAnyH_take (i := 3) (oi := { dst := some 126, op := _, type := _, pos := _, after := _, guard := _ }) (v := ?_) rfl (by kernel_rfl) (by kernel_rfl) (by kernel_rfl) (fun _ _ _ h => h) ?_ (by assumption) ?_; rotate_left; (focus (refine Or.inl ⟨rfl, ?_⟩; intro w hSw; (try dsimp only at hSw); go_simp; (try with_reducible rfl); done)); (try simp only [Act.put, List.setIfInBounds_toArray, List.set_cons_zero, List.set_cons_succ])
          first | (refine wpAnyH_take (i := 4) (oi := { dst := some 127, op := _, type := _, pos := _, after := _, guard := _ }) (v := ?_) rfl (by kernel_rfl) (by kernel_rfl) (by kernel_rfl) (fun _ _ _ h => h) ?_ (by assumption) ?_; rotate_left; (focus (refine Or.inl ⟨rfl, ?_⟩; intro w hSw; (try dsimp only at hSw); go_simp; (try with_reducible rfl); done)); (try simp only [Act.put, List.setIfInBounds_toArray, List.set_cons_zero, List.set_cons_succ])) | (refine wpAnyH_take (i := 4) (oi := { dst := some 127, op := _, type := _, pos := _, after := _, guard := _ }) (v := undef) rfl (by kernel_rfl) (by kernel_rfl) (by kernel_rfl) (fun _ _ _ h => h) (Or.inr ⟨rfl, rfl⟩) (by assumption) ?_; (try simp only [Act.put, List.setIfInBounds_toArray, List.set_cons_zero, List.set_cons_succ]))
          first | (refine wpAnyH_take (i := 5) (oi := { dst := some 128, op := _, type := _, pos := _, after := _, guard := _ }) (v := ?_) rfl (by kernel_rfl) (by kernel_rfl) (by kernel_rfl) (fun _ _ _ h => h) ?_ (by assumption) ?_; rotate_left; (focus (refine Or.inl ⟨rfl, ?_⟩; intro w hSw; (try dsimp only at hSw); go_simp; (try with_reducible rfl); done)); (try simp only [Act.put, List.setIfInBounds_toArray, List.set_cons_zero, List.set_cons_succ])) | (refine wpAnyH_take (i := 5) (oi := { dst := some 128, op := _, type := _, pos := _, after := _, guard := _ }) (v := undef) rfl (by kernel_rfl) (by kernel_rfl) (by kernel_rfl) (fun _ _ _ h => h) (Or.inr ⟨rfl, rfl⟩) (by assumption) ?_; (try simp only [Act.put, List.setIfInBounds_toArray, List.set_cons_zero, List.set_cons_succ]))
          refine wpAnyH_ready (rs := [6]) (by kernel_rfl) (by simp) ?_
          refine AllReadyH.cons (o := { dst := some 129, op := _, type := _, pos := _, after := _, guard := _ }) rfl (fun K hK => ?_) AllReadyH.nil
          go_simp
          (try (first | (go_at_call 25; (with_reducible refine (numB _ _).mono ?_); rintro e wn ⟨rfl, hb⟩) | (go_at_call 45; (with_reducible refine (CT.out _ _).mono ?_); rintro e wn ⟨rfl, hb⟩) | (go_at_call 26; (with_reducible refine (CK.out _ (by first | assumption | exact And.left (by assumption) | exact Below.refl _ _)).mono ?_); rintro e wn ⟨rfl, hb⟩)))
          refine hK.out _ _ ?_ (fun hHeld2 => ?_)
          · first | assumption | (exact KEEP.out _ (below_step (by first | assumption | exact And.left (by assumption) | exact Below.refl _ _) hb))
          clear hK K hHeld
          have hHeld := hHeld2; clear hHeld2
          (try simp only [Act.put, List.setIfInBounds_toArray, List.set_cons_zero, List.set_cons_succ])
          refine wpAnyH_ready (rs := [7]) (by kernel_rfl) (by simp) ?_
          refine AllReadyH.cons (o := { dst := some 130, op := _, type := _, pos := _, after := _, guard := _ }) rfl (fun K hK => ?_) AllReadyH.nil
          go_simp
          (try (first | (go_at_call 25; (with_reducible refine (numB _ _).mono ?_); rintro e wn ⟨rfl, hb⟩) | (go_at_call 45; (with_reducible refine (CT.out _ _).mono ?_); rintro e wn ⟨rfl, hb⟩) | (go_at_call 26; (with_reducible refine (CK.out _ (by first | assumption | exact And.left (by assumption) | exact Below.refl _ _)).mono ?_); rintro e wn ⟨rfl, hb⟩)))
          refine hK.out _ _ ?_ (fun hHeld2 => ?_)
          · first | assumption | (exact KEEP.out _ (below_step (by first | assumption | exact And.left (by assumption) | exact Below.refl _ _) hb))
          clear hK K hHeld
          have hHeld := hHeld2; clear hHeld2
          (try simp only [Act.put, List.setIfInBounds_toArray, List.set_cons_zero, List.set_cons_succ])
          refine wpAnyH_take (i := 8) (oi := { dst := some 131, op := _, type := _, pos := _, after := _, guard := _ }) (v := ?_) rfl (by kernel_rfl) (by kernel_rfl) (by kernel_rfl) (fun _ _ _ h => h) ?_ (by assumption) ?_; rotate_left; (focus (refine Or.inl ⟨rfl, ?_⟩; intro w hSw; (try dsimp only at hSw); go_simp; (try with_reducible rfl); done)); (try simp only [Act.put, List.setIfInBounds_toArray, List.set_cons_zero, List.set_cons_succ])
          refine wpAnyH_take (i := 9) (oi := { dst := some 6, op := _, type := _, pos := _, after := _, guard := _ }) (v := ?_) rfl (by kernel_rfl) (by kernel_rfl) (by kernel_rfl) (fun _ _ _ h => h) ?_ (by assumption) ?_; rotate_left; (focus (refine Or.inl ⟨rfl, ?_⟩; intro w hSw; (try dsimp only at hSw); go_simp; (try with_reducible rfl); done)); (try simp only [Act.put, List.setIfInBounds_toArray, List.set_cons_zero, List.set_cons_succ])
          refine wpAnyH_done (by kernel_rfl) ?_ _
          all_goals
            (try go_wp2)
            go_meet
            case rel =>
              exact ⟨rfl, ⟨below_step HQ.out (by first | assumption | exact And.left (by assumption) | exact Below.refl _ _)⟩, ⟨blk_below BX.out (by first | assumption | exact And.left (by assumption) | exact Below.refl _ _)⟩⟩
        case rest =>
        clear HQ BX
        obtain ⟨rfl, HQ0, BX0⟩ := hcut
        have HQ := Lib.hid HQ0.out; clear HQ0; have BX := Lib.hid BX0.out; clear BX0
        go_wp2
        all_goals (try go_ret)
        all_goals exact ⟨rfl, below_step HB.out HQ.out⟩
      · rw [if_neg h72] at GD
        have d94 : decide ((65536 : Int) < 9000 * ((KY : Int) + 1)) = true := decide_eq_true (by omega)
        have d108 : decide (9000 * ((KY : Int) + 1) ≤ (65536 : Int)) = false := decide_eq_false (by omega)
        have f3z : z26.f3 = (⟨#[]⟩ : ByteArray) := rfl
        clear h72
        go_upto_region 25 with (first | (go_at_call 42; (with_reducible refine (GD.out).mono ?_); rintro e wk2 ⟨E2, e2, F2, f2, rfl, hr, hbn⟩; have HQ' := Lib.hid (below_step HQ.out hbn); have RX' := Lib.hid (Rows4.below RX.out hbn); have BX' := Lib.hid (blk_below BX.out hbn); clear HQ; have HQ := HQ'; clear HQ'; clear RX; have RX := RX'; clear RX'; clear BX; have BX := BX'; clear BX'; have RX2 := Lib.hid hr; have BN := Lib.hid (blk_new wk2 zeros); clear hbn hr) | ((with_reducible refine gate_store (t := 26) (p := 16) rfl ?_); refine row_event (by rfl) (by rfl) (by rfl) (by rfl) (by rfl) BN.out (by exact size26) (by rfl) (by first | rfl | simp [Value.oneCell']) ?_; intro wm2 hz ho hb0; have hbn := hb0 (w0 := wk2) (Nat.le_refl _) (below_alloc (Below.refl _ _) _); have HQ' := Lib.hid (below_step HQ.out hbn); have RX' := Lib.hid (Rows4.below RX.out hbn); have BX' := Lib.hid (blk_below BX.out hbn); have RX2' := Lib.hid (Rows4.below RX2.out hbn); clear HQ; have HQ := HQ'; clear HQ'; clear RX; have RX := RX'; clear RX'; clear BX; have BX := BX'; clear BX'; clear RX2; have RX2 := RX2'; clear RX2'; have BX2 := Lib.hid hz; skip; clear hz ho hb0 hbn BN; have BY := Lib.hid (six18 BX2.out); obtain ⟨y0, y1, y2, y3, y4, y5⟩ := BY.out; clear BY) | (go_at_call 25; (with_reducible refine (numB _ _).mono ?_); rintro e wn2 ⟨rfl, hbn⟩; have HQ' := Lib.hid (below_step HQ.out hbn); have RX' := Lib.hid (Rows4.below RX.out hbn); have BX' := Lib.hid (blk_below BX.out hbn); have RX2' := Lib.hid (Rows4.below RX2.out hbn); have BX2' := Lib.hid (blk_below BX2.out hbn); clear HQ; have HQ := HQ'; clear HQ'; clear RX; have RX := RX'; clear RX'; clear BX; have BX := BX'; clear BX'; clear RX2; have RX2 := RX2'; clear RX2'; clear BX2; have BX2 := BX2'; clear BX2'; clear hbn; (try clear y0 y1 y2 y3 y4 y5); obtain ⟨y0, y1, y2, y3, y4, y5⟩ := six18 BX2.out))
        clear y0 y1 y2 y3 y4 y5 RX2 BX2
        have CK := Lib.hid (show ∀ W, Below wn2.drew.heap.size wn2.drew W → Calls Tryd.prog 26 #[.agg #[.int .i64 (textV want).f0, .int .i64 (textV want).f1, .int .u64 (textV want).f2, .string (textV want).f3, .slice E (textV want).f4.length e1, .slice F (textV want).f5.length f1], .agg #[.int .i64 4, .int .i64 0, .int .u64 0, .string want, .slice none 0 0, .slice none 0 0]] W fun e w' => e = .returned (.bool true) ∧ Below W.heap.size W w' from fun W h => by
          have hc := sv_all 1 (textV want) (textV want) E e1 F f1 none 0 none 0 W (deep_leaf _ rfl) (Rows4.below RX.out (below_step (below_drew (Below.refl _ _)) h)) (rows_nil W (textV want) rfl rfl)
          rw [sv_refl 1 _ (deep_leaf _ rfl)] at hc
          exact hc)
        go_cut [6] (fun v6 wc => v6 = .bool true ∧ Aside0 (Below wq.heap.size wq wc) ∧ Aside0 (wc.heap[g10]? = some (.cells #[.int .i64 (textV want).f0, .int .i64 (textV want).f1, .int .u64 (textV want).f2, .string (textV want).f3, .slice E (textV want).f4.length e1, .slice F (textV want).f5.length f1] 26 (0, 0))))
        case first =>
          have hbn := below_drew (Below.refl wn2.heap.size wn2)
          have HQ' := Lib.hid (below_step HQ.out hbn); have BX' := Lib.hid (blk_below BX.out hbn); clear HQ; have HQ := HQ'; clear HQ'; clear BX; have BX := BX'; clear BX'
          clear hbn
          have KEEP : ∀ w', Below wn2.drew.heap.size wn2.drew w' → (Below wn2.drew.heap.size wn2.drew w' ∧ w'.cell? ⟨g10, 0, none⟩ = some (.int .i64 (textV want).f0) ∧ w'.cell? ⟨g10, 1, none⟩ = some (.int .i64 (textV want).f1) ∧ w'.cell? ⟨g10, 2, none⟩ = some (.int .u64 (textV want).f2) ∧ w'.cell? ⟨g10, 3, none⟩ = some (.string (textV want).f3) ∧ w'.cell? ⟨g10, 4, none⟩ = some (.slice E (textV want).f4.length e1) ∧ w'.cell? ⟨g10, 5, none⟩ = some (.slice F (textV want).f5.length f1)) := fun w' h => ⟨h, (At.of_box (blk_below BX.out h)).g0, (At.of_box (blk_below BX.out h)).g1, (At.of_box (blk_below BX.out h)).g2, (At.of_box (blk_below BX.out h)).g3, (At.of_box (blk_below BX.out h)).g4, (At.of_box (blk_below BX.out h)).g5⟩
          have KEEP := Lib.hid KEEP
          refine wp_region_held_drew (S := (fun w' => Below wn2.drew.heap.size wn2.drew w' ∧ w'.cell? ⟨g10, 0, none⟩ = some (.int .i64 (textV want).f0) ∧ w'.cell? ⟨g10, 1, none⟩ = some (.int .i64 (textV want).f1) ∧ w'.cell? ⟨g10, 2, none⟩ = some (.int .u64 (textV want).f2) ∧ w'.cell? ⟨g10, 3, none⟩ = some (.string (textV want).f3) ∧ w'.cell? ⟨g10, 4, none⟩ = some (.slice E (textV want).f4.length e1) ∧ w'.cell? ⟨g10, 5, none⟩ = some (.slice F (textV want).f5.length f1))) (by kernel_rfl) ?_ (fun hHeld => ?_)
          · exact KEEP.out _ (Below.refl _ _)
          refine wpAnyH_take (i := 0) (oi := { dst := some 123, op := _, type := _, pos := _, after := _, guard := _ }) (v := ?_) rfl (by kernel_rfl) (by kernel_rfl) (by kernel_rfl) (fun _ _ _ h => h) ?_ (by assumption) ?_; rotate_left; (focus (refine Or.inl ⟨rfl, ?_⟩; intro w hSw; (try dsimp only at hSw); go_simp; (try with_reducible rfl); done)); (try simp only [Act.put, List.setIfInBounds_toArray, List.set_cons_zero, List.set_cons_succ])
          refine wpAnyH_ready (rs := [1]) (by kernel_rfl) (by simp) ?_
          refine AllReadyH.cons (o := { dst := some 124, op := _, type := _, pos := _, after := _, guard := _ }) rfl (fun K hK => ?_) AllReadyH.nil
          go_simp
          (try (first | (go_at_call 25; (with_reducible refine (numB _ _).mono ?_); rintro e wn ⟨rfl, hb⟩) | (go_at_call 45; (with_reducible refine (CT.out _ _).mono ?_); rintro e wn ⟨rfl, hb⟩) | (go_at_call 26; (with_reducible refine (CK.out _ (by first | assumption | exact And.left (by assumption) | exact Below.refl _ _)).mono ?_); rintro e wn ⟨rfl, hb⟩)))
          refine hK.out _ _ ?_ (fun hHeld2 => ?_)
          · first | assumption | (exact KEEP.out _ (below_step (by first | assumption | exact And.left (by assumption) | exact Below.refl _ _) hb))
          clear hK K hHeld
          have hHeld := hHeld2; clear hHeld2
          (try simp only [Act.put, List.setIfInBounds_toArray, List.set_cons_zero, List.set_cons_succ])
          refine wpAnyH_take (i := 2) (oi := { dst := some 125, op := _, type := _, pos := _, after := _, guard := _ }) (v := ?_) rfl (by kernel_rfl) (by kernel_rfl) (by kernel_rfl) (fun _ _ _ h => h) ?_ (by assumption) ?_; rotate_left; (focus (refine Or.inl ⟨rfl, ?_⟩; intro w hSw; (try dsimp only at hSw); go_simp; (try with_reducible rfl); done)); (try simp only [Act.put, List.setIfInBounds_toArray, List.set_cons_zero, List.set_cons_succ])
          refine wpAnyH_take (i := 3) (oi := { dst := some 126, op := _, type := _, pos := _, after := _, guard := _ }) (v := ?_) rfl (by kernel_rfl) (by kernel_rfl) (by kernel_rfl) (fun _ _ _ h => h) ?_ (by assumption) ?_; rotate_left; (focus (refine Or.inl ⟨rfl, ?_⟩; intro w hSw; (try dsimp only at hSw); go_simp; (try with_reducible rfl); done)); (try simp only [Act.put, List.setIfInBounds_toArray, List.set_cons_zero, List.set_cons_succ])
          first | (refine wpAnyH_take (i := 4) (oi := { dst := some 127, op := _, type := _, pos := _, after := _, guard := _ }) (v := ?_) rfl (by kernel_rfl) (by kernel_rfl) (by kernel_rfl) (fun _ _ _ h => h) ?_ (by assumption) ?_; rotate_left; (focus (refine Or.inl ⟨rfl, ?_⟩; intro w hSw; (try dsimp only at hSw); go_simp; (try with_reducible rfl); done)); (try simp only [Act.put, List.setIfInBounds_toArray, List.set_cons_zero, List.set_cons_succ])) | (refine wpAnyH_take (i := 4) (oi := { dst := some 127, op := _, type := _, pos := _, after := _, guard := _ }) (v := undef) rfl (by kernel_rfl) (by kernel_rfl) (by kernel_rfl) (fun _ _ _ h => h) (Or.inr ⟨rfl, rfl⟩) (by assumption) ?_; (try simp only [Act.put, List.setIfInBounds_toArray, List.set_cons_zero, List.set_cons_succ]))
          first | (refine wpAnyH_take (i := 5) (oi := { dst := some 128, op := _, type := _, pos := _, after := _, guard := _ }) (v := ?_) rfl (by kernel_rfl) (by kernel_rfl) (by kernel_rfl) (fun _ _ _ h => h) ?_ (by assumption) ?_; rotate_left; (focus (refine Or.inl ⟨rfl, ?_⟩; intro w hSw; (try dsimp only at hSw); go_simp; (try with_reducible rfl); done)); (try simp only [Act.put, List.setIfInBounds_toArray, List.set_cons_zero, List.set_cons_succ])) | (refine wpAnyH_take (i := 5) (oi := { dst := some 128, op := _, type := _, pos := _, after := _, guard := _ }) (v := undef) rfl (by kernel_rfl) (by kernel_rfl) (by kernel_rfl) (fun _ _ _ h => h) (Or.inr ⟨rfl, rfl⟩) (by assumption) ?_; (try simp only [Act.put, List.setIfInBounds_toArray, List.set_cons_zero, List.set_cons_succ]))
          refine wpAnyH_ready (rs := [6]) (by kernel_rfl) (by simp) ?_
          refine AllReadyH.cons (o := { dst := some 129, op := _, type := _, pos := _, after := _, guard := _ }) rfl (fun K hK => ?_) AllReadyH.nil
          go_simp
          (try (first | (go_at_call 25; (with_reducible refine (numB _ _).mono ?_); rintro e wn ⟨rfl, hb⟩) | (go_at_call 45; (with_reducible refine (CT.out _ _).mono ?_); rintro e wn ⟨rfl, hb⟩) | (go_at_call 26; (with_reducible refine (CK.out _ (by first | assumption | exact And.left (by assumption) | exact Below.refl _ _)).mono ?_); rintro e wn ⟨rfl, hb⟩)))
          refine hK.out _ _ ?_ (fun hHeld2 => ?_)
          · first | assumption | (exact KEEP.out _ (below_step (by first | assumption | exact And.left (by assumption) | exact Below.refl _ _) hb))
          clear hK K hHeld
          have hHeld := hHeld2; clear hHeld2
          (try simp only [Act.put, List.setIfInBounds_toArray, List.set_cons_zero, List.set_cons_succ])
          refine wpAnyH_ready (rs := [7]) (by kernel_rfl) (by simp) ?_
          refine AllReadyH.cons (o := { dst := some 130, op := _, type := _, pos := _, after := _, guard := _ }) rfl (fun K hK => ?_) AllReadyH.nil
          go_simp
          (try (first | (go_at_call 25; (with_reducible refine (numB _ _).mono ?_); rintro e wn ⟨rfl, hb⟩) | (go_at_call 45; (with_reducible refine (CT.out _ _).mono ?_); rintro e wn ⟨rfl, hb⟩) | (go_at_call 26; (with_reducible refine (CK.out _ (by first | assumption | exact And.left (by assumption) | exact Below.refl _ _)).mono ?_); rintro e wn ⟨rfl, hb⟩)))
          refine hK.out _ _ ?_ (fun hHeld2 => ?_)
          · first | assumption | (exact KEEP.out _ (below_step (by first | assumption | exact And.left (by assumption) | exact Below.refl _ _) hb))
          clear hK K hHeld
          have hHeld := hHeld2; clear hHeld2
          (try simp only [Act.put, List.setIfInBounds_toArray, List.set_cons_zero, List.set_cons_succ])
          refine wpAnyH_take (i := 8) (oi := { dst := some 131, op := _, type := _, pos := _, after := _, guard := _ }) (v := ?_) rfl (by kernel_rfl) (by kernel_rfl) (by kernel_rfl) (fun _ _ _ h => h) ?_ (by assumption) ?_; rotate_left; (focus (refine Or.inl ⟨rfl, ?_⟩; intro w hSw; (try dsimp only at hSw); go_simp; (try with_reducible rfl); done)); (try simp only [Act.put, List.setIfInBounds_toArray, List.set_cons_zero, List.set_cons_succ])
          refine wpAnyH_take (i := 9) (oi := { dst := some 6, op := _, type := _, pos := _, after := _, guard := _ }) (v := ?_) rfl (by kernel_rfl) (by kernel_rfl) (by kernel_rfl) (fun _ _ _ h => h) ?_ (by assumption) ?_; rotate_left; (focus (refine Or.inl ⟨rfl, ?_⟩; intro w hSw; (try dsimp only at hSw); go_simp; (try with_reducible rfl); done)); (try simp only [Act.put, List.setIfInBounds_toArray, List.set_cons_zero, List.set_cons_succ])
          refine wpAnyH_done (by kernel_rfl) ?_ _
          all_goals
            (try go_wp2)
            go_meet
            case rel =>
              exact ⟨rfl, ⟨below_step HQ.out (by first | assumption | exact And.left (by assumption) | exact Below.refl _ _)⟩, ⟨blk_below BX.out (by first | assumption | exact And.left (by assumption) | exact Below.refl _ _)⟩⟩
        case rest =>
        clear HQ BX
        obtain ⟨rfl, HQ0, BX0⟩ := hcut
        have HQ := Lib.hid HQ0.out; clear HQ0; have BX := Lib.hid BX0.out; clear BX0
        go_wp2
        all_goals (try go_ret)
        all_goals exact ⟨rfl, below_step HB.out HQ.out⟩
end Go.Proofs.YtepolmajebdphaaDoor.Fns
