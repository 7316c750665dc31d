/- Package value, walked: At. · Package value, walked: At, the walk. · Package value, walked: Clone of what is empty, Copy of a leaf. · Package value, walked: Copy of a leaf. -/
import Derived.Test.YtepolmajebdphaaDoorValuesN
import Derived.Laws.CopyOwn
import Derived.Laws.Tables
import Derived.Laws.Rows
import Derived.Lib.LazyBuf
import Derived.Laws.OwnMore
namespace Go.Proofs.YtepolmajebdphaaDoor.Values
open Go.RowKit Go.Proofs.YtepolmajebdphaaDoor.Q Go.Proofs.YtepolmajebdphaaDoor.Real Go.Proofs.YtepolmajebdphaaDoor.RealPure Go.Proofs.YtepolmajebdphaaDoorW.PrintWords Go.Proofs.YtepolmajebdphaaDoorW.PrintLast Go.Proofs.YtepolmajebdphaaDoorW.PrintMore
set_option linter.unusedSimpArgs false
set_option linter.unusedVariables false

theorem less_some (a b : ByteArray) : K.cmp_Less_string.f a b = some (Op.bytesLess a.toList b.toList) := by
  unfold K.cmp_Less_string.f K.cmp_isNaN_string.f
  simp
/-- The search in sorted rows ends, within the row. -/
theorem search_total (l : List ByteArray) (a : ByteArray) (hl : l.length < 1099511627776) : ∀ (k : Nat) (lo hi : Int), 0 ≤ lo → lo ≤ hi → hi ≤ l.length → hi - lo < k →
    ∃ i b, K.slices_BinarySearch_string_string.l0 k l a (l.length : Int) lo hi = some (i, b) ∧ 0 ≤ i ∧ i ≤ l.length ∧ (b = true → i < l.length)
  | 0, lo, hi, h0, h1, h2, h3 => by omega
  | k + 1, lo, hi, h0, h1, h2, h3 => by
    unfold K.slices_BinarySearch_string_string.l0
    by_cases c : lo < hi
    · rw [if_pos c]
      have hm : wrap64 ((IntKind.u64.wrap (wrap64 (lo + hi))) / 2) = (lo + hi) / 2 := by
        rw [wrap_small (lo + hi) (by omega) (by omega)]
        have hu : IntKind.u64.wrap (lo + hi) = lo + hi := by
          show (lo + hi) % 18446744073709551616 = lo + hi
          exact Int.emod_eq_of_lt (by omega) (by omega)
        rw [hu]
        exact wrap_small _ (by omega) (by omega)
      rw [hm, less_some]
      have hm1 : wrap64 ((lo + hi) / 2 + 1) = (lo + hi) / 2 + 1 := wrap_small _ (by omega) (by omega)
      rw [hm1]
      rw [if_pos (by omega), if_pos (by omega)]
      rw [Option.bind_some]
      split
      · exact search_total l a hl k _ _ (by omega) (by omega) (by omega) (by omega)
      · exact search_total l a hl k _ _ (by omega) (by omega) (by omega) (by omega)
    · rw [if_neg c]
      by_cases c2 : lo < (l.length : Int)
      · rw [if_pos c2, if_pos h0, if_pos c2]
        split
        · exact ⟨lo, true, rfl, h0, by omega, fun _ => c2⟩
        · unfold K.slices_isNaN_string.f
          refine ⟨lo, false, ?_, h0, by omega, fun h => by cases h⟩
          simp
      · rw [if_neg c2]
        exact ⟨lo, false, rfl, h0, by omega, fun h => by cases h⟩

def searchB (l : List ByteArray) (a : ByteArray) : Int × Bool := (K.slices_BinarySearch_string_string.f (l.length + 1) l a).getD (0, false)
theorem search_calls (A : Option Addr) (c : Nat) (l : List ByteArray) (a : ByteArray) (w : World) (hr : Kd.C Kd.string w A l.length l) (hc : l.length ≤ c) (hl : l.length < 1099511627776) :
    (Calls Tryd.prog 77 #[.slice A l.length c, .string a] w fun e w' => e = .returned (.tuple #[.int .i64 (searchB l a).1, .bool (searchB l a).2]) ∧ Drawn0 w w')
      ∧ 0 ≤ (searchB l a).1 ∧ ((searchB l a).2 = true → (searchB l a).1 < l.length) := by
  obtain ⟨i, b, h, h0, h1, h2⟩ := search_total l a hl (l.length + 1) 0 l.length (by omega) (by omega) (by omega) (by omega)
  have e : K.slices_BinarySearch_string_string.f (l.length + 1) l a = some (i, b) := h
  have e2 : searchB l a = (i, b) := by unfold searchB; rw [e]; rfl
  rw [e2]
  exact ⟨K.slices_BinarySearch_string_string.calls (l.length + 1) A c l a i b w hr hc e, h0, h2⟩

/-- A tree of at most so many levels, each value one that may be. -/
def okG : Nat → V → Prop
  | 0, _ => False
  | d + 1, x => ownB x = true ∧ ∀ z ∈ x.f4, okG d z
theorem okG_of_may : ∀ d x l, (mayD d x l).1 = true → okG d x
  | 0, x, l, h => by cases h
  | d + 1, x, l, h => by
    unfold mayD at h
    split at h
    · cases h
    · split at h
      · rename_i ho
        exact ⟨ho, fun z hz => by
          obtain ⟨l', hl'⟩ := may_each _ _ _ h z hz
          exact okG_of_may d z l' hl'⟩
      · cases h

/-- What At answers. -/
def atR : V → List ByteArray → V × Int
  | x, [] => (x, 0)
  | x, k :: ks => if x.f0 == 6 then (if (searchB x.f5 k).2 = true then atR (rd_T26 x.f4 (searchB x.f5 k).1) ks else (z26, 401)) else (z26, 402)

theorem keys_len {x : V} (h : ownB x = true) (h6 : x.f0 = 6) : x.f5.length = x.f4.length := by
  unfold ownB at h
  simp only [Bool.and_eq_true, decide_eq_true_eq] at h
  have hk := h.2
  rw [h6] at hk
  simp at hk
  exact hk.1

/-- A whole value is stored into a block of its own, as an event: the block, the others, what is below. -/
theorem row_event {P : Program} {W : World} {ops : Array Oper} {rest : List Oper} {o : Oper} {a : Act} {Q : Exit → Act → World → Prop} (hgd : o.guard = none) (hN : o.dst = none) {ty : TypeId} {x y : Operand} (ho : o.op = .store ty x y)
    {g : Nat} {cells : Array Value} (hx : a.eval x = .pointer (some ⟨g, 0, none⟩)) (hy : a.eval y = .agg cells) {t : TypeId} {old : Array Value} (hg : W.heap[g]? = some (.cells old t (0, 0)))
    (hi : (P.info? ty).map (·.size) = some cells.size) (hold : old.size = cells.size) (h1 : cells.all (·.oneCell') = true)
    (h : ∀ w', w'.heap[g]? = some (.cells cells t (0, 0)) → (∀ k, k ≠ g → w'.heap[k]? = W.heap[k]?) → (∀ {w0 : World}, w0.heap.size ≤ g → Below w0.heap.size w0 W → Below w0.heap.size w0 w') → wpList P ops Q rest a w') :
    wpList P ops Q (o :: rest) a W := by
  refine wpList_store_row hgd ty x y ho g cells hx hy t old hg hi hold h1 ?_
  rw [hN]
  exact h _ (setRow_heap W g old cells t (0, 0) hg) (fun k hk => setRow_other W g k cells hk) (fun hB hb => below_setRow hb hB cells)

theorem results_cell_row_tmp {P : Program} {fn : Func} {p u : Tmp} {ty : TypeId} (h : fn.results = #[.cell p ty, .tmp u]) (tmps : Array Value) (w : World) (g : Nat) (t : TypeId) (cs : Array Value) (fr : Nat × Nat) (d : TypeDesc)
    (hp : tmps.getD p undef = .pointer (some ⟨g, 0, none⟩)) (hg : w.heap[g]? = some (.cells cs t fr))
    (hu : P.underlying ty = some d) (hd : (match d with | .struct _ | .array _ _ => true | _ => false) = true) (hi : (P.info? ty).map (·.size) = some cs.size) :
    (results fn tmps).run P w = .ok (.tuple #[.agg cs, tmps.getD u undef]) w := by
  have hp' : tmps[p]?.getD undef = .pointer (some ⟨g, 0, none⟩) := by simpa using hp
  simp [results, h, hp', asAddr, run_loadVar_row w g t ty cs fr d hg hu hd hi]
end Go.Proofs.YtepolmajebdphaaDoor.Values
namespace Go.Proofs.YtepolmajebdphaaDoor.Values
open Go.RowKit Go.Proofs.YtepolmajebdphaaDoor.Q Go.Proofs.YtepolmajebdphaaDoor.Real Go.Proofs.YtepolmajebdphaaDoor.RealPure Go.Proofs.YtepolmajebdphaaDoorW.PrintWords Go.Proofs.YtepolmajebdphaaDoorW.PrintLast Go.Proofs.YtepolmajebdphaaDoorW.PrintMore
set_option linter.unusedSimpArgs false
set_option linter.unusedVariables false

theorem size26 : (Tryd.prog.info? 26).map (·.size) = some 6 := by kernel_rfl
set_option maxHeartbeats 8000000 in
set_option maxRecDepth 100000 in
theorem At_calls (x : V) (A4 : Option Addr) (c4 : Nat) (A5 : Option Addr) (c5 : Nat) (P : Option Addr) (cp : Nat) (ps : List ByteArray) (d : Nat) (w : World) (h : Rows4 w x A4 c4 A5 c5) (hp : Kd.C Kd.string w P ps.length ps) (hpl : ps.length < 1099511627776) (hg : okG d x) :
    Calls Tryd.prog 57 #[arg x A4 c4 A5 c5, .slice P ps.length cp] w fun e w' => ∃ B4 d4 B5 d5, e = .returned (.tuple #[arg (atR x ps).1 B4 d4 B5 d5, .int .i64 (atR x ps).2]) ∧ Rows4 w (atR x ps).1 B4 d4 B5 d5 ∧ (okG d (atR x ps).1 ∨ (atR x ps).1 = z26 ∨ ∃ d', okG d' (atR x ps).1) ∧ Below w.heap.size w w' := by
  have hu26 := Tryd.underlying26
  have H0 := Lib.hid h; have HP := Lib.hid hp; have HG := Lib.hid hg
  obtain ⟨R, hR⟩ : ∃ R, atR x ps = R := ⟨_, rfl⟩
  rw [hR]
  clear h hp hg
  go_enter Tryd.func57, Tryd.ntmps57
  go_upto_region 1 with (first | ((with_reducible refine gate_dst (N := 2) rfl ?_); (try (refine gate_guard (by rfl) ?_; dsimp only)); refine box_event ?hg (N := 2) ?hd (cs := #[.int .i64 x.f0, .int .i64 x.f1, .int .u64 x.f2, .string x.f3, .slice A4 x.f4.length c4, .slice A5 x.f5.length c5]) (t := 26) ?hr ?_; (case hd => rfl); (case hg => rfl); (case hr => first | (go_simp; done) | (go_simp; rfl)); intro gb hg w3 hbox hb; have BK := Aside0.mk hbox; have HB := Aside0.mk hb; have GE := Lib.hid hg; clear hb hbox hg))
  have hne : gb ≠ w3.heap.size := Nat.ne_of_lt (blk_lt BK.out)
  have NE := Lib.hid hne
  have A1 := Aside0.mk (blk_alloc BK.out (.cells #[.int .i64 0, .int .i64 0, .int .u64 0, .string ⟨#[]⟩, .slice none 0 0, .slice none 0 0] 26))
  have A2 := Aside0.mk (blk_new w3 (.cells #[.int .i64 0, .int .i64 0, .int .u64 0, .string ⟨#[]⟩, .slice none 0 0, .slice none 0 0] 26))
  have A3 := Aside0.mk (below_alloc HB.out (.cells #[.int .i64 0, .int .i64 0, .int .u64 0, .string ⟨#[]⟩, .slice none 0 0, .slice none 0 0] 26))
  have GZ := Lib.hid (below_size HB.out)
  clear HB BK hne
  generalize w3.heap.size = gz at *
  generalize hw4 : w3.alloc (.cells #[.int .i64 0, .int .i64 0, .int .u64 0, .string ⟨#[]⟩, .slice none 0 0, .slice none 0 0] 26) = w4 at *
  clear hw4
  go_wp2
  go_loopg [12] ps.length (fun kq v12 w' => ∃ (i : Int) (y : V) (E4 : Option Addr) (e4 : Nat) (E5 : Option Addr) (e5 : Nat), v12 = .int .i64 i ∧ Aside0 (i + kq = ps.length ∧ 0 ≤ i) ∧ Aside0 (atR y (ps.drop i.toNat) = R) ∧ Aside0 (∃ d', okG d' y) ∧ Aside0 (Rows4 w y E4 e4 E5 e5) ∧ Aside0 (w'.heap[gb]? = some (.cells #[.int .i64 y.f0, .int .i64 y.f1, .int .u64 y.f2, .string y.f3, .slice E4 y.f4.length e4, .slice E5 y.f5.length e5] 26 (0, 0))) ∧ Aside0 (w'.heap[gz]? = some (.cells #[.int .i64 0, .int .i64 0, .int .u64 0, .string ⟨#[]⟩, .slice none 0 0, .slice none 0 0] 26 (0, 0))) ∧ Aside0 (Below w.heap.size w w'))
  case atStart => exact ⟨0, x, A4, c4, A5, c5, rfl, ⟨by omega, by omega⟩, ⟨hR⟩, ⟨⟨d, HG.out⟩⟩, ⟨H0.out⟩, A1, A2, A3⟩
  case round =>
    clear A1 A2 A3
    obtain ⟨i, y, E4, e4, E5, e5, rfl, HI, HM, HO, HR, BK, BZ, HB⟩ := hrel
    obtain ⟨hi1, hi0⟩ := HI.out
    obtain ⟨g0, g1, g2, g3, g4, g5⟩ := At.of_box BK.out
    have f0 := blk_frozen BK.out 0
    have z0 := blk_frozen BZ.out 0
    cases gk with
    | zero =>
      have hlt : decide (i < (ps.length : Int)) = false := decide_eq_false (by omega)
      have e := HM.out
      rw [List.drop_of_length_le (by omega)] at e
      have e1 : R = (y, 0) := by rw [← e]; cases y; rfl
      clear e hi1 hi0 hR
      subst e1
      go_wp2_with (first | ((with_reducible refine gate_store (t := 26) (p := 4) rfl ?_); refine row_event (by rfl) (by rfl) (by rfl) (by rfl) (by rfl) BZ.out (by exact size26) (by rfl) (by first | rfl | simp [Value.oneCell']) ?_; intro w5 hz5 ho5 hb5; have Z5 := Lib.hid hz5; clear hz5; have HB5 := Lib.hid (hb5 GZ.out HB.out); clear hb5 ho5))
      refine bodyPost_ret (results_cell_row_tmp rfl _ _ gz 26 _ (0, 0) _ rfl Z5.out hu26 rfl (by exact size26)) rfl ?_
      exact ⟨_, _, _, _, rfl, HR.out, .inr (.inr HO.out), HB5.out⟩
    | succ k2 =>
      have hlt : decide (i < (ps.length : Int)) = true := decide_eq_true (by omega)
      have hlt' : i < (ps.length : Int) := by omega
      have hstep : atR y (rdOf ByteArray.empty ps i :: ps.drop (i + 1).toNat) = R := by
        have e := HM.out
        rw [List.drop_eq_getElem_cons (by omega : i.toNat < ps.length)] at e
        rw [show (i + 1).toNat = i.toNat + 1 by omega]
        have e2 : rdOf ByteArray.empty ps i = ps[i.toNat]'(by omega) := by
          show ps.getD i.toNat ByteArray.empty = _
          rw [List.getD_eq_getElem?_getD, List.getElem?_eq_getElem (by omega)]; rfl
        rw [e2]; exact e
      obtain ⟨pd, ep, hpc⟩ := Kd.at_string HP.out i hi0 hlt'
      cases ep
      have pc := pw_cell_below HB.out hpc
      have q0 := eq_true hi0
      have q1 := eq_true hlt'
      have wi : wrap64 (i + 1) = i + 1 := wrap_small _ (by omega) (by omega)
      have wi' : IntKind.i64.wrap (i + 1) = i + 1 := by rw [i64_w]; exact wi
      have HI2 := Aside0.mk (show i + 1 + k2 = ps.length ∧ 0 ≤ i + 1 from ⟨by omega, by omega⟩)
      rw [show atR y (rdOf ByteArray.empty ps i :: ps.drop (i + 1).toNat) = (if y.f0 == 6 then (if (searchB y.f5 (rdOf ByteArray.empty ps i)).2 = true then atR (rd_T26 y.f4 (searchB y.f5 (rdOf ByteArray.empty ps i)).1) (ps.drop (i + 1).toNat) else (z26, 401)) else (z26, 402)) from rfl] at hstep
      generalize rdOf ByteArray.empty ps i = key at pc hstep
      obtain ⟨k6, hk6⟩ : ∃ q, (y.f0 == 6) = q := ⟨_, rfl⟩
      have hn6 : (y.f0 != 6) = !k6 := by rw [← hk6]; rfl
      rw [hk6] at hstep
      clear hpc HM hR
      cases k6
      · have e1 : (z26, 402) = R := hstep
        subst e1
        clear hstep
        go_wp2_with (first | ((with_reducible refine gate_store (t := 26) (p := 4) rfl ?_); refine row_event (by rfl) (by rfl) (by rfl) (by rfl) (by rfl) BZ.out (by exact size26) (by rfl) (by first | rfl | simp [Value.oneCell']) ?_; intro w5 hz5 ho5 hb5; have Z5 := Lib.hid hz5; clear hz5; have HB5 := Lib.hid (hb5 GZ.out HB.out); clear hb5 ho5))
        refine bodyPost_ret (results_cell_row_tmp rfl _ _ gz 26 _ (0, 0) _ rfl Z5.out hu26 rfl (by exact size26)) rfl ?_
        first | exact ⟨none, 0, none, 0, rfl, ⟨Kd.C_nil _ _, Nat.le_refl _, Kd.C_nil _ _, Nat.le_refl _⟩, HB5.out⟩ | exact ⟨none, 0, none, 0, rfl, ⟨Kd.C_nil _ _, Nat.le_refl _, Kd.C_nil _ _, Nat.le_refl _⟩, .inr (.inl rfl), HB5.out⟩
      · obtain ⟨d', hO⟩ := HO.out
        obtain ⟨hown, hkids⟩ : ownB y = true ∧ ∃ d'', ∀ z ∈ y.f4, okG d'' z := by
          cases d' with
          | zero => exact hO.elim
          | succ d'' => exact ⟨hO.1, d'', hO.2⟩
        have hkl := keys_len hown (beq_iff_eq.1 hk6)
        have hl64 := len_of_own hown
        obtain ⟨hcs, hs0, hs1⟩ := search_calls E5 e5 y.f5 key wr (Kd.C_below HR.out.k5 HB.out) HR.out.l5 (by omega)
        have CS := Lib.hid hcs
        generalize searchB y.f5 key = sq at CS hs0 hs1 hstep
        obtain ⟨si, sb⟩ := sq
        cases sb
        · have e1 : (z26, 401) = R := hstep
          subst e1
          clear hstep hcs hs0 hs1 hkl hl64 hown hkids hO
          go_wp2_with (first | (go_at_call 77; (with_reducible refine CS.out.mono ?_); rintro e w' ⟨rfl, ⟨m_, rfl⟩⟩) | ((with_reducible refine gate_store (t := 26) (p := 4) rfl ?_); refine row_event (by rfl) (by rfl) (by rfl) (by rfl) (by rfl) BZ.out (by exact size26) (by rfl) (by first | rfl | simp [Value.oneCell']) ?_; intro w5 hz5 ho5 hb5; have Z5 := Lib.hid hz5; clear hz5; have HB5 := Lib.hid (hb5 GZ.out (pw_below_drewN HB.out m_)); clear hb5 ho5))
          refine bodyPost_ret (results_cell_row_tmp rfl _ _ gz 26 _ (0, 0) _ rfl Z5.out hu26 rfl (by exact size26)) rfl ?_
          first | exact ⟨none, 0, none, 0, rfl, ⟨Kd.C_nil _ _, Nat.le_refl _, Kd.C_nil _ _, Nat.le_refl _⟩, HB5.out⟩ | exact ⟨none, 0, none, 0, rfl, ⟨Kd.C_nil _ _, Nat.le_refl _, Kd.C_nil _ _, Nat.le_refl _⟩, .inr (.inl rfl), HB5.out⟩
        · have hM2 : atR (rd_T26 y.f4 si) (ps.drop (i + 1).toNat) = R := hstep
          have hsl : si < (y.f4.length : Int) := by have := hs1 rfl; simp only at this; omega
          have hs0' : 0 ≤ si := hs0
          obtain ⟨ad, B4, d4, B5, d5, rfl, hAt, hl4, hk4, hl5, hk5⟩ := At.of_elem HR.out.k4 si hs0' hsl
          obtain ⟨d'', hkids⟩ := hkids
          have HO2 := Aside0.mk (⟨d'', hkids _ (rd_mem y.f4 si hs0' hsl)⟩ : ∃ d', okG d' (rd_T26 y.f4 si))
          have HR2 := Aside0.mk (⟨hk4, hl4, hk5, hl5⟩ : Rows4 w (rd_T26 y.f4 si) B4 d4 B5 d5)
          have HM2 := Aside0.mk hM2
          have r0 := eq_true hs0'
          have r1 := eq_true hsl
          obtain ⟨a0, a1, a2, a3, a4, a5⟩ := hAt.below HB.out
          have GB := Lib.hid (show w.heap.size ≤ gb by rw [GE.out]; exact Nat.le_refl _)
          clear hstep hcs hs0 hs1 hkl hl64 hown hkids hO hM2 hAt hl4 hk4 hl5 hk5
          go_wp2_with (first | (go_at_call 77; (with_reducible refine CS.out.mono ?_); rintro e w' ⟨rfl, ⟨m_, rfl⟩⟩) | ((with_reducible refine gate_store (t := 26) (p := 2) rfl ?_); refine row_event (by rfl) (by rfl) (by rfl) (by rfl) (by rfl) (blk_drewN BK.out m_) (by exact size26) (by rfl) (by first | rfl | simp [Value.oneCell']) ?_; intro w5 hz5 ho5 hb5; have Z5 := Aside0.mk hz5; clear hz5; have ZZ5 := Aside0.mk ((ho5 gz (fun h => NE.out h.symm)).trans (blk_drewN BZ.out m_)); have HB5 := Aside0.mk (hb5 GB.out (pw_below_drewN HB.out m_)); clear hb5 ho5))
          go_roundg k2
          case measure => omega
          case rel => exact ⟨i + 1, rd_T26 y.f4 si, B4, d4, B5, d5, rfl, HI2, HM2, HO2, HR2, Z5, ZZ5, HB5⟩
end Go.Proofs.YtepolmajebdphaaDoor.Values
namespace Go.Proofs.YtepolmajebdphaaDoor.Values
open Go.RowKit Go.Proofs.YtepolmajebdphaaDoor.Q Go.Proofs.YtepolmajebdphaaDoor.Real Go.Proofs.YtepolmajebdphaaDoor.RealPure Go.Proofs.YtepolmajebdphaaDoorW.PrintWords Go.Proofs.YtepolmajebdphaaDoorW.PrintLast Go.Proofs.YtepolmajebdphaaDoorW.PrintMore
set_option linter.unusedSimpArgs false
set_option linter.unusedVariables false

theorem q23 (w : World) (a : Option Addr) (n c n' c' : Nat) : (binOp .eql 23 (.slice a n c) (.slice none n' c')).run Tryd.prog w = .ok (.bool a.isNone) w := Lib.run_eql_slice_nil w _ _ a n c n' c' Tryd.underlying23
theorem q24 (w : World) (a : Option Addr) (n c n' c' : Nat) : (binOp .eql 24 (.slice a n c) (.slice none n' c')).run Tryd.prog w = .ok (.bool a.isNone) w := Lib.run_eql_slice_nil w _ _ a n c n' c' Tryd.underlying24
set_option maxRecDepth 100000 in
theorem clone26_nil (n c : Nat) (w : World) : Calls Tryd.prog 78 #[.slice none n c] w fun e w' => e = .returned (.slice none 0 0) ∧ w' = w := by
  have q := q23
  go_enter Tryd.func78, Tryd.ntmps78
  go_wp2
  go_ret
  exact ⟨rfl, rfl⟩
set_option maxHeartbeats 4000000 in
set_option maxRecDepth 100000 in
theorem clone26 (a : Addr) (n c : Nat) (news : List Value) (w : World) (hl : news.length = n * 6) (hn : n ≤ 1048576) (hc : ∀ j u, news[j]? = some u → w.cell? (a.add j) = some u) (h1 : ∀ u ∈ news, u.oneCell' = true) :
    Calls Tryd.prog 78 #[.slice (some a) n c] w fun e w' => ∃ v', e = .returned v' ∧ w'.ownsRow w.heap.size 26 6 v' n news ∧ Below w.heap.size w w' := by
  have q := q23
  obtain ⟨i0, hi, hz0, hz1, hz2⟩ := info_parts Q.info26
  have A : Aside0 (∀ j u, news[j]? = some u → w.cell? (a.add j) = some u) := ⟨hc⟩
  clear hc
  go_enter Tryd.func78, Tryd.ntmps78
  go_wp2_with (at_builtin; refine wpList_append_own _ rfl _ _ 23 rfl w.heap.size 26 i0 _ 6 88 Tryd.underlying23 hi hz0 hz1 hz2 rfl (by decide) _ _ _ rfl (World.ownsRow_made w #[] 0 (Nat.le_refl _) (Nat.zero_le _) (by simp)) a n c news rfl ?qc1 ?qc2 ?qc3 ?qc4 ?qc5 ?qc6 ?_)
  case qc1 => exact hl
  case qc2 =>
    intro j u hj
    exact pw_cell_below (below_alloc (Below.refl _ _) _) (A.out j u hj)
  case qc3 => exact h1
  case qc4 => unfold maxLen; omega
  case qc5 => omega
  case qc6 => simp
  intro v' w1 hown hgrow hnil
  go_wp2
  go_ret
  refine ⟨v', rfl, by simpa using hown, ?_⟩
  exact ((Below.refl _ w).alloc (Nat.le_refl _) _).grown hgrow (by simp) (by intro k hk; simp [Value.ownBlock] at hk; omega)
set_option maxRecDepth 100000 in
theorem clone9_nil (n c : Nat) (w : World) : Calls Tryd.prog 79 #[.slice none n c] w fun e w' => e = .returned (.slice none 0 0) ∧ w' = w := by
  have q := q24
  go_enter Tryd.func79, Tryd.ntmps79
  go_wp2
  go_ret
  exact ⟨rfl, rfl⟩
set_option maxHeartbeats 4000000 in
set_option maxRecDepth 100000 in
theorem clone9 (a : Addr) (n c : Nat) (news : List Value) (w : World) (hl : news.length = n * 1) (hn : n ≤ 1048576) (hc : ∀ j u, news[j]? = some u → w.cell? (a.add j) = some u) (h1 : ∀ u ∈ news, u.oneCell' = true) :
    Calls Tryd.prog 79 #[.slice (some a) n c] w fun e w' => ∃ v', e = .returned v' ∧ w'.ownsRow w.heap.size 9 1 v' n news ∧ Below w.heap.size w w' := by
  have q := q24
  obtain ⟨i0, hi, hz0, hz1, hz2⟩ := info_parts Q.info9
  have A : Aside0 (∀ j u, news[j]? = some u → w.cell? (a.add j) = some u) := ⟨hc⟩
  clear hc
  go_enter Tryd.func79, Tryd.ntmps79
  go_wp2_with (at_builtin; refine wpList_append_own _ rfl _ _ 24 rfl w.heap.size 9 i0 _ 1 16 Tryd.underlying24 hi hz0 hz1 hz2 rfl (by decide) _ _ _ rfl (World.ownsRow_made w #[] 0 (Nat.le_refl _) (Nat.zero_le _) (by simp)) a n c news rfl ?qc1 ?qc2 ?qc3 ?qc4 ?qc5 ?qc6 ?_)
  case qc1 => exact hl
  case qc2 =>
    intro j u hj
    exact pw_cell_below (below_alloc (Below.refl _ _) _) (A.out j u hj)
  case qc3 => exact h1
  case qc4 => unfold maxLen; omega
  case qc5 => omega
  case qc6 => simp
  intro v' w1 hown hgrow hnil
  go_wp2
  go_ret
  refine ⟨v', rfl, by simpa using hown, ?_⟩
  exact ((Below.refl _ w).alloc (Nat.le_refl _) _).grown hgrow (by simp) (by intro k hk; simp [Value.ownBlock] at hk; omega)
end Go.Proofs.YtepolmajebdphaaDoor.Values
namespace Go.Proofs.YtepolmajebdphaaDoor.Values
open Go.RowKit Go.Proofs.YtepolmajebdphaaDoor.Q Go.Proofs.YtepolmajebdphaaDoor.Real Go.Proofs.YtepolmajebdphaaDoor.RealPure Go.Proofs.YtepolmajebdphaaDoorW.PrintWords Go.Proofs.YtepolmajebdphaaDoorW.PrintLast Go.Proofs.YtepolmajebdphaaDoorW.PrintMore
set_option linter.unusedSimpArgs false
set_option linter.unusedVariables false

theorem R_empty {α : Type} {d : Kd α} {e : Nat} {w : World} {base : Nat} {v : Value} (h : w.ownsRow base e d.sz v 0 []) (ok : Nat → Prop) (hok : ∀ k, v.ownBlock = some k → ok k) : d.R e w base ok v [] :=
  ⟨hok, [], h, Reps.none _ _⟩

theorem cloneE26 (A : Option Addr) (c : Nat) (w : World) : Calls Tryd.prog 78 #[.slice A 0 c] w fun e w' => (∃ B cb, e = .returned (.slice B 0 cb) ∧ w'.ownsRow w.heap.size 26 6 (.slice B 0 cb) 0 []) ∧ Below w.heap.size w w' := by
  cases A with
  | none => exact (clone26_nil 0 c w).mono fun e w' ⟨h1, h2⟩ => by subst h2; exact ⟨⟨none, 0, h1, own_nil _ _ _ _⟩, Below.refl _ _⟩
  | some a => exact (clone26 a 0 c [] w rfl (by omega) (by simp) (by simp)).mono fun e w' ⟨v', h1, h2, h3⟩ => (h2.2.elim (fun hv => ⟨⟨none, 0, by rw [h1, hv.1], by rw [← hv.1]; exact h2⟩, h3⟩) (fun ⟨g, cap, cur, hv, _⟩ => ⟨⟨some ⟨g, 0, none⟩, cap, by rw [h1, hv], by rw [← hv]; exact h2⟩, h3⟩))
theorem cloneE9 (A : Option Addr) (c : Nat) (w : World) : Calls Tryd.prog 79 #[.slice A 0 c] w fun e w' => (∃ B cb, e = .returned (.slice B 0 cb) ∧ w'.ownsRow w.heap.size 9 1 (.slice B 0 cb) 0 []) ∧ Below w.heap.size w w' := by
  cases A with
  | none => exact (clone9_nil 0 c w).mono fun e w' ⟨h1, h2⟩ => by subst h2; exact ⟨⟨none, 0, h1, own_nil _ _ _ _⟩, Below.refl _ _⟩
  | some a => exact (clone9 a 0 c [] w rfl (by omega) (by simp) (by simp)).mono fun e w' ⟨v', h1, h2, h3⟩ => (h2.2.elim (fun hv => ⟨⟨none, 0, by rw [h1, hv.1], by rw [← hv.1]; exact h2⟩, h3⟩) (fun ⟨g, cap, cur, hv, _⟩ => ⟨⟨some ⟨g, 0, none⟩, cap, by rw [h1, hv], by rw [← hv]; exact h2⟩, h3⟩))

theorem own_past {w : World} {base : Nat} {e : TypeId} {size n : Nat} {v : Value} {xs : List Value} (h : w.ownsRow base e size v n xs) {g : Nat} (hg : g < base) (j : Nat) (u : Value) : (w.setCell ⟨g, j, none⟩ u).ownsRow base e size v n xs :=
  own_move h (fun k hk => Below.heap_setCell w _ u k (by have := own_base h k hk; show k ≠ g; omega))

set_option maxHeartbeats 8000000 in
set_option maxRecDepth 100000 in
theorem Copy_leaf (x : V) (A4 : Option Addr) (c4 : Nat) (A5 : Option Addr) (c5 : Nat) (w : World) (h4 : x.f4 = []) (h5 : x.f5 = []) :
    Calls Tryd.prog 58 #[.agg #[.int .i64 x.f0, .int .i64 x.f1, .int .u64 x.f2, .string x.f3, .slice A4 0 c4, .slice A5 0 c5]] w fun e w' => ∃ v4 v5, e = .returned (.agg #[.int .i64 x.f0, .int .i64 x.f1, .int .u64 x.f2, .string x.f3, v4, v5]) ∧
      Kd.R k26 26 w' w.heap.size (fun k_ => some k_ ≠ v5.ownBlock) v4 x.f4 ∧ Kd.R Kd.string 9 w' w.heap.size (fun _ => True) v5 x.f5 ∧ Below w.heap.size w w' := by
  have hu26 := Tryd.underlying26
  rw [h4, h5]
  generalize x.f0 = a0
  generalize x.f1 = a1
  generalize x.f2 = a2
  generalize x.f3 = a3
  clear h4 h5 x
  go_enter Tryd.func58, Tryd.ntmps58
  go_upto_region 1 with (first | ((with_reducible refine gate_dst (N := 1) rfl ?_); (try (refine gate_guard (by rfl) ?_; dsimp only)); refine box_event ?hg (N := 1) ?hd (cs := #[.int .i64 a0, .int .i64 a1, .int .u64 a2, .string a3, .slice A4 0 c4, .slice A5 0 c5]) (t := 26) ?hr ?_; (case hd => rfl); (case hg => rfl); (case hr => first | (go_simp; done) | (go_simp; rfl)); intro gb hg w3 hbox hb; have BK := Aside0.mk hbox; have HB := Aside0.mk hb; have GE := Lib.hid hg; clear hb hbox hg))
  have A1 := Lib.hid (blk_alloc BK.out (.cells #[.int .i64 0, .int .i64 0, .int .u64 0, .string ⟨#[]⟩, .slice none 0 0, .slice none 0 0] 26))
  have A2 := Lib.hid (blk_new w3 (.cells #[.int .i64 0, .int .i64 0, .int .u64 0, .string ⟨#[]⟩, .slice none 0 0, .slice none 0 0] 26))
  have A3 := Lib.hid (below_alloc HB.out (.cells #[.int .i64 0, .int .i64 0, .int .u64 0, .string ⟨#[]⟩, .slice none 0 0, .slice none 0 0] 26))
  have GZ := Lib.hid (below_size HB.out)
  have NE := Lib.hid (Nat.ne_of_lt (blk_lt BK.out))
  clear HB BK
  generalize w3.heap.size = gz at *
  generalize hw4 : w3.alloc (.cells #[.int .i64 0, .int .i64 0, .int .u64 0, .string ⟨#[]⟩, .slice none 0 0, .slice none 0 0] 26) = w4 at *
  clear hw4
  have g4 : w4.cell? ⟨gb, 4, none⟩ = some (.slice A4 0 c4) := (blk_cell A1.out 4).trans rfl
  have g5 : w4.cell? ⟨gb, 5, none⟩ = some (.slice A5 0 c5) := (blk_cell A1.out 5).trans rfl
  have D1 := Lib.hid (blk_drew A1.out); have D2 := Lib.hid (blk_drew A2.out); have D3 := Lib.hid (below_drew A3.out)
  have d4 : w4.drew.cell? ⟨gb, 4, none⟩ = some (.slice A4 0 c4) := (blk_cell D1.out 4).trans rfl
  have d5 : w4.drew.cell? ⟨gb, 5, none⟩ = some (.slice A5 0 c5) := (blk_cell D1.out 5).trans rfl
  go_cut [6] (fun v6 wc => ∃ (B : Option Addr) (cb : Nat) (C : Option Addr) (cc : Nat), v6 = .slice B 0 cb ∧ Aside0 (wc.heap[gb]? = some (.cells #[.int .i64 a0, .int .i64 a1, .int .u64 a2, .string a3, .slice B 0 cb, .slice C 0 cc] 26 (0, 0))) ∧ Aside0 (wc.heap[gz]? = some (.cells #[.int .i64 0, .int .i64 0, .int .u64 0, .string ⟨#[]⟩, .slice none 0 0, .slice none 0 0] 26 (0, 0))) ∧ Aside0 (wc.ownsRow w.heap.size 26 6 (.slice B 0 cb) 0 []) ∧ Aside0 (wc.ownsRow w.heap.size 9 1 (.slice C 0 cc) 0 []) ∧ Aside0 (∀ k, (Value.slice B 0 cb).ownBlock = some k → some k ≠ (Value.slice C 0 cc).ownBlock) ∧ Aside0 (∀ k, ((Value.slice B 0 cb).ownBlock = some k ∨ (Value.slice C 0 cc).ownBlock = some k) → k ≠ gz) ∧ Aside0 (Below w.heap.size w wc))
  case first =>
    go_region_with (first | (go_at_call 78; refine (cloneE26 _ _ _).mono ?_; rintro e w5 ⟨⟨B, cb, rfl, hB⟩, hb5⟩; have h4 := pw_cell_below hb5 d4; have h5 := pw_cell_below hb5 d5; have BK5 := Aside0.mk (blk_below D1.out hb5); have BZ5 := Aside0.mk (blk_below D2.out hb5); have HB45 := Aside0.mk hb5; have HB5 := Aside0.mk (below_step D3.out hb5); have OB := Aside0.mk hB; clear hb5 hB) | (go_at_call 79; refine (cloneE9 _ _ _).mono ?_; rintro e w6 ⟨⟨C, cc, rfl, hC⟩, hb6⟩; have k4 := pw_cell_below hb6 h4; have k5 := pw_cell_below hb6 h5; have BK6 := Aside0.mk (blk_below BK5.out hb6); have BZ6 := Aside0.mk (blk_below BZ5.out hb6); have f4 := blk_frozen BK6.out 4; have f5 := blk_frozen BK6.out 5; have HB6 := Aside0.mk (below_step HB5.out hb6); have OB6 := Aside0.mk (pw_own_below OB.out hb6); have OC := Aside0.mk hC; clear hb6 hC))
    all_goals
      (try go_wp2)
      go_meet
      case rel =>
        have hgb : gb < w4.drew.heap.size := blk_lt D1.out
        have hww : w.heap.size ≤ w4.drew.heap.size := below_size D3.out
        have hw5 : w4.drew.heap.size ≤ w5.heap.size := below_size HB45.out
        refine ⟨B, cb, C, cc, rfl, ⟨blk_put (blk_put BK6.out 4 _ rfl) 5 _ rfl⟩, ⟨blk_far (blk_far BZ6.out (Ne.symm NE.out) _) (Ne.symm NE.out) _⟩, ⟨own_weaken (own_past (own_past OB6.out hgb 4 _) hgb 5 _) hww⟩, ⟨own_weaken (own_past (own_past OC.out (by omega) 4 _) (by omega) 5 _) (by omega)⟩, ⟨fun k hk hc => ?_⟩, ⟨fun k hk => ?_⟩, ⟨below_set (below_set HB6.out (by rw [GE.out]; exact Nat.le_refl _)) (by rw [GE.out]; exact Nat.le_refl _)⟩⟩
        · have h1 := own_lt OB.out k hk
          have h2 := own_base OC.out k hc.symm
          omega
        · have hgz : gz < w4.drew.heap.size := blk_lt D2.out
          rcases hk with hk | hk
          · have h1 := own_base OB.out k hk
            omega
          · have h2 := own_base OC.out k hk
            omega
  case rest =>
    obtain ⟨B, cb, C, cc, rfl, BK, BZ, OB, OC, HN, HZ, HB⟩ := hcut
    clear g4 g5 d4 d5 A1 A2 A3 D1 D2 D3
    have g0 : wc.cell? ⟨gb, 0, none⟩ = some (.int .i64 a0) := (blk_cell BK.out 0).trans rfl
    have g1 : wc.cell? ⟨gb, 1, none⟩ = some (.int .i64 a1) := (blk_cell BK.out 1).trans rfl
    have g2 : wc.cell? ⟨gb, 2, none⟩ = some (.int .u64 a2) := (blk_cell BK.out 2).trans rfl
    have g3 : wc.cell? ⟨gb, 3, none⟩ = some (.string a3) := (blk_cell BK.out 3).trans rfl
    have g4 : wc.cell? ⟨gb, 4, none⟩ = some (.slice B 0 cb) := (blk_cell BK.out 4).trans rfl
    have g5 : wc.cell? ⟨gb, 5, none⟩ = some (.slice C 0 cc) := (blk_cell BK.out 5).trans rfl
    go_wp2
    go_loopg [15] 0 (fun kq v15 w' => v15 = .int .i64 0 ∧ w' = wc)
    case atStart => exact ⟨rfl, rfl⟩
    case round =>
      obtain ⟨rfl, rfl⟩ := hrel
      have BZ' := BZ.out
      go_wp2_with (first | ((with_reducible refine gate_store (t := 26) (p := 2) rfl ?_); refine row_event (by rfl) (by rfl) (by rfl) (by rfl) (by rfl) BZ.out (by exact size26) (by rfl) (by first | rfl | simp [Value.oneCell']) ?_; intro w5 hz5 ho5 hb5; have Z5 := Lib.hid hz5; have HO5 := Lib.hid ho5; have HB5 := Lib.hid (hb5 GZ.out HB.out); clear hb5 ho5 hz5))
      refine bodyPost_ret (results_cell_row rfl _ _ gz 26 _ (0, 0) _ rfl Z5.out hu26 rfl (by exact size26)) rfl ?_
      exact ⟨_, _, rfl, R_empty (own_move OB.out (fun k hk => HO5.out k (HZ.out k (.inl hk)))) _ HN.out, R_empty (own_move OC.out (fun k hk => HO5.out k (HZ.out k (.inr hk)))) _ (fun _ _ => trivial), HB5.out⟩
end Go.Proofs.YtepolmajebdphaaDoor.Values
