/- Package value, walked: At. · Package value, walked: At, the walk. · Package value, walked: Clone of what is empty, Copy of a leaf. · Package value, walked: Copy of a leaf. -/
import Derived.Test.YtdghnfmhcnlppaaGreatDoorValuesN
import Derived.Laws.CopyOwn
import Derived.Laws.Tables
import Derived.Laws.Rows
import Derived.Lib.LazyBuf
import Derived.Laws.OwnMore
namespace Go.Proofs.YtdghnfmhcnlppaaGreatDoor.Values
open Go.RowKit Go.Proofs.YtdghnfmhcnlppaaGreatDoor.Q Go.Proofs.YtdghnfmhcnlppaaGreatDoor.Real Go.Proofs.YtdghnfmhcnlppaaGreatDoor.RealPure Go.Proofs.YtdghnfmhcnlppaaGreatDoorW.PrintWords Go.Proofs.YtdghnfmhcnlppaaGreatDoorW.PrintLast Go.Proofs.YtdghnfmhcnlppaaGreatDoorW.PrintMore
set_option linter.unusedSimpArgs false
set_option linter.unusedVariables false

theorem less_some (a b : ByteArray) : K.cmp_Less_string.f a b = some (Op.bytesLess a.toList b.toList) := by
  unfold K.cmp_Less_string.f K.cmp_isNaN_string.f
  simp
/-- The search in sorted rows ends, within the row. -/
theorem search_total (l : List ByteArray) (a : ByteArray) (hl : l.length < 1099511627776) : ∀ (k : Nat) (lo hi : Int), 0 ≤ lo → lo ≤ hi → hi ≤ l.length → hi - lo < k →
    ∃ i b, K.slices_BinarySearch_string_string.l0 k l a (l.length : Int) lo hi = some (i, b) ∧ 0 ≤ i ∧ i ≤ l.length ∧ (b = true → i < l.length)
  | 0, lo, hi, h0, h1, h2, h3 => by omega
  | k + 1, lo, hi, h0, h1, h2, h3 => by
    unfold K.slices_BinarySearch_string_string.l0
    by_cases c : lo < hi
    · rw [if_pos c]
      have hm : wrap64 ((IntKind.u64.wrap (wrap64 (lo + hi))) / 2) = (lo + hi) / 2 := by
        rw [wrap_small (lo + hi) (by omega) (by omega)]
        have hu : IntKind.u64.wrap (lo + hi) = lo + hi := by
          show (lo + hi) % 18446744073709551616 = lo + hi
          exact Int.emod_eq_of_lt (by omega) (by omega)
        rw [hu]
        exact wrap_small _ (by omega) (by omega)
      rw [hm, less_some]
      have hm1 : wrap64 ((lo + hi) / 2 + 1) = (lo + hi) / 2 + 1 := wrap_small _ (by omega) (by omega)
      rw [hm1]
      rw [if_pos (by omega), if_pos (by omega)]
      rw [Option.bind_some]
      split
      · exact search_total l a hl k _ _ (by omega) (by omega) (by omega) (by omega)
      · exact search_total l a hl k _ _ (by omega) (by omega) (by omega) (by omega)
    · rw [if_neg c]
      by_cases c2 : lo < (l.length : Int)
      · rw [if_pos c2, if_pos h0, if_pos c2]
        split
        · exact ⟨lo, true, rfl, h0, by omega, fun _ => c2⟩
        · unfold K.slices_isNaN_string.f
          refine ⟨lo, false, ?_, h0, by omega, fun h => by cases h⟩
          simp
      · rw [if_neg c2]
        exact ⟨lo, false, rfl, h0, by omega, fun h => by cases h⟩

def searchB (l : List ByteArray) (a : ByteArray) : Int × Bool := (K.slices_BinarySearch_string_string.f (l.length + 1) l a).getD (0, false)
theorem search_calls (A : Option Addr) (c : Nat) (l : List ByteArray) (a : ByteArray) (w : World) (hr : Kd.C Kd.string w A l.length l) (hc : l.length ≤ c) (hl : l.length < 1099511627776) :
    (Calls Tryz.prog 123 #[.slice A l.length c, .string a] w fun e w' => e = .returned (.tuple #[.int .i64 (searchB l a).1, .bool (searchB l a).2]) ∧ Drawn0 w w')
      ∧ 0 ≤ (searchB l a).1 ∧ ((searchB l a).2 = true → (searchB l a).1 < l.length) := by
  obtain ⟨i, b, h, h0, h1, h2⟩ := search_total l a hl (l.length + 1) 0 l.length (by omega) (by omega) (by omega) (by omega)
  have e : K.slices_BinarySearch_string_string.f (l.length + 1) l a = some (i, b) := h
  have e2 : searchB l a = (i, b) := by unfold searchB; rw [e]; rfl
  rw [e2]
  exact ⟨K.slices_BinarySearch_string_string.calls (l.length + 1) A c l a i b w hr hc e, h0, h2⟩

/-- A tree of at most so many levels, each value one that may be. -/
def okG : Nat → V → Prop
  | 0, _ => False
  | d + 1, x => ownB x = true ∧ ∀ z ∈ x.f4, okG d z
theorem okG_of_may : ∀ d x l, (mayD d x l).1 = true → okG d x
  | 0, x, l, h => by cases h
  | d + 1, x, l, h => by
    unfold mayD at h
    split at h
    · cases h
    · split at h
      · rename_i ho
        exact ⟨ho, fun z hz => by
          obtain ⟨l', hl'⟩ := may_each _ _ _ h z hz
          exact okG_of_may d z l' hl'⟩
      · cases h

/-- What At answers. -/
def atR : V → List ByteArray → V × Int
  | x, [] => (x, 0)
  | x, k :: ks => if x.f0 == 6 then (if (searchB x.f5 k).2 = true then atR (rd_T27 x.f4 (searchB x.f5 k).1) ks else (z27, 401)) else (z27, 402)

theorem keys_len {x : V} (h : ownB x = true) (h6 : x.f0 = 6) : x.f5.length = x.f4.length := by
  unfold ownB at h
  simp only [Bool.and_eq_true, decide_eq_true_eq] at h
  have hk := h.2
  rw [h6] at hk
  simp at hk
  exact hk.1

/-- A whole value is stored into a block of its own, as an event: the block, the others, what is below. -/
theorem row_event {P : Program} {W : World} {ops : Array Oper} {rest : List Oper} {o : Oper} {a : Act} {Q : Exit → Act → World → Prop} (hgd : o.guard = none) (hN : o.dst = none) {ty : TypeId} {x y : Operand} (ho : o.op = .store ty x y)
    {g : Nat} {cells : Array Value} (hx : a.eval x = .pointer (some ⟨g, 0, none⟩)) (hy : a.eval y = .agg cells) {t : TypeId} {old : Array Value} (hg : W.heap[g]? = some (.cells old t (0, 0)))
    (hi : (P.info? ty).map (·.size) = some cells.size) (hold : old.size = cells.size) (h1 : cells.all (·.oneCell') = true)
    (h : ∀ w', w'.heap[g]? = some (.cells cells t (0, 0)) → (∀ k, k ≠ g → w'.heap[k]? = W.heap[k]?) → (∀ {w0 : World}, w0.heap.size ≤ g → Below w0.heap.size w0 W → Below w0.heap.size w0 w') → wpList P ops Q rest a w') :
    wpList P ops Q (o :: rest) a W := by
  refine wpList_store_row hgd ty x y ho g cells hx hy t old hg hi hold h1 ?_
  rw [hN]
  exact h _ (setRow_heap W g old cells t (0, 0) hg) (fun k hk => setRow_other W g k cells hk) (fun hB hb => below_setRow hb hB cells)

theorem results_cell_row_tmp {P : Program} {fn : Func} {p u : Tmp} {ty : TypeId} (h : fn.results = #[.cell p ty, .tmp u]) (tmps : Array Value) (w : World) (g : Nat) (t : TypeId) (cs : Array Value) (fr : Nat × Nat) (d : TypeDesc)
    (hp : tmps.getD p undef = .pointer (some ⟨g, 0, none⟩)) (hg : w.heap[g]? = some (.cells cs t fr))
    (hu : P.underlying ty = some d) (hd : (match d with | .struct _ | .array _ _ => true | _ => false) = true) (hi : (P.info? ty).map (·.size) = some cs.size) :
    (results fn tmps).run P w = .ok (.tuple #[.agg cs, tmps.getD u undef]) w := by
  have hp' : tmps[p]?.getD undef = .pointer (some ⟨g, 0, none⟩) := by simpa using hp
  simp [results, h, hp', asAddr, run_loadVar_row w g t ty cs fr d hg hu hd hi]
end Go.Proofs.YtdghnfmhcnlppaaGreatDoor.Values
namespace Go.Proofs.YtdghnfmhcnlppaaGreatDoor.Values
open Go.RowKit Go.Proofs.YtdghnfmhcnlppaaGreatDoor.Q Go.Proofs.YtdghnfmhcnlppaaGreatDoor.Real Go.Proofs.YtdghnfmhcnlppaaGreatDoor.RealPure Go.Proofs.YtdghnfmhcnlppaaGreatDoorW.PrintWords Go.Proofs.YtdghnfmhcnlppaaGreatDoorW.PrintLast Go.Proofs.YtdghnfmhcnlppaaGreatDoorW.PrintMore
set_option linter.unusedSimpArgs false
set_option linter.unusedVariables false

theorem size27 : (Tryz.prog.info? 27).map (·.size) = some 6 := by kernel_rfl
set_option maxHeartbeats 8000000 in
set_option maxRecDepth 100000 in
theorem At2_calls (x : V) (A4 : Option Addr) (c4 : Nat) (A5 : Option Addr) (c5 : Nat) (P : Option Addr) (cp : Nat) (ps : List ByteArray) (d : Nat) (w0 w : World) (hb0 : Below w0.heap.size w0 w) (h : Rows4 w0 x A4 c4 A5 c5) (hp : Kd.C Kd.string w0 P ps.length ps) (hpl : ps.length < 1099511627776) (hg : okG d x) :
    Calls Tryz.prog 111 #[arg x A4 c4 A5 c5, .slice P ps.length cp] w fun e w' => ∃ B4 d4 B5 d5, e = .returned (.tuple #[arg (atR x ps).1 B4 d4 B5 d5, .int .i64 (atR x ps).2]) ∧ Rows4 w0 (atR x ps).1 B4 d4 B5 d5 ∧ (okG d (atR x ps).1 ∨ (atR x ps).1 = z27 ∨ ∃ d', okG d' (atR x ps).1) ∧ Below w.heap.size w w' := by
  have hu27 := Tryz.underlying27
  have H0 := Lib.hid h; have HP := Lib.hid hp; have HG := Lib.hid hg; have HB00 := Lib.hid hb0
  obtain ⟨R, hR⟩ : ∃ R, atR x ps = R := ⟨_, rfl⟩
  rw [hR]
  clear h hp hg hb0
  go_enter Tryz.func111, Tryz.ntmps111
  go_upto_region 1 with (first | ((with_reducible refine gate_dst (N := 2) rfl ?_); (try (refine gate_guard (by rfl) ?_; dsimp only)); refine box_event ?hg (N := 2) ?hd (cs := #[.int .i64 x.f0, .int .i64 x.f1, .int .u64 x.f2, .string x.f3, .slice A4 x.f4.length c4, .slice A5 x.f5.length c5]) (t := 27) ?hr ?_; (case hd => rfl); (case hg => rfl); (case hr => first | (go_simp; done) | (go_simp; rfl)); intro gb hg w3 hbox hb; have BK := Aside0.mk hbox; have HB := Aside0.mk hb; have GE := Lib.hid hg; clear hb hbox hg))
  have hne : gb ≠ w3.heap.size := Nat.ne_of_lt (blk_lt BK.out)
  have NE := Lib.hid hne
  have A1 := Aside0.mk (blk_alloc BK.out (.cells #[.int .i64 0, .int .i64 0, .int .u64 0, .string ⟨#[]⟩, .slice none 0 0, .slice none 0 0] 27))
  have A2 := Aside0.mk (blk_new w3 (.cells #[.int .i64 0, .int .i64 0, .int .u64 0, .string ⟨#[]⟩, .slice none 0 0, .slice none 0 0] 27))
  have A3 := Aside0.mk (below_alloc HB.out (.cells #[.int .i64 0, .int .i64 0, .int .u64 0, .string ⟨#[]⟩, .slice none 0 0, .slice none 0 0] 27))
  have GZ := Lib.hid (below_size HB.out)
  clear HB BK hne
  generalize w3.heap.size = gz at *
  generalize hw4 : w3.alloc (.cells #[.int .i64 0, .int .i64 0, .int .u64 0, .string ⟨#[]⟩, .slice none 0 0, .slice none 0 0] 27) = w4 at *
  clear hw4
  go_wp2
  go_loopg [12] ps.length (fun kq v12 w' => ∃ (i : Int) (y : V) (E4 : Option Addr) (e4 : Nat) (E5 : Option Addr) (e5 : Nat), v12 = .int .i64 i ∧ Aside0 (i + kq = ps.length ∧ 0 ≤ i) ∧ Aside0 (atR y (ps.drop i.toNat) = R) ∧ Aside0 (∃ d', okG d' y) ∧ Aside0 (Rows4 w0 y E4 e4 E5 e5) ∧ Aside0 (w'.heap[gb]? = some (.cells #[.int .i64 y.f0, .int .i64 y.f1, .int .u64 y.f2, .string y.f3, .slice E4 y.f4.length e4, .slice E5 y.f5.length e5] 27 (0, 0))) ∧ Aside0 (w'.heap[gz]? = some (.cells #[.int .i64 0, .int .i64 0, .int .u64 0, .string ⟨#[]⟩, .slice none 0 0, .slice none 0 0] 27 (0, 0))) ∧ Aside0 (Below w.heap.size w w'))
  case atStart => exact ⟨0, x, A4, c4, A5, c5, rfl, ⟨by omega, by omega⟩, ⟨hR⟩, ⟨⟨d, HG.out⟩⟩, ⟨H0.out⟩, A1, A2, A3⟩
  case round =>
    clear A1 A2 A3
    obtain ⟨i, y, E4, e4, E5, e5, rfl, HI, HM, HO, HR, BK, BZ, HB⟩ := hrel
    obtain ⟨hi1, hi0⟩ := HI.out
    obtain ⟨g0, g1, g2, g3, g4, g5⟩ := At.of_box BK.out
    have f0 := blk_frozen BK.out 0
    have z0 := blk_frozen BZ.out 0
    cases gk with
    | zero =>
      have hlt : decide (i < (ps.length : Int)) = false := decide_eq_false (by omega)
      have e := HM.out
      rw [List.drop_of_length_le (by omega)] at e
      have e1 : R = (y, 0) := by rw [← e]; cases y; rfl
      clear e hi1 hi0 hR
      subst e1
      go_wp2_with (first | ((with_reducible refine gate_store (t := 27) (p := 4) rfl ?_); refine row_event (by rfl) (by rfl) (by rfl) (by rfl) (by rfl) BZ.out (by exact size27) (by rfl) (by first | rfl | simp [Value.oneCell']) ?_; intro w5 hz5 ho5 hb5; have Z5 := Lib.hid hz5; clear hz5; have HB5 := Lib.hid (hb5 GZ.out HB.out); clear hb5 ho5))
      refine bodyPost_ret (results_cell_row_tmp rfl _ _ gz 27 _ (0, 0) _ rfl Z5.out hu27 rfl (by exact size27)) rfl ?_
      exact ⟨_, _, _, _, rfl, HR.out, .inr (.inr HO.out), HB5.out⟩
    | succ k2 =>
      have hlt : decide (i < (ps.length : Int)) = true := decide_eq_true (by omega)
      have hlt' : i < (ps.length : Int) := by omega
      have hstep : atR y (rdOf ByteArray.empty ps i :: ps.drop (i + 1).toNat) = R := by
        have e := HM.out
        rw [List.drop_eq_getElem_cons (by omega : i.toNat < ps.length)] at e
        rw [show (i + 1).toNat = i.toNat + 1 by omega]
        have e2 : rdOf ByteArray.empty ps i = ps[i.toNat]'(by omega) := by
          show ps.getD i.toNat ByteArray.empty = _
          rw [List.getD_eq_getElem?_getD, List.getElem?_eq_getElem (by omega)]; rfl
        rw [e2]; exact e
      obtain ⟨pd, ep, hpc⟩ := Kd.at_string HP.out i hi0 hlt'
      cases ep
      have pc := pw_cell_below (below_step HB00.out HB.out) hpc
      have q0 := eq_true hi0
      have q1 := eq_true hlt'
      have wi : wrap64 (i + 1) = i + 1 := wrap_small _ (by omega) (by omega)
      have wi' : IntKind.i64.wrap (i + 1) = i + 1 := by rw [i64_w]; exact wi
      have HI2 := Aside0.mk (show i + 1 + k2 = ps.length ∧ 0 ≤ i + 1 from ⟨by omega, by omega⟩)
      rw [show atR y (rdOf ByteArray.empty ps i :: ps.drop (i + 1).toNat) = (if y.f0 == 6 then (if (searchB y.f5 (rdOf ByteArray.empty ps i)).2 = true then atR (rd_T27 y.f4 (searchB y.f5 (rdOf ByteArray.empty ps i)).1) (ps.drop (i + 1).toNat) else (z27, 401)) else (z27, 402)) from rfl] at hstep
      generalize rdOf ByteArray.empty ps i = key at pc hstep
      obtain ⟨k6, hk6⟩ : ∃ q, (y.f0 == 6) = q := ⟨_, rfl⟩
      have hn6 : (y.f0 != 6) = !k6 := by rw [← hk6]; rfl
      rw [hk6] at hstep
      clear hpc HM hR
      cases k6
      · have e1 : (z27, 402) = R := hstep
        subst e1
        clear hstep
        go_wp2_with (first | ((with_reducible refine gate_store (t := 27) (p := 4) rfl ?_); refine row_event (by rfl) (by rfl) (by rfl) (by rfl) (by rfl) BZ.out (by exact size27) (by rfl) (by first | rfl | simp [Value.oneCell']) ?_; intro w5 hz5 ho5 hb5; have Z5 := Lib.hid hz5; clear hz5; have HB5 := Lib.hid (hb5 GZ.out HB.out); clear hb5 ho5))
        refine bodyPost_ret (results_cell_row_tmp rfl _ _ gz 27 _ (0, 0) _ rfl Z5.out hu27 rfl (by exact size27)) rfl ?_
        first | exact ⟨none, 0, none, 0, rfl, ⟨Kd.C_nil _ _, Nat.le_refl _, Kd.C_nil _ _, Nat.le_refl _⟩, HB5.out⟩ | exact ⟨none, 0, none, 0, rfl, ⟨Kd.C_nil _ _, Nat.le_refl _, Kd.C_nil _ _, Nat.le_refl _⟩, .inr (.inl rfl), HB5.out⟩
      · obtain ⟨d', hO⟩ := HO.out
        obtain ⟨hown, hkids⟩ : ownB y = true ∧ ∃ d'', ∀ z ∈ y.f4, okG d'' z := by
          cases d' with
          | zero => exact hO.elim
          | succ d'' => exact ⟨hO.1, d'', hO.2⟩
        have hkl := keys_len hown (beq_iff_eq.1 hk6)
        have hl64 := len_of_own hown
        obtain ⟨hcs, hs0, hs1⟩ := search_calls E5 e5 y.f5 key wr (Kd.C_below HR.out.k5 (below_step HB00.out HB.out)) HR.out.l5 (by omega)
        have CS := Lib.hid hcs
        generalize searchB y.f5 key = sq at CS hs0 hs1 hstep
        obtain ⟨si, sb⟩ := sq
        cases sb
        · have e1 : (z27, 401) = R := hstep
          subst e1
          clear hstep hcs hs0 hs1 hkl hl64 hown hkids hO
          go_wp2_with (first | (go_at_call 123; (with_reducible refine CS.out.mono ?_); rintro e w' ⟨rfl, ⟨m_, rfl⟩⟩) | ((with_reducible refine gate_store (t := 27) (p := 4) rfl ?_); refine row_event (by rfl) (by rfl) (by rfl) (by rfl) (by rfl) BZ.out (by exact size27) (by rfl) (by first | rfl | simp [Value.oneCell']) ?_; intro w5 hz5 ho5 hb5; have Z5 := Lib.hid hz5; clear hz5; have HB5 := Lib.hid (hb5 GZ.out (pw_below_drewN HB.out m_)); clear hb5 ho5))
          refine bodyPost_ret (results_cell_row_tmp rfl _ _ gz 27 _ (0, 0) _ rfl Z5.out hu27 rfl (by exact size27)) rfl ?_
          first | exact ⟨none, 0, none, 0, rfl, ⟨Kd.C_nil _ _, Nat.le_refl _, Kd.C_nil _ _, Nat.le_refl _⟩, HB5.out⟩ | exact ⟨none, 0, none, 0, rfl, ⟨Kd.C_nil _ _, Nat.le_refl _, Kd.C_nil _ _, Nat.le_refl _⟩, .inr (.inl rfl), HB5.out⟩
        · have hM2 : atR (rd_T27 y.f4 si) (ps.drop (i + 1).toNat) = R := hstep
          have hsl : si < (y.f4.length : Int) := by have := hs1 rfl; simp only at this; omega
          have hs0' : 0 ≤ si := hs0
          obtain ⟨ad, B4, d4, B5, d5, rfl, hAt, hl4, hk4, hl5, hk5⟩ := At.of_elem HR.out.k4 si hs0' hsl
          obtain ⟨d'', hkids⟩ := hkids
          have HO2 := Aside0.mk (⟨d'', hkids _ (rd_mem y.f4 si hs0' hsl)⟩ : ∃ d', okG d' (rd_T27 y.f4 si))
          have HR2 := Aside0.mk (⟨hk4, hl4, hk5, hl5⟩ : Rows4 w0 (rd_T27 y.f4 si) B4 d4 B5 d5)
          have HM2 := Aside0.mk hM2
          have r0 := eq_true hs0'
          have r1 := eq_true hsl
          obtain ⟨a0, a1, a2, a3, a4, a5⟩ := hAt.below (below_step HB00.out HB.out)
          have GB := Lib.hid (show w.heap.size ≤ gb by rw [GE.out]; exact Nat.le_refl _)
          clear hstep hcs hs0 hs1 hkl hl64 hown hkids hO hM2 hAt hl4 hk4 hl5 hk5
          go_wp2_with (first | (go_at_call 123; (with_reducible refine CS.out.mono ?_); rintro e w' ⟨rfl, ⟨m_, rfl⟩⟩) | ((with_reducible refine gate_store (t := 27) (p := 2) rfl ?_); refine row_event (by rfl) (by rfl) (by rfl) (by rfl) (by rfl) (blk_drewN BK.out m_) (by exact size27) (by rfl) (by first | rfl | simp [Value.oneCell']) ?_; intro w5 hz5 ho5 hb5; have Z5 := Aside0.mk hz5; clear hz5; have ZZ5 := Aside0.mk ((ho5 gz (fun h => NE.out h.symm)).trans (blk_drewN BZ.out m_)); have HB5 := Aside0.mk (hb5 GB.out (pw_below_drewN HB.out m_)); clear hb5 ho5))
          go_roundg k2
          case measure => omega
          case rel => exact ⟨i + 1, rd_T27 y.f4 si, B4, d4, B5, d5, rfl, HI2, HM2, HO2, HR2, Z5, ZZ5, HB5⟩
end Go.Proofs.YtdghnfmhcnlppaaGreatDoor.Values
namespace Go.Proofs.YtdghnfmhcnlppaaGreatDoor.Values
open Go.RowKit Go.Proofs.YtdghnfmhcnlppaaGreatDoor.Q Go.Proofs.YtdghnfmhcnlppaaGreatDoor.Real Go.Proofs.YtdghnfmhcnlppaaGreatDoor.RealPure Go.Proofs.YtdghnfmhcnlppaaGreatDoorW.PrintWords Go.Proofs.YtdghnfmhcnlppaaGreatDoorW.PrintLast Go.Proofs.YtdghnfmhcnlppaaGreatDoorW.PrintMore
set_option linter.unusedSimpArgs false
set_option linter.unusedVariables false

theorem qLV (w : World) (a : Option Addr) (n c n' c' : Nat) : (binOp .eql 24 (.slice a n c) (.slice none n' c')).run Tryz.prog w = .ok (.bool a.isNone) w := Lib.run_eql_slice_nil w _ _ a n c n' c' Tryz.underlying24
theorem qLS (w : World) (a : Option Addr) (n c n' c' : Nat) : (binOp .eql 25 (.slice a n c) (.slice none n' c')).run Tryz.prog w = .ok (.bool a.isNone) w := Lib.run_eql_slice_nil w _ _ a n c n' c' Tryz.underlying25
set_option maxRecDepth 100000 in
theorem clone27_nil (n c : Nat) (w : World) : Calls Tryz.prog 44 #[.slice none n c] w fun e w' => e = .returned (.slice none 0 0) ∧ w' = w := by
  have q := qLV
  go_enter Tryz.func44, Tryz.ntmps44
  go_wp2
  go_ret
  exact ⟨rfl, rfl⟩
set_option maxHeartbeats 4000000 in
set_option maxRecDepth 100000 in
theorem clone27 (a : Addr) (n c : Nat) (news : List Value) (w : World) (hl : news.length = n * 6) (hn : n ≤ 1048576) (hc : ∀ j u, news[j]? = some u → w.cell? (a.add j) = some u) (h1 : ∀ u ∈ news, u.oneCell' = true) :
    Calls Tryz.prog 44 #[.slice (some a) n c] w fun e w' => ∃ v', e = .returned v' ∧ w'.ownsRow w.heap.size 27 6 v' n news ∧ Below w.heap.size w w' := by
  have q := qLV
  obtain ⟨i0, hi, hz0, hz1, hz2⟩ := info_parts Q.info27
  have A : Aside0 (∀ j u, news[j]? = some u → w.cell? (a.add j) = some u) := ⟨hc⟩
  clear hc
  go_enter Tryz.func44, Tryz.ntmps44
  go_wp2_with (at_builtin; refine wpList_append_own _ rfl _ _ 24 rfl w.heap.size 27 i0 _ 6 88 Tryz.underlying24 hi hz0 hz1 hz2 rfl (by decide) _ _ _ rfl (World.ownsRow_made w #[] 0 (Nat.le_refl _) (Nat.zero_le _) (by simp)) a n c news rfl ?qc1 ?qc2 ?qc3 ?qc4 ?qc5 ?qc6 ?_)
  case qc1 => exact hl
  case qc2 =>
    intro j u hj
    exact pw_cell_below (below_alloc (Below.refl _ _) _) (A.out j u hj)
  case qc3 => exact h1
  case qc4 => unfold maxLen; omega
  case qc5 => omega
  case qc6 => simp
  intro v' w1 hown hgrow hnil
  go_wp2
  go_ret
  refine ⟨v', rfl, by simpa using hown, ?_⟩
  exact ((Below.refl _ w).alloc (Nat.le_refl _) _).grown hgrow (by simp) (by intro k hk; simp [Value.ownBlock] at hk; omega)
set_option maxRecDepth 100000 in
theorem clone9_nil (n c : Nat) (w : World) : Calls Tryz.prog 45 #[.slice none n c] w fun e w' => e = .returned (.slice none 0 0) ∧ w' = w := by
  have q := qLS
  go_enter Tryz.func45, Tryz.ntmps45
  go_wp2
  go_ret
  exact ⟨rfl, rfl⟩
set_option maxHeartbeats 4000000 in
set_option maxRecDepth 100000 in
theorem clone9 (a : Addr) (n c : Nat) (news : List Value) (w : World) (hl : news.length = n * 1) (hn : n ≤ 1048576) (hc : ∀ j u, news[j]? = some u → w.cell? (a.add j) = some u) (h1 : ∀ u ∈ news, u.oneCell' = true) :
    Calls Tryz.prog 45 #[.slice (some a) n c] w fun e w' => ∃ v', e = .returned v' ∧ w'.ownsRow w.heap.size 9 1 v' n news ∧ Below w.heap.size w w' := by
  have q := qLS
  obtain ⟨i0, hi, hz0, hz1, hz2⟩ := info_parts Q.info9
  have A : Aside0 (∀ j u, news[j]? = some u → w.cell? (a.add j) = some u) := ⟨hc⟩
  clear hc
  go_enter Tryz.func45, Tryz.ntmps45
  go_wp2_with (at_builtin; refine wpList_append_own _ rfl _ _ 25 rfl w.heap.size 9 i0 _ 1 16 Tryz.underlying25 hi hz0 hz1 hz2 rfl (by decide) _ _ _ rfl (World.ownsRow_made w #[] 0 (Nat.le_refl _) (Nat.zero_le _) (by simp)) a n c news rfl ?qc1 ?qc2 ?qc3 ?qc4 ?qc5 ?qc6 ?_)
  case qc1 => exact hl
  case qc2 =>
    intro j u hj
    exact pw_cell_below (below_alloc (Below.refl _ _) _) (A.out j u hj)
  case qc3 => exact h1
  case qc4 => unfold maxLen; omega
  case qc5 => omega
  case qc6 => simp
  intro v' w1 hown hgrow hnil
  go_wp2
  go_ret
  refine ⟨v', rfl, by simpa using hown, ?_⟩
  exact ((Below.refl _ w).alloc (Nat.le_refl _) _).grown hgrow (by simp) (by intro k hk; simp [Value.ownBlock] at hk; omega)
end Go.Proofs.YtdghnfmhcnlppaaGreatDoor.Values
namespace Go.Proofs.YtdghnfmhcnlppaaGreatDoor.Values
open Go.RowKit Go.Proofs.YtdghnfmhcnlppaaGreatDoor.Q Go.Proofs.YtdghnfmhcnlppaaGreatDoor.Real Go.Proofs.YtdghnfmhcnlppaaGreatDoor.RealPure Go.Proofs.YtdghnfmhcnlppaaGreatDoorW.PrintWords Go.Proofs.YtdghnfmhcnlppaaGreatDoorW.PrintLast Go.Proofs.YtdghnfmhcnlppaaGreatDoorW.PrintMore
set_option linter.unusedSimpArgs false
set_option linter.unusedVariables false

theorem own_past {w : World} {base : Nat} {e : TypeId} {size n : Nat} {v : Value} {xs : List Value} (h : w.ownsRow base e size v n xs) {g : Nat} (hg : g < base) (j : Nat) (u : Value) : (w.setCell ⟨g, j, none⟩ u).ownsRow base e size v n xs :=
  own_move h (fun k hk => Below.heap_setCell w _ u k (by have := own_base h k hk; show k ≠ g; omega))

end Go.Proofs.YtdghnfmhcnlppaaGreatDoor.Values
