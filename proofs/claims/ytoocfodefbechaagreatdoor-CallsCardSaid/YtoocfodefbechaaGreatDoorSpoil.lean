/- The law's SpoilTexts and SpoilValue, of rows of one's own: they write over whole numbers and texts alone. -/
import Derived.Test.YtoocfodefbechaaGreatDoorValues
import Derived.Test.YtoocfodefbechaaGreatDoorSv
namespace Go.Proofs.YtoocfodefbechaaGreatDoor.Values
open Go.RowKit Go.Proofs.YtoocfodefbechaaGreatDoor.Q Go.Proofs.YtoocfodefbechaaGreatDoor.Real Go.Proofs.YtoocfodefbechaaGreatDoor.RealPure Go.Proofs.YtoocfodefbechaaGreatDoorW.PrintWords Go.Proofs.YtoocfodefbechaaGreatDoorW.PrintLast Go.Proofs.YtoocfodefbechaaGreatDoorW.PrintMore
set_option linter.unusedSimpArgs false
set_option linter.unusedVariables false
set_option maxRecDepth 100000

theorem sixS {W : World} {g : Nat} {v0 v1 v2 v3 v4 v5 : Value} {e : TypeId} (h : W.heap[g]? = some (.cells #[v0, v1, v2, v3, v4, v5] e (0, 0))) : W.cell? ⟨g, 0, none⟩ = some v0 ∧ W.cell? ⟨g, 1, none⟩ = some v1 ∧ W.cell? ⟨g, 2, none⟩ = some v2 ∧ W.cell? ⟨g, 3, none⟩ = some v3 ∧ W.cell? ⟨g, 4, none⟩ = some v4 ∧ W.cell? ⟨g, 5, none⟩ = some v5 :=
  ⟨(blk_cell h 0).trans rfl, (blk_cell h 1).trans rfl, (blk_cell h 2).trans rfl, (blk_cell h 3).trans rfl, (blk_cell h 4).trans rfl, (blk_cell h 5).trans rfl⟩
def okC (m : Nat) (a b : Option Value) : Prop := a = b ∨ (∃ i j, a = some (.int .i64 i) ∧ b = some (.int .i64 j)) ∨ (∃ s t : ByteArray, a = some (.string s) ∧ b = some (.string t) ∧ t.size ≤ s.size + m)
theorem okC.mono {m m' : Nat} {a b : Option Value} (h : okC m a b) (hm : m ≤ m') : okC m' a b := by
  rcases h with h | h | ⟨s, t, h1, h2, h3⟩
  · exact .inl h
  · exact .inr (.inl h)
  · exact .inr (.inr ⟨s, t, h1, h2, by omega⟩)
theorem okC.trans {m n : Nat} {a b c : Option Value} (h : okC m a b) (h' : okC n b c) : okC (m + n) a c := by
  rcases h with rfl | ⟨i, j, rfl, rfl⟩ | ⟨s, t, rfl, rfl, h3⟩
  · exact h'.mono (by omega)
  · rcases h' with rfl | ⟨i', j', h1, rfl⟩ | ⟨s, t, h1, _, _⟩
    · exact .inr (.inl ⟨_, _, rfl, rfl⟩)
    · exact .inr (.inl ⟨_, _, rfl, rfl⟩)
    · cases h1
  · rcases h' with rfl | ⟨i', j', h1, rfl⟩ | ⟨s', t', h1, rfl, h4⟩
    · exact .inr (.inr ⟨_, _, rfl, rfl, by omega⟩)
    · cases h1
    · obtain rfl : t = s' := by injection h1 with h1; injection h1
      exact .inr (.inr ⟨_, _, rfl, rfl, by omega⟩)
def Sp (base top m : Nat) (w w' : World) : Prop := Below base w w' ∧ (∀ k : Nat, top ≤ k → k < w.heap.size → w'.heap[k]? = w.heap[k]?) ∧ ∀ (k : Nat) (cur : Array Value) (t : TypeId), w.heap[k]? = some (Obj.cells cur t (0, 0)) → ∃ cur' : Array Value, w'.heap[k]? = some (Obj.cells cur' t (0, 0)) ∧ ∀ j : Nat, okC m cur[j]? cur'[j]?
theorem Sp.refl (base top : Nat) (w : World) : Sp base top 0 w w := ⟨Below.refl _ _, fun _ _ _ => rfl, fun k cur t h => ⟨cur, h, fun j => .inl rfl⟩⟩
theorem Sp.mono {base top m m' : Nat} {w w' : World} (h : Sp base top m w w') (hm : m ≤ m') : Sp base top m' w w' := ⟨h.1, h.2.1, fun k cur t hk => by
  obtain ⟨cur', h1, h2⟩ := h.2.2 k cur t hk
  exact ⟨cur', h1, fun j => (h2 j).mono hm⟩⟩
theorem Sp.trans {base top m n : Nat} {w w1 w2 : World} (h : Sp base top m w w1) (h' : Sp base top n w1 w2) : Sp base top (m + n) w w2 := ⟨h.1.trans h'.1, fun k hk hl => (h'.2.1 k hk (Nat.lt_of_lt_of_le hl h.1.size)).trans (h.2.1 k hk hl), fun k cur t hk => by
  obtain ⟨c1, h1, h2⟩ := h.2.2 k cur t hk
  obtain ⟨c2, h3, h4⟩ := h'.2.2 k c1 t h1
  exact ⟨c2, h3, fun j => (h2 j).trans (h4 j)⟩⟩
theorem Sp.of_below {base top : Nat} {w w' : World} (h : Below w.heap.size w w') (hb : base ≤ w.heap.size) : Sp base top 0 w w' := ⟨h.mono hb, fun k _ hk => h.block k hk, fun k cur t hk => ⟨cur, blk_below hk h, fun j => .inl rfl⟩⟩
theorem Sp.set {base top m g j : Nat} {w : World} {cur : Array Value} {t : TypeId} {u v : Value} (hg : w.heap[g]? = some (.cells cur t (0, 0))) (hu : cur[j]? = some u) (hb : base ≤ g) (htop : g < top) (hok : okC m (some u) (some v)) : Sp base top m w (w.setCell ⟨g, j, none⟩ v) := by
  refine ⟨(Below.refl _ _).setCell (p := ⟨g, j, none⟩) hb _, fun k hk _ => Below.heap_setCell w ⟨g, j, none⟩ v k (by show k ≠ g; omega), fun k c t' hk => ?_⟩
  by_cases e : k = g
  · subst e
    have := hg.symm.trans hk
    injection this with this
    injection this with h1 h2
    subst h1 h2
    refine ⟨_, blk_set hg j v, fun i => ?_⟩
    by_cases c : i = j
    · subst c
      have hl := (Array.getElem?_eq_some_iff.1 hu).1
      rw [hu, Array.getElem?_setIfInBounds, if_pos rfl, if_pos hl]
      exact hok
    · rw [Array.getElem?_setIfInBounds, if_neg (Ne.symm c)]
      exact .inl rfl
  · exact ⟨c, (Below.heap_setCell w ⟨g, j, none⟩ v k e).trans hk, fun i => .inl rfl⟩

/-! ### what is written over -/
def ShT (B : Nat) (w : World) (base top n : Nat) (v : Value) : Prop := (n = 0 ∧ v = .slice none 0 0) ∨
  ∃ g cap cur, v = .slice (some ⟨g, 0, none⟩) n cap ∧ n ≤ 9223372036854775807 ∧ (base ≤ g ∧ g < top) ∧ w.heap[g]? = some (.cells cur 9 (0, 0)) ∧ ∀ j, j < n → ∃ s : ByteArray, cur[j]? = some (.string s) ∧ s.size ≤ B
def ShV : Nat → Nat → World → Nat → Nat → List V → Value → Prop
  | 0, _, _, _, _, _, _ => False
  | d + 1, B, w, base, top, l, v => (l = [] ∧ v = .slice none 0 0) ∨
    ∃ g cap cur, v = .slice (some ⟨g, 0, none⟩) l.length cap ∧ l.length ≤ 9223372036854775807 ∧ (base ≤ g ∧ g < top) ∧ w.heap[g]? = some (.cells cur 27 (0, 0)) ∧ ∀ j z, l[j]? = some z →
      ∃ (i0 i1 u2 : Int) (s3 : ByteArray) (v4 v5 : Value), cur[j * 6]? = some (.int .i64 i0) ∧ cur[j * 6 + 1]? = some (.int .i64 i1) ∧ cur[j * 6 + 2]? = some (.int .u64 u2) ∧ cur[j * 6 + 3]? = some (.string s3) ∧ cur[j * 6 + 4]? = some v4 ∧ cur[j * 6 + 5]? = some v5 ∧
        ShV d B w base top z.f4 v4 ∧ ShT B w base top z.f5.length v5
theorem okC.int {m : Nat} {i : Int} {b : Option Value} (h : okC m (some (.int .i64 i)) b) : ∃ j, b = some (.int .i64 j) := by
  rcases h with rfl | ⟨i', j, _, rfl⟩ | ⟨s, t, h, _⟩
  · exact ⟨_, rfl⟩
  · exact ⟨_, rfl⟩
  · cases h
theorem okC.uint {m : Nat} {i : Int} {b : Option Value} (h : okC m (some (.int .u64 i)) b) : b = some (.int .u64 i) := by
  rcases h with rfl | ⟨i', j, h, _⟩ | ⟨s, t, h, _⟩
  · rfl
  · injection h with h; injection h with h; cases h
  · cases h
theorem okC.str {m : Nat} {s : ByteArray} {b : Option Value} (h : okC m (some (.string s)) b) : ∃ t : ByteArray, b = some (.string t) ∧ t.size ≤ s.size + m := by
  rcases h with rfl | ⟨i', j, h, _⟩ | ⟨s', t, h, rfl, h3⟩
  · exact ⟨_, rfl, by omega⟩
  · cases h
  · obtain rfl : s = s' := by injection h with h; injection h
    exact ⟨_, rfl, h3⟩
theorem okC.sl {m : Nat} {A : Option Addr} {n c : Nat} {b : Option Value} (h : okC m (some (.slice A n c)) b) : b = some (.slice A n c) := by
  rcases h with rfl | ⟨i', j, h, _⟩ | ⟨s, t, h, _⟩
  · rfl
  · cases h
  · cases h
theorem ShT.sl {B : Nat} {w : World} {base top n : Nat} {v : Value} (h : ShT B w base top n v) : ∃ A c, v = .slice A n c := by
  rcases h with ⟨rfl, rfl⟩ | ⟨g, cap, cur, rfl, _⟩
  · exact ⟨_, _, rfl⟩
  · exact ⟨_, _, rfl⟩
theorem ShV.sl : ∀ {d B : Nat} {w : World} {base top : Nat} {l : List V} {v : Value}, ShV d B w base top l v → ∃ A c, v = .slice A l.length c
  | 0, _, _, _, _, _, _, h => h.elim
  | d + 1, _, _, _, _, _, _, h => by
    rcases h with ⟨rfl, rfl⟩ | ⟨g, cap, cur, rfl, _⟩
    · exact ⟨_, _, rfl⟩
    · exact ⟨_, _, rfl⟩
theorem ShT.sp {B m : Nat} {w w' : World} {base top n : Nat} {v : Value} (h : ShT B w base top n v) (hs : Sp base top m w w') : ShT (B + m) w' base top n v := by
  rcases h with h | ⟨g, cap, cur, rfl, hn, hb, hg, hc⟩
  · exact .inl h
  · obtain ⟨cur', h1, h2⟩ := hs.2.2 g cur 9 hg
    refine .inr ⟨g, cap, cur', rfl, hn, hb, h1, fun j hj => ?_⟩
    obtain ⟨s, hs1, hs2⟩ := hc j hj
    have := h2 j
    rw [hs1] at this
    obtain ⟨t, ht, ht2⟩ := this.str
    exact ⟨t, ht, by omega⟩
theorem ShV.sp : ∀ {d B m : Nat} {w w' : World} {base top : Nat} {l : List V} {v : Value}, ShV d B w base top l v → Sp base top m w w' → ShV d (B + m) w' base top l v
  | 0, _, _, _, _, _, _, _, _, h, _ => h.elim
  | d + 1, B, m, w, w', base, top, l, v, h, hs => by
    rcases h with h | ⟨g, cap, cur, rfl, hn, hb, hg, hc⟩
    · exact .inl h
    · obtain ⟨cur', h1, h2⟩ := hs.2.2 g cur 27 hg
      refine .inr ⟨g, cap, cur', rfl, hn, hb, h1, fun j z hj => ?_⟩
      obtain ⟨i0, i1, u2, s3, v4, v5, c0, c1, c2, c3, c4, c5, hv, ht⟩ := hc j z hj
      have q0 := h2 (j * 6); have q1 := h2 (j * 6 + 1); have q2 := h2 (j * 6 + 2); have q3 := h2 (j * 6 + 3); have q4 := h2 (j * 6 + 4); have q5 := h2 (j * 6 + 5)
      rw [c0] at q0; rw [c1] at q1; rw [c2] at q2; rw [c3] at q3; rw [c4] at q4; rw [c5] at q5
      obtain ⟨j0, e0⟩ := q0.int
      obtain ⟨j1, e1⟩ := q1.int
      obtain ⟨t3, e3, _⟩ := q3.str
      obtain ⟨A, c, rfl⟩ := hv.sl
      obtain ⟨A', c', rfl⟩ := ht.sl
      exact ⟨j0, j1, u2, t3, _, _, e0, e1, q2.uint, e3, q4.sl, q5.sl, hv.sp hs, ht.sp hs⟩
theorem ShT.mono {B B' : Nat} {w : World} {base top n : Nat} {v : Value} (h : ShT B w base top n v) (hB : B ≤ B') : ShT B' w base top n v := by
  have := h.sp ((Sp.refl base top w).mono (Nat.zero_le (B' - B)))
  rwa [Nat.add_sub_cancel' hB] at this
theorem sh_texts {B : Nat} {w : World} {base : Nat} {ok : Nat → Prop} {v : Value} {l : List ByteArray} (h : Kd.R Kd.string 9 w base ok v l) (hs : ∀ k ∈ l, k.size ≤ B) : ShT B w base w.heap.size l.length v := by
  obtain ⟨_, inner, ⟨hlen, ho⟩, hr⟩ := h
  rcases ho with ⟨rfl, h0⟩ | ⟨g, cap, cur, rfl, hg, hh, hc, hm, hsz, ht⟩
  · exact .inl ⟨h0, rfl⟩
  · refine .inr ⟨g, cap, cur, rfl, Nat.le_trans hc hm, ⟨hg, blk_lt hh⟩, hh, fun j hj => ?_⟩
    have hjl : l[j]? = some l[j] := List.getElem?_eq_getElem hj
    have h1 := hr.2 j l[j] hjl
    refine ⟨l[j], ?_, hs _ (List.getElem_mem hj)⟩
    have h2 : (inner.drop (j * 1)).take 1 = [.string l[j]] := h1
    have h3 : inner[j]? = some (.string l[j]) := by
      have := congrArg (fun z : List Value => z[0]?) h2
      simpa using this
    rw [← ht, List.getElem?_take] at h3
    split at h3
    · simpa using h3
    · cases h3
def kszD (B : Nat) : Nat → V → Prop
  | 0, _ => True
  | d + 1, x => (∀ k ∈ x.f5, k.size ≤ B) ∧ ∀ z ∈ x.f4, kszD B d z
theorem sh_vals {B : Nat} {w : World} {base : Nat} : ∀ (d : Nat) {ok : Nat → Prop} {v : Value} {l : List V}, (∀ z ∈ l, deepD d z ∧ kszD B d z) → Kd.R k27 27 w base ok v l → ShV (d + 1) B w base w.heap.size l v
  | d, ok, v, l, hz, h => by
    obtain ⟨_, inner, ⟨hlen, ho⟩, hr⟩ := h
    rcases ho with ⟨rfl, h0⟩ | ⟨g, cap, cur, rfl, hg, hh, hc, hm, hsz, ht⟩
    · exact .inl ⟨List.eq_nil_of_length_eq_zero h0, rfl⟩
    · refine .inr ⟨g, cap, cur, rfl, Nat.le_trans hc hm, ⟨hg, blk_lt hh⟩, hh, fun j z hj => ?_⟩
      have hzl : z ∈ l := List.mem_of_getElem? hj
      obtain ⟨hd, hk⟩ := hz z hzl
      obtain ⟨v4, v5, hcs, h4, h5⟩ := k27_openM (hr.2 j z hj)
      have hsz6 : k27.sz = 6 := rfl
      rw [hsz6] at hcs
      have hat : ∀ i, i < 6 → cur[j * 6 + i]? = ([.int .i64 z.f0, .int .i64 z.f1, .int .u64 z.f2, .string z.f3, v4, v5] : List Value)[i]? := fun i hi => by
        have h1 : inner[j * 6 + i]? = ([.int .i64 z.f0, .int .i64 z.f1, .int .u64 z.f2, .string z.f3, v4, v5] : List Value)[i]? := by
          rw [← hcs, List.getElem?_take, if_pos hi, List.getElem?_drop]
        rw [← h1, ← ht, List.getElem?_take]
        have hjl := (List.getElem?_eq_some_iff.1 hj).1
        rw [if_pos (by show j * 6 + i < l.length * 6; omega)]
        simp
      cases d with
      | zero => exact hd.elim
      | succ d =>
        exact ⟨_, _, _, _, v4, v5, hat 0 (by decide), hat 1 (by decide), hat 2 (by decide), hat 3 (by decide), hat 4 (by decide), hat 5 (by decide), sh_vals d (fun y hy => ⟨hd y hy, hk.2 y hy⟩) h4, sh_texts h5 hk.1⟩
/-! ### the walks -/
set_option maxHeartbeats 8000000 in
theorem spoilT_calls (B base top n : Nat) (v : Value) (w : World) (h : ShT B w base top n v) (hB : B + 1 ≤ 4611686018427387904) :
    Calls Tryz.prog 29 #[v] w fun e w' => e = .returned (.tuple #[]) ∧ Sp base top 1 w w' := by
  rcases h with ⟨rfl, rfl⟩ | ⟨g, cap, cur, rfl, hn, ⟨hb, htop⟩, hg, hc⟩
  · go_enter Tryz.func29, Tryz.ntmps29
    go_wp2
    go_loopg [2] 0 (fun kq v2 wr => v2 = .int .i64 0 ∧ kq = 0 ∧ Aside0 (Sp base top 1 w wr))
    case atStart => exact ⟨rfl, rfl, ⟨(Sp.refl _ _ _).mono (Nat.zero_le _)⟩⟩
    case round =>
    obtain ⟨rfl, rfl, hs⟩ := hrel
    have HS := Lib.hid hs.out
    clear hs
    go_wp2
    all_goals first | go_end0 | (refine bodyPost_ret (results_none rfl _ _ _) rfl ?_)
    all_goals exact ⟨rfl, HS.out⟩
  · have HC := Lib.hid hc
    have HG := Lib.hid hg
    clear hc hg
    go_enter Tryz.func29, Tryz.ntmps29
    go_wp2
    go_loopg [2] n (fun kq v2 wr => ∃ (i : Nat) (cur' : Array Value), v2 = .int .i64 (i : Int) ∧ Aside0 (i + kq = n) ∧ Aside0 (wr.heap[g]? = some (.cells cur' 9 (0, 0))) ∧ Aside0 (∀ j : Nat, okC 1 cur[j]? cur'[j]?) ∧ Aside0 (∀ j : Nat, i ≤ j → cur'[j]? = cur[j]?) ∧ Aside0 (Below base w wr) ∧ Aside0 (∀ k : Nat, k ≠ g → wr.heap[k]? = w.heap[k]?))
    case atStart => exact ⟨0, cur, rfl, ⟨by omega⟩, ⟨HG.out⟩, ⟨fun j => .inl rfl⟩, ⟨fun _ _ => rfl⟩, ⟨Below.refl _ _⟩, ⟨fun _ _ => rfl⟩⟩
    case round =>
    obtain ⟨i, cur', rfl, hi0, hg0, ho0, hs0, hb0, hk0⟩ := hrel
    have hi := hi0.out; have HG' := Lib.hid hg0.out; have HO := Lib.hid ho0.out; have HS := Lib.hid hs0.out; have HB := Lib.hid hb0.out; have HK := Lib.hid hk0.out
    clear hi0 hg0 ho0 hs0 hb0 hk0
    cases gk with
    | zero =>
      have hlt : decide (i < n) = false := decide_eq_false (by omega)
      go_wp2
      all_goals first | go_end0 | (refine bodyPost_ret (results_none rfl _ _ _) rfl ?_)
      all_goals
        refine ⟨rfl, HB.out, fun k hk _ => HK.out k (by omega), fun k c t hk => ?_⟩
        by_cases e : k = g
        · subst e
          have := HG.out.symm.trans hk
          injection this with this
          injection this with h1 h2
          subst h1 h2
          exact ⟨cur', HG'.out, HO.out⟩
        · exact ⟨c, (HK.out k e).trans hk, fun j => .inl rfl⟩
    | succ k2 =>
      have hlt : decide (i < n) = true := decide_eq_true (by omega)
      obtain ⟨s, hs1, hs2⟩ := HC.out i (by omega)
      have hci : cur'[i]? = some (.string s) := (HS.out i (Nat.le_refl _)).trans hs1
      have c0 : wr.cell? ⟨g, i, none⟩ = some (.string s) := (blk_cell HG'.out i).trans hci
      have f0 := blk_frozen HG'.out i
      have q1 : (9223372036854775807 < 1 + s.size) = False := eq_false (by omega)
      have WI := Lib.hid (show wrap64 ((i : Int) + 1) = (i : Int) + 1 from wrap_small _ (by omega) (by omega))
      have z0 := eq_true (show (0 : Int) ≤ (i : Int) by omega); have z1 := eq_true (show (i : Int) < (n : Int) by omega)
      have HS1 := Lib.hid hs1; have HCI := Lib.hid hci; have HI := Lib.hid hi
      clear hs1 hci hs2 hi
      go_wp2
      go_roundg k2
      case measure => omega
      case rel =>
        refine ⟨i + 1, _, by rw [WI.out]; push_cast; rfl, ⟨by have := HI.out; omega⟩, ⟨blk_set HG'.out i _⟩, ⟨fun j => ?_⟩, ⟨fun j hj => ?_⟩, ⟨HB.out.setCell (p := ⟨g, i, none⟩) hb _⟩, ⟨fun k hk => (Below.heap_setCell wr ⟨g, i, none⟩ _ k hk).trans (HK.out k hk)⟩⟩
        · have hl := (Array.getElem?_eq_some_iff.1 HCI.out).1
          rw [Array.getElem?_setIfInBounds]
          by_cases c : i = j
          · subst c
            rw [if_pos rfl, if_pos hl, HS1.out]
            exact .inr (.inr ⟨s, _, rfl, rfl, by rw [ByteArray.size_append]; show 1 + s.size ≤ s.size + 1; omega⟩)
          · rw [if_neg c]
            exact HO.out j
        · rw [Array.getElem?_setIfInBounds, if_neg (by omega)]
          exact HS.out j (by omega)
def sumN (f : V → Nat) : List V → Nat
  | [] => 0
  | y :: ys => f y + sumN f ys
def nodesD : Nat → V → Nat
  | 0, _ => 0
  | d + 1, x => 1 + sumN (nodesD d) x.f4
theorem sumN_take (f : V → Nat) : ∀ (l : List V) (i : Nat) (z : V), l[i]? = some z → sumN f (l.take (i + 1)) = sumN f (l.take i) + f z
  | [], i, z, h => by simp at h
  | y :: ys, 0, z, h => by
    obtain rfl : y = z := Option.some.inj h
    simp [sumN]
  | y :: ys, i + 1, z, h => by
    have := sumN_take f ys i z h
    rw [List.take_succ_cons, List.take_succ_cons, sumN, sumN, this]
    omega
theorem sumN_le (f : V → Nat) : ∀ (l : List V) (i : Nat), sumN f (l.take i) ≤ sumN f l
  | [], i => by simp [sumN]
  | y :: ys, 0 => by simp [sumN]
  | y :: ys, i + 1 => by
    have := sumN_le f ys i
    rw [List.take_succ_cons, sumN, sumN]
    omega
def SpoilC (d : Nat) : Prop := ∀ (x : V) (i0 i1 u2 : Int) (s3 : ByteArray) (v4 v5 : Value) (B base top : Nat) (w : World), ShV d B w base top x.f4 v4 → ShT B w base top x.f5.length v5 → B + nodesD d x ≤ 4611686018427387904 → base ≤ w.heap.size → top ≤ w.heap.size →
  Calls Tryz.prog 9 #[.agg #[.int .i64 i0, .int .i64 i1, .int .u64 u2, .string s3, v4, v5]] w fun e w' => e = .returned (.tuple #[]) ∧ Sp base top (nodesD d x) w w'
set_option maxHeartbeats 16000000 in
theorem spoil_succ (d : Nat) (ih : SpoilC d) : SpoilC (d + 1) := by
  intro x i0 i1 u2 s3 v4 v5 B base top w h4 h5 hB hbase htop
  have hu27 := Tryz.underlying27
  obtain ⟨A5, c5, rfl⟩ := h5.sl
  have e4 : ∃ A c, v4 = .slice A x.f4.length c := h4.sl
  obtain ⟨A4, c4, rfl⟩ := e4
  have H4 := Lib.hid h4; have H5 := Lib.hid h5; have HBB := Lib.hid hB; have HBS := Lib.hid hbase; have HTS := Lib.hid htop; have IH := Lib.hid ih
  clear h4 h5 hB hbase htop ih
  go_enter Tryz.func9, Tryz.ntmps9
  go_upto_region 1 with (fail)
  have xv := blk_new w (.cells #[.int .i64 i0, .int .i64 i1, .int .u64 u2, .string s3, .slice A4 x.f4.length c4, .slice A5 x.f5.length c5] 27)
  have HB0 := Lib.hid (below_alloc (Below.refl w.heap.size w) (.cells #[.int .i64 i0, .int .i64 i1, .int .u64 u2, .string s3, .slice A4 x.f4.length c4, .slice A5 x.f5.length c5] 27))
  obtain ⟨gv, hgv⟩ : ∃ g, w.heap.size = g := ⟨_, rfl⟩
  rw [hgv] at xv ⊢
  have XV := Lib.hid xv
  have HGW := Lib.hid hgv
  clear hgv xv
  generalize w.alloc (.cells #[.int .i64 i0, .int .i64 i1, .int .u64 u2, .string s3, .slice A4 x.f4.length c4, .slice A5 x.f5.length c5] 27) = w0 at *
  go_wp2
  go_loopg [2] x.f4.length (fun kq v2 wr => ∃ (i : Nat), v2 = .int .i64 (i : Int) ∧ Aside0 (i + kq = x.f4.length) ∧ Aside0 (Sp base top (sumN (nodesD d) (x.f4.take i)) w wr) ∧ Aside0 (wr.heap[gv]? = some (.cells #[.int .i64 i0, .int .i64 i1, .int .u64 u2, .string s3, .slice A4 x.f4.length c4, .slice A5 x.f5.length c5] 27 (0, 0))))
  case atStart => exact ⟨0, rfl, ⟨by omega⟩, ⟨Sp.of_below HB0.out HBS.out⟩, ⟨XV.out⟩⟩
  case round =>
  clear XV HB0
  obtain ⟨i, rfl, hi0, hs0, hx0⟩ := hrel
  have hi := hi0.out; have HS := Lib.hid hs0.out; have XV := Lib.hid hx0.out
  clear hi0 hs0 hx0
  obtain ⟨v0, v1, v2, v3, v4, v5⟩ := sixS XV.out
  have hsum : sumN (nodesD d) (x.f4.take i) ≤ sumN (nodesD d) x.f4 := sumN_le _ _ _
  have hBB : B + (1 + sumN (nodesD d) x.f4) ≤ 4611686018427387904 := HBB.out
  have HTR := Lib.hid (Nat.le_trans HTS.out HS.out.1.size)
  have HBR := Lib.hid (Nat.le_trans HBS.out HS.out.1.size)
  cases gk with
  | zero =>
    have hlt : decide (i < x.f4.length) = false := decide_eq_false (by omega)
    have hie : x.f4.take i = x.f4 := List.take_of_length_le (by omega)
    have CT := Lib.hid (spoilT_calls (B + sumN (nodesD d) (x.f4.take i)) base top x.f5.length (.slice A5 x.f5.length c5) wr (H5.out.sp HS.out) (by omega))
    rw [hie] at HS
    clear hi hsum hBB hie
    go_wp2_with (first | (go_at_call 29; (with_reducible refine (CT.out).mono ?_); rintro e wn ⟨rfl, hsp⟩; have HSP := Lib.hid hsp; clear hsp))
    all_goals first | go_end0 | (refine bodyPost_ret (results_none rfl _ _ _) rfl ?_)
    all_goals exact ⟨rfl, (HS.out.trans HSP.out).mono (by show _ ≤ 1 + sumN (nodesD d) x.f4; omega)⟩
  | succ k2 =>
    have hil : i < x.f4.length := by omega
    have hz : x.f4[i]? = some x.f4[i] := List.getElem?_eq_getElem hil
    obtain ⟨z, hze⟩ : ∃ z, x.f4[i] = z := ⟨_, rfl⟩
    rw [hze] at hz
    have hstep := sumN_take (nodesD d) x.f4 i z hz
    have hsum2 : sumN (nodesD d) (x.f4.take (i + 1)) ≤ sumN (nodesD d) x.f4 := sumN_le _ _ _
    rcases H4.out with ⟨h0, _⟩ | ⟨g, cap, cur0, ev, hmax, ⟨hgb, hgt⟩, hg0, hc0⟩
    · rw [h0] at hil; exact absurd hil (Nat.not_lt_zero i)
    injection ev with ea _ ec
    subst ea ec
    have hlt : decide (i < x.f4.length) = true := decide_eq_true hil
    have WI := Lib.hid (show wrap64 ((i : Int) + 1) = (i : Int) + 1 from wrap_small _ (by omega) (by omega))
    rcases H4.out.sp HS.out with ⟨h0, _⟩ | ⟨g', cap', cur1, ev, _, _, hg1, hc1⟩
    · rw [h0] at hil; exact absurd hil (Nat.not_lt_zero i)
    injection ev with ea _ ec
    injection ea with ea
    injection ea with ea
    subst ea ec
    obtain ⟨e0, e1, e2, e3, e4, e5, c0, c1, c2, c3, c4', c5', hv, ht⟩ := hc1 i z hz
    have b0 : wr.cell? ⟨g, i * 6, none⟩ = some (.int .i64 e0) := (blk_cell hg1 _).trans c0
    have b1 : wr.cell? ⟨g, i * 6 + 1, none⟩ = some (.int .i64 e1) := (blk_cell hg1 _).trans c1
    have b2 : wr.cell? ⟨g, i * 6 + 2, none⟩ = some (.int .u64 e2) := (blk_cell hg1 _).trans c2
    have b3 : wr.cell? ⟨g, i * 6 + 3, none⟩ = some (.string e3) := (blk_cell hg1 _).trans c3
    have b4 : wr.cell? ⟨g, i * 6 + 4, none⟩ = some e4 := (blk_cell hg1 _).trans c4'
    have b5 : wr.cell? ⟨g, i * 6 + 5, none⟩ = some e5 := (blk_cell hg1 _).trans c5'
    have CS := Lib.hid (IH.out z e0 e1 e2 e3 e4 e5 _ base top wr hv ht (by omega) HBR.out HTR.out)
    have HZ := Lib.hid hz; have HST := Lib.hid hstep; have HIL := Lib.hid hil; have HI := Lib.hid hi; have HGB := Lib.hid (And.intro hgb hgt)
    have z0 := eq_true (show (0 : Int) ≤ (i : Int) by omega); have z1 := eq_true (show (i : Int) < (x.f4.length : Int) by omega)
    clear hz hze hstep hsum hsum2 hBB hil hi c0 c1 c2 c3 c4' c5' hv ht hg1 hc1 hg0 hc0 hgb hgt hmax
    go_upto_region 5 with (first | (go_at_call 9; (with_reducible refine (CS.out).mono ?_); rintro e wn ⟨rfl, hsp⟩; have HSP := Lib.hid hsp; clear hsp))
    have HT1 := Lib.hid (HS.out.trans HSP.out)
    have hgvt : top ≤ gv := by have := HTS.out; have := HGW.out; omega
    have XVn := Lib.hid ((HSP.out.2.1 gv hgvt (blk_lt XV.out)).trans XV.out)
    have hne : (gv = g) = False := eq_false (by have := HGB.out.2; omega)
    have hne2 : (g = gv) = False := eq_false (by have := HGB.out.2; omega)
    rcases H4.out.sp HT1.out with ⟨h0, _⟩ | ⟨g', cap', cur2, ev, _, _, hg2, hc2⟩
    · have := HIL.out
      rw [h0] at this; exact absurd this (Nat.not_lt_zero i)
    injection ev with ea _ ec
    injection ea with ea
    injection ea with ea
    subst ea ec
    obtain ⟨j0, j1, _, _, _, _, c0, c1, _⟩ := hc2 i z HZ.out
    have m0 : wn.cell? ⟨g, i * 6, none⟩ = some (.int .i64 j0) := (blk_cell hg2 _).trans c0
    have m1 : wn.cell? ⟨g, i * 6 + 1, none⟩ = some (.int .i64 j1) := (blk_cell hg2 _).trans c1
    have fz0 := blk_frozen hg2 (i * 6); have fz1 := blk_frozen hg2 (i * 6 + 1)
    have HG2 := Lib.hid hg2; have HC0 := Lib.hid c0; have HC1 := Lib.hid c1
    clear hgvt hg2 hc2 c0 c1 b0 b1 b2 b3 b4 b5 v0 v1 v2 v3 v4 v5
    obtain ⟨v0, v1, v2, v3, v4, v5⟩ := sixS XVn.out
    go_region
    all_goals
      go_wp2
      go_roundg k2
      case measure => omega
      case rel =>
        have hgn : gv ≠ g := by have := HGB.out.2; have := HTS.out; have := HGW.out; omega
        have s1 : Sp base top 0 wn (wn.setCell ⟨g, i * 6 + 1, none⟩ (.int .i64 (bits BinOp.xor IntKind.i64 j1 90))) := Sp.set HG2.out HC1.out HGB.out.1 HGB.out.2 (.inr (.inl ⟨_, _, rfl, rfl⟩))
        have c0' : (cur2.setIfInBounds (i * 6 + 1) (.int .i64 (bits BinOp.xor IntKind.i64 j1 90)))[i * 6]? = some (.int .i64 j0) := by
          rw [Array.getElem?_setIfInBounds, if_neg (by omega)]
          exact HC0.out
        have s2 : Sp base top 0 _ ((wn.setCell ⟨g, i * 6 + 1, none⟩ (.int .i64 (bits BinOp.xor IntKind.i64 j1 90))).setCell ⟨g, i * 6, none⟩ (.int .i64 2)) := Sp.set (blk_set HG2.out (i * 6 + 1) _) c0' HGB.out.1 HGB.out.2 (.inr (.inl ⟨_, _, rfl, rfl⟩))
        have s3' := (HT1.out.trans s1).trans s2
        refine ⟨i + 1, by rw [WI.out]; push_cast; rfl, ⟨by have := HI.out; omega⟩, ⟨?_⟩, ⟨blk_drew (blk_far (p := ⟨g, i * 6, none⟩) (blk_far (p := ⟨g, i * 6 + 1, none⟩) XVn.out hgn _) hgn _)⟩⟩
        exact (s3'.trans (Sp.of_below (below_drew (Below.refl _ _)) (Nat.le_trans HBS.out s3'.1.size))).mono (by rw [HST.out]; omega)
theorem spoil_all : ∀ d, SpoilC d
  | 0 => fun x i0 i1 u2 s3 v4 v5 B base top w h => h.elim
  | d + 1 => spoil_succ d (spoil_all d)
end Go.Proofs.YtoocfodefbechaaGreatDoor.Values
