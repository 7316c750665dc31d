/- The law's SpoilTexts and SpoilPipe, of rows of one's own: they write over whole numbers and texts alone. -/
import Derived.Test.YthaapadjlknieaaPipeRefD
import Derived.StillTailTactics
namespace Go.Proofs.Ythaapadjlknieaa.Pipe
open Go.RowKit Go.Proofs.Ythaapadjlknieaa.Q Go.Proofs.YthaapadjlknieaaW.PrintWords Go.Proofs.YthaapadjlknieaaW.PrintLast Go.Proofs.YthaapadjlknieaaW.PrintMore
set_option linter.unusedSimpArgs false
set_option linter.unusedVariables false
set_option maxRecDepth 100000

/-- How a cell may turn: a whole number into another one, a text into one that is at most m longer. -/
def okC (m : Nat) (a b : Option Value) : Prop := a = b ∨ (∃ i j, a = some (.int .i64 i) ∧ b = some (.int .i64 j)) ∨ (∃ s t : ByteArray, a = some (.string s) ∧ b = some (.string t) ∧ t.size ≤ s.size + m)
theorem okC.mono {m m' : Nat} {a b : Option Value} (h : okC m a b) (hm : m ≤ m') : okC m' a b := by
  rcases h with h | h | ⟨s, t, h1, h2, h3⟩
  · exact .inl h
  · exact .inr (.inl h)
  · exact .inr (.inr ⟨s, t, h1, h2, by omega⟩)
theorem okC.trans {m n : Nat} {a b c : Option Value} (h : okC m a b) (h' : okC n b c) : okC (m + n) a c := by
  rcases h with rfl | ⟨i, j, rfl, rfl⟩ | ⟨s, t, rfl, rfl, h3⟩
  · exact h'.mono (by omega)
  · rcases h' with rfl | ⟨i', j', h1, rfl⟩ | ⟨s, t, h1, _, _⟩
    · exact .inr (.inl ⟨_, _, rfl, rfl⟩)
    · exact .inr (.inl ⟨_, _, rfl, rfl⟩)
    · cases h1
  · rcases h' with rfl | ⟨i', j', h1, rfl⟩ | ⟨s', t', h1, rfl, h4⟩
    · exact .inr (.inr ⟨_, _, rfl, rfl, by omega⟩)
    · cases h1
    · obtain rfl : t = s' := by injection h1 with h1; injection h1
      exact .inr (.inr ⟨_, _, rfl, rfl, by omega⟩)
def Sp (base top m : Nat) (w w' : World) : Prop := Below base w w' ∧ (∀ k : Nat, top ≤ k → k < w.heap.size → w'.heap[k]? = w.heap[k]?) ∧ ∀ (k : Nat) (cur : Array Value) (t : TypeId), w.heap[k]? = some (Obj.cells cur t (0, 0)) → ∃ cur' : Array Value, w'.heap[k]? = some (Obj.cells cur' t (0, 0)) ∧ ∀ j : Nat, okC m cur[j]? cur'[j]?
theorem Sp.refl (base top : Nat) (w : World) : Sp base top 0 w w := ⟨Below.refl _ _, fun _ _ _ => rfl, fun k cur t h => ⟨cur, h, fun j => .inl rfl⟩⟩
theorem Sp.mono {base top m m' : Nat} {w w' : World} (h : Sp base top m w w') (hm : m ≤ m') : Sp base top m' w w' := ⟨h.1, h.2.1, fun k cur t hk => by
  obtain ⟨cur', h1, h2⟩ := h.2.2 k cur t hk
  exact ⟨cur', h1, fun j => (h2 j).mono hm⟩⟩
theorem Sp.trans {base top m n : Nat} {w w1 w2 : World} (h : Sp base top m w w1) (h' : Sp base top n w1 w2) : Sp base top (m + n) w w2 := ⟨h.1.trans h'.1, fun k hk hl => (h'.2.1 k hk (Nat.lt_of_lt_of_le hl h.1.size)).trans (h.2.1 k hk hl), fun k cur t hk => by
  obtain ⟨c1, h1, h2⟩ := h.2.2 k cur t hk
  obtain ⟨c2, h3, h4⟩ := h'.2.2 k c1 t h1
  exact ⟨c2, h3, fun j => (h2 j).trans (h4 j)⟩⟩
theorem Sp.of_below {base top : Nat} {w w' : World} (h : Below w.heap.size w w') (hb : base ≤ w.heap.size) : Sp base top 0 w w' := ⟨h.mono hb, fun k _ hk => h.block k hk, fun k cur t hk => ⟨cur, blk_below hk h, fun j => .inl rfl⟩⟩
theorem Sp.set {base top m g j : Nat} {w : World} {cur : Array Value} {t : TypeId} {u v : Value} (hg : w.heap[g]? = some (.cells cur t (0, 0))) (hu : cur[j]? = some u) (hb : base ≤ g) (htop : g < top) (hok : okC m (some u) (some v)) : Sp base top m w (w.setCell ⟨g, j, none⟩ v) := by
  refine ⟨(Below.refl _ _).setCell (p := ⟨g, j, none⟩) hb _, fun k hk _ => Below.heap_setCell w ⟨g, j, none⟩ v k (by show k ≠ g; omega), fun k c t' hk => ?_⟩
  by_cases e : k = g
  · subst e
    have := hg.symm.trans hk
    injection this with this
    injection this with h1 h2
    subst h1 h2
    refine ⟨_, blk_set hg j v, fun i => ?_⟩
    by_cases c : i = j
    · subst c
      have hl := (Array.getElem?_eq_some_iff.1 hu).1
      rw [hu, Array.getElem?_setIfInBounds, if_pos rfl, if_pos hl]
      exact hok
    · rw [Array.getElem?_setIfInBounds, if_neg (Ne.symm c)]
      exact .inl rfl
  · exact ⟨c, (Below.heap_setCell w ⟨g, j, none⟩ v k e).trans hk, fun i => .inl rfl⟩

/-! ### what is written over -/
def ShT (B : Nat) (w : World) (base top n : Nat) (v : Value) : Prop := (n = 0 ∧ v = .slice none 0 0) ∨
  ∃ g cap cur, v = .slice (some ⟨g, 0, none⟩) n cap ∧ n ≤ 9223372036854775807 ∧ (base ≤ g ∧ g < top) ∧ w.heap[g]? = some (.cells cur 9 (0, 0)) ∧ ∀ j, j < n → ∃ s : ByteArray, cur[j]? = some (.string s) ∧ s.size ≤ B
def ShA (B : Nat) (w : World) (base top : Nat) (l : List Ag) (v : Value) : Prop := (l = [] ∧ v = .slice none 0 0) ∨
  ∃ g cap cur, v = .slice (some ⟨g, 0, none⟩) l.length cap ∧ (base ≤ g ∧ g < top) ∧ w.heap[g]? = some (.cells cur 41 (0, 0)) ∧ ∀ j z, l[j]? = some z → ∃ (i0 : Int) (v2 : Value), cur[j * 5]? = some (.int .i64 i0) ∧ cur[j * 5 + 2]? = some v2 ∧ ShT B w base top z.f2.length v2
def ShP (B : Nat) (w : World) (base top : Nat) (l : List Cm) (v : Value) : Prop := (l = [] ∧ v = .slice none 0 0) ∨
  ∃ g cap cur, v = .slice (some ⟨g, 0, none⟩) l.length cap ∧ (base ≤ g ∧ g < top) ∧ w.heap[g]? = some (.cells cur 38 (0, 0)) ∧ ∀ i z, l[i]? = some z → ∃ (s : ByteArray) (v1 : Value), cur[i * 2]? = some (.string s) ∧ s.size ≤ B ∧ cur[i * 2 + 1]? = some v1 ∧ ShA B w base top z.f1 v1
theorem ShA.sl {B : Nat} {w : World} {base top : Nat} {l : List Ag} {v : Value} (h : ShA B w base top l v) : ∃ A c, v = .slice A l.length c := by
  rcases h with ⟨rfl, rfl⟩ | ⟨g, cap, cur, rfl, _⟩
  · exact ⟨_, _, rfl⟩
  · exact ⟨_, _, rfl⟩
theorem ShP.sl {B : Nat} {w : World} {base top : Nat} {l : List Cm} {v : Value} (h : ShP B w base top l v) : ∃ A c, v = .slice A l.length c := by
  rcases h with ⟨rfl, rfl⟩ | ⟨g, cap, cur, rfl, _⟩
  · exact ⟨_, _, rfl⟩
  · exact ⟨_, _, rfl⟩
theorem okC.int {m : Nat} {i : Int} {b : Option Value} (h : okC m (some (.int .i64 i)) b) : ∃ j, b = some (.int .i64 j) := by
  rcases h with rfl | ⟨i', j, _, rfl⟩ | ⟨s, t, h, _⟩
  · exact ⟨_, rfl⟩
  · exact ⟨_, rfl⟩
  · cases h
theorem okC.str {m : Nat} {s : ByteArray} {b : Option Value} (h : okC m (some (.string s)) b) : ∃ t : ByteArray, b = some (.string t) ∧ t.size ≤ s.size + m := by
  rcases h with rfl | ⟨i', j, h, _⟩ | ⟨s', t, h, rfl, h3⟩
  · exact ⟨_, rfl, by omega⟩
  · cases h
  · obtain rfl : s = s' := by injection h with h; injection h
    exact ⟨_, rfl, h3⟩
theorem okC.sl {m : Nat} {A : Option Addr} {n c : Nat} {b : Option Value} (h : okC m (some (.slice A n c)) b) : b = some (.slice A n c) := by
  rcases h with rfl | ⟨i', j, h, _⟩ | ⟨s, t, h, _⟩
  · rfl
  · cases h
  · cases h
theorem ShT.sl {B : Nat} {w : World} {base top n : Nat} {v : Value} (h : ShT B w base top n v) : ∃ A c, v = .slice A n c := by
  rcases h with ⟨rfl, rfl⟩ | ⟨g, cap, cur, rfl, _⟩
  · exact ⟨_, _, rfl⟩
  · exact ⟨_, _, rfl⟩
theorem ShT.sp {B m : Nat} {w w' : World} {base top n : Nat} {v : Value} (h : ShT B w base top n v) (hs : Sp base top m w w') : ShT (B + m) w' base top n v := by
  rcases h with h | ⟨g, cap, cur, rfl, hn, hb, hg, hc⟩
  · exact .inl h
  · obtain ⟨cur', h1, h2⟩ := hs.2.2 g cur 9 hg
    refine .inr ⟨g, cap, cur', rfl, hn, hb, h1, fun j hj => ?_⟩
    obtain ⟨s, hs1, hs2⟩ := hc j hj
    have := h2 j
    rw [hs1] at this
    obtain ⟨t, ht, ht2⟩ := this.str
    exact ⟨t, ht, by omega⟩
theorem ShA.sp {B m : Nat} {w w' : World} {base top : Nat} {l : List Ag} {v : Value} (h : ShA B w base top l v) (hs : Sp base top m w w') : ShA (B + m) w' base top l v := by
  rcases h with h | ⟨g, cap, cur, rfl, hb, hg, hc⟩
  · exact .inl h
  · obtain ⟨cur', h1, h2⟩ := hs.2.2 g cur _ hg
    refine .inr ⟨g, cap, cur', rfl, hb, h1, fun j z hj => ?_⟩
    obtain ⟨i0, v2, c0, c2, ht⟩ := hc j z hj
    have q0 := h2 (j * 5); have q2 := h2 (j * 5 + 2)
    rw [c0] at q0; rw [c2] at q2
    obtain ⟨j0, e0⟩ := q0.int
    obtain ⟨A, c, rfl⟩ := ht.sl
    exact ⟨j0, _, e0, q2.sl, ht.sp hs⟩
theorem ShP.sp {B m : Nat} {w w' : World} {base top : Nat} {l : List Cm} {v : Value} (h : ShP B w base top l v) (hs : Sp base top m w w') : ShP (B + m) w' base top l v := by
  rcases h with h | ⟨g, cap, cur, rfl, hb, hg, hc⟩
  · exact .inl h
  · obtain ⟨cur', h1, h2⟩ := hs.2.2 g cur _ hg
    refine .inr ⟨g, cap, cur', rfl, hb, h1, fun j z hj => ?_⟩
    obtain ⟨s0, v1, c0, hs0, c1, ha⟩ := hc j z hj
    have q0 := h2 (j * 2); have q1 := h2 (j * 2 + 1)
    rw [c0] at q0; rw [c1] at q1
    obtain ⟨t0, e0, ht0⟩ := q0.str
    obtain ⟨A, c, rfl⟩ := ha.sl
    exact ⟨t0, _, e0, by omega, q1.sl, ha.sp hs⟩
theorem ShT.mono {B B' : Nat} {w : World} {base top n : Nat} {v : Value} (h : ShT B w base top n v) (hB : B ≤ B') : ShT B' w base top n v := by
  have := h.sp ((Sp.refl base top w).mono (Nat.zero_le (B' - B)))
  rwa [Nat.add_sub_cancel' hB] at this
/-- Out of rows of one's own. -/
theorem sh_texts {B : Nat} {w : World} {base : Nat} {ok : Nat → Prop} {v : Value} {l : List ByteArray} (h : Kd.R Kd.string 9 w base ok v l) (hs : ∀ k ∈ l, k.size ≤ B) : ShT B w base w.heap.size l.length v := by
  obtain ⟨_, inner, ⟨hlen, ho⟩, hr⟩ := h
  rcases ho with ⟨rfl, h0⟩ | ⟨g, cap, cur, rfl, hg, hh, hc, hm, hsz, ht⟩
  · exact .inl ⟨h0, rfl⟩
  · refine .inr ⟨g, cap, cur, rfl, Nat.le_trans hc hm, ⟨hg, blk_lt hh⟩, hh, fun j hj => ?_⟩
    have hjl : l[j]? = some l[j] := List.getElem?_eq_getElem hj
    have h1 := hr.2 j l[j] hjl
    refine ⟨l[j], ?_, hs _ (List.getElem_mem hj)⟩
    have h2 : (inner.drop (j * 1)).take 1 = [.string l[j]] := h1
    have h3 : inner[j]? = some (.string l[j]) := by
      have := congrArg (fun z : List Value => z[0]?) h2
      simpa using this
    rw [← ht, List.getElem?_take] at h3
    split at h3
    · simpa using h3
    · cases h3
theorem sh_args {B : Nat} {w : World} {base : Nat} {ok : Nat → Prop} {v : Value} {l : List Ag} (h : Kd.R kA 41 w base ok v l) (hs : ∀ a ∈ l, ∀ s ∈ a.f2, s.size ≤ B) : ShA B w base w.heap.size l v := by
  obtain ⟨_, inner, ⟨hlen, ho⟩, hr⟩ := h
  rcases ho with ⟨rfl, h0⟩ | ⟨g, cap, cur, rfl, hg, hh, hc, hm, hsz, ht⟩
  · exact .inl ⟨List.eq_nil_of_length_eq_zero h0, rfl⟩
  · refine .inr ⟨g, cap, cur, rfl, ⟨hg, blk_lt hh⟩, hh, fun j z hj => ?_⟩
    obtain ⟨v2, hcs, h2⟩ := k41_openM (hr.2 j z hj)
    have hsz5 : kA.sz = 5 := rfl
    rw [hsz5] at hcs
    have hat : ∀ i, i < 5 → cur[j * 5 + i]? = ([.int .i64 z.f0, .string z.f1, v2, .int .i64 z.f3, .string z.f4] : List Value)[i]? := fun i hi => by
      have h1 : inner[j * 5 + i]? = ([.int .i64 z.f0, .string z.f1, v2, .int .i64 z.f3, .string z.f4] : List Value)[i]? := by
        rw [← hcs, List.getElem?_take, if_pos hi, List.getElem?_drop]
      rw [← h1, ← ht, List.getElem?_take]
      have hjl := (List.getElem?_eq_some_iff.1 hj).1
      rw [if_pos (by show j * 5 + i < l.length * 5; omega)]
      simp
    exact ⟨_, v2, hat 0 (by decide), hat 2 (by decide), sh_texts h2 (hs z (List.mem_of_getElem? hj))⟩
/-- Sizes that a pipe bears. -/
def sizedP (B : Nat) (p : List Cm) : Prop := ∀ c ∈ p, c.f0.size ≤ B ∧ ∀ a ∈ c.f1, ∀ s ∈ a.f2, s.size ≤ B
theorem sh_pipe {B : Nat} {w : World} {base : Nat} {ok : Nat → Prop} {v : Value} {l : List Cm} (h : Kd.R kC 38 w base ok v l) (hs : sizedP B l) : ShP B w base w.heap.size l v := by
  obtain ⟨_, inner, ⟨hlen, ho⟩, hr⟩ := h
  rcases ho with ⟨rfl, h0⟩ | ⟨g, cap, cur, rfl, hg, hh, hc, hm, hsz, ht⟩
  · exact .inl ⟨List.eq_nil_of_length_eq_zero h0, rfl⟩
  · refine .inr ⟨g, cap, cur, rfl, ⟨hg, blk_lt hh⟩, hh, fun j z hj => ?_⟩
    obtain ⟨v1, hcs, h1⟩ := k38_openM (hr.2 j z hj)
    have hsz2 : kC.sz = 2 := rfl
    rw [hsz2] at hcs
    have hat : ∀ i, i < 2 → cur[j * 2 + i]? = ([.string z.f0, v1] : List Value)[i]? := fun i hi => by
      have h1 : inner[j * 2 + i]? = ([.string z.f0, v1] : List Value)[i]? := by
        rw [← hcs, List.getElem?_take, if_pos hi, List.getElem?_drop]
      rw [← h1, ← ht, List.getElem?_take]
      have hjl := (List.getElem?_eq_some_iff.1 hj).1
      rw [if_pos (by show j * 2 + i < l.length * 2; omega)]
      simp
    have hz := hs z (List.mem_of_getElem? hj)
    exact ⟨_, v1, hat 0 (by decide), hz.1, hat 1 (by decide), sh_args h1 hz.2⟩
/-! ### the walks -/
set_option maxHeartbeats 8000000 in
theorem spoilT_calls (B base top n : Nat) (v : Value) (w : World) (h : ShT B w base top n v) (hB : B + 1 ≤ 4611686018427387904) :
    Calls Try.prog 22 #[v] w fun e w' => e = .returned (.tuple #[]) ∧ Sp base top 1 w w' := by
  rcases h with ⟨rfl, rfl⟩ | ⟨g, cap, cur, rfl, hn, ⟨hb, htop⟩, hg, hc⟩
  · go_enter Try.func22, Try.ntmps22
    go_wp2
    go_loopg [2] 0 (fun kq v2 wr => v2 = .int .i64 0 ∧ kq = 0 ∧ Aside0 (Sp base top 1 w wr))
    case atStart => exact ⟨rfl, rfl, ⟨(Sp.refl _ _ _).mono (Nat.zero_le _)⟩⟩
    case round =>
    obtain ⟨rfl, rfl, hs⟩ := hrel
    have HS := Lib.hid hs.out
    clear hs
    go_wp2
    all_goals first | go_end0 | (refine bodyPost_ret (results_none rfl _ _ _) rfl ?_)
    all_goals exact ⟨rfl, HS.out⟩
  · have HC := Lib.hid hc
    have HG := Lib.hid hg
    clear hc hg
    go_enter Try.func22, Try.ntmps22
    go_wp2
    go_loopg [2] n (fun kq v2 wr => ∃ (i : Nat) (cur' : Array Value), v2 = .int .i64 (i : Int) ∧ Aside0 (i + kq = n) ∧ Aside0 (wr.heap[g]? = some (.cells cur' 9 (0, 0))) ∧ Aside0 (∀ j : Nat, okC 1 cur[j]? cur'[j]?) ∧ Aside0 (∀ j : Nat, i ≤ j → cur'[j]? = cur[j]?) ∧ Aside0 (Below base w wr) ∧ Aside0 (∀ k : Nat, k ≠ g → wr.heap[k]? = w.heap[k]?))
    case atStart => exact ⟨0, cur, rfl, ⟨by omega⟩, ⟨HG.out⟩, ⟨fun j => .inl rfl⟩, ⟨fun _ _ => rfl⟩, ⟨Below.refl _ _⟩, ⟨fun _ _ => rfl⟩⟩
    case round =>
    obtain ⟨i, cur', rfl, hi0, hg0, ho0, hs0, hb0, hk0⟩ := hrel
    have hi := hi0.out; have HG' := Lib.hid hg0.out; have HO := Lib.hid ho0.out; have HS := Lib.hid hs0.out; have HB := Lib.hid hb0.out; have HK := Lib.hid hk0.out
    clear hi0 hg0 ho0 hs0 hb0 hk0
    cases gk with
    | zero =>
      have hlt : decide (i < n) = false := decide_eq_false (by omega)
      go_wp2
      all_goals first | go_end0 | (refine bodyPost_ret (results_none rfl _ _ _) rfl ?_)
      all_goals
        refine ⟨rfl, HB.out, fun k hk _ => HK.out k (by omega), fun k c t hk => ?_⟩
        by_cases e : k = g
        · subst e
          have := HG.out.symm.trans hk
          injection this with this
          injection this with h1 h2
          subst h1 h2
          exact ⟨cur', HG'.out, HO.out⟩
        · exact ⟨c, (HK.out k e).trans hk, fun j => .inl rfl⟩
    | succ k2 =>
      have hlt : decide (i < n) = true := decide_eq_true (by omega)
      obtain ⟨s, hs1, hs2⟩ := HC.out i (by omega)
      have hci : cur'[i]? = some (.string s) := (HS.out i (Nat.le_refl _)).trans hs1
      have c0 : wr.cell? ⟨g, i, none⟩ = some (.string s) := (blk_cell HG'.out i).trans hci
      have f0 := blk_frozen HG'.out i
      have q1 : (9223372036854775807 < 1 + s.size) = False := eq_false (by omega)
      have WI := Lib.hid (show wrap64 ((i : Int) + 1) = (i : Int) + 1 from wrap_small _ (by omega) (by omega))
      have z0 := eq_true (show (0 : Int) ≤ (i : Int) by omega); have z1 := eq_true (show (i : Int) < (n : Int) by omega)
      have HS1 := Lib.hid hs1; have HCI := Lib.hid hci; have HI := Lib.hid hi
      clear hs1 hci hs2 hi
      go_wp2
      go_roundg k2
      case measure => omega
      case rel =>
        refine ⟨i + 1, _, by rw [WI.out]; push_cast; rfl, ⟨by have := HI.out; omega⟩, ⟨blk_set HG'.out i _⟩, ⟨fun j => ?_⟩, ⟨fun j hj => ?_⟩, ⟨HB.out.setCell (p := ⟨g, i, none⟩) hb _⟩, ⟨fun k hk => (Below.heap_setCell wr ⟨g, i, none⟩ _ k hk).trans (HK.out k hk)⟩⟩
        · have hl := (Array.getElem?_eq_some_iff.1 HCI.out).1
          rw [Array.getElem?_setIfInBounds]
          by_cases c : i = j
          · subst c
            rw [if_pos rfl, if_pos hl, HS1.out]
            exact .inr (.inr ⟨s, _, rfl, rfl, by rw [ByteArray.size_append]; show 1 + s.size ≤ s.size + 1; omega⟩)
          · rw [if_neg c]
            exact HO.out j
        · rw [Array.getElem?_setIfInBounds, if_neg (by omega)]
          exact HS.out j (by omega)
end Go.Proofs.Ythaapadjlknieaa.Pipe
