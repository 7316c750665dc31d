/- The law EvalPaths in plain words: records within records, and what a path tells of them. -/
import Derived.Test.YtdghnfmhcnlppaaGreatDoorAwake19
import Derived.Test.YtdghnfmhcnlppaaGreatDoorQ3
namespace Go.Proofs.YtdghnfmhcnlppaaGreatDoor.Eval
open Go.RowKit Go.Proofs.YtdghnfmhcnlppaaGreatDoor.Q Go.Proofs.YtdghnfmhcnlppaaGreatDoor.Real Go.Proofs.YtdghnfmhcnlppaaGreatDoor.RealPure Go.Proofs.YtdghnfmhcnlppaaGreatDoor.Values Go.Proofs.YtdghnfmhcnlppaaGreatDoor.Fns Go.Proofs.YtdghnfmhcnlppaaGreatDoorW.PrintWords Go.Proofs.YtdghnfmhcnlppaaGreatDoorW.PrintLast Go.Proofs.YtdghnfmhcnlppaaGreatDoorW.PrintMore
set_option linter.unusedSimpArgs false
set_option linter.unusedVariables false

/-! ### the names -/
def decS (d : Nat) : ByteArray := (stoleref0_Decimal.f 8 (d : Int)).getD ⟨#[]⟩
theorem dec_all : ((List.range 16).all fun d => (stoleref0_Decimal.f 8 (d : Int)).isSome) = true := by kernel_rfl
theorem dec_of (d : Nat) (h : d < 16) : stoleref0_Decimal.f 8 (d : Int) = some (decS d) := by
  have h1 := List.all_eq_true.1 dec_all d (List.mem_range.2 h)
  obtain ⟨r, hr⟩ := Option.isSome_iff_exists.1 h1
  unfold decS
  rw [hr]; rfl
theorem dec_small : ((List.range 16).all fun d => decide ((decS d).size ≤ 2)) = true := by kernel_rfl
theorem dec_size (d : Nat) (h : d < 16) : (decS d).size ≤ 2 := of_decide_eq_true (List.all_eq_true.1 dec_small d (List.mem_range.2 h))
def kN (d : Nat) : ByteArray := (⟨#[107]⟩ : ByteArray) ++ decS d
abbrev sA : ByteArray := ⟨#[97]⟩
abbrev sZ : ByteArray := ⟨#[122]⟩
abbrev sZZ : ByteArray := ⟨#[122, 122]⟩
abbrev sW : ByteArray := ⟨#[119]⟩
abbrev sU : ByteArray := ⟨#[117]⟩
abbrev noV : V := textV ⟨#[110, 111]⟩
def Nm (n : ByteArray) : Prop := ∃ d, d < 16 ∧ n = kN d
theorem nm_all : ((List.range 16).all fun d => Pipe.nameB (kN d) && ownB ⟨6, 0, 0, ⟨#[]⟩, [z27, z27], [sA, kN d]⟩ && (searchB [sA, kN d] (kN d)).1 == 1 && (searchB [sA, kN d] (kN d)).2 && !(searchB [sA, kN d] sZZ).2) = true := by kernel_rfl
theorem own_len (a b c : Int) (s : ByteArray) (l l' : List V) (ks : List ByteArray) (h : l.length = l'.length) : ownB ⟨a, b, c, s, l, ks⟩ = ownB ⟨a, b, c, s, l', ks⟩ := by
  unfold ownB plainB
  dsimp only
  rw [h]
theorem nm_parts {n : ByteArray} (h : Nm n) : Pipe.nameB n = true ∧ (∀ x y : V, ownB ⟨6, 0, 0, ⟨#[]⟩, [x, y], [sA, n]⟩ = true) ∧ searchB [sA, n] n = (1, true) ∧ (searchB [sA, n] sZZ).2 = false := by
  obtain ⟨d, hd, rfl⟩ := h
  have h1 := List.all_eq_true.1 nm_all d (List.mem_range.2 hd)
  simp only [Bool.and_eq_true, Bool.not_eq_true', beq_iff_eq] at h1
  obtain ⟨⟨⟨⟨h1, h2⟩, h3⟩, h4⟩, h5⟩ := h1
  exact ⟨h1, fun x y => (own_len 6 0 0 ⟨#[]⟩ [x, y] [z27, z27] _ rfl).trans h2, Prod.ext h3 h4, h5⟩

/-! ### records within records -/
def nestP (m : Int) : List ByteArray → V
  | [] => numV m
  | n :: ns => ⟨6, 0, 0, ⟨#[]⟩, [noV, nestP m ns], [sA, n]⟩
theorem at_nest (m : Int) (tl : List ByteArray) : ∀ ns : List ByteArray, (∀ n ∈ ns, Nm n) → atR (nestP m ns) (ns ++ tl) = atR (numV m) tl
  | [], _ => rfl
  | n :: ns, h => by
    have hp := nm_parts (h n (List.mem_cons_self ..))
    have e1 : atR (nestP m (n :: ns)) (n :: (ns ++ tl)) = if (searchB [sA, n] n).2 = true then atR (rd_T27 [noV, nestP m ns] (searchB [sA, n] n).1) (ns ++ tl) else (z27, 401) := rfl
    show atR (nestP m (n :: ns)) (n :: (ns ++ tl)) = _
    rw [e1, hp.2.2.1, if_pos rfl]
    exact at_nest m tl ns (fun x hx => h x (List.mem_cons_of_mem _ hx))
theorem at_zz (m : Int) (n : ByteArray) (ns : List ByteArray) (h : Nm n) : atR (nestP m (n :: ns)) [sZZ] = (z27, 401) := by
  have hp := nm_parts h
  have e1 : atR (nestP m (n :: ns)) [sZZ] = if (searchB [sA, n] sZZ).2 = true then atR (rd_T27 [noV, nestP m ns] (searchB [sA, n] sZZ).1) [] else (z27, 401) := rfl
  rw [e1, hp.2.2.2]; rfl
theorem empty_toList0 : (⟨#[]⟩ : ByteArray).toList = ([] : List UInt8) := beq_iff_eq.1 (by kernel_rfl)
theorem own_num (m : Int) (h0 : 0 ≤ m) (h1 : m ≤ 65535) : ownB (numV m) = true := by
  have hi : Values.intB m = true := by unfold Values.intB; simp; omega
  unfold ownB plainB numV
  rw [hi, empty_toList0]
  rfl
theorem own_no : ownB noV = true := by kernel_rfl
theorem may_nest (m : Int) (h0 : 0 ≤ m) (h1 : m ≤ 65535) : ∀ (ns : List ByteArray) (d : Nat) (l : Int), (∀ n ∈ ns, Nm n) → ns.length < d → 1 + 2 * (ns.length : Int) ≤ l → mayD d (nestP m ns) l = (true, l - (1 + 2 * (ns.length : Int)))
  | [], d, l, _, hd, hl => by
    obtain ⟨d', rfl⟩ : ∃ d', d = d' + 1 := ⟨d - 1, by simp at hd; omega⟩
    show mayD (d' + 1) (numV m) l = _
    unfold mayD
    rw [if_neg (by simp at hl; omega), if_pos (own_num m h0 h1)]
    show (true, l - 1) = _
    simp
  | n :: ns, d, l, h, hd, hl => by
    have hp := nm_parts (h n (List.mem_cons_self ..))
    rw [List.length_cons] at hd hl
    obtain ⟨d', rfl⟩ : ∃ d', d = d' + 2 := ⟨d - 2, by omega⟩
    have hl2 : 1 + 2 * (ns.length : Int) ≤ l - 1 - 1 := by push_cast at hl; omega
    have ih := may_nest m h0 h1 ns (d' + 1) (l - 1 - 1) (fun x hx => h x (List.mem_cons_of_mem _ hx)) (by omega) hl2
    have e2 : mayD (d' + 1) noV (l - 1) = (true, l - 1 - 1) := by
      unfold mayD
      rw [if_neg (by omega), if_pos own_no]; rfl
    have ho := hp.2.1 noV (nestP m ns)
    show mayD (d' + 1 + 1) ⟨6, 0, 0, ⟨#[]⟩, [noV, nestP m ns], [sA, n]⟩ l = _
    rw [mayD, if_neg (by omega), if_pos ho]
    show mayL (mayD (d' + 1)) [noV, nestP m ns] (l - 1) = _
    unfold mayL
    rw [e2, if_pos rfl]
    unfold mayL
    rw [ih, if_pos rfl]
    unfold mayL
    rw [List.length_cons]
    refine Prod.ext rfl ?_
    show l - 1 - 1 - (1 + 2 * (ns.length : Int)) = l - (1 + 2 * ((ns.length + 1 : Nat) : Int))
    push_cast
    omega
theorem may_nestB (m : Int) (h0 : 0 ≤ m) (h1 : m ≤ 65535) (ns : List ByteArray) (h : ∀ n ∈ ns, Nm n) (hl : ns.length ≤ 4) : mayB (nestP m ns) = true := by
  unfold mayB
  rw [may_nest m h0 h1 ns 8 1024 h (by omega) (by omega)]
theorem rng_nest (m : Int) : ∀ (ns : List ByteArray) (d : Nat), rngD d (nestP m ns)
  | [], d => (good_leaf (x := numV m) rfl rfl rfl).1 d
  | n :: ns, 0 => trivial
  | n :: ns, d + 1 => ⟨by show (0 : Int) ≤ 0; omega, by show (0 : Int) < 2 ^ 64; decide, fun z hz => by
    rcases List.mem_cons.1 hz with rfl | hz
    · exact (good_leaf (x := noV) rfl rfl rfl).1 d
    · rw [List.mem_singleton.1 hz]; exact rng_nest m ns d⟩

/-! ### the Env and its four pipes -/
def envP (v : V) : En := ⟨v, [⟨sU, v⟩, ⟨sW, numV 1⟩, ⟨sW, v⟩]⟩
theorem env_ok {v : V} (h : mayB v = true) : envB (envP v) = true := by
  have hu : Pipe.nameB sU = true := by kernel_rfl
  have hw : Pipe.nameB sW = true := by kernel_rfl
  have hn : mayB (numV 1) = true := by kernel_rfl
  have e : envB (envP v) = (mayB v && true && ((Pipe.nameB sU && mayB v) && ((Pipe.nameB sW && mayB (numV 1)) && ((Pipe.nameB sW && mayB v) && true)))) := rfl
  rw [e, h, hu, hw, hn]; rfl
theorem env_good {v : V} (h : ∀ d, rngD d v) : goodE (envP v) := ⟨h, fun x hx => by
  rcases List.mem_cons.1 hx with rfl | hx
  · exact h
  · rcases List.mem_cons.1 hx with rfl | hx
    · exact (good_leaf (x := numV 1) rfl rfl rfl).1
    · rw [List.mem_singleton.1 hx]; exact h⟩
theorem empty_toList : ((⟨#[]⟩ : ByteArray).toList == ([] : List UInt8)) = true := by kernel_rfl
theorem pipe_one (a : Ag) (e : En) (x : V) (n : Int) (hm : Pipe.amB a = true) (he : envB e = true) (ha : argR e a = (x, n)) (hn : n = 0 ∨ x = z27) : pipeR [⟨⟨#[]⟩, [a]⟩] e = (x, n) := by
  have h1 : Pipe.mayP [⟨⟨#[]⟩, [a]⟩] = true := by
    have hc : Pipe.cmB true ⟨⟨#[]⟩, [a]⟩ = true := by
      unfold Pipe.cmB
      dsimp only
      rw [empty_toList, List.all_cons, hm]; rfl
    unfold Pipe.mayP
    show (true && true && (Pipe.cmB true ⟨⟨#[]⟩, [a]⟩ && true)) = true
    rw [hc]; rfl
  unfold pipeR
  rw [h1, he]
  show reckR e [⟨⟨#[]⟩, [a]⟩] [] z27 = (x, n)
  unfold reckR
  by_cases h0 : n = 0
  · subst h0
    have ha2 : argsR e [a] = ([x], 0) := by unfold argsR argsR; rw [ha]; rfl
    have hc : cmdR e [] ⟨⟨#[]⟩, [a]⟩ = (x, 0) := by
      unfold cmdR
      dsimp only
      rw [ha2, if_pos rfl, if_pos empty_toList]; rfl
    rw [hc]; rfl
  · rcases hn with hn | rfl
    · exact absurd hn h0
    have ha2 : argsR e [a] = ([], n) := by unfold argsR; rw [ha, if_neg h0]
    have hc : cmdR e [] ⟨⟨#[]⟩, [a]⟩ = (z27, n) := by
      unfold cmdR
      dsimp only
      rw [ha2, if_neg h0]
    rw [hc, if_neg h0]
theorem path_ok {ps : List ByteArray} (hl : ps.length ≤ 8) (h : ∀ p ∈ ps, Pipe.nameB p = true) : Pipe.pathB ps = true := by
  unfold Pipe.pathB
  rw [decide_eq_true hl, List.all_eq_true.2 h]; rfl
abbrev dotA (ps : List ByteArray) : Ag := ⟨0, ⟨#[]⟩, ps, 0, ⟨#[]⟩⟩
abbrev varA (ps : List ByteArray) : Ag := ⟨1, sW, ps, 0, ⟨#[]⟩⟩
theorem dot_ok {ps : List ByteArray} (h : Pipe.pathB ps = true) : Pipe.amB (dotA ps) = true := by
  have hl : (⟨#[]⟩ : ByteArray).toList = [] := beq_iff_eq.1 empty_toList
  unfold Pipe.amB
  dsimp only
  rw [h, hl]; rfl
theorem var_ok {ps : List ByteArray} (h : Pipe.pathB ps = true) : Pipe.amB (varA ps) = true := by
  have hl : (⟨#[]⟩ : ByteArray).toList = [] := beq_iff_eq.1 empty_toList
  have hw : Pipe.nameB sW = true := by kernel_rfl
  unfold Pipe.amB
  dsimp only
  rw [h, hl, hw]; rfl
theorem dot_arg (v : V) (ps : List ByteArray) : argR (envP v) (dotA ps) = atR v ps := rfl
theorem var_arg (v : V) (ps : List ByteArray) : argR (envP v) (varA ps) = atR v ps := by
  have e : argR (envP v) (varA ps) = varR [⟨sU, v⟩, ⟨sW, numV 1⟩, ⟨sW, v⟩] sW ps 3 := rfl
  have hw : (sW.toList == sW.toList) = true := by simp
  have e2 : lastV [⟨sU, v⟩, ⟨sW, numV 1⟩, ⟨sW, v⟩] sW 3 = some v := by
    unfold lastV
    exact if_pos hw
  rw [e]; unfold varR; rw [e2]
section
variable {m : Int} {ns : List ByteArray} (h0 : 0 ≤ m) (h1 : m ≤ 65535) (h : ∀ n ∈ ns, Nm n) (hl : ns.length ≤ 4)
include h0 h1 h hl
theorem pipe_dot : pipeR [⟨⟨#[]⟩, [dotA ns]⟩] (envP (nestP m ns)) = (numV m, 0) :=
  pipe_one _ _ _ _ (dot_ok (path_ok (by omega) fun p hp => (nm_parts (h p hp)).1)) (env_ok (may_nestB m h0 h1 ns h hl)) ((dot_arg _ _).trans (by have := at_nest m [] ns h; rw [List.append_nil] at this; exact this)) (.inl rfl)
theorem pipe_var : pipeR [⟨⟨#[]⟩, [varA ns]⟩] (envP (nestP m ns)) = (numV m, 0) :=
  pipe_one _ _ _ _ (var_ok (path_ok (by omega) fun p hp => (nm_parts (h p hp)).1)) (env_ok (may_nestB m h0 h1 ns h hl)) ((var_arg _ _).trans (by have := at_nest m [] ns h; rw [List.append_nil] at this; exact this)) (.inl rfl)
theorem pipe_more : pipeR [⟨⟨#[]⟩, [dotA (ns ++ [sZ])]⟩] (envP (nestP m ns)) = (z27, 402) :=
  pipe_one _ _ _ _ (dot_ok (path_ok (by rw [List.length_append]; simp; omega) fun p hp => by
    rcases List.mem_append.1 hp with hp | hp
    · exact (nm_parts (h p hp)).1
    · rw [List.mem_singleton.1 hp]; kernel_rfl)) (env_ok (may_nestB m h0 h1 ns h hl)) ((dot_arg _ _).trans (at_nest m [sZ] ns h)) (.inr rfl)
theorem pipe_zz (hk : 1 ≤ ns.length) : pipeR [⟨⟨#[]⟩, [dotA [sZZ]]⟩] (envP (nestP m ns)) = (z27, 401) := by
  refine pipe_one _ _ _ _ (dot_ok (path_ok (by decide) fun p hp => by rw [List.mem_singleton.1 hp]; kernel_rfl)) (env_ok (may_nestB m h0 h1 ns h hl)) ((dot_arg _ _).trans ?_) (.inr rfl)
  cases ns with
  | nil => simp at hk
  | cons n ns => exact at_zz m n ns (h n (List.mem_cons_self ..))
end

/-! ### the numbers -/
theorem and_mask (a : Int) (k : Nat) (hk : k ≤ 16) : bits .and .i64 a ((2 ^ k - 1 : Nat) : Int) = (((a % ((2 ^ 64 : Nat) : Int)).toNat % 2 ^ k : Nat) : Int) := by
  have hlt : 2 ^ k ≤ 2 ^ 16 := Nat.pow_le_pow_right (by decide) hk
  have hc : (BitVec.ofInt 64 ((2 ^ k - 1 : Nat) : Int)).toNat = 2 ^ k - 1 := by
    rw [BitVec.toNat_ofInt]
    omega
  have key : (BitVec.ofInt 64 a &&& BitVec.ofInt 64 ((2 ^ k - 1 : Nat) : Int)).toNat = (a % ((2 ^ 64 : Nat) : Int)).toNat % 2 ^ k := by
    rw [BitVec.toNat_and, BitVec.toNat_ofInt, hc, Nat.and_two_pow_sub_one_eq_mod]
  show IntKind.i64.wrap ((BitVec.ofInt 64 a &&& BitVec.ofInt 64 ((2 ^ k - 1 : Nat) : Int)).toNat : Nat) = _
  have : (a % ((2 ^ 64 : Nat) : Int)).toNat % 2 ^ k < 2 ^ k := Nat.mod_lt _ (Nat.pow_pos (by decide))
  rw [key, IntKind.wrap_i64]
  omega
theorem and3 (a : Int) : ∃ K : Nat, wrap64 (1 + bits .and .i64 a 3) = (K : Int) ∧ 1 ≤ K ∧ K ≤ 4 := by
  have hv := and_mask a 2 (by decide)
  have hlt : (a % ((2 ^ 64 : Nat) : Int)).toNat % 2 ^ 2 < 2 ^ 2 := Nat.mod_lt _ (by decide)
  refine ⟨1 + (a % ((2 ^ 64 : Nat) : Int)).toNat % 2 ^ 2, ?_, by omega, by omega⟩
  rw [show (3 : Int) = ((2 ^ 2 - 1 : Nat) : Int) from rfl, hv, Values.wrap_small _ (by omega) (by omega)]
  exact (Int.natCast_add 1 _).symm
theorem and65535 (a : Int) : ∃ m : Int, bits .and .i64 a 65535 = m ∧ 0 ≤ m ∧ m ≤ 65535 := by
  have hv := and_mask a 16 (by decide)
  have hlt : (a % ((2 ^ 64 : Nat) : Int)).toNat % 2 ^ 16 < 2 ^ 16 := Nat.mod_lt _ (by decide)
  exact ⟨_, hv, by omega, by omega⟩
theorem and15 (a : Int) : ∃ d : Nat, bits .and .i64 a 15 = (d : Int) ∧ d < 16 := by
  have hv := and_mask a 4 (by decide)
  have hlt : (a % ((2 ^ 64 : Nat) : Int)).toNat % 2 ^ 4 < 2 ^ 4 := Nat.mod_lt _ (by decide)
  exact ⟨_, hv, by omega⟩
end Go.Proofs.YtdghnfmhcnlppaaGreatDoor.Eval
