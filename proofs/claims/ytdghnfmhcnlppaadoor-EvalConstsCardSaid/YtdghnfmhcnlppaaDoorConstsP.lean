/- The law EvalConsts in plain words: a pipe of one constant is that constant, also with 'or' behind it. -/
import Derived.Test.YtdghnfmhcnlppaaDoorEvalP
namespace Go.Proofs.YtdghnfmhcnlppaaDoor.Eval
open Go.RowKit Go.Proofs.YtdghnfmhcnlppaaDoor.Q Go.Proofs.YtdghnfmhcnlppaaDoor.Real Go.Proofs.YtdghnfmhcnlppaaDoor.RealPure Go.Proofs.YtdghnfmhcnlppaaDoor.Values Go.Proofs.YtdghnfmhcnlppaaDoor.Fns Go.Proofs.YtdghnfmhcnlppaaDoorW.PrintWords Go.Proofs.YtdghnfmhcnlppaaDoorW.PrintLast Go.Proofs.YtdghnfmhcnlppaaDoorW.PrintMore
set_option linter.unusedSimpArgs false
set_option linter.unusedVariables false

def argsK (k : Int) (s : ByteArray) (t : Int) : List Ag := [⟨2, ⟨#[]⟩, [], -k, ⟨#[]⟩⟩, ⟨3, ⟨#[]⟩, [], 0, s⟩, ⟨4, ⟨#[]⟩, [], t, ⟨#[]⟩⟩, ⟨5, ⟨#[]⟩, [], 0, ⟨#[]⟩⟩]
def wantK (k : Int) (s : ByteArray) (t : Int) : List V := [numV (-k), textV s, ⟨1, t, 0, ⟨#[]⟩, [], []⟩, z33]
def envK : En := ⟨z33, []⟩
abbrev orK : Cm := ⟨⟨#[111, 114]⟩, [⟨5, ⟨#[]⟩, [], 0, ⟨#[]⟩⟩]⟩
theorem goodK : goodE envK := ⟨(good_leaf rfl rfl rfl).1, fun v hv => by cases hv⟩
theorem or_null (x : V) (hx : mayB x = true) : callR ⟨#[111, 114]⟩ [z33, x] = (x, 0) := by
  have h1 : fnNo ⟨#[111, 114]⟩ = 6 := by kernel_rfl
  have hz : mayB z33 = true := by kernel_rfl
  have ht : truthB z33 = false := by kernel_rfl
  unfold callR
  rw [h1]
  have h2 : (knownR 6).2.2 = true := rfl
  have h3 : countBad (knownR 6) ([z33, x] : List V).length = false := by kernel_rfl
  have h4 : (([z33, x] : List V).any fun v => !mayB v) = false := by simp [hz, hx]
  rw [h2, h3, h4]
  show (pickR [z33, x] true, (0 : Int)) = (x, 0)
  unfold pickR pickL pickL pickL
  rw [ht]
  show (if (truthB x == true) = true then x else x, (0 : Int)) = (x, 0)
  split <;> rfl
theorem mayA_leaf (a : Ag) (h0 : a.f0 = 2 ∨ a.f0 = 3 ∨ a.f0 = 4 ∨ a.f0 = 5) (h1 : a.f1 = ⟨#[]⟩) (h2 : a.f2 = []) (h3 : a.f0 = 2 ∧ Pipe.intB a.f3 = true ∨ a.f3 = 0 ∨ a.f0 = 4 ∧ a.f3 = 1) (h4 : a.f0 = 3 ∧ a.f4.toList.length ≤ 65536 ∨ a.f4 = ⟨#[]⟩) : Pipe.amB a = true := by
  obtain ⟨k, nm, pt, i, s⟩ := a
  dsimp only at h0 h1 h2 h3 h4
  subst h1 h2
  have hp : Pipe.pathB [] = true := rfl
  have hn : ((⟨#[]⟩ : ByteArray).toList == ([] : List UInt8)) = true := by kernel_rfl
  have hl : (⟨#[]⟩ : ByteArray).toList.length ≤ 65536 := by
    have e : (⟨#[]⟩ : ByteArray).toList = [] := beq_iff_eq.1 hn
    rw [e]; decide
  have hi0 : Pipe.intB 0 = true := rfl
  have hi1 : Pipe.intB 1 = true := rfl
  unfold Pipe.amB
  dsimp only
  rw [hp, hn]
  rcases h0 with rfl | rfl | rfl | rfl
  · rcases h3 with ⟨_, h3⟩ | rfl | ⟨h3, _⟩
    · rcases h4 with ⟨h4, _⟩ | rfl
      · exact absurd h4 (by decide)
      · rw [hn, h3, decide_eq_true hl]; rfl
    · rcases h4 with ⟨h4, _⟩ | rfl
      · exact absurd h4 (by decide)
      · rw [hn, hi0, decide_eq_true hl]; rfl
    · exact absurd h3 (by decide)
  · rcases h3 with ⟨h3, _⟩ | rfl | ⟨h3, _⟩
    · exact absurd h3 (by decide)
    · rcases h4 with ⟨_, h4⟩ | rfl
      · rw [hi0, decide_eq_true h4]; rfl
      · rw [hn, hi0, decide_eq_true hl]; rfl
    · exact absurd h3 (by decide)
  · rcases h3 with ⟨h3, _⟩ | rfl | ⟨_, rfl⟩
    · exact absurd h3 (by decide)
    · rcases h4 with ⟨h4, _⟩ | rfl
      · exact absurd h4 (by decide)
      · rw [hn, hi0, decide_eq_true hl]; rfl
    · rcases h4 with ⟨h4, _⟩ | rfl
      · exact absurd h4 (by decide)
      · rw [hn, hi1, decide_eq_true hl]; rfl
  · rcases h3 with ⟨h3, _⟩ | rfl | ⟨h3, _⟩
    · exact absurd h3 (by decide)
    · rcases h4 with ⟨h4, _⟩ | rfl
      · exact absurd h4 (by decide)
      · rw [hn, hi0, decide_eq_true hl]; rfl
    · exact absurd h3 (by decide)
theorem may_envK : envB envK = true := by kernel_rfl
/-- A constant that may be, alone and ahead of 'or'. -/
theorem pipe_leaf (a : Ag) (x : V) (hm : Pipe.amB a = true) (ha : argR envK a = (x, 0)) : pipeR [⟨⟨#[]⟩, [a]⟩] envK = (x, 0) := by
  have h1 : Pipe.mayP [⟨⟨#[]⟩, [a]⟩] = true := by
    have hc : Pipe.cmB true ⟨⟨#[]⟩, [a]⟩ = true := by
      have hn : ((⟨#[]⟩ : ByteArray).toList == ([] : List UInt8)) = true := by kernel_rfl
      unfold Pipe.cmB
      dsimp only
      rw [hn, List.all_cons, hm]; rfl
    unfold Pipe.mayP
    show (true && true && (Pipe.cmB true ⟨⟨#[]⟩, [a]⟩ && true)) = true
    rw [hc]; rfl
  have hn : ((⟨#[]⟩ : ByteArray).toList == ([] : List UInt8)) = true := by kernel_rfl
  have ha2 : argsR envK [a] = ([x], 0) := by unfold argsR argsR; rw [ha]; rfl
  have hc : cmdR envK [] ⟨⟨#[]⟩, [a]⟩ = (x, 0) := by
    unfold cmdR
    dsimp only
    rw [ha2, if_pos rfl, if_pos hn]; rfl
  unfold pipeR
  rw [h1, may_envK]
  show reckR envK [⟨⟨#[]⟩, [a]⟩] [] z33 = (x, 0)
  unfold reckR
  rw [hc]; rfl
theorem pipe_or (a : Ag) (x : V) (hm : Pipe.amB a = true) (ha : argR envK a = (x, 0)) (hx : mayB x = true) : pipeR [⟨⟨#[]⟩, [a]⟩, orK] envK = (x, 0) := by
  have hno : Pipe.cmB false orK = true := by kernel_rfl
  have h1 : Pipe.mayP [⟨⟨#[]⟩, [a]⟩, orK] = true := by
    have hc : Pipe.cmB true ⟨⟨#[]⟩, [a]⟩ = true := by
      have hn : ((⟨#[]⟩ : ByteArray).toList == ([] : List UInt8)) = true := by kernel_rfl
      unfold Pipe.cmB
      dsimp only
      rw [hn, List.all_cons, hm]; rfl
    unfold Pipe.mayP
    show (true && true && (Pipe.cmB true ⟨⟨#[]⟩, [a]⟩ && (Pipe.cmB false orK && true))) = true
    rw [hc, hno]; rfl
  have hn : ((⟨#[]⟩ : ByteArray).toList == ([] : List UInt8)) = true := by kernel_rfl
  have ha2 : argsR envK [a] = ([x], 0) := by unfold argsR argsR; rw [ha]; rfl
  have hc : cmdR envK [] ⟨⟨#[]⟩, [a]⟩ = (x, 0) := by
    unfold cmdR
    dsimp only
    rw [ha2, if_pos rfl, if_pos hn]; rfl
  have hc2 : cmdR envK [x] orK = (x, 0) := by
    have hf : ((⟨#[111, 114]⟩ : ByteArray).toList == ([] : List UInt8)) = false := by kernel_rfl
    have hb : argsR envK [⟨5, ⟨#[]⟩, [], 0, ⟨#[]⟩⟩] = ([z33], 0) := by kernel_rfl
    unfold cmdR
    dsimp only
    rw [hb, if_pos rfl, hf]
    exact or_null x hx
  unfold pipeR
  rw [h1, may_envK]
  show reckR envK [⟨⟨#[]⟩, [a]⟩, orK] [] z33 = (x, 0)
  unfold reckR
  rw [hc, if_pos rfl]
  unfold reckR
  rw [hc2]; rfl
theorem may_num (i : Int) (h0 : -9007199254740991 ≤ i) (h1 : i ≤ 9007199254740991) : mayB (numV i) = true := by
  have hp : plainB (numV i) = true := by kernel_rfl
  have ho : ownB (numV i) = true := by
    unfold ownB
    rw [hp]
    simp [numV, Values.intB, h0, h1]
  unfold mayB
  rw [mayD, if_neg (by decide), if_pos ho]
  rfl
theorem may_text (s : ByteArray) (h : s.size ≤ 65536) : mayB (textV s) = true := by
  have hp : plainB (textV s) = true := by kernel_rfl
  have ho : ownB (textV s) = true := by
    unfold ownB
    rw [hp]
    simp [textV, h]
  unfold mayB
  rw [mayD, if_neg (by decide), if_pos ho]
  rfl
theorem rd_four {α : Type} (P : Nat → Prop) (h0 : P 0) (h1 : P 1) (h2 : P 2) (h3 : P 3) : ∀ i, i < 4 → P i
  | 0, _ => h0
  | 1, _ => h1
  | 2, _ => h2
  | 3, _ => h3
  | n + 4, h => absurd h (by omega)
theorem consts_all (k : Int) (s : ByteArray) (t : Int) (hk0 : 0 ≤ k) (hk : k ≤ 9007199254740991) (hs : s.size ≤ 65536) (ht : t = 0 ∨ t = 1) : ∀ i : Nat, i < 4 →
    pipeR [⟨⟨#[]⟩, [rd_T25 (argsK k s t) (i : Int)]⟩] envK = (rd_T33 (wantK k s t) (i : Int), 0) ∧ pipeR [⟨⟨#[]⟩, [rd_T25 (argsK k s t) (i : Int)]⟩, orK] envK = (rd_T33 (wantK k s t) (i : Int), 0) := by
  have key : ∀ (a : Ag) (x : V), Pipe.amB a = true → argR envK a = (x, 0) → mayB x = true → pipeR [⟨⟨#[]⟩, [a]⟩] envK = (x, 0) ∧ pipeR [⟨⟨#[]⟩, [a]⟩, orK] envK = (x, 0) := fun a x h1 h2 h3 => ⟨pipe_leaf a x h1 h2, pipe_or a x h1 h2 h3⟩
  have hi : Pipe.intB (-k) = true := by unfold Pipe.intB; rw [decide_eq_true (by omega), decide_eq_true (by omega)]; rfl
  refine rd_four (α := Unit) _ ?_ ?_ ?_ ?_
  · exact key ⟨2, ⟨#[]⟩, [], -k, ⟨#[]⟩⟩ (numV (-k)) (mayA_leaf _ (.inl rfl) rfl rfl (.inl ⟨rfl, hi⟩) (.inr rfl)) rfl (may_num _ (by omega) (by omega))
  · exact key ⟨3, ⟨#[]⟩, [], 0, s⟩ (textV s) (mayA_leaf _ (.inr (.inl rfl)) rfl rfl (.inr (.inl rfl)) (.inl ⟨rfl, by rw [Pipe.toList_length]; exact hs⟩)) rfl (may_text s hs)
  · rcases ht with rfl | rfl
    · exact key ⟨4, ⟨#[]⟩, [], 0, ⟨#[]⟩⟩ ⟨1, 0, 0, ⟨#[]⟩, [], []⟩ (mayA_leaf _ (.inr (.inr (.inl rfl))) rfl rfl (.inr (.inl rfl)) (.inr rfl)) rfl (by kernel_rfl)
    · exact key ⟨4, ⟨#[]⟩, [], 1, ⟨#[]⟩⟩ ⟨1, 1, 0, ⟨#[]⟩, [], []⟩ (mayA_leaf _ (.inr (.inr (.inl rfl))) rfl rfl (.inr (.inr ⟨rfl, rfl⟩)) (.inr rfl)) rfl (by kernel_rfl)
  · exact key ⟨5, ⟨#[]⟩, [], 0, ⟨#[]⟩⟩ z33 (mayA_leaf _ (.inr (.inr (.inr rfl))) rfl rfl (.inr (.inl rfl)) (.inr rfl)) rfl (by kernel_rfl)
/-- One element of a row is a row of one. -/
theorem C_one {α : Type} {d : Kd α} {w : World} {ad : Addr} {n : Nat} {xs : List α} (z : α) (h : d.C w (some ad) n xs) (i : Nat) (hi : i < n) : d.C w (some (ad.add (i * d.sz))) 1 [xs.getD i z] := by
  obtain ⟨ad', c, e, hl, hK, hc⟩ := Kd.C_get h z (i : Int) (by omega) (by omega)
  obtain rfl : ad = ad' := Option.some.inj e
  have ti : (i : Int).toNat = i := by omega
  rw [ti] at hK hc
  refine ⟨rfl, by decide, fun _ => ⟨_, rfl, fun j p hj => ?_⟩⟩
  cases j with
  | succ j => simp at hj
  | zero =>
    have hp : p = xs.getD i z := by simpa using hj.symm
    subst hp
    refine ⟨c, hl, hK, fun q u hu => ?_⟩
    rw [Nat.zero_mul, Nat.zero_add, Addr.add_add]
    exact hc q u hu
theorem and53 (a : Int) : ∃ K : Int, bits .and .i64 a 9007199254740991 = K ∧ 0 ≤ K ∧ K ≤ 9007199254740991 := by
  have hc : (BitVec.ofInt 64 9007199254740991).toNat = 2 ^ 53 - 1 := by decide
  have key : (BitVec.ofInt 64 a &&& BitVec.ofInt 64 9007199254740991).toNat = (a % ((2 ^ 64 : Nat) : Int)).toNat % 2 ^ 53 := by
    rw [BitVec.toNat_and, BitVec.toNat_ofInt, hc, Nat.and_two_pow_sub_one_eq_mod]
  have hv : bits .and .i64 a 9007199254740991 = ((a % ((2 ^ 64 : Nat) : Int)).toNat % 2 ^ 53 : Nat) := by
    show IntKind.i64.wrap ((BitVec.ofInt 64 a &&& BitVec.ofInt 64 9007199254740991).toNat : Nat) = _
    rw [key, IntKind.wrap_i64]
    have : (a % ((2 ^ 64 : Nat) : Int)).toNat % 2 ^ 53 < 2 ^ 53 := Nat.mod_lt _ (by decide)
    omega
  refine ⟨_, hv, by omega, ?_⟩
  have : (a % ((2 ^ 64 : Nat) : Int)).toNat % 2 ^ 53 < 2 ^ 53 := Nat.mod_lt _ (by decide)
  omega
theorem slice_args (ad : Addr) (i : Nat) (hi : i < 4) (W : World) : (Instr.slice 26 (.slice (some ad) 4 4) (some (.int .i64 (i : Int))) (some (.int .i64 ((i : Int) + 1))) none).run Tryd.prog W = .ok (.slice (some (ad.add (i * 5))) 1 (4 - i)) W := by
  revert hi
  refine fun hi => rd_four (α := Unit) (fun i => (Instr.slice 26 (.slice (some ad) 4 4) (some (.int .i64 (i : Int))) (some (.int .i64 ((i : Int) + 1))) none).run Tryd.prog W = .ok (.slice (some (ad.add (i * 5))) 1 (4 - i)) W) ?_ ?_ ?_ ?_ i hi <;> kernel_rfl
end Go.Proofs.YtdghnfmhcnlppaaDoor.Eval
