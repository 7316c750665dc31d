/- Plain laws on reals of 64 bits: the order of two words, and when one is whole. No program here. -/
import Ieee.Arith
namespace Go.Proofs.YtdghnfmhcnlppaaGreatDoor.RealPure
open Ieee

/-- A magnitude, in units of 2^-1074. -/
def mg (r : Nat) : Nat := if r < 2 ^ 52 then r else (2 ^ 52 + r % 2 ^ 52) * 2 ^ (r / 2 ^ 52 - 1)

/-- A word among the others, as a number. -/
def place (b : Nat) : Int := if b / 2 ^ 63 % 2 = 1 then -((b % 2 ^ 63 : Nat) : Int) else ((b % 2 ^ 63 : Nat) : Int)

def nanB (b : Nat) : Bool := decide (0x7ff0000000000000 < b % 2 ^ 63)

theorem mg_step (r : Nat) : mg r < mg (r + 1) := by
  unfold mg
  by_cases h : r < 2 ^ 52
  · by_cases h1 : r + 1 < 2 ^ 52
    · rw [if_pos h, if_pos h1]; omega
    · have h2 : r + 1 = 2 ^ 52 := by omega
      rw [if_pos h, if_neg h1, h2]
      have e1 : 2 ^ 52 % 2 ^ 52 = 0 := Nat.mod_self _
      have e2 : 2 ^ 52 / 2 ^ 52 = 1 := Nat.div_self (by omega)
      rw [e1, e2]; omega
  · have h1 : ¬ r + 1 < 2 ^ 52 := by omega
    rw [if_neg h, if_neg h1]
    have hq : 1 ≤ r / 2 ^ 52 := by omega
    by_cases h2 : (r + 1) % 2 ^ 52 = 0
    · have e1 : (r + 1) / 2 ^ 52 = r / 2 ^ 52 + 1 := by omega
      have e2 : r % 2 ^ 52 = 2 ^ 52 - 1 := by omega
      have e3 : r / 2 ^ 52 + 1 - 1 = (r / 2 ^ 52 - 1) + 1 := by omega
      rw [e1, e2, h2, e3, Nat.pow_succ 2 (r / 2 ^ 52 - 1)]
      have hp : 0 < 2 ^ (r / 2 ^ 52 - 1) := Nat.two_pow_pos _
      generalize 2 ^ (r / 2 ^ 52 - 1) = p at *
      have : (2 ^ 52 + (2 ^ 52 - 1)) * p < (2 ^ 52 + 0) * (p * 2) := by
        have h5 : (2 ^ 52 + 0) * (p * 2) = (2 ^ 52 + 2 ^ 52) * p := by rw [Nat.add_zero, Nat.mul_comm p 2, ← Nat.mul_assoc]
        rw [h5]
        exact Nat.mul_lt_mul_of_pos_right (by omega) hp
      exact this
    · have e1 : (r + 1) / 2 ^ 52 = r / 2 ^ 52 := by omega
      have e2 : (r + 1) % 2 ^ 52 = r % 2 ^ 52 + 1 := by omega
      rw [e1, e2]
      exact Nat.mul_lt_mul_of_pos_right (by omega) (Nat.two_pow_pos _)

theorem mg_lt {r s : Nat} (h : r < s) : mg r < mg s := by
  induction s with
  | zero => omega
  | succ s ih =>
    by_cases e : r = s
    · subst e; exact mg_step r
    · exact Nat.lt_trans (ih (by omega)) (mg_step s)

theorem mg_lt_iff {r s : Nat} : mg r < mg s ↔ r < s := by
  constructor
  · intro h
    by_cases e : r < s
    · exact e
    · by_cases e2 : r = s
      · subst e2; omega
      · have := mg_lt (show s < r by omega); omega
  · exact mg_lt

theorem mg_inj {r s : Nat} (h : mg r = mg s) : r = s := by
  by_cases e : r < s
  · have := mg_lt e; omega
  · by_cases e2 : s < r
    · have := mg_lt e2; omega
    · omega

/-- What a finite word stands for. -/
theorem read_fin (b : Nat) (hf : b % 2 ^ 63 < 0x7ff0000000000000) :
    ∃ m p, double.read b = .number (decide (b / 2 ^ 63 % 2 = 1)) m p ∧ -1074 ≤ p ∧ m * 2 ^ (p + 1074).toNat = mg (b % 2 ^ 63) := by
  have hs : double.signWeight = 2 ^ 63 := rfl
  have hbi : double.binade = 2 ^ 52 := rfl
  have hi : double.infRung = 0x7ff0000000000000 := rfl
  have hl : double.leastPlace = -1074 := rfl
  unfold Format.read
  simp only [hs, hbi, hi, hl]
  have hd : (b / 2 ^ 63 % 2 == 1) = decide (b / 2 ^ 63 % 2 = 1) := by
    by_cases h : b / 2 ^ 63 % 2 = 1 <;> simp [h]
  by_cases h1 : b % 2 ^ 63 < 2 ^ 52
  · rw [if_pos h1, hd]
    refine ⟨_, _, rfl, by omega, ?_⟩
    unfold mg; rw [if_pos h1]; simp
  · rw [if_neg h1, if_pos hf, hd]
    refine ⟨_, _, rfl, by omega, ?_⟩
    unfold mg; rw [if_neg h1]
    have : (-1074 + ((b % 2 ^ 63 / 2 ^ 52 - 1 : Nat) : Int) + 1074).toNat = b % 2 ^ 63 / 2 ^ 52 - 1 := by omega
    rw [this]

theorem read_inf (b : Nat) (hf : b % 2 ^ 63 = 0x7ff0000000000000) :
    double.read b = .infinity (decide (b / 2 ^ 63 % 2 = 1)) := by
  have hs : double.signWeight = 2 ^ 63 := rfl
  have hbi : double.binade = 2 ^ 52 := rfl
  have hi : double.infRung = 0x7ff0000000000000 := rfl
  unfold Format.read
  simp only [hs, hbi, hi, hf]
  have hd : (b / 2 ^ 63 % 2 == 1) = decide (b / 2 ^ 63 % 2 = 1) := by
    by_cases h : b / 2 ^ 63 % 2 = 1 <;> simp [h]
  rw [if_neg (by omega), if_neg (by omega), if_pos trivial, hd]

theorem read_nan (b : Nat) (hf : 0x7ff0000000000000 < b % 2 ^ 63) :
    ∃ t, double.read b = .nan (decide (b / 2 ^ 63 % 2 = 1)) t := by
  have hs : double.signWeight = 2 ^ 63 := rfl
  have hbi : double.binade = 2 ^ 52 := rfl
  have hi : double.infRung = 0x7ff0000000000000 := rfl
  unfold Format.read
  simp only [hs, hbi, hi]
  have hd : (b / 2 ^ 63 % 2 == 1) = decide (b / 2 ^ 63 % 2 = 1) := by
    by_cases h : b / 2 ^ 63 % 2 = 1 <;> simp [h]
  rw [if_neg (by omega), if_neg (by omega), if_neg (by omega), hd]
  exact ⟨_, rfl⟩

theorem cmp_lt {x y : Int} (h : x < y) : compare x y = .lt := by
  show compareOfLessAndEq x y = .lt
  unfold compareOfLessAndEq; rw [if_pos h]
theorem cmp_eq {x y : Int} (h : x = y) : compare x y = .eq := by
  show compareOfLessAndEq x y = .eq
  unfold compareOfLessAndEq; rw [if_neg (by omega), if_pos h]
theorem cmp_gt {x y : Int} (h : y < x) : compare x y = .gt := by
  show compareOfLessAndEq x y = .gt
  unfold compareOfLessAndEq; rw [if_neg (by omega), if_neg (by omega)]

/-- Numbers scaled by one power stand as before. -/
theorem compare_scale (x y : Int) (q : Nat) (hq : 0 < q) : compare (x * (q : Int)) (y * (q : Int)) = compare x y := by
  have hq' : (0 : Int) < q := by omega
  rcases Int.lt_trichotomy x y with h | h | h
  · rw [cmp_lt h]
    exact cmp_lt (Int.mul_lt_mul_of_pos_right h hq')
  · subst h; simp
  · rw [cmp_gt h]
    exact cmp_gt (Int.mul_lt_mul_of_pos_right h hq')

theorem signed_scale (s : Bool) (m k q : Nat) : signed s m k * ((2 ^ q : Nat) : Int) = if s then -((m * 2 ^ (k + q) : Nat) : Int) else ((m * 2 ^ (k + q) : Nat) : Int) := by
  unfold signed
  have : m <<< k * 2 ^ q = m * 2 ^ (k + q) := by rw [Nat.shiftLeft_eq, Nat.mul_assoc, ← Nat.pow_add]
  cases s
  · simp only [Bool.false_eq_true, if_false]; rw [← this]; push_cast; rfl
  · simp only [if_true]; rw [← this]; push_cast; rw [Int.neg_mul]

def smg (s : Bool) (r : Nat) : Int := if s then -(mg r : Int) else (mg r : Int)

theorem order_number {s t : Bool} {m n : Nat} {i j : Int} {r q : Nat} (hi : -1074 ≤ i) (hj : -1074 ≤ j) (hr : m * 2 ^ (i + 1074).toNat = mg r) (hq : n * 2 ^ (j + 1074).toNat = mg q) :
    (Datum.number s m i).order (Datum.number t n j) = some (compare (smg s r) (smg t q)) := by
  unfold Datum.order
  simp only
  congr 1
  have hb : (-1074 : Int) ≤ min i j := by omega
  have h1 : (i - min i j).toNat + (min i j + 1074).toNat = (i + 1074).toNat := by omega
  have h2 : (j - min i j).toNat + (min i j + 1074).toNat = (j + 1074).toNat := by omega
  rw [← compare_scale _ _ (2 ^ (min i j + 1074).toNat) (Nat.two_pow_pos _), signed_scale, signed_scale, h1, h2, hr, hq]
  rfl

theorem smg_compare (s t : Bool) (r q : Nat) : compare (smg s r) (smg t q) = compare (if s then -(r : Int) else r) (if t then -(q : Int) else q) := by
  have mono : ∀ a b : Nat, compare (mg a : Int) (mg b : Int) = compare (a : Int) (b : Int) := by
    intro a b
    rcases Nat.lt_trichotomy a b with h | h | h
    · rw [cmp_lt (show (a : Int) < b by omega)]
      exact cmp_lt (by have := mg_lt h; omega)
    · subst h; simp
    · rw [cmp_gt (show (b : Int) < a by omega)]
      exact cmp_gt (by have := mg_lt h; omega)
  have z : mg 0 = 0 := rfl
  have pos : ∀ a : Nat, a ≠ 0 → 0 < mg a := fun a h => by have := mg_lt (show 0 < a by omega); omega
  have dich : ∀ (x y x' y' : Int), (x < y ↔ x' < y') → (x = y ↔ x' = y') → compare x y = compare x' y' := by
    intro x y x' y' h1 h2
    rcases Int.lt_trichotomy x' y' with h | h | h
    · rw [cmp_lt h, cmp_lt (h1.2 h)]
    · rw [cmp_eq h, cmp_eq (h2.2 h)]
    · rw [cmp_gt h]
      refine cmp_gt ?_
      have a : ¬ x < y := fun c => by have := h1.1 c; omega
      have b : ¬ x = y := fun c => by have := h2.1 c; omega
      omega
  have hlt : ∀ a b : Nat, mg a < mg b ↔ a < b := fun a b => mg_lt_iff
  have heq : ∀ a b : Nat, mg a = mg b ↔ a = b := fun a b => ⟨mg_inj, fun h => by rw [h]⟩
  have h1 := hlt r q; have h2 := hlt q r; have h3 := heq r q; have h0r := hlt 0 r; have h0q := hlt 0 q
  rw [z] at h0r h0q
  unfold smg
  cases s <;> cases t <;> simp only [Bool.false_eq_true, if_false, if_true]
  · exact mono r q
  · refine dich _ _ _ _ ?_ ?_ <;> constructor <;> intro h <;> omega
  · refine dich _ _ _ _ ?_ ?_ <;> constructor <;> intro h <;> omega
  · refine dich _ _ _ _ ?_ ?_ <;> constructor <;> intro h <;> omega

/-- THE ORDER OF TWO WORDS: none where one is a NaN; else that of their places. -/
theorem order_words (x y : Nat) :
    double.order x y = if nanB x || nanB y then none else some (compare (place x) (place y)) := by
  unfold Format.order nanB
  have pl : ∀ b, place b = if decide (b / 2 ^ 63 % 2 = 1) = true then -((b % 2 ^ 63 : Nat) : Int) else ((b % 2 ^ 63 : Nat) : Int) := by
    intro b; unfold place; by_cases h : b / 2 ^ 63 % 2 = 1 <;> simp [h]
  by_cases nx : 0x7ff0000000000000 < x % 2 ^ 63
  · obtain ⟨t, e⟩ := read_nan x nx
    rw [e]; simp [nx, Datum.order]
  · by_cases ny : 0x7ff0000000000000 < y % 2 ^ 63
    · obtain ⟨t, e⟩ := read_nan y ny
      rw [e]; simp [ny]
      cases double.read x <;> rfl
    · have nx' : decide (0x7ff0000000000000 < x % 2 ^ 63) = false := decide_eq_false nx
      have ny' : decide (0x7ff0000000000000 < y % 2 ^ 63) = false := decide_eq_false ny
      rw [nx', ny']
      simp only [Bool.or_self, Bool.false_eq_true, if_false]
      rw [pl x, pl y]
      by_cases ix : x % 2 ^ 63 = 0x7ff0000000000000
      · rw [read_inf x ix]
        by_cases iy : y % 2 ^ 63 = 0x7ff0000000000000
        · rw [read_inf y iy, ix, iy]
          cases decide (x / 2 ^ 63 % 2 = 1) <;> cases decide (y / 2 ^ 63 % 2 = 1) <;> rfl
        · obtain ⟨m, p, e, -, -⟩ := read_fin y (by omega)
          rw [e, ix]
          generalize decide (y / 2 ^ 63 % 2 = 1) = t
          have hy2 : y % 2 ^ 63 < 0x7ff0000000000000 := by omega
          cases decide (x / 2 ^ 63 % 2 = 1)
          · simp only [Datum.order, Bool.false_eq_true, if_false]
            congr 1; symm; refine cmp_gt ?_
            (cases t <;> simp) <;> omega
          · simp only [Datum.order, if_true]
            congr 1; symm; refine cmp_lt ?_
            (cases t <;> simp) <;> omega
      · obtain ⟨m, p, e, hp, hm⟩ := read_fin x (by omega)
        by_cases iy : y % 2 ^ 63 = 0x7ff0000000000000
        · rw [e, read_inf y iy, iy]
          generalize decide (x / 2 ^ 63 % 2 = 1) = t
          have hx2 : x % 2 ^ 63 < 0x7ff0000000000000 := by omega
          cases decide (y / 2 ^ 63 % 2 = 1)
          · simp only [Datum.order, Bool.false_eq_true, if_false]
            congr 1; symm; refine cmp_lt ?_
            (cases t <;> simp) <;> omega
          · simp only [Datum.order, if_true]
            congr 1; symm; refine cmp_gt ?_
            (cases t <;> simp) <;> omega
        · obtain ⟨n, q, e2, hq, hn⟩ := read_fin y (by omega)
          rw [e, e2, order_number hp hq hm hn, smg_compare]

/-! ### which words are whole -/

/-- One, in units of 2^-1074. -/
def low : Nat := 1074
def U : Nat := 2 ^ low
theorem U_pos : 0 < U := Nat.two_pow_pos low
theorem U_eq (a b : Nat) (h : a + b = 1074) : U = 2 ^ a * 2 ^ b := by
  have h2 : low = a + b := h.symm
  unfold U; rw [h2, Nat.pow_add]
theorem pow52 (a b : Nat) (h : a + b = 52) : (2 : Nat) ^ 52 = 2 ^ a * 2 ^ b := by
  rw [← h, Nat.pow_add]

/-- A word's kind: NaN, infinite, zero, whole, other. -/
def kindN (b : Nat) : Int :=
  if b / 2 ^ 52 % 2048 = 2047 then (if b % 2 ^ 52 = 0 then 1 else 0)
  else if b / 2 ^ 52 % 2048 = 0 ∧ b % 2 ^ 52 = 0 then 2
  else if 1023 ≤ b / 2 ^ 52 % 2048 ∧ b / 2 ^ 52 % 2048 ≤ 1075 ∧ b % 2 ^ 52 % 2 ^ (1075 - b / 2 ^ 52 % 2048) = 0 then 3 else 4

/-- The size of a whole one. -/
def wv (b : Nat) : Nat := if b % 2 ^ 63 = 0 then 0 else (2 ^ 52 + b % 2 ^ 52) / 2 ^ (1075 - b / 2 ^ 52 % 2048)

/-- A whole one's number. -/
def wholeI (b : Nat) : Int := if b / 2 ^ 63 % 2 = 1 then -(wv b : Int) else (wv b : Int)

theorem mod63 (b : Nat) : b % 2 ^ 63 = b / 2 ^ 52 % 2048 * 2 ^ 52 + b % 2 ^ 52 := by omega

theorem cut_zero (s : Bool) (n d : Nat) : Toward.zero.cut s n d = n / 2 ^ d := by
  unfold Toward.cut
  simp only [Bool.toNat_false, Nat.add_zero, Nat.one_shiftLeft]
  by_cases h : d ≤ n.log2 + 2
  · rw [Nat.min_eq_left h]
  · have h' : n.log2 + 2 ≤ d := by omega
    rw [Nat.min_eq_right h']
    have l0 : n < 2 ^ (n.log2 + 1) := Nat.lt_log2_self
    have l1 : n < 2 ^ (n.log2 + 2) := Nat.lt_of_lt_of_le l0 (Nat.pow_le_pow_right (by omega) (by omega))
    have l2 : n < 2 ^ d := Nat.lt_of_lt_of_le l1 (Nat.pow_le_pow_right (by omega) h')
    rw [Nat.div_eq_of_lt l1, Nat.div_eq_of_lt l2]

theorem cut_part (m : Nat) (p : Int) (hp : -1074 ≤ p) : m * 2 ^ p.toNat / 2 ^ (-p).toNat = m * 2 ^ (p + 1074).toNat / U := by
  by_cases h : 0 ≤ p
  · have e1 : (-p).toNat = 0 := by omega
    have e2 : (p + 1074).toNat = p.toNat + low := by show _ = p.toNat + 1074; omega
    have e3 : m * 2 ^ (p.toNat + low) = m * 2 ^ p.toNat * U := by unfold U; rw [Nat.pow_add, ← Nat.mul_assoc]
    rw [e1, e2, e3, Nat.mul_div_cancel _ U_pos, Nat.pow_zero, Nat.div_one]
  · have e1 : p.toNat = 0 := by omega
    have e2 : 1074 = (p + 1074).toNat + (-p).toNat := by omega
    rw [e1, Nat.pow_zero, Nat.mul_one]
    have e3 := U_eq (p + 1074).toNat (-p).toNat e2.symm
    rw [e3, Nat.mul_comm m, Nat.mul_div_mul_left _ _ (Nat.two_pow_pos _)]

/-- A finite word cut to a whole number. -/
theorem integral_word (b : Nat) (hf : b % 2 ^ 63 < 0x7ff0000000000000) :
    (double.read b).integral .zero = .number (decide (b / 2 ^ 63 % 2 = 1)) (mg (b % 2 ^ 63) / U) 0 := by
  obtain ⟨m, p, e, hp, hm⟩ := read_fin b hf
  rw [e]
  unfold Datum.integral
  simp only
  rw [cut_zero, Nat.shiftLeft_eq, cut_part m p hp, hm]

/-- A whole number below 2^53 has a word of its own. -/
theorem nearest_whole (s : Bool) (k : Nat) (hk : k < 2 ^ 53) : ∃ r, r < 0x7ff0000000000000 ∧ double.nearest s k 0 = double.word s r ∧ mg r = k * U := by
  unfold Format.nearest
  by_cases h0 : k = 0
  · subst h0
    exact ⟨0, by omega, by rw [if_pos rfl], by simp [mg]⟩
  · rw [if_neg h0]
    have hL : k.log2 ≤ 52 := by
      have := (Nat.log2_lt h0 (k := 53)).2 hk
      omega
    have hl : double.leastPlace = -1074 := rfl
    have hf : (double.fractionBits : Int) = 52 := rfl
    have hb : double.binade = 2 ^ 52 := rfl
    have hi : double.infRung = 0x7ff0000000000000 := rfl
    have hlast : max ((0 : Int) + (k.log2 : Int) - (double.fractionBits : Int)) double.leastPlace = (k.log2 : Int) - 52 := by rw [hl, hf]; omega
    simp only [hlast]
    have e1 : ((0 : Int) - ((k.log2 : Int) - 52)).toNat = 52 - k.log2 := by omega
    have e2 : ((k.log2 : Int) - 52 - 0).toNat = 0 := by omega
    have e3 : ((k.log2 : Int) - 52 - double.leastPlace).toNat = k.log2 + 1022 := by rw [hl]; omega
    rw [e1, e2, e3, hb, hi]
    have e4 : ∀ n : Nat, Toward.even.cut s n 0 = n := by
      intro n
      unfold Toward.cut
      simp only [Nat.zero_min, Nat.shiftLeft_zero, Nat.div_one, Nat.mod_one]
      rfl
    rw [e4, Nat.shiftLeft_eq]
    have b1 : 2 ^ k.log2 ≤ k := Nat.log2_self_le h0
    have b2 : k < 2 ^ (k.log2 + 1) := Nat.lt_log2_self
    have c1 : 2 ^ 52 ≤ k * 2 ^ (52 - k.log2) := by
      have : 2 ^ k.log2 * 2 ^ (52 - k.log2) = 2 ^ 52 := by rw [← Nat.pow_add]; congr 1; omega
      rw [← this]; exact Nat.mul_le_mul_right _ b1
    have c2 : k * 2 ^ (52 - k.log2) < 2 ^ 53 := by
      have : 2 ^ (k.log2 + 1) * 2 ^ (52 - k.log2) = 2 ^ 53 := by rw [← Nat.pow_add]; congr 1; omega
      rw [← this]; exact Nat.mul_lt_mul_of_pos_right b2 (Nat.two_pow_pos _)
    have c3 : k * 2 ^ (52 - k.log2) * 2 ^ (k.log2 + 1022) = k * U := by
      rw [Nat.mul_assoc, ← U_eq _ _ (by omega)]
    generalize k * 2 ^ (52 - k.log2) = q at *
    generalize k.log2 = L at *
    refine ⟨(L + 1022) * 2 ^ 52 + q, by omega, by rw [Nat.min_eq_left (by omega)], ?_⟩
    unfold mg
    rw [if_neg (by omega)]
    have d1 : ((L + 1022) * 2 ^ 52 + q) % 2 ^ 52 = q - 2 ^ 52 := by omega
    have d2 : ((L + 1022) * 2 ^ 52 + q) / 2 ^ 52 - 1 = L + 1022 := by omega
    rw [d1, d2, ← c3, show 2 ^ 52 + (q - 2 ^ 52) = q by omega]

theorem word_place (s : Bool) (r : Nat) (hr : r < 2 ^ 63) : place (double.word s r) = (if s then -(r : Int) else (r : Int)) ∧ double.word s r % 2 ^ 63 = r := by
  have hs : double.signWeight = 2 ^ 63 := rfl
  unfold Format.word place
  rw [hs]
  cases s
  · simp only [Bool.false_eq_true, if_false]
    have e1 : r / 2 ^ 63 % 2 = 0 := by omega
    have e2 : r % 2 ^ 63 = r := by omega
    rw [e1, e2]; simp
  · simp only [if_true]
    have e1 : (2 ^ 63 + r) / 2 ^ 63 % 2 = 1 := by omega
    have e2 : (2 ^ 63 + r) % 2 ^ 63 = r := by omega
    rw [e1, e2]; simp

theorem place_sign (b : Nat) : place b = if decide (b / 2 ^ 63 % 2 = 1) = true then -((b % 2 ^ 63 : Nat) : Int) else ((b % 2 ^ 63 : Nat) : Int) := by
  unfold place; by_cases h : b / 2 ^ 63 % 2 = 1 <;> simp [h]

theorem mg_top (E : Nat) (hE : E = 1075) : mg (E * 2 ^ 52 + (2 ^ 52 - 1)) = (2 ^ 53 - 1) * U := by
  unfold mg
  rw [if_neg (by omega)]
  have d1 : (E * 2 ^ 52 + (2 ^ 52 - 1)) / 2 ^ 52 - 1 = E - 1 := by omega
  have d2 : 2 ^ 52 + (E * 2 ^ 52 + (2 ^ 52 - 1)) % 2 ^ 52 = 2 ^ 53 - 1 := by omega
  have d3 := U_eq 0 (E - 1) (by omega)
  rw [Nat.pow_zero, Nat.one_mul] at d3
  rw [d1, d2, d3]

theorem mg_one (E : Nat) (hE : E = 1023) : mg (E * 2 ^ 52) = U := by
  unfold mg
  rw [if_neg (by omega)]
  have d1 : E * 2 ^ 52 / 2 ^ 52 - 1 = E - 1 := by omega
  have d2 : E * 2 ^ 52 % 2 ^ 52 = 0 := by omega
  rw [d1, d2, Nat.add_zero, U_eq 52 (E - 1) (by omega)]

theorem mg_small (r : Nat) (hr : r ≤ 4845873199050653695) : mg r / U < 2 ^ 53 := by
  have h1 : mg r ≤ mg 4845873199050653695 := by
    by_cases h : r = 4845873199050653695
    · rw [h]; exact Nat.le_refl _
    · exact Nat.le_of_lt (mg_lt (by omega))
  have h2 : mg 4845873199050653695 = (2 ^ 53 - 1) * U := mg_top 1075 rfl
  have h3 : mg r / U ≤ (2 ^ 53 - 1) * U / U := Nat.div_le_div_right (by rw [← h2]; exact h1)
  rw [Nat.mul_div_cancel _ U_pos] at h3
  omega

/-- THE WHOLE PART OF A WORD OF MODEST SIZE IS THE WORD ITSELF just where 2^1074 divides its magnitude. -/
theorem trunc_same (b : Nat) (hr : b % 2 ^ 63 ≤ 4845873199050653695) :
    (double.order (double.write ((double.read b).integral .zero)) b == some .eq) = decide (mg (b % 2 ^ 63) % U = 0) := by
  rw [integral_word b (by omega)]
  show (double.order (double.nearest _ _ 0) b == some .eq) = _
  obtain ⟨r, hr1, hr2, hr3⟩ := nearest_whole (decide (b / 2 ^ 63 % 2 = 1)) (mg (b % 2 ^ 63) / U) (mg_small _ hr)
  rw [hr2, order_words]
  obtain ⟨hp, hm⟩ := word_place (decide (b / 2 ^ 63 % 2 = 1)) r (by omega)
  have n1 : nanB (double.word (decide (b / 2 ^ 63 % 2 = 1)) r) = false := by unfold nanB; rw [hm]; exact decide_eq_false (by omega)
  have n2 : nanB b = false := by unfold nanB; exact decide_eq_false (by omega)
  rw [n1, n2, hp, place_sign b]
  simp only [Bool.or_self, Bool.false_eq_true, if_false]
  have key : r = b % 2 ^ 63 ↔ mg (b % 2 ^ 63) % U = 0 := by
    have hd := Nat.div_add_mod (mg (b % 2 ^ 63)) (U)
    constructor
    · intro e; subst e
      have := Nat.mul_mod_left (mg (b % 2 ^ 63) / U) (U)
      rw [hr3]; exact this
    · intro e
      refine mg_inj ?_
      rw [hr3]; rw [e] at hd; rw [Nat.mul_comm]; exact hd
  by_cases h : mg (b % 2 ^ 63) % U = 0
  · have e := key.2 h
    rw [decide_eq_true h, e, cmp_eq rfl]; rfl
  · have e : r ≠ b % 2 ^ 63 := fun c => h (key.1 c)
    rw [decide_eq_false h]
    cases decide (b / 2 ^ 63 % 2 = 1)
    · simp only [Bool.false_eq_true, if_false]
      by_cases l : (r : Int) < ((b % 2 ^ 63 : Nat) : Int)
      · rw [cmp_lt l]; rfl
      · rw [cmp_gt (by omega)]; rfl
    · simp only [if_true]
      by_cases l : -(r : Int) < -((b % 2 ^ 63 : Nat) : Int)
      · rw [cmp_lt l]; rfl
      · rw [cmp_gt (by omega)]; rfl

/-- Just where a word is whole, in the document's way. -/
theorem whole_iff (b : Nat) (hr : b % 2 ^ 63 ≤ 4845873199050653695) (h0 : b % 2 ^ 63 ≠ 0) :
    (mg (b % 2 ^ 63) % U = 0) ↔ (1023 ≤ b / 2 ^ 52 % 2048 ∧ b % 2 ^ 52 % 2 ^ (1075 - b / 2 ^ 52 % 2048) = 0) := by
  have h63 := mod63 b
  by_cases he : 1023 ≤ b / 2 ^ 52 % 2048
  · have hm : mg (b % 2 ^ 63) = (2 ^ 52 + b % 2 ^ 52) * 2 ^ (b / 2 ^ 52 % 2048 - 1) := by
      unfold mg; rw [if_neg (by omega)]
      have e1 : b % 2 ^ 63 % 2 ^ 52 = b % 2 ^ 52 := by omega
      have e2 : b % 2 ^ 63 / 2 ^ 52 = b / 2 ^ 52 % 2048 := by omega
      rw [e1, e2]
    have he2 : b / 2 ^ 52 % 2048 ≤ 1075 := by omega
    generalize hE : b / 2 ^ 52 % 2048 = E at *
    generalize b % 2 ^ 52 = M at *
    rw [hm]
    have e3 := U_eq (1075 - E) (E - 1) (by omega)
    rw [e3, Nat.mul_mod_mul_right]
    have hp : 0 < 2 ^ (E - 1) := Nat.two_pow_pos _
    have e4 : (2 ^ 52 + M) % 2 ^ (1075 - E) = M % 2 ^ (1075 - E) := by
      rw [pow52 (1075 - E) (52 - (1075 - E)) (by omega), Nat.mul_add_mod]
    rw [e4]
    constructor
    · intro h; exact ⟨he, by rcases Nat.mul_eq_zero.1 h with h | h <;> omega⟩
    · intro h; rw [h.2]; simp
  · constructor
    · intro h
      exfalso
      have hpos : 0 < mg (b % 2 ^ 63) := by
        have := mg_lt (show 0 < b % 2 ^ 63 by omega); have z : mg 0 = 0 := rfl; omega
      have hlt : mg (b % 2 ^ 63) < U := by
        have h1 : mg (1023 * 2 ^ 52) = U := mg_one 1023 rfl
        rw [← h1]; exact mg_lt (by omega)
      rw [Nat.mod_eq_of_lt hlt] at h; omega
    · intro h; exact absurd h.1 he

/-- A whole word's number, as the conversion gives it. -/
theorem toInt_whole (b : Nat) (hk : kindN b = 3 ∨ kindN b = 2) : (double.read b).toInt .zero = some (wholeI b) ∧ wv b < 2 ^ 53 := by
  have h63 := mod63 b
  have hr : b % 2 ^ 63 ≤ 4845873199050653695 := by
    unfold kindN at hk
    split at hk
    · split at hk <;> omega
    · split at hk
      · omega
      · split at hk <;> omega
  have hw : mg (b % 2 ^ 63) / U = wv b := by
    unfold wv
    by_cases h0 : b % 2 ^ 63 = 0
    · rw [if_pos h0, h0]; simp [mg]
    · rw [if_neg h0]
      have he : 1023 ≤ b / 2 ^ 52 % 2048 ∧ b / 2 ^ 52 % 2048 ≤ 1075 := by
        unfold kindN at hk
        split at hk
        · split at hk <;> omega
        · split at hk
          · omega
          · split at hk <;> omega
      have hm : mg (b % 2 ^ 63) = (2 ^ 52 + b % 2 ^ 52) * 2 ^ (b / 2 ^ 52 % 2048 - 1) := by
        unfold mg; rw [if_neg (by omega)]
        have e1 : b % 2 ^ 63 % 2 ^ 52 = b % 2 ^ 52 := by omega
        have e2 : b % 2 ^ 63 / 2 ^ 52 = b / 2 ^ 52 % 2048 := by omega
        rw [e1, e2]
      rw [hm]
      generalize b / 2 ^ 52 % 2048 = E at *
      have e3 := U_eq (1075 - E) (E - 1) (by omega)
      rw [e3, Nat.mul_div_mul_right _ _ (Nat.two_pow_pos _)]
  constructor
  · unfold Datum.toInt
    rw [integral_word b (by omega)]
    simp only
    rw [hw]
    unfold signed wholeI
    by_cases h : b / 2 ^ 63 % 2 = 1 <;> simp [h]
  · rw [← hw]; exact mg_small _ hr

end Go.Proofs.YtdghnfmhcnlppaaGreatDoor.RealPure
