/- Package value, walked: Get, where a leaf is got. · Package value's contracts in the form of the kit's print. -/
import Derived.Test.YtdghnfmhcnlppaaGreatDoorValuesR
import Derived.Test.YtdghnfmhcnlppaaGreatDoorValuesK
namespace Go.Proofs.YtdghnfmhcnlppaaGreatDoor.Values
open Go.RowKit Go.Proofs.YtdghnfmhcnlppaaGreatDoor.Q Go.Proofs.YtdghnfmhcnlppaaGreatDoor.Real Go.Proofs.YtdghnfmhcnlppaaGreatDoor.RealPure Go.Proofs.YtdghnfmhcnlppaaGreatDoorW.PrintWords Go.Proofs.YtdghnfmhcnlppaaGreatDoorW.PrintLast Go.Proofs.YtdghnfmhcnlppaaGreatDoorW.PrintMore
set_option linter.unusedSimpArgs false
set_option linter.unusedVariables false

theorem Rows4.drew {w : World} {x : V} {A4 : Option Addr} {c4 : Nat} {A5 : Option Addr} {c5 : Nat} (h : Rows4 w x A4 c4 A5 c5) (m : Nat) : Rows4 (w.drewN m) x A4 c4 A5 c5 := h.below (pw_below_drewN (Below.refl _ _) m)

theorem all_six (a b c : Int) (s : ByteArray) (v4 v5 : Value) (h4 : v4.oneCell' = true) (h5 : v5.oneCell' = true) : (#[Value.int .i64 a, .int .i64 b, .int .u64 c, .string s, v4, v5] : Array Value).all (·.oneCell') = true := by
  rw [Array.all_eq_true_iff_forall_mem]
  intro v hv
  simp only [List.mem_toArray, List.mem_cons, List.not_mem_nil, or_false] at hv
  rcases hv with rfl | rfl | rfl | rfl | rfl | rfl <;> first | rfl | assumption
theorem R_one {α : Type} {d : Kd α} {e : Nat} {w : World} {base : Nat} {ok : Nat → Prop} {v : Value} {xs : List α} (h : d.R e w base ok v xs) : v.oneCell' = true := by
  obtain ⟨_, inner, ho, _⟩ := h
  rcases ho.2 with ⟨rfl, _⟩ | ⟨g, cap, cur, rfl, _⟩ <;> rfl
end Go.Proofs.YtdghnfmhcnlppaaGreatDoor.Values
namespace Go.Proofs.YtdghnfmhcnlppaaGreatDoor.Values
open Go.RowKit Go.Proofs.YtdghnfmhcnlppaaGreatDoor.Q Go.Proofs.YtdghnfmhcnlppaaGreatDoor.Real Go.Proofs.YtdghnfmhcnlppaaGreatDoor.RealPure Go.Proofs.YtdghnfmhcnlppaaGreatDoorW.PrintWords Go.Proofs.YtdghnfmhcnlppaaGreatDoorW.PrintLast Go.Proofs.YtdghnfmhcnlppaaGreatDoorW.PrintMore
set_option linter.unusedSimpArgs false
set_option linter.unusedVariables false

def value_May.f (a0_0 : Int) (a0_1 : Int) (a0_2 : Int) (a0_3 : ByteArray) (l0_4 : List S27) (l0_5 : List ByteArray) : Option Bool := some (mayB (⟨a0_0, a0_1, a0_2, a0_3, l0_4, l0_5⟩ : V))
theorem value_May.calls (a0_0 : Int) (a0_1 : Int) (a0_2 : Int) (a0_3 : ByteArray) (A0_4 : Option Addr) (c0_4 : Nat) (l0_4 : List S27) (A0_5 : Option Addr) (c0_5 : Nat) (l0_5 : List ByteArray) (r : Bool) (w : World) (hr0_4 : Kd.C k27 w A0_4 l0_4.length l0_4) (hc0_4 : l0_4.length ≤ c0_4) (hr0_5 : Kd.C Kd.string w A0_5 l0_5.length l0_5) (hc0_5 : l0_5.length ≤ c0_5) (h : value_May.f a0_0 a0_1 a0_2 a0_3 l0_4 l0_5 = some r) :
    Calls Tryz.prog 35 #[.agg #[.int .i64 a0_0, .int .i64 a0_1, .int .u64 a0_2, .string a0_3, .slice A0_4 l0_4.length c0_4, .slice A0_5 l0_5.length c0_5]] w fun e w' => e = .returned (.bool r) ∧ Below w.heap.size w w' := by
  unfold value_May.f at h
  cases h
  exact May_calls (⟨a0_0, a0_1, a0_2, a0_3, l0_4, l0_5⟩ : V) A0_4 c0_4 A0_5 c0_5 w ⟨hr0_4, hc0_4, hr0_5, hc0_5⟩

def value_True.f (a0_0 : Int) (a0_1 : Int) (a0_2 : Int) (a0_3 : ByteArray) (l0_4 : List S27) (l0_5 : List ByteArray) : Option Bool := if 0 ≤ a0_2 ∧ a0_2 < 2 ^ 64 then some (mayB (⟨a0_0, a0_1, a0_2, a0_3, l0_4, l0_5⟩ : V) && truthB (⟨a0_0, a0_1, a0_2, a0_3, l0_4, l0_5⟩ : V)) else none
def value_Text.f (a0_0 : Int) (a0_1 : Int) (a0_2 : Int) (a0_3 : ByteArray) (l0_4 : List S27) (l0_5 : List ByteArray) : Option (ByteArray × Int) := if 0 ≤ a0_2 ∧ a0_2 < 2 ^ 64 then some (if mayB (⟨a0_0, a0_1, a0_2, a0_3, l0_4, l0_5⟩ : V) = true then saidS (⟨a0_0, a0_1, a0_2, a0_3, l0_4, l0_5⟩ : V) else ⟨#[]⟩, if mayB (⟨a0_0, a0_1, a0_2, a0_3, l0_4, l0_5⟩ : V) = true then saidE (⟨a0_0, a0_1, a0_2, a0_3, l0_4, l0_5⟩ : V) else 400) else none
def value_Less.f (a0_0 : Int) (a0_1 : Int) (a0_2 : Int) (a0_3 : ByteArray) (l0_4 : List S27) (l0_5 : List ByteArray) (a1_0 : Int) (a1_1 : Int) (a1_2 : Int) (a1_3 : ByteArray) (l1_4 : List S27) (l1_5 : List ByteArray) : Option (Bool × Int) := some (lessB (⟨a0_0, a0_1, a0_2, a0_3, l0_4, l0_5⟩ : V) (⟨a1_0, a1_1, a1_2, a1_3, l1_4, l1_5⟩ : V), lessE (⟨a0_0, a0_1, a0_2, a0_3, l0_4, l0_5⟩ : V) (⟨a1_0, a1_1, a1_2, a1_3, l1_4, l1_5⟩ : V))
theorem value_Less.calls (a0_0 : Int) (a0_1 : Int) (a0_2 : Int) (a0_3 : ByteArray) (A0_4 : Option Addr) (c0_4 : Nat) (l0_4 : List S27) (A0_5 : Option Addr) (c0_5 : Nat) (l0_5 : List ByteArray) (a1_0 : Int) (a1_1 : Int) (a1_2 : Int) (a1_3 : ByteArray) (A1_4 : Option Addr) (c1_4 : Nat) (l1_4 : List S27) (A1_5 : Option Addr) (c1_5 : Nat) (l1_5 : List ByteArray) (r1 : Bool) (r2 : Int) (w : World) (hr0_4 : Kd.C k27 w A0_4 l0_4.length l0_4) (hc0_4 : l0_4.length ≤ c0_4) (hr0_5 : Kd.C Kd.string w A0_5 l0_5.length l0_5) (hc0_5 : l0_5.length ≤ c0_5) (hr1_4 : Kd.C k27 w A1_4 l1_4.length l1_4) (hc1_4 : l1_4.length ≤ c1_4) (hr1_5 : Kd.C Kd.string w A1_5 l1_5.length l1_5) (hc1_5 : l1_5.length ≤ c1_5) (h : value_Less.f a0_0 a0_1 a0_2 a0_3 l0_4 l0_5 a1_0 a1_1 a1_2 a1_3 l1_4 l1_5 = some (r1, r2)) :
    Calls Tryz.prog 65 #[.agg #[.int .i64 a0_0, .int .i64 a0_1, .int .u64 a0_2, .string a0_3, .slice A0_4 l0_4.length c0_4, .slice A0_5 l0_5.length c0_5], .agg #[.int .i64 a1_0, .int .i64 a1_1, .int .u64 a1_2, .string a1_3, .slice A1_4 l1_4.length c1_4, .slice A1_5 l1_5.length c1_5]] w fun e w' => e = .returned (.tuple #[.bool r1, .int .i64 r2]) ∧ Below w.heap.size w w' := by
  unfold value_Less.f at h
  cases h
  exact Less_calls (⟨a0_0, a0_1, a0_2, a0_3, l0_4, l0_5⟩ : V) (⟨a1_0, a1_1, a1_2, a1_3, l1_4, l1_5⟩ : V) A0_4 c0_4 A0_5 c0_5 A1_4 c1_4 A1_5 c1_5 w ⟨hr0_4, hc0_4, hr0_5, hc0_5⟩ ⟨hr1_4, hc1_4, hr1_5, hc1_5⟩

def rngB : Nat → V → Bool
  | 0, _ => true
  | d + 1, x => (decide (0 ≤ x.f2) && decide (x.f2 < 2 ^ 64)) && x.f4.all (rngB d)
theorem rng_of : ∀ d x, rngB d x = true → rngD d x
  | 0, _, _ => trivial
  | d + 1, x, h => by
    unfold rngB at h
    simp only [Bool.and_eq_true, decide_eq_true_eq, List.all_eq_true] at h
    exact ⟨h.1.1, h.1.2, fun z hz => rng_of d z (h.2 z hz)⟩

def value_Same.f (a0_0 : Int) (a0_1 : Int) (a0_2 : Int) (a0_3 : ByteArray) (l0_4 : List S27) (l0_5 : List ByteArray) (a1_0 : Int) (a1_1 : Int) (a1_2 : Int) (a1_3 : ByteArray) (l1_4 : List S27) (l1_5 : List ByteArray) : Option Bool := if rngB 8 (⟨a0_0, a0_1, a0_2, a0_3, l0_4, l0_5⟩ : V) = true ∧ rngB 8 (⟨a1_0, a1_1, a1_2, a1_3, l1_4, l1_5⟩ : V) = true then some (mayB (⟨a0_0, a0_1, a0_2, a0_3, l0_4, l0_5⟩ : V) && mayB (⟨a1_0, a1_1, a1_2, a1_3, l1_4, l1_5⟩ : V) && sameD 8 (⟨a0_0, a0_1, a0_2, a0_3, l0_4, l0_5⟩ : V) (⟨a1_0, a1_1, a1_2, a1_3, l1_4, l1_5⟩ : V)) else none
theorem value_Same.calls (a0_0 : Int) (a0_1 : Int) (a0_2 : Int) (a0_3 : ByteArray) (A0_4 : Option Addr) (c0_4 : Nat) (l0_4 : List S27) (A0_5 : Option Addr) (c0_5 : Nat) (l0_5 : List ByteArray) (a1_0 : Int) (a1_1 : Int) (a1_2 : Int) (a1_3 : ByteArray) (A1_4 : Option Addr) (c1_4 : Nat) (l1_4 : List S27) (A1_5 : Option Addr) (c1_5 : Nat) (l1_5 : List ByteArray) (r : Bool) (w : World) (hr0_4 : Kd.C k27 w A0_4 l0_4.length l0_4) (hc0_4 : l0_4.length ≤ c0_4) (hr0_5 : Kd.C Kd.string w A0_5 l0_5.length l0_5) (hc0_5 : l0_5.length ≤ c0_5) (hr1_4 : Kd.C k27 w A1_4 l1_4.length l1_4) (hc1_4 : l1_4.length ≤ c1_4) (hr1_5 : Kd.C Kd.string w A1_5 l1_5.length l1_5) (hc1_5 : l1_5.length ≤ c1_5) (h : value_Same.f a0_0 a0_1 a0_2 a0_3 l0_4 l0_5 a1_0 a1_1 a1_2 a1_3 l1_4 l1_5 = some r) :
    Calls Tryz.prog 64 #[.agg #[.int .i64 a0_0, .int .i64 a0_1, .int .u64 a0_2, .string a0_3, .slice A0_4 l0_4.length c0_4, .slice A0_5 l0_5.length c0_5], .agg #[.int .i64 a1_0, .int .i64 a1_1, .int .u64 a1_2, .string a1_3, .slice A1_4 l1_4.length c1_4, .slice A1_5 l1_5.length c1_5]] w fun e w' => e = .returned (.bool r) ∧ Below w.heap.size w w' := by
  unfold value_Same.f at h
  split at h
  · rename_i hb
    cases h
    exact Same_calls (⟨a0_0, a0_1, a0_2, a0_3, l0_4, l0_5⟩ : V) (⟨a1_0, a1_1, a1_2, a1_3, l1_4, l1_5⟩ : V) A0_4 c0_4 A0_5 c0_5 A1_4 c1_4 A1_5 c1_5 w ⟨hr0_4, hc0_4, hr0_5, hc0_5⟩ ⟨hr1_4, hc1_4, hr1_5, hc1_5⟩ (rng_of _ _ hb.1) (rng_of _ _ hb.2)
  · cases h
end Go.Proofs.YtdghnfmhcnlppaaGreatDoor.Values
