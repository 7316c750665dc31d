/- Package eval: what a pipe's value is, in plain words; at, walked: it answers or it panics with the error's number. -/
import Derived.Test.YtdghnfmhcnlppaaGreatDoorFns
import Derived.Test.YtdghnfmhcnlppaaGreatDoorPipeH
import Derived.Recover
namespace Go.Proofs.YtdghnfmhcnlppaaGreatDoor.Eval
open Go.RowKit Go.Proofs.YtdghnfmhcnlppaaGreatDoor.Q Go.Proofs.YtdghnfmhcnlppaaGreatDoor.Real Go.Proofs.YtdghnfmhcnlppaaGreatDoor.RealPure Go.Proofs.YtdghnfmhcnlppaaGreatDoor.Values Go.Proofs.YtdghnfmhcnlppaaGreatDoor.Fns Go.Proofs.YtdghnfmhcnlppaaGreatDoorW.PrintWords Go.Proofs.YtdghnfmhcnlppaaGreatDoorW.PrintLast Go.Proofs.YtdghnfmhcnlppaaGreatDoorW.PrintMore
set_option linter.unusedSimpArgs false
set_option linter.unusedVariables false

abbrev Ag := S57
abbrev Cm := S50
abbrev Vr := S34
abbrev En := S30
abbrev kA : Kd Ag := k57
abbrev kC : Kd Cm := k50
abbrev kX : Kd Vr := k34

/-! ### in plain words -/
def varB (v : Vr) : Bool := Pipe.nameB v.f0 && mayB v.f1
def envB (e : En) : Bool := mayB e.f0 && decide (e.f1.length ≤ 32) && e.f1.all varB
/-- The last of the first k that has the name. -/
def lastV (vs : List Vr) (nm : ByteArray) : Nat → Option V
  | 0 => none
  | k + 1 => if ((rd_T34 vs (k : Int)).f0.toList == nm.toList) = true then some (rd_T34 vs (k : Int)).f1 else lastV vs nm k
def varR (vs : List Vr) (nm : ByteArray) (ps : List ByteArray) (k : Nat) : V × Int := match lastV vs nm k with
  | some x => atR x ps
  | none => (z27, 1901)
def argR (e : En) (a : Ag) : V × Int :=
  if a.f0 == 0 then atR e.f0 a.f2
  else if a.f0 == 1 then varR e.f1 a.f1 a.f2 e.f1.length
  else if a.f0 == 2 then (numV a.f3, 0) else if a.f0 == 3 then (textV a.f4, 0) else if a.f0 == 4 then (boolV (a.f3 == 1), 0) else (z27, 0)
def argsR (e : En) : List Ag → List V × Int
  | [] => ([], 0)
  | a :: xs => if (argR e a).2 = 0 then ((argR e a).1 :: (argsR e xs).1, (argsR e xs).2) else ([], (argR e a).2)
def cmdR (e : En) (before : List V) (c : Cm) : V × Int :=
  if (argsR e c.f1).2 = 0 then (if (c.f0.toList == ([] : List UInt8)) = true then (rd_T27 (argsR e c.f1).1 0, 0) else callR c.f0 ((argsR e c.f1).1 ++ before)) else (z27, (argsR e c.f1).2)
def reckR (e : En) : List Cm → List V → V → V × Int
  | [], _, v => (v, 0)
  | c :: cs, before, v => if (cmdR e before c).2 = 0 then reckR e cs [(cmdR e before c).1] (cmdR e before c).1 else (z27, (cmdR e before c).2)
def pipeR (p : List Cm) (e : En) : V × Int := if (Pipe.mayP p && envB e) = true then reckR e p [] z27 else (z27, 1900)

/-! ### how a function ends that answers a value or panics with an error's number -/
abbrev chain (n : Int) : List PanicEntry := [{ v := .iface 35 (.int .i64 n), recovered := false }]
/-- The answer's rows lie where they lay in an elder world. -/
def Ends (w0 w : World) (R : V × Int) (e : Ending) (w' : World) : Prop :=
  (if R.2 = 0 then ∃ B4 d4 B5 d5, e = .returned (arg R.1 B4 d4 B5 d5) ∧ Rows4 w0 R.1 B4 d4 B5 d5 else e = .panicked (chain R.2)) ∧ Below w.heap.size w w'
theorem ends_ok {w0 w w' : World} {x : V} {B4 : Option Addr} {d4 : Nat} {B5 : Option Addr} {d5 : Nat} (h : Rows4 w0 x B4 d4 B5 d5) (hb : Below w.heap.size w w') : Ends w0 w (x, 0) (.returned (arg x B4 d4 B5 d5)) w' :=
  ⟨⟨B4, d4, B5, d5, rfl, h⟩, hb⟩
theorem ends_no {w0 w w' : World} {x : V} {n : Int} (hn : n ≠ 0) (hb : Below w.heap.size w w') : Ends w0 w (x, n) (.panicked (chain n)) w' := by
  refine ⟨?_, hb⟩
  rw [if_neg hn]
set_option maxHeartbeats 8000000 in
set_option maxRecDepth 100000 in
theorem at_calls (x : V) (A4 : Option Addr) (c4 : Nat) (A5 : Option Addr) (c5 : Nat) (P : Option Addr) (cp : Nat) (ps : List ByteArray) (d : Nat) (w0 w : World) (hb0 : Below w0.heap.size w0 w) (h : Rows4 w0 x A4 c4 A5 c5) (hp : Kd.C Kd.string w0 P ps.length ps) (hpl : ps.length < 1099511627776) (hg : okG d x) :
    Calls Tryz.prog 93 #[arg x A4 c4 A5 c5, .slice P ps.length cp] w (Ends w0 w (atR x ps)) := by
  have hu27 := Tryz.underlying27
  have CA := Lib.hid (fun W (hb : Below w0.heap.size w0 W) => At2_calls x A4 c4 A5 c5 P cp ps d w0 W hb h hp hpl hg)
  obtain ⟨⟨R, n⟩, hR⟩ : ∃ R, atR x ps = R := ⟨_, rfl⟩
  rw [hR] at CA ⊢
  have HB0 := Lib.hid hb0
  clear hR h hp hpl hg hb0
  by_cases hn : n = 0
  all_goals
    go_enter Tryz.func93, Tryz.ntmps93
    go_upto_region 1 with (first | ((with_reducible refine gate_dst (N := 2) rfl ?_); (try (refine gate_guard (by rfl) ?_; dsimp only)); refine box_event ?hg (N := 2) ?hd (cs := #[.int .i64 x.f0, .int .i64 x.f1, .int .u64 x.f2, .string x.f3, .slice A4 x.f4.length c4, .slice A5 x.f5.length c5]) (t := 27) ?hr ?_; (case hd => rfl); (case hg => rfl); (case hr => first | (go_simp; done) | (go_simp; rfl)); intro gb hg w3 hbox hb; have BK := Aside0.mk hbox; have HB := Aside0.mk hb; have GE := Lib.hid hg; clear hb hbox hg))
    have A1 := Lib.hid (blk_alloc BK.out zeros)
    have A2 := Lib.hid (blk_new w3 zeros)
    have A3 := Lib.hid (below_alloc HB.out zeros)
    have GZ := Lib.hid (below_size HB.out)
    clear HB BK
    generalize w3.heap.size = gz at *
    generalize hw4 : w3.alloc zeros = w4 at *
    clear hw4
    obtain ⟨g0, g1, g2, g3, g4, g5⟩ := At.of_box A1.out
  · subst hn
    have hn1 : ((0 : Int) != 0) = false := rfl
    go_wp2_with (first | (go_at_call 111; (with_reducible refine (CA.out _ (below_step HB0.out A3.out)).mono ?_); rintro e w5 ⟨B4, d4, B5, d5, rfl, hrw, _, hb5⟩; have HRW := Lib.hid hrw; have Z5 := Lib.hid (blk_below A2.out hb5); have HB5 := Lib.hid (below_step A3.out hb5); have NE := Lib.hid (show gz ≠ w5.heap.size from Nat.ne_of_lt (blk_lt Z5.out)); have BN := Lib.hid (blk_new w5 zeros); have ZA := Lib.hid (blk_alloc Z5.out zeros); have HBA := Lib.hid (below_alloc HB5.out zeros); have LE5 := Lib.hid (below_size HB5.out); clear hb5 hrw) | ((with_reducible refine gate_store (t := 27) (p := 5) rfl ?_); refine row_event (by rfl) (by rfl) (by rfl) (by rfl) (by rfl) BN.out (by exact size27) (by rfl) (by first | rfl | simp [Value.oneCell']) ?_; intro w8 hz8 ho8 hb8; have GZ8 := Lib.hid ((ho8 _ NE.out).trans ZA.out); have HB8 := Lib.hid (hb8 LE5.out HBA.out); obtain ⟨s0, s1, s2, s3, s4, s5⟩ := At.of_box hz8; clear hb8 ho8 hz8) | ((with_reducible refine gate_store (t := 27) (p := 4) rfl ?_); refine row_event (by rfl) (by rfl) (by rfl) (by rfl) (by rfl) GZ8.out (by exact size27) (by rfl) (by first | rfl | simp [Value.oneCell']) ?_; intro w9 hz9 ho9 hb9; have Z9 := Lib.hid hz9; have HB9 := Lib.hid (hb9 GZ.out HB8.out); clear hb9 ho9 hz9))
    refine bodyPost_ret (results_cell_row rfl _ _ gz 27 _ (0, 0) _ rfl Z9.out hu27 rfl (by exact size27)) rfl ?_
    exact ends_ok HRW.out HB9.out
  · have hn1 : (n != 0) = true := bne_iff_ne.2 hn
    have HN := Lib.hid hn
    clear hn
    go_wp2_with (first | (go_at_call 111; (with_reducible refine (CA.out _ (below_step HB0.out A3.out)).mono ?_); rintro e w5 ⟨B4, d4, B5, d5, rfl, hrw, _, hb5⟩; have HRW := Lib.hid hrw; have Z5 := Lib.hid (blk_below A2.out hb5); have HB5 := Lib.hid (below_step A3.out hb5); have NE := Lib.hid (show gz ≠ w5.heap.size from Nat.ne_of_lt (blk_lt Z5.out)); have BN := Lib.hid (blk_new w5 zeros); have ZA := Lib.hid (blk_alloc Z5.out zeros); have HBA := Lib.hid (below_alloc HB5.out zeros); have LE5 := Lib.hid (below_size HB5.out); clear hb5 hrw) | ((with_reducible refine gate_store (t := 27) (p := 5) rfl ?_); refine row_event (by rfl) (by rfl) (by rfl) (by rfl) (by rfl) BN.out (by exact size27) (by rfl) (by first | rfl | simp [Value.oneCell']) ?_; intro w8 hz8 ho8 hb8; have GZ8 := Lib.hid ((ho8 _ NE.out).trans ZA.out); have HB8 := Lib.hid (hb8 LE5.out HBA.out); obtain ⟨s0, s1, s2, s3, s4, s5⟩ := At.of_box hz8; clear hb8 ho8 hz8))
    exact ⟨rfl, ends_no HN.out HB8.out⟩
end Go.Proofs.YtdghnfmhcnlppaaGreatDoor.Eval
