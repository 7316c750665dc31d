/- stolelaw18.once, walked. -/
import Derived.Test.YtepolmajebdphaaDoorFns
import Derived.Test.YtepolmajebdphaaDoorC3
namespace Go.Proofs.YtepolmajebdphaaDoor.Fns
open Go.RowKit Go.Proofs.YtepolmajebdphaaDoor.Q Go.Proofs.YtepolmajebdphaaDoor.Real Go.Proofs.YtepolmajebdphaaDoor.RealPure Go.Proofs.YtepolmajebdphaaDoor.Values Go.Proofs.YtepolmajebdphaaDoorW.PrintWords Go.Proofs.YtepolmajebdphaaDoorW.PrintLast Go.Proofs.YtepolmajebdphaaDoorW.PrintMore
set_option linter.unusedSimpArgs false
set_option linter.unusedVariables false

theorem num0_calls (i : Int) (W : World) : Calls Tryd.prog 25 #[.int .i64 i] W fun e w' => e = .returned (.int .i64 i) ∧ Drawn0 W w' := stolelaw0_Num.calls i i W rfl
theorem six {W : World} {g : Nat} {v0 v1 v2 v3 v4 v5 : Value} {e : TypeId} (h : W.heap[g]? = some (.cells #[v0, v1, v2, v3, v4, v5] e (0, 0))) : W.cell? ⟨g, 0, none⟩ = some v0 ∧ W.cell? ⟨g, 1, none⟩ = some v1 ∧ W.cell? ⟨g, 2, none⟩ = some v2 ∧ W.cell? ⟨g, 3, none⟩ = some v3 ∧ W.cell? ⟨g, 4, none⟩ = some v4 ∧ W.cell? ⟨g, 5, none⟩ = some v5 :=
  ⟨(blk_cell h 0).trans rfl, (blk_cell h 1).trans rfl, (blk_cell h 2).trans rfl, (blk_cell h 3).trans rfl, (blk_cell h 4).trans rfl, (blk_cell h 5).trans rfl⟩
def onceS (y1 y2 y3 : V) : Bool := wrap64 (wrap64 (y1.f1 + y2.f1) + y3.f1) == 1
/-- Is one of less, more, the same so? -/
def onceR (x y : V) (b : Bool) : Bool :=
  !((callR (⟨#[108, 116]⟩ : ByteArray) [x, y]).2 != 0) && (!((callR (⟨#[108, 116]⟩ : ByteArray) [y, x]).2 != 0) && (!((callR (⟨#[101, 113]⟩ : ByteArray) [x, y]).2 != 0) &&
    (((callR (⟨#[108, 116]⟩ : ByteArray) [x, y]).1.f0 == 1) && (((callR (⟨#[108, 116]⟩ : ByteArray) [y, x]).1.f0 == 1) && (((callR (⟨#[101, 113]⟩ : ByteArray) [x, y]).1.f0 == 1) && (onceS (callR (⟨#[108, 116]⟩ : ByteArray) [x, y]).1 (callR (⟨#[108, 116]⟩ : ByteArray) [y, x]).1 (callR (⟨#[101, 113]⟩ : ByteArray) [x, y]).1 && (((callR (⟨#[101, 113]⟩ : ByteArray) [x, y]).1.f1 == 1) == b)))))))
def GotN (w w' : World) (e : Ending) (R : V × Int) : Prop := ∃ A c B d, e = .returned (.tuple #[.agg #[.int .i64 R.1.f0, .int .i64 R.1.f1, .int .u64 R.1.f2, .string R.1.f3, .slice A R.1.f4.length c, .slice B R.1.f5.length d], .int .i64 R.2]) ∧ Below w.heap.size w w'
theorem got_n {w w0 w' : World} {e : Ending} {R : V × Int} (h : Got w w' e R) (hb : Below w0.heap.size w0 w) : GotN w0 w' e R := by
  obtain ⟨v4, v5, rfl, h4, h5, hbb⟩ := h
  obtain ⟨A, c, rfl⟩ := Kd.R_slice h4
  obtain ⟨B, d, rfl⟩ := Kd.R_slice h5
  exact ⟨A, c, B, d, rfl, below_step hb hbb⟩

set_option maxHeartbeats 16000000 in
set_option maxRecDepth 100000 in
theorem once_calls (x y : V) (A4 : Option Addr) (c4 : Nat) (A5 : Option Addr) (c5 : Nat) (B4 : Option Addr) (d4 : Nat) (B5 : Option Addr) (d5 : Nat) (b : Bool) (w : World) (hT : Tabs w) (hx : Rows4 w x A4 c4 A5 c5) (hy : Rows4 w y B4 d4 B5 d5) (rx : rngD 8 x) (ry : rngD 8 y) :
    Calls Tryd.prog 48 #[arg x A4 c4 A5 c5, arg y B4 d4 B5 d5, .bool b] w fun e w' => e = .returned (.bool (onceR x y b)) ∧ Below w.heap.size w w' := by
  have hu26 := Tryd.underlying26
  have G : ∀ (nm : ByteArray) (x y : V) (A4 : Option Addr) (c4 : Nat) (A5 : Option Addr) (c5 : Nat) (B4 : Option Addr) (d4 : Nat) (B5 : Option Addr) (d5 : Nat), Rows4 w x A4 c4 A5 c5 → Rows4 w y B4 d4 B5 d5 → rngD 8 x → rngD 8 y → ∀ W, Below w.heap.size w W →
      Calls Tryd.prog 42 #[.string nm, .slice (some ⟨W.heap.size, 0, none⟩) 2 2] (W.alloc (.cells #[.int .i64 x.f0, .int .i64 x.f1, .int .u64 x.f2, .string x.f3, .slice A4 x.f4.length c4, .slice A5 x.f5.length c5, .int .i64 y.f0, .int .i64 y.f1, .int .u64 y.f2, .string y.f3, .slice B4 y.f4.length d4, .slice B5 y.f5.length d5] 26)) fun e w' => GotN W w' e (callR nm [x, y]) := by
    intro nm x y A4 c4 A5 c5 B4 d4 B5 d5 hx hy rx ry W hb
    have hr := row_lit W [x, y] _ (reps2 (K_of (hx.below hb)) (K_of (hy.below hb))) (by simp)
    have hb2 : Below W.heap.size W (W.alloc (.cells #[.int .i64 x.f0, .int .i64 x.f1, .int .u64 x.f2, .string x.f3, .slice A4 x.f4.length c4, .slice A5 x.f5.length c5, .int .i64 y.f0, .int .i64 y.f1, .int .u64 y.f2, .string y.f3, .slice B4 y.f4.length d4, .slice B5 y.f5.length d5] 26)) := below_alloc (Below.refl _ _) _
    exact (Call_calls nm [x, y] _ 2 _ ⟨hT.below (below_step hb hb2), by simp, hr, fun z hz => by
      simp only [List.mem_cons, List.not_mem_nil, or_false] at hz
      rcases hz with rfl | rfl
      · exact rx
      · exact ry⟩).mono fun e w' h => got_n h hb2
  have G1 := Lib.hid (G (⟨#[108, 116]⟩ : ByteArray) x y A4 c4 A5 c5 B4 d4 B5 d5 hx hy rx ry)
  have G2 := Lib.hid (G (⟨#[108, 116]⟩ : ByteArray) y x B4 d4 B5 d5 A4 c4 A5 c5 hy hx ry rx)
  have G3 := Lib.hid (G (⟨#[101, 113]⟩ : ByteArray) x y A4 c4 A5 c5 B4 d4 B5 d5 hx hy rx ry)
  clear G hx hy rx ry hT
  unfold onceR
  generalize callR (⟨#[108, 116]⟩ : ByteArray) [x, y] = R1 at *
  generalize callR (⟨#[108, 116]⟩ : ByteArray) [y, x] = R2 at *
  generalize callR (⟨#[101, 113]⟩ : ByteArray) [x, y] = R3 at *
  obtain ⟨y1, e1⟩ := R1
  obtain ⟨y2, e2⟩ := R2
  obtain ⟨y3, e3⟩ := R3
  simp only at G1 G2 G3 ⊢
  unfold onceS
  generalize h1 : (e1 != 0) = n1
  generalize h2 : (e2 != 0) = n2
  generalize h3 : (e3 != 0) = n3
  generalize h4 : (y1.f0 == 1) = p1
  generalize h5 : (y2.f0 == 1) = p2
  generalize h6 : (y3.f0 == 1) = p3
  generalize h7 : (wrap64 (wrap64 (y1.f1 + y2.f1) + y3.f1) == 1) = sm
  generalize h8 : (y3.f1 == 1) = q
  have D : n1 = true ∨ (n1 = false ∧ n2 = true) ∨ (n1 = false ∧ n2 = false ∧ n3 = true) ∨ (n1 = false ∧ n2 = false ∧ n3 = false ∧ p1 = false) ∨ (n1 = false ∧ n2 = false ∧ n3 = false ∧ p1 = true ∧ p2 = false) ∨
      (n1 = false ∧ n2 = false ∧ n3 = false ∧ p1 = true ∧ p2 = true ∧ p3 = false) ∨ (n1 = false ∧ n2 = false ∧ n3 = false ∧ p1 = true ∧ p2 = true ∧ p3 = true ∧ sm = false) ∨ (n1 = false ∧ n2 = false ∧ n3 = false ∧ p1 = true ∧ p2 = true ∧ p3 = true ∧ sm = true) := by
    cases n1 <;> cases n2 <;> cases n3 <;> cases p1 <;> cases p2 <;> cases p3 <;> cases sm <;> simp
  rcases D with rfl | ⟨rfl, rfl⟩ | ⟨rfl, rfl, rfl⟩ | ⟨rfl, rfl, rfl, rfl⟩ | ⟨rfl, rfl, rfl, rfl, rfl⟩ | ⟨rfl, rfl, rfl, rfl, rfl, rfl⟩ | ⟨rfl, rfl, rfl, rfl, rfl, rfl, rfl⟩ | ⟨rfl, rfl, rfl, rfl, rfl, rfl, rfl⟩
  all_goals
    go_enter Tryd.func48, Tryd.ntmps48
    go_wp2_with (first | ((with_reducible refine gate_dst (N := 3) rfl ?_); (try (refine gate_guard (by rfl) ?_; dsimp only)); refine box_event ?hg (N := 3) ?hd (cs := #[.int .i64 x.f0, .int .i64 x.f1, .int .u64 x.f2, .string x.f3, .slice A4 x.f4.length c4, .slice A5 x.f5.length c5]) (t := 26) ?hr ?_; (case hd => rfl); (case hg => rfl); (case hr => first | (go_simp; done) | (go_simp; rfl)); intro gb hg wb hbox hb; have BX := Lib.hid hbox; have HB1 := Lib.hid hb; clear hb hbox hg) | ((with_reducible refine gate_dst (N := 4) rfl ?_); (try (refine gate_guard (by rfl) ?_; dsimp only)); refine box_event ?hg (N := 4) ?hd (cs := #[.int .i64 y.f0, .int .i64 y.f1, .int .u64 y.f2, .string y.f3, .slice B4 y.f4.length d4, .slice B5 y.f5.length d5]) (t := 26) ?hr ?_; (case hd => rfl); (case hg => rfl); (case hr => first | (go_simp; done) | (go_simp; rfl)); intro gc hg wc hbox hb; have BX1 := Lib.hid (blk_below BX.out hb); have BY1 := Lib.hid hbox; have HB2 := Lib.hid (below_step HB1.out hb); obtain ⟨x0, x1, x2, x3, x4, x5⟩ := At.of_box BX1.out; obtain ⟨z0, z1, z2, z3, z4, z5⟩ := At.of_box BY1.out; clear hb hbox hg) | (go_at_call 42; (with_reducible refine (G1.out _ HB2.out).mono ?_); rintro e w11 ⟨E1, e1a, F1, f1a, rfl, hbb⟩; have HB3a := Lib.hid (below_step HB2.out hbb); have BX3 := Lib.hid (blk_below BX1.out hbb); have BY3 := Lib.hid (blk_below BY1.out hbb); have BN3 := Lib.hid (blk_new w11 zeros); clear hbb) | ((with_reducible refine gate_store (t := 26) (p := 7) rfl ?_); refine row_event (by rfl) (by rfl) (by rfl) (by rfl) (by rfl) BN3.out (by exact size26) (by rfl) (by first | rfl | simp [Value.oneCell']) ?_; intro w12 hz ho hb; have hbq := hb (w0 := w11) (Nat.le_refl _) (below_alloc (Below.refl _ _) _); have HB3 := Lib.hid (below_step HB3a.out hbq); have BX3b := Lib.hid (blk_below BX3.out hbq); have BY3b := Lib.hid (blk_below BY3.out hbq); have Z1 := Lib.hid hz; clear x0 x1 x2 x3 x4 x5 z0 z1 z2 z3 z4 z5; obtain ⟨x0, x1, x2, x3, x4, x5⟩ := At.of_box BX3b.out; obtain ⟨z0, z1, z2, z3, z4, z5⟩ := At.of_box BY3b.out; clear hz ho hb hbq) | (go_at_call 42; (with_reducible refine (G2.out _ HB3.out).mono ?_); rintro e w21 ⟨E2, e2a, F2, f2a, rfl, hbb⟩; have HB4a := Lib.hid (below_step HB3.out hbb); have BX4 := Lib.hid (blk_below BX3b.out hbb); have BY4 := Lib.hid (blk_below BY3b.out hbb); have BN4 := Lib.hid (blk_new w21 zeros); have Z1b := Lib.hid (blk_below Z1.out hbb); clear hbb) | ((with_reducible refine gate_store (t := 26) (p := 9) rfl ?_); refine row_event (by rfl) (by rfl) (by rfl) (by rfl) (by rfl) BN4.out (by exact size26) (by rfl) (by first | rfl | simp [Value.oneCell']) ?_; intro w22 hz ho hb; have hbq := hb (w0 := w21) (Nat.le_refl _) (below_alloc (Below.refl _ _) _); have HB4 := Lib.hid (below_step HB4a.out hbq); have BX4b := Lib.hid (blk_below BX4.out hbq); have BY4b := Lib.hid (blk_below BY4.out hbq); have Z2 := Lib.hid hz; have Z1c := Lib.hid (blk_below Z1b.out hbq); clear x0 x1 x2 x3 x4 x5 z0 z1 z2 z3 z4 z5; obtain ⟨x0, x1, x2, x3, x4, x5⟩ := At.of_box BX4b.out; obtain ⟨z0, z1, z2, z3, z4, z5⟩ := At.of_box BY4b.out; clear hz ho hb hbq) | (go_at_call 42; (with_reducible refine (G3.out _ HB4.out).mono ?_); rintro e w31 ⟨E3, e3a, F3, f3a, rfl, hbb⟩; have HB5a := Lib.hid (below_step HB4.out hbb); have BX5 := Lib.hid (blk_below BX4b.out hbb); have BY5 := Lib.hid (blk_below BY4b.out hbb); have BN5 := Lib.hid (blk_new w31 zeros); have Z1d := Lib.hid (blk_below Z1c.out hbb); have Z2d := Lib.hid (blk_below Z2.out hbb); clear hbb) | ((with_reducible refine gate_store (t := 26) (p := 11) rfl ?_); refine row_event (by rfl) (by rfl) (by rfl) (by rfl) (by rfl) BN5.out (by exact size26) (by rfl) (by first | rfl | simp [Value.oneCell']) ?_; intro w32 hz ho hb; have hbq := hb (w0 := w31) (Nat.le_refl _) (below_alloc (Below.refl _ _) _); have HB5 := Lib.hid (below_step HB5a.out hbq); have BX5b := Lib.hid (blk_below BX5.out hbq); have BY5b := Lib.hid (blk_below BY5.out hbq); have Z3 := Lib.hid hz; have Z1e := Lib.hid (blk_below Z1d.out hbq); have Z2e := Lib.hid (blk_below Z2d.out hbq); clear x0 x1 x2 x3 x4 x5 z0 z1 z2 z3 z4 z5; obtain ⟨x0, x1, x2, x3, x4, x5⟩ := six Z1e.out; obtain ⟨z0, z1, z2, z3, z4, z5⟩ := six Z2e.out; obtain ⟨u0, u1, u2, u3, u4, u5⟩ := six Z3.out; clear hz ho hb hbq) | (go_at_call 25; (with_reducible refine (num0_calls _ _).mono ?_); rintro e w' ⟨rfl, ⟨nd, rfl⟩⟩))
    go_ret
    exact ⟨by simp, by first | exact HB5.out | exact pw_below_drewN HB5.out _⟩
def stolelaw18_once.f (a0_0 : Int) (a0_1 : Int) (a0_2 : Int) (a0_3 : ByteArray) (l0_4 : List S26) (l0_5 : List ByteArray) (a1_0 : Int) (a1_1 : Int) (a1_2 : Int) (a1_3 : ByteArray) (l1_4 : List S26) (l1_5 : List ByteArray) (a2 : Bool) : Option Bool :=
  if rngB 8 (⟨a0_0, a0_1, a0_2, a0_3, l0_4, l0_5⟩ : V) = true ∧ rngB 8 (⟨a1_0, a1_1, a1_2, a1_3, l1_4, l1_5⟩ : V) = true then some (onceR ⟨a0_0, a0_1, a0_2, a0_3, l0_4, l0_5⟩ ⟨a1_0, a1_1, a1_2, a1_3, l1_4, l1_5⟩ a2) else none
theorem stolelaw18_once.calls (a0_0 : Int) (a0_1 : Int) (a0_2 : Int) (a0_3 : ByteArray) (A0_4 : Option Addr) (c0_4 : Nat) (l0_4 : List S26) (A0_5 : Option Addr) (c0_5 : Nat) (l0_5 : List ByteArray) (a1_0 : Int) (a1_1 : Int) (a1_2 : Int) (a1_3 : ByteArray) (A1_4 : Option Addr) (c1_4 : Nat) (l1_4 : List S26) (A1_5 : Option Addr) (c1_5 : Nat) (l1_5 : List ByteArray) (a2 : Bool) (r : Bool) (w : World) (hT : Tabs w) (hr0_4 : Kd.C k26 w A0_4 l0_4.length l0_4) (hc0_4 : l0_4.length ≤ c0_4) (hr0_5 : Kd.C Kd.string w A0_5 l0_5.length l0_5) (hc0_5 : l0_5.length ≤ c0_5) (hr1_4 : Kd.C k26 w A1_4 l1_4.length l1_4) (hc1_4 : l1_4.length ≤ c1_4) (hr1_5 : Kd.C Kd.string w A1_5 l1_5.length l1_5) (hc1_5 : l1_5.length ≤ c1_5) (h : stolelaw18_once.f a0_0 a0_1 a0_2 a0_3 l0_4 l0_5 a1_0 a1_1 a1_2 a1_3 l1_4 l1_5 a2 = some r) :
    Calls Tryd.prog 48 #[.agg #[.int .i64 a0_0, .int .i64 a0_1, .int .u64 a0_2, .string a0_3, .slice A0_4 l0_4.length c0_4, .slice A0_5 l0_5.length c0_5], .agg #[.int .i64 a1_0, .int .i64 a1_1, .int .u64 a1_2, .string a1_3, .slice A1_4 l1_4.length c1_4, .slice A1_5 l1_5.length c1_5], .bool a2] w fun e w' => e = .returned (.bool r) ∧ Below w.heap.size w w' := by
  unfold stolelaw18_once.f at h
  split at h
  · rename_i hb
    cases h
    exact once_calls (⟨a0_0, a0_1, a0_2, a0_3, l0_4, l0_5⟩ : V) (⟨a1_0, a1_1, a1_2, a1_3, l1_4, l1_5⟩ : V) A0_4 c0_4 A0_5 c0_5 A1_4 c1_4 A1_5 c1_5 a2 w hT ⟨hr0_4, hc0_4, hr0_5, hc0_5⟩ ⟨hr1_4, hc1_4, hr1_5, hc1_5⟩ (rng_of _ _ hb.1) (rng_of _ _ hb.2)
  · cases h
end Go.Proofs.YtepolmajebdphaaDoor.Fns
