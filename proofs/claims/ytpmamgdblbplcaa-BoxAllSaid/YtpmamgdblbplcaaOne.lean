/- One ring, one box, one line behind begun; two boxes behind begun. -/
import Derived.Test.YtpmamgdblbplcaaBgB
namespace Go.Proofs.Ytpmamgdblbplcaa.On
open Go.RowKit Go.Proofs.Ytpmamgdblbplcaa.HeapModel
set_option linter.unusedVariables false
set_option linter.unusedSimpArgs false

theorem bel_touch {w0 w w' : World} {F : Nat → Prop} (h : Below w0.heap.size w0 w) (hF : ∀ k, F k → w0.heap.size ≤ k) (t : Hp.Touch F w w') : Below w0.heap.size w0 w' := h.trans (t.below hF h.size)
theorem bel_more {w0 w w' : World} (h : Below w0.heap.size w0 w) (t : Below w.heap.size w w') : Below w0.heap.size w0 w' := h.trans (t.mono h.size)

/-! ### a ring -/
def R1 (w0 w : World) (p cap : Nat) (s : List Int) : Prop := ∃ F, Rg.RObj w F p cap s ∧ (∀ k, F k → w0.heap.size ≤ k) ∧ Below w0.heap.size w0 w
section
variable {w0 w : World} {p cap : Nat} {s : List Int}
theorem R1.bel (h : R1 w0 w p cap s) : Below w0.heap.size w0 w := by obtain ⟨F, h1, h2, h3⟩ := h; exact h3
theorem R1.le (h : R1 w0 w p cap s) : s.length ≤ cap ∧ cap ≤ 1000 := by obtain ⟨F, h1, h2, h3⟩ := h; exact h1.le
theorem R1.below {w' : World} (h : R1 w0 w p cap s) (hb : Below w.heap.size w w') : R1 w0 w' p cap s := by
  obtain ⟨F, h1, h2, h3⟩ := h
  exact ⟨F, h1.below hb, h2, bel_more h3 hb⟩
theorem r1_new (hb : Below w0.heap.size w0 w) (room : Int) (hr : -9223372036854775808 ≤ room ∧ room ≤ 9223372036854775807) :
    Calls Try.prog 41 #[.int .i64 room] w fun e w' => ∃ p, e = .returned (.pointer (some ⟨p, 0, none⟩)) ∧ R1 w0 w' p (min (max room 0) 1000).toNat [] := by
  refine (Rg.obj_new room w hr).mono ?_
  rintro e w' ⟨F, p, rfl, h1, h2, h3⟩
  exact ⟨p, rfl, F, h1, fun k hk => Nat.le_trans hb.size (h2 k hk), bel_more hb h3⟩
theorem r1_put (h : R1 w0 w p cap s) (v : Int) (hn : s.length < cap) :
    Calls Try.prog 42 #[.pointer (some ⟨p, 0, none⟩), .int .i64 v] w fun e w' => e = .returned (.bool true) ∧ R1 w0 w' p cap (s ++ [v]) := by
  obtain ⟨F, h1, h2, h3⟩ := h
  refine (Rg.obj_put h1 v hn).mono ?_
  rintro e w' ⟨rfl, h4, h5⟩
  exact ⟨rfl, F, h4, h2, bel_touch h3 h2 h5⟩
theorem r1_full (h : R1 w0 w p cap s) (v : Int) (hn : ¬ s.length < cap) :
    Calls Try.prog 42 #[.pointer (some ⟨p, 0, none⟩), .int .i64 v] w fun e w' => e = .returned (.bool false) ∧ R1 w0 w' p cap s := by
  obtain ⟨F, h1, h2, h3⟩ := h
  refine (Rg.obj_full h1 v hn).mono ?_
  rintro e w' ⟨rfl, h4, h5⟩
  exact ⟨rfl, F, h4, h2, bel_more h3 h5⟩
theorem r1_take {v : Int} (h : R1 w0 w p cap (v :: s)) :
    Calls Try.prog 44 #[.pointer (some ⟨p, 0, none⟩)] w fun e w' => e = .returned (.tuple #[.int .i64 v, .bool true]) ∧ R1 w0 w' p cap s := by
  obtain ⟨F, h1, h2, h3⟩ := h
  refine (Rg.obj_take h1).mono ?_
  rintro e w' ⟨rfl, h4, h5⟩
  exact ⟨rfl, F, h4, h2, bel_touch h3 h2 h5⟩
theorem r1_take_no (h : R1 w0 w p cap []) :
    Calls Try.prog 44 #[.pointer (some ⟨p, 0, none⟩)] w fun e w' => e = .returned (.tuple #[.int .i64 0, .bool false]) ∧ w' = w := by
  obtain ⟨F, h1, h2, h3⟩ := h
  exact Rg.obj_take_no h1
theorem r1_at (h : R1 w0 w p cap s) (i : Nat) (hi : i < s.length) : Calls Try.prog 61 #[.pointer (some ⟨p, 0, none⟩), .int .i64 i] w fun e w' => e = .returned (.tuple #[.int .i64 (s.getD i 0), .bool true]) ∧ R1 w0 w' p cap s := by
  obtain ⟨F, h1, h2, h3⟩ := h
  refine (Rg.obj_at h1 i hi).mono ?_
  rintro e w' ⟨rfl, h4, h5⟩
  exact ⟨rfl, F, h4, h2, bel_more h3 h5⟩
theorem r1_at_no (h : R1 w0 w p cap s) (i : Int) (hi : i < 0 ∨ (s.length : Int) ≤ i) : Calls Try.prog 61 #[.pointer (some ⟨p, 0, none⟩), .int .i64 i] w fun e w' => e = .returned (.tuple #[.int .i64 0, .bool false]) ∧ w' = w := by
  obtain ⟨F, h1, h2, h3⟩ := h
  exact Rg.obj_at_no h1 i hi
theorem r1_len (h : R1 w0 w p cap s) : Calls Try.prog 43 #[.pointer (some ⟨p, 0, none⟩)] w fun e w' => e = .returned (.int .i64 s.length) ∧ w' = w := by
  obtain ⟨F, h1, h2, h3⟩ := h
  exact Rg.obj_len h1
theorem r1_room (h : R1 w0 w p cap s) : Calls Try.prog 63 #[.pointer (some ⟨p, 0, none⟩)] w fun e w' => e = .returned (.int .i64 ((cap : Int) - s.length)) ∧ R1 w0 w' p cap s := by
  obtain ⟨F, h1, h2, h3⟩ := h
  refine (Rg.obj_room h1).mono ?_
  rintro e w' ⟨rfl, h4, h5⟩
  exact ⟨rfl, F, h4, h2, bel_more h3 h5⟩
theorem r1_first_of {v : Int} {b : Bool} {Q : World → Prop} (HB : Calls Try.prog 61 #[.pointer (some ⟨p, 0, none⟩), .int .i64 0] w fun e w' => e = .returned (.tuple #[.int .i64 v, .bool b]) ∧ Q w') : Calls Try.prog 62 #[.pointer (some ⟨p, 0, none⟩)] w fun e w' => e = .returned (.tuple #[.int .i64 v, .bool b]) ∧ Q w' := by
  go_enter Try.func62, Try.ntmps62
  go_wp2_with (go_at_call 61; refine HB.mono ?_; rintro e w1 ⟨rfl, h5⟩; have H5 := Lib.hid h5; clear h5)
  go_ret2
  exact ⟨rfl, H5.out⟩
theorem r1_first (h : R1 w0 w p cap s) (hs : 0 < s.length) : Calls Try.prog 62 #[.pointer (some ⟨p, 0, none⟩)] w fun e w' => e = .returned (.tuple #[.int .i64 (s.getD 0 0), .bool true]) ∧ R1 w0 w' p cap s :=
  r1_first_of (r1_at h 0 hs)
theorem r1_first_no (h : R1 w0 w p cap []) : Calls Try.prog 62 #[.pointer (some ⟨p, 0, none⟩)] w fun e w' => e = .returned (.tuple #[.int .i64 0, .bool false]) ∧ w' = w :=
  r1_first_of (Q := fun w' => w' = w) (r1_at_no h 0 (Or.inr (by simp)))
end

/-! ### a box; two boxes -/
def B1 (w0 w : World) (p cap : Nat) (s : List Int) : Prop := ∃ F, Bx.BObj w F p cap s ∧ (∀ k, F k → w0.heap.size ≤ k) ∧ Below w0.heap.size w0 w
def B2 (w0 w : World) (p cap : Nat) (s : List Int) (q capq : Nat) (t : List Int) : Prop :=
  ∃ F G, Bx.BObj w F p cap s ∧ Bx.BObj w G q capq t ∧ (∀ k, F k → ¬ G k) ∧ (∀ k, F k → w0.heap.size ≤ k) ∧ (∀ k, G k → w0.heap.size ≤ k) ∧ Below w0.heap.size w0 w
section
variable {w0 w : World} {p cap q capq : Nat} {s t : List Int}
theorem B1.bel (h : B1 w0 w p cap s) : Below w0.heap.size w0 w := by obtain ⟨F, h1, h2, h3⟩ := h; exact h3
theorem B1.le (h : B1 w0 w p cap s) : s.length ≤ cap ∧ cap ≤ 100 := by obtain ⟨F, h1, h2, h3⟩ := h; exact h1.le
theorem b1_new (hb : Below w0.heap.size w0 w) (room : Int) (hr : -9223372036854775808 ≤ room ∧ room ≤ 9223372036854775807) :
    Calls Try.prog 36 #[.int .i64 room] w fun e w' => ∃ p, e = .returned (.pointer (some ⟨p, 0, none⟩)) ∧ B1 w0 w' p (min (max room 0) 100).toNat [] := by
  refine (Bx.obj_new room w hr).mono ?_
  rintro e w' ⟨F, p, rfl, h1, h2, h3⟩
  exact ⟨p, rfl, F, h1, fun k hk => Nat.le_trans hb.size (h2 k hk), bel_more hb h3⟩
theorem b1_more (h : B1 w0 w p cap s) (room : Int) (hr : -9223372036854775808 ≤ room ∧ room ≤ 9223372036854775807) :
    Calls Try.prog 36 #[.int .i64 room] w fun e w' => ∃ q, e = .returned (.pointer (some ⟨q, 0, none⟩)) ∧ B2 w0 w' p cap s q (min (max room 0) 100).toNat [] := by
  obtain ⟨F, h1, h2, h3⟩ := h
  refine (Bx.obj_new room w hr).mono ?_
  rintro e w' ⟨G, q, rfl, h4, h5, h6⟩
  exact ⟨q, rfl, F, G, h1.below h6, h4, fun k hk c => by have := h1.lt hk; have := h5 k c; omega, h2, fun k hk => Nat.le_trans h3.size (h5 k hk), bel_more h3 h6⟩
theorem b1_put (h : B1 w0 w p cap s) (v : Int) (hn : s.length < cap) :
    Calls Try.prog 37 #[.pointer (some ⟨p, 0, none⟩), .int .i64 v] w fun e w' => e = .returned (.bool true) ∧ B1 w0 w' p cap (s ++ [v]) := by
  obtain ⟨F, h1, h2, h3⟩ := h
  refine (Bx.obj_put h1 v hn).mono ?_
  rintro e w' ⟨rfl, h4, h5⟩
  exact ⟨rfl, F, h4, h2, bel_touch h3 h2 h5⟩
theorem b1_full (h : B1 w0 w p cap s) (v : Int) (hn : ¬ s.length < cap) :
    Calls Try.prog 37 #[.pointer (some ⟨p, 0, none⟩), .int .i64 v] w fun e w' => e = .returned (.bool false) ∧ w' = w := by
  obtain ⟨F, h1, h2, h3⟩ := h
  exact Bx.obj_full h1 v hn
theorem b1_take {v : Int} (h : B1 w0 w p cap (v :: s)) :
    Calls Try.prog 38 #[.pointer (some ⟨p, 0, none⟩)] w fun e w' => e = .returned (.tuple #[.int .i64 v, .bool true]) ∧ B1 w0 w' p cap s := by
  obtain ⟨F, h1, h2, h3⟩ := h
  refine (Bx.obj_take h1).mono ?_
  rintro e w' ⟨rfl, h4, h5⟩
  exact ⟨rfl, F, h4, h2, bel_touch h3 h2 h5⟩
theorem b1_take_no (h : B1 w0 w p cap []) :
    Calls Try.prog 38 #[.pointer (some ⟨p, 0, none⟩)] w fun e w' => e = .returned (.tuple #[.int .i64 0, .bool false]) ∧ w' = w := by
  obtain ⟨F, h1, h2, h3⟩ := h
  exact Bx.obj_take_no h1
theorem B2.bel (h : B2 w0 w p cap s q capq t) : Below w0.heap.size w0 w := by obtain ⟨F, G, h1, h2, h3, h4, h5, h6⟩ := h; exact h6
theorem B2.le (h : B2 w0 w p cap s q capq t) : (s.length ≤ cap ∧ cap ≤ 100) ∧ t.length ≤ capq ∧ capq ≤ 100 := by obtain ⟨F, G, h1, h2, h3, h4, h5, h6⟩ := h; exact ⟨h1.le, h2.le⟩
theorem B2.below {w' : World} (h : B2 w0 w p cap s q capq t) (hb : Below w.heap.size w w') : B2 w0 w' p cap s q capq t := by
  obtain ⟨F, G, h1, h2, h3, h4, h5, h6⟩ := h
  exact ⟨F, G, h1.below hb, h2.below hb, h3, h4, h5, bel_more h6 hb⟩
theorem b2_putp (h : B2 w0 w p cap s q capq t) (v : Int) (hn : s.length < cap) :
    Calls Try.prog 37 #[.pointer (some ⟨p, 0, none⟩), .int .i64 v] w fun e w' => e = .returned (.bool true) ∧ B2 w0 w' p cap (s ++ [v]) q capq t := by
  obtain ⟨F, G, h1, h2, h3, h4, h5, h6⟩ := h
  refine (Bx.obj_put h1 v hn).mono ?_
  rintro e w' ⟨rfl, h7, h8⟩
  exact ⟨rfl, F, G, h7, h2.touch h8 (fun k hk c => h3 k c hk), h3, h4, h5, bel_touch h6 h4 h8⟩
theorem b2_putq (h : B2 w0 w p cap s q capq t) (v : Int) (hn : t.length < capq) :
    Calls Try.prog 37 #[.pointer (some ⟨q, 0, none⟩), .int .i64 v] w fun e w' => e = .returned (.bool true) ∧ B2 w0 w' p cap s q capq (t ++ [v]) := by
  obtain ⟨F, G, h1, h2, h3, h4, h5, h6⟩ := h
  refine (Bx.obj_put h2 v hn).mono ?_
  rintro e w' ⟨rfl, h7, h8⟩
  exact ⟨rfl, F, G, h1.touch h8 h3, h7, h3, h4, h5, bel_touch h6 h5 h8⟩
theorem b2_fullp (h : B2 w0 w p cap s q capq t) (v : Int) (hn : ¬ s.length < cap) :
    Calls Try.prog 37 #[.pointer (some ⟨p, 0, none⟩), .int .i64 v] w fun e w' => e = .returned (.bool false) ∧ w' = w := by
  obtain ⟨F, G, h1, h2, h3, h4, h5, h6⟩ := h
  exact Bx.obj_full h1 v hn
theorem b2_fullq (h : B2 w0 w p cap s q capq t) (v : Int) (hn : ¬ t.length < capq) :
    Calls Try.prog 37 #[.pointer (some ⟨q, 0, none⟩), .int .i64 v] w fun e w' => e = .returned (.bool false) ∧ w' = w := by
  obtain ⟨F, G, h1, h2, h3, h4, h5, h6⟩ := h
  exact Bx.obj_full h2 v hn
theorem b2_takep {v : Int} (h : B2 w0 w p cap (v :: s) q capq t) :
    Calls Try.prog 38 #[.pointer (some ⟨p, 0, none⟩)] w fun e w' => e = .returned (.tuple #[.int .i64 v, .bool true]) ∧ B2 w0 w' p cap s q capq t := by
  obtain ⟨F, G, h1, h2, h3, h4, h5, h6⟩ := h
  refine (Bx.obj_take h1).mono ?_
  rintro e w' ⟨rfl, h7, h8⟩
  exact ⟨rfl, F, G, h7, h2.touch h8 (fun k hk c => h3 k c hk), h3, h4, h5, bel_touch h6 h4 h8⟩
theorem b2_takeq {v : Int} (h : B2 w0 w p cap s q capq (v :: t)) :
    Calls Try.prog 38 #[.pointer (some ⟨q, 0, none⟩)] w fun e w' => e = .returned (.tuple #[.int .i64 v, .bool true]) ∧ B2 w0 w' p cap s q capq t := by
  obtain ⟨F, G, h1, h2, h3, h4, h5, h6⟩ := h
  refine (Bx.obj_take h2).mono ?_
  rintro e w' ⟨rfl, h7, h8⟩
  exact ⟨rfl, F, G, h1.touch h8 h3, h7, h3, h4, h5, bel_touch h6 h5 h8⟩
theorem b2_nop (h : B2 w0 w p cap [] q capq t) :
    Calls Try.prog 38 #[.pointer (some ⟨p, 0, none⟩)] w fun e w' => e = .returned (.tuple #[.int .i64 0, .bool false]) ∧ w' = w := by
  obtain ⟨F, G, h1, h2, h3, h4, h5, h6⟩ := h
  exact Bx.obj_take_no h1
theorem b2_noq (h : B2 w0 w p cap s q capq []) :
    Calls Try.prog 38 #[.pointer (some ⟨q, 0, none⟩)] w fun e w' => e = .returned (.tuple #[.int .i64 0, .bool false]) ∧ w' = w := by
  obtain ⟨F, G, h1, h2, h3, h4, h5, h6⟩ := h
  exact Bx.obj_take_no h2
theorem b2_lenp (h : B2 w0 w p cap s q capq t) : Calls Try.prog 40 #[.pointer (some ⟨p, 0, none⟩)] w fun e w' => e = .returned (.int .i64 s.length) ∧ w' = w := by
  obtain ⟨F, G, h1, h2, h3, h4, h5, h6⟩ := h
  exact Bx.obj_len h1
theorem b2_lenq (h : B2 w0 w p cap s q capq t) : Calls Try.prog 40 #[.pointer (some ⟨q, 0, none⟩)] w fun e w' => e = .returned (.int .i64 t.length) ∧ w' = w := by
  obtain ⟨F, G, h1, h2, h3, h4, h5, h6⟩ := h
  exact Bx.obj_len h2
theorem b2_first {v : Int} (h : B2 w0 w p cap (v :: s) q capq t) :
    Calls Try.prog 39 #[.pointer (some ⟨p, 0, none⟩), .pointer (some ⟨q, 0, none⟩)] w fun e w' => e = .returned (.tuple #[.int .i64 v, .int .i64 1]) ∧ B2 w0 w' p cap s q capq t :=
  Bx.either_first (Q := fun w' => B2 w0 w' p cap s q capq t) (b2_takep h)
theorem b2_second {v : Int} (h : B2 w0 w p cap [] q capq (v :: t)) :
    Calls Try.prog 39 #[.pointer (some ⟨p, 0, none⟩), .pointer (some ⟨q, 0, none⟩)] w fun e w' => e = .returned (.tuple #[.int .i64 v, .int .i64 2]) ∧ B2 w0 w' p cap [] q capq t :=
  Bx.either_second (Q := fun w' => B2 w0 w' p cap [] q capq t) (b2_nop h) (b2_takeq h)
theorem b2_none (h : B2 w0 w p cap [] q capq []) :
    Calls Try.prog 39 #[.pointer (some ⟨p, 0, none⟩), .pointer (some ⟨q, 0, none⟩)] w fun e w' => e = .returned (.tuple #[.int .i64 0, .int .i64 0]) ∧ w' = w :=
  Bx.either_none (b2_nop h) (b2_noq h)
end
/-! ### two boxes of texts -/
def BS1 (w0 w : World) (p cap : Nat) (s : List ByteArray) : Prop := ∃ F, Bs.BObj w F p cap s ∧ (∀ k, F k → w0.heap.size ≤ k) ∧ Below w0.heap.size w0 w
def BS2 (w0 w : World) (p cap : Nat) (s : List ByteArray) (q capq : Nat) (t : List ByteArray) : Prop :=
  ∃ F G, Bs.BObj w F p cap s ∧ Bs.BObj w G q capq t ∧ (∀ k, F k → ¬ G k) ∧ (∀ k, F k → w0.heap.size ≤ k) ∧ (∀ k, G k → w0.heap.size ≤ k) ∧ Below w0.heap.size w0 w
section
variable {w0 w : World} {p cap q capq : Nat} {s t : List ByteArray}
theorem BS1.bel (h : BS1 w0 w p cap s) : Below w0.heap.size w0 w := by obtain ⟨F, h1, h2, h3⟩ := h; exact h3
theorem BS1.le (h : BS1 w0 w p cap s) : s.length ≤ cap ∧ cap ≤ 100 := by obtain ⟨F, h1, h2, h3⟩ := h; exact h1.le
theorem bs1_new (hb : Below w0.heap.size w0 w) (room : Int) (hr : -9223372036854775808 ≤ room ∧ room ≤ 9223372036854775807) :
    Calls Try.prog 57 #[.int .i64 room] w fun e w' => ∃ p, e = .returned (.pointer (some ⟨p, 0, none⟩)) ∧ BS1 w0 w' p (min (max room 0) 100).toNat [] := by
  refine (Bs.obj_new room w hr).mono ?_
  rintro e w' ⟨F, p, rfl, h1, h2, h3⟩
  exact ⟨p, rfl, F, h1, fun k hk => Nat.le_trans hb.size (h2 k hk), bel_more hb h3⟩
theorem bs1_more (h : BS1 w0 w p cap s) (room : Int) (hr : -9223372036854775808 ≤ room ∧ room ≤ 9223372036854775807) :
    Calls Try.prog 57 #[.int .i64 room] w fun e w' => ∃ q, e = .returned (.pointer (some ⟨q, 0, none⟩)) ∧ BS2 w0 w' p cap s q (min (max room 0) 100).toNat [] := by
  obtain ⟨F, h1, h2, h3⟩ := h
  refine (Bs.obj_new room w hr).mono ?_
  rintro e w' ⟨G, q, rfl, h4, h5, h6⟩
  exact ⟨q, rfl, F, G, h1.below h6, h4, fun k hk c => by have := h1.lt hk; have := h5 k c; omega, h2, fun k hk => Nat.le_trans h3.size (h5 k hk), bel_more h3 h6⟩
theorem bs1_put (h : BS1 w0 w p cap s) (v : ByteArray) (hn : s.length < cap) :
    Calls Try.prog 58 #[.pointer (some ⟨p, 0, none⟩), .string v] w fun e w' => e = .returned (.bool true) ∧ BS1 w0 w' p cap (s ++ [v]) := by
  obtain ⟨F, h1, h2, h3⟩ := h
  refine (Bs.obj_put h1 v hn).mono ?_
  rintro e w' ⟨rfl, h4, h5⟩
  exact ⟨rfl, F, h4, h2, bel_touch h3 h2 h5⟩
theorem bs1_full (h : BS1 w0 w p cap s) (v : ByteArray) (hn : ¬ s.length < cap) :
    Calls Try.prog 58 #[.pointer (some ⟨p, 0, none⟩), .string v] w fun e w' => e = .returned (.bool false) ∧ w' = w := by
  obtain ⟨F, h1, h2, h3⟩ := h
  exact Bs.obj_full h1 v hn
theorem bs1_take {v : ByteArray} (h : BS1 w0 w p cap (v :: s)) :
    Calls Try.prog 100 #[.pointer (some ⟨p, 0, none⟩)] w fun e w' => e = .returned (.tuple #[.string v, .bool true]) ∧ BS1 w0 w' p cap s := by
  obtain ⟨F, h1, h2, h3⟩ := h
  refine (Bs.obj_take h1).mono ?_
  rintro e w' ⟨rfl, h4, h5⟩
  exact ⟨rfl, F, h4, h2, bel_touch h3 h2 h5⟩
theorem bs1_take_no (h : BS1 w0 w p cap []) :
    Calls Try.prog 100 #[.pointer (some ⟨p, 0, none⟩)] w fun e w' => e = .returned (.tuple #[.string ⟨#[]⟩, .bool false]) ∧ w' = w := by
  obtain ⟨F, h1, h2, h3⟩ := h
  exact Bs.obj_take_no h1
theorem BS2.bel (h : BS2 w0 w p cap s q capq t) : Below w0.heap.size w0 w := by obtain ⟨F, G, h1, h2, h3, h4, h5, h6⟩ := h; exact h6
theorem BS2.le (h : BS2 w0 w p cap s q capq t) : (s.length ≤ cap ∧ cap ≤ 100) ∧ t.length ≤ capq ∧ capq ≤ 100 := by obtain ⟨F, G, h1, h2, h3, h4, h5, h6⟩ := h; exact ⟨h1.le, h2.le⟩
theorem BS2.below {w' : World} (h : BS2 w0 w p cap s q capq t) (hb : Below w.heap.size w w') : BS2 w0 w' p cap s q capq t := by
  obtain ⟨F, G, h1, h2, h3, h4, h5, h6⟩ := h
  exact ⟨F, G, h1.below hb, h2.below hb, h3, h4, h5, bel_more h6 hb⟩
theorem bs2_putp (h : BS2 w0 w p cap s q capq t) (v : ByteArray) (hn : s.length < cap) :
    Calls Try.prog 58 #[.pointer (some ⟨p, 0, none⟩), .string v] w fun e w' => e = .returned (.bool true) ∧ BS2 w0 w' p cap (s ++ [v]) q capq t := by
  obtain ⟨F, G, h1, h2, h3, h4, h5, h6⟩ := h
  refine (Bs.obj_put h1 v hn).mono ?_
  rintro e w' ⟨rfl, h7, h8⟩
  exact ⟨rfl, F, G, h7, h2.touch h8 (fun k hk c => h3 k c hk), h3, h4, h5, bel_touch h6 h4 h8⟩
theorem bs2_putq (h : BS2 w0 w p cap s q capq t) (v : ByteArray) (hn : t.length < capq) :
    Calls Try.prog 58 #[.pointer (some ⟨q, 0, none⟩), .string v] w fun e w' => e = .returned (.bool true) ∧ BS2 w0 w' p cap s q capq (t ++ [v]) := by
  obtain ⟨F, G, h1, h2, h3, h4, h5, h6⟩ := h
  refine (Bs.obj_put h2 v hn).mono ?_
  rintro e w' ⟨rfl, h7, h8⟩
  exact ⟨rfl, F, G, h1.touch h8 h3, h7, h3, h4, h5, bel_touch h6 h5 h8⟩
theorem bs2_fullp (h : BS2 w0 w p cap s q capq t) (v : ByteArray) (hn : ¬ s.length < cap) :
    Calls Try.prog 58 #[.pointer (some ⟨p, 0, none⟩), .string v] w fun e w' => e = .returned (.bool false) ∧ w' = w := by
  obtain ⟨F, G, h1, h2, h3, h4, h5, h6⟩ := h
  exact Bs.obj_full h1 v hn
theorem bs2_fullq (h : BS2 w0 w p cap s q capq t) (v : ByteArray) (hn : ¬ t.length < capq) :
    Calls Try.prog 58 #[.pointer (some ⟨q, 0, none⟩), .string v] w fun e w' => e = .returned (.bool false) ∧ w' = w := by
  obtain ⟨F, G, h1, h2, h3, h4, h5, h6⟩ := h
  exact Bs.obj_full h2 v hn
theorem bs2_takep {v : ByteArray} (h : BS2 w0 w p cap (v :: s) q capq t) :
    Calls Try.prog 100 #[.pointer (some ⟨p, 0, none⟩)] w fun e w' => e = .returned (.tuple #[.string v, .bool true]) ∧ BS2 w0 w' p cap s q capq t := by
  obtain ⟨F, G, h1, h2, h3, h4, h5, h6⟩ := h
  refine (Bs.obj_take h1).mono ?_
  rintro e w' ⟨rfl, h7, h8⟩
  exact ⟨rfl, F, G, h7, h2.touch h8 (fun k hk c => h3 k c hk), h3, h4, h5, bel_touch h6 h4 h8⟩
theorem bs2_takeq {v : ByteArray} (h : BS2 w0 w p cap s q capq (v :: t)) :
    Calls Try.prog 100 #[.pointer (some ⟨q, 0, none⟩)] w fun e w' => e = .returned (.tuple #[.string v, .bool true]) ∧ BS2 w0 w' p cap s q capq t := by
  obtain ⟨F, G, h1, h2, h3, h4, h5, h6⟩ := h
  refine (Bs.obj_take h2).mono ?_
  rintro e w' ⟨rfl, h7, h8⟩
  exact ⟨rfl, F, G, h1.touch h8 h3, h7, h3, h4, h5, bel_touch h6 h5 h8⟩
theorem bs2_nop (h : BS2 w0 w p cap [] q capq t) :
    Calls Try.prog 100 #[.pointer (some ⟨p, 0, none⟩)] w fun e w' => e = .returned (.tuple #[.string ⟨#[]⟩, .bool false]) ∧ w' = w := by
  obtain ⟨F, G, h1, h2, h3, h4, h5, h6⟩ := h
  exact Bs.obj_take_no h1
theorem bs2_noq (h : BS2 w0 w p cap s q capq []) :
    Calls Try.prog 100 #[.pointer (some ⟨q, 0, none⟩)] w fun e w' => e = .returned (.tuple #[.string ⟨#[]⟩, .bool false]) ∧ w' = w := by
  obtain ⟨F, G, h1, h2, h3, h4, h5, h6⟩ := h
  exact Bs.obj_take_no h2
theorem bs2_lenp (h : BS2 w0 w p cap s q capq t) : Calls Try.prog 60 #[.pointer (some ⟨p, 0, none⟩)] w fun e w' => e = .returned (.int .i64 s.length) ∧ w' = w := by
  obtain ⟨F, G, h1, h2, h3, h4, h5, h6⟩ := h
  exact Bs.obj_len h1
theorem bs2_lenq (h : BS2 w0 w p cap s q capq t) : Calls Try.prog 60 #[.pointer (some ⟨q, 0, none⟩)] w fun e w' => e = .returned (.int .i64 t.length) ∧ w' = w := by
  obtain ⟨F, G, h1, h2, h3, h4, h5, h6⟩ := h
  exact Bs.obj_len h2
theorem bs2_first {v : ByteArray} (h : BS2 w0 w p cap (v :: s) q capq t) :
    Calls Try.prog 59 #[.pointer (some ⟨p, 0, none⟩), .pointer (some ⟨q, 0, none⟩)] w fun e w' => e = .returned (.tuple #[.string v, .int .i64 1]) ∧ BS2 w0 w' p cap s q capq t :=
  Bs.either_first (Q := fun w' => BS2 w0 w' p cap s q capq t) (bs2_takep h)
theorem bs2_second {v : ByteArray} (h : BS2 w0 w p cap [] q capq (v :: t)) :
    Calls Try.prog 59 #[.pointer (some ⟨p, 0, none⟩), .pointer (some ⟨q, 0, none⟩)] w fun e w' => e = .returned (.tuple #[.string v, .int .i64 2]) ∧ BS2 w0 w' p cap [] q capq t :=
  Bs.either_second (Q := fun w' => BS2 w0 w' p cap [] q capq t) (bs2_nop h) (bs2_takeq h)
theorem bs2_none (h : BS2 w0 w p cap [] q capq []) :
    Calls Try.prog 59 #[.pointer (some ⟨p, 0, none⟩), .pointer (some ⟨q, 0, none⟩)] w fun e w' => e = .returned (.tuple #[.string ⟨#[]⟩, .int .i64 0]) ∧ w' = w :=
  Bs.either_none (bs2_nop h) (bs2_noq h)
end
end Go.Proofs.Ytpmamgdblbplcaa.On
