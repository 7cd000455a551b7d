/- Two boxes beside their rooms and two queue rows (BoxAll). -/
import Derived.Test.YtpmamgdblbplcaaRingQ
namespace Go.Proofs.Ytpmamgdblbplcaa.On
open Go.RowKit Go.Proofs.Ytpmamgdblbplcaa.HeapModel Go.Proofs.Ytpmamgdblbplcaa.Bg
open Go.Proofs.YtpmamgdblbplcaaW.PrintWords (QRow q_of_own q_move q_lt q_cells q_drop q_append cut_from)
set_option linter.unusedVariables false
set_option linter.unusedSimpArgs false
def two (k : Nat) (x y : Value) : List Value := if k = 0 then [x, y] else [y, x]
theorem two_swap {k : Nat} (hk : k ≤ 1) (x y : Value) : two k x y = two (1 - k) y x := by
  have : k = 0 ∨ k = 1 := by omega
  rcases this with rfl | rfl <;> rfl
theorem two_at {k : Nat} (hk : k ≤ 1) (x y : Value) : (two k x y)[k]? = some x := by
  have : k = 0 ∨ k = 1 := by omega
  rcases this with rfl | rfl <;> rfl
theorem two_other {k : Nat} (hk : k ≤ 1) (x y : Value) : (two k x y)[1 - k]? = some y := by
  have : k = 0 ∨ k = 1 := by omega
  rcases this with rfl | rfl <;> rfl
theorem two_set {k : Nat} (hk : k ≤ 1) (x y z : Value) : (two k x y).set k z = two k z y := by
  have : k = 0 ∨ k = 1 := by omega
  rcases this with rfl | rfl <;> rfl
def XS (G1 G2 G3 O i : Nat) : Prop := i = G1 ∨ i = G2 ∨ i = G3 ∨ i = O
/-- box p holds s, its row reads l; box q holds t, its row reads u -/
structure BC (w0 w : World) (F G : Nat → Prop) (k p cap : Nat) (s l : List Int) (A : Option Addr) (n c q capq : Nat) (t u : List Int) (A2 : Option Addr) (n2 c2 G1 G2 G3 O : Nat) (hO : Bool) (os : List Value) : Prop where
  f : Bx.BObj w F p cap s
  g : Bx.BObj w G q capq t
  fg : ∀ i, F i → ¬ G i
  fl : ∀ i, F i → w0.heap.size ≤ i
  gl : ∀ i, G i → w0.heap.size ≤ i
  b : Below w0.heap.size w0 w
  r1 : QRow w w0.heap.size 3 1 (.slice A n c) n (l.map (Value.int .i64))
  r2 : QRow w w0.heap.size 3 1 (.slice A2 n2 c2) n2 (u.map (Value.int .i64))
  o1 : ∀ i, (Value.slice A n c).ownBlock = some i → ¬ F i ∧ ¬ G i ∧ ¬ XS G1 G2 G3 O i
  o2 : ∀ i, (Value.slice A2 n2 c2).ownBlock = some i → ¬ F i ∧ ¬ G i ∧ ¬ XS G1 G2 G3 O i
  oo : ∀ i, (Value.slice A n c).ownBlock = some i → (Value.slice A2 n2 c2).ownBlock ≠ some i
  a1 : ArrV w G1 43 (two k (.int .i64 cap) (.int .i64 capq))
  a2 : ArrV w G2 46 (two k (.pointer (some ⟨p, 0, none⟩)) (.pointer (some ⟨q, 0, none⟩)))
  a3 : ArrV w G3 48 (two k (.slice A n c) (.slice A2 n2 c2))
  xf : ∀ i, XS G1 G2 G3 O i → ¬ F i ∧ ¬ G i ∧ w0.heap.size ≤ i
  ne : G1 ≠ G3 ∧ G2 ≠ G3 ∧ O ≠ G3
  op : hO = true → ArrV w O 29 os
  kk : k ≤ 1
def BQ (w0 w : World) (k p cap : Nat) (s l : List Int) (A : Option Addr) (n c q capq : Nat) (t u : List Int) (A2 : Option Addr) (n2 c2 G1 G2 G3 O : Nat) (hO : Bool) (os : List Value) : Prop :=
  ∃ F G, BC w0 w F G k p cap s l A n c q capq t u A2 n2 c2 G1 G2 G3 O hO os
section
variable {w0 w : World} {F G : Nat → Prop} {k p cap n c q capq n2 c2 G1 G2 G3 O : Nat} {s l t u : List Int} {A A2 : Option Addr} {hO : Bool} {os : List Value}
theorem BQ.bel (h : BQ w0 w k p cap s l A n c q capq t u A2 n2 c2 G1 G2 G3 O hO os) : Below w0.heap.size w0 w := by obtain ⟨F, G, h⟩ := h; exact h.b
theorem BQ.swap (h : BQ w0 w k p cap s l A n c q capq t u A2 n2 c2 G1 G2 G3 O hO os) : BQ w0 w (1 - k) q capq t u A2 n2 c2 p cap s l A n c G1 G2 G3 O hO os := by
  obtain ⟨F, G, h⟩ := h
  exact ⟨G, F, ⟨h.g, h.f, fun i hi c => h.fg i c hi, h.gl, h.fl, h.b, h.r2, h.r1, fun i hi => ⟨(h.o2 i hi).2.1, (h.o2 i hi).1, (h.o2 i hi).2.2⟩, fun i hi => ⟨(h.o1 i hi).2.1, (h.o1 i hi).1, (h.o1 i hi).2.2⟩, fun i hi c => h.oo i c hi,
    by rw [← two_swap h.kk]; exact h.a1, by rw [← two_swap h.kk]; exact h.a2, by rw [← two_swap h.kk]; exact h.a3, fun i hi => ⟨(h.xf i hi).2.1, (h.xf i hi).1, (h.xf i hi).2.2⟩, h.ne, h.op, by omega⟩⟩
theorem BQ.below {w' : World} (h : BQ w0 w k p cap s l A n c q capq t u A2 n2 c2 G1 G2 G3 O hO os) (hb : Below w.heap.size w w') : BQ w0 w' k p cap s l A n c q capq t u A2 n2 c2 G1 G2 G3 O hO os := by
  obtain ⟨F, G, h⟩ := h
  exact ⟨F, G, { h with f := h.f.below hb, g := h.g.below hb, b := bel_more h.b hb, r1 := q_move h.r1 (fun k hk => hb.block k (q_lt h.r1 k hk)), r2 := q_move h.r2 (fun k hk => hb.block k (q_lt h.r2 k hk)), a1 := h.a1.below hb, a2 := h.a2.below hb, a3 := h.a3.below hb, op := fun e => (h.op e).below hb }⟩
theorem BC.touch {w' : World} {s' : List Int} (h : BC w0 w F G k p cap s l A n c q capq t u A2 n2 c2 G1 G2 G3 O hO os) (hf : Bx.BObj w' F p cap s') (ht : Hp.Touch F w w') : BC w0 w' F G k p cap s' l A n c q capq t u A2 n2 c2 G1 G2 G3 O hO os :=
  { h with f := hf, g := h.g.touch ht (fun i hi c => h.fg i c hi), b := bel_touch h.b h.fl ht, r1 := q_move h.r1 (fun k hk => ht.block k (q_lt h.r1 k hk) (h.o1 k hk).1), r2 := q_move h.r2 (fun k hk => ht.block k (q_lt h.r2 k hk) (h.o2 k hk).1), a1 := h.a1.touch ht (h.xf _ (Or.inl rfl)).1, a2 := h.a2.touch ht (h.xf _ (Or.inr (Or.inl rfl))).1, a3 := h.a3.touch ht (h.xf _ (Or.inr (Or.inr (Or.inl rfl)))).1, op := fun e => (h.op e).touch ht (h.xf _ (Or.inr (Or.inr (Or.inr rfl)))).1 }
theorem BQ.room (h : BQ w0 w k p cap s l A n c q capq t u A2 n2 c2 G1 G2 G3 O hO os) : w.cell? ⟨G1, k, none⟩ = some (.int .i64 cap) := by
  obtain ⟨F, G, h⟩ := h; exact (h.a1.cell k).trans (two_at h.kk _ _)
theorem BQ.box (h : BQ w0 w k p cap s l A n c q capq t u A2 n2 c2 G1 G2 G3 O hO os) : w.cell? ⟨G2, k, none⟩ = some (.pointer (some ⟨p, 0, none⟩)) := by
  obtain ⟨F, G, h⟩ := h; exact (h.a2.cell k).trans (two_at h.kk _ _)
theorem BQ.row (h : BQ w0 w k p cap s l A n c q capq t u A2 n2 c2 G1 G2 G3 O hO os) : w.cell? ⟨G3, k, none⟩ = some (.slice A n c) ∧ w.frozen? ⟨G3, k, none⟩ = false := by
  obtain ⟨F, G, h⟩ := h; exact ⟨(h.a3.cell k).trans (two_at h.kk _ _), h.a3.frozen k⟩
theorem BQ.cell (h : BQ w0 w k p cap s l A n c q capq t u A2 n2 c2 G1 G2 G3 O true os) (j : Nat) : w.cell? ⟨O, j, none⟩ = os[j]? := by
  obtain ⟨F, G, h⟩ := h; exact (h.op rfl).cell j
theorem BQ.nums (h : BQ w0 w k p cap s l A n c q capq t u A2 n2 c2 G1 G2 G3 O hO os) : l.length = n ∧ u.length = n2 ∧ s.length ≤ cap ∧ cap ≤ 100 ∧ t.length ≤ capq ∧ capq ≤ 100 := by
  obtain ⟨F, G, h⟩ := h
  have e1 := h.r1.1
  have e2 := h.r2.1
  rw [List.length_map] at e1 e2
  have := h.f.le
  have := h.g.le
  omega
theorem BQ.read (h : BQ w0 w k p cap s l A n c q capq t u A2 n2 c2 G1 G2 G3 O hO os) (hn : 0 < n) : ∃ ad, A = some ad ∧ ∀ k, k < n → w.cell? (ad.add k) = some (.int .i64 (l.getD k 0)) := by
  have hl := h.nums.1
  obtain ⟨F, G, h⟩ := h
  obtain ⟨ad, e, hc⟩ := q_cells h.r1 hn
  refine ⟨ad, e, fun k hk => hc k _ ?_⟩
  rw [List.getElem?_map, List.getD_eq_getElem?_getD, List.getElem?_eq_getElem (by omega)]
  rfl
theorem xs_drop {i : Nat} (h : XS G1 G2 G3 G1 i) : XS G1 G2 G3 O i := by unfold XS at *; omega
theorem BQ.drop (h : BQ w0 w k p cap s l A n c q capq t u A2 n2 c2 G1 G2 G3 O hO os) : BQ w0 w k p cap s l A n c q capq t u A2 n2 c2 G1 G2 G3 G1 false [] := by
  obtain ⟨F, G, h⟩ := h
  exact ⟨F, G, ⟨h.f, h.g, h.fg, h.fl, h.gl, h.b, h.r1, h.r2, fun i hi => ⟨(h.o1 i hi).1, (h.o1 i hi).2.1, fun c => (h.o1 i hi).2.2 (xs_drop c)⟩, fun i hi => ⟨(h.o2 i hi).1, (h.o2 i hi).2.1, fun c => (h.o2 i hi).2.2 (xs_drop c)⟩, h.oo, h.a1, h.a2, h.a3, fun i hi => h.xf i (xs_drop hi), ⟨h.ne.1, h.ne.2.1, h.ne.1⟩, (fun e => by cases e), h.kk⟩⟩
theorem BQ.op (h : BQ w0 w k p cap s l A n c q capq t u A2 n2 c2 G1 G2 G3 G1 false []) (os : List Value) : BQ w0 (w.alloc (.cells os.toArray 29)) k p cap s l A n c q capq t u A2 n2 c2 G1 G2 G3 w.heap.size true os := by
  have b1 : Below w.heap.size w (w.alloc (.cells os.toArray 29)) := (Below.refl _ _).alloc (Nat.le_refl _) _
  have hl := h
  obtain ⟨F, G, h'⟩ := h.below b1
  clear h
  obtain ⟨F0, G0, h0⟩ := hl
  have l1 := h0.a1.lt
  have l2 := h0.a2.lt
  have l3 := h0.a3.lt
  obtain ⟨F, G, h⟩ : ∃ F G, BC w0 (w.alloc (.cells os.toArray 29)) F G k p cap s l A n c q capq t u A2 n2 c2 G1 G2 G3 G1 false [] ∧ (∀ i, F i → i < w.heap.size) ∧ (∀ i, G i → i < w.heap.size) :=
    ⟨F0, G0, { h0 with f := h0.f.below b1, g := h0.g.below b1, b := bel_more h0.b b1, r1 := q_move h0.r1 (fun k hk => b1.block k (q_lt h0.r1 k hk)), r2 := q_move h0.r2 (fun k hk => b1.block k (q_lt h0.r2 k hk)), a1 := h0.a1.below b1, a2 := h0.a2.below b1, a3 := h0.a3.below b1, op := fun e => by cases e }, fun i hi => h0.f.lt hi, fun i hi => h0.g.lt hi⟩
  obtain ⟨h, fl, gl⟩ := h
  refine ⟨F, G, ⟨h.f, h.g, h.fg, h.fl, h.gl, h.b, h.r1, h.r2, fun i hi => ⟨(h.o1 i hi).1, (h.o1 i hi).2.1, ?_⟩, fun i hi => ⟨(h.o2 i hi).1, (h.o2 i hi).2.1, ?_⟩, h.oo, h.a1, h.a2, h.a3, fun i hi => ?_, ⟨h.ne.1, h.ne.2.1, by omega⟩, (fun _ => heap_alloc_new w _), h.kk⟩⟩
  · rintro (e | e | e | e)
    · exact (h.o1 i hi).2.2 (Or.inl e)
    · exact (h.o1 i hi).2.2 (Or.inr (Or.inl e))
    · exact (h.o1 i hi).2.2 (Or.inr (Or.inr (Or.inl e)))
    · have := q_lt h0.r1 i hi; omega
  · rintro (e | e | e | e)
    · exact (h.o2 i hi).2.2 (Or.inl e)
    · exact (h.o2 i hi).2.2 (Or.inr (Or.inl e))
    · exact (h.o2 i hi).2.2 (Or.inr (Or.inr (Or.inl e)))
    · have := q_lt h0.r2 i hi; omega
  · rcases hi with e | e | e | e
    · exact h.xf i (Or.inl e)
    · exact h.xf i (Or.inr (Or.inl e))
    · exact h.xf i (Or.inr (Or.inr (Or.inl e)))
    · exact ⟨fun c => by have := fl i c; omega, fun c => by have := gl i c; omega, by rw [e]; exact h0.b.size⟩
theorem bq_put (h : BQ w0 w k p cap s l A n c q capq t u A2 n2 c2 G1 G2 G3 O hO os) (v : Int) (hn : s.length < cap) :
    Calls Try.prog 37 #[.pointer (some ⟨p, 0, none⟩), .int .i64 v] w fun e w' => e = .returned (.bool true) ∧ BQ w0 w' k p cap (s ++ [v]) l A n c q capq t u A2 n2 c2 G1 G2 G3 O hO os := by
  obtain ⟨F, G, h⟩ := h
  refine (Bx.obj_put h.f v hn).mono ?_
  rintro e w' ⟨rfl, h7, h8⟩
  exact ⟨rfl, F, G, h.touch h7 h8⟩
theorem bq_full (h : BQ w0 w k p cap s l A n c q capq t u A2 n2 c2 G1 G2 G3 O hO os) (v : Int) (hn : ¬ s.length < cap) :
    Calls Try.prog 37 #[.pointer (some ⟨p, 0, none⟩), .int .i64 v] w fun e w' => e = .returned (.bool false) ∧ w' = w := by
  obtain ⟨F, G, h⟩ := h
  exact Bx.obj_full h.f v hn
theorem bq_take {v : Int} (h : BQ w0 w k p cap (v :: s) l A n c q capq t u A2 n2 c2 G1 G2 G3 O hO os) :
    Calls Try.prog 38 #[.pointer (some ⟨p, 0, none⟩)] w fun e w' => e = .returned (.tuple #[.int .i64 v, .bool true]) ∧ BQ w0 w' k p cap s l A n c q capq t u A2 n2 c2 G1 G2 G3 O hO os := by
  obtain ⟨F, G, h⟩ := h
  refine (Bx.obj_take h.f).mono ?_
  rintro e w' ⟨rfl, h7, h8⟩
  exact ⟨rfl, F, G, h.touch h7 h8⟩
theorem bq_no (h : BQ w0 w k p cap [] l A n c q capq t u A2 n2 c2 G1 G2 G3 O hO os) :
    Calls Try.prog 38 #[.pointer (some ⟨p, 0, none⟩)] w fun e w' => e = .returned (.tuple #[.int .i64 0, .bool false]) ∧ w' = w := by
  obtain ⟨F, G, h⟩ := h
  exact Bx.obj_take_no h.f
theorem bq_len (h : BQ w0 w k p cap s l A n c q capq t u A2 n2 c2 G1 G2 G3 O hO os) : Calls Try.prog 40 #[.pointer (some ⟨p, 0, none⟩)] w fun e w' => e = .returned (.int .i64 s.length) ∧ w' = w := by
  obtain ⟨F, G, h⟩ := h
  exact Bx.obj_len h.f
theorem bq_first {v : Int} (h : BQ w0 w k p cap (v :: s) l A n c q capq t u A2 n2 c2 G1 G2 G3 O hO os) :
    Calls Try.prog 39 #[.pointer (some ⟨p, 0, none⟩), .pointer (some ⟨q, 0, none⟩)] w fun e w' => e = .returned (.tuple #[.int .i64 v, .int .i64 1]) ∧ BQ w0 w' k p cap s l A n c q capq t u A2 n2 c2 G1 G2 G3 O hO os :=
  Bx.either_first (Q := fun w' => BQ w0 w' k p cap s l A n c q capq t u A2 n2 c2 G1 G2 G3 O hO os) (bq_take h)
theorem bq_second {v : Int} (h : BQ w0 w k p cap [] l A n c q capq (v :: t) u A2 n2 c2 G1 G2 G3 O hO os) :
    Calls Try.prog 39 #[.pointer (some ⟨p, 0, none⟩), .pointer (some ⟨q, 0, none⟩)] w fun e w' => e = .returned (.tuple #[.int .i64 v, .int .i64 2]) ∧ BQ w0 w' (1 - k) q capq t u A2 n2 c2 p cap [] l A n c G1 G2 G3 O hO os :=
  Bx.either_second (Q := fun w' => BQ w0 w' (1 - k) q capq t u A2 n2 c2 p cap [] l A n c G1 G2 G3 O hO os) (bq_no h) (bq_take h.swap)
theorem bq_none (h : BQ w0 w k p cap [] l A n c q capq [] u A2 n2 c2 G1 G2 G3 O hO os) :
    Calls Try.prog 39 #[.pointer (some ⟨p, 0, none⟩), .pointer (some ⟨q, 0, none⟩)] w fun e w' => e = .returned (.tuple #[.int .i64 0, .int .i64 0]) ∧ w' = w :=
  Bx.either_none (bq_no h) (bq_no h.swap)
theorem BC.below {w' : World} (h : BC w0 w F G k p cap s l A n c q capq t u A2 n2 c2 G1 G2 G3 O hO os) (hb : Below w.heap.size w w') : BC w0 w' F G k p cap s l A n c q capq t u A2 n2 c2 G1 G2 G3 O hO os :=
  { h with f := h.f.below hb, g := h.g.below hb, b := bel_more h.b hb, r1 := q_move h.r1 (fun k hk => hb.block k (q_lt h.r1 k hk)), r2 := q_move h.r2 (fun k hk => hb.block k (q_lt h.r2 k hk)), a1 := h.a1.below hb, a2 := h.a2.below hb, a3 := h.a3.below hb, op := fun e => (h.op e).below hb }
/-- a new slice lies in the row's place: what it reads is given -/
theorem BC.put {w' : World} {A' : Option Addr} {n' c' : Nat} {l' : List Int} (h : BC w0 w F G k p cap s l A n c q capq t u A2 n2 c2 G1 G2 G3 O hO os) (hb : Below w0.heap.size w0 w') (hm : ∀ i, i < w.heap.size → (Value.slice A n c).ownBlock ≠ some i → w'.heap[i]? = w.heap[i]?)
    (hr : QRow w' w0.heap.size 3 1 (.slice A' n' c') n' (l'.map (Value.int .i64)))
    (ho : ∀ i, (Value.slice A' n' c').ownBlock = some i → ¬ F i ∧ ¬ G i ∧ ¬ XS G1 G2 G3 O i) (hoo : ∀ i, (Value.slice A' n' c').ownBlock = some i → (Value.slice A2 n2 c2).ownBlock ≠ some i) :
    (w'.cell? ⟨G3, k, none⟩ = some (.slice A n c) ∧ w'.frozen? ⟨G3, k, none⟩ = false) ∧ BC w0 (w'.setCell ⟨G3, k, none⟩ (.slice A' n' c')) F G k p cap s l' A' n' c' q capq t u A2 n2 c2 G1 G2 G3 O hO os := by
  have x1 : XS G1 G2 G3 O G1 := Or.inl rfl
  have x2 : XS G1 G2 G3 O G2 := Or.inr (Or.inl rfl)
  have x3 : XS G1 G2 G3 O G3 := Or.inr (Or.inr (Or.inl rfl))
  have x4 : XS G1 G2 G3 O O := Or.inr (Or.inr (Or.inr rfl))
  have mv : ∀ i, i ≠ G3 → (w'.setCell ⟨G3, k, none⟩ (.slice A' n' c')).heap[i]? = w'.heap[i]? := fun i hi => Below.heap_setCell _ _ _ _ hi
  have m3 : ArrV w' G3 48 (two k (.slice A n c) (.slice A2 n2 c2)) := h.a3.move (hm _ h.a3.lt (fun e => (h.o1 _ e).2.2 x3))
  refine ⟨⟨(m3.cell k).trans (two_at h.kk _ _), m3.frozen k⟩, ?_⟩
  refine ⟨h.f.move (fun j hj => (mv j (fun e => (h.xf _ x3).1 (e ▸ hj))).trans (hm j (h.f.lt hj) (fun e => (h.o1 _ e).1 hj))), h.g.move (fun j hj => (mv j (fun e => (h.xf _ x3).2.1 (e ▸ hj))).trans (hm j (h.g.lt hj) (fun e => (h.o1 _ e).2.1 hj))), h.fg, h.fl, h.gl, hb.setCell (h.xf _ x3).2.2 _, q_move hr (fun j hj => mv j (fun e => (ho j hj).2.2 (e ▸ x3))), q_move h.r2 (fun j hj => (mv j (fun e => (h.o2 j hj).2.2 (e ▸ x3))).trans (hm j (q_lt h.r2 j hj) (fun e => h.oo j e hj))), ho, h.o2, hoo,
    h.a1.move ((mv _ h.ne.1).trans (hm _ h.a1.lt (fun e => (h.o1 _ e).2.2 x1))), h.a2.move ((mv _ h.ne.2.1).trans (hm _ h.a2.lt (fun e => (h.o1 _ e).2.2 x2))), ?_, h.xf, h.ne, fun e => (h.op e).move ((mv _ h.ne.2.2).trans (hm _ (h.op e).lt (fun e => (h.o1 _ e).2.2 x4))), h.kk⟩
  have := m3.set k (.slice A' n' c')
  rwa [two_set h.kk] at this
theorem bq_push (h : BQ w0 w k p cap s l A n c q capq t u A2 n2 c2 G1 G2 G3 O true os) (x : Int) (hn : n ≤ 1000) :
    ∃ A' c' w', (Builtin.append_ #[47, 47] 47 #[.slice A n c, .slice (some ⟨w.heap.size, 0, none⟩) 1 1]).run Try.prog (w.alloc (.cells #[.int .i64 x] 3)) = .ok (.slice A' (n + 1) c') w' ∧
      w'.cell? ⟨G3, k, none⟩ = some (.slice A n c) ∧ w'.frozen? ⟨G3, k, none⟩ = false ∧ BQ w0 (w'.setCell ⟨G3, k, none⟩ (.slice A' (n + 1) c')) k p cap s (l ++ [x]) A' (n + 1) c' q capq t u A2 n2 c2 G1 G2 G3 O true os := by
  have b1 : Below w.heap.size w (w.alloc (.cells #[.int .i64 x] 3)) := (Below.refl _ _).alloc (Nat.le_refl _) _
  obtain ⟨F, G, h0⟩ := h
  have h := h0.below b1
  obtain ⟨i0, hi, hz0, hz1, hz2⟩ := info_parts inf3
  obtain ⟨v', w', hr, hq, hg, hat⟩ := q_append (P := Try.prog) (w.alloc (.cells #[.int .i64 x] 3)) w0.heap.size 47 47 3 i0 _ 1 8 Try.underlying47 hi hz0 hz1 hz2 rfl (by omega) _ _ _ h.r1 ⟨w.heap.size, 0, none⟩ 1 1 [.int .i64 x] rfl
    (cell_one_new _ _ _)
    (by intro u hu; simp at hu; subst hu; rfl) (by omega) (by unfold maxLen; omega) (by omega) h.b.size
  obtain ⟨A', c', e, _⟩ := Go.Proofs.YtpmamgdblbplcaaW.PrintWords.q_slice hq
  subst e
  obtain ⟨⟨e1, e2⟩, hc⟩ := h.put (w' := w') (A' := A') (n' := n + 1) (c' := c') (l' := l ++ [x]) (h.b.grown hg h.b.size (fun k hk => (Go.Proofs.YtpmamgdblbplcaaW.PrintWords.q_typed h.r1 k hk).1)) (fun i hi hne => hg.block i hi (fun e => hne e.symm)) (by rw [List.map_append]; exact hq)
    (by
      intro i hi
      rcases hat with hat | ⟨b, hb, hle⟩
      · exact h.o1 i (hat ▸ hi)
      · rw [hb] at hi
        injection hi with hi
        subst hi
        refine ⟨fun c => absurd (h.f.lt c) (by omega), fun c => absurd (h.g.lt c) (by omega), ?_⟩
        have l1 := h.a1.lt
        have l2 := h.a2.lt
        have l3 := h.a3.lt
        have l4 := (h.op rfl).lt
        rintro (e | e | e | e) <;> omega)
    (by
      intro i hi
      rcases hat with hat | ⟨b, hb, hle⟩
      · exact h.oo i (hat ▸ hi)
      · rw [hb] at hi
        injection hi with hi
        subst hi
        exact fun c => absurd (q_lt h.r2 _ c) (by omega))
  exact ⟨A', c', w', hr, e1, e2, F, G, hc⟩
theorem bq_cut {x : Int} {tl : List Int} (h : BQ w0 w k p cap s (x :: tl) A (n + 1) c q capq t u A2 n2 c2 G1 G2 G3 O hO os) :
    ∃ A', (Instr.slice 47 (.slice A (n + 1) c) (some (.int .i64 1)) none none).run Try.prog w = .ok (.slice A' n (c - 1)) w ∧ BQ w0 (w.setCell ⟨G3, k, none⟩ (.slice A' n (c - 1))) k p cap s tl A' n (c - 1) q capq t u A2 n2 c2 G1 G2 G3 O hO os := by
  obtain ⟨i0, hi, hz0, hz1, hz2⟩ := info_parts inf3
  have hr := cut_from (P := Try.prog) 47 3 .i64 Try.underlying47 hi 1 hz1 A (n + 1) c 1 (by omega) (by omega) w
  simp only [Int.toNat_one, Nat.add_sub_cancel] at hr
  obtain ⟨F, G, h⟩ := h
  have hq := q_drop h.r1 (k := 1) (by omega)
  simp only [Nat.add_sub_cancel, List.map_cons, Nat.mul_one] at hq
  have hblk : ∀ k, (Value.slice (if c = 1 then A else A.map (·.add (1 * 1))) n (c - 1)).ownBlock = some k → (Value.slice A (n + 1) c).ownBlock = some k := by
    intro k hk
    cases A with
    | none => split at hk <;> simp [Value.ownBlock] at hk
    | some a =>
      split at hk
      · simpa [Value.ownBlock] using hk
      · simp only [Option.map_some, Value.ownBlock, Option.some.injEq] at hk ⊢
        rw [← hk]
        unfold Addr.add
        split <;> rfl
  exact ⟨_, hr, F, G, (h.put h.b (fun i _ _ => rfl) hq (fun i hi => h.o1 i (hblk i hi)) (fun i hi => h.oo i (hblk i hi))).2⟩
/-! ### the start -/
def N0 (w0 w : World) (G1 : Nat) (v : List Value) : Prop := Below w0.heap.size w0 w ∧ ArrV w G1 43 v ∧ w0.heap.size ≤ G1
def N1 (w0 w : World) (p cap G1 : Nat) (v : List Value) : Prop := ∃ F, Bx.BObj w F p cap [] ∧ (∀ i, F i → w0.heap.size ≤ i) ∧ N0 w0 w G1 v ∧ ¬ F G1
def N2 (w0 w : World) (p cap q capq G1 : Nat) (v : List Value) : Prop := ∃ F G, Bx.BObj w F p cap [] ∧ Bx.BObj w G q capq [] ∧ (∀ i, F i → w0.heap.size ≤ i) ∧ (∀ i, G i → w0.heap.size ≤ i) ∧ (∀ i, F i → ¬ G i) ∧ N0 w0 w G1 v ∧ ¬ F G1 ∧ ¬ G G1
theorem n0_new {v : List Value} (hb : Below w0.heap.size w0 w) : N0 w0 (w.alloc (.cells v.toArray 43)) w.heap.size v :=
  ⟨bel_more hb ((Below.refl _ _).alloc (Nat.le_refl _) _), heap_alloc_new w _, hb.size⟩
theorem n1_new {v : List Value} (h : N0 w0 w G1 v) (room : Int) (hr : -9223372036854775808 ≤ room ∧ room ≤ 9223372036854775807) (hc : (min (max room 0) 100).toNat = cap) :
    Calls Try.prog 36 #[.int .i64 room] w fun e w' => ∃ p, e = .returned (.pointer (some ⟨p, 0, none⟩)) ∧ N1 w0 w' p cap G1 v := by
  rw [← hc]
  refine (Bx.obj_new room w hr).mono ?_
  rintro e w' ⟨F, p, rfl, h1, h2, h3⟩
  exact ⟨p, rfl, F, h1, fun k hk => Nat.le_trans h.1.size (h2 k hk), ⟨bel_more h.1 h3, h.2.1.below h3, h.2.2⟩, fun c => by have := h2 _ c; have := h.2.1.lt; omega⟩
theorem n2_new {v : List Value} (h : N1 w0 w p cap G1 v) (room : Int) (hr : -9223372036854775808 ≤ room ∧ room ≤ 9223372036854775807) (hc : (min (max room 0) 100).toNat = capq) :
    Calls Try.prog 36 #[.int .i64 room] w fun e w' => ∃ q, e = .returned (.pointer (some ⟨q, 0, none⟩)) ∧ N2 w0 w' p cap q capq G1 v := by
  rw [← hc]
  obtain ⟨F, h1, h2, h3, h4⟩ := h
  refine (Bx.obj_new room w hr).mono ?_
  rintro e w' ⟨G, q, rfl, g1, g2, g3⟩
  exact ⟨q, rfl, F, G, h1.below g3, g1, h2, fun k hk => Nat.le_trans h3.1.size (g2 k hk), fun i hi c => by have := h1.lt hi; have := g2 i c; omega, ⟨bel_more h3.1 g3, h3.2.1.below g3, h3.2.2⟩, h4, fun c => by have := g2 _ c; have := h3.2.1.lt; omega⟩
theorem bq_start (h : N2 w0 w p cap q capq G1 [.int .i64 cap, .int .i64 capq]) :
    BQ w0 ((w.alloc (.cells #[.pointer (some ⟨p, 0, none⟩), .pointer (some ⟨q, 0, none⟩)] 46)).alloc (.cells #[.slice none 0 0, .slice none 0 0] 48)) 0 p cap [] [] none 0 0 q capq [] [] none 0 0 G1 w.heap.size (w.heap.size + 1) G1 false [] := by
  have b1 : Below w.heap.size w (w.alloc (.cells #[.pointer (some ⟨p, 0, none⟩), .pointer (some ⟨q, 0, none⟩)] 46)) := (Below.refl _ _).alloc (Nat.le_refl _) _
  have b2 : Below (w.alloc (.cells #[.pointer (some ⟨p, 0, none⟩), .pointer (some ⟨q, 0, none⟩)] 46)).heap.size (w.alloc (.cells #[.pointer (some ⟨p, 0, none⟩), .pointer (some ⟨q, 0, none⟩)] 46)) ((w.alloc (.cells #[.pointer (some ⟨p, 0, none⟩), .pointer (some ⟨q, 0, none⟩)] 46)).alloc (.cells #[.slice none 0 0, .slice none 0 0] 48)) := (Below.refl _ _).alloc (Nat.le_refl _) _
  have sz : (w.alloc (.cells #[.pointer (some ⟨p, 0, none⟩), .pointer (some ⟨q, 0, none⟩)] 46)).heap.size = w.heap.size + 1 := by show (Array.push _ _).size = _; rw [Array.size_push]
  have a2 : ArrV (w.alloc (.cells #[.pointer (some ⟨p, 0, none⟩), .pointer (some ⟨q, 0, none⟩)] 46)) w.heap.size 46 (two 0 (.pointer (some ⟨p, 0, none⟩)) (.pointer (some ⟨q, 0, none⟩))) := heap_alloc_new w _
  have a3 : ArrV ((w.alloc (.cells #[.pointer (some ⟨p, 0, none⟩), .pointer (some ⟨q, 0, none⟩)] 46)).alloc (.cells #[.slice none 0 0, .slice none 0 0] 48)) (w.alloc (.cells #[.pointer (some ⟨p, 0, none⟩), .pointer (some ⟨q, 0, none⟩)] 46)).heap.size 48 (two 0 (.slice none 0 0) (.slice none 0 0)) := heap_alloc_new _ _
  rw [sz] at a3
  obtain ⟨F, G, h1, h2, h3, h4, h5, ⟨h6, h7, h8⟩, h9, h10⟩ := h
  have l1 := h7.lt
  refine ⟨F, G, ⟨(h1.below b1).below b2, (h2.below b1).below b2, h5, h3, h4, bel_more (bel_more h6 b1) b2, q_of_own (World.ownsRow_nil _ _ _ _), q_of_own (World.ownsRow_nil _ _ _ _), fun k hk => by simp [Value.ownBlock] at hk, fun k hk => by simp [Value.ownBlock] at hk, fun k hk => by simp [Value.ownBlock] at hk,
    (h7.below b1).below b2, a2.below b2, a3, ?_, ⟨by omega, by omega, by omega⟩, (fun e => by cases e), by omega⟩⟩
  rintro i (e | e | e | e)
  · subst e; exact ⟨h9, h10, h8⟩
  · subst e; exact ⟨fun c => absurd (h1.lt c) (by omega), fun c => absurd (h2.lt c) (by omega), h6.size⟩
  · subst e; exact ⟨fun c => absurd (h1.lt c) (by omega), fun c => absurd (h2.lt c) (by omega), by have := h6.size; omega⟩
  · subst e; exact ⟨h9, h10, h8⟩
end
end Go.Proofs.Ytpmamgdblbplcaa.On
