/- RingAll: the walk. -/
import Derived.Test.YtpmamgdblbplcaaOps
import Derived.Test.YtpmamgdblbplcaaBand
namespace Go.Proofs.Ytpmamgdblbplcaa.On
open Go.RowKit Go.Proofs.Ytpmamgdblbplcaa.HeapModel Go.Proofs.Ytpmamgdblbplcaa.Bg
open Go.Proofs.YtpmamgdblbplcaaW.PrintWords (QRow q_of_own q_move q_lt q_cells q_drop q_append cut_from)
set_option linter.unusedVariables false
set_option linter.unusedSimpArgs false
theorem inf3 : (Try.prog.info? 3).map (fun i => (i.zero, i.size, i.bytes)) = some (some (.int .i64 0), 1, 8) := by kernel_rfl

/-- a ring with s in it, a row that reads l -/
def RA (w0 w : World) (p cap : Nat) (s l : List Int) (A : Option Addr) (n c : Nat) : Prop :=
  ∃ F, Rg.RObj w F p cap s ∧ (∀ k, F k → w0.heap.size ≤ k) ∧ Below w0.heap.size w0 w ∧ QRow w w0.heap.size 3 1 (.slice A n c) n (l.map (Value.int .i64)) ∧ (∀ k, (Value.slice A n c).ownBlock = some k → ¬ F k)
/-- and the operation that was read -/
def RB (w0 w : World) (p cap : Nat) (s l : List Int) (A : Option Addr) (n c O : Nat) (os : List Value) : Prop :=
  ∃ F, Rg.RObj w F p cap s ∧ (∀ k, F k → w0.heap.size ≤ k) ∧ Below w0.heap.size w0 w ∧ QRow w w0.heap.size 3 1 (.slice A n c) n (l.map (Value.int .i64)) ∧ (∀ k, (Value.slice A n c).ownBlock = some k → ¬ F k) ∧
    ArrV w O 29 os ∧ ¬ F O ∧ (Value.slice A n c).ownBlock ≠ some O ∧ w0.heap.size ≤ O
section
variable {w0 w : World} {p cap n c O : Nat} {s l : List Int} {A : Option Addr} {os : List Value}
theorem RA.bel (h : RA w0 w p cap s l A n c) : Below w0.heap.size w0 w := by obtain ⟨F, h1, h2, h3, h4⟩ := h; exact h3
theorem RA.nums (h : RA w0 w p cap s l A n c) : l.length = n ∧ s.length ≤ cap := by
  obtain ⟨F, h1, h2, h3, h4, h5⟩ := h
  have := h4.1
  rw [List.length_map] at this
  exact ⟨by omega, h1.le.1⟩
theorem RB.nums (h : RB w0 w p cap s l A n c O os) : l.length = n ∧ s.length ≤ cap := by
  obtain ⟨F, h1, h2, h3, h4, h5⟩ := h
  have := h4.1
  rw [List.length_map] at this
  exact ⟨by omega, h1.le.1⟩
theorem RB.bel (h : RB w0 w p cap s l A n c O os) : Below w0.heap.size w0 w := by obtain ⟨F, h1, h2, h3, h4⟩ := h; exact h3
theorem RB.ra (h : RB w0 w p cap s l A n c O os) : RA w0 w p cap s l A n c := by
  obtain ⟨F, h1, h2, h3, h4, h5, h6⟩ := h
  exact ⟨F, h1, h2, h3, h4, h5⟩
theorem RA.below {w' : World} (h : RA w0 w p cap s l A n c) (hb : Below w.heap.size w w') : RA w0 w' p cap s l A n c := by
  obtain ⟨F, h1, h2, h3, h4, h5⟩ := h
  exact ⟨F, h1.below hb, h2, bel_more h3 hb, q_move h4 (fun k hk => hb.block k (q_lt h4 k hk)), h5⟩
theorem RB.below {w' : World} (h : RB w0 w p cap s l A n c O os) (hb : Below w.heap.size w w') : RB w0 w' p cap s l A n c O os := by
  obtain ⟨F, h1, h2, h3, h4, h5, h6, h7, h8, h9⟩ := h
  exact ⟨F, h1.below hb, h2, bel_more h3 hb, q_move h4 (fun k hk => hb.block k (q_lt h4 k hk)), h5, h6.below hb, h7, h8, h9⟩
theorem RB.touch {w' : World} {F : Nat → Prop} {s' : List Int} (h2 : ∀ k, F k → w0.heap.size ≤ k) (h3 : Below w0.heap.size w0 w) (h4 : QRow w w0.heap.size 3 1 (.slice A n c) n (l.map (Value.int .i64)))
    (h5 : ∀ k, (Value.slice A n c).ownBlock = some k → ¬ F k) (h6 : ArrV w O 29 os) (h7 : ¬ F O) (h8 : (Value.slice A n c).ownBlock ≠ some O) (h9 : w0.heap.size ≤ O) (hn : Rg.RObj w' F p cap s') (ht : Hp.Touch F w w') : RB w0 w' p cap s' l A n c O os :=
  ⟨F, hn, h2, bel_touch h3 h2 ht, q_move h4 (fun k hk => ht.block k (q_lt h4 k hk) (h5 k hk)), h5, h6.touch ht h7, h7, h8, h9⟩
theorem RA.start (h : R1 w0 w p cap []) : RA w0 w p cap [] [] none 0 0 := by
  obtain ⟨F, h1, h2, h3⟩ := h
  exact ⟨F, h1, h2, h3, q_of_own (World.ownsRow_nil _ _ _ _), fun k hk => by simp [Value.ownBlock] at hk⟩
theorem RA.op (h : RA w0 w p cap s l A n c) (os : List Value) : RB w0 (w.alloc (.cells os.toArray 29)) p cap s l A n c w.heap.size os := by
  have b1 : Below w.heap.size w (w.alloc (.cells os.toArray 29)) := (Below.refl _ _).alloc (Nat.le_refl _) _
  have hl := h
  obtain ⟨F, h1, h2, h3, h4, h5⟩ := h
  exact ⟨F, h1.below b1, h2, bel_more h3 b1, q_move h4 (fun k hk => b1.block k (q_lt h4 k hk)), h5, heap_alloc_new w _, fun c => absurd (h1.lt c) (Nat.lt_irrefl _), fun c => absurd (q_lt h4 _ c) (Nat.lt_irrefl _), h3.size⟩
theorem RB.cell (h : RB w0 w p cap s l A n c O os) (k : Nat) : w.cell? ⟨O, k, none⟩ = os[k]? := by
  obtain ⟨F, h1, h2, h3, h4, h5, h6, h7, h8, h9⟩ := h
  exact h6.cell k
theorem RB.read (h : RB w0 w p cap s l A n c O os) (hn : 0 < n) : ∃ ad, A = some ad ∧ ∀ k, k < n → w.cell? (ad.add k) = some (.int .i64 (l.getD k 0)) := by
  have hl := h.nums.1
  obtain ⟨F, h1, h2, h3, h4, h5, h6, h7, h8, h9⟩ := h
  obtain ⟨ad, e, hc⟩ := q_cells h4 hn
  refine ⟨ad, e, fun k hk => hc k _ ?_⟩
  rw [List.getElem?_map, List.getD_eq_getElem?_getD, List.getElem?_eq_getElem (by omega)]
  rfl
theorem rb_put (h : RB w0 w p cap s l A n c O os) (v : Int) (hn : s.length < cap) :
    Calls Try.prog 42 #[.pointer (some ⟨p, 0, none⟩), .int .i64 v] w fun e w' => e = .returned (.bool true) ∧ RB w0 w' p cap (s ++ [v]) l A n c O os := by
  obtain ⟨F, h1, h2, h3, h4, h5, h6, h7, h8, h9⟩ := h
  refine (Rg.obj_put h1 v hn).mono ?_
  rintro e w' ⟨rfl, h10, h11⟩
  exact ⟨rfl, RB.touch h2 h3 h4 h5 h6 h7 h8 h9 h10 h11⟩
theorem rb_full (h : RB w0 w p cap s l A n c O os) (v : Int) (hn : ¬ s.length < cap) :
    Calls Try.prog 42 #[.pointer (some ⟨p, 0, none⟩), .int .i64 v] w fun e w' => e = .returned (.bool false) ∧ RB w0 w' p cap s l A n c O os := by
  have h0 := h
  obtain ⟨F, h1, h2⟩ := h
  refine (Rg.obj_full h1 v hn).mono ?_
  rintro e w' ⟨rfl, h10, h11⟩
  exact ⟨rfl, h0.below h11⟩
theorem rb_take {x : Int} {t : List Int} (h : RB w0 w p cap (x :: t) l A n c O os) :
    Calls Try.prog 44 #[.pointer (some ⟨p, 0, none⟩)] w fun e w' => e = .returned (.tuple #[.int .i64 x, .bool true]) ∧ RB w0 w' p cap t l A n c O os := by
  obtain ⟨F, h1, h2, h3, h4, h5, h6, h7, h8, h9⟩ := h
  refine (Rg.obj_take h1).mono ?_
  rintro e w' ⟨rfl, h10, h11⟩
  exact ⟨rfl, RB.touch h2 h3 h4 h5 h6 h7 h8 h9 h10 h11⟩
theorem rb_take_no (h : RB w0 w p cap [] l A n c O os) :
    Calls Try.prog 44 #[.pointer (some ⟨p, 0, none⟩)] w fun e w' => e = .returned (.tuple #[.int .i64 0, .bool false]) ∧ w' = w := by
  obtain ⟨F, h1, h2⟩ := h
  exact Rg.obj_take_no h1
theorem rb_at (h : RB w0 w p cap s l A n c O os) (i : Nat) (hi : i < s.length) : Calls Try.prog 61 #[.pointer (some ⟨p, 0, none⟩), .int .i64 i] w fun e w' => e = .returned (.tuple #[.int .i64 (s.getD i 0), .bool true]) ∧ RB w0 w' p cap s l A n c O os := by
  have h0 := h
  obtain ⟨F, h1, h2⟩ := h
  refine (Rg.obj_at h1 i hi).mono ?_
  rintro e w' ⟨rfl, h4, h5⟩
  exact ⟨rfl, h0.below h5⟩
theorem rb_at_no (h : RB w0 w p cap s l A n c O os) (i : Int) (hi : i < 0 ∨ (s.length : Int) ≤ i) : Calls Try.prog 61 #[.pointer (some ⟨p, 0, none⟩), .int .i64 i] w fun e w' => e = .returned (.tuple #[.int .i64 0, .bool false]) ∧ w' = w := by
  obtain ⟨F, h1, h2⟩ := h
  exact Rg.obj_at_no h1 i hi
theorem rb_first {z : Int} {t : List Int} (h : RB w0 w p cap (z :: t) l A n c O os) : Calls Try.prog 62 #[.pointer (some ⟨p, 0, none⟩)] w fun e w' => e = .returned (.tuple #[.int .i64 z, .bool true]) ∧ RB w0 w' p cap (z :: t) l A n c O os :=
  r1_first_of (rb_at h 0 (by simp))
theorem rb_first_no (h : RB w0 w p cap [] l A n c O os) : Calls Try.prog 62 #[.pointer (some ⟨p, 0, none⟩)] w fun e w' => e = .returned (.tuple #[.int .i64 0, .bool false]) ∧ w' = w :=
  r1_first_of (Q := fun w' => w' = w) (rb_at_no h 0 (Or.inr (by simp)))
theorem rb_len (h : RB w0 w p cap s l A n c O os) (hs : s.length = n) : Calls Try.prog 43 #[.pointer (some ⟨p, 0, none⟩)] w fun e w' => e = .returned (.int .i64 (n : Int)) ∧ w' = w := by
  obtain ⟨F, h1, h2⟩ := h
  rw [← hs]
  exact Rg.obj_len h1
theorem rb_room {M : Int} (h : RB w0 w p cap s l A n c O os) (hs : s.length = n) (hM : (cap : Int) = M) : Calls Try.prog 63 #[.pointer (some ⟨p, 0, none⟩)] w fun e w' => e = .returned (.int .i64 (M - (n : Int))) ∧ RB w0 w' p cap s l A n c O os := by
  have h0 := h
  obtain ⟨F, h1, h2⟩ := h
  rw [← hs, ← hM]
  refine (Rg.obj_room h1).mono ?_
  rintro e w' ⟨rfl, h4, h5⟩
  exact ⟨rfl, by rw [hs]; exact h0.below h5⟩
theorem rb_append (h : RB w0 w p cap s l A n c O os) (x : Int) (hn : n ≤ 1000) :
    ∃ A' c' w', (Builtin.append_ #[47, 47] 47 #[.slice A n c, .slice (some ⟨w.heap.size, 0, none⟩) 1 1]).run Try.prog (w.alloc (.cells #[.int .i64 x] 3)) = .ok (.slice A' (n + 1) c') w' ∧ RB w0 w' p cap s (l ++ [x]) A' (n + 1) c' O os := by
  have b1 : Below w.heap.size w (w.alloc (.cells #[.int .i64 x] 3)) := (Below.refl _ _).alloc (Nat.le_refl _) _
  have h' := h.below b1
  have hold := h
  obtain ⟨i0, hi, hz0, hz1, hz2⟩ := info_parts inf3
  obtain ⟨G, g1, g2, g3, g4, g5, g6, g7, g8, g9⟩ := hold
  obtain ⟨F, h1, h2, h3, h4, h5, h6, h7, h8, h9⟩ := h'
  obtain ⟨v', w', hr, hq, hg, hat⟩ := q_append (P := Try.prog) (w.alloc (.cells #[.int .i64 x] 3)) w0.heap.size 47 47 3 i0 _ 1 8 Try.underlying47 hi hz0 hz1 hz2 rfl (by omega) _ _ _ h4 ⟨w.heap.size, 0, none⟩ 1 1 [.int .i64 x] rfl
    (cell_one_new _ _ _)
    (by intro u hu; simp at hu; subst hu; rfl) (by omega) (by unfold maxLen; omega) (by omega) h3.size
  obtain ⟨A', c', e, _⟩ := Go.Proofs.YtpmamgdblbplcaaW.PrintWords.q_slice hq
  subst e
  have hFlt : ∀ k, F k → k < (w.alloc (.cells #[.int .i64 x] 3)).heap.size := fun k hk => h1.lt hk
  have hOlt : O < (w.alloc (.cells #[.int .i64 x] 3)).heap.size := h6.lt
  refine ⟨A', c', w', hr, F, h1.move (fun k hk => hg.block k (hFlt k hk) (fun e => h5 k e.symm hk)), h2, h3.grown hg h3.size (fun k hk => ?_), ?_, fun k hk => ?_, h6.move (hg.block O hOlt (fun e => h8 e.symm)), h7, fun e => ?_, h9⟩
  · exact (Go.Proofs.YtpmamgdblbplcaaW.PrintWords.q_typed h4 k hk).1
  · rw [List.map_append]; exact hq
  · rcases hat with hat | ⟨b, hb, hle⟩
    · exact h5 k (hat ▸ hk)
    · rw [hb] at hk; injection hk with hk; subst hk
      exact fun c => absurd (hFlt b c) (by omega)
  · rcases hat with hat | ⟨b, hb, hle⟩
    · exact h8 (hat ▸ e)
    · rw [hb] at e; injection e with e; omega
theorem rb_cut {x : Int} {t : List Int} (h : RB w0 w p cap s (x :: t) A (n + 1) c O os) :
    ∃ A', (Instr.slice 47 (.slice A (n + 1) c) (some (.int .i64 1)) none none).run Try.prog w = .ok (.slice A' n (c - 1)) w ∧ RB w0 w p cap s t A' n (c - 1) O os := by
  obtain ⟨i0, hi, hz0, hz1, hz2⟩ := info_parts inf3
  have hr := cut_from (P := Try.prog) 47 3 .i64 Try.underlying47 hi 1 hz1 A (n + 1) c 1 (by omega) (by omega) w
  simp only [Int.toNat_one, Nat.add_sub_cancel] at hr
  obtain ⟨F, h1, h2, h3, h4, h5, h6, h7, h8, h9⟩ := h
  have hq := q_drop h4 (k := 1) (by omega)
  simp only [Nat.add_sub_cancel, List.map_cons, Nat.mul_one] at hq
  have hblk : ∀ k, (Value.slice (if c = 1 then A else A.map (·.add (1 * 1))) n (c - 1)).ownBlock = some k → (Value.slice A (n + 1) c).ownBlock = some k := by
    intro k hk
    cases A with
    | none => split at hk <;> simp [Value.ownBlock] at hk
    | some a =>
      split at hk
      · simpa [Value.ownBlock] using hk
      · simp only [Option.map_some, Value.ownBlock, Option.some.injEq] at hk ⊢
        rw [← hk]
        unfold Addr.add
        split <;> rfl
  exact ⟨_, hr, F, h1, h2, h3, hq, fun k hk => h5 k (hblk k hk), h6, h7, fun e => h8 (hblk _ e), h9⟩
end
end Go.Proofs.Ytpmamgdblbplcaa.On
