/- A line and the reference's heap side by side; a row of what is due. -/
import Derived.Test.YtpmamgdblbplcaaRefC
import Derived.Test.YtpmamgdblbplcaaWalkLineOrder
namespace Go.Proofs.Ytpmamgdblbplcaa.On
open Go.RowKit Go.Proofs.Ytpmamgdblbplcaa.HeapModel Go.Proofs.Ytpmamgdblbplcaa.Bg
open Go.Proofs.Ytpmamgdblbplcaa.Rf (FObj)
set_option linter.unusedVariables false
set_option linter.unusedSimpArgs false

/-- a heap with s in it, a reference's heap with t in it -/
def RL (w0 w : World) (ph pf : Nat) (room : Int) (s : List (It Int)) (when : Int) (t : List (It Int)) : Prop :=
  ∃ F G, Ln.LObj w F ph room s when ∧ FObj w G pf room t ∧ (∀ k, F k → ¬ G k) ∧ (∀ k, F k → w0.heap.size ≤ k) ∧ (∀ k, G k → w0.heap.size ≤ k) ∧ Below w0.heap.size w0 w
/-- and the operation that was read -/
def RLD (w0 w : World) (ph pf : Nat) (room : Int) (s : List (It Int)) (when : Int) (t : List (It Int)) (O : Nat) (os : List Value) (v : Value) (d : List Int) : Prop :=
  ∃ F G, Ln.LObj w F ph room s when ∧ FObj w G pf room t ∧ (∀ k, F k → ¬ G k) ∧ (∀ k, F k → w0.heap.size ≤ k) ∧ (∀ k, G k → w0.heap.size ≤ k) ∧ Below w0.heap.size w0 w ∧ ArrV w O 29 os ∧ ¬ F O ∧ ¬ G O ∧ w.ownsRow 0 3 1 v d.length (d.map (Value.int .i64)) ∧ (∀ k, v.ownBlock = some k → ¬ F k ∧ ¬ G k ∧ k ≠ O)
section
variable {w0 w : World} {ph pf O : Nat} {room when : Int} {s t : List (It Int)} {os : List Value} {v : Value} {d : List Int}
theorem RL.bel (h : RL w0 w ph pf room s when t) : Below w0.heap.size w0 w := by obtain ⟨F, G, h1, h2, h3, h4, h5, h6⟩ := h; exact h6
theorem RLD.bel (h : RLD w0 w ph pf room s when t O os v d) : Below w0.heap.size w0 w := by obtain ⟨F, G, h1, h2, h3, h4, h5, h6, _⟩ := h; exact h6
theorem RLD.rl (h : RLD w0 w ph pf room s when t O os v d) : RL w0 w ph pf room s when t := by obtain ⟨F, G, h1, h2, h3, h4, h5, h6, _⟩ := h; exact ⟨F, G, h1, h2, h3, h4, h5, h6⟩
theorem RL.few (h : RL w0 w ph pf room s when t) : s.length ≤ 1000 := by obtain ⟨F, G, h1, _⟩ := h; exact h1.few
theorem RL.keys (h : RL w0 w ph pf room s when t) : (s.map (·.v)).Nodup := by obtain ⟨F, G, h1, _⟩ := h; exact h1.keys
theorem RL.chron (h : RL w0 w ph pf room s when t) : HeapModel.chron s := by obtain ⟨F, G, h1, _⟩ := h; exact h1.chron
theorem RL.fit (h : RL w0 w ph pf room s when t) {x : It Int} (hx : x ∈ s) : Hp.fits x.v := by obtain ⟨F, G, h1, _⟩ := h; exact h1.fit hx
theorem row_move {w w' : World} {v : Value} {n : Nat} {xs : List Value} (h : w.ownsRow 0 3 1 v n xs) (hb : ∀ k, v.ownBlock = some k → w'.heap[k]? = w.heap[k]?) : w'.ownsRow 0 3 1 v n xs := by
  refine ⟨h.1, ?_⟩
  rcases h.2 with c | ⟨g, cap, cur, h3, h4, h5, h6⟩
  · exact Or.inl c
  · exact Or.inr ⟨g, cap, cur, h3, h4, (hb g (by rw [h3]; rfl)).trans h5, h6⟩
theorem row_lt {w : World} {v : Value} {n : Nat} {xs : List Value} (h : w.ownsRow 0 3 1 v n xs) {k : Nat} (hk : v.ownBlock = some k) : k < w.heap.size := by
  rcases h.2 with ⟨c, _⟩ | ⟨g, cap, cur, h3, h4, h5, h6⟩
  · rw [c] at hk; simp [Value.ownBlock] at hk
  · rw [h3] at hk
    have : g = k := by simpa [Value.ownBlock] using hk
    subst this
    exact (Array.getElem?_eq_some_iff.1 h5).1
theorem RLD.below {w' : World} (h : RLD w0 w ph pf room s when t O os v d) (hb : Below w.heap.size w w') : RLD w0 w' ph pf room s when t O os v d := by
  obtain ⟨F, G, h1, h2, h3, h4, h5, h6, h7, h8, h9, h10, h11⟩ := h
  exact ⟨F, G, h1.below hb, h2.below hb, h3, h4, h5, bel_more h6 hb, h7.below hb, h8, h9, row_move h10 (fun k hk => hb.block k (row_lt h10 hk)), h11⟩
theorem RLD.cell (h : RLD w0 w ph pf room s when t O os v d) (k : Nat) : w.cell? ⟨O, k, none⟩ = os[k]? := by
  obtain ⟨F, G, h1, h2, h3, h4, h5, h6, h7, h8, h9, h10, h11⟩ := h
  exact h7.cell k
theorem RLD.three {a b c e : Int} (h : RLD w0 w ph pf room s when t O [.int .i64 a, .int .i64 b, .int .i64 c, .int .i64 e] v d) : w.cell? ⟨O, 1, none⟩ = some (.int .i64 b) ∧ w.cell? ⟨O, 2, none⟩ = some (.int .i64 c) ∧ w.cell? ⟨O, 3, none⟩ = some (.int .i64 e) :=
  ⟨h.cell 1, h.cell 2, h.cell 3⟩
theorem RL.op (h : RL w0 w ph pf room s when t) (os : List Value) : RLD w0 (w.alloc (.cells os.toArray 29)) ph pf room s when t w.heap.size os (.slice none 0 0) [] := by
  have b1 : Below w.heap.size w (w.alloc (.cells os.toArray 29)) := (Below.refl _ _).alloc (Nat.le_refl _) _
  obtain ⟨F, G, h1, h2, h3, h4, h5, h6⟩ := h
  exact ⟨F, G, h1.below b1, h2.below b1, h3, h4, h5, bel_more h6 b1, heap_alloc_new w _, fun c => absurd (h1.lt c) (Nat.lt_irrefl _), fun c => absurd (h2.lt c) (Nat.lt_irrefl _), World.ownsRow_nil _ _ _ _, fun k hk => by simp [Value.ownBlock] at hk⟩
theorem RLD.turnL {w' : World} {F G F' : Nat → Prop} {s' : List (It Int)} {when' : Int} (h2 : FObj w G pf room t) (h3 : ∀ k, F k → ¬ G k) (h4 : ∀ k, F k → w0.heap.size ≤ k) (h5 : ∀ k, G k → w0.heap.size ≤ k) (h6 : Below w0.heap.size w0 w) (h7 : ArrV w O 29 os) (h8 : ¬ F O) (h9 : ¬ G O) (h10 : w.ownsRow 0 3 1 v d.length (d.map (Value.int .i64))) (h11 : ∀ k, v.ownBlock = some k → ¬ F k ∧ ¬ G k ∧ k ≠ O)
    (hn : Ln.LObj w' F' ph room s' when') (ht : Hp.Touch F w w') (hF : ∀ k, F' k → F k ∨ w.heap.size ≤ k) : RLD w0 w' ph pf room s' when' t O os v d := by
  refine ⟨F', G, hn, h2.touch ht (fun k hk c => h3 k c hk), fun k hk c => ?_, fun k hk => ?_, h5, bel_touch h6 h4 ht, h7.touch ht h8, fun c => ?_, h9, row_move h10 (fun k hk => ht.block k (row_lt h10 hk) (h11 k hk).1), fun k hk => ⟨fun c => ?_, (h11 k hk).2⟩⟩
  · rcases hF k hk with d | d
    · exact h3 k d c
    · have := h2.lt c; omega
  · rcases hF k hk with d | d
    · exact h4 k d
    · exact Nat.le_trans h6.size d
  · rcases hF O c with d | d
    · exact h8 d
    · have := h7.lt; omega
  · rcases hF k c with d | d
    · exact (h11 k hk).1 d
    · have := row_lt h10 hk; omega
theorem RLD.turnF {w' : World} {F G G' : Nat → Prop} {t' : List (It Int)} (h1 : Ln.LObj w F ph room s when) (h3 : ∀ k, F k → ¬ G k) (h4 : ∀ k, F k → w0.heap.size ≤ k) (h5 : ∀ k, G k → w0.heap.size ≤ k) (h6 : Below w0.heap.size w0 w) (h7 : ArrV w O 29 os) (h8 : ¬ F O) (h9 : ¬ G O) (h10 : w.ownsRow 0 3 1 v d.length (d.map (Value.int .i64))) (h11 : ∀ k, v.ownBlock = some k → ¬ F k ∧ ¬ G k ∧ k ≠ O)
    (hn : FObj w' G' pf room t') (ht : Hp.Touch G w w') (hG : ∀ k, G' k → G k ∨ w.heap.size ≤ k) : RLD w0 w' ph pf room s when t' O os v d := by
  refine ⟨F, G', h1.touch ht h3, hn, fun k hk c => ?_, h4, fun k hk => ?_, bel_touch h6 h5 ht, h7.touch ht h9, h8, fun c => ?_, row_move h10 (fun k hk => ht.block k (row_lt h10 hk) (h11 k hk).2.1), fun k hk => ⟨(h11 k hk).1, fun c => ?_, (h11 k hk).2.2⟩⟩
  · rcases hG k c with d | d
    · exact h3 k hk d
    · have := h1.lt hk; omega
  · rcases hG k hk with d | d
    · exact h5 k d
    · exact Nat.le_trans h6.size d
  · rcases hG O c with d | d
    · exact h9 d
    · have := h7.lt; omega
  · rcases hG k c with d | d
    · exact (h11 k hk).2.1 d
    · have := row_lt h10 hk; omega
theorem lp_put (h : RLD w0 w ph pf room s when t O os v d) (k a : Int) (hk : Hp.fits k) (hw' : when < 4611686018427387904) (hr : has s k = true ∨ (s.length : Int) < room) :
    Calls Try.prog 65 #[.pointer (some ⟨ph, 0, none⟩), .int .i64 k, .int .i64 a] w fun e w' => e = .returned (.bool true) ∧ RLD w0 w' ph pf room (without s k ++ [⟨k, a, 0, when + 1⟩]) (when + 1) t O os v d := by
  obtain ⟨F, G, h1, h2, h3, h4, h5, h6, h7, h8, h9, h10, h11⟩ := h
  refine (Ln.obj_put h1 k a hk hw' hr).mono ?_
  rintro e w' ⟨rfl, F', g1, g2, g3⟩
  exact ⟨rfl, RLD.turnL h2 h3 h4 h5 h6 h7 h8 h9 h10 h11 g1 g2 g3⟩
theorem lp_full (h : RLD w0 w ph pf room s when t O os v d) (k a : Int) (hk : Hp.fits k) (hs : has s k = false) (hr : ¬ (s.length : Int) < room) :
    Calls Try.prog 65 #[.pointer (some ⟨ph, 0, none⟩), .int .i64 k, .int .i64 a] w fun e w' => e = .returned (.bool false) ∧ RLD w0 w' ph pf room s when t O os v d := by
  have h0 := h
  obtain ⟨F, G, h1, _⟩ := h
  refine (Ln.obj_full h1 k a hk hs hr).mono ?_
  rintro e w' ⟨rfl, _, g2⟩
  exact ⟨rfl, h0.below g2⟩
theorem lp_drop (h : RLD w0 w ph pf room s when t O os v d) (k : Int) (hk : Hp.fits k) {b : Bool} (hb : has s k = b) :
    Calls Try.prog 68 #[.pointer (some ⟨ph, 0, none⟩), .int .i64 k] w fun e w' => e = .returned (.bool b) ∧ RLD w0 w' ph pf room (without s k) when t O os v d := by
  rw [← hb]
  obtain ⟨F, G, h1, h2, h3, h4, h5, h6, h7, h8, h9, h10, h11⟩ := h
  refine (Ln.obj_drop h1 k hk).mono ?_
  rintro e w' ⟨rfl, g1, g2⟩
  exact ⟨rfl, RLD.turnL h2 h3 h4 h5 h6 h7 h8 h9 h10 h11 g1 g2 (fun k hk => Or.inl hk)⟩
theorem lp_next (h : RLD w0 w ph pf room s when t O os v d) {x : It Int} (hx : least s = some x) :
    Calls Try.prog 69 #[.pointer (some ⟨ph, 0, none⟩)] w fun e w' => e = .returned (.tuple #[.int .i64 x.a, .bool true]) ∧ RLD w0 w' ph pf room s when t O os v d := by
  have h0 := h
  obtain ⟨F, G, h1, _⟩ := h
  refine (Ln.obj_next h1 hx).mono ?_
  rintro e w' ⟨rfl, _, g2⟩
  exact ⟨rfl, h0.below g2⟩
theorem lp_next_no (h : RLD w0 w ph pf room [] when t O os v d) : Calls Try.prog 69 #[.pointer (some ⟨ph, 0, none⟩)] w fun e w' => e = .returned (.tuple #[.int .i64 0, .bool false]) ∧ w' = w := by
  obtain ⟨F, G, h1, _⟩ := h
  exact Ln.obj_next_no h1
theorem lp_len (h : RLD w0 w ph pf room s when t O os v d) : Calls Try.prog 67 #[.pointer (some ⟨ph, 0, none⟩)] w fun e w' => e = .returned (.int .i64 s.length) ∧ w' = w := by
  obtain ⟨F, G, h1, _⟩ := h
  exact Ln.obj_len h1
theorem lp_due (h : RLD w0 w ph pf room s when t O os v d) (now : Int) : Calls Try.prog 66 #[.pointer (some ⟨ph, 0, none⟩), .int .i64 now] w fun e w' => ∃ A c, e = .returned (.slice A (dueM s now).1.length c) ∧ RLD w0 w' ph pf room (dueM s now).2 when t O os (.slice A (dueM s now).1.length c) (dueM s now).1 := by
  obtain ⟨F, G, h1, h2, h3, h4, h5, h6, h7, h8, h9, h10, h11⟩ := h
  refine (Ln.obj_due h1 now).mono ?_
  rintro e w' ⟨v', rfl, g1, g2, g3⟩
  obtain ⟨A, c, ev, _⟩ := RowI.open ⟨_, g1⟩
  subst ev
  have base : ∀ k, (Value.slice A (dueM s now).1.length c).ownBlock = some k → w.heap.size ≤ k := by
    intro k hk
    rcases g1.2 with ⟨c2, _⟩ | ⟨g5, cap5, cur5, c2, c4, _⟩
    · rw [c2] at hk; simp [Value.ownBlock] at hk
    · rw [c2] at hk
      have : g5 = k := by simpa [Value.ownBlock] using hk
      omega
  refine ⟨A, c, rfl, F, G, g2, h2.touch g3 (fun k hk c => h3 k c hk), h3, h4, h5, bel_touch h6 h4 g3, h7.touch g3 h8, h8, h9, ?_, fun k hk => ⟨fun c => ?_, fun c => ?_, fun c => ?_⟩⟩
  · refine ⟨g1.1, ?_⟩
    rcases g1.2 with c2 | ⟨g5, cap5, cur5, c2, c4, c5⟩
    · exact Or.inl c2
    · exact Or.inr ⟨g5, cap5, cur5, c2, Nat.zero_le _, c5⟩
  · have := h1.lt c; have := base k hk; omega
  · have := h2.lt c; have := base k hk; omega
  · have := h7.lt; have := base k hk; omega
theorem RLD.row {A : Option Addr} {n c : Nat} (h : RLD w0 w ph pf room s when t O os (.slice A n c) d) (k : Nat) (hk : k < d.length) : ∃ x, A = some x ∧ n = d.length ∧ n ≤ c ∧ c ≤ maxLen ∧ w.cell? (x.add k) = some (.int .i64 (d.getD k 0)) := by
  obtain ⟨F, G, h1, h2, h3, h4, h5, h6, h7, h8, h9, h10, h11⟩ := h
  obtain ⟨A', c', e, g1, g2, g3⟩ := RowI.open (w := w) ⟨_, h10⟩
  injection e with e1 e2 e3
  subst e1; subst e3
  obtain ⟨x, ex, hc⟩ := g3 k hk
  exact ⟨x, ex, e2, by omega, g2, hc⟩
theorem lfp_put (h : RLD w0 w ph pf room s when t O os v d) (hl : t.length ≤ 1000) (hn : (t.map (·.v)).Nodup) (k a b m : Int) (hr : has t k = true ∨ (t.length : Int) < room) :
    Calls Try.prog 26 #[.pointer (some ⟨pf, 0, none⟩), .int .i64 k, .int .i64 a, .int .i64 b] w fun e w' => e = .returned (.bool true) ∧ RLD w0 w' ph pf room s when (without t k ++ [⟨k, a, b, m⟩]) O os v d := by
  obtain ⟨F, G, h1, h2, h3, h4, h5, h6, h7, h8, h9, h10, h11⟩ := h
  cases hk : has t k with
  | true =>
    refine (Rf.f_put_yes h2 hl hn k a b m hk).mono ?_
    rintro e w' ⟨rfl, F', g1, g2, g3⟩
    exact ⟨rfl, RLD.turnF h1 h3 h4 h5 h6 h7 h8 h9 h10 h11 g1 g2 g3⟩
  | false =>
    refine (Rf.f_put_new h2 hl k a b m hk (hr.resolve_left (by rw [hk]; simp))).mono ?_
    rintro e w' ⟨rfl, F', g1, g2, g3⟩
    exact ⟨rfl, RLD.turnF h1 h3 h4 h5 h6 h7 h8 h9 h10 h11 g1 g2 g3⟩
theorem lfp_full (h : RLD w0 w ph pf room s when t O os v d) (hl : t.length ≤ 1000) (k a b : Int) (hk : has t k = false) (hr : ¬ (t.length : Int) < room) :
    Calls Try.prog 26 #[.pointer (some ⟨pf, 0, none⟩), .int .i64 k, .int .i64 a, .int .i64 b] w fun e w' => e = .returned (.bool false) ∧ RLD w0 w' ph pf room s when t O os v d := by
  have h0 := h
  obtain ⟨F, G, h1, h2, _⟩ := h
  refine (Rf.f_put_full h2 hl k a b hk hr).mono ?_
  rintro e w' ⟨rfl, _, g2⟩
  exact ⟨rfl, h0.below g2⟩
theorem lfp_drop (h : RLD w0 w ph pf room s when t O os v d) (hl : t.length ≤ 1000) (hn : (t.map (·.v)).Nodup) (k : Int) {b : Bool} (hb : has t k = b) :
    Calls Try.prog 30 #[.pointer (some ⟨pf, 0, none⟩), .int .i64 k] w fun e w' => e = .returned (.bool b) ∧ RLD w0 w' ph pf room s when (without t k) O os v d := by
  have h0 := h
  obtain ⟨F, G, h1, h2, h3, h4, h5, h6, h7, h8, h9, h10, h11⟩ := h
  cases b with
  | true =>
    refine (Rf.f_drop_yes h2 hl hn k hb).mono ?_
    rintro e w' ⟨rfl, F', g1, g2, g3⟩
    exact ⟨rfl, RLD.turnF h1 h3 h4 h5 h6 h7 h8 h9 h10 h11 g1 g2 g3⟩
  | false =>
    rw [without_of_not hb]
    refine (Rf.f_drop_no h2 hl k hb).mono ?_
    rintro e w' ⟨rfl, rfl⟩
    exact ⟨rfl, h0⟩
theorem lfp_take (h : RLD w0 w ph pf room s when t O os v d) (hc : HeapModel.chron t) (hn : (t.map (·.v)).Nodup) (hl : t.length ≤ 1000) {x : It Int} (hx : least t = some x) :
    Calls Try.prog 28 #[.pointer (some ⟨pf, 0, none⟩)] w fun e w' => e = .returned (.tuple #[.int .i64 x.v, .bool true]) ∧ RLD w0 w' ph pf room s when (without t x.v) O os v d := by
  obtain ⟨F, G, h1, h2, h3, h4, h5, h6, h7, h8, h9, h10, h11⟩ := h
  refine (Rf.f_take h2 hc hn hl hx).mono ?_
  rintro e w' ⟨rfl, F', g1, g2, g3⟩
  exact ⟨rfl, RLD.turnF h1 h3 h4 h5 h6 h7 h8 h9 h10 h11 g1 g2 g3⟩
theorem lfp_take_no (h : RLD w0 w ph pf room s when [] O os v d) :
    Calls Try.prog 28 #[.pointer (some ⟨pf, 0, none⟩)] w fun e w' => e = .returned (.tuple #[.int .i64 0, .bool false]) ∧ w' = w := by
  obtain ⟨F, G, h1, h2, _⟩ := h
  exact Rf.f_take_no h2
theorem lfp_first (h : RLD w0 w ph pf room s when t O os v d) (hc : HeapModel.chron t) (hl : t.length ≤ 1000) {x : Int} {b : Bool} (hv : Hp.firstV t = x) (hb : (least t).isSome = b) :
    Calls Try.prog 34 #[.pointer (some ⟨pf, 0, none⟩)] w fun e w' => e = .returned (.tuple #[.int .i64 x, .bool b]) ∧ RLD w0 w' ph pf room s when t O os v d := by
  rw [← hv, ← hb]
  have h0 := h
  obtain ⟨F, G, h1, h2, _⟩ := h
  cases hx : least t with
  | none =>
    obtain rfl := least_none.1 hx
    refine (Rf.f_first_no h2).mono ?_
    rintro e w' ⟨rfl, rfl⟩
    exact ⟨rfl, h0⟩
  | some x =>
    refine (Rf.f_first h2 hc hl hx).mono ?_
    rintro e w' ⟨rfl, _, g⟩
    exact ⟨by unfold Hp.firstV; rw [hx]; rfl, h0.below g⟩
theorem lfp_key (h : RLD w0 w ph pf room s when t O os v d) (hl : t.length ≤ 1000) (hn : (t.map (·.v)).Nodup) (x : It Int) (hx : x ∈ t) :
    Calls Try.prog 32 #[.pointer (some ⟨pf, 0, none⟩), .int .i64 x.v] w fun e w' => e = .returned (.tuple #[.int .i64 x.a, .int .i64 x.b, .bool true]) ∧ RLD w0 w' ph pf room s when t O os v d := by
  have h0 := h
  obtain ⟨F, G, h1, h2, _⟩ := h
  refine (Rf.f_key h2 hl hn x hx).mono ?_
  rintro e w' ⟨rfl, _, g⟩
  exact ⟨rfl, h0.below g⟩
theorem lfp_key_no (h : RLD w0 w ph pf room s when t O os v d) (hl : t.length ≤ 1000) (k : Int) (hk : has t k = false) :
    Calls Try.prog 32 #[.pointer (some ⟨pf, 0, none⟩), .int .i64 k] w fun e w' => e = .returned (.tuple #[.int .i64 0, .int .i64 0, .bool false]) ∧ w' = w := by
  obtain ⟨F, G, h1, h2, _⟩ := h
  exact Rf.f_key_no h2 hl k hk
theorem lfp_list (h : RLD w0 w ph pf room s when t O os v d) : ∃ A c, w.cell? ⟨pf, 1, none⟩ = some (.slice A t.length c) := by
  obtain ⟨F, G, h1, h2, _⟩ := h
  obtain ⟨A, c, _, h3⟩ := Rf.f_room_cell h2
  exact ⟨A, c, h3⟩
theorem rl_new {w1 : World} (h : LI1 w0 w ph room [] 0) {G : Nat → Prop} (h2 : FObj w1 G pf room []) (h3 : ∀ k, G k → w.heap.size ≤ k) (hb : Below w.heap.size w w1) : RL w0 w1 ph pf room [] 0 [] := by
  obtain ⟨F, g1, g2, g3⟩ := h
  refine ⟨F, G, g1.below hb, h2, fun k hk c => ?_, g2, fun k hk => Nat.le_trans g3.size (h3 k hk), bel_more g3 hb⟩
  have := g1.lt hk; have := h3 k c; omega
end
end Go.Proofs.Ytpmamgdblbplcaa.On
