/- A heap and the reference's heap side by side. -/
import Derived.Test.YtpmamgdblbplcaaRefC
import Derived.Test.YtpmamgdblbplcaaWalkHeapSort
namespace Go.Proofs.Ytpmamgdblbplcaa.On
open Go.RowKit Go.Proofs.Ytpmamgdblbplcaa.HeapModel Go.Proofs.Ytpmamgdblbplcaa.Bg
open Go.Proofs.Ytpmamgdblbplcaa.Rf (FObj)
set_option linter.unusedVariables false
set_option linter.unusedSimpArgs false

/-- a heap with s in it, a reference's heap with t in it -/
def RH (w0 w : World) (ph pf : Nat) (room : Int) (s : List (It Int)) (when : Int) (t : List (It Int)) : Prop :=
  ∃ F G, Hp.HObj w F ph room s when ∧ FObj w G pf room t ∧ (∀ k, F k → ¬ G k) ∧ (∀ k, F k → w0.heap.size ≤ k) ∧ (∀ k, G k → w0.heap.size ≤ k) ∧ Below w0.heap.size w0 w
/-- and the operation that was read -/
def RHO (w0 w : World) (ph pf : Nat) (room : Int) (s : List (It Int)) (when : Int) (t : List (It Int)) (O : Nat) (os : List Value) : Prop :=
  ∃ F G, Hp.HObj w F ph room s when ∧ FObj w G pf room t ∧ (∀ k, F k → ¬ G k) ∧ (∀ k, F k → w0.heap.size ≤ k) ∧ (∀ k, G k → w0.heap.size ≤ k) ∧ Below w0.heap.size w0 w ∧ ArrV w O 29 os ∧ ¬ F O ∧ ¬ G O
section
variable {w0 w : World} {ph pf O : Nat} {room when : Int} {s t : List (It Int)} {os : List Value}
theorem RH.bel (h : RH w0 w ph pf room s when t) : Below w0.heap.size w0 w := by obtain ⟨F, G, h1, h2, h3, h4, h5, h6⟩ := h; exact h6
theorem RHO.bel (h : RHO w0 w ph pf room s when t O os) : Below w0.heap.size w0 w := by obtain ⟨F, G, h1, h2, h3, h4, h5, h6, _⟩ := h; exact h6
theorem RHO.rh (h : RHO w0 w ph pf room s when t O os) : RH w0 w ph pf room s when t := by obtain ⟨F, G, h1, h2, h3, h4, h5, h6, _⟩ := h; exact ⟨F, G, h1, h2, h3, h4, h5, h6⟩
theorem RH.few (h : RH w0 w ph pf room s when t) : s.length ≤ 1000 := by obtain ⟨F, G, h1, _⟩ := h; exact h1.few
theorem RH.keys (h : RH w0 w ph pf room s when t) : (s.map (·.v)).Nodup := by obtain ⟨F, G, h1, _⟩ := h; exact h1.keys
theorem RH.chron (h : RH w0 w ph pf room s when t) : HeapModel.chron s := by obtain ⟨F, G, h1, _⟩ := h; exact h1.chron
theorem RH.fit (h : RH w0 w ph pf room s when t) {x : It Int} (hx : x ∈ s) : Hp.fits x.v := by obtain ⟨F, G, h1, _⟩ := h; exact h1.fit hx
theorem RHO.below {w' : World} (h : RHO w0 w ph pf room s when t O os) (hb : Below w.heap.size w w') : RHO w0 w' ph pf room s when t O os := by
  obtain ⟨F, G, h1, h2, h3, h4, h5, h6, h7, h8, h9⟩ := h
  exact ⟨F, G, h1.below hb, h2.below hb, h3, h4, h5, bel_more h6 hb, h7.below hb, h8, h9⟩
theorem RHO.cell (h : RHO w0 w ph pf room s when t O os) (k : Nat) : w.cell? ⟨O, k, none⟩ = os[k]? := by
  obtain ⟨F, G, h1, h2, h3, h4, h5, h6, h7, h8, h9⟩ := h
  exact h7.cell k
theorem RHO.three {a b c d : Int} (h : RHO w0 w ph pf room s when t O [.int .i64 a, .int .i64 b, .int .i64 c, .int .i64 d]) : w.cell? ⟨O, 1, none⟩ = some (.int .i64 b) ∧ w.cell? ⟨O, 2, none⟩ = some (.int .i64 c) ∧ w.cell? ⟨O, 3, none⟩ = some (.int .i64 d) :=
  ⟨h.cell 1, h.cell 2, h.cell 3⟩
theorem RH.op (h : RH w0 w ph pf room s when t) (os : List Value) : RHO w0 (w.alloc (.cells os.toArray 29)) ph pf room s when t w.heap.size os := by
  have b1 : Below w.heap.size w (w.alloc (.cells os.toArray 29)) := (Below.refl _ _).alloc (Nat.le_refl _) _
  obtain ⟨F, G, h1, h2, h3, h4, h5, h6⟩ := h
  exact ⟨F, G, h1.below b1, h2.below b1, h3, h4, h5, bel_more h6 b1, heap_alloc_new w _, fun c => absurd (h1.lt c) (Nat.lt_irrefl _), fun c => absurd (h2.lt c) (Nat.lt_irrefl _)⟩
theorem RHO.turnH {w' : World} {F G F' : Nat → Prop} {s' : List (It Int)} {when' : Int} (h2 : FObj w G pf room t) (h3 : ∀ k, F k → ¬ G k) (h4 : ∀ k, F k → w0.heap.size ≤ k) (h5 : ∀ k, G k → w0.heap.size ≤ k) (h6 : Below w0.heap.size w0 w) (h7 : ArrV w O 29 os) (h8 : ¬ F O) (h9 : ¬ G O)
    (hn : Hp.HObj w' F' ph room s' when') (ht : Hp.Touch F w w') (hF : ∀ k, F' k → F k ∨ w.heap.size ≤ k) : RHO w0 w' ph pf room s' when' t O os := by
  refine ⟨F', G, hn, h2.touch ht (fun k hk c => h3 k c hk), fun k hk c => ?_, fun k hk => ?_, h5, bel_touch h6 h4 ht, h7.touch ht h8, fun c => ?_, h9⟩
  · rcases hF k hk with d | d
    · exact h3 k d c
    · have := h2.lt c; omega
  · rcases hF k hk with d | d
    · exact h4 k d
    · exact Nat.le_trans h6.size d
  · rcases hF O c with d | d
    · exact h8 d
    · have := h7.lt; omega
theorem RHO.turnF {w' : World} {F G G' : Nat → Prop} {t' : List (It Int)} (h1 : Hp.HObj w F ph room s when) (h3 : ∀ k, F k → ¬ G k) (h4 : ∀ k, F k → w0.heap.size ≤ k) (h5 : ∀ k, G k → w0.heap.size ≤ k) (h6 : Below w0.heap.size w0 w) (h7 : ArrV w O 29 os) (h8 : ¬ F O) (h9 : ¬ G O)
    (hn : FObj w' G' pf room t') (ht : Hp.Touch G w w') (hG : ∀ k, G' k → G k ∨ w.heap.size ≤ k) : RHO w0 w' ph pf room s when t' O os := by
  refine ⟨F, G', h1.touch ht h3, hn, fun k hk c => ?_, h4, fun k hk => ?_, bel_touch h6 h5 ht, h7.touch ht h9, h8, fun c => ?_⟩
  · rcases hG k c with d | d
    · exact h3 k hk d
    · have := h1.lt hk; omega
  · rcases hG k hk with d | d
    · exact h5 k d
    · exact Nat.le_trans h6.size d
  · rcases hG O c with d | d
    · exact h9 d
    · have := h7.lt; omega
theorem hp_put (h : RHO w0 w ph pf room s when t O os) (k a b : Int) (hk : Hp.fits k) (hw' : when < 4611686018427387904) (hr : has s k = true ∨ (s.length : Int) < room) :
    Calls Try.prog 25 #[.pointer (some ⟨ph, 0, none⟩), .int .i64 k, .int .i64 a, .int .i64 b] w fun e w' => e = .returned (.bool true) ∧ RHO w0 w' ph pf room (without s k ++ [⟨k, a, b, when + 1⟩]) (when + 1) t O os := by
  obtain ⟨F, G, h1, h2, h3, h4, h5, h6, h7, h8, h9⟩ := h
  refine (Hp.obj_put h1 k a b hk hw' hr).mono ?_
  rintro e w' ⟨rfl, F', g1, g2, g3⟩
  exact ⟨rfl, RHO.turnH h2 h3 h4 h5 h6 h7 h8 h9 g1 g2 g3⟩
theorem hp_full (h : RHO w0 w ph pf room s when t O os) (k a b : Int) (hk : Hp.fits k) (hs : has s k = false) (hr : ¬ (s.length : Int) < room) :
    Calls Try.prog 25 #[.pointer (some ⟨ph, 0, none⟩), .int .i64 k, .int .i64 a, .int .i64 b] w fun e w' => e = .returned (.bool false) ∧ RHO w0 w' ph pf room s when t O os := by
  have h0 := h
  obtain ⟨F, G, h1, _⟩ := h
  refine (Hp.obj_full h1 k a b hk hs hr).mono ?_
  rintro e w' ⟨rfl, _, g2⟩
  exact ⟨rfl, h0.below g2⟩
theorem hp_drop (h : RHO w0 w ph pf room s when t O os) (k : Int) (hk : Hp.fits k) {b : Bool} (hb : has s k = b) :
    Calls Try.prog 29 #[.pointer (some ⟨ph, 0, none⟩), .int .i64 k] w fun e w' => e = .returned (.bool b) ∧ RHO w0 w' ph pf room (without s k) when t O os := by
  rw [← hb]
  obtain ⟨F, G, h1, h2, h3, h4, h5, h6, h7, h8, h9⟩ := h
  refine (Hp.obj_drop h1 k hk).mono ?_
  rintro e w' ⟨rfl, g1, g2⟩
  exact ⟨rfl, RHO.turnH h2 h3 h4 h5 h6 h7 h8 h9 g1 g2 (fun k hk => Or.inl hk)⟩
theorem hp_take (h : RHO w0 w ph pf room s when t O os) {x : It Int} (hx : least s = some x) :
    Calls Try.prog 27 #[.pointer (some ⟨ph, 0, none⟩)] w fun e w' => e = .returned (.tuple #[.int .i64 x.v, .bool true]) ∧ RHO w0 w' ph pf room (without s x.v) when t O os := by
  obtain ⟨F, G, h1, h2, h3, h4, h5, h6, h7, h8, h9⟩ := h
  refine (Hp.obj_take h1).mono ?_
  rintro e w' ⟨rfl, g1, g2⟩
  rw [hx] at g1
  exact ⟨by unfold Hp.firstV; rw [hx]; rfl, RHO.turnH h2 h3 h4 h5 h6 h7 h8 h9 g1 g2 (fun k hk => Or.inl hk)⟩
theorem hp_take_no (h : RHO w0 w ph pf room [] when t O os) :
    Calls Try.prog 27 #[.pointer (some ⟨ph, 0, none⟩)] w fun e w' => e = .returned (.tuple #[.int .i64 0, .bool false]) ∧ RHO w0 w' ph pf room [] when t O os := by
  obtain ⟨F, G, h1, h2, h3, h4, h5, h6, h7, h8, h9⟩ := h
  refine (Hp.obj_take h1).mono ?_
  rintro e w' ⟨rfl, g1, g2⟩
  exact ⟨rfl, RHO.turnH h2 h3 h4 h5 h6 h7 h8 h9 g1 g2 (fun k hk => Or.inl hk)⟩
theorem hp_first (h : RHO w0 w ph pf room s when t O os) {v : Int} {b : Bool} (hv : Hp.firstV s = v) (hb : (least s).isSome = b) :
    Calls Try.prog 33 #[.pointer (some ⟨ph, 0, none⟩)] w fun e w' => e = .returned (.tuple #[.int .i64 v, .bool b]) ∧ w' = w := by
  rw [← hv, ← hb]
  obtain ⟨F, G, h1, _⟩ := h
  exact Hp.obj_first h1
theorem hp_len (h : RHO w0 w ph pf room s when t O os) : Calls Try.prog 35 #[.pointer (some ⟨ph, 0, none⟩)] w fun e w' => e = .returned (.int .i64 s.length) ∧ w' = w := by
  obtain ⟨F, G, h1, _⟩ := h
  exact Hp.obj_len h1
theorem hp_key (h : RHO w0 w ph pf room s when t O os) (x : It Int) (hx : x ∈ s) :
    Calls Try.prog 31 #[.pointer (some ⟨ph, 0, none⟩), .int .i64 x.v] w fun e w' => e = .returned (.tuple #[.int .i64 x.a, .int .i64 x.b, .bool true]) ∧ RHO w0 w' ph pf room s when t O os := by
  have h0 := h
  obtain ⟨F, G, h1, _⟩ := h
  refine (Hp.obj_key h1 x hx).mono ?_
  rintro e w' ⟨rfl, _, g2⟩
  exact ⟨rfl, h0.below g2⟩
theorem hp_key_no (h : RHO w0 w ph pf room s when t O os) (k : Int) (hk : Hp.fits k) (hs : has s k = false) :
    Calls Try.prog 31 #[.pointer (some ⟨ph, 0, none⟩), .int .i64 k] w fun e w' => e = .returned (.tuple #[.int .i64 0, .int .i64 0, .bool false]) ∧ w' = w := by
  obtain ⟨F, G, h1, _⟩ := h
  exact Hp.obj_keyless h1 k hk hs
theorem fp_put (h : RHO w0 w ph pf room s when t O os) (hl : t.length ≤ 1000) (hn : (t.map (·.v)).Nodup) (k a b m : Int) (hr : has t k = true ∨ (t.length : Int) < room) :
    Calls Try.prog 26 #[.pointer (some ⟨pf, 0, none⟩), .int .i64 k, .int .i64 a, .int .i64 b] w fun e w' => e = .returned (.bool true) ∧ RHO w0 w' ph pf room s when (without t k ++ [⟨k, a, b, m⟩]) O os := by
  obtain ⟨F, G, h1, h2, h3, h4, h5, h6, h7, h8, h9⟩ := h
  cases hk : has t k with
  | true =>
    refine (Rf.f_put_yes h2 hl hn k a b m hk).mono ?_
    rintro e w' ⟨rfl, F', g1, g2, g3⟩
    exact ⟨rfl, RHO.turnF h1 h3 h4 h5 h6 h7 h8 h9 g1 g2 g3⟩
  | false =>
    refine (Rf.f_put_new h2 hl k a b m hk (hr.resolve_left (by rw [hk]; simp))).mono ?_
    rintro e w' ⟨rfl, F', g1, g2, g3⟩
    exact ⟨rfl, RHO.turnF h1 h3 h4 h5 h6 h7 h8 h9 g1 g2 g3⟩
theorem fp_full (h : RHO w0 w ph pf room s when t O os) (hl : t.length ≤ 1000) (k a b : Int) (hk : has t k = false) (hr : ¬ (t.length : Int) < room) :
    Calls Try.prog 26 #[.pointer (some ⟨pf, 0, none⟩), .int .i64 k, .int .i64 a, .int .i64 b] w fun e w' => e = .returned (.bool false) ∧ RHO w0 w' ph pf room s when t O os := by
  have h0 := h
  obtain ⟨F, G, h1, h2, _⟩ := h
  refine (Rf.f_put_full h2 hl k a b hk hr).mono ?_
  rintro e w' ⟨rfl, _, g2⟩
  exact ⟨rfl, h0.below g2⟩
theorem fp_drop (h : RHO w0 w ph pf room s when t O os) (hl : t.length ≤ 1000) (hn : (t.map (·.v)).Nodup) (k : Int) {b : Bool} (hb : has t k = b) :
    Calls Try.prog 30 #[.pointer (some ⟨pf, 0, none⟩), .int .i64 k] w fun e w' => e = .returned (.bool b) ∧ RHO w0 w' ph pf room s when (without t k) O os := by
  have h0 := h
  obtain ⟨F, G, h1, h2, h3, h4, h5, h6, h7, h8, h9⟩ := h
  cases b with
  | true =>
    refine (Rf.f_drop_yes h2 hl hn k hb).mono ?_
    rintro e w' ⟨rfl, F', g1, g2, g3⟩
    exact ⟨rfl, RHO.turnF h1 h3 h4 h5 h6 h7 h8 h9 g1 g2 g3⟩
  | false =>
    rw [without_of_not hb]
    refine (Rf.f_drop_no h2 hl k hb).mono ?_
    rintro e w' ⟨rfl, rfl⟩
    exact ⟨rfl, h0⟩
theorem fp_take (h : RHO w0 w ph pf room s when t O os) (hc : HeapModel.chron t) (hn : (t.map (·.v)).Nodup) (hl : t.length ≤ 1000) {x : It Int} (hx : least t = some x) :
    Calls Try.prog 28 #[.pointer (some ⟨pf, 0, none⟩)] w fun e w' => e = .returned (.tuple #[.int .i64 x.v, .bool true]) ∧ RHO w0 w' ph pf room s when (without t x.v) O os := by
  obtain ⟨F, G, h1, h2, h3, h4, h5, h6, h7, h8, h9⟩ := h
  refine (Rf.f_take h2 hc hn hl hx).mono ?_
  rintro e w' ⟨rfl, F', g1, g2, g3⟩
  exact ⟨rfl, RHO.turnF h1 h3 h4 h5 h6 h7 h8 h9 g1 g2 g3⟩
theorem fp_take_no (h : RHO w0 w ph pf room s when [] O os) :
    Calls Try.prog 28 #[.pointer (some ⟨pf, 0, none⟩)] w fun e w' => e = .returned (.tuple #[.int .i64 0, .bool false]) ∧ w' = w := by
  obtain ⟨F, G, h1, h2, _⟩ := h
  exact Rf.f_take_no h2
theorem fp_first (h : RHO w0 w ph pf room s when t O os) (hc : HeapModel.chron t) (hl : t.length ≤ 1000) {v : Int} {b : Bool} (hv : Hp.firstV t = v) (hb : (least t).isSome = b) :
    Calls Try.prog 34 #[.pointer (some ⟨pf, 0, none⟩)] w fun e w' => e = .returned (.tuple #[.int .i64 v, .bool b]) ∧ RHO w0 w' ph pf room s when t O os := by
  rw [← hv, ← hb]
  have h0 := h
  obtain ⟨F, G, h1, h2, _⟩ := h
  cases hx : least t with
  | none =>
    obtain rfl := least_none.1 hx
    refine (Rf.f_first_no h2).mono ?_
    rintro e w' ⟨rfl, rfl⟩
    exact ⟨rfl, h0⟩
  | some x =>
    refine (Rf.f_first h2 hc hl hx).mono ?_
    rintro e w' ⟨rfl, _, g⟩
    exact ⟨by unfold Hp.firstV; rw [hx]; rfl, h0.below g⟩
theorem fp_key (h : RHO w0 w ph pf room s when t O os) (hl : t.length ≤ 1000) (hn : (t.map (·.v)).Nodup) (x : It Int) (hx : x ∈ t) :
    Calls Try.prog 32 #[.pointer (some ⟨pf, 0, none⟩), .int .i64 x.v] w fun e w' => e = .returned (.tuple #[.int .i64 x.a, .int .i64 x.b, .bool true]) ∧ RHO w0 w' ph pf room s when t O os := by
  have h0 := h
  obtain ⟨F, G, h1, h2, _⟩ := h
  refine (Rf.f_key h2 hl hn x hx).mono ?_
  rintro e w' ⟨rfl, _, g⟩
  exact ⟨rfl, h0.below g⟩
theorem fp_key_no (h : RHO w0 w ph pf room s when t O os) (hl : t.length ≤ 1000) (k : Int) (hk : has t k = false) :
    Calls Try.prog 32 #[.pointer (some ⟨pf, 0, none⟩), .int .i64 k] w fun e w' => e = .returned (.tuple #[.int .i64 0, .int .i64 0, .bool false]) ∧ w' = w := by
  obtain ⟨F, G, h1, h2, _⟩ := h
  exact Rf.f_key_no h2 hl k hk
theorem fp_list (h : RHO w0 w ph pf room s when t O os) : ∃ A c, w.cell? ⟨pf, 1, none⟩ = some (.slice A t.length c) := by
  obtain ⟨F, G, h1, h2, _⟩ := h
  obtain ⟨A, c, _, h3⟩ := Rf.f_room_cell h2
  exact ⟨A, c, h3⟩
theorem rh_new {w1 : World} (h : H1 w0 w ph room [] 0) {G : Nat → Prop} (h2 : FObj w1 G pf room []) (h3 : ∀ k, G k → w.heap.size ≤ k) (hb : Below w.heap.size w w1) : RH w0 w1 ph pf room [] 0 [] := by
  obtain ⟨own, z, F, g1, g2⟩ := h
  refine ⟨F, G, g1.below hb, h2, fun k hk c => ?_, fun k hk => ?_, fun k hk => Nat.le_trans z.bel.size (h3 k hk), bel_more z.bel hb⟩
  · have := g1.lt hk; have := h3 k c; omega
  · have h4 := g2 k hk
    have : ¬ k < w0.heap.size := fun c => by rw [z.low k c] at h4; cases h4
    omega
end
end Go.Proofs.Ytpmamgdblbplcaa.On
