/- Several things apart; hortatorlaw2.begun tells true; one heap behind it. -/
import Derived.Test.YtpmamgdblbplcaaHTxt
import Derived.Test.YtpmamgdblbplcaaThings
import Derived.Test.YtpmamgdblbplcaaBoxes
import Derived.Test.YtpmamgdblbplcaaLines
import Derived.Test.YtpmamgdblbplcaaBgA

/-! YtpmamgdblbplcaaOwn -/
namespace Go.Proofs.Ytpmamgdblbplcaa.Ow
open Go.RowKit Go.Proofs.Ytpmamgdblbplcaa.HeapModel
set_option linter.unusedVariables false
set_option linter.unusedSimpArgs false

/-- the marks of what was there are as they were -/
def Same (w : World) (own own' : Nat → Nat) : Prop := ∀ k, k < w.heap.size → own' k = own k
/-- the blocks that are new bear the mark i -/
def markOf (w : World) (own : Nat → Nat) (i : Nat) : Nat → Nat := fun k => if k < w.heap.size then own k else i
theorem mark_same (w : World) (own : Nat → Nat) (i : Nat) : Same w own (markOf w own i) := fun k hk => by unfold markOf; rw [if_pos hk]
theorem mark_new (w : World) (own : Nat → Nat) (i k : Nat) (hk : w.heap.size ≤ k) : markOf w own i k = i := by unfold markOf; rw [if_neg (by omega)]
/-- what a call on the thing i may have done -/
abbrev By (i : Nat) (w : World) (own : Nat → Nat) (w' : World) (own' : Nat → Nat) : Prop := Hp.Touch (fun k => own k = i) w w' ∧ Same w own own'
theorem By.of_below {i : Nat} {w w' : World} {own : Nat → Nat} (h : Below w.heap.size w w') (j : Nat) : By i w own w' (markOf w own j) := ⟨Hp.Touch.of_below h, mark_same w own j⟩
theorem By.refl (i : Nat) (w : World) (own : Nat → Nat) : By i w own w own := ⟨Hp.Touch.refl _ _, fun _ _ => rfl⟩

/-! ### H -/
def HIn (w : World) (own : Nat → Nat) (i : Nat) (p : Nat) (room : Int) (s : List (It Int)) (when : Int) : Prop := ∃ F, Hp.HObj w F p room s when ∧ ∀ k, F k → own k = i
theorem HIn.frame {w w' : World} {own own' : Nat → Nat} {i j : Nat} {p : Nat} {room : Int} {s : List (It Int)} {when : Int} (h : HIn w own i p room s when) (hb : By j w own w' own') (hij : i ≠ j) : HIn w' own' i p room s when := by
  obtain ⟨F, h1, h2⟩ := h
  exact ⟨F, h1.touch hb.1 (fun k hk c => hij ((h2 k hk).symm.trans c)), fun k hk => (hb.2 k (h1.lt hk)).trans (h2 k hk)⟩
theorem HIn.below {w w' : World} {own : Nat → Nat} {i : Nat} {p : Nat} {room : Int} {s : List (It Int)} {when : Int} (h : HIn w own i p room s when) (hb : Below w.heap.size w w') (j : Nat) : HIn w' (markOf w own j) i p room s when := by
  obtain ⟨F, h1, h2⟩ := h
  exact ⟨F, h1.below hb, fun k hk => (mark_same w own j k (h1.lt hk)).trans (h2 k hk)⟩
theorem HIn.of {w w' : World} {own : Nat → Nat} {i : Nat} {F F' : Nat → Prop} {p : Nat} {room : Int} {s : List (It Int)} {when : Int} (h : Hp.HObj w' F' p room s when) (hF : ∀ k, F k → own k = i) (hF' : ∀ k, F' k → F k ∨ w.heap.size ≤ k) (hl : ∀ k, F k → k < w.heap.size) : HIn w' (markOf w own i) i p room s when :=
  ⟨F', h, fun k hk => by
    rcases hF' k hk with c | c
    · exact (mark_same w own i k (hl k c)).trans (hF k c)
    · exact mark_new w own i k c⟩
theorem HIn.new {w w' : World} {own : Nat → Nat} {i : Nat} {F' : Nat → Prop} {p : Nat} {room : Int} {s : List (It Int)} {when : Int} (h : Hp.HObj w' F' p room s when) (hF' : ∀ k, F' k → w.heap.size ≤ k) : HIn w' (markOf w own i) i p room s when :=
  ⟨F', h, fun k hk => mark_new w own i k (hF' k hk)⟩
theorem HIn.keep {w w' : World} {own : Nat → Nat} {i : Nat} {F : Nat → Prop} {p : Nat} {room : Int} {s : List (It Int)} {when : Int} (h : Hp.HObj w' F p room s when) (hF : ∀ k, F k → own k = i) (hl : ∀ k, F k → k < w.heap.size) (j : Nat) : HIn w' (markOf w own j) i p room s when :=
  ⟨F, h, fun k hk => (mark_same w own j k (hl k hk)).trans (hF k hk)⟩

/-! ### HS -/
def HSIn (w : World) (own : Nat → Nat) (i : Nat) (p : Nat) (room : Int) (s : List (It ByteArray)) (when : Int) : Prop := ∃ F, Hs.HObj w F p room s when ∧ ∀ k, F k → own k = i
theorem HSIn.frame {w w' : World} {own own' : Nat → Nat} {i j : Nat} {p : Nat} {room : Int} {s : List (It ByteArray)} {when : Int} (h : HSIn w own i p room s when) (hb : By j w own w' own') (hij : i ≠ j) : HSIn w' own' i p room s when := by
  obtain ⟨F, h1, h2⟩ := h
  exact ⟨F, h1.touch hb.1 (fun k hk c => hij ((h2 k hk).symm.trans c)), fun k hk => (hb.2 k (h1.lt hk)).trans (h2 k hk)⟩
theorem HSIn.below {w w' : World} {own : Nat → Nat} {i : Nat} {p : Nat} {room : Int} {s : List (It ByteArray)} {when : Int} (h : HSIn w own i p room s when) (hb : Below w.heap.size w w') (j : Nat) : HSIn w' (markOf w own j) i p room s when := by
  obtain ⟨F, h1, h2⟩ := h
  exact ⟨F, h1.below hb, fun k hk => (mark_same w own j k (h1.lt hk)).trans (h2 k hk)⟩
theorem HSIn.of {w w' : World} {own : Nat → Nat} {i : Nat} {F F' : Nat → Prop} {p : Nat} {room : Int} {s : List (It ByteArray)} {when : Int} (h : Hs.HObj w' F' p room s when) (hF : ∀ k, F k → own k = i) (hF' : ∀ k, F' k → F k ∨ w.heap.size ≤ k) (hl : ∀ k, F k → k < w.heap.size) : HSIn w' (markOf w own i) i p room s when :=
  ⟨F', h, fun k hk => by
    rcases hF' k hk with c | c
    · exact (mark_same w own i k (hl k c)).trans (hF k c)
    · exact mark_new w own i k c⟩
theorem HSIn.new {w w' : World} {own : Nat → Nat} {i : Nat} {F' : Nat → Prop} {p : Nat} {room : Int} {s : List (It ByteArray)} {when : Int} (h : Hs.HObj w' F' p room s when) (hF' : ∀ k, F' k → w.heap.size ≤ k) : HSIn w' (markOf w own i) i p room s when :=
  ⟨F', h, fun k hk => mark_new w own i k (hF' k hk)⟩
theorem HSIn.keep {w w' : World} {own : Nat → Nat} {i : Nat} {F : Nat → Prop} {p : Nat} {room : Int} {s : List (It ByteArray)} {when : Int} (h : Hs.HObj w' F p room s when) (hF : ∀ k, F k → own k = i) (hl : ∀ k, F k → k < w.heap.size) (j : Nat) : HSIn w' (markOf w own j) i p room s when :=
  ⟨F, h, fun k hk => (mark_same w own j k (hl k hk)).trans (hF k hk)⟩

/-! ### R -/
def RIn (w : World) (own : Nat → Nat) (i : Nat) (p cap : Nat) (s : List Int) : Prop := ∃ F, Rg.RObj w F p cap s ∧ ∀ k, F k → own k = i
theorem RIn.frame {w w' : World} {own own' : Nat → Nat} {i j : Nat} {p cap : Nat} {s : List Int} (h : RIn w own i p cap s) (hb : By j w own w' own') (hij : i ≠ j) : RIn w' own' i p cap s := by
  obtain ⟨F, h1, h2⟩ := h
  exact ⟨F, h1.touch hb.1 (fun k hk c => hij ((h2 k hk).symm.trans c)), fun k hk => (hb.2 k (h1.lt hk)).trans (h2 k hk)⟩
theorem RIn.below {w w' : World} {own : Nat → Nat} {i : Nat} {p cap : Nat} {s : List Int} (h : RIn w own i p cap s) (hb : Below w.heap.size w w') (j : Nat) : RIn w' (markOf w own j) i p cap s := by
  obtain ⟨F, h1, h2⟩ := h
  exact ⟨F, h1.below hb, fun k hk => (mark_same w own j k (h1.lt hk)).trans (h2 k hk)⟩
theorem RIn.of {w w' : World} {own : Nat → Nat} {i : Nat} {F F' : Nat → Prop} {p cap : Nat} {s : List Int} (h : Rg.RObj w' F' p cap s) (hF : ∀ k, F k → own k = i) (hF' : ∀ k, F' k → F k ∨ w.heap.size ≤ k) (hl : ∀ k, F k → k < w.heap.size) : RIn w' (markOf w own i) i p cap s :=
  ⟨F', h, fun k hk => by
    rcases hF' k hk with c | c
    · exact (mark_same w own i k (hl k c)).trans (hF k c)
    · exact mark_new w own i k c⟩
theorem RIn.new {w w' : World} {own : Nat → Nat} {i : Nat} {F' : Nat → Prop} {p cap : Nat} {s : List Int} (h : Rg.RObj w' F' p cap s) (hF' : ∀ k, F' k → w.heap.size ≤ k) : RIn w' (markOf w own i) i p cap s :=
  ⟨F', h, fun k hk => mark_new w own i k (hF' k hk)⟩
theorem RIn.keep {w w' : World} {own : Nat → Nat} {i : Nat} {F : Nat → Prop} {p cap : Nat} {s : List Int} (h : Rg.RObj w' F p cap s) (hF : ∀ k, F k → own k = i) (hl : ∀ k, F k → k < w.heap.size) (j : Nat) : RIn w' (markOf w own j) i p cap s :=
  ⟨F, h, fun k hk => (mark_same w own j k (hl k hk)).trans (hF k hk)⟩

/-! ### S -/
def SIn (w : World) (own : Nat → Nat) (i : Nat) (p : Nat) (s : List St.P) : Prop := ∃ F, St.SObj w F p s ∧ ∀ k, F k → own k = i
theorem SIn.frame {w w' : World} {own own' : Nat → Nat} {i j : Nat} {p : Nat} {s : List St.P} (h : SIn w own i p s) (hb : By j w own w' own') (hij : i ≠ j) : SIn w' own' i p s := by
  obtain ⟨F, h1, h2⟩ := h
  exact ⟨F, h1.touch hb.1 (fun k hk c => hij ((h2 k hk).symm.trans c)), fun k hk => (hb.2 k (h1.lt hk)).trans (h2 k hk)⟩
theorem SIn.below {w w' : World} {own : Nat → Nat} {i : Nat} {p : Nat} {s : List St.P} (h : SIn w own i p s) (hb : Below w.heap.size w w') (j : Nat) : SIn w' (markOf w own j) i p s := by
  obtain ⟨F, h1, h2⟩ := h
  exact ⟨F, h1.below hb, fun k hk => (mark_same w own j k (h1.lt hk)).trans (h2 k hk)⟩
theorem SIn.of {w w' : World} {own : Nat → Nat} {i : Nat} {F F' : Nat → Prop} {p : Nat} {s : List St.P} (h : St.SObj w' F' p s) (hF : ∀ k, F k → own k = i) (hF' : ∀ k, F' k → F k ∨ w.heap.size ≤ k) (hl : ∀ k, F k → k < w.heap.size) : SIn w' (markOf w own i) i p s :=
  ⟨F', h, fun k hk => by
    rcases hF' k hk with c | c
    · exact (mark_same w own i k (hl k c)).trans (hF k c)
    · exact mark_new w own i k c⟩
theorem SIn.new {w w' : World} {own : Nat → Nat} {i : Nat} {F' : Nat → Prop} {p : Nat} {s : List St.P} (h : St.SObj w' F' p s) (hF' : ∀ k, F' k → w.heap.size ≤ k) : SIn w' (markOf w own i) i p s :=
  ⟨F', h, fun k hk => mark_new w own i k (hF' k hk)⟩
theorem SIn.keep {w w' : World} {own : Nat → Nat} {i : Nat} {F : Nat → Prop} {p : Nat} {s : List St.P} (h : St.SObj w' F p s) (hF : ∀ k, F k → own k = i) (hl : ∀ k, F k → k < w.heap.size) (j : Nat) : SIn w' (markOf w own j) i p s :=
  ⟨F, h, fun k hk => (mark_same w own j k (hl k hk)).trans (hF k hk)⟩

/-! ### SS -/
def SSIn (w : World) (own : Nat → Nat) (i : Nat) (p : Nat) (s : List Ss.P) : Prop := ∃ F, Ss.SObj w F p s ∧ ∀ k, F k → own k = i
theorem SSIn.frame {w w' : World} {own own' : Nat → Nat} {i j : Nat} {p : Nat} {s : List Ss.P} (h : SSIn w own i p s) (hb : By j w own w' own') (hij : i ≠ j) : SSIn w' own' i p s := by
  obtain ⟨F, h1, h2⟩ := h
  exact ⟨F, h1.touch hb.1 (fun k hk c => hij ((h2 k hk).symm.trans c)), fun k hk => (hb.2 k (h1.lt hk)).trans (h2 k hk)⟩
theorem SSIn.below {w w' : World} {own : Nat → Nat} {i : Nat} {p : Nat} {s : List Ss.P} (h : SSIn w own i p s) (hb : Below w.heap.size w w') (j : Nat) : SSIn w' (markOf w own j) i p s := by
  obtain ⟨F, h1, h2⟩ := h
  exact ⟨F, h1.below hb, fun k hk => (mark_same w own j k (h1.lt hk)).trans (h2 k hk)⟩
theorem SSIn.of {w w' : World} {own : Nat → Nat} {i : Nat} {F F' : Nat → Prop} {p : Nat} {s : List Ss.P} (h : Ss.SObj w' F' p s) (hF : ∀ k, F k → own k = i) (hF' : ∀ k, F' k → F k ∨ w.heap.size ≤ k) (hl : ∀ k, F k → k < w.heap.size) : SSIn w' (markOf w own i) i p s :=
  ⟨F', h, fun k hk => by
    rcases hF' k hk with c | c
    · exact (mark_same w own i k (hl k c)).trans (hF k c)
    · exact mark_new w own i k c⟩
theorem SSIn.new {w w' : World} {own : Nat → Nat} {i : Nat} {F' : Nat → Prop} {p : Nat} {s : List Ss.P} (h : Ss.SObj w' F' p s) (hF' : ∀ k, F' k → w.heap.size ≤ k) : SSIn w' (markOf w own i) i p s :=
  ⟨F', h, fun k hk => mark_new w own i k (hF' k hk)⟩
theorem SSIn.keep {w w' : World} {own : Nat → Nat} {i : Nat} {F : Nat → Prop} {p : Nat} {s : List Ss.P} (h : Ss.SObj w' F p s) (hF : ∀ k, F k → own k = i) (hl : ∀ k, F k → k < w.heap.size) (j : Nat) : SSIn w' (markOf w own j) i p s :=
  ⟨F, h, fun k hk => (mark_same w own j k (hl k hk)).trans (hF k hk)⟩

/-! ### B -/
def BIn (w : World) (own : Nat → Nat) (i : Nat) (p cap : Nat) (s : List Int) : Prop := ∃ F, Bx.BObj w F p cap s ∧ ∀ k, F k → own k = i
theorem BIn.frame {w w' : World} {own own' : Nat → Nat} {i j : Nat} {p cap : Nat} {s : List Int} (h : BIn w own i p cap s) (hb : By j w own w' own') (hij : i ≠ j) : BIn w' own' i p cap s := by
  obtain ⟨F, h1, h2⟩ := h
  exact ⟨F, h1.touch hb.1 (fun k hk c => hij ((h2 k hk).symm.trans c)), fun k hk => (hb.2 k (h1.lt hk)).trans (h2 k hk)⟩
theorem BIn.below {w w' : World} {own : Nat → Nat} {i : Nat} {p cap : Nat} {s : List Int} (h : BIn w own i p cap s) (hb : Below w.heap.size w w') (j : Nat) : BIn w' (markOf w own j) i p cap s := by
  obtain ⟨F, h1, h2⟩ := h
  exact ⟨F, h1.below hb, fun k hk => (mark_same w own j k (h1.lt hk)).trans (h2 k hk)⟩
theorem BIn.of {w w' : World} {own : Nat → Nat} {i : Nat} {F F' : Nat → Prop} {p cap : Nat} {s : List Int} (h : Bx.BObj w' F' p cap s) (hF : ∀ k, F k → own k = i) (hF' : ∀ k, F' k → F k ∨ w.heap.size ≤ k) (hl : ∀ k, F k → k < w.heap.size) : BIn w' (markOf w own i) i p cap s :=
  ⟨F', h, fun k hk => by
    rcases hF' k hk with c | c
    · exact (mark_same w own i k (hl k c)).trans (hF k c)
    · exact mark_new w own i k c⟩
theorem BIn.new {w w' : World} {own : Nat → Nat} {i : Nat} {F' : Nat → Prop} {p cap : Nat} {s : List Int} (h : Bx.BObj w' F' p cap s) (hF' : ∀ k, F' k → w.heap.size ≤ k) : BIn w' (markOf w own i) i p cap s :=
  ⟨F', h, fun k hk => mark_new w own i k (hF' k hk)⟩
theorem BIn.keep {w w' : World} {own : Nat → Nat} {i : Nat} {F : Nat → Prop} {p cap : Nat} {s : List Int} (h : Bx.BObj w' F p cap s) (hF : ∀ k, F k → own k = i) (hl : ∀ k, F k → k < w.heap.size) (j : Nat) : BIn w' (markOf w own j) i p cap s :=
  ⟨F, h, fun k hk => (mark_same w own j k (hl k hk)).trans (hF k hk)⟩

/-! ### BS -/
def BSIn (w : World) (own : Nat → Nat) (i : Nat) (p cap : Nat) (s : List ByteArray) : Prop := ∃ F, Bs.BObj w F p cap s ∧ ∀ k, F k → own k = i
theorem BSIn.frame {w w' : World} {own own' : Nat → Nat} {i j : Nat} {p cap : Nat} {s : List ByteArray} (h : BSIn w own i p cap s) (hb : By j w own w' own') (hij : i ≠ j) : BSIn w' own' i p cap s := by
  obtain ⟨F, h1, h2⟩ := h
  exact ⟨F, h1.touch hb.1 (fun k hk c => hij ((h2 k hk).symm.trans c)), fun k hk => (hb.2 k (h1.lt hk)).trans (h2 k hk)⟩
theorem BSIn.below {w w' : World} {own : Nat → Nat} {i : Nat} {p cap : Nat} {s : List ByteArray} (h : BSIn w own i p cap s) (hb : Below w.heap.size w w') (j : Nat) : BSIn w' (markOf w own j) i p cap s := by
  obtain ⟨F, h1, h2⟩ := h
  exact ⟨F, h1.below hb, fun k hk => (mark_same w own j k (h1.lt hk)).trans (h2 k hk)⟩
theorem BSIn.of {w w' : World} {own : Nat → Nat} {i : Nat} {F F' : Nat → Prop} {p cap : Nat} {s : List ByteArray} (h : Bs.BObj w' F' p cap s) (hF : ∀ k, F k → own k = i) (hF' : ∀ k, F' k → F k ∨ w.heap.size ≤ k) (hl : ∀ k, F k → k < w.heap.size) : BSIn w' (markOf w own i) i p cap s :=
  ⟨F', h, fun k hk => by
    rcases hF' k hk with c | c
    · exact (mark_same w own i k (hl k c)).trans (hF k c)
    · exact mark_new w own i k c⟩
theorem BSIn.new {w w' : World} {own : Nat → Nat} {i : Nat} {F' : Nat → Prop} {p cap : Nat} {s : List ByteArray} (h : Bs.BObj w' F' p cap s) (hF' : ∀ k, F' k → w.heap.size ≤ k) : BSIn w' (markOf w own i) i p cap s :=
  ⟨F', h, fun k hk => mark_new w own i k (hF' k hk)⟩
theorem BSIn.keep {w w' : World} {own : Nat → Nat} {i : Nat} {F : Nat → Prop} {p cap : Nat} {s : List ByteArray} (h : Bs.BObj w' F p cap s) (hF : ∀ k, F k → own k = i) (hl : ∀ k, F k → k < w.heap.size) (j : Nat) : BSIn w' (markOf w own j) i p cap s :=
  ⟨F, h, fun k hk => (mark_same w own j k (hl k hk)).trans (hF k hk)⟩

/-! ### L -/
def LIn (w : World) (own : Nat → Nat) (i : Nat) (p : Nat) (room : Int) (s : List (It Int)) (when : Int) : Prop := ∃ F, Ln.LObj w F p room s when ∧ ∀ k, F k → own k = i
theorem LIn.frame {w w' : World} {own own' : Nat → Nat} {i j : Nat} {p : Nat} {room : Int} {s : List (It Int)} {when : Int} (h : LIn w own i p room s when) (hb : By j w own w' own') (hij : i ≠ j) : LIn w' own' i p room s when := by
  obtain ⟨F, h1, h2⟩ := h
  exact ⟨F, h1.touch hb.1 (fun k hk c => hij ((h2 k hk).symm.trans c)), fun k hk => (hb.2 k (h1.lt hk)).trans (h2 k hk)⟩
theorem LIn.below {w w' : World} {own : Nat → Nat} {i : Nat} {p : Nat} {room : Int} {s : List (It Int)} {when : Int} (h : LIn w own i p room s when) (hb : Below w.heap.size w w') (j : Nat) : LIn w' (markOf w own j) i p room s when := by
  obtain ⟨F, h1, h2⟩ := h
  exact ⟨F, h1.below hb, fun k hk => (mark_same w own j k (h1.lt hk)).trans (h2 k hk)⟩
theorem LIn.of {w w' : World} {own : Nat → Nat} {i : Nat} {F F' : Nat → Prop} {p : Nat} {room : Int} {s : List (It Int)} {when : Int} (h : Ln.LObj w' F' p room s when) (hF : ∀ k, F k → own k = i) (hF' : ∀ k, F' k → F k ∨ w.heap.size ≤ k) (hl : ∀ k, F k → k < w.heap.size) : LIn w' (markOf w own i) i p room s when :=
  ⟨F', h, fun k hk => by
    rcases hF' k hk with c | c
    · exact (mark_same w own i k (hl k c)).trans (hF k c)
    · exact mark_new w own i k c⟩
theorem LIn.new {w w' : World} {own : Nat → Nat} {i : Nat} {F' : Nat → Prop} {p : Nat} {room : Int} {s : List (It Int)} {when : Int} (h : Ln.LObj w' F' p room s when) (hF' : ∀ k, F' k → w.heap.size ≤ k) : LIn w' (markOf w own i) i p room s when :=
  ⟨F', h, fun k hk => mark_new w own i k (hF' k hk)⟩
theorem LIn.keep {w w' : World} {own : Nat → Nat} {i : Nat} {F : Nat → Prop} {p : Nat} {room : Int} {s : List (It Int)} {when : Int} (h : Ln.LObj w' F p room s when) (hF : ∀ k, F k → own k = i) (hl : ∀ k, F k → k < w.heap.size) (j : Nat) : LIn w' (markOf w own j) i p room s when :=
  ⟨F, h, fun k hk => (mark_same w own j k (hl k hk)).trans (hF k hk)⟩

/-! ### LS -/
def LSIn (w : World) (own : Nat → Nat) (i : Nat) (p : Nat) (room : Int) (s : List (It ByteArray)) (when : Int) : Prop := ∃ F, Ls.LObj w F p room s when ∧ ∀ k, F k → own k = i
theorem LSIn.frame {w w' : World} {own own' : Nat → Nat} {i j : Nat} {p : Nat} {room : Int} {s : List (It ByteArray)} {when : Int} (h : LSIn w own i p room s when) (hb : By j w own w' own') (hij : i ≠ j) : LSIn w' own' i p room s when := by
  obtain ⟨F, h1, h2⟩ := h
  exact ⟨F, h1.touch hb.1 (fun k hk c => hij ((h2 k hk).symm.trans c)), fun k hk => (hb.2 k (h1.lt hk)).trans (h2 k hk)⟩
theorem LSIn.below {w w' : World} {own : Nat → Nat} {i : Nat} {p : Nat} {room : Int} {s : List (It ByteArray)} {when : Int} (h : LSIn w own i p room s when) (hb : Below w.heap.size w w') (j : Nat) : LSIn w' (markOf w own j) i p room s when := by
  obtain ⟨F, h1, h2⟩ := h
  exact ⟨F, h1.below hb, fun k hk => (mark_same w own j k (h1.lt hk)).trans (h2 k hk)⟩
theorem LSIn.of {w w' : World} {own : Nat → Nat} {i : Nat} {F F' : Nat → Prop} {p : Nat} {room : Int} {s : List (It ByteArray)} {when : Int} (h : Ls.LObj w' F' p room s when) (hF : ∀ k, F k → own k = i) (hF' : ∀ k, F' k → F k ∨ w.heap.size ≤ k) (hl : ∀ k, F k → k < w.heap.size) : LSIn w' (markOf w own i) i p room s when :=
  ⟨F', h, fun k hk => by
    rcases hF' k hk with c | c
    · exact (mark_same w own i k (hl k c)).trans (hF k c)
    · exact mark_new w own i k c⟩
theorem LSIn.new {w w' : World} {own : Nat → Nat} {i : Nat} {F' : Nat → Prop} {p : Nat} {room : Int} {s : List (It ByteArray)} {when : Int} (h : Ls.LObj w' F' p room s when) (hF' : ∀ k, F' k → w.heap.size ≤ k) : LSIn w' (markOf w own i) i p room s when :=
  ⟨F', h, fun k hk => mark_new w own i k (hF' k hk)⟩
theorem LSIn.keep {w w' : World} {own : Nat → Nat} {i : Nat} {F : Nat → Prop} {p : Nat} {room : Int} {s : List (It ByteArray)} {when : Int} (h : Ls.LObj w' F p room s when) (hF : ∀ k, F k → own k = i) (hl : ∀ k, F k → k < w.heap.size) (j : Nat) : LSIn w' (markOf w own j) i p room s when :=
  ⟨F, h, fun k hk => (mark_same w own j k (hl k hk)).trans (hF k hk)⟩

theorem by_of {w w' : World} {own : Nat → Nat} {i : Nat} {F : Nat → Prop} (h : Hp.Touch F w w') (hF : ∀ k, F k → own k = i) (j : Nat) : By i w own w' (markOf w own j) := ⟨h.mono (fun k _ hk => hF k hk), mark_same w own j⟩
end Go.Proofs.Ytpmamgdblbplcaa.Ow

/-! YtpmamgdblbplcaaBag -/
namespace Go.Proofs.Ytpmamgdblbplcaa.Bg
open Go.RowKit Go.Proofs.Ytpmamgdblbplcaa.HeapModel Go.Proofs.Ytpmamgdblbplcaa.Ow
set_option linter.unusedVariables false
set_option linter.unusedSimpArgs false

/-- what was there ahead (it bears the mark 9) is as it was -/
structure Base (w0 w : World) (own : Nat → Nat) : Prop where
  low : ∀ k, k < w0.heap.size → own k = 9
  bel : Below w0.heap.size w0 w
theorem Base.frame {w0 w w' : World} {own own' : Nat → Nat} {j : Nat} (h : Base w0 w own) (hb : By j w own w' own') (hj : 9 ≠ j) : Base w0 w' own' :=
  ⟨fun k hk => (hb.2 k (by have := h.bel.size; omega)).trans (h.low k hk), ⟨hb.1.os.trans h.bel.os, hb.1.tape.trans h.bel.tape, hb.1.output.trans h.bel.output, Nat.le_trans h.bel.size hb.1.size, fun k hk => (hb.1.block k (by have := h.bel.size; omega) (fun c => hj ((h.low k hk).symm.trans c))).trans (h.bel.block k hk)⟩⟩
theorem Base.below {w0 w w' : World} {own : Nat → Nat} (h : Base w0 w own) (hb : Below w.heap.size w w') (j : Nat) : Base w0 w' (markOf w own j) :=
  h.frame (By.of_below (i := 7) hb j) (by decide)
theorem Base.refl (w : World) : Base w w (fun _ => 9) := ⟨fun _ _ => rfl, Below.refl _ _⟩

structure Bag (w0 w : World) (own : Nat → Nat) (ph : Nat) (hs : List (It ByteArray)) (hw : Int) (pr : Nat) (rs : List Int) (ps : Nat) (ss : List Ss.P) (pb : Nat) (bs : List Int) (pl : Nat) (ls : List (It Int)) (lw : Int) : Prop where
  z : Base w0 w own
  h : HSIn w own 1 ph 2 hs hw
  r : RIn w own 2 pr 2 rs
  s : SSIn w own 3 ps ss
  b : BIn w own 4 pb 1 bs
  l : LIn w own 5 pl 3 ls lw
variable {w0 w : World} {own : Nat → Nat} {ph : Nat} {hs : List (It ByteArray)} {hw : Int} {pr : Nat} {rs : List Int} {ps : Nat} {ss : List Ss.P} {pb : Nat} {bs : List Int} {pl : Nat} {ls : List (It Int)} {lw : Int}
theorem Bag.below {w' : World} (B : Bag w0 w own ph hs hw pr rs ps ss pb bs pl ls lw) (hb : Below w.heap.size w w') : Bag w0 w' (markOf w own 0) ph hs hw pr rs ps ss pb bs pl ls lw :=
  ⟨B.z.below hb 0, B.h.below hb 0, B.r.below hb 0, B.s.below hb 0, B.b.below hb 0, B.l.below hb 0⟩
theorem bag_hput (B : Bag w0 w own ph hs hw pr rs ps ss pb bs pl ls lw) (k : ByteArray) (a b : Int) (hk : Hs.fits k) (hw' : hw < 4611686018427387904) (hr : has hs k = true ∨ (hs.length : Int) < 2) :
    Calls Try.prog 47 #[.pointer (some ⟨ph, 0, none⟩), .string k, .int .i64 a, .int .i64 b] w fun e w' => e = .returned (.bool true) ∧ ∃ own', Bag w0 w' own' ph (without hs k ++ [⟨k, a, b, hw + 1⟩]) (hw + 1) pr rs ps ss pb bs pl ls lw := by
  obtain ⟨F, h1, h2⟩ := B.h
  refine (Hs.obj_put h1 k a b hk hw' hr).mono ?_
  rintro e w' ⟨rfl, F', h3, h4, h5⟩
  have by1 := by_of (own := own) (i := 1) h4 h2 1
  exact ⟨rfl, markOf w own 1, B.z.frame by1 (by decide), HSIn.of h3 h2 h5 (fun k hk => h1.lt hk), B.r.frame by1 (by decide), B.s.frame by1 (by decide), B.b.frame by1 (by decide), B.l.frame by1 (by decide)⟩
theorem bag_hfull (B : Bag w0 w own ph hs hw pr rs ps ss pb bs pl ls lw) (k : ByteArray) (a b : Int) (hk : Hs.fits k) (hs' : has hs k = false) (hr : ¬ (hs.length : Int) < 2) :
    Calls Try.prog 47 #[.pointer (some ⟨ph, 0, none⟩), .string k, .int .i64 a, .int .i64 b] w fun e w' => e = .returned (.bool false) ∧ ∃ own', Bag w0 w' own' ph hs hw pr rs ps ss pb bs pl ls lw := by
  obtain ⟨F, h1, h2⟩ := B.h
  refine (Hs.obj_full h1 k a b hk hs' hr).mono ?_
  rintro e w' ⟨rfl, h3, h4⟩
  exact ⟨rfl, _, B.below h4⟩
theorem bag_hfirst (B : Bag w0 w own ph hs hw pr rs ps ss pb bs pl ls lw) :
    Calls Try.prog 83 #[.pointer (some ⟨ph, 0, none⟩)] w fun e w' => e = .returned (.tuple #[.string (Hs.firstV hs), .bool (least hs).isSome]) ∧ w' = w := by
  obtain ⟨F, h1, h2⟩ := B.h
  exact Hs.obj_first h1
theorem bag_hfirst2 {v : ByteArray} (B : Bag w0 w own ph hs hw pr rs ps ss pb bs pl ls lw) (hv : Hs.firstV hs = v) (hl : (least hs).isSome = true) :
    Calls Try.prog 83 #[.pointer (some ⟨ph, 0, none⟩)] w fun e w' => e = .returned (.tuple #[.string v, .bool true]) ∧ w' = w := by
  rw [← hv, ← hl]
  exact bag_hfirst B
theorem bag_hlen (B : Bag w0 w own ph hs hw pr rs ps ss pb bs pl ls lw) : Calls Try.prog 51 #[.pointer (some ⟨ph, 0, none⟩)] w fun e w' => e = .returned (.int .i64 hs.length) ∧ w' = w := by
  obtain ⟨F, h1, h2⟩ := B.h
  exact Hs.obj_len h1
theorem bag_rput (B : Bag w0 w own ph hs hw pr rs ps ss pb bs pl ls lw) (v : Int) (hn : rs.length < 2) :
    Calls Try.prog 42 #[.pointer (some ⟨pr, 0, none⟩), .int .i64 v] w fun e w' => e = .returned (.bool true) ∧ ∃ own', Bag w0 w' own' ph hs hw pr (rs ++ [v]) ps ss pb bs pl ls lw := by
  obtain ⟨F, h1, h2⟩ := B.r
  refine (Rg.obj_put h1 v hn).mono ?_
  rintro e w' ⟨rfl, h3, h4⟩
  have by1 := by_of (own := own) (i := 2) h4 h2 2
  exact ⟨rfl, _, B.z.frame by1 (by decide), B.h.frame by1 (by decide), RIn.keep h3 h2 (fun k hk => h1.lt hk) 2, B.s.frame by1 (by decide), B.b.frame by1 (by decide), B.l.frame by1 (by decide)⟩
theorem bag_rtake {v : Int} (B : Bag w0 w own ph hs hw pr (v :: rs) ps ss pb bs pl ls lw) :
    Calls Try.prog 44 #[.pointer (some ⟨pr, 0, none⟩)] w fun e w' => e = .returned (.tuple #[.int .i64 v, .bool true]) ∧ ∃ own', Bag w0 w' own' ph hs hw pr rs ps ss pb bs pl ls lw := by
  obtain ⟨F, h1, h2⟩ := B.r
  refine (Rg.obj_take h1).mono ?_
  rintro e w' ⟨rfl, h3, h4⟩
  have by1 := by_of (own := own) (i := 2) h4 h2 2
  exact ⟨rfl, _, B.z.frame by1 (by decide), B.h.frame by1 (by decide), RIn.keep h3 h2 (fun k hk => h1.lt hk) 2, B.s.frame by1 (by decide), B.b.frame by1 (by decide), B.l.frame by1 (by decide)⟩
theorem bag_rroom (B : Bag w0 w own ph hs hw pr rs ps ss pb bs pl ls lw) :
    Calls Try.prog 63 #[.pointer (some ⟨pr, 0, none⟩)] w fun e w' => e = .returned (.int .i64 (2 - (rs.length : Int))) ∧ ∃ own', Bag w0 w' own' ph hs hw pr rs ps ss pb bs pl ls lw := by
  obtain ⟨F, h1, h2⟩ := B.r
  refine (Rg.obj_room h1).mono ?_
  rintro e w' ⟨rfl, h3, h4⟩
  exact ⟨rfl, _, B.below h4⟩
theorem bag_sadd (B : Bag w0 w own ph hs hw pr rs ps ss pb bs pl ls lw) (i : Nat) (hi : i < ss.length) (ht : (ss.getD i Ss.zp).2 = false) (hall : ∀ j, j < i → (ss.getD j Ss.zp).2 = true) (v : ByteArray) :
    Calls Try.prog 84 #[.pointer (some ⟨ps, 0, none⟩), .string v] w fun e w' => e = .returned (.int .i64 ((i : Int) + 1)) ∧ ∃ own', Bag w0 w' own' ph hs hw pr rs ps (ss.set i (v, true)) pb bs pl ls lw ∧ By 3 w own w' own' := by
  obtain ⟨F, h1, h2⟩ := B.s
  refine (Ss.obj_add h1 i hi ht hall v).mono ?_
  rintro e w' ⟨rfl, h3, h4⟩
  have by1 := by_of (own := own) (i := 3) h4 h2 3
  exact ⟨rfl, _, ⟨B.z.frame by1 (by decide), B.h.frame by1 (by decide), B.r.frame by1 (by decide), SSIn.keep h3 h2 (fun k hk => h1.lt hk) 3, B.b.frame by1 (by decide), B.l.frame by1 (by decide)⟩, by1⟩
theorem bag_sdrop (B : Bag w0 w own ph hs hw pr rs ps ss pb bs pl ls lw) (i : Nat) (hi : i < ss.length) (ht : (ss.getD i Ss.zp).2 = true) (id : Int) (hid : id = (i : Int) + 1) :
    Calls Try.prog 85 #[.pointer (some ⟨ps, 0, none⟩), .int .i64 id] w fun e w' => e = .returned (.bool true) ∧ ∃ own', Bag w0 w' own' ph hs hw pr rs ps (ss.set i Ss.zp) pb bs pl ls lw := by
  obtain ⟨F, h1, h2⟩ := B.s
  refine (Ss.obj_drop h1 i hi ht id hid).mono ?_
  rintro e w' ⟨rfl, h3, h4⟩
  have by1 := by_of (own := own) (i := 3) h4 h2 3
  exact ⟨rfl, _, B.z.frame by1 (by decide), B.h.frame by1 (by decide), B.r.frame by1 (by decide), SSIn.keep h3 h2 (fun k hk => h1.lt hk) 3, B.b.frame by1 (by decide), B.l.frame by1 (by decide)⟩
theorem bag_bput (B : Bag w0 w own ph hs hw pr rs ps ss pb bs pl ls lw) (v : Int) (hn : bs.length < 1) :
    Calls Try.prog 37 #[.pointer (some ⟨pb, 0, none⟩), .int .i64 v] w fun e w' => e = .returned (.bool true) ∧ ∃ own', Bag w0 w' own' ph hs hw pr rs ps ss pb (bs ++ [v]) pl ls lw := by
  obtain ⟨F, h1, h2⟩ := B.b
  refine (Bx.obj_put h1 v hn).mono ?_
  rintro e w' ⟨rfl, h3, h4⟩
  have by1 := by_of (own := own) (i := 4) h4 h2 4
  exact ⟨rfl, _, B.z.frame by1 (by decide), B.h.frame by1 (by decide), B.r.frame by1 (by decide), B.s.frame by1 (by decide), BIn.keep h3 h2 (fun k hk => h1.lt hk) 4, B.l.frame by1 (by decide)⟩
theorem bag_bfull (B : Bag w0 w own ph hs hw pr rs ps ss pb bs pl ls lw) (v : Int) (hn : ¬ bs.length < 1) :
    Calls Try.prog 37 #[.pointer (some ⟨pb, 0, none⟩), .int .i64 v] w fun e w' => e = .returned (.bool false) ∧ w' = w := by
  obtain ⟨F, h1, h2⟩ := B.b
  exact Bx.obj_full h1 v hn
theorem bag_blen (B : Bag w0 w own ph hs hw pr rs ps ss pb bs pl ls lw) : Calls Try.prog 40 #[.pointer (some ⟨pb, 0, none⟩)] w fun e w' => e = .returned (.int .i64 bs.length) ∧ w' = w := by
  obtain ⟨F, h1, h2⟩ := B.b
  exact Bx.obj_len h1
/-- a new box, empty: another one's thing is taken -/
theorem bag_newbox (B : Bag w0 w own ph hs hw pr rs ps ss pb bs pl ls lw) : Calls Try.prog 36 #[.int .i64 1] w fun e w' => ∃ p, e = .returned (.pointer (some ⟨p, 0, none⟩)) ∧ ∃ own', Bag w0 w' own' ph hs hw pr rs ps ss pb bs pl ls lw ∧ BIn w' own' 0 p 1 [] := by
  refine (Bx.obj_new 1 w (by omega)).mono ?_
  rintro e w' ⟨F, p, rfl, h1, h2, h3⟩
  exact ⟨p, rfl, markOf w own 0, B.below h3, BIn.new h1 h2⟩
theorem bag_either {v : Int} (B : Bag w0 w own ph hs hw pr rs ps ss pb (v :: bs) pl ls lw) {p : Nat} (hp : BIn w own 0 p 1 []) :
    Calls Try.prog 39 #[.pointer (some ⟨p, 0, none⟩), .pointer (some ⟨pb, 0, none⟩)] w fun e w' => e = .returned (.tuple #[.int .i64 v, .int .i64 2]) ∧ ∃ own', Bag w0 w' own' ph hs hw pr rs ps ss pb bs pl ls lw := by
  obtain ⟨F, h1, h2⟩ := B.b
  obtain ⟨G, g1, g2⟩ := hp
  refine Bx.either_second (Q := fun w' => ∃ own', Bag w0 w' own' ph hs hw pr rs ps ss pb bs pl ls lw) (Bx.obj_take_no g1) ((Bx.obj_take h1).mono ?_)
  rintro e w' ⟨rfl, h3, h4⟩
  have by1 := by_of (own := own) (i := 4) h4 h2 4
  exact ⟨rfl, _, B.z.frame by1 (by decide), B.h.frame by1 (by decide), B.r.frame by1 (by decide), B.s.frame by1 (by decide), BIn.keep h3 h2 (fun k hk => h1.lt hk) 4, B.l.frame by1 (by decide)⟩
theorem bag_lput (B : Bag w0 w own ph hs hw pr rs ps ss pb bs pl ls lw) (k a : Int) (hk : Hp.fits k) (hw' : lw < 4611686018427387904) (hr : has ls k = true ∨ (ls.length : Int) < 3) :
    Calls Try.prog 65 #[.pointer (some ⟨pl, 0, none⟩), .int .i64 k, .int .i64 a] w fun e w' => e = .returned (.bool true) ∧ ∃ own', Bag w0 w' own' ph hs hw pr rs ps ss pb bs pl (without ls k ++ [⟨k, a, 0, lw + 1⟩]) (lw + 1) := by
  obtain ⟨F, h1, h2⟩ := B.l
  refine (Ln.obj_put h1 k a hk hw' hr).mono ?_
  rintro e w' ⟨rfl, F', h3, h4, h5⟩
  have by1 := by_of (own := own) (i := 5) h4 h2 5
  exact ⟨rfl, markOf w own 5, B.z.frame by1 (by decide), B.h.frame by1 (by decide), B.r.frame by1 (by decide), B.s.frame by1 (by decide), B.b.frame by1 (by decide), LIn.of h3 h2 h5 (fun k hk => h1.lt hk)⟩
/-- what is due; a row of it that lies by itself -/
def RowIn (w : World) (own : Nat → Nat) (v : Value) (l : List Int) : Prop := ∃ base, w.ownsRow base 3 1 v l.length (l.map (Value.int .i64)) ∧ ∀ g, v.ownBlock = some g → own g = 0
theorem bag_due (B : Bag w0 w own ph hs hw pr rs ps ss pb bs pl ls lw) (now : Int) :
    Calls Try.prog 66 #[.pointer (some ⟨pl, 0, none⟩), .int .i64 now] w fun e w' => ∃ v, e = .returned v ∧ ∃ own', Bag w0 w' own' ph hs hw pr rs ps ss pb bs pl (dueM ls now).2 lw ∧ RowIn w' own' v (dueM ls now).1 ∧ By 5 w own w' own' := by
  obtain ⟨F, h1, h2⟩ := B.l
  refine (Ln.obj_due h1 now).mono ?_
  rintro e w' ⟨v, rfl, h3, h4, h5⟩
  have by1 := by_of (own := own) (i := 5) h5 h2 0
  refine ⟨v, rfl, markOf w own 0, ⟨B.z.frame by1 (by decide), B.h.frame by1 (by decide), B.r.frame by1 (by decide), B.s.frame by1 (by decide), B.b.frame by1 (by decide), LIn.keep h4 h2 (fun k hk => h1.lt hk) 0⟩, ⟨_, h3, fun g hg => ?_⟩, by1⟩
  rcases h3.2 with ⟨c2, _⟩ | ⟨g5, cap5, cur5, c2, c4, _⟩
  · rw [c2] at hg; simp [Value.ownBlock] at hg
  · rw [c2] at hg
    have : g5 = g := by simpa [Value.ownBlock] using hg
    exact mark_new w own 0 g (by omega)
theorem RowIn.frame {w w' : World} {own own' : Nat → Nat} {v : Value} {l : List Int} (h : RowIn w own v l) {j : Nat} (hb : By j w own w' own') (hj : 0 ≠ j) : RowIn w' own' v l := by
  obtain ⟨base, h1, h2⟩ := h
  rcases h1.2 with c | ⟨g, cap, cur, h3, h4, h5, h6⟩
  · exact ⟨base, ⟨h1.1, Or.inl c⟩, fun g hg => by rw [c.1] at hg; simp [Value.ownBlock] at hg⟩
  · have hg := h2 g (by rw [h3]; rfl)
    have hlt := (Array.getElem?_eq_some_iff.1 h5).1
    refine ⟨base, ⟨h1.1, Or.inr ⟨g, cap, cur, h3, h4, (hb.1.block g hlt (fun c => hj (hg.symm.trans c))).trans h5, h6⟩⟩, fun k hk => ?_⟩
    rw [h3] at hk
    have : g = k := by simpa [Value.ownBlock] using hk
    subst this
    exact (hb.2 g hlt).trans hg
end Go.Proofs.Ytpmamgdblbplcaa.Bg

/-! YtpmamgdblbplcaaBegun2 -/
namespace Go.Proofs.Ytpmamgdblbplcaa.Bg
open Go.RowKit Go.Proofs.Ytpmamgdblbplcaa.HeapModel Go.Proofs.Ytpmamgdblbplcaa.Ow
set_option linter.unusedVariables false
set_option linter.unusedSimpArgs false

def hs1 : List (It ByteArray) := [⟨(⟨#[120]⟩ : ByteArray), 5, 1, 1⟩]
def hs2 : List (It ByteArray) := [⟨(⟨#[120]⟩ : ByteArray), 5, 1, 1⟩, ⟨(⟨#[121]⟩ : ByteArray), 3, 9, 2⟩]
def ls1 : List (It Int) := [⟨9, 4, 0, 1⟩]
def z3 : List Ss.P := [Ss.zp, Ss.zp, Ss.zp]
def s1 : List Ss.P := [((⟨#[97]⟩ : ByteArray), true), Ss.zp, Ss.zp]
def s2 : List Ss.P := [((⟨#[97]⟩ : ByteArray), true), ((⟨#[98]⟩ : ByteArray), true), Ss.zp]
def s3 : List Ss.P := [Ss.zp, ((⟨#[98]⟩ : ByteArray), true), Ss.zp]
def s4 : List Ss.P := [((⟨#[99]⟩ : ByteArray), true), ((⟨#[98]⟩ : ByteArray), true), Ss.zp]
theorem row_one {w : World} {own : Nat → Nat} {v : Value} {x : Int} (h : RowIn w own v [x]) : ∃ A c, v = .slice (some ⟨A, 0, none⟩) 1 c ∧ w.cell? ⟨A, 0, none⟩ = some (.int .i64 x) := by
  obtain ⟨base, h1, h2⟩ := h
  rcases h1.2 with ⟨_, c⟩ | ⟨g, cap, cur, h3, h4, h5, h6, h7, h8, h9⟩
  · simp at c
  · refine ⟨g, cap, h3, ?_⟩
    rw [Hp.blk_cell h5]
    have e : cur.toList.take 1 = [.int .i64 x] := h9
    have e2 : (cur.toList.take 1)[0]? = some (.int .i64 x) := by rw [e]; rfl
    rw [List.getElem?_take] at e2
    simpa using e2
theorem row_nil {w : World} {own : Nat → Nat} {v : Value} (h : RowIn w own v []) : ∃ A c, v = .slice A 0 c := by
  obtain ⟨base, h1, h2⟩ := h
  rcases h1.2 with ⟨c, _⟩ | ⟨g, cap, cur, h3, _⟩
  · exact ⟨_, _, c⟩
  · exact ⟨_, _, h3⟩
set_option maxHeartbeats 4000000 in
set_option maxRecDepth 100000 in
theorem begun2 (w : World) : Calls Try.prog 22 #[] w fun e w' => e = .returned (.bool true) ∧ Below w.heap.size w w' := by
  go_enter Try.func22, Try.ntmps22
  go_wp2_with (first
    | (go_at_call 45; refine (Hs.obj_new 2 w (by omega)).mono ?_; rintro e w1 ⟨rfl, h1, h2⟩; have H1 : Hid (HSIn w1 (markOf w (fun _ => 9) 1) 1 (w.heap.size + 1) 2 [] 0) := Lib.hid (HSIn.new h1 (by rintro k (rfl | rfl) <;> omega)); have Z1 := Lib.hid ((Base.refl w).below h2 1); clear h1 h2)
    | (go_at_call 41; refine (Rg.obj_new 2 w1 (by omega)).mono ?_; rintro e w2 ⟨F, p2, rfl, h1, h2, h3⟩; have R2 : Hid (RIn w2 (markOf w1 (markOf w (fun _ => 9) 1) 2) 2 p2 2 []) := Lib.hid (RIn.new h1 h2); have H2 := Lib.hid (H1.out.below h3 2); have Z2 := Lib.hid (Z1.out.below h3 2); clear h1 h2 h3 H1 Z1)
    | (go_at_call 82; refine (Ss.obj_new 3 w2 (by omega)).mono ?_; rintro e w3 ⟨F, p3, rfl, h1, h2, h3⟩; have S3 : Hid (SSIn w3 (markOf w2 (markOf w1 (markOf w (fun _ => 9) 1) 2) 3) 3 p3 z3) := Lib.hid (SSIn.new h1 h2); have H3 := Lib.hid (H2.out.below h3 3); have Z3 := Lib.hid (Z2.out.below h3 3); have R3 := Lib.hid (R2.out.below h3 3); clear h1 h2 h3 H2 Z2 R2)
    | (go_at_call 36; refine (Bx.obj_new 1 w3 (by omega)).mono ?_; rintro e w4 ⟨F, p4, rfl, h1, h2, h3⟩; have T4 : Hid (BIn w4 (markOf w3 (markOf w2 (markOf w1 (markOf w (fun _ => 9) 1) 2) 3) 4) 4 p4 1 []) := Lib.hid (BIn.new h1 h2); have H4 := Lib.hid (H3.out.below h3 4); have Z4 := Lib.hid (Z3.out.below h3 4); have R4 := Lib.hid (R3.out.below h3 4); have S4 := Lib.hid (S3.out.below h3 4); clear h1 h2 h3 H3 Z3 R3 S3)
    | (go_at_call 64; refine (Ln.obj_new 3 w4 (by omega)).mono ?_; rintro e w5 ⟨F, p5, rfl, h1, h2, h3⟩; have L5 : Hid (LIn w5 (markOf w4 (markOf w3 (markOf w2 (markOf w1 (markOf w (fun _ => 9) 1) 2) 3) 4) 5) 5 p5 3 [] 0) := Lib.hid (LIn.new h1 h2); have H5 := Lib.hid (H4.out.below h3 5); have Z5 := Lib.hid (Z4.out.below h3 5); have R5 := Lib.hid (R4.out.below h3 5); have S5 := Lib.hid (S4.out.below h3 5); have T5 := Lib.hid (T4.out.below h3 5); clear h1 h2 h3 H4 Z4 R4 S4 T4; obtain ⟨own5, ho5⟩ : ∃ o, o = (markOf w4 (markOf w3 (markOf w2 (markOf w1 (markOf w (fun _ => 9) 1) 2) 3) 4) 5) := ⟨_, rfl⟩; rw [← ho5] at H5 Z5 R5 S5 T5 L5; have B5 : Hid (Bag w w5 own5 (w.heap.size + 1) [] 0 p2 [] p3 z3 p4 [] p5 [] 0) := Lib.hid ⟨Z5.out, H5.out, R5.out, S5.out, T5.out, L5.out⟩; clear ho5 H5 Z5 R5 S5 T5 L5)
    | (go_at_call 47; refine ((bag_hput B5.out (⟨#[120]⟩ : ByteArray) 5 1 (by unfold Hs.fits maxLen; decide) (by decide) (by decide)).mono ?_); rintro e w6 ⟨rfl, own6, h⟩; have B6 : Hid (Bag w w6 own6 (w.heap.size + 1) hs1 1 p2 [] p3 z3 p4 [] p5 [] 0) := Lib.hid h; clear h B5)
    | (go_at_call 47; refine ((bag_hput B6.out (⟨#[121]⟩ : ByteArray) 3 9 (by unfold Hs.fits maxLen; decide) (by decide) (by decide)).mono ?_); rintro e w7 ⟨rfl, own7, h⟩; have B7 : Hid (Bag w w7 own7 (w.heap.size + 1) hs2 2 p2 [] p3 z3 p4 [] p5 [] 0) := Lib.hid h; clear h B6)
    | (go_at_call 47; refine ((bag_hfull B7.out (⟨#[122]⟩ : ByteArray) 1 1 (by unfold Hs.fits maxLen; decide) (by decide) (by decide)).mono ?_); rintro e w8 ⟨rfl, own8, h⟩; have B8 : Hid (Bag w w8 own8 (w.heap.size + 1) hs2 2 p2 [] p3 z3 p4 [] p5 [] 0) := Lib.hid h; clear h B7)
    | (go_at_call 83; refine (bag_hfirst2 (v := ⟨#[121]⟩) B8.out (by rfl) (by rfl)).mono ?_; rintro e wx ⟨rfl, rfl⟩)
    | (go_at_call 42; refine ((bag_rput B8.out 4 (by decide)).mono ?_); rintro e w9 ⟨rfl, own9, h⟩; have B9 : Hid (Bag w w9 own9 (w.heap.size + 1) hs2 2 p2 [4] p3 z3 p4 [] p5 [] 0) := Lib.hid h; clear h B8)
    | (go_at_call 42; refine ((bag_rput B9.out 5 (by decide)).mono ?_); rintro e w10 ⟨rfl, own10, h⟩; have B10 : Hid (Bag w w10 own10 (w.heap.size + 1) hs2 2 p2 [4, 5] p3 z3 p4 [] p5 [] 0) := Lib.hid h; clear h B9)
    | (go_at_call 44; refine ((bag_rtake (v := 4) (rs := [5]) B10.out).mono ?_); rintro e w11 ⟨rfl, own11, h⟩; have B11 : Hid (Bag w w11 own11 (w.heap.size + 1) hs2 2 p2 [5] p3 z3 p4 [] p5 [] 0) := Lib.hid h; clear h B10)
    | (go_at_call 84; refine ((bag_sadd B11.out 0 (by decide) (by rfl) (by decide) (⟨#[97]⟩ : ByteArray)).mono ?_); rintro e w12 ⟨rfl, own12, h, hby⟩; have B12 : Hid (Bag w w12 own12 (w.heap.size + 1) hs2 2 p2 [5] p3 s1 p4 [] p5 [] 0) := Lib.hid h; clear h B11)
    | (go_at_call 84; refine ((bag_sadd B12.out 1 (by decide) (by rfl) (by decide) (⟨#[98]⟩ : ByteArray)).mono ?_); rintro e w13 ⟨rfl, own13, h, hby⟩; have B13 : Hid (Bag w w13 own13 (w.heap.size + 1) hs2 2 p2 [5] p3 s2 p4 [] p5 [] 0) := Lib.hid h; clear h B12)
    | (go_at_call 85; refine ((bag_sdrop B13.out 0 (by decide) (by rfl) 1 (by decide)).mono ?_); rintro e w14 ⟨rfl, own14, h⟩; have B14 : Hid (Bag w w14 own14 (w.heap.size + 1) hs2 2 p2 [5] p3 s3 p4 [] p5 [] 0) := Lib.hid h; clear h B13)
    | (go_at_call 37; refine ((bag_bput B14.out 7 (by decide)).mono ?_); rintro e w15 ⟨rfl, own15, h⟩; have B15 : Hid (Bag w w15 own15 (w.heap.size + 1) hs2 2 p2 [5] p3 s3 p4 [7] p5 [] 0) := Lib.hid h; clear h B14)
    | (go_at_call 37; refine (bag_bfull B15.out 8 (by decide)).mono ?_; rintro e wx ⟨rfl, rfl⟩)
    | (go_at_call 36; refine (bag_newbox B15.out).mono ?_; rintro e w16 ⟨p, rfl, own16, h, hp⟩; have B16 : Hid (Bag w w16 own16 (w.heap.size + 1) hs2 2 p2 [5] p3 s3 p4 [7] p5 [] 0) := Lib.hid h; have HP := Lib.hid hp; clear h hp B15)
    | (go_at_call 39; refine ((bag_either (v := 7) (bs := []) B16.out HP.out).mono ?_); rintro e w17 ⟨rfl, own17, h⟩; have B17 : Hid (Bag w w17 own17 (w.heap.size + 1) hs2 2 p2 [5] p3 s3 p4 [] p5 [] 0) := Lib.hid h; clear h B16)
    | (go_at_call 65; refine ((bag_lput B17.out 9 4 (by unfold Hp.fits; decide) (by decide) (by decide)).mono ?_); rintro e w18 ⟨rfl, own18, h⟩; have B18 : Hid (Bag w w18 own18 (w.heap.size + 1) hs2 2 p2 [5] p3 s3 p4 [] p5 ls1 1) := Lib.hid h; clear h B17)
    | (go_at_call 66; refine (bag_due B18.out 4).mono ?_; rintro e w19 ⟨v1, rfl, own19, h, hr, hb⟩; have B19 : Hid (Bag w w19 own19 (w.heap.size + 1) hs2 2 p2 [5] p3 s3 p4 [] p5 [] 1) := Lib.hid h; have hr2 : RowIn w19 own19 v1 [9] := hr; obtain ⟨A1, c1, rfl, hce⟩ := row_one hr2; have R1 := Lib.hid hr2; clear h hr hb B18 hr2 hce)
    | (go_at_call 66; refine (bag_due B19.out 9).mono ?_; rintro e w20 ⟨v2, rfl, own20, h, hr, hb⟩; have B20 : Hid (Bag w w20 own20 (w.heap.size + 1) hs2 2 p2 [5] p3 s3 p4 [] p5 [] 1) := Lib.hid h; have hr2 : RowIn w20 own20 v2 [] := hr; obtain ⟨A2, c2, rfl⟩ := row_nil hr2; have R1b := Lib.hid (R1.out.frame hb (by decide)); clear h hr hb B19 R1 hr2)
    | (go_at_call 86; refine (begun1 w20).mono ?_; rintro e w21 ⟨rfl, hb⟩; have B21 : Hid (Bag w w21 (markOf w20 own20 0) (w.heap.size + 1) hs2 2 p2 [5] p3 s3 p4 [] p5 [] 1) := Lib.hid (B20.out.below hb); have R1c := Lib.hid (R1b.out.frame (By.of_below (i := 6) (own := own20) hb 0) (by decide)); clear hb B20 R1b)
    | (go_at_call 84; refine ((bag_sadd B21.out 0 (by decide) (by rfl) (by decide) (⟨#[99]⟩ : ByteArray)).mono ?_); rintro e w22 ⟨rfl, own22, h, hb⟩; have B22 : Hid (Bag w w22 own22 (w.heap.size + 1) hs2 2 p2 [5] p3 s4 p4 [] p5 [] 1) := Lib.hid h; have R1d := R1c.out.frame hb (by decide); obtain ⟨A3, c3, hv3, hc3⟩ := row_one R1d; simp only [Value.slice.injEq, Option.some.injEq, Addr.mk.injEq, and_true, true_and] at hv3; obtain ⟨rfl, rfl⟩ := hv3; clear h hb B21 R1c R1d)
    | (go_at_call 51; refine (bag_hlen B22.out).mono ?_; rintro e wx ⟨rfl, rfl⟩)
    | (go_at_call 63; refine (bag_rroom B22.out).mono ?_; rintro e w23 ⟨rfl, own23, h⟩; have B23 : Hid (Bag w w23 own23 (w.heap.size + 1) hs2 2 p2 [5] p3 s4 p4 [] p5 [] 1) := Lib.hid h; clear h B22)
    | (go_at_call 40; refine (bag_blen B23.out).mono ?_; rintro e wx ⟨rfl, rfl⟩))
  go_ret
  exact ⟨rfl, B23.out.z.bel⟩
end Go.Proofs.Ytpmamgdblbplcaa.Bg

/-! YtpmamgdblbplcaaHOne -/
namespace Go.Proofs.Ytpmamgdblbplcaa.Bg
open Go.RowKit Go.Proofs.Ytpmamgdblbplcaa.HeapModel Go.Proofs.Ytpmamgdblbplcaa.Ow
set_option linter.unusedVariables false
set_option linter.unusedSimpArgs false

def H1 (w0 w : World) (p : Nat) (room : Int) (s : List (It Int)) (when : Int) : Prop := ∃ own, Base w0 w own ∧ HIn w own 1 p room s when
theorem Base.start {w0 w : World} (h : Below w0.heap.size w0 w) : Base w0 w (fun _ => 9) := ⟨fun _ _ => rfl, h⟩
variable {w0 w : World} {p : Nat} {room : Int} {s : List (It Int)} {when : Int}
theorem H1.bel (h : H1 w0 w p room s when) : Below w0.heap.size w0 w := by
  obtain ⟨own, h1, h2⟩ := h
  exact h1.bel
theorem H1.below {w' : World} (h : H1 w0 w p room s when) (hb : Below w.heap.size w w') : H1 w0 w' p room s when := by
  obtain ⟨own, h1, h2⟩ := h
  exact ⟨_, h1.below hb 0, h2.below hb 0⟩
theorem H1.keys (h : H1 w0 w p room s when) : Hp.Keys s := by
  obtain ⟨own, h1, F, h2, h3⟩ := h
  exact h2.keys
theorem H1.chron (h : H1 w0 w p room s when) : HeapModel.chron s := by
  obtain ⟨own, h1, F, h2, h3⟩ := h
  exact h2.chron
theorem h1_new (hb : Below w0.heap.size w0 w) (room : Int) (hr : -9223372036854775808 ≤ room ∧ room ≤ 9223372036854775807) :
    Calls Try.prog 23 #[.int .i64 room] w fun e w' => ∃ p, e = .returned (.pointer (some ⟨p, 0, none⟩)) ∧ H1 w0 w' p (min (max room 0) 1000) [] 0 := by
  refine (Hp.obj_new room w hr).mono ?_
  rintro e w' ⟨rfl, h1, h2⟩
  exact ⟨_, rfl, _, (Base.start hb).below h2 1, HIn.new h1 (by rintro k (rfl | rfl) <;> omega)⟩
theorem h1_put (h : H1 w0 w p room s when) (k a b : Int) (hk : Hp.fits k) (hw' : when < 4611686018427387904) (hr : has s k = true ∨ (s.length : Int) < room) :
    Calls Try.prog 25 #[.pointer (some ⟨p, 0, none⟩), .int .i64 k, .int .i64 a, .int .i64 b] w fun e w' => e = .returned (.bool true) ∧ H1 w0 w' p room (without s k ++ [⟨k, a, b, when + 1⟩]) (when + 1) := by
  obtain ⟨own, z, F, h1, h2⟩ := h
  refine (Hp.obj_put h1 k a b hk hw' hr).mono ?_
  rintro e w' ⟨rfl, F', h3, h4, h5⟩
  have by1 := by_of (own := own) (i := 1) h4 h2 1
  exact ⟨rfl, _, z.frame by1 (by decide), HIn.of h3 h2 h5 (fun k hk => h1.lt hk)⟩
theorem h1_full (h : H1 w0 w p room s when) (k a b : Int) (hk : Hp.fits k) (hs : has s k = false) (hr : ¬ (s.length : Int) < room) :
    Calls Try.prog 25 #[.pointer (some ⟨p, 0, none⟩), .int .i64 k, .int .i64 a, .int .i64 b] w fun e w' => e = .returned (.bool false) ∧ H1 w0 w' p room s when := by
  have h0 := h
  obtain ⟨own, z, F, h1, h2⟩ := h
  refine (Hp.obj_full h1 k a b hk hs hr).mono ?_
  rintro e w' ⟨rfl, h3, h4⟩
  exact ⟨rfl, h0.below h4⟩
theorem h1_drop (h : H1 w0 w p room s when) (k : Int) (hk : Hp.fits k) :
    Calls Try.prog 29 #[.pointer (some ⟨p, 0, none⟩), .int .i64 k] w fun e w' => e = .returned (.bool (has s k)) ∧ H1 w0 w' p room (without s k) when := by
  obtain ⟨own, z, F, h1, h2⟩ := h
  refine (Hp.obj_drop h1 k hk).mono ?_
  rintro e w' ⟨rfl, h3, h4⟩
  have by1 := by_of (own := own) (i := 1) h4 h2 1
  exact ⟨rfl, _, z.frame by1 (by decide), HIn.keep h3 h2 (fun k hk => h1.lt hk) 1⟩
theorem h1_take (h : H1 w0 w p room s when) {x : It Int} (hx : least s = some x) :
    Calls Try.prog 27 #[.pointer (some ⟨p, 0, none⟩)] w fun e w' => e = .returned (.tuple #[.int .i64 x.v, .bool true]) ∧ H1 w0 w' p room (without s x.v) when := by
  obtain ⟨own, z, F, h1, h2⟩ := h
  refine (Hp.obj_take h1).mono ?_
  rintro e w' ⟨rfl, h3, h4⟩
  have by1 := by_of (own := own) (i := 1) h4 h2 1
  rw [hx] at h3
  refine ⟨by unfold Hp.firstV; rw [hx]; rfl, _, z.frame by1 (by decide), HIn.keep h3 h2 (fun k hk => h1.lt hk) 1⟩
theorem h1_take_no (h : H1 w0 w p room [] when) :
    Calls Try.prog 27 #[.pointer (some ⟨p, 0, none⟩)] w fun e w' => e = .returned (.tuple #[.int .i64 0, .bool false]) ∧ H1 w0 w' p room [] when := by
  obtain ⟨own, z, F, h1, h2⟩ := h
  refine (Hp.obj_take h1).mono ?_
  rintro e w' ⟨rfl, h3, h4⟩
  have by1 := by_of (own := own) (i := 1) h4 h2 1
  exact ⟨rfl, _, z.frame by1 (by decide), HIn.keep h3 h2 (fun k hk => h1.lt hk) 1⟩
theorem h1_first (h : H1 w0 w p room s when) : Calls Try.prog 33 #[.pointer (some ⟨p, 0, none⟩)] w fun e w' => e = .returned (.tuple #[.int .i64 (Hp.firstV s), .bool (least s).isSome]) ∧ w' = w := by
  obtain ⟨own, z, F, h1, h2⟩ := h
  exact Hp.obj_first h1
theorem h1_len (h : H1 w0 w p room s when) : Calls Try.prog 35 #[.pointer (some ⟨p, 0, none⟩)] w fun e w' => e = .returned (.int .i64 s.length) ∧ w' = w := by
  obtain ⟨own, z, F, h1, h2⟩ := h
  exact Hp.obj_len h1
theorem h1_key (h : H1 w0 w p room s when) (x : It Int) (hx : x ∈ s) :
    Calls Try.prog 31 #[.pointer (some ⟨p, 0, none⟩), .int .i64 x.v] w fun e w' => e = .returned (.tuple #[.int .i64 x.a, .int .i64 x.b, .bool true]) ∧ H1 w0 w' p room s when := by
  have h0 := h
  obtain ⟨own, z, F, h1, h2⟩ := h
  refine (Hp.obj_key h1 x hx).mono ?_
  rintro e w' ⟨rfl, h3, h4⟩
  exact ⟨rfl, h0.below h4⟩
theorem h1_keyless (h : H1 w0 w p room s when) (k : Int) (hk : Hp.fits k) (hs : has s k = false) :
    Calls Try.prog 31 #[.pointer (some ⟨p, 0, none⟩), .int .i64 k] w fun e w' => e = .returned (.tuple #[.int .i64 0, .int .i64 0, .bool false]) ∧ w' = w := by
  obtain ⟨own, z, F, h1, h2⟩ := h
  exact Hp.obj_keyless h1 k hk hs
end Go.Proofs.Ytpmamgdblbplcaa.Bg
