/- NoteAny in plain words. -/
import Derived.Test.YtjjlicancbmjiaaGreatDoorNoteS
import Derived.Test.YtjjlicancbmjiaaGreatDoorNP9
import Derived.Test.YtjjlicancbmjiaaGreatDoorOpen7
namespace Go.Proofs.YtjjlicancbmjiaaGreatDoor.PNeg
open Go.Proofs.YtjjlicancbmjiaaGreatDoor.PBeg Go.Proofs.YtjjlicancbmjiaaGreatDoor.Txt
open Go.RowKit Go.Lib Go.Proofs.YtjjlicancbmjiaaGreatDoorW.PrintWords Go.Proofs.YtjjlicancbmjiaaGreatDoorW.PrintLast Go.Proofs.YtjjlicancbmjiaaGreatDoorW.PrintMore
set_option linter.unusedVariables false
set_option linter.unusedSimpArgs false
theorem joinTail_len (L : List (List UInt8)) (n : Nat) (h : ∀ x ∈ L, x.length ≤ n) : (joinTail [32] L).length ≤ (n + 1) * L.length := by
  have := lens_le n L h
  rw [joinTail_length, Nat.add_mul]
  simp only [List.length_cons, List.length_nil]
  omega
theorem tskT_size (x y z : Int) (l : List S43) : (tskT x y z l).size ≤ 300 := by
  unfold tskT
  split
  · rename_i h
    obtain ⟨⟨h1, h2, h3, h4⟩, hl, hin⟩ := task_facts h
    have s0 := itoa_len (n := x) (by omega) (by omega)
    have s1 := itoa_len (n := y) (by omega) (by omega)
    have s2 := itoa_len (n := z) (by omega) (by omega)
    have := joinTail_len (l.map secBody) 70 (fun t ht => by
      obtain ⟨s, hs, rfl⟩ := List.mem_map.1 ht
      obtain ⟨⟨a1, a2⟩, ⟨a3, a4⟩, a5, a6⟩ := hin s hs
      have t0 := itoa_len (n := s.f0) (by omega) (by omega)
      have t1 := itoa_len (n := s.f1) (by omega) (by omega)
      have t2 := itoa_len (n := s.f2) (by omega) (by omega)
      unfold secBody
      simp only [List.length_append, List.length_cons]
      omega)
    rw [List.length_map] at this
    rw [mk_size, txt_eq, head_eq]
    simp only [List.length_append, List.length_cons]
    omega
  · show 0 ≤ 300; omega
theorem cfgT_size {a b c d : Int} {l : List Int} (h : configOk a b c d l = true) : (cfgT a b c d l).size ≤ 500 := by
  unfold cfgT
  rw [if_pos h]
  obtain ⟨h1, h2⟩ := pieces_small h
  have := lens_le 21 _ h1
  rw [mk_size]
  unfold cfgTxt
  cases e : cfgPieces a b c d l with
  | nil => simp [join_nil]
  | cons x r =>
    rw [e] at this h2
    rw [join_length]
    simp only [List.length_cons, List.length_nil] at this h2 ⊢
    omega
theorem strOf_size (xs : List Int) : (strOfNums xs).size = xs.length := by
  show (List.toArray _).size = _
  simp
theorem size0 (s : ByteArray) (h : s.size = 0) : s.toList = [] := by
  have e : s = mk s.data.toList := by cases s; rfl
  rw [e, mk_toList]
  exact List.eq_nil_of_length_eq_zero h
/-- One round of the loop, from its head on: the text there is small. -/
theorem any_round (a b c d : Int) (lr : List Int) (x0 : ByteArray) (x3 x4 : Int) (hc : configOk a b c d lr = true) (h0 : x0.size ≤ 60) (ys : List ByteArray) (i : Int) (hi : 0 ≤ i) (hil : i < (ys.length : Int)) (hm : i < 1000) (hs : (rdOf ByteArray.empty ys i).size ≤ 500) (k : Nat) (hk : 2002 ≤ k)
    (hn : ∀ k', k - 1 ≤ k' → k' ≤ k → hortatorlaw7_NoteAny.l0 k' x0 x3 x4 ys (ys.length : Int) (i + 1) a b c d lr = some true) :
    hortatorlaw7_NoteAny.l0 (k + 1) x0 x3 x4 ys (ys.length : Int) i a b c d lr = some true := by
  obtain ⟨m, rfl⟩ : ∃ m, k = m + 1 := ⟨k - 1, by omega⟩
  simp only [hortatorlaw7_NoteAny.l0]
  rw [if_pos hil, if_pos hi, if_pos hil]
  generalize rdOf ByteArray.empty ys i = s at hs
  have w1 : wrap64 (i + 1) = i + 1 := wr64 (by omega) (by omega)
  have hnext := hn m (by omega) (by omega)
  by_cases he : s.toList = []
  · rw [if_pos he]
    simp only [hortatorlaw7_NoteAny.j2]
    rw [if_pos trivial, w1]
    exact hnext
  rw [if_neg he]
  have hs0 : 0 < s.size := by
    rcases Nat.eq_zero_or_pos s.size with h | h
    · exact absurd (size0 s h) he
    · exact h
  simp only [hortatorlaw7_NoteAny.j2]
  by_cases hx : x3 < 0
  · rw [if_pos (by simpa using hx), w1]
    exact hnext
  rw [if_neg (by simpa using hx)]
  have ht : turnB.f s x3 x4 = some ((numsOf s).set (Int.tmod x3 (s.size : Int)).toNat (Go.bits .xor .u8 (rd (numsOf s) (Int.tmod x3 (s.size : Int))) x4)) := by
    unfold turnB.f
    rw [if_pos hs0, if_pos (by omega), if_pos (by omega)]
  have m0 := Int.tmod_nonneg (s.size : Int) (show 0 ≤ x3 by omega)
  have m1 := Int.tmod_lt_of_pos x3 (show 0 < (s.size : Int) by omega)
  rw [ht, Option.bind_some, tells_f _ _ _ _ _ _ hc (by rw [strOf_size, List.length_set, numsOf_len]; omega) (by omega), Option.bind_some, if_pos rfl, if_neg (by omega), if_pos m0, if_pos (by omega),
    tells_f _ _ _ _ _ _ hc (by rw [ByteArray.size_extract]; omega) (by omega), Option.bind_some, if_pos rfl, if_pos (by omega), tells_f _ _ _ _ _ _ hc (by rw [ByteArray.size_append]; omega) (by omega), Option.bind_some, if_pos rfl, w1]
  exact hnext
theorem any_j0 (a b c d : Int) (lr : List Int) (x0 : ByteArray) (x3 x4 : Int) (x y z : Int) (ls : List S43) (hc : configOk a b c d lr = true) (h0 : x0.size ≤ 60) : hortatorlaw7_NoteAny.j0 3001 x0 x3 x4 a b c d lr x y z ls = some true := by
  show hortatorlaw7_NoteAny.j0 (3000 + 1) x0 x3 x4 a b c d lr x y z ls = some true
  simp only [hortatorlaw7_NoteAny.j0]
  rw [tells_f _ _ _ _ _ _ hc (by omega) (by omega), Option.bind_some, if_pos rfl, PutConfig_f _ _ _ _ _ (by omega), Option.bind_some, PutTask_f _ _ _ _ (by omega), Option.bind_some, Option.bind_some]
  have z1 := cfgT_size hc
  have z2 := tskT_size x y z ls
  have e2 : ∀ k', 2001 ≤ k' → hortatorlaw7_NoteAny.l0 k' x0 x3 x4 [cfgT a b c d lr, tskT x y z ls] (([cfgT a b c d lr, tskT x y z ls] : List ByteArray).length : Int) 2 a b c d lr = some true := by
    intro k' hk'
    obtain ⟨m, rfl⟩ : ∃ m, k' = m + 1 := ⟨k' - 1, by omega⟩
    simp only [hortatorlaw7_NoteAny.l0]
    rw [if_neg (by simp)]
  have e1 : ∀ k', 2010 ≤ k' → hortatorlaw7_NoteAny.l0 k' x0 x3 x4 [cfgT a b c d lr, tskT x y z ls] (([cfgT a b c d lr, tskT x y z ls] : List ByteArray).length : Int) 1 a b c d lr = some true := by
    intro k' hk'
    obtain ⟨m, rfl⟩ : ∃ m, k' = m + 1 := ⟨k' - 1, by omega⟩
    exact any_round a b c d lr x0 x3 x4 hc h0 _ 1 (by omega) (by simp) (by omega) (by show (tskT x y z ls).size ≤ 500; omega) m (by omega) (fun q h1 h2 => e2 q (by omega))
  exact any_round a b c d lr x0 x3 x4 hc h0 [cfgT a b c d lr, tskT x y z ls] 0 (by omega) (by simp) (by omega) z1 2999 (by omega) (fun q h1 h2 => e1 q (by omega))
theorem Any (s : ByteArray) (a b c d : Int) (lr : List Int) (x y z : Int) (ls : List S43) (p q : Int) : ∃ k, hortatorlaw7_NoteAny.f k s a b c d lr x y z ls p q = some true := by
  refine ⟨3001, ?_⟩
  unfold hortatorlaw7_NoteAny.f
  obtain ⟨n1, n2, n3⟩ := mn8 s.size 60 (by omega)
  rw [show begun7.f = some true from rfl, Option.bind_some, if_pos rfl, if_pos n1, if_pos n2, cfg_f, Option.bind_some, tsk_f, Option.bind_some]
  simp only
  have hl : (lr.take 8).length ≤ 8 := by rw [List.length_take]; exact Nat.min_le_left _ _
  generalize lr.take 8 = l8 at hl
  have h0 : (s.extract 0 (mn (s.size : Int) 60).toNat).size ≤ 60 := by rw [ByteArray.size_extract]; omega
  rw [refcfg_f _ _ _ _ _ (by omega) (by omega), Option.bind_some]
  cases h : configOk a b c d l8 with
  | true => rw [if_pos rfl]; exact any_j0 _ _ _ _ _ _ _ _ _ _ _ _ h h0
  | false => rw [if_neg (by decide)]; exact any_j0 _ _ _ _ _ _ _ _ _ _ _ _ (by decide) h0
end Go.Proofs.YtjjlicancbmjiaaGreatDoor.PNeg
namespace Go.Proofs.YtjjlicancbmjiaaGreatDoor.Pure
set_option linter.unusedVariables false
open Go.Proofs.YtjjlicancbmjiaaGreatDoor.PBeg Go.Proofs.YtjjlicancbmjiaaGreatDoor.On
theorem NoteAny (s : ByteArray) (a b c d : Int) (l : List Int) (h : I64 a ∧ I64 b ∧ I64 c ∧ I64 d ∧ ∀ x ∈ l, I64 x) (x y z : Int) (ls : List S43) (h' : I64 x ∧ I64 y ∧ I64 z ∧ ∀ s ∈ ls, I64 s.f0 ∧ I64 s.f1 ∧ I64 s.f2) (p : Int) (hp : I64 p) (q : Int) (hq : 0 ≤ q ∧ q ≤ 255) : ∃ k, PNeg.hortatorlaw7_NoteAny.f k s a b c d l x y z ls p q = some true := PNeg.Any s a b c d l x y z ls p q
end Go.Proofs.YtjjlicancbmjiaaGreatDoor.Pure
