/- NoteNoughts in plain words. -/
import Derived.Test.YtjjlicancbmjiaaGreatDoorNoteS
import Derived.Test.YtjjlicancbmjiaaGreatDoorNP14
import Derived.Test.YtjjlicancbmjiaaGreatDoorOpen7
namespace Go.Proofs.YtjjlicancbmjiaaGreatDoor.PNeg
open Go.Proofs.YtjjlicancbmjiaaGreatDoor.PBeg Go.Proofs.YtjjlicancbmjiaaGreatDoor.Txt
open Go.RowKit Go.Lib Go.Proofs.YtjjlicancbmjiaaGreatDoorW.PrintWords Go.Proofs.YtjjlicancbmjiaaGreatDoorW.PrintLast Go.Proofs.YtjjlicancbmjiaaGreatDoorW.PrintMore
set_option linter.unusedVariables false
set_option linter.unusedSimpArgs false
theorem joinTail_len (L : List (List UInt8)) (n : Nat) (h : ∀ x ∈ L, x.length ≤ n) : (joinTail [32] L).length ≤ (n + 1) * L.length := by
  have := lens_le n L h
  rw [joinTail_length, Nat.add_mul]
  simp only [List.length_cons, List.length_nil]
  omega
theorem tskT_size (x y z : Int) (l : List S43) : (tskT x y z l).size ≤ 300 := by
  unfold tskT
  split
  · rename_i h
    obtain ⟨⟨h1, h2, h3, h4⟩, hl, hin⟩ := task_facts h
    have s0 := itoa_len (n := x) (by omega) (by omega)
    have s1 := itoa_len (n := y) (by omega) (by omega)
    have s2 := itoa_len (n := z) (by omega) (by omega)
    have := joinTail_len (l.map secBody) 70 (fun t ht => by
      obtain ⟨s, hs, rfl⟩ := List.mem_map.1 ht
      obtain ⟨⟨a1, a2⟩, ⟨a3, a4⟩, a5, a6⟩ := hin s hs
      have t0 := itoa_len (n := s.f0) (by omega) (by omega)
      have t1 := itoa_len (n := s.f1) (by omega) (by omega)
      have t2 := itoa_len (n := s.f2) (by omega) (by omega)
      unfold secBody
      simp only [List.length_append, List.length_cons]
      omega)
    rw [List.length_map] at this
    rw [mk_size, txt_eq, head_eq]
    simp only [List.length_append, List.length_cons]
    omega
  · show 0 ≤ 300; omega
theorem empty_list : (⟨#[]⟩ : ByteArray).toList = [] := mk_toList []
theorem of_empty {s : ByteArray} (h : s.toList = []) : s = ⟨#[]⟩ := toList_eq.1 (h.trans empty_list.symm)
theorem Noughts (x y z : Int) (l : List S43) (p : Int) (s : ByteArray) : ∃ k, hortatorlaw7_NoteNoughts.f k x y z l p s = some true := by
  refine ⟨3001, ?_⟩
  unfold hortatorlaw7_NoteNoughts.f
  rw [show begun7.f = some true from rfl, Option.bind_some, if_pos rfl, tsk_f, Option.bind_some]
  simp only
  have hl : (l.take 4).length ≤ 4 := by rw [List.length_take]; exact Nat.min_le_left _ _
  generalize l.take 4 = m at hl
  rw [PutTask_f _ _ _ _ (by omega), Option.bind_some]
  have ht : ∀ r : ByteArray, r = tskT x y z m → hortatorlaw7_NoteNoughts.j0 3001 p s r true x y z m = some true := by
    intro r hr
    show hortatorlaw7_NoteNoughts.j0 (3000 + 1) p s r true x y z m = some true
    simp only [hortatorlaw7_NoteNoughts.j0]
    rw [if_pos trivial, refPutTask_f _ _ _ _ (by omega), Option.bind_some, hr]
    simp
  by_cases he : (tskT x y z m).toList = []
  · rw [if_pos he]; exact ht _ rfl
  rw [if_neg he]
  cases ha : decide (p < 0) with
  | true => exact ht _ rfl
  | false =>
    have ha : 0 ≤ p := by simpa using ha
    have hsz := tskT_size x y z m
    have h6 : taskOk 6 x y z m = true := by
      cases h6 : taskOk 6 x y z m with
      | true => rfl
      | false => exact absurd (by rw [putt_empty.2 h6]; exact empty_list) he
    have e : tskT x y z m = mk (taskTxt x y z m) := by unfold tskT; rw [if_pos h6]
    rw [e] at hsz ⊢
    generalize taskTxt x y z m = t at hsz
    show hortatorlaw7_NoteNoughts.j0 (3000 + 1) p s (mk t) false x y z m = some true
    simp only [hortatorlaw7_NoteNoughts.j0]
    have w1 : wrap64 (((mk t).size : Int) + 1) = ((mk t).size : Int) + 1 := wr64 (by omega) (by omega)
    rw [w1, if_neg (by decide), if_neg (by omega), Option.bind_some]
    have m0 := Int.tmod_nonneg (((mk t).size : Int) + 1) ha
    have m1 := Int.tmod_lt_of_pos p (show 0 < ((mk t).size : Int) + 1 by omega)
    generalize Int.tmod p (((mk t).size : Int) + 1) = q at m0 m1
    obtain ⟨n1, n2, n3⟩ := mn8 s.size 3 (by omega)
    have z1 : ((mk t).extract 0 q.toNat).size ≤ 300 := by rw [ByteArray.size_extract]; omega
    have z2 : (s.extract 0 (mn (s.size : Int) 3).toNat).size ≤ 3 := by rw [ByteArray.size_extract]; omega
    have z3 : ((mk t).extract q.toNat (mk t).size).size ≤ 300 := by rw [ByteArray.size_extract]; omega
    rw [if_pos n1, if_pos n2, if_pos m0, if_pos (by omega), if_pos (by omega), if_pos (by rw [ByteArray.size_append]; omega), if_pos (by omega)]
    have g0 : (⟨#[48]⟩ : ByteArray) ++ mk t = mk (48 :: t) := mk_append [48] t
    have g1 : (⟨#[43]⟩ : ByteArray) ++ mk t = mk (43 :: t) := mk_append [43] t
    have g2 : mk t ++ (⟨#[32]⟩ : ByteArray) = mk (t ++ [32]) := mk_append t [32]
    have ht : t.length ≤ 300 := hsz
    rw [g0, g1, g2, GetTask_f _ _ _ _ _ _ (by rw [mk_size, List.length_cons]; omega) (by omega), Option.bind_some, GetTask_f _ _ _ _ _ _ (by rw [mk_size, List.length_cons]; omega) (by omega), Option.bind_some, if_pos (by omega), GetTask_f _ _ _ _ _ _ (by rw [mk_size, List.length_append]; simp only [List.length_cons, List.length_nil]; omega) (by omega), Option.bind_some,
      getT_nought (by decide), getT_nought (by decide), getT_space, if_pos rfl, if_pos rfl, if_pos rfl,
      tells_f 1 1 0 0 [0, 0, 0, 0, 0, 0] _ (by decide) (by rw [ByteArray.size_append, ByteArray.size_append]; omega) (by omega)]
    rfl
end Go.Proofs.YtjjlicancbmjiaaGreatDoor.PNeg
namespace Go.Proofs.YtjjlicancbmjiaaGreatDoor.Pure
set_option linter.unusedVariables false
open Go.Proofs.YtjjlicancbmjiaaGreatDoor.PBeg Go.Proofs.YtjjlicancbmjiaaGreatDoor.On
theorem NoteNoughts (x y z : Int) (l : List S43) (h : I64 x ∧ I64 y ∧ I64 z ∧ ∀ s ∈ l, I64 s.f0 ∧ I64 s.f1 ∧ I64 s.f2) (p : Int) (hp : I64 p) (s : ByteArray) : ∃ k, PNeg.hortatorlaw7_NoteNoughts.f k x y z l p s = some true := PNeg.Noughts x y z l p s
end Go.Proofs.YtjjlicancbmjiaaGreatDoor.Pure
