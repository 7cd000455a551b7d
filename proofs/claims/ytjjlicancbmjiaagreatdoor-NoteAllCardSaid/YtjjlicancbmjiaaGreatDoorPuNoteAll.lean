/- NoteAll in plain words. -/
import Derived.Test.YtjjlicancbmjiaaGreatDoorNoteR
import Derived.Test.YtjjlicancbmjiaaGreatDoorNP12
import Derived.Test.YtjjlicancbmjiaaGreatDoorCore7S
import Derived.Test.YtjjlicancbmjiaaGreatDoorOpen7
namespace Go.Proofs.YtjjlicancbmjiaaGreatDoor.PNeg
open Go.Proofs.YtjjlicancbmjiaaGreatDoor.PBeg Go.Proofs.YtjjlicancbmjiaaGreatDoor.Txt
open Go.RowKit Go.Lib Go.Proofs.YtjjlicancbmjiaaGreatDoorW.PrintWords Go.Proofs.YtjjlicancbmjiaaGreatDoorW.PrintLast Go.Proofs.YtjjlicancbmjiaaGreatDoorW.PrintMore
set_option linter.unusedVariables false
set_option linter.unusedSimpArgs false
theorem joinTail_len (L : List (List UInt8)) (n : Nat) (h : ∀ x ∈ L, x.length ≤ n) : (joinTail [32] L).length ≤ (n + 1) * L.length := by
  have := lens_le n L h
  rw [joinTail_length, Nat.add_mul]
  simp only [List.length_cons, List.length_nil]
  omega
theorem tskT_size (x y z : Int) (l : List S43) : (tskT x y z l).size ≤ 300 := by
  unfold tskT
  split
  · rename_i h
    obtain ⟨⟨h1, h2, h3, h4⟩, hl, hin⟩ := task_facts h
    have s0 := itoa_len (n := x) (by omega) (by omega)
    have s1 := itoa_len (n := y) (by omega) (by omega)
    have s2 := itoa_len (n := z) (by omega) (by omega)
    have := joinTail_len (l.map secBody) 70 (fun t ht => by
      obtain ⟨s, hs, rfl⟩ := List.mem_map.1 ht
      obtain ⟨⟨a1, a2⟩, ⟨a3, a4⟩, a5, a6⟩ := hin s hs
      have t0 := itoa_len (n := s.f0) (by omega) (by omega)
      have t1 := itoa_len (n := s.f1) (by omega) (by omega)
      have t2 := itoa_len (n := s.f2) (by omega) (by omega)
      unfold secBody
      simp only [List.length_append, List.length_cons]
      omega)
    rw [List.length_map] at this
    rw [mk_size, txt_eq, head_eq]
    simp only [List.length_append, List.length_cons]
    omega
  · show 0 ≤ 300; omega
theorem cfgTxt_size {a b c d : Int} {l : List Int} (h : configOk a b c d l = true) : (mk (cfgTxt a b c d l)).size ≤ 1000 := by
  obtain ⟨h1, h2⟩ := pieces_small h
  have := lens_le 21 _ h1
  rw [mk_size]
  unfold cfgTxt
  cases e : cfgPieces a b c d l with
  | nil => simp [join_nil]
  | cons x r =>
    rw [e] at this h2
    rw [join_length]
    simp only [List.length_cons, List.length_nil] at this h2 ⊢
    omega
theorem empty_list : (⟨#[]⟩ : ByteArray).toList = [] := mk_toList []
theorem of_empty {s : ByteArray} (h : s.toList = []) : s = ⟨#[]⟩ := toList_eq.1 (h.trans empty_list.symm)
noncomputable def tskEq (x y z : Int) (l : List S43) (x' y' z' : Int) (l' : List S43) : Bool := @decide (x = x' ∧ y = y' ∧ z = z' ∧ l = l') (Classical.propDecidable _)
theorem tskEq_true {x y z : Int} {l : List S43} {x' y' z' : Int} {l' : List S43} (h : x = x' ∧ y = y' ∧ z = z' ∧ l = l') : tskEq x y z l x' y' z' l' = true := by
  unfold tskEq; exact @decide_eq_true _ (Classical.propDecidable _) h
theorem tskEq_false {x y z : Int} {l : List S43} {x' y' z' : Int} {l' : List S43} (h : ¬ (x = x' ∧ y = y' ∧ z = z' ∧ l = l')) : tskEq x y z l x' y' z' l' = false := by
  unfold tskEq; exact @decide_eq_false _ (Classical.propDecidable _) h
theorem same_f {k : Nat} (x y z : Int) (l : List S43) (x' y' z' : Int) (l' : List S43) (hl : l.length ≤ 1000) (hk : 2000 ≤ k) : rule_Same.f k x y z l x' y' z' l' = some (tskEq x y z l x' y' z' l') := by
  by_cases h : x = x' ∧ y = y' ∧ z = z' ∧ l = l'
  · rw [tskEq_true h]
    obtain ⟨rfl, rfl, rfl, rfl⟩ := h
    exact same_yes _ _ _ _ hl (by omega)
  · rw [tskEq_false h]
    exact same_no _ _ _ _ _ _ _ _ hl (by omega) h
theorem tsk_same {x y z : Int} {l : List S43} {x' y' z' : Int} {l' : List S43} (h : ¬ (tskT x y z l).toList = []) (h' : ¬ (tskT x' y' z' l').toList = []) : (((tskT x y z l).toList == (tskT x' y' z' l').toList) != tskEq x y z l x' y' z' l') = false := by
  have k1 : taskOk 6 x y z l = true := by
    cases e : taskOk 6 x y z l with
    | true => rfl
    | false => exact absurd (by rw [putt_empty.2 e]; exact empty_list) h
  have k2 : taskOk 6 x' y' z' l' = true := by
    cases e : taskOk 6 x' y' z' l' with
    | true => rfl
    | false => exact absurd (by rw [putt_empty.2 e]; exact empty_list) h'
  by_cases e : x = x' ∧ y = y' ∧ z = z' ∧ l = l'
  · obtain ⟨rfl, rfl, rfl, rfl⟩ := e
    rw [tskEq_true ⟨rfl, rfl, rfl, rfl⟩]; simp
  · have : ¬ (tskT x y z l).toList = (tskT x' y' z' l').toList := fun e2 => by
      have e3 := toList_eq.1 e2
      unfold tskT at e3
      rw [if_pos k1, if_pos k2] at e3
      exact e (tsk_inj k1 k2 e3)
    rw [tskEq_false e, beq_eq_false_iff_ne.2 this]; rfl
theorem cfg_same {a b c d : Int} {l : List Int} {a' b' c' d' : Int} {l' : List Int} (h : ¬ (cfgT a b c d l).toList = []) (h' : ¬ (cfgT a' b' c' d' l').toList = []) : (((cfgT a b c d l).toList == (cfgT a' b' c' d' l').toList) != decide (a = a' ∧ b = b' ∧ c = c' ∧ d = d' ∧ l = l')) = false := by
  have k1 : configOk a b c d l = true := by
    cases e : configOk a b c d l with
    | true => rfl
    | false => exact absurd (by rw [put_empty.2 e]; exact empty_list) h
  have k2 : configOk a' b' c' d' l' = true := by
    cases e : configOk a' b' c' d' l' with
    | true => rfl
    | false => exact absurd (by rw [put_empty.2 e]; exact empty_list) h'
  by_cases e : a = a' ∧ b = b' ∧ c = c' ∧ d = d' ∧ l = l'
  · obtain ⟨rfl, rfl, rfl, rfl, rfl⟩ := e
    simp
  · have : ¬ (cfgT a b c d l).toList = (cfgT a' b' c' d' l').toList := fun e2 => by
      have e3 := toList_eq.1 e2
      unfold cfgT at e3
      rw [if_pos k1, if_pos k2] at e3
      exact e (cfg_inj k1 k2 e3)
    rw [decide_eq_false e, beq_eq_false_iff_ne.2 this]; rfl
theorem all_j (a b c d : Int) (r : List Int) (x y z : Int) (q : List S43) (hr : r.length ≤ 8) (hq : q.length ≤ 4) : hortatorlaw7_NoteAll.j0 3001 (cfgT a b c d r) (tskT x y z q) false a b c d r x y z q = some true := by
  show hortatorlaw7_NoteAll.j0 (3000 + 1) (cfgT a b c d r) (tskT x y z q) false a b c d r x y z q = some true
  simp only [hortatorlaw7_NoteAll.j0]
  rw [if_neg (by decide)]
  cases h : configOk a b c d r with
  | false => rw [put_empty.2 h, if_pos empty_list, refcfg_f _ _ _ _ _ (by omega) (by omega), h]; rfl
  | true =>
    have e : cfgT a b c d r = mk (cfgTxt a b c d r) := by unfold cfgT; rw [if_pos h]
    have hne : cfgTxt a b c d r ≠ [] := by unfold cfgTxt cfgPieces; rw [join_cons]; simp
    have hts := tskT_size x y z q
    rw [e, if_neg (by rw [mk_toList]; exact hne), GetConfig_f _ (cfgTxt_size h) (by omega), Option.bind_some, GetTask_f _ _ _ _ _ _ (by omega) (by omega), Option.bind_some, getC_back h]
    simp only
    rw [if_pos trivial, sameConfig_f _ _ _ _ _ _ _ _ _ _ (by omega) (by omega), Option.bind_some, decide_eq_true ⟨rfl, rfl, rfl, rfl, rfl⟩, if_pos rfl, reftask_f, Option.bind_some]
    have hlen : (r.length : Int) ≤ 6 := by have := (config_facts h).2.2.2.2.1; omega
    cases ht : taskOk r.length x y z q with
    | true =>
      have h6 := task_mono hlen ht
      have e2 : tskT x y z q = mk (taskTxt x y z q) := by unfold tskT; rw [if_pos h6]
      rw [e2, getT_back h ht]
      simp only
      rw [if_pos (by rfl), if_pos trivial, same_f _ _ _ _ _ _ _ _ (by omega) (by omega), tskEq_true ⟨rfl, rfl, rfl, rfl⟩]
      rfl
    | false =>
      have e2 : getT a b c d r (tskT x y z q) = (0, 0, 0, [], 1) := by
        rcases getT_or a b c d r (tskT x y z q) with e2 | ⟨x1, y1, z1, q1, _, _, ht1, h61, e3⟩
        · exact e2
        · exfalso
          cases h6 : taskOk 6 x y z q with
          | false =>
            rw [putt_empty.2 h6] at e3
            have e4 : tskT x1 y1 z1 q1 = ⟨#[]⟩ := by unfold tskT; rw [if_pos h61, ← e3]
            rw [putt_empty.1 e4] at h61
            cases h61
          | true =>
            unfold tskT at e3
            rw [if_pos h6] at e3
            obtain ⟨rfl, rfl, rfl, rfl⟩ := tsk_inj h6 h61 e3
            rw [ht1] at ht; cases ht
      rw [e2]
      simp only
      rw [if_pos (by rfl), if_neg (by decide), same_f _ _ _ _ _ _ _ _ (by simp) (by omega), tskEq_true ⟨rfl, rfl, rfl, rfl⟩]
      rfl
theorem All (a b c d : Int) (lc : List Int) (a' b' c' d' : Int) (ld : List Int) (x y z : Int) (lt : List S43) (x' y' z' : Int) (lu : List S43) : ∃ k, hortatorlaw7_NoteAll.f k a b c d lc a' b' c' d' ld x y z lt x' y' z' lu = some true := by
  refine ⟨3001, ?_⟩
  unfold hortatorlaw7_NoteAll.f
  rw [show begun7.f = some true from rfl, Option.bind_some, if_pos rfl]
  simp only [cfg_f, tsk_f, Option.bind_some]
  have h1 : (lc.take 8).length ≤ 8 := by rw [List.length_take]; exact Nat.min_le_left _ _
  have h2 : (ld.take 8).length ≤ 8 := by rw [List.length_take]; exact Nat.min_le_left _ _
  have h3 : (lt.take 4).length ≤ 4 := by rw [List.length_take]; exact Nat.min_le_left _ _
  have h4 : (lu.take 4).length ≤ 4 := by rw [List.length_take]; exact Nat.min_le_left _ _
  generalize lc.take 8 = r at h1
  generalize ld.take 8 = r' at h2
  generalize lt.take 4 = q at h3
  generalize lu.take 4 = q' at h4
  have hj := all_j a b c d r x y z q h1 h3
  rw [PutConfig_f _ _ _ _ _ (by omega), Option.bind_some, PutConfig_f _ _ _ _ _ (by omega), Option.bind_some, PutTask_f _ _ _ _ (by omega), Option.bind_some, PutTask_f _ _ _ _ (by omega), Option.bind_some,
    refPutConfig_f _ _ _ _ _ (by omega) (by omega), Option.bind_some, if_pos rfl, refPutTask_f _ _ _ _ (by omega), Option.bind_some, if_pos rfl]
  simp only [same_f _ _ _ _ _ _ _ _ (show q.length ≤ 1000 by omega) (show 2000 ≤ 3001 by decide), sameConfig_f _ _ _ _ _ _ _ _ _ _ (show r.length ≤ 1000 by omega) (show 2000 ≤ 3001 by decide), Option.bind_some]
  by_cases e1 : (cfgT a b c d r).toList = []
  · rw [if_pos e1]
    by_cases e3 : (tskT x y z q).toList = []
    · rw [if_pos e3]; exact hj
    rw [if_neg e3]
    by_cases e4 : (tskT x' y' z' q').toList = []
    · rw [if_pos e4]; exact hj
    rw [if_neg e4, tsk_same e3 e4]; exact hj
  rw [if_neg e1]
  by_cases e2 : (cfgT a' b' c' d' r').toList = []
  · rw [if_pos e2]
    by_cases e3 : (tskT x y z q).toList = []
    · rw [if_pos e3]; exact hj
    rw [if_neg e3]
    by_cases e4 : (tskT x' y' z' q').toList = []
    · rw [if_pos e4]; exact hj
    rw [if_neg e4, tsk_same e3 e4]; exact hj
  rw [if_neg e2, cfg_same e1 e2, if_neg (by decide)]
  by_cases e3 : (tskT x y z q).toList = []
  · rw [if_pos e3]; exact hj
  rw [if_neg e3]
  by_cases e4 : (tskT x' y' z' q').toList = []
  · rw [if_pos e4]; exact hj
  rw [if_neg e4, tsk_same e3 e4]; exact hj
end Go.Proofs.YtjjlicancbmjiaaGreatDoor.PNeg
namespace Go.Proofs.YtjjlicancbmjiaaGreatDoor.Pure
set_option linter.unusedVariables false
open Go.Proofs.YtjjlicancbmjiaaGreatDoor.PBeg Go.Proofs.YtjjlicancbmjiaaGreatDoor.On
theorem NoteAll (a b c d : Int) (lc : List Int) (hc : I64 a ∧ I64 b ∧ I64 c ∧ I64 d ∧ ∀ x ∈ lc, I64 x) (a' b' c' d' : Int) (ld : List Int) (hd : I64 a' ∧ I64 b' ∧ I64 c' ∧ I64 d' ∧ ∀ x ∈ ld, I64 x)
    (x y z : Int) (lt : List S43) (ht : I64 x ∧ I64 y ∧ I64 z ∧ ∀ s ∈ lt, I64 s.f0 ∧ I64 s.f1 ∧ I64 s.f2) (x' y' z' : Int) (lu : List S43) (hu : I64 x' ∧ I64 y' ∧ I64 z' ∧ ∀ s ∈ lu, I64 s.f0 ∧ I64 s.f1 ∧ I64 s.f2) :
    ∃ k, PNeg.hortatorlaw7_NoteAll.f k a b c d lc a' b' c' d' ld x y z lt x' y' z' lu = some true := PNeg.All a b c d lc a' b' c' d' ld x y z lt x' y' z' lu
end Go.Proofs.YtjjlicancbmjiaaGreatDoor.Pure
