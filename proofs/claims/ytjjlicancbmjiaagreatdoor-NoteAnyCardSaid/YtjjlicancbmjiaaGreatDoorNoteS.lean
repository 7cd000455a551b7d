/- Any text is a configuration's, a task's, just its, or none's: tells, in plain words. -/
import Derived.Test.YtjjlicancbmjiaaGreatDoorNoteR
import Derived.Test.YtjjlicancbmjiaaGreatDoorNP13
import Derived.Test.YtjjlicancbmjiaaGreatDoorCore7S
namespace Go.Proofs.YtjjlicancbmjiaaGreatDoor.PNeg
open Go.Proofs.YtjjlicancbmjiaaGreatDoor.PBeg Go.Proofs.YtjjlicancbmjiaaGreatDoor.Txt
open Go.RowKit Go.Lib Go.Proofs.YtjjlicancbmjiaaGreatDoorW.PrintWords Go.Proofs.YtjjlicancbmjiaaGreatDoorW.PrintLast Go.Proofs.YtjjlicancbmjiaaGreatDoorW.PrintMore
set_option linter.unusedVariables false
set_option linter.unusedSimpArgs false
theorem cfg_len {a b c d : Int} {l : List Int} (h : configOk a b c d l = true) : l.length ≤ 1000 := by have := (config_facts h).2.2.2.2.1; omega
theorem tells_f {k : Nat} (a b c d : Int) (lr : List Int) (s : ByteArray) (hc : configOk a b c d lr = true) (hs : s.size ≤ 1000) (hk : 2001 ≤ k) : hortatorlaw7_tells.f k a b c d lr s = some true := by
  obtain ⟨m, rfl⟩ : ∃ m, k = m + 1 := ⟨k - 1, by omega⟩
  unfold hortatorlaw7_tells.f
  rw [GetConfig_f s hs (by omega), Option.bind_some, GetTask_f a b c d lr s hs (by omega), Option.bind_some]
  have jc : ∀ (x8 : Int) a' b' c' d' l' x y z ls, configOk a' b' c' d' l' = true → s = mk (cfgTxt a' b' c' d' l') → ((x8 = 1) ∨ (x8 = 0 ∧ taskOk lr.length x y z ls = true ∧ taskOk 6 x y z ls = true ∧ s = mk (taskTxt x y z ls))) → hortatorlaw7_tells.j0 (m + 1) s 0 x8 false a b c d lr a' b' c' d' l' x y z ls = some true := by
    intro x8 a' b' c' d' l' x y z ls hc' he h8
    simp only [hortatorlaw7_tells.j0]
    have e1 : cfgT a' b' c' d' l' = s := by rw [he]; unfold cfgT; rw [if_pos hc']
    rw [if_neg (by decide), if_pos trivial, refPutConfig_f _ _ _ _ _ (cfg_len hc') (by omega), Option.bind_some, if_pos (toList_eq.2 e1), if_neg (by rw [he, mk_toList]; exact cfgTxt_ne _ _ _ _ _)]
    rcases h8 with h8 | ⟨h8, h9, h10, h11⟩
    · rw [if_neg (by rw [h8]; decide)]
    · have e2 : tskT x y z ls = s := by rw [h11]; unfold tskT; rw [if_pos h10]
      rw [if_pos h8, refPutTask_f _ _ _ _ (by omega), Option.bind_some, if_pos (toList_eq.2 e2), reftask_f, h9]; rfl
  have jn : ∀ (x8 : Int) a' b' c' d' l' x y z ls, ((x8 = 1) ∨ (x8 = 0 ∧ taskOk lr.length x y z ls = true ∧ taskOk 6 x y z ls = true ∧ s = mk (taskTxt x y z ls))) → hortatorlaw7_tells.j0 (m + 1) s 1 x8 false a b c d lr a' b' c' d' l' x y z ls = some true := by
    intro x8 a' b' c' d' l' x y z ls h8
    simp only [hortatorlaw7_tells.j0]
    rw [if_neg (by decide), if_neg (by decide)]
    rcases h8 with h8 | ⟨h8, h9, h10, h11⟩
    · rw [if_neg (by rw [h8]; decide)]
    · have e2 : tskT x y z ls = s := by rw [h11]; unfold tskT; rw [if_pos h10]
      rw [if_pos h8, refPutTask_f _ _ _ _ (by omega), Option.bind_some, if_pos (toList_eq.2 e2), reftask_f, h9]; rfl
  have hsc : hortatorlaw7_sameConfig.f (m + 1) 0 0 0 0 [] 0 0 0 0 [] = some true := by rw [sameConfig_f _ _ _ _ _ _ _ _ _ _ (by simp) (by omega)]; rfl
  have hst : rule_Same.f (m + 1) 0 0 0 [] 0 0 0 [] = some true := same_yes 0 0 0 [] (by simp) (by simp)
  rcases getC_or s with e1 | ⟨a', b', c', d', l', e1, hc', he1⟩ <;> rcases getT_or a b c d lr s with e2 | ⟨x, y, z, ls, e2, _, ht, h6, he2⟩ <;> rw [e1, e2] <;> simp only
  · rw [if_neg (by decide), if_pos trivial, hsc, Option.bind_some, if_pos rfl, if_neg (by decide), if_pos trivial, hst, Option.bind_some]
    exact jn _ _ _ _ _ _ _ _ _ _ (.inl rfl)
  · rw [if_neg (by decide), if_pos trivial, hsc, Option.bind_some, if_pos rfl, if_pos trivial]
    exact jn _ _ _ _ _ _ _ _ _ _ (.inr ⟨rfl, ht, h6, he2⟩)
  · rw [if_pos trivial, if_neg (by decide), if_pos trivial, hst, Option.bind_some]
    exact jc _ _ _ _ _ _ _ _ _ _ hc' he1 (.inl rfl)
  · rw [if_pos trivial, if_pos trivial]
    exact jc _ _ _ _ _ _ _ _ _ _ hc' he1 (.inr ⟨rfl, ht, h6, he2⟩)
end Go.Proofs.YtjjlicancbmjiaaGreatDoor.PNeg
