/- MostLess: the plain statement. -/
import Derived.Test.YtddepomgaeadpaaGreatDoorPu
import Derived.Test.YtddepomgaeadpaaGreatDoorPAllx17
namespace Go.Proofs.YtddepomgaeadpaaGreatDoor.Pure
open Go.RowKit Go.Proofs.YtddepomgaeadpaaGreatDoorW.PrintWords Go.Proofs.YtddepomgaeadpaaGreatDoorW.PrintMore Go.Proofs.YtddepomgaeadpaaGreatDoor.LoadMath Go.Proofs.YtddepomgaeadpaaGreatDoor.PAll Go.Proofs.YtddepomgaeadpaaGreatDoor.On
set_option linter.unusedVariables false
theorem MostLess (l0 : List S31) (u0 : ∀ x ∈ l0, I64 x.f0 ∧ I64 x.f1 ∧ I64 x.f2) (a1_0 : Int) (h10 : I64 a1_0) (a1_1 : Int) (h11 : I64 a1_1) (a1_2 : Int) (h12 : I64 a1_2) (a2 : Int) (h2 : I64 a2) (a3 : Int) (h3 : I64 a3) (a4 : Int) (h4 : I64 a4) : ∃ k, hortatorlaw9_MostLess.f k l0 a1_0 a1_1 a1_2 a2 a3 a4 = some true := by
  refine ⟨K, ?_⟩
  unfold hortatorlaw9_MostLess.f
  have g2 := b31 a2
  have g3 := b63 a3
  have g4 := b31 a4
  rw [b9, Option.bind_some, if_pos rfl, w64 (x := 1 + bits .and .i64 a2 31) (by omega) (by omega), w64 (x := 1 + bits .and .i64 a3 63) (by omega) (by omega), w64 (x := 1 + bits .and .i64 a4 31) (by omega) (by omega), loads_f, Option.bind_some, loads_f, take10, Option.bind_some, Option.bind_some]
  generalize bits .and .i64 a2 31 = x2 at *
  generalize bits .and .i64 a3 63 = x3 at *
  generalize bits .and .i64 a4 31 = x4 at *
  obtain ⟨d, hd⟩ : ∃ c, 1 + x2 = c := ⟨_, rfl⟩
  obtain ⟨t, ht⟩ : ∃ c, 1 + x3 = c := ⟨_, rfl⟩
  obtain ⟨top, hp⟩ : ∃ c, 1 + x4 = c := ⟨_, rfl⟩
  rw [hd, ht, hp, w64 (x := top + 1) (by omega) (by omega)]
  have l10 := len10 l0
  generalize l0.take 10 = l at *
  rw [if_pos (by simp only [List.length_cons, List.length_nil]; omega), Option.bind_some, fits_f _ (by decide), Option.bind_some]
  obtain ⟨r2, hr2, p2⟩ := fitTop_nonneg (l := l) (d := d) (t := t) (top := top)
  by_cases c : fitsV (lds (l ++ [(⟨a1_0, a1_1, a1_2⟩ : S31)])) = true
  · rw [if_pos c]
    have hle : ∃ r1, most_Fit.f K (l ++ [(⟨a1_0, a1_1, a1_2⟩ : S31)]) d t top = some r1 ∧ r1 ≤ r2 := by
      cases hb : mayMost (lds (l ++ [(⟨a1_0, a1_1, a1_2⟩ : S31)])) d t
      · exact ⟨0, fit_bad hb (by decide), p2⟩
      · obtain ⟨r1, hr1, hT1⟩ := fit_f (top := top) hb (k := K) (by decide)
        obtain ⟨q1, q2, q3, q4, q5⟩ := mayMost_iff.mp hb
        have hb2 : mayMost (lds l) d t = true := mayMost_iff.mpr ⟨by rw [lds_length]; omega, q2, q3, q4, by rw [lds_append] at q5; exact q5.left⟩
        obtain ⟨r2', hr2', hT2⟩ := fit_f (top := top) hb2 (k := K) (by decide)
        rw [hr2] at hr2'
        cases hr2'
        refine ⟨r1, hr1, top_le hT1 hT2 (Int.le_refl _) (fun c ⟨c1, cP⟩ => ⟨c1, ?_⟩)⟩
        unfold FitOne at cP ⊢
        rw [lds_append] at cP
        exact fit_part cP
    obtain ⟨r1, hr1, l1⟩ := hle
    have hle2 : ∃ r3, most_Fit.f K l d t (top + 1) = some r3 ∧ r2 ≤ r3 := by
      cases hb : mayMost (lds l) d t
      · rw [fit_bad hb (by decide)] at hr2
        cases hr2
        exact ⟨0, fit_bad hb (by decide), Int.le_refl _⟩
      · obtain ⟨r2', hr2', hT2⟩ := fit_f (top := top) hb (k := K) (by decide)
        rw [hr2] at hr2'
        cases hr2'
        obtain ⟨r3, hr3, hT3⟩ := fit_f (top := top + 1) hb (k := K) (by decide)
        exact ⟨r3, hr3, top_le hT2 hT3 (by omega) (fun c h => h)⟩
    obtain ⟨r3, hr3, l3⟩ := hle2
    rw [hr1, Option.bind_some, hr2, Option.bind_some, if_pos l1, Option.bind_some, hr3, Option.bind_some, decide_eq_true l3]
  · rw [if_neg c, fit_bad (mayMost_unfit c) (by decide)]; rfl
end Go.Proofs.YtddepomgaeadpaaGreatDoor.Pure
