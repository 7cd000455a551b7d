/- The sums of lists, and the laws TickAll, TickRound, TickLess, TickEdges, TickDown, TickSum: their pure statements. -/
import Derived.Test.YtjkicgbmdloomaaTickA
import Derived.OpenShut
import Derived.Test.YtjkicgbmdloomaaTickB
import Derived.Test.YtjkicgbmdloomaaPTickx8
import Derived.Test.YtjkicgbmdloomaaPTickx9
import Derived.Test.YtjkicgbmdloomaaPTickx10
namespace Go.Proofs.Ytjkicgbmdloomaa.TickC
open Go.RowKit Go.Proofs.Ytjkicgbmdloomaa.PTick Go.Proofs.Ytjkicgbmdloomaa.Math Go.Proofs.Ytjkicgbmdloomaa.TickA Go.Proofs.YtjkicgbmdloomaaW.PrintWords Go.Proofs.YtjkicgbmdloomaaW.PrintLast
open Go.Proofs.Ytjkicgbmdloomaa (TickB.S TickB.sz TickB.add_f TickB.back_f)

theorem sum_bd (l : List Int) (h : ∀ x ∈ l, Fits x) : -(l.length * 9223372036854775808 : Int) ≤ l.sum ∧ l.sum ≤ l.length * 9223372036854775808 := by
  induction l with
  | nil => simp
  | cons a t ih =>
    obtain ⟨h1, h2⟩ := h a (by simp)
    obtain ⟨i1, i2⟩ := ih (fun x hx => h x (by simp [hx]))
    simp only [List.length_cons, List.sum_cons]
    constructor <;> omega

theorem rd_eq (l : List Int) (i : Nat) (h : i < l.length) : rd l (i : Int) = l[i] := by
  unfold rd
  simp [h]
theorem take_sum (l : List Int) (i : Nat) (h : i < l.length) : (l.take (i + 1)).sum = (l.take i).sum + l[i] := by
  rw [List.take_succ_eq_append_getElem h, List.sum_append]; simp

theorem sum_l (l : List Int) (hl : ∀ x ∈ l, Fits x) (hn : l.length ≤ 1000000000000) (d : Nat) : ∀ (k i : Nat) (p q : Int), i + d = l.length → d < k → Rep p q (l.take i).sum →
    tick_Sum.l0 k l (l.length : Int) (i : Int) p q = some (nar l.sum) := by
  induction d with
  | zero =>
    intro k i p q hi hk r
    obtain ⟨k, rfl⟩ : ∃ m, k = m + 1 := ⟨k - 1, by omega⟩
    obtain rfl : i = l.length := by omega
    rw [List.take_length] at r
    simp only [tick_Sum.l0]
    rw [if_neg (by omega), narrow_f r]; rfl
  | succ d ih =>
    intro k i p q hi hk r
    obtain ⟨k, rfl⟩ : ∃ m, k = m + 1 := ⟨k - 1, by omega⟩
    have hlt : i < l.length := by omega
    simp only [tick_Sum.l0]
    rw [if_pos (by omega), if_pos (by omega), if_pos (by omega), rd_eq l i hlt]
    obtain ⟨p', q', e', r'⟩ := of_f (hl _ (List.getElem_mem hlt))
    rw [e']; simp only [Option.bind_some]
    have b1 := sum_bd (l.take (i + 1)) (fun x hx => hl x (List.mem_of_mem_take hx))
    rw [take_sum l i hlt, List.length_take] at b1
    obtain ⟨p2, q2, e2, r2⟩ := plus_f r r' (by omega) (by omega)
    rw [e2]; simp only [Option.bind_some]
    rw [← take_sum l i hlt] at r2
    have : wrap64 ((i : Int) + 1) = ((i + 1 : Nat) : Int) := by unfold wrap64; omega
    rw [this]
    exact ih k (i + 1) p2 q2 (by omega) (by omega) r2

theorem sum_f (l : List Int) (hl : ∀ x ∈ l, Fits x) (hn : l.length ≤ 1000000000000) (k : Nat) (hk : l.length < k) : tick_Sum.f k l = some (nar l.sum) := by
  unfold tick_Sum.f
  exact sum_l l hl hn l.length k 0 0 0 (by omega) hk ⟨by simp, by omega, by omega, by omega, by omega⟩

theorem rsum_l (l : List Int) (hl : ∀ x ∈ l, Fits x) (hn : l.length ≤ 1000000) (d : Nat) : ∀ (k i : Nat) (v : Int) (n : Bool) (p q : Int), i + d = l.length → d + 1 < k → v = (l.take i).sum → n = (TickB.S v).1 → p = (TickB.S v).2.1 → q = (TickB.S v).2.2 →
    hortatorref1_Sum.l0 k l (i : Int) n p q = some (nar l.sum) := by
  induction d with
  | zero =>
    intro k i v n p q hi hk hv e1 e2 e3
    obtain ⟨k, rfl⟩ : ∃ m, k = m + 1 := ⟨k - 1, by omega⟩
    obtain rfl : i = l.length := by omega
    rw [List.take_length] at hv
    simp only [hortatorref1_Sum.l0]
    rw [if_neg (by omega)]
    obtain ⟨k, rfl⟩ : ∃ m, k = m + 1 := ⟨k - 1, by omega⟩
    rw [e1, e2, e3, TickB.back_f, hv]; rfl
  | succ d ih =>
    intro k i v n p q hi hk hv e1 e2 e3
    obtain ⟨k, rfl⟩ : ∃ m, k = m + 1 := ⟨k - 1, by omega⟩
    have hlt : i < l.length := by omega
    simp only [hortatorref1_Sum.l0]
    rw [if_pos (by omega), if_pos (by omega), rd_eq l i hlt]
    have hf := hl _ (List.getElem_mem hlt)
    rw [TickB.of_f hf]; simp only [Option.bind_some]
    have b1 := sum_bd (l.take i) (fun x hx => hl x (List.mem_of_mem_take hx))
    rw [List.length_take, ← hv] at b1
    have z1 : TickB.sz v < 85070591730234615865843651857942052864 := by unfold TickB.sz; split <;> omega
    have z2 : TickB.sz l[i] < 85070591730234615865843651857942052864 := by have := TickB.sz_bd hf; omega
    have hk2 : ∃ m, k = m + 1 := ⟨k - 1, by omega⟩
    have ha : hortatorref1_add.f k n p q (TickB.S l[i]).1 (TickB.S l[i]).2.1 (TickB.S l[i]).2.2 = some (TickB.S (v + l[i])) := by
      obtain ⟨m, rfl⟩ := hk2
      rw [e1, e2, e3]
      exact TickB.add_f m z1 z2
    rw [ha]; simp only [Option.bind_some]
    have : wrap64 ((i : Int) + 1) = ((i + 1 : Nat) : Int) := by unfold wrap64; omega
    rw [this]
    exact ih k (i + 1) (v + l[i]) _ _ _ (by omega) (by omega) (by rw [take_sum l i hlt, hv]) rfl rfl rfl

theorem rsum_f (l : List Int) (hl : ∀ x ∈ l, Fits x) (hn : l.length ≤ 1000000) (k : Nat) (hk : l.length + 1 < k) : hortatorref1_Sum.f k l = some (nar l.sum) := by
  unfold hortatorref1_Sum.f
  exact rsum_l l hl hn l.length k 0 0 _ _ _ (by omega) (by omega) (by simp) (by decide) (by decide) (by decide)

theorem TickAll_pure : hortatorlaw1_TickAll.Pure := by
  intro a b c d ha hb hc hd
  have ha := fits_of_wf ha
  have hb := fits_of_wf hb
  have hc := fits_of_wf hc
  have hd := fits_of_wf hd
  refine ⟨10, ?_⟩
  unfold hortatorlaw1_TickAll.f
  rw [begun_at 10 (by omega)]; simp only [Option.bind_some, if_true]
  rw [add_f ha hb, mul_f ha hb, TickB.Add_f 9 ha hb, TickB.Mul_f 9 ha hb, TickB.Up_eq, TickB.Down_eq, up_f ha, down_f ha, less_f ha hb hc hd, TickB.Less_f 9 ha hb hc hd]
  simp

theorem TickSum_pure : hortatorlaw1_TickSum.Pure := by
  intro l h1 h2 h3
  refine ⟨40, ?_⟩
  unfold hortatorlaw1_TickSum.f
  rw [begun_at 40 (by omega)]; simp only [Option.bind_some, if_true]
  have hm : mn (l.length : Int) 30 = ((min l.length 30 : Nat) : Int) := by unfold mn; omega
  rw [hm]
  have hl : ∀ x ∈ l.take (min l.length 30), Fits x := fun x hx => fits_of_wf (h3 x (List.mem_of_mem_take hx))
  have hn : (l.take (min l.length 30)).length ≤ 30 := by rw [List.length_take]; omega
  rw [if_pos (by omega), if_pos (by omega), Int.toNat_natCast]
  rw [sum_f _ hl (by omega) 40 (by omega), rsum_f _ hl (by omega) 40 (by omega)]
  simp

theorem TickDown_pure : hortatorlaw1_TickDown.Pure := by
  intro a b ha hb
  have ha := fits_of_wf ha
  have hb := fits_of_wf hb
  refine ⟨10, ?_⟩
  unfold hortatorlaw1_TickDown.f
  rw [begun_at 10 (by omega)]; simp only [Option.bind_some, if_true]
  have f1 : Fits 1 := ⟨by omega, by omega⟩
  have f2 : Fits 2 := ⟨by omega, by omega⟩
  have fd := dnq_fits (b := b) ha
  by_cases h : b > 0
  · rw [if_pos h, down_f ha]; simp only [Option.bind_some]
    rw [mul_f fd hb]; simp only [Option.bind_some]
    unfold nar
    split
    case isTrue c =>
      rw [if_pos rfl]
      have e : dnq a b = a / b := by unfold dnq; rw [if_neg (by omega)]
      rw [e] at c ⊢
      have h1 := Int.emod_nonneg a (b := b) (by omega)
      have h2 := Int.emod_lt_of_pos a h
      have h3 := Int.mul_ediv_add_emod a b
      rw [Int.mul_comm] at h3
      obtain ⟨a1, a2⟩ := ha
      obtain ⟨b1, b2⟩ := hb
      have w : wrap64 (a - a / b * b) = a - a / b * b := by unfold wrap64; omega
      rw [w, if_pos (by omega)]
      congr 1; simp; omega
    case isFalse c => simp
  · rw [if_neg h, up_f ha, down_f ha, less_f f1 hb f2 f1, less_f f1 f1 f2 hb]
    simp only [Option.bind_some]
    have e1 : upq a b = 0 := by unfold upq; rw [if_pos (by omega)]
    have e2 : dnq a b = 0 := by unfold dnq; rw [if_pos (by omega)]
    rw [e1, e2]
    have g1 : decide (0 < b ∧ (0:Int) < 1 ∧ (1:Int) * 1 < 2 * b) = false := decide_eq_false (fun h => by omega)
    have g2 : decide ((0:Int) < 1 ∧ 0 < b ∧ 1 * b < (2:Int) * 1) = false := decide_eq_false (fun h => by omega)
    rw [g1, g2]; rfl

theorem TickEdges_pure : hortatorlaw1_TickEdges.Pure := by
  intro a low ha
  have ha := fits_of_wf ha
  refine ⟨10, ?_⟩
  have f1 : Fits 1 := ⟨by omega, by omega⟩
  have key : ∀ e : Int, Fits e → hortatorlaw1_TickEdges.j0 10 a e = some true := by
    intro e he
    have hx : ∀ x ∈ [e, a, Go.bits .and .i64 (wrap64 (-a)) 4611686018427387903, a], Fits x := by
      intro x hx
      simp only [List.mem_cons, List.not_mem_nil, or_false] at hx
      rcases hx with rfl | rfl | rfl | rfl
      · exact he
      · exact ha
      · exact fits_of_wf (Go.wf_bits _ _ _ _)
      · exact ha
    simp only [hortatorlaw1_TickEdges.j0]
    rw [add_f he ha, mul_f he ha, TickB.Add_f 8 he ha, TickB.Mul_f 8 he ha]
    rw [sum_f _ hx (by simp) 9 (by simp), rsum_f _ hx (by simp) 9 (by simp), less_f he f1 ha f1, less_f ha f1 he f1]
    simp
  unfold hortatorlaw1_TickEdges.f
  rw [begun_at 10 (by omega)]; simp only [Option.bind_some, if_true]
  rw [key _ ⟨by omega, by omega⟩, key _ ⟨by omega, by omega⟩]
  simp
end Go.Proofs.Ytjkicgbmdloomaa.TickC
