/- What the references of layer 8 compute, in plain words: the same texts; which configurations are the same. -/
import Derived.Test.YtjjlicancbmjiaaGreatDoorNoteT
import Derived.Test.YtjjlicancbmjiaaGreatDoorNN7
import Derived.Test.YtjjlicancbmjiaaGreatDoorNN8
namespace Go.Proofs.YtjjlicancbmjiaaGreatDoor.PNeg
open Go.Proofs.YtjjlicancbmjiaaGreatDoor.PBeg Go.Proofs.YtjjlicancbmjiaaGreatDoor.Txt
open Go.RowKit Go.Lib Go.Proofs.YtjjlicancbmjiaaGreatDoorW.PrintWords Go.Proofs.YtjjlicancbmjiaaGreatDoorW.PrintLast Go.Proofs.YtjjlicancbmjiaaGreatDoorW.PrintMore
set_option linter.unusedVariables false
set_option linter.unusedSimpArgs false
theorem digits_l0 : ∀ (u k : Nat) (s : ByteArray), u ≤ 1000 → u < k → s.size + u ≤ 100000 → hortatorref7_digits.l0 k (u : Int) s = some (mk (decDigits u ++ s.data.toList)) := by
  intro u
  induction u using Nat.strongRecOn with
  | _ u ih =>
    intro k s h1 hk hs
    obtain ⟨m, rfl⟩ := pos_k hk
    have e1 : Int.tmod (u : Int) 10 = ((u % 10 : Nat) : Int) := rfl
    have e2 : Int.tdiv (u : Int) 10 = ((u / 10 : Nat) : Int) := rfl
    have hm := Nat.mod_lt u (show 0 < 10 by omega)
    have e3 : wrap64 (48 + ((u % 10 : Nat) : Int)) % 256 = ((48 + u % 10 : Nat) : Int) := by rw [wr64 (by omega) (by omega)]; omega
    have e4 : strOfNums [((48 + u % 10 : Nat) : Int)] = mk [UInt8.ofNat (48 + u % 10)] := rfl
    simp only [hortatorref7_digits.l0]
    rw [e1, e2, e3, Option.bind_some, e4, if_pos (by rw [mk_size]; simp only [List.length_cons, List.length_nil]; omega), wr64 (by omega) (by omega)]
    have e5 : mk [UInt8.ofNat (48 + u % 10)] ++ s = mk (UInt8.ofNat (48 + u % 10) :: s.data.toList) := by apply bytes_ext; simp [mk]
    rw [e5]
    by_cases h : u < 10
    · rw [if_pos (by omega), decDigits, dif_pos h, Nat.mod_eq_of_lt h]; rfl
    · rw [if_neg (by omega), ih (u / 10) (by omega) m _ (by omega) (by omega) (by rw [mk_size, List.length_cons, data_size]; omega), mk_list]
      rw [show decDigits u = decDigits (u / 10) ++ [UInt8.ofNat (48 + u % 10)] by rw [decDigits, dif_neg h], List.append_assoc, List.singleton_append]
theorem digits_f {k : Nat} {n : Int} (hk : 1001 ≤ k) (h0 : 0 ≤ n) (h1 : n ≤ 1000) : hortatorref7_digits.f k n = some (mk (itoa n)) := by
  obtain ⟨u, rfl⟩ : ∃ u : Nat, n = u := ⟨n.toNat, by omega⟩
  unfold hortatorref7_digits.f
  rw [digits_l0 u k _ (by omega) (by omega) (by show 0 + u ≤ 100000; omega), itoa_nonneg]
  show some (mk (decDigits u ++ [])) = _
  rw [List.append_nil]
theorem refputc_l0 (a b c d : Int) (l : List Int) (hl : l.length ≤ 900) (hin : ∀ x ∈ l, 0 ≤ x ∧ x ≤ 1000) : ∀ n i k (acc : ByteArray), 1 ≤ i → i + n = l.length → n + 1001 < k → acc.size + 100 * n ≤ 1000000 →
    hortatorref7_PutConfig.l0 k acc (i : Int) a b c d l = some (acc ++ mk (joinTail [32] ((l.drop i).map itoa))) := by
  intro n
  induction n with
  | zero =>
    intro i k acc h1 hi hk ha
    obtain ⟨m, rfl⟩ : ∃ m, k = m + 1 := ⟨k - 1, by omega⟩
    simp only [hortatorref7_PutConfig.l0]
    rw [if_neg (by omega), show i = l.length by omega, List.drop_length]
    congr 1
    apply bytes_ext; simp [joinTail, mk]
  | succ n ih =>
    intro i k acc h1 hi hk ha
    obtain ⟨m, rfl⟩ : ∃ m, k = m + 1 := ⟨k - 1, by omega⟩
    have hr := hin _ (rd_nth l i (by omega))
    have s0 := itoa_len hr.1 hr.2
    simp only [hortatorref7_PutConfig.l0]
    rw [if_pos (by omega), if_neg (by omega), if_pos (by omega), digits_f (by omega) hr.1 hr.2, Option.bind_some, if_pos (by simp only [mk_size]; omega), if_pos (by simp only [ByteArray.size_append, mk_size, one]; omega),
      wr64 (by omega) (by omega), show ((i : Int) + 1) = ((i + 1 : Nat) : Int) by omega, ih (i + 1) m _ (by omega) (by omega) (by omega) (by simp only [ByteArray.size_append, mk_size, one]; omega), drop_ri l i (by omega)]
    congr 1
    apply bytes_ext
    simp [mk, joinTail]
theorem refPutConfig_f {k : Nat} (a b c d : Int) (l : List Int) (hl : l.length ≤ 1000) (hk : 2000 ≤ k) : hortatorref7_PutConfig.f k a b c d l = some (cfgT a b c d l) := by
  unfold hortatorref7_PutConfig.f cfgT
  rw [refcfg_f _ _ _ _ _ hl (by omega), Option.bind_some]
  cases h : configOk a b c d l with
  | false => rfl
  | true =>
    obtain ⟨ha, hb, hc, hd, hl, hin⟩ := config_facts h
    have s0 := itoa_len (n := a) (by omega) (by omega)
    have s1 := itoa_len (n := b) (by omega) (by omega)
    have s2 := itoa_len (n := c) (by omega) (by omega)
    have s3 := itoa_len (n := d) (by omega) (by omega)
    have w1 : (⟨#[99, 111, 114, 101, 115, 32]⟩ : ByteArray).size = 6 := rfl
    have w2 : (⟨#[32, 115, 121, 110, 99, 115, 32]⟩ : ByteArray).size = 7 := rfl
    have w3 : (⟨#[32, 108, 97, 103, 32]⟩ : ByteArray).size = 5 := rfl
    have w4 : (⟨#[32, 109, 111, 118, 101, 32]⟩ : ByteArray).size = 6 := rfl
    have w5 : (⟨#[32, 114, 101, 115]⟩ : ByteArray).size = 4 := rfl
    rw [if_pos rfl, digits_f (by omega) (by omega) (by omega), Option.bind_some, if_pos (by simp only [mk_size]; omega), if_pos (by simp only [ByteArray.size_append, mk_size, w1]; omega),
      digits_f (by omega) (by omega) (by omega), Option.bind_some, if_pos (by simp only [ByteArray.size_append, mk_size, w1, w2]; omega), if_pos (by simp only [ByteArray.size_append, mk_size, w1, w2]; omega),
      digits_f (by omega) (by omega) (by omega), Option.bind_some, if_pos (by simp only [ByteArray.size_append, mk_size, w1, w2, w3]; omega), if_pos (by simp only [ByteArray.size_append, mk_size, w1, w2, w3]; omega),
      digits_f (by omega) (by omega) (by omega), Option.bind_some, if_pos (by simp only [ByteArray.size_append, mk_size, w1, w2, w3, w4]; omega)]
    obtain ⟨m, rfl⟩ : ∃ m, k = m + 1 := ⟨k - 1, by omega⟩
    cases l with
    | nil =>
      simp only [hortatorref7_PutConfig.l0]
      rw [if_neg (by simp), if_pos trivial]
      congr 1
      apply bytes_ext
      unfold cfgTxt cfgPieces
      rw [if_pos rfl, join_cons]
      simp [mk, joinTail]
    | cons x r =>
      have hr := hin x List.mem_cons_self
      have s4 := itoa_len hr.1 hr.2
      simp only [hortatorref7_PutConfig.l0]
      rw [show rd (x :: r) 0 = x from rfl]
      rw [if_pos (by simp only [List.length_cons]; omega), if_pos trivial, if_pos (by simp only [ByteArray.size_append, mk_size, w1, w2, w3, w4]; omega), if_pos (by omega), digits_f (by omega) hr.1 hr.2, Option.bind_some, if_pos (by simp only [mk_size]; omega), if_pos (by simp only [ByteArray.size_append, mk_size, w1, w2, w3, w4, w5, one]; omega),
        show wrap64 (0 + 1) = ((1 : Nat) : Int) by unfold wrap64; omega, refputc_l0 a b c d (x :: r) (by omega) hin r.length 1 m _ (by omega) (by simp; omega) (by simp only [List.length_cons] at hl; omega) (by simp only [List.length_cons] at hl; simp only [ByteArray.size_append, mk_size, w1, w2, w3, w4, w5, one]; omega), if_pos trivial]
      congr 1
      apply bytes_ext
      unfold cfgTxt cfgPieces
      rw [if_neg (by simp), join_cons]
      simp [mk, joinTail]
theorem refputt_l0 (x y z : Int) (hx : x ≤ 200) (ls : List S43) (hl : ls.length ≤ 1000) (hin : ∀ s ∈ ls, secIn 6 x s) : ∀ n i k (acc : ByteArray), i + n = ls.length → n + 1001 < k → acc.size + 100 * n ≤ 1000000 →
    hortatorref7_PutTask.l0 k acc (i : Int) x y z ls = some (acc ++ mk (joinTail [32] ((ls.drop i).map secBody))) := by
  intro n
  induction n with
  | zero =>
    intro i k acc hi hk ha
    obtain ⟨m, rfl⟩ : ∃ m, k = m + 1 := ⟨k - 1, by omega⟩
    simp only [hortatorref7_PutTask.l0]
    rw [if_neg (by omega), show i = ls.length by omega, List.drop_length]
    show some acc = some (acc ++ ⟨#[]⟩)
    congr 1
    apply bytes_ext; simp
  | succ n ih =>
    intro i k acc hi hk ha
    obtain ⟨m, rfl⟩ : ∃ m, k = m + 1 := ⟨k - 1, by omega⟩
    obtain ⟨⟨a1, a2⟩, ⟨a3, a4⟩, a5, a6⟩ := hin _ (rd_mem ls i (by omega))
    have s0 := itoa_len (n := (rd_T43 ls (i : Int)).f0) (by omega) (by omega)
    have s1 := itoa_len (n := (rd_T43 ls (i : Int)).f1) (by omega) (by omega)
    have s2 := itoa_len (n := (rd_T43 ls (i : Int)).f2) (by omega) (by omega)
    simp only [hortatorref7_PutTask.l0]
    rw [if_pos (by omega), if_pos (by omega), digits_f (by omega) a1 (by omega), Option.bind_some, if_pos (by simp only [ByteArray.size_append, mk_size, one]; omega), if_pos (by simp only [ByteArray.size_append, mk_size, one]; omega),
      digits_f (by omega) (by omega) (by omega), Option.bind_some, if_pos (by simp only [ByteArray.size_append, mk_size, one]; omega), if_pos (by simp only [ByteArray.size_append, mk_size, one]; omega),
      digits_f (by omega) (by omega) (by omega), Option.bind_some, if_pos (by simp only [ByteArray.size_append, mk_size, one]; omega), if_pos (by simp only [ByteArray.size_append, mk_size, one]; omega),
      wr64 (by omega) (by omega), show ((i : Int) + 1) = ((i + 1 : Nat) : Int) by omega, ih (i + 1) m _ (by omega) (by omega) (by simp only [ByteArray.size_append, mk_size, one]; omega), drop_rd ls i (by omega)]
    congr 1
    apply bytes_ext
    simp [mk, joinTail, secBody]
theorem reftask_f (a b c d : Int) (l : List Int) (x y z : Int) (ls : List S43) : hortatorref7_Task.f a b c d l x y z ls = some (taskOk l.length x y z ls) := rfl
theorem refPutTask_f {k : Nat} (x y z : Int) (ls : List S43) (hk : 2000 ≤ k) : hortatorref7_PutTask.f k x y z ls = some (tskT x y z ls) := by
  unfold hortatorref7_PutTask.f tskT
  rw [if_pos (by decide), reftask_f, Option.bind_some, show ((List.replicate 6 (0 : Int)).length : Int) = 6 by rfl]
  cases h : taskOk 6 x y z ls with
  | false => rfl
  | true =>
    obtain ⟨⟨h1, h2, h3, h4⟩, hl, hin⟩ := task_facts h
    have s0 := itoa_len (n := x) (by omega) (by omega)
    have s1 := itoa_len (n := y) (by omega) (by omega)
    have s2 := itoa_len (n := z) (by omega) (by omega)
    rw [if_pos rfl, digits_f (by omega) (by omega) (by omega), Option.bind_some, if_pos (by simp only [ByteArray.size_append, mk_size, one]; omega), digits_f (by omega) (by omega) (by omega), Option.bind_some, if_pos (by simp only [ByteArray.size_append, mk_size, one]; omega), if_pos (by simp only [ByteArray.size_append, mk_size, one]; omega),
      digits_f (by omega) (by omega) (by omega), Option.bind_some, if_pos (by simp only [ByteArray.size_append, mk_size, one]; omega)]
    have := refputt_l0 x y z (by omega) ls (by omega) hin ls.length 0 k ((((mk (itoa x) ++ (⟨#[47]⟩ : ByteArray)) ++ mk (itoa y)) ++ (⟨#[47]⟩ : ByteArray)) ++ mk (itoa z)) (by omega) (by omega) (by simp only [ByteArray.size_append, mk_size, one]; omega)
    rw [show ((0 : Nat) : Int) = 0 by rfl] at this
    rw [this, if_pos rfl, txt_eq, head_eq]
    congr 1
    apply bytes_ext
    simp [mk]
/-! ### the same configuration? -/
theorem samec_l0 (a b c d a' b' c' d' : Int) (l m : List Int) (hl : l.length = m.length) (hb : l.length ≤ 1000) : ∀ n i k, i + n = l.length → n < k → hortatorlaw7_sameConfig.l0 k (i : Int) a b c d l a' b' c' d' m = some (decide (l.drop i = m.drop i)) := by
  intro n
  induction n with
  | zero =>
    intro i k hi hk
    obtain ⟨q, rfl⟩ := pos_k hk
    simp only [hortatorlaw7_sameConfig.l0]
    rw [if_neg (by omega), List.drop_of_length_le (by omega), List.drop_of_length_le (by omega)]
    rfl
  | succ n ih =>
    intro i k hi hk
    obtain ⟨q, rfl⟩ := pos_k hk
    simp only [hortatorlaw7_sameConfig.l0]
    rw [if_pos (by omega), if_pos (by omega), if_pos (by omega), drop_ri l i (by omega), drop_ri m i (by omega), wr64 (by omega) (by omega), show ((i : Int) + 1) = ((i + 1 : Nat) : Int) by omega]
    by_cases h : rd l (i : Int) = rd m (i : Int)
    · rw [if_pos h, ih (i + 1) q (by omega) (by omega)]
      congr 1
      simp [h]
    · rw [if_neg h]
      simp [h]
theorem sameConfig_f {k : Nat} (a b c d : Int) (l : List Int) (a' b' c' d' : Int) (m : List Int) (hb : l.length ≤ 1000) (hk : 2000 ≤ k) : hortatorlaw7_sameConfig.f k a b c d l a' b' c' d' m = some (decide (a = a' ∧ b = b' ∧ c = c' ∧ d = d' ∧ l = m)) := by
  obtain ⟨q, rfl⟩ : ∃ q, k = q + 1 := ⟨k - 1, by omega⟩
  have jt : hortatorlaw7_sameConfig.j0 (q + 1) true a b c d l a' b' c' d' m = some false := by simp only [hortatorlaw7_sameConfig.j0]; rw [if_pos trivial]
  unfold hortatorlaw7_sameConfig.f
  by_cases h1 : a = a'
  · by_cases h2 : b = b'
    · by_cases h3 : c = c'
      · by_cases h4 : d = d'
        · rw [if_pos h1, if_pos h2, if_pos h3, if_pos h4]
          by_cases h5 : l.length = m.length
          · rw [show ((l.length : Int) != (m.length : Int)) = false by rw [h5]; simp]
            simp only [hortatorlaw7_sameConfig.j0]
            rw [if_neg (by decide)]
            have := samec_l0 a b c d a' b' c' d' l m h5 hb l.length 0 q (by omega) (by omega)
            rw [show ((0 : Nat) : Int) = 0 by rfl, List.drop_zero, List.drop_zero] at this
            rw [this]
            simp [h1, h2, h3, h4]
          · rw [show ((l.length : Int) != (m.length : Int)) = true by simp; omega, jt]
            have : l ≠ m := fun e => h5 (by rw [e])
            simp [this]
        · rw [if_pos h1, if_pos h2, if_pos h3, if_neg h4, jt]; simp [h4]
      · rw [if_pos h1, if_pos h2, if_neg h3, jt]; simp [h3]
    · rw [if_pos h1, if_neg h2, jt]; simp [h2]
  · rw [if_neg h1, jt]; simp [h1]
end Go.Proofs.YtjjlicancbmjiaaGreatDoor.PNeg
