/- Plain laws of texts: pieces between separators, numbers as decimal text and back. No program in sight. -/
import Derived.Lib.SplitLaws
import Derived.Lib.ItoaMem
import Derived.Lib.ParseIntBCases
import Derived.Lib.Join
namespace Go.Proofs.YtjjlicancbmjiaaGreatDoor.Txt
open Go.Lib
/-! ### where a byte is -/
theorem index_none (c : UInt8) : ∀ (x : List UInt8), c ∉ x → index x [c] = -1
  | [], _ => rfl
  | b :: l, h => by
    have hb : b ≠ c := fun e => h (by rw [e]; exact List.mem_cons_self)
    have hp : ([c] : List UInt8).isPrefixOf (b :: l) = false := by simp [List.isPrefixOf, Ne.symm hb]
    have ih := index_none c l (fun e => h (List.mem_cons_of_mem _ e))
    rw [index, hp, ih]; rfl
theorem index_at (c : UInt8) (r : List UInt8) : ∀ (x : List UInt8), c ∉ x → index (x ++ c :: r) [c] = (x.length : Int)
  | [], _ => by rw [List.nil_append, index]; simp [List.isPrefixOf]
  | b :: l, h => by
    have hb : b ≠ c := fun e => h (by rw [e]; exact List.mem_cons_self)
    have hp : ([c] : List UInt8).isPrefixOf (b :: (l ++ c :: r)) = false := by simp [List.isPrefixOf, Ne.symm hb]
    have ih := index_at c r l (fun e => h (List.mem_cons_of_mem _ e))
    rw [List.cons_append, index, hp, ih, if_neg (by decide), if_neg (by rw [beq_iff_eq]; omega), List.length_cons]
    omega
theorem cut_at (c : UInt8) (r x : List UInt8) (h : c ∉ x) : cut (x ++ c :: r) [c] = (x, r, true) := by
  unfold cut
  rw [index_at c r x h, if_pos (by omega)]
  have e : (x.length : Int).toNat = x.length := by omega
  rw [e]
  simp
/-! ### cutting what was joined -/
theorem count_none {c : UInt8} {x : List UInt8} (h : c ∉ x) : x.count c = 0 := List.count_eq_zero.2 h
theorem count_tail (c : UInt8) : ∀ (r : List (List UInt8)), (∀ y ∈ r, c ∉ y) → (joinTail [c] r).count c = r.length
  | [], _ => rfl
  | y :: r, h => by
    have ih := count_tail c r (fun z hz => h z (List.mem_cons_of_mem _ hz))
    have h0 := count_none (h y List.mem_cons_self)
    simp only [joinTail, List.map_cons, List.flatten_cons, List.count_append, List.singleton_append, List.count_cons_self, List.length_cons] at ih ⊢
    omega
theorem splitK_join (c : UInt8) : ∀ (r : List (List UInt8)) (x : List UInt8), c ∉ x → (∀ y ∈ r, c ∉ y) → splitK [c] 0 r.length (x ++ joinTail [c] r) = x :: r
  | [], x, _, _ => by simp [joinTail, splitK]
  | y :: r, x, hx, h => by
    have e : x ++ joinTail [c] (y :: r) = x ++ c :: (y ++ joinTail [c] r) := by simp [joinTail]
    have ih := splitK_join c r y (h y List.mem_cons_self) (fun z hz => h z (List.mem_cons_of_mem _ hz))
    rw [e, List.length_cons, splitK, index_at c _ x hx, if_neg (by rw [beq_iff_eq]; omega)]
    have e2 : (x.length : Int).toNat = x.length := by omega
    have e3 : (x ++ c :: (y ++ joinTail [c] r)).drop (x.length + [c].length) = y ++ joinTail [c] r := by simp
    rw [e2, e3, ih, Nat.add_zero, List.take_left]
theorem split_join (c : UInt8) (x : List UInt8) (r : List (List UInt8)) (hx : c ∉ x) (h : ∀ y ∈ r, c ∉ y) : split (join (x :: r) [c]) [c] = x :: r := by
  unfold split
  rw [join_cons, count_one, List.count_append, count_none hx, count_tail c r h, Nat.zero_add, splitK_join c r x hx h]
theorem bytes_ext {a b : ByteArray} (h : a.data.toList = b.data.toList) : a = b := by
  obtain ⟨⟨a⟩⟩ := a; obtain ⟨⟨b⟩⟩ := b
  simp only at h
  rw [h]
def mk (l : List UInt8) : ByteArray := ⟨l.toArray⟩
theorem mk_list (l : List UInt8) : (mk l).data.toList = l := rfl
theorem mk_toList (l : List UInt8) : (mk l).toList = l := by rw [ByteArray.toList_eq]; rfl
theorem mk_of (b : ByteArray) : mk b.data.toList = b := bytes_ext rfl
theorem mk_size (l : List UInt8) : (mk l).size = l.length := rfl
theorem mk_inj {a b : List UInt8} (h : mk a = mk b) : a = b := by rw [← mk_list a, h, mk_list]
theorem mk_append (a b : List UInt8) : mk a ++ mk b = mk (a ++ b) := by apply bytes_ext; simp [mk]
theorem toList_eq {a b : ByteArray} : a.toList = b.toList ↔ a = b := by
  rw [ByteArray.toList_eq, ByteArray.toList_eq]
  exact ⟨bytes_ext, fun h => by rw [h]⟩
theorem map_mk : ∀ (l : List ByteArray), (l.map (·.data.toList)).map mk = l
  | [] => rfl
  | a :: l => by simp only [List.map_cons, map_mk l, mk_of]
def pieces (c : UInt8) (s : ByteArray) : List ByteArray := splitB ⟨#[c]⟩ 0 (countB s ⟨#[c]⟩) s
theorem pieces_join (c : UInt8) (x : List UInt8) (r : List (List UInt8)) (hx : c ∉ x) (h : ∀ y ∈ r, c ∉ y) : pieces c (mk (join (x :: r) [c])) = (x :: r).map mk := by
  have := splitB_data ⟨#[c]⟩ 0 (countB (mk (join (x :: r) [c])) ⟨#[c]⟩) (mk (join (x :: r) [c]))
  unfold pieces
  rw [← map_mk (splitB _ _ _ _), this]
  exact congrArg (List.map mk) (split_join c x r hx h)
theorem pieces_pos (c : UInt8) (s : ByteArray) : 0 < (pieces c s).length := by
  unfold pieces
  cases countB s ⟨#[c]⟩ with
  | zero => simp [splitB]
  | succ k => unfold splitB; split <;> simp
theorem pieces_len (c : UInt8) (s : ByteArray) : (pieces c s).length ≤ s.size + 1 := by
  have h1 := splitB_length_le ⟨#[c]⟩ 0 (countB s ⟨#[c]⟩) s
  have h2 := countB_le ⟨#[c]⟩ (Nat.le_refl 1) s.size s (Nat.le_refl _)
  unfold pieces
  omega
theorem splitB_size (sep : ByteArray) (save : Nat) : ∀ (k : Nat) (s : ByteArray), ∀ x ∈ splitB sep save k s, x.size ≤ s.size
  | 0, s, x, hx => by simp [splitB] at hx; rw [hx]; exact Nat.le_refl _
  | k + 1, s, x, hx => by
    unfold splitB at hx
    split at hx
    · simp at hx; rw [hx]; exact Nat.le_refl _
    · rcases List.mem_cons.1 hx with rfl | hx
      · rw [ByteArray.size_extract]; omega
      · have := splitB_size sep save k _ x hx
        rw [ByteArray.size_extract] at this; omega
theorem pieces_size (c : UInt8) (s : ByteArray) : ∀ x ∈ pieces c s, x.size ≤ s.size := splitB_size _ _ _ _
theorem cut_size (s : List UInt8) (sep : List UInt8) : (cut s sep).1.length ≤ s.length ∧ (cut s sep).2.1.length ≤ s.length := by
  unfold cut
  split
  · simp only [List.length_take, List.length_drop]; omega
  · simp
/-! ### numbers -/
def dig (b : UInt8) : Prop := 48 ≤ b.toNat ∧ b.toNat ≤ 57
theorem ofNat_toNat {n : Nat} (h : n < 10) : (UInt8.ofNat (48 + n)).toNat = 48 + n := by
  show (48 + n) % 2 ^ 8 = 48 + n
  omega
theorem dec_dig (u : Nat) : ∀ b ∈ decDigits u, dig b := by
  induction u using Nat.strongRecOn with
  | _ u ih =>
    intro b hb
    rw [decDigits] at hb
    split at hb
    · have hb := List.mem_singleton.1 hb; subst hb; unfold dig; rw [ofNat_toNat (by omega)]; omega
    · rcases List.mem_append.1 hb with hb | hb
      · exact ih (u / 10) (by omega) b hb
      · have hb := List.mem_singleton.1 hb; subst hb; unfold dig; rw [ofNat_toNat (Nat.mod_lt _ (by omega))]; have := Nat.mod_lt u (show 0 < 10 by omega); omega
theorem dec_ne (u : Nat) : decDigits u ≠ [] := by
  rw [decDigits]; split <;> simp
theorem dec_head {u : Nat} (h : 1 ≤ u) : ∃ b r, decDigits u = b :: r ∧ 49 ≤ b.toNat ∧ b.toNat ≤ 57 := by
  induction u using Nat.strongRecOn with
  | _ u ih =>
    rw [decDigits]
    split
    · refine ⟨_, _, rfl, ?_⟩
      rw [ofNat_toNat (by omega)]; omega
    · obtain ⟨b, r, e, h1⟩ := ih (u / 10) (by omega) (by omega)
      rw [e]
      exact ⟨b, _, rfl, h1⟩
theorem parse_app (M : Nat) (r : List UInt8) : ∀ (l : List UInt8) (acc v : Nat), parseUintM M acc l = .ok v → parseUintM M acc (l ++ r) = parseUintM M v r
  | [], acc, v, h => by simp only [parseUintM] at h; injection h with h; rw [h]; rfl
  | c :: l, acc, v, h => by
    simp only [parseUintM, List.cons_append] at h ⊢
    split at h
    · rename_i h1
      rw [if_pos h1]
      split at h
      · cases h
      · rename_i h2
        rw [if_neg h2]
        split at h
        · cases h
        · rename_i h3
          rw [if_neg h3]
          exact parse_app M r l _ v h
    · cases h
theorem parse_dec (M : Nat) (hM : M < 1844674407370955162) (u : Nat) : u ≤ M → parseUintM M 0 (decDigits u) = .ok u := by
  induction u using Nat.strongRecOn with
  | _ u ih =>
    intro hu
    rw [decDigits]
    split
    · rename_i h
      simp only [parseUintM]
      rw [ofNat_toNat h, if_pos (by omega), if_neg (by omega), if_neg (by omega)]
      congr 1; omega
    · rename_i h
      rw [parse_app M _ _ 0 (u / 10) (ih (u / 10) (by omega) (by omega))]
      simp only [parseUintM]
      have hm := Nat.mod_lt u (show 0 < 10 by omega)
      rw [ofNat_toNat hm, if_pos (by omega), if_neg (by omega), if_neg (by omega)]
      congr 1; omega
theorem parse_itoa (n : Int) (h0 : 0 ≤ n) (h1 : n < 2147483648) : parseIntB 32 (itoa n) = .ok n := by
  obtain ⟨u, rfl⟩ : ∃ u : Nat, n = u := ⟨n.toNat, by omega⟩
  rw [itoa_nonneg]
  have hp := parse_dec (2 ^ 32 - 1) (by decide) u (by omega)
  have hd := dec_dig u
  cases e : decDigits u with
  | nil => exact absurd e (dec_ne u)
  | cons c r =>
    rw [e] at hp hd
    have hc := hd c List.mem_cons_self
    unfold dig at hc
    rw [parseIntB_plain 32 c r (by omega) (by omega)]
    unfold parseUintB
    rw [if_neg (by simp), hp]
    simp only [signlessC]
    rw [if_neg (by omega)]
theorem itoa_dig (n : Int) (h0 : 0 ≤ n) : ∀ b ∈ itoa n, dig b := by
  obtain ⟨u, rfl⟩ : ∃ u : Nat, n = u := ⟨n.toNat, by omega⟩
  rw [itoa_nonneg]; exact dec_dig u
theorem itoa_ne (n : Int) (h0 : 0 ≤ n) : itoa n ≠ [] := by
  obtain ⟨u, rfl⟩ : ∃ u : Nat, n = u := ⟨n.toNat, by omega⟩
  rw [itoa_nonneg]; exact dec_ne u
theorem itoa_head (n : Int) (h0 : 1 ≤ n) : ∃ b r, itoa n = b :: r ∧ 49 ≤ b.toNat ∧ b.toNat ≤ 57 := by
  obtain ⟨u, rfl⟩ : ∃ u : Nat, n = u := ⟨n.toNat, by omega⟩
  rw [itoa_nonneg]; exact dec_head (by omega)
theorem dig_ne {c : UInt8} (hc : ¬ dig c) {l : List UInt8} (h : ∀ b ∈ l, dig b) : c ∉ l := fun e => hc (h c e)
end Go.Proofs.YtjjlicancbmjiaaGreatDoor.Txt
