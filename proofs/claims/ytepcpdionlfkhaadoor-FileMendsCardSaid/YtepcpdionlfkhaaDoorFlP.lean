/- Frames, plain: what is parsed, what is put together. -/
import Derived.Test.YtepcpdionlfkhaaDoorFlI
namespace Go.Proofs.YtepcpdionlfkhaaDoor
open Go Go.RowKit
set_option maxHeartbeats 1000000
set_option maxRecDepth 100000
set_option linter.unusedVariables false
set_option linter.unusedSimpArgs false
theorem le4_un4 (a b c d : UInt8) : le4 (un4 a b c d) = [a, b, c, d] := by
  have ba : a.toNat < 256 := a.toNat_lt
  have bb : b.toNat < 256 := b.toNat_lt
  have bc : c.toNat < 256 := c.toNat_lt
  have bd : d.toNat < 256 := d.toNat_lt
  have h0 : un4 a b c d % 256 = a.toNat := by simp only [un4]; omega
  have h1 : un4 a b c d / 256 % 256 = b.toNat := by simp only [un4]; omega
  have h2 : un4 a b c d / 65536 % 256 = c.toNat := by simp only [un4]; omega
  have h3 : un4 a b c d / 16777216 % 256 = d.toNat := by simp only [un4]; omega
  simp only [le4, h0, h1, h2, h3, UInt8.ofNat_toNat]
theorem un4_le4 (n : Nat) (h : n ≤ 1024) (t : List UInt8) : frOne (le4 n ++ t) = if n ≤ t.length then some n else none := by
  have hb := fun c : Nat => show (UInt8.ofNat (c % 256)).toNat = c % 256 by rw [UInt8.toNat_ofNat']; omega
  have hu : un4 (UInt8.ofNat (n % 256)) (UInt8.ofNat (n / 256 % 256)) (UInt8.ofNat (n / 65536 % 256)) (UInt8.ofNat (n / 16777216 % 256)) = n := by
    simp only [un4, hb]; omega
  show frOne (_ :: _ :: _ :: _ :: t) = _
  unfold frOne
  simp only [hu, h, true_and]
theorem frOne_frF (l r : List UInt8) (h : l.length ≤ 1024) : frOne (frF l ++ r) = some l.length := by
  rw [frF, List.append_assoc, un4_le4 _ h, if_pos (by simp)]
theorem fr_split {r : List UInt8} {n : Nat} (h : frOne r = some n) : r = frF ((r.drop 4).take n) ++ r.drop (4 + n) := by
  unfold frOne at h
  split at h
  · rename_i a b c d t
    split at h
    · rename_i hh
      cases h
      have hl : (List.take (un4 a b c d) t).length = un4 a b c d := by rw [List.length_take]; omega
      have e1 : (a :: b :: c :: d :: t).drop 4 = t := rfl
      have e2 : (a :: b :: c :: d :: t).drop (4 + un4 a b c d) = t.drop (un4 a b c d) := by rw [← List.drop_drop]; rfl
      rw [e1, e2, frF, hl, le4_un4, List.append_assoc, List.take_append_drop]
      rfl
    · cases h
  · cases h
theorem frF_drop (l r : List UInt8) : (frF l ++ r).drop 4 = l ++ r ∧ (frF l ++ r).drop (4 + l.length) = r := by
  have h1 : (frF l ++ r).drop 4 = l ++ r := by rw [frF, List.append_assoc]; rfl
  exact ⟨h1, by rw [← List.drop_drop, h1, List.drop_left' rfl]⟩
theorem ysF_frF (at_ : Nat) (l r : List UInt8) (h : l.length ≤ 1024) : ysF at_ (frF l ++ r) = (l, at_ + 4 + l.length) :: ysF (at_ + 4 + l.length) r := by
  rw [ysF_some at_ (frOne_frF l r h), (frF_drop l r).1, (frF_drop l r).2, List.take_left' rfl]
/-- What is parsed, put together again, is what it was parsed of. -/
theorem ys_join (at_ : Nat) (r : List UInt8) : ∃ rest, r = joinF ((ysF at_ r).map (·.1)) ++ rest ∧ frOne rest = none ∧ (match (ysF at_ r).getLast? with | none => at_ | some p => p.2) = at_ + (joinF ((ysF at_ r).map (·.1))).length := by
  cases h : frOne r with
  | none => rw [ysF_none at_ h]; exact ⟨r, rfl, h, rfl⟩
  | some n =>
    have hle := frOne_le h
    obtain ⟨rest, h1, h2, h3⟩ := ys_join (at_ + 4 + n) (r.drop (4 + n))
    have hs := fr_split h
    have hl : ((r.drop 4).take n).length = n := by rw [List.length_take, List.length_drop]; omega
    refine ⟨rest, ?_, h2, ?_⟩
    · rw [ysF_some at_ h]
      simp only [List.map_cons, joinF, List.flatMap_cons]
      rw [List.append_assoc, ← joinF, ← h1]; exact hs
    · rw [ysF_some at_ h, List.getLast?_cons]
      simp only [List.map_cons, joinF, List.flatMap_cons, List.length_append, frF_len, hl]
      have h3' : (match (ysF (at_ + 4 + n) (r.drop (4 + n))).getLast? with | none => at_ + 4 + n | some p => p.2) = ((ysF (at_ + 4 + n) (r.drop (4 + n))).getLast?.getD ((r.drop 4).take n, at_ + 4 + n)).2 := by
        cases (ysF (at_ + 4 + n) (r.drop (4 + n))).getLast? <;> rfl
      rw [h3'] at h3
      rw [h3]; simp only [joinF]; omega
termination_by r.length
decreasing_by have := frOne_le h; simp only [List.length_drop]; omega
theorem lod_join (b : List UInt8) : ∃ rest, b = joinF (lodF b) ++ rest ∧ frOne rest = none ∧ tornF b = rest.length := by
  obtain ⟨rest, h1, h2, h3⟩ := ys_join 0 b
  refine ⟨rest, h1, h2, ?_⟩
  unfold tornF
  have hl : b.length = (joinF ((ysF 0 b).map (·.1))).length + rest.length := by rw [← List.length_append, ← h1]
  cases hy : (ysF 0 b).getLast? with
  | none =>
    simp only [tornY, hy]
    have h0 : ysF 0 b = [] := by simpa using hy
    rw [h0] at hl
    simp at hl; omega
  | some p =>
    rw [hy] at h3
    simp only [tornY, hy]
    simp only at h3
    omega
theorem lod_app : ∀ (ls : List (List UInt8)) (r : List UInt8), (∀ l ∈ ls, l.length ≤ 1024) → ∀ at_, (ysF at_ (joinF ls ++ r)).map (·.1) = ls ++ (ysF 0 r).map (·.1)
  | [], r, _, at_ => by
    have key : ∀ (n : Nat) (r : List UInt8), r.length ≤ n → ∀ p q, (ysF p r).map (·.1) = (ysF q r).map (·.1) := by
      intro n
      induction n with
      | zero =>
        intro r hr p q
        have h : frOne r = none := by
          cases hf : frOne r with
          | none => rfl
          | some n => have := frOne_le hf; omega
        rw [ysF_none p h, ysF_none q h]
      | succ n ih =>
        intro r hr p q
        cases h : frOne r with
        | none => rw [ysF_none p h, ysF_none q h]
        | some k =>
          rw [ysF_some p h, ysF_some q h, List.map_cons, List.map_cons, ih (r.drop (4 + k)) (by have := frOne_le h; simp only [List.length_drop]; omega) (p + 4 + k) (q + 4 + k)]
    exact key r.length r (Nat.le_refl _) at_ 0
  | l :: ls, r, h, at_ => by
    have h1 := h l (List.mem_cons_self ..)
    have ih := lod_app ls r (fun x hx => h x (List.mem_cons_of_mem _ hx)) (at_ + 4 + l.length)
    simp only [joinF, List.flatMap_cons, List.append_assoc] at ih ⊢
    rw [ysF_frF at_ l _ h1, List.map_cons, ih]; rfl
theorem lod_app0 (ls : List (List UInt8)) (r : List UInt8) (h : ∀ l ∈ ls, l.length ≤ 1024) : lodF (joinF ls ++ r) = ls ++ lodF r := lod_app ls r h 0
theorem lod_mem (b : List UInt8) : ∀ l ∈ lodF b, l.length ≤ 1024 := fun l hl => by
  unfold lodF at hl
  obtain ⟨p, hp, rfl⟩ := List.mem_map.1 hl
  exact (ysF_end 0 b p hp).2
theorem joinF_app (a b : List (List UInt8)) : joinF (a ++ b) = joinF a ++ joinF b := by simp [joinF]
/-- What stands behind frames is torn as it would be alone. -/
theorem torn_app (ls : List (List UInt8)) (r : List UInt8) (h : ∀ l ∈ ls, l.length ≤ 1024) : tornF (joinF ls ++ r) = tornF r := by
  obtain ⟨rest, h1, h2, h3⟩ := lod_join (joinF ls ++ r)
  obtain ⟨rest', h4, h5, h6⟩ := lod_join r
  rw [lod_app0 ls r h, joinF_app, List.append_assoc] at h1
  have h7 := List.append_cancel_left h1
  have h8 : joinF (lodF r) ++ rest' = joinF (lodF r) ++ rest := h4.symm.trans h7
  rw [h3, h6, List.append_cancel_left h8]
theorem lod_of_join (ls : List (List UInt8)) (h : ∀ l ∈ ls, l.length ≤ 1024) : lodF (joinF ls) = ls ∧ tornF (joinF ls) = 0 := by
  have h1 := lod_app0 ls [] h
  have h2 := torn_app ls [] h
  rw [List.append_nil] at h1 h2
  rw [lodF_nil, List.append_nil] at h1
  rw [tornF_nil] at h2
  exact ⟨h1, h2⟩
end Go.Proofs.YtepcpdionlfkhaaDoor
