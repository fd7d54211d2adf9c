/- FileCrash, plain: a disk with one file. -/
import Derived.Test.YtepcpdionlfkhaaDoorFlQ
import Derived.Test.YtepcpdionlfkhaaDoorFlR
namespace Go.Proofs.YtepcpdionlfkhaaDoor
open Go Go.RowKit
set_option maxHeartbeats 1000000
set_option maxRecDepth 100000
set_option linter.unusedVariables false
set_option linter.unusedSimpArgs false
theorem one_valid {x : List UInt8} {n : Int} (hx : x ≠ []) (hl : x.length ≤ 65536) (h0 : 0 ≤ n) (h1 : n ≤ x.length) : validB [⟨[97], x, n⟩] 65536 = true := by
  have hnm : nameB [97] = true := by decide
  have hxb : (x == []) = false := by simpa using hx
  have hls : Op.bytesLess [97] ([] : List UInt8) = false := by decide
  have h2 : decide (n < 0) = false := decide_eq_false (by omega)
  have h3 : decide ((x.length : Int) < n) = false := decide_eq_false (by omega)
  have hb : badF [] ⟨[97], x, n⟩ = false := by
    simp only [badF, hnm, hls, hxb, h2, h3]; decide
  have ht : badTop [⟨[97], x, n⟩] 65536 = false := rfl
  have hu : decide ((65536 : Int) < ((usedF [⟨[97], x, n⟩] : Nat) : Int)) = false := decide_eq_false (by simp [usedF]; omega)
  simp only [validB, ht, okFiles, hb, hu]; rfl
theorem one_at (x : List UInt8) (n : Int) : isAt [⟨[97], x, n⟩] [97] = true ∧ fileAt [⟨[97], x, n⟩] [97] = ⟨[97], x, n⟩ := ⟨rfl, rfl⟩
theorem one_with {x y : List UInt8} {n m : Int} (hy : y ≠ []) : withF [⟨[97], x, n⟩] [97] ⟨[97], y, m⟩ = [⟨[97], y, m⟩] := by
  have hyb : (y == []) = false := by simpa using hy
  have h1 : findAt [⟨[97], x, n⟩] [97] = 0 := rfl
  have h2 : behAt [⟨[97], x, n⟩] [97] = 1 := rfl
  simp [withF, h1, h2, hyb]
/-- Bytes put behind the one file. -/
theorem one_app {x b : List UInt8} {n : Int} (hx : x ≠ []) (hl : x.length ≤ 65536) (h0 : 0 ≤ n) (h1 : n ≤ x.length) (hb : b ≠ []) :
    doF (oneS x n) ⟨0, [97], b, 0⟩ = if x.length + b.length ≤ 65536 then (oneS (x ++ b) n, 0) else (⟨[], 0, 0, false⟩, 31) := by
  have hv := one_valid hx hl h0 h1
  have hbb : (b == []) = false := by simpa using hb
  have ho : opB ⟨0, [97], b, 0⟩ = true := by
    have : nameB [97] = true := by decide
    simp [opB, this, hbb]
  obtain ⟨a1, a2⟩ := one_at x n
  have hw : withF [⟨[97], x, n⟩] [97] ⟨[97], x ++ b, n⟩ = [⟨[97], x ++ b, n⟩] := one_with (by simp [hx])
  have hf : fitsO [⟨[97], x, n⟩] 65536 ⟨0, [97], b, 0⟩ ⟨[97], x, n⟩ true = if x.length + b.length ≤ 65536 then none else some (sBytes, 31) := by
    unfold fitsO
    have h2 : late ⟨0, [97], b, 0⟩ = false := rfl
    rw [h2]
    rw [if_neg (by simp), if_neg (by simp)]
    simp only [moreI, usedF, List.map_cons, List.map_nil, List.sum_cons, List.sum_nil]
    rw [if_neg (show ¬ ((0 : Int) = 2) by decide)]
    by_cases hc : x.length + b.length ≤ 65536
    · rw [if_pos hc, if_neg (by omega)]
    · rw [if_neg hc, if_pos (by omega)]
  have haf : afterF ⟨[97], x, n⟩ ⟨0, [97], b, 0⟩ = ⟨[97], x ++ b, n⟩ := rfl
  unfold doF
  simp only [a1, a2, hv, ho, hf, haf, hw]
  by_cases hc : x.length + b.length ≤ 65536
  · rw [if_pos hc, if_pos hc]; rfl
  · rw [if_neg hc, if_neg hc]; rfl
/-- The one file made sure. -/
theorem one_sync {x : List UInt8} {n : Int} (hx : x ≠ []) (hl : x.length ≤ 65536) (h0 : 0 ≤ n) (h1 : n ≤ x.length) : doF (oneS x n) ⟨1, [97], [], 0⟩ = (oneS x x.length, 0) := by
  have hv := one_valid hx hl h0 h1
  have ho : opB ⟨1, [97], [], 0⟩ = true := by decide
  obtain ⟨a1, a2⟩ := one_at x n
  have hf : fitsO [⟨[97], x, n⟩] 65536 ⟨1, [97], [], 0⟩ ⟨[97], x, n⟩ true = none := by
    unfold fitsO
    have h2 : late ⟨1, [97], [], 0⟩ = true := rfl
    rw [h2, if_pos rfl, if_neg (by simp)]
    exact if_neg (by simp only; omega)
  have haf : afterF ⟨[97], x, n⟩ ⟨1, [97], [], 0⟩ = ⟨[97], x, x.length⟩ := rfl
  unfold doF
  simp only [a1, a2, hv, ho, hf, haf, one_with hx]
  rfl
theorem new_app {b : List UInt8} (hb : b ≠ []) : doF nwS ⟨0, [97], b, 0⟩ = if b.length ≤ 65536 then (oneS b 0, 0) else (⟨[], 0, 0, false⟩, 31) := by
  have hv : validB [] 65536 = true := by decide
  have hbb : (b == []) = false := by simpa using hb
  have ho : opB ⟨0, [97], b, 0⟩ = true := by
    have : nameB [97] = true := by decide
    simp [opB, this, hbb]
  have a1 : isAt [] [97] = false := rfl
  have a2 : fileAt [] [97] = ⟨[97], [], 0⟩ := rfl
  have hf : fitsO [] 65536 ⟨0, [97], b, 0⟩ ⟨[97], [], 0⟩ false = if b.length ≤ 65536 then none else some (sBytes, 31) := by
    unfold fitsO
    have h2 : late ⟨0, [97], b, 0⟩ = false := rfl
    rw [h2]
    rw [if_neg (by simp), if_neg (by simp)]
    simp only [moreI, usedF, List.map_nil, List.sum_nil]
    rw [if_neg (show ¬ ((0 : Int) = 2) by decide)]
    by_cases hc : b.length ≤ 65536
    · rw [if_pos hc, if_neg (by omega)]
    · rw [if_neg hc, if_pos (by omega)]
  have haf : afterF ⟨[97], [], 0⟩ ⟨0, [97], b, 0⟩ = ⟨[97], b, 0⟩ := rfl
  have hw : withF [] [97] ⟨[97], b, 0⟩ = [⟨[97], b, 0⟩] := by
    have h1 : findAt [] [97] = 0 := rfl
    have h2 : behAt [] [97] = 0 := rfl
    simp [withF, h1, h2, hbb]
  unfold doF
  simp only [a1, a2, hv, ho, hf, haf, hw]
  by_cases hc : b.length ≤ 65536
  · rw [if_pos hc, if_pos hc]; rfl
  · rw [if_neg hc, if_neg hc]; rfl
theorem joinF_ne {ls : List (List UInt8)} (h : ls ≠ []) : joinF ls ≠ [] := by
  cases ls with
  | nil => exact absurd rfl h
  | cons a r => simp [joinF, frF, le4]
/-- What Put makes of a new disk, or of one with one file. -/
theorem put_new (ls : List (List UInt8)) : fputF nwS [97] ls = if bytesE ls = 0 ∧ ls ≠ [] then (if (joinF ls).length ≤ 65536 then (oneS (joinF ls) (joinF ls).length, none) else (nwS, some (0, [97], 31))) else (nwS, some (0, [97], 2)) := by
  unfold fputF
  split
  · rename_i h
    obtain ⟨hb, hg⟩ := bytes_ok h.1
    have hj := joinF_ne h.2
    rw [hb]
    simp only [putW, fdoF, new_app hj]
    by_cases hc : (joinF ls).length ≤ 65536
    · simp only [if_pos hc, if_true]
      rw [one_sync hj hc (by omega) (by omega)]
      simp
    · simp only [if_neg hc]
      rfl
  · rfl
theorem put_one {x : List UInt8} {n : Int} (hx : x ≠ []) (hl : x.length ≤ 65536) (h0 : 0 ≤ n) (h1 : n ≤ x.length) (ls : List (List UInt8)) : fputF (oneS x n) [97] ls = if bytesE ls = 0 ∧ ls ≠ [] then (if x.length + (joinF ls).length ≤ 65536 then (oneS (x ++ joinF ls) (x ++ joinF ls).length, none) else (oneS x n, some (0, [97], 31))) else (oneS x n, some (0, [97], 2)) := by
  unfold fputF
  split
  · rename_i h
    obtain ⟨hb, hg⟩ := bytes_ok h.1
    have hj := joinF_ne h.2
    rw [hb]
    simp only [putW, fdoF, one_app hx hl h0 h1 hj]
    by_cases hc : x.length + (joinF ls).length ≤ 65536
    · simp only [if_pos hc, if_true]
      rw [one_sync (x := x ++ joinF ls) (n := n) (by simp [hx]) (by rw [List.length_append]; exact hc) h0 (by rw [List.length_append]; omega)]
      simp
    · simp only [if_neg hc]
      rfl
  · rfl
/-- A crash of the one file. -/
theorem one_crash {x : List UInt8} {n : Int} (hx : x ≠ []) (hl : x.length ≤ 65536) (h0 : 0 < n) (h1 : n ≤ x.length) (keep : Int) : ∃ k : Nat, n ≤ k ∧ k ≤ x.length ∧ crashF (oneS x n) [keep] = (oneS (x.take k) (x.take k).length, 0) := by
  have hv := one_valid hx hl (by omega) h1
  refine ⟨n.toNat + moreN ⟨[97], x, n⟩ (some keep), by omega, ?_, ?_⟩
  · simp only [moreN]; omega
  · have hk : n.toNat + moreN ⟨[97], x, n⟩ (some keep) ≤ x.length := by simp only [moreN]; omega
    have hne : x.take (n.toNat + moreN ⟨[97], x, n⟩ (some keep)) ≠ [] := by
      intro q
      have := congrArg List.length q
      rw [List.length_take] at this
      simp only [List.length_nil] at this
      omega
    have hneb : (x.take (n.toNat + moreN ⟨[97], x, n⟩ (some keep)) == []) = false := by simpa using hne
    unfold crashF
    rw [if_pos hv]
    show ((⟨crashT [⟨[97], x, n⟩] [keep] 1, 65536, -1, false⟩ : DiskS), (0 : Int)) = _
    have h2 : crashT [⟨[97], x, n⟩] [keep] 1 = nowF (crash1 ⟨[97], x, n⟩ (some keep)) := rfl
    rw [h2]
    unfold crash1 nowF
    rw [hneb]; rfl
/-- The one file mended. -/
theorem one_mend {x : List UInt8} (hx : x ≠ []) (hl : x.length ≤ 65536) (hn : lodF x ≠ []) : fmendF (oneS x x.length) [97] = (oneS (joinF (lodF x)) (joinF (lodF x)).length, none) ∧ okPath (oneS x x.length) (mendW [⟨[97], x, x.length⟩] [97]) := by
  obtain ⟨k, hk, hkl, htk⟩ := torn_take x
  have hv := one_valid hx hl (by omega) (Int.le_refl _)
  have hsm := valid_small hv
  have hj := joinF_ne hn
  unfold fmendF
  by_cases h0 : tornF x = 0
  · have hW : mendW [⟨[97], x, x.length⟩] [97] = [] := mendW_zero h0
    have hxj : joinF (lodF x) = x := by rw [← htk, List.take_of_length_le (by omega)]
    show fdoF (oneS x x.length) (mendW [⟨[97], x, x.length⟩] [97]) = _ ∧ _
    rw [hW, hxj]
    exact ⟨rfl, trivial⟩
  · have htb := torn_le x
    have hW : mendW [⟨[97], x, x.length⟩] [97] = [⟨3, [97], [], (k : Int)⟩] := by
      unfold mendW
      show (if 0 < tornF x then [(⟨3, [97], [], (x.length : Int) - tornF x⟩ : WriteD)] else []) = _
      rw [if_pos (by omega), hk]
    have ho : opB ⟨3, [97], [], (k : Int)⟩ = true := by
      have : nameB [97] = true := by decide
      simp [opB, this]
    obtain ⟨a1, a2⟩ := one_at x x.length
    have hf : fitsO [⟨[97], x, x.length⟩] 65536 ⟨3, [97], [], (k : Int)⟩ ⟨[97], x, x.length⟩ true = none := by
      unfold fitsO
      have h2 : late ⟨3, [97], [], (k : Int)⟩ = true := rfl
      rw [h2, if_pos rfl, if_neg (by simp)]
      exact if_neg (by simp only; omega)
    have haf : afterF ⟨[97], x, x.length⟩ ⟨3, [97], [], (k : Int)⟩ = ⟨[97], joinF (lodF x), (joinF (lodF x)).length⟩ := by
      simp [afterF, htk]
    have hdo : doF (oneS x x.length) ⟨3, [97], [], (k : Int)⟩ = (oneS (joinF (lodF x)) (joinF (lodF x)).length, 0) := by
      unfold doF
      simp only [a1, a2, hv, ho, hf, haf, one_with hj]
      rfl
    show fdoF (oneS x x.length) (mendW [⟨[97], x, x.length⟩] [97]) = _ ∧ _
    rw [hW]
    refine ⟨by simp only [fdoF, hdo, if_true], ⟨hsm, show (-1 : Int) ≤ 9223372036854775807 by decide⟩, fun _ => trivial⟩
theorem put_path {x b : List UInt8} {n : Int} (hx : x ≠ []) (hl : x.length ≤ 65536) (h0 : 0 ≤ n) (h1 : n ≤ x.length) : okPath (oneS x n) (putW [97] b) := by
  have hsm := valid_small (one_valid hx hl h0 h1)
  refine ⟨⟨hsm, show (-1 : Int) ≤ 9223372036854775807 by decide⟩, fun h => ?_⟩
  by_cases hb : b = []
  · subst hb
    have ho : opB ⟨0, [97], [], 0⟩ = false := by decide
    unfold doF at h
    rw [ho] at h
    simp at h
  · rw [one_app hx hl h0 h1 hb] at h ⊢
    by_cases hc : x.length + b.length ≤ 65536
    · rw [if_pos hc] at h ⊢
      exact ⟨⟨valid_small (one_valid (by simp [hx]) (by rw [List.length_append]; exact hc) h0 (by rw [List.length_append]; omega)), show (-1 : Int) ≤ 9223372036854775807 by decide⟩, fun _ => trivial⟩
    · rw [if_neg hc] at h; exact absurd h (by decide)
theorem new_path (b : List UInt8) : okPath nwS (putW [97] b) := by
  refine ⟨⟨small_nil, show (-1 : Int) ≤ 9223372036854775807 by decide⟩, fun h => ?_⟩
  by_cases hb : b = []
  · subst hb
    have ho : opB ⟨0, [97], [], 0⟩ = false := by decide
    unfold doF at h
    rw [ho] at h
    simp at h
  · rw [new_app hb] at h ⊢
    by_cases hc : b.length ≤ 65536
    · rw [if_pos hc] at h ⊢
      exact ⟨⟨valid_small (one_valid hb hc (Int.le_refl 0) (by omega)), show (-1 : Int) ≤ 9223372036854775807 by decide⟩, fun _ => trivial⟩
    · rw [if_neg hc] at h; exact absurd h (by decide)
/-- Behind a crash: the sure ones, and some behind them. -/
theorem crash_loads {sure more : List (List UInt8)} (hs : ∀ l ∈ sure, l.length ≤ 1024) (hm : ∀ l ∈ more, l.length ≤ 1024) {k : Nat} (hk : (joinF sure).length ≤ k) :
    ∃ j, j ≤ more.length ∧ lodF ((joinF sure ++ joinF more).take k) = sure ++ more.take j := by
  obtain ⟨j, hj, h⟩ := lod_cut more (k - (joinF sure).length) hm
  refine ⟨j, hj, ?_⟩
  rw [List.take_append, List.take_of_length_le hk, lod_app0 _ _ hs, h]
end Go.Proofs.YtepcpdionlfkhaaDoor
