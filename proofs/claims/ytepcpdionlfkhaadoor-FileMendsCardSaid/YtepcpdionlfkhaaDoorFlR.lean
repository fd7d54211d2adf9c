/- FileMends, plain: a disk that is mended. -/
import Derived.Test.YtepcpdionlfkhaaDoorFlP
import Derived.Test.YtepcpdionlfkhaaDoorFlK
import Derived.Test.YtepcpdionlfkhaaDoorDkS
namespace Go.Proofs.YtepcpdionlfkhaaDoor
open Go Go.RowKit
set_option maxHeartbeats 1000000
set_option maxRecDepth 100000
set_option linter.unusedVariables false
set_option linter.unusedSimpArgs false
theorem getB_look (fs : List FileD) (nm : List UInt8) : getB fs nm = match lookF fs nm with | some f => f.b | none => [] := by
  unfold getB; rw [at_idx]; rfl
theorem getV_look {fs gs : List FileD} {nm : List UInt8} (h : lookF fs nm = lookF gs nm) : getV fs nm = getV gs nm := by
  unfold getV
  rw [at_idx, at_idx]
  show (match lookF fs nm with | some f => _ | none => _) = _
  rw [h]; rfl
theorem mendW_zero {fs : List FileD} {nm : List UInt8} (h : tornF (getB fs nm) = 0) : mendW fs nm = [] := by
  unfold mendW; rw [if_neg (by omega)]
theorem mend_zero {s : DiskS} {nm : List UInt8} (h : tornF (getB s.fs nm) = 0) : fmendF s nm = (s, none) ∧ okPath s (mendW s.fs nm) := by
  unfold fmendF
  rw [mendW_zero h]
  exact ⟨rfl, trivial⟩
/-- What is cut to its whole frames. -/
theorem torn_take (b : List UInt8) : ∃ k : Nat, (b.length : Int) - tornF b = k ∧ k ≤ b.length ∧ b.take k = joinF (lodF b) := by
  obtain ⟨rest, h1, h2, h3⟩ := lod_join b
  have hl : b.length = (joinF (lodF b)).length + rest.length := by rw [← List.length_append, ← h1]
  refine ⟨(joinF (lodF b)).length, by omega, by omega, ?_⟩
  have h5 : b.take (joinF (lodF b)).length = (joinF (lodF b) ++ rest).take (joinF (lodF b)).length := congrArg (List.take _) h1
  rw [h5]
  exact List.take_left' rfl
/-- A disk that may be, that is up and not armed, mended. -/
theorem mends_plain (s : DiskS) (nm : List UInt8) (hv : validB s.fs s.cap = true) (hd : s.down = false) (hl : s.left < 0) :
    ∃ m : DiskS, fmendF s nm = (m, none) ∧ okPath s (mendW s.fs nm) ∧ validB m.fs m.cap = true ∧ m.cap = s.cap ∧ m.left = s.left ∧ m.down = false ∧ getB m.fs nm = joinF (lodF (getB s.fs nm)) ∧ (∀ o, o ≠ nm → lookF m.fs o = lookF s.fs o) := by
  obtain ⟨k, hk, hkl, htk⟩ := torn_take (getB s.fs nm)
  have htb := torn_le (getB s.fs nm)
  by_cases h0 : tornF (getB s.fs nm) = 0
  · obtain ⟨h1, h2⟩ := mend_zero h0
    have hB : getB s.fs nm = joinF (lodF (getB s.fs nm)) := by
      rw [← htk, List.take_of_length_le (by omega)]
    exact ⟨s, h1, h2, hv, rfl, rfl, hd, hB, fun _ _ => rfl⟩
  have hsm := valid_small hv
  obtain ⟨hok, hc0, hc1, hfl, hus⟩ := valid_ok hv
  have hW : mendW s.fs nm = [⟨3, nm, [], (k : Int)⟩] := by
    unfold mendW; rw [if_pos (by omega), hk]
  have hlk := look_at hok nm
  have hBl := getB_look s.fs nm
  cases hat : isAt s.fs nm with
  | false =>
    rw [hat, if_neg (by simp)] at hlk
    rw [hlk] at hBl
    rw [hBl, tornF_nil] at h0
    exact absurd rfl h0
  | true =>
    rw [hat, if_pos rfl] at hlk
    rw [hlk] at hBl
    simp only at hBl
    obtain ⟨hlt, hn, hfa⟩ := isAt_lt hat
    have hmem : fileAt s.fs nm ∈ s.fs := by rw [hfa]; exact List.getElem_mem hlt
    have hname : (fileAt s.fs nm).name = nm := fileAt_name
    obtain ⟨hnB, hne, _, _⟩ := ok_mem hok _ hmem
    rw [hname] at hnB
    have ho : opB ⟨3, nm, [], (k : Int)⟩ = true := by simp [opB, hnB]
    have hfit : fitsO s.fs s.cap ⟨3, nm, [], (k : Int)⟩ (fileAt s.fs nm) (isAt s.fs nm) = none := by
      have : ¬ ((fileAt s.fs nm).b.length : Int) < (k : Int) := by rw [← hBl]; omega
      simp [fitsO, late, hat, this]
    have hdo : doF s ⟨3, nm, [], (k : Int)⟩ = (⟨withF s.fs nm (afterF (fileAt s.fs nm) ⟨3, nm, [], (k : Int)⟩), s.cap, s.left, false⟩, 0) := by
      have hl0 : (s.left == 0) = false := by simp; omega
      have hl1 : ¬ (0 < s.left) := by omega
      unfold doF
      rw [hv, ho, hd, hl0, hfit]
      simp [hl1]
    have haf : afterF (fileAt s.fs nm) ⟨3, nm, [], (k : Int)⟩ = ⟨nm, (getB s.fs nm).take k, ((getB s.fs nm).take k).length⟩ := by
      simp [afterF, hname, hBl]
    have hval := do_valid hv ho hfit
    rw [haf] at hdo hval
    have hlook := fun o => with_look (nm := o) (a := nm) (f := ⟨nm, (getB s.fs nm).take k, (((getB s.fs nm).take k).length : Nat)⟩) rfl hok
    refine ⟨⟨withF s.fs nm ⟨nm, (getB s.fs nm).take k, (((getB s.fs nm).take k).length : Nat)⟩, s.cap, s.left, false⟩, ?_, ?_, hval, rfl, rfl, rfl, ?_, fun o h => ?_⟩
    · unfold fmendF
      rw [hW]
      simp only [fdoF, hdo, if_true]
    · rw [hW]
      exact ⟨⟨hsm, by omega⟩, fun _ => trivial⟩
    · rw [getB_look]
      simp only
      rw [hlook nm, if_pos rfl]
      by_cases hnil : (getB s.fs nm).take k = []
      · rw [if_pos hnil]; simp only; rw [← htk]; exact hnil.symm
      · rw [if_neg hnil]; exact htk
    · simp only
      rw [hlook o, if_neg h]
end Go.Proofs.YtepcpdionlfkhaaDoor
