/- Of of the reference; Texts. -/
import Derived.Test.YtdaijofmglpmdaaDoorNamesG
namespace Go.Proofs.YtdaijofmglpmdaaDoor
open Go.RowKit
set_option maxRecDepth 100000
set_option linter.unusedVariables false
set_option maxHeartbeats 1000000 in
theorem ofR (v : Value) (fs : List FileD) (cap left : Int) (down : Bool) (tag : Int) (w : World) (hf : SliceAt w.heap.size w 3 FR v fs) (hn : fs.length ≤ 100) :
    Calls Tryd.prog 24 #[.agg #[v, .int .i64 cap, .int .i64 left, .bool down], .int .i8 tag] w (OfPost tag fs w) := by
  obtain ⟨a, c, rfl, hc, hel⟩ := hf
  obtain ⟨i0, hi, hi0, hi1, hi2⟩ := info_parts info_string
  go_enter Tryd.func24, Tryd.ntmps24
  go_wp2_with fail
  have l0 := LiesAt.new w #[.slice a fs.length c, .int .i64 cap, .int .i64 left, .bool down] 35
  have b0 : Below w.heap.size w (w.alloc (.cells #[.slice a fs.length c, .int .i64 cap, .int .i64 left, .bool down] 35)) := (Below.refl _ _).alloc (Nat.le_refl _) _
  have z0 : w.heap.size + 1 ≤ (w.alloc (.cells #[.slice a fs.length c, .int .i64 cap, .int .i64 left, .bool down] 35)).heap.size := by simp
  generalize w.alloc (.cells #[.slice a fs.length c, .int .i64 cap, .int .i64 left, .bool down] 35) = W0 at l0 b0 z0 ⊢
  go_loopw [5, 6] (fun o i wr => ∃ k : Nat, k ≤ fs.length ∧ i = .int .i64 k ∧ wr.ownsRow (w.heap.size + 1) 9 1 o (ofL tag (fs.take k)).length ((ofL tag (fs.take k)).map S) ∧ LiesAt wr w.heap.size #[.slice a fs.length c, .int .i64 cap, .int .i64 left, .bool down] 35 ∧ Below w.heap.size w wr ∧ w.heap.size + 1 ≤ wr.heap.size) (fun o i wr => fs.length - (intOf i).toNat)
  case atStart => exact ⟨0, Nat.zero_le _, rfl, by simpa [ofL] using World.ownsRow_nil W0 _ _ _, l0, b0, z0⟩
  case round =>
    obtain ⟨k, hk, rfl, hown, hL, hB, hz⟩ := hrel
    clear l0 b0 z0
    have cD : wr.cell? ⟨w.heap.size, 0, none⟩ = some (.slice a fs.length c) := hL.cell 0
    by_cases hlt : k < fs.length
    · obtain ⟨b, off, rfl, hbl, hcell⟩ := hel (by intro e; rw [e] at hlt; simp at hlt)
      obtain ⟨cs, h1, h2, h3⟩ := hcell k hlt
      obtain ⟨d0, d1, d2⟩ := file_cells h1 h2 (fun j hj => (hB.cell (p := ⟨b, off + k * 3 + j, none⟩) hbl).trans (h3 j hj))
      clear hcell h1 h2 h3
      have hy := Lib.hid (fun h => ofL_take_yes (tag := tag) hlt h)
      have hno := Lib.hid (fun h => ofL_take_no (tag := tag) hlt h)
      have hlen := ofL_len tag (fs.take k)
      have htl : (fs.take k).length ≤ 100 := by rw [List.length_take]; omega
      have hlen2 : (ofL tag (fs.take k)).length ≤ 100 := by omega
      clear hlen htl
      generalize fs[k].name = nm at d0 hy hno
      generalize fs[k].b = bb at d1
      generalize fs[k].sure = su at d2
      obtain ⟨pa, pb, pc, pd, ok, hpv, his⟩ := parse_parts nm tag
      have HPV := Lib.hid hpv
      have HIS := Lib.hid his
      clear hpv his
      go_wp2_with fail
      refine (parseR nm _).mono ?_
      rintro e w1 ⟨rfl, hb1⟩
      rw [HPV.out]
      have hB1 : Below w.heap.size w w1 := hB.then hb1 hB.size
      have hL1 := hL.below hb1 hL.lt
      have hz1 : wr.heap.size ≤ w1.heap.size := hb1.size
      have hown1 : w1.ownsRow (w.heap.size + 1) 9 1 _ (ofL tag (fs.take k)).length ((ofL tag (fs.take k)).map S) := owns_below hown hb1 (Nat.le_refl _)
      have d0' : w1.cell? ⟨b, off + k * 3, none⟩ = some (S nm) := (hb1.cell (p := ⟨b, off + k * 3, none⟩) (by show b < _; have := hB.size; omega)).trans d0
      have cD1 : w1.cell? ⟨w.heap.size, 0, none⟩ = some (.slice (some ⟨b, off, none⟩) fs.length c) := hL1.cell 0
      clear hb1 d0 d1 d2 hown cD hL hB
      cases ok with
      | false =>
        have HN := Lib.hid (hno.out (by rw [HIS.out]; rfl))
        clear hy hno HIS HPV
        go_wp2_with fail
        go_roundw
        case rel => exact ⟨k + 1, by omega, by go_num, by rw [HN.out]; exact hown1, hL1, hB1, by omega⟩
        case measure => simp [intOf]; omega
      | true =>
        cases hpt : (pa == tag) with
        | false =>
          have HN := Lib.hid (hno.out (by rw [HIS.out, hpt]; rfl))
          clear hy hno HIS HPV
          go_wp2_with fail
          go_roundw
          case rel => exact ⟨k + 1, by omega, by go_num, by rw [HN.out]; exact hown1, hL1, hB1, by omega⟩
          case measure => simp [intOf]; omega
        | true =>
          have HN := Lib.hid (hy.out (by rw [HIS.out, hpt]; rfl))
          clear hy hno HIS HPV
          go_wp2_with (at_builtin; refine wpList_append_own _ rfl _ _ 30 rfl (w.heap.size + 1) 9 i0 (.string ByteArray.empty) 1 16 Tryd.underlying30 hi hi0 hi1 hi2 rfl (by decide) _ _ _ rfl (hown1.alloc _) ⟨w1.heap.size, 0, none⟩ 1 1 [S nm] rfl rfl (cell_one_new _ _ _) (by simp [Value.oneCell']) (by unfold maxLen; omega) (by omega) (by simp; omega) ?_; intro v' w2 hown2 hgrow _)
          have hB2 : Below w.heap.size w w2 := (hB1.alloc hB1.size _).grown hgrow (by simp; have := hB1.size; omega) (fun r e => by have := owns_block hown1 r e; omega)
          have hz2 : w1.heap.size ≤ w2.heap.size := by have := hgrow.size; simp at this; omega
          have hL2 := (hL1.alloc (.cells #[S nm] 9)).kept hgrow (fun e => by have := owns_block hown1 _ e; omega)
          clear hgrow hown1
          go_wp2_with fail
          go_roundw
          case rel => exact ⟨k + 1, by omega, by go_num, by rw [HN.out]; simpa using hown2, hL2, hB2, by omega⟩
          case measure => simp [intOf]; omega
    · have e : fs.take k = fs := List.take_of_length_le (by omega)
      have E := Lib.hid e
      clear e
      go_wp2_with fail
      go_ret
      rw [E.out] at hown
      exact ofPost_mk hown rfl hB

theorem str_cell {w : World} {b o : Nat} {s : List UInt8} {cs : List Value} (h2 : StrR cs s) (h : ∀ j, j < 1 → w.cell? ⟨b, o + j, none⟩ = cs[j]?) : w.cell? ⟨b, o, none⟩ = some (S s) := by
  unfold StrR at h2; subst h2; exact h 0 (by omega)
set_option maxHeartbeats 1000000 in
theorem texts_same (v u : Value) (l : List (List UInt8)) (w : World) (hv : SliceAt w.heap.size w 1 StrR v l) (hu : SliceAt w.heap.size w 1 StrR u l) (hn : l.length ≤ 1000) :
    Calls Tryd.prog 23 #[v, u] w fun e w' => e = .returned (.bool true) ∧ Below w.heap.size w w' := by
  obtain ⟨a, c, rfl, hc, hel⟩ := hv
  obtain ⟨a', c', rfl, hc', hel'⟩ := hu
  have hne : ((l.length : Int) != (l.length : Int)) = false := by simp
  go_enter Tryd.func23, Tryd.ntmps23
  go_wp2_with fail
  go_loopw [5] (fun i wr => ∃ k : Nat, k ≤ l.length ∧ i = .int .i64 k ∧ Below w.heap.size w wr) (fun i wr => l.length - (intOf i).toNat)
  case atStart => exact ⟨0, Nat.zero_le _, rfl, Below.refl _ _⟩
  case round =>
    obtain ⟨k, hk, rfl, hB⟩ := hrel
    by_cases hlt : k < l.length
    · have hne0 : l ≠ [] := by intro e; rw [e] at hlt; simp at hlt
      obtain ⟨b, off, rfl, hbl, hcell⟩ := hel hne0
      obtain ⟨b', off', rfl, hbl', hcell'⟩ := hel' hne0
      obtain ⟨cs, h1, h2, h3⟩ := hcell k hlt
      obtain ⟨cs', h1', h2', h3'⟩ := hcell' k hlt
      have d0 := str_cell h2 (fun j hj => (hB.cell (p := ⟨b, off + k * 1 + j, none⟩) hbl).trans (h3 j hj))
      have d1 := str_cell h2' (fun j hj => (hB.cell (p := ⟨b', off' + k * 1 + j, none⟩) hbl').trans (h3' j hj))
      rw [Nat.mul_one] at d0 d1
      clear hcell hcell' h1 h2 h3 h1' h2' h3' hel hel' hne0
      have i1 : (0 : Int) ≤ (k : Int) := Int.natCast_nonneg _
      have i2 : (k : Int) < (l.length : Int) := by omega
      generalize l[k] = s at d0 d1
      have hs : (s != s) = false := by simp
      go_wp2_with fail
      go_quiet (fail)
      go_wp2_with fail
      go_roundw
      case rel => exact ⟨k + 1, by omega, by go_num, hB.drewN _⟩
      case measure => simp [intOf]; omega
    · go_wp2_with fail
      go_ret
      exact ⟨rfl, hB⟩
end Go.Proofs.YtdaijofmglpmdaaDoor
