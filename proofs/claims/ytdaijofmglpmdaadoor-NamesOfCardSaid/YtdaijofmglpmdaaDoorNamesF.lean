/- names.Of of the package and of the reference: the names of the files whose name is an engine's. -/
import Derived.Test.YtdaijofmglpmdaaDoorNamesE
import Derived.Lib.SmallJoins
namespace Go.Proofs.YtdaijofmglpmdaaDoor
open Go.RowKit
set_option maxRecDepth 100000
set_option linter.unusedVariables false
def isOf (tag : Int) (nm : List UInt8) : Bool := match parseE nm with
  | some x => x.2.1 == tag
  | none => false
def ofL (tag : Int) (fs : List FileD) : List (List UInt8) := (fs.filter fun f => isOf tag f.name).map (·.name)
def StrR (cs : List Value) (s : List UInt8) : Prop := cs = [S s]
theorem parse_parts (nm : List UInt8) (tag : Int) : ∃ (a b c d : Int) (ok : Bool), parseV nm = .tuple #[.int .i8 a, .int .i8 b, .int .i64 c, .int .i64 d, .bool ok] ∧ isOf tag nm = (ok && (a == tag)) := by
  unfold parseV isOf
  cases parseE nm with
  | some x => exact ⟨_, _, _, _, true, rfl, by simp⟩
  | none => exact ⟨_, _, _, _, false, rfl, by simp⟩
theorem ofL_take_yes {tag : Int} {fs : List FileD} {k : Nat} (hk : k < fs.length) (h : isOf tag fs[k].name = true) : ofL tag (fs.take (k + 1)) = ofL tag (fs.take k) ++ [fs[k].name] := by
  unfold ofL; rw [List.take_succ_eq_append_getElem hk, List.filter_append, List.map_append]; simp [h]
theorem ofL_take_no {tag : Int} {fs : List FileD} {k : Nat} (hk : k < fs.length) (h : isOf tag fs[k].name = false) : ofL tag (fs.take (k + 1)) = ofL tag (fs.take k) := by
  unfold ofL; rw [List.take_succ_eq_append_getElem hk, List.filter_append, List.map_append]; simp [h]
theorem ofL_len (tag : Int) (fs : List FileD) : (ofL tag fs).length ≤ fs.length := by unfold ofL; rw [List.length_map]; exact List.length_filter_le _ _
theorem info_string : (Tryd.prog.info? 9).map (fun i => (i.zero, i.size, i.bytes)) = some (some (.string ByteArray.empty), 1, 16) := by kernel_rfl
def OfPost (tag : Int) (fs : List FileD) (w : World) (e : Ending) (w' : World) : Prop := ∃ v, e = .returned v ∧ SliceAt w'.heap.size w' 1 StrR v (ofL tag fs) ∧ Below w.heap.size w w'
theorem S_map (l : List (List UInt8)) : l.map S = l.flatMap fun s => [S s] := by induction l with | nil => rfl | cons x l ih => simp [ih]
theorem ofPost_mk {tag : Int} {fs : List FileD} {w w' : World} {base n : Nat} {v : Value} (h : w'.ownsRow base 9 1 v n ((ofL tag fs).map S)) (hn : n = (ofL tag fs).length) (hb : Below w.heap.size w w') : OfPost tag fs w (.returned v) w' := by
  rw [S_map] at h
  exact ⟨v, rfl, SliceAt.of_owns h (fun _ _ => rfl) hn, hb⟩
set_option maxHeartbeats 1000000 in
theorem of1 (v : Value) (fs : List FileD) (cap left : Int) (down : Bool) (tag : Int) (w : World) (hf : SliceAt w.heap.size w 3 FR v fs) (hn : fs.length ≤ 100) :
    Calls Tryd.prog 20 #[.agg #[v, .int .i64 cap, .int .i64 left, .bool down], .int .i8 tag] w (OfPost tag fs w) := by
  obtain ⟨a, c, rfl, hc, hel⟩ := hf
  obtain ⟨i0, hi, hi0, hi1, hi2⟩ := info_parts info_string
  go_enter Tryd.func20, Tryd.ntmps20
  go_wp2_with fail
  have l0 := LiesAt.new w #[.slice a fs.length c, .int .i64 cap, .int .i64 left, .bool down] 35
  have b0 : Below w.heap.size w (w.alloc (.cells #[.slice a fs.length c, .int .i64 cap, .int .i64 left, .bool down] 35)) := (Below.refl _ _).alloc (Nat.le_refl _) _
  have z0 : w.heap.size + 1 ≤ (w.alloc (.cells #[.slice a fs.length c, .int .i64 cap, .int .i64 left, .bool down] 35)).heap.size := by simp
  generalize w.alloc (.cells #[.slice a fs.length c, .int .i64 cap, .int .i64 left, .bool down] 35) = W0 at l0 b0 z0 ⊢
  go_loopw [5, 16] (fun o i wr => ∃ k : Nat, k ≤ fs.length ∧ i = .int .i64 k ∧ wr.ownsRow (w.heap.size + 1) 9 1 o (ofL tag (fs.take k)).length ((ofL tag (fs.take k)).map S) ∧ Below w.heap.size w wr ∧ w.heap.size + 1 ≤ wr.heap.size) (fun o i wr => fs.length - (intOf i).toNat)
  case atStart => exact ⟨0, Nat.zero_le _, rfl, by simpa [ofL] using World.ownsRow_nil W0 _ _ _, b0, z0⟩
  case round =>
    obtain ⟨k, hk, rfl, hown, hB, hz⟩ := hrel
    clear l0 b0 z0
    by_cases hlt : k < fs.length
    · obtain ⟨b, off, rfl, hbl, hcell⟩ := hel (by intro e; rw [e] at hlt; simp at hlt)
      obtain ⟨cs, h1, h2, h3⟩ := hcell k hlt
      obtain ⟨d0, d1, d2⟩ := file_cells h1 h2 (fun j hj => (hB.cell (p := ⟨b, off + k * 3 + j, none⟩) hbl).trans (h3 j hj))
      clear hcell h1 h2 h3
      have hy := Lib.hid (fun h => ofL_take_yes (tag := tag) hlt h)
      have hno := Lib.hid (fun h => ofL_take_no (tag := tag) hlt h)
      have hlen := ofL_len tag (fs.take k)
      have htl : (fs.take k).length ≤ 100 := by rw [List.length_take]; omega
      have hlen2 : (ofL tag (fs.take k)).length ≤ 100 := by omega
      clear hlen htl
      generalize fs[k].name = nm at d0 hy hno
      generalize fs[k].b = bb at d1
      generalize fs[k].sure = su at d2
      obtain ⟨pa, pb, pc, pd, ok, hpv, his⟩ := parse_parts nm tag
      have HPV := Lib.hid hpv
      have HIS := Lib.hid his
      clear hpv his
      have l1 := LiesAt.new wr #[S nm, S bb, .int .i64 su] 38
      go_wp2_with fail
      refine (parse nm _).mono ?_
      rw [HPV.out]
      rintro e w1 ⟨rfl, hb1⟩
      have c1 : w1.cell? ⟨wr.heap.size, 0, none⟩ = some (S nm) := (hb1.cell (p := ⟨wr.heap.size, 0, none⟩) (by simp)).trans (l1.cell 0)
      have hz1 : wr.heap.size + 1 ≤ w1.heap.size := by have := hb1.size; simpa using this
      have hB1 : Below w.heap.size w w1 := (hB.alloc hB.size _).then hb1 (by simp; have := hB.size; omega)
      have hown1 : w1.ownsRow (w.heap.size + 1) 9 1 _ (ofL tag (fs.take k)).length ((ofL tag (fs.take k)).map S) := owns_below (hown.alloc _) hb1 (Nat.le_refl _)
      clear hb1 l1 d0 d1 d2 hown
      cases ok with
      | false =>
        have HN := Lib.hid (hno.out (by rw [HIS.out]; rfl))
        clear hy hno HIS HPV
        go_wp2_with fail
        go_roundw
        case rel => exact ⟨k + 1, by omega, by go_num, by rw [HN.out]; exact hown1, hB1, by omega⟩
        case measure => simp [intOf]; omega
      | true =>
        cases hpt : (pa == tag) with
        | false =>
          have HN := Lib.hid (hno.out (by rw [HIS.out, hpt]; rfl))
          clear hy hno HIS HPV
          go_wp2_with fail
          go_roundw
          case rel => exact ⟨k + 1, by omega, by go_num, by rw [HN.out]; exact hown1, hB1, by omega⟩
          case measure => simp [intOf]; omega
        | true =>
          have HN := Lib.hid (hy.out (by rw [HIS.out, hpt]; rfl))
          clear hy hno HIS HPV
          go_wp2_with (at_builtin; refine wpList_append_own _ rfl _ _ 30 rfl (w.heap.size + 1) 9 i0 (.string ByteArray.empty) 1 16 Tryd.underlying30 hi hi0 hi1 hi2 rfl (by decide) _ _ _ rfl (hown1.alloc _) ⟨w1.heap.size, 0, none⟩ 1 1 [S nm] rfl rfl (cell_one_new _ _ _) (by simp [Value.oneCell']) (by unfold maxLen; omega) (by omega) (by simp; omega) ?_; intro v' w2 hown2 hgrow _)
          have hB2 : Below w.heap.size w w2 := (hB1.alloc hB1.size _).grown hgrow (by simp; have := hB1.size; omega) (fun r e => by have := owns_block hown1 r e; omega)
          have hz2 : w1.heap.size ≤ w2.heap.size := by have := hgrow.size; simp at this; omega
          clear hgrow hown1
          go_wp2_with fail
          go_roundw
          case rel => exact ⟨k + 1, by omega, by go_num, by rw [HN.out]; simpa using hown2, hB2, by omega⟩
          case measure => simp [intOf]; omega
    · have e : fs.take k = fs := List.take_of_length_le (by omega)
      have E := Lib.hid e
      clear e
      go_wp2_with fail
      go_ret
      rw [E.out] at hown
      exact ofPost_mk hown rfl hB
end Go.Proofs.YtdaijofmglpmdaaDoor
