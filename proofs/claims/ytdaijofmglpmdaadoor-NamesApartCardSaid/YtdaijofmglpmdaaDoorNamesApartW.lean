/- The walk of NamesApart: true for every disk. -/
import Derived.Test.YtdaijofmglpmdaaDoorNamesF
import Derived.Deep.RegionHeld3
namespace Go.Proofs.YtdaijofmglpmdaaDoor
open Go.RowKit
set_option maxRecDepth 100000
set_option linter.unusedVariables false
def okOf (nm : List UInt8) : Bool := (parseE nm).isSome
def okN (fs : List FileD) : Nat := fs.countP fun f => okOf f.name
theorem tag_cases {nm : List UInt8} {x : NameE} (h : parseE nm = some x) : x.2.1 = 0 ∨ x.2.1 = 1 := by
  have hm := List.mem_of_find?_eq_some h
  have : ∀ y ∈ allE, y.2.1 = 0 ∨ y.2.1 = 1 := by decide
  exact this x hm
theorem ofL_cons (tag : Int) (f : FileD) (fs : List FileD) : (ofL tag (f :: fs)).length = (if isOf tag f.name = true then 1 else 0) + (ofL tag fs).length := by
  unfold ofL; simp only [List.filter_cons]; split <;> simp <;> omega
theorem of_sum : ∀ fs : List FileD, (ofL 0 fs).length + (ofL 1 fs).length = okN fs
  | [] => rfl
  | f :: fs => by
    have ih := of_sum fs
    have hc : okN (f :: fs) = okN fs + (if okOf f.name = true then 1 else 0) := by unfold okN; rw [List.countP_cons]
    rw [ofL_cons, ofL_cons, hc]
    generalize okN fs = n at *
    generalize (ofL 0 fs).length = n0 at *
    generalize (ofL 1 fs).length = n1 at *
    unfold isOf okOf
    cases hp : parseE f.name with
    | none => simp; omega
    | some x => rcases tag_cases hp with e | e <;> simp [e] <;> omega
theorem of_none (tag : Int) (ht : tag ≠ 0 ∧ tag ≠ 1) : ∀ fs : List FileD, (ofL tag fs).length = 0
  | [] => rfl
  | f :: fs => by
    rw [ofL_cons, of_none tag ht fs]
    unfold isOf
    cases hp : parseE f.name with
    | none => simp
    | some x => rcases tag_cases hp with e | e <;> simp [e] <;> omega
theorem parse_ok (nm : List UInt8) : ∃ (a b c d : Int), parseV nm = .tuple #[.int .i8 a, .int .i8 b, .int .i64 c, .int .i64 d, .bool (okOf nm)] := by
  unfold parseV okOf
  cases parseE nm with
  | some x => exact ⟨_, _, _, _, rfl⟩
  | none => exact ⟨_, _, _, _, rfl⟩
theorem okN_take {fs : List FileD} {k : Nat} (hk : k < fs.length) : okN (fs.take (k + 1)) = okN (fs.take k) + (if okOf fs[k].name = true then 1 else 0) := by
  unfold okN; rw [List.take_succ_eq_append_getElem hk, List.countP_append]; simp [List.countP_cons]
theorem okN_le (fs : List FileD) : okN fs ≤ fs.length := List.countP_le_length
set_option maxHeartbeats 2000000 in
theorem apart_walk (v : Value) (fs : List FileD) (cap left : Int) (down : Bool) (w : World) (hf : SliceAt w.heap.size w 3 FR v fs) :
    Calls Tryd.prog 5 #[.agg #[v, .int .i64 cap, .int .i64 left, .bool down]] w fun e w' => e = .returned (.bool true) ∧ Below w.heap.size w w' := by
  have hf0 := hf
  obtain ⟨a, c, rfl, hc, hel⟩ := hf
  have l0 := LiesAt.new w #[.slice a fs.length c, .int .i64 cap, .int .i64 left, .bool down] 35
  have b0 : Below w.heap.size w (w.alloc (.cells #[.slice a fs.length c, .int .i64 cap, .int .i64 left, .bool down] 35)) := (Below.refl _ _).alloc (Nat.le_refl _) _
  have z0 : w.heap.size + 1 ≤ (w.alloc (.cells #[.slice a fs.length c, .int .i64 cap, .int .i64 left, .bool down] 35)).heap.size := by simp
  go_enter Tryd.func5, Tryd.ntmps5
  go_wp2_with fail
  generalize w.alloc (.cells #[.slice a fs.length c, .int .i64 cap, .int .i64 left, .bool down] 35) = W0 at l0 b0 z0 ⊢
  refine (greatR (.slice a fs.length c) fs cap left down W0 (hf0.mono b0 (by omega) (fun _ _ _ h => h))).mono ?_
  rintro e w1 ⟨rfl, hb1⟩
  have l1 := l0.below hb1 l0.lt
  have b1 := b0.then hb1 (by omega)
  have z1 : w.heap.size + 1 ≤ w1.heap.size := by have := hb1.size; omega
  clear l0 b0 z0 hb1
  cases hg : greatD fs with
  | true =>
    go_wp2_with fail
    refine (wakes _).mono ?_
    rintro e w2 ⟨rfl, hb2⟩
    go_wp2_with fail
    go_ret
    exact ⟨rfl, b1.then hb2 (by omega)⟩
  | false =>
    have h100 : fs.length ≤ 100 := by
      have : ¬ 100 < fs.length := fun h => by simp [greatD, h] at hg
      omega
    clear hg
    have c1 : w1.cell? ⟨w.heap.size, 0, none⟩ = some (.slice a fs.length c) := l1.cell 0
    go_wp2_with fail
    clear c1
    go_loopw [3, 17] (fun o i wr => ∃ k : Nat, k ≤ fs.length ∧ i = .int .i64 k ∧ o = .int .i64 (okN (fs.take k)) ∧ LiesAt wr w.heap.size #[.slice a fs.length c, .int .i64 cap, .int .i64 left, .bool down] 35 ∧ Below w.heap.size w wr ∧ w.heap.size + 1 ≤ wr.heap.size) (fun o i wr => fs.length - (intOf i).toNat)
    case atStart => exact ⟨0, Nat.zero_le _, rfl, rfl, l1, b1, z1⟩
    case round =>
      obtain ⟨k, hk, rfl, rfl, hL, hB, hz⟩ := hrel
      clear l1 b1 z1
      by_cases hlt : k < fs.length
      · obtain ⟨b, off, rfl, hbl, hcell⟩ := hel (by intro e; rw [e] at hlt; simp at hlt)
        obtain ⟨cs, h1, h2, h3⟩ := hcell k hlt
        obtain ⟨d0, d1, d2⟩ := file_cells h1 h2 (fun j hj => (hB.cell (p := ⟨b, off + k * 3 + j, none⟩) hbl).trans (h3 j hj))
        clear hcell h1 h2 h3 hel
        have hy := Lib.hid (okN_take hlt)
        have hle : okN (fs.take k) ≤ 100 := by have := okN_le (fs.take k); rw [List.length_take] at this; omega
        generalize fs[k].name = nm at d0 hy
        generalize fs[k].b = bb at d1
        generalize fs[k].sure = su at d2
        obtain ⟨pa, pb, pc, pd, hpv⟩ := parse_ok nm
        have HPV := Lib.hid hpv
        clear hpv
        go_wp2_with fail
        refine (parse nm _).mono ?_
        rw [HPV.out]
        rintro e w2 ⟨rfl, hb2⟩
        have hB2 : Below w.heap.size w w2 := (hB.alloc hB.size _).then hb2 (by simp; have := hB.size; omega)
        have hL2 := (hL.alloc (.cells #[S nm, S bb, .int .i64 su] 38)).below hb2 (by simp; have := hL.lt; omega)
        have hz2 : w.heap.size + 1 ≤ w2.heap.size := by have := hb2.size; simp at this; omega
        clear hb2 d0 d1 d2 hL hB
        cases hok : okOf nm with
        | true =>
          have HY : Hid (okN (fs.take (k + 1)) = okN (fs.take k) + 1) := by rw [hy.out, hok]; rfl
          clear hy HPV
          go_wp2_with fail
          go_roundw
          case rel => exact ⟨k + 1, by omega, by go_num, by rw [HY.out]; go_num, hL2, hB2, hz2⟩
          case measure => simp [intOf]; omega
        | false =>
          have HY : Hid (okN (fs.take (k + 1)) = okN (fs.take k)) := by rw [hy.out, hok]; rfl
          clear hy HPV
          go_wp2_with fail
          go_roundw
          case rel => exact ⟨k + 1, by omega, by go_num, by rw [HY.out], hL2, hB2, hz2⟩
          case measure => simp [intOf]; omega
      · have e : fs.take k = fs := List.take_of_length_le (by omega)
        rw [e]
        clear e hel
        have hsum := of_sum fs
        have hl0 := ofL_len 0 fs
        have hl1 := ofL_len 1 fs
        have h2 := of_none 2 (by omega) fs
        have h3 := of_none (-1) (by omega) fs
        have c0 : wr.cell? ⟨w.heap.size, 0, none⟩ = some (.slice a fs.length c) := hL.cell 0
        have c1 : wr.cell? ⟨w.heap.size, 1, none⟩ = some (.int .i64 cap) := hL.cell 1
        have c2 : wr.cell? ⟨w.heap.size, 2, none⟩ = some (.int .i64 left) := hL.cell 2
        have c3 : wr.cell? ⟨w.heap.size, 3, none⟩ = some (.bool down) := hL.cell 3
        have g1 : (((ofL 0 fs).length : Int) + ((ofL 1 fs).length : Int) == (okN fs : Int)) = true := by simp; omega
        have w1e : IntKind.i64.wrap (((ofL 0 fs).length : Int) + ((ofL 1 fs).length : Int)) = ((ofL 0 fs).length : Int) + ((ofL 1 fs).length : Int) := IntWalk.i64_in _ (by omega)
        go_wp2_with fail
        clear hl0 hl1 hsum
        go_region_held3 (fun w' => Below w.heap.size w w' ∧ w.heap.size + 1 ≤ w'.heap.size ∧ w'.cell? ⟨w.heap.size, 0, none⟩ = some (.slice a fs.length c) ∧ w'.cell? ⟨w.heap.size, 1, none⟩ = some (.int .i64 cap) ∧ w'.cell? ⟨w.heap.size, 2, none⟩ = some (.int .i64 left) ∧ w'.cell? ⟨w.heap.size, 3, none⟩ = some (.bool down))
          (first | exact ⟨hB.drew, hz, c0, c1, c2, c3⟩ | (go_split_ands; refine ⟨Below.then (by assumption) hb (by omega), by have := hb.size; omega, ?_, ?_, ?_, ?_⟩ <;> (rw [hb.cell (by show w.heap.size < _; omega)]; assumption)))
          (first | (go_at_call 20; go_split_ands; refine (of1 _ fs cap left down _ _ (hf0.mono (by assumption) (by omega) (fun _ _ _ h => h)) h100).mono ?_; rintro e w' ⟨v, rfl, ⟨va, vc, rfl, hvc, hv⟩, hb⟩; clear hv hvc) | (go_at_call 7; go_split_ands; refine (wakes _).mono ?_; rintro e w' ⟨rfl, hb⟩))
        go_split_ands
        go_wp2_with fail
        go_ret
        exact ⟨rfl, by assumption⟩
end Go.Proofs.YtdaijofmglpmdaaDoor
