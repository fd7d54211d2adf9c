/- Package buffer: own, impossible, the numbers of errors. -/
import Derived.Test.YtpklhnpchhaccaaGreatDoorErM
import Derived.Test.YtpklhnpchhaccaaGreatDoorInMc
import Derived.Test.YtpklhnpchhaccaaGreatDoorRgN
import Derived.Shelf.Strconv.Itoa3
namespace Go.Proofs.YtpklhnpchhaccaaGreatDoor
open Go Go.RowKit Go.Sort
set_option maxHeartbeats 8000000
set_option maxRecDepth 100000
set_option linter.unusedVariables false
set_option linter.unusedSimpArgs false
theorem rZ (b : BatD) (hb : b.recs.length ≤ 100000) : bR Tryz.prog 57 [.agg b.dv] (.agg b.dv) := by
 have c1 := (aDm (b.recs.map RecD.dv) (by simp; omega)).fun
 (refine bR.of_body Tryz.func57 rfl rfl Tryz.ntmps57 Tryz.results57 (by simp) ?_)
 (refine gO (@BatD.dv.eq_1) ?_)
 (refine rO (@BatD.dv.eq_1) ?_; try with_reducible exact tt)
theorem cI (s : List UInt8) : bR Tryz.prog 104 [str s] (sD (str s)) := by
 (refine bR.of_body Tryz.func104 rfl rfl Tryz.ntmps104 Tryz.results104 (by simp) ?_)
 (refine dD ?_)
 (refine bL ?_; try with_reducible exact tt)
def aXs (n : Int) : List UInt8 := if n = 2 then [50] else if n = 100 then [49, 48, 48] else if n = 101 then [49, 48, 49] else [49, 48, 50]
def aO1 (n : Int) : Prop := n = 2 ∨ n = 100 ∨ n = 101 ∨ n = 102
theorem aRs (w : World) : Calls Tryz.prog 254 #[.int .i64 2] w fun e w' => e = .returned (.string ⟨(aXs 2).toArray⟩) ∧ w = w' := by
 go_enter Tryz.func254, Tryz.ntmps254
 go_wp2
 go_ret
 exact ⟨rfl, rfl⟩
theorem aMg (w : World) : Calls Tryz.prog 186 #[.int .u64 100] w fun e w' => e = .returned (.int .i64 7) ∧ w = w' := by
 go_enter Tryz.func186, Tryz.ntmps186
 go_wp2
 go_ret
 exact ⟨by kernel_rfl, rfl⟩
theorem aB9 (w : World) (ht : w.cell? ⟨1, 2, none⟩ = some (.int .u64 100)) : Calls Tryz.prog 315 #[.int .u64 100] w fun e w' => e = .returned (.int .i64 3) ∧ w = w' := by
 go_enter Tryz.func315, Tryz.ntmps315
 go_wp2_with fail
 refine (aMg _).mono ?_
 rintro e w' ⟨rfl, rfl⟩
 go_wp2
 go_ret
 exact ⟨rfl, rfl⟩
def laysB10_ren : Go.Shelf.Ren := ⟨fun | 285 => 316 | n => n, fun | 37 => 367 | 53 => 256 | 3 => 3 | 4 => 4 | 51 => 254 | 9 => 9 | 5 => 5 | 0 => 0 | n => n, fun | n => n⟩
theorem laysB10 : Go.Proofs.Lays.n285 Tryz.prog laysB10_ren := {
  mixed := by kernel_rfl
  f285 := Tryz.func316.trans (congrArg some (by kernel_rfl))
  t0 := Tryz.underlying0
  a0 := Tryz.isAgg0
  z0 := Tryz.sizeOf0
  v0 := Tryz.zeroValue0
  t3 := Tryz.underlying3
  a3 := Tryz.isAgg3
  z3 := Tryz.sizeOf3
  v3 := Tryz.zeroValue3
  t4 := Tryz.underlying4
  a4 := Tryz.isAgg4
  z4 := Tryz.sizeOf4
  v4 := Tryz.zeroValue4
  t5 := Tryz.underlying5
  a5 := Tryz.isAgg5
  z5 := Tryz.sizeOf5
  v5 := Tryz.zeroValue5
  t9 := Tryz.underlying9
  a9 := Tryz.isAgg9
  z9 := Tryz.sizeOf9
  v9 := Tryz.zeroValue9
  t37 := Tryz.underlying367
  a37 := Tryz.isAgg367
  z37 := Tryz.sizeOf367
  v37 := Tryz.zeroValue367
  t51 := Tryz.underlying254
  a51 := Tryz.isAgg254
  z51 := Tryz.sizeOf254
  v51 := Tryz.zeroValue254
  t53 := Tryz.underlying256
  a53 := Tryz.isAgg256
  z53 := Tryz.sizeOf256
  v53 := Tryz.zeroValue256 }
theorem aXn (u : Nat) (hu : 100 ≤ u ∧ u ≤ 102) (hN : ∀ W : World, W.cell? ⟨1, 2, none⟩ = some (.int .u64 100) → Calls Tryz.prog 315 #[.int .u64 u] W fun e w' => e = .returned (.int .i64 3) ∧ W = w') (w : World) (ht : w.cell? ⟨1, 2, none⟩ = some (.int .u64 100)) :
  Calls Tryz.prog 310 #[.int .i64 u, .int .i64 10] w fun e w' => e = .returned (.string ⟨(Lib.decDigits u).toArray⟩) ∧ Below w.heap.size w w' := by
 have hlt : 1 < w.heap.size := World.block_lt_of_cell? w _ ht
 have hnd : Lib.nDigits u = 3 := by
  obtain ⟨h1, h2⟩ := hu
  have : u = 100 ∨ u = 101 ∨ u = 102 := by omega
  rcases this with rfl | rfl | rfl <;> simp [Lib.nDigits]
 have hu64 : u < 18446744073709551616 := by omega
 have hH0 := Lib.holds_zero w 365 (Lib.nDigits u) (by omega)
 have hfmt := Any.internal_strconv_formatBase10 laysB10 w.heap.size 1 23 u (Array.replicate (Lib.nDigits u) 0) (w.alloc (.cells Lib.zeros24 365)) hH0 (by rw [Array.size_replicate]; exact Lib.lt_pow_nDigits u) hu64 (by rw [Array.size_replicate]; omega)
 rw [Array.size_replicate] at hfmt
 have HH0 := Lib.hid hH0
 clear hH0
 have hal : Tryz.prog.arrayLen 365 = 24 := by simp [Program.arrayLen, Tryz.underlying365]
 have hsl1 : ∀ W, (Instr.sliceAt 365 (.pointer (some ⟨w.heap.size, 0, none⟩)) (some (.int .i64 1)) (some (.int .i64 4)) none).run Tryz.prog W = .ok (.slice (some ⟨w.heap.size, 1, none⟩) 3 23) W := fun W => by
  rw [run_sliceAt_array_lh W 365 ⟨w.heap.size, 0, none⟩ (by simp [Program.arrayLen, Program.elem, Tryz.underlying365]) .i64 .i64 1 4 (by omega) (by omega) (by rw [hal]; omega)]
  go_simp
 rw [hnd] at hfmt
 go_enter Tryz.func310, Tryz.ntmps310
 go_wp2_with fail
 refine (hN _ ?_).mono ?_
 ·exact (World.cell?_alloc_lt w _ ⟨1, 2, none⟩ hlt).trans ht
 rintro e w' ⟨rfl, rfl⟩
 go_wp2_with fail
 refine hfmt.mono ?_
 rintro e w' ⟨rfl, k, v', dk, rfl, hF⟩
 have hcv : (convert 367 9 (.slice (some ⟨w.heap.size, 1, none⟩) 3 23)).run Tryz.prog ((putRow (fun (b : UInt8) => Value.int .u8 (b.toNat : Int)) (w.alloc (.cells Lib.zeros24 365)) w.heap.size 1 dk).drewN k) = .ok (.string ⟨(Lib.decDigits u).toArray⟩) ((putRow (fun (b : UInt8) => Value.int .u8 (b.toNat : Int)) (w.alloc (.cells Lib.zeros24 365)) w.heap.size 1 dk).drewN k) := by
  have h := run_convert_bytes_back (P := Tryz.prog) ((putRow (fun (b : UInt8) => Value.int .u8 (b.toNat : Int)) (w.alloc (.cells Lib.zeros24 365)) w.heap.size 1 dk).drewN k) 367 9 5 ⟨w.heap.size, 1, none⟩ 23 (Lib.decDigits u) Tryz.underlying367 Tryz.underlying5 Tryz.underlying9 (fun j hj => by
   rw [Lib.row_is_numeral (by rw [hnd]; exact hF) j hj, Lib.add_plain, World.cell?_drewN]
   exact cell?_putRow (fun (b : UInt8) => Value.int .u8 (b.toNat : Int)) _ w.heap.size 1 _ dk HH0.out (by rw [hF.size, Array.size_replicate, hnd]) j (by rw [hF.size]; rw [Lib.decDigits_length, hnd] at hj; exact hj))
  rw [Lib.decDigits_length, hnd] at h
  exact h
 go_wp2
 go_ret
 obtain ⟨os, eo⟩ := Lib.fin_pos w (.cells Lib.zeros24 365) dk k
 refine ⟨rfl, ?_⟩
 rw [eo]
 exact ⟨rfl, rfl, rfl, by simp [grow], fun k hk => by show (w.heap ++ os)[k]? = _; exact Array.getElem?_append_left hk⟩
theorem aV5 (u : Nat) (hu : 100 ≤ u ∧ u ≤ 102) (hN : ∀ W : World, W.cell? ⟨1, 2, none⟩ = some (.int .u64 100) → Calls Tryz.prog 315 #[.int .u64 u] W fun e w' => e = .returned (.int .i64 3) ∧ W = w') (w : World) (ht : w.cell? ⟨1, 2, none⟩ = some (.int .u64 100)) :
  Calls Tryz.prog 293 #[.int .i64 u] w fun e w' => e = .returned (.string ⟨(Lib.decDigits u).toArray⟩) ∧ Below w.heap.size w w' := by
 have h0 := aXn u hu hN w ht
 go_enter Tryz.func293, Tryz.ntmps293
 go_wp2_with fail
 refine h0.mono ?_
 rintro e w' ⟨rfl, hb⟩
 go_wp2
 go_ret
 exact ⟨rfl, hb⟩
theorem aV4 (u : Nat) (hu : 100 ≤ u ∧ u ≤ 102) (hN : ∀ W : World, W.cell? ⟨1, 2, none⟩ = some (.int .u64 100) → Calls Tryz.prog 315 #[.int .u64 u] W fun e w' => e = .returned (.int .i64 3) ∧ W = w') (w : World) (ht : w.cell? ⟨1, 2, none⟩ = some (.int .u64 100)) :
  Calls Tryz.prog 254 #[.int .i64 u] w fun e w' => e = .returned (.string ⟨(Lib.decDigits u).toArray⟩) ∧ Below w.heap.size w w' := by
 have h0 := aV5 u hu hN w ht
 go_enter Tryz.func254, Tryz.ntmps254
 go_wp2_with fail
 refine h0.mono ?_
 rintro e w' ⟨rfl, hb⟩
 go_wp2
 go_ret
 exact ⟨rfl, hb⟩
theorem aMh (w : World) : Calls Tryz.prog 186 #[.int .u64 101] w fun e w' => e = .returned (.int .i64 7) ∧ w = w' := by
 go_enter Tryz.func186, Tryz.ntmps186
 go_wp2
 go_ret
 exact ⟨by kernel_rfl, rfl⟩
theorem aBa (w : World) (ht : w.cell? ⟨1, 2, none⟩ = some (.int .u64 100)) : Calls Tryz.prog 315 #[.int .u64 101] w fun e w' => e = .returned (.int .i64 3) ∧ w = w' := by
 go_enter Tryz.func315, Tryz.ntmps315
 go_wp2_with fail
 refine (aMh _).mono ?_
 rintro e w' ⟨rfl, rfl⟩
 go_wp2
 go_ret
 exact ⟨rfl, rfl⟩
theorem aMi (w : World) : Calls Tryz.prog 186 #[.int .u64 102] w fun e w' => e = .returned (.int .i64 7) ∧ w = w' := by
 go_enter Tryz.func186, Tryz.ntmps186
 go_wp2
 go_ret
 exact ⟨by kernel_rfl, rfl⟩
theorem aBb (w : World) (ht : w.cell? ⟨1, 2, none⟩ = some (.int .u64 100)) : Calls Tryz.prog 315 #[.int .u64 102] w fun e w' => e = .returned (.int .i64 3) ∧ w = w' := by
 go_enter Tryz.func315, Tryz.ntmps315
 go_wp2_with fail
 refine (aMi _).mono ?_
 rintro e w' ⟨rfl, rfl⟩
 go_wp2
 go_ret
 exact ⟨rfl, rfl⟩
theorem aXv {K : Know} {w : World} (hB : eR pJ K) (hk : KW K w) : w.cell? ⟨1, 2, none⟩ = some (.int .u64 100) := hk _ _ _ (hB _ _ _ (by unfold pJ; rfl))
theorem aRt : bR Tryz.prog 254 [int 2] (str [50]) := by
 refine ⟨by kernel_rfl, fun K w vs hB hk hL => ?_⟩
 obtain ⟨v, rfl, hv⟩ := tZ hL
 cases hv
 refine (aRs w).mono ?_
 rintro e w' ⟨rfl, rfl⟩
 exact ⟨_, K, rfl, Ext.refl _ _, hk, Rep.val _, Below.refl _ _⟩
theorem aE0 (u : Nat) (hu : 100 ≤ u ∧ u ≤ 102) : bR Tryz.prog 254 [int u] (str (Lib.decDigits u)) := by
 refine ⟨by kernel_rfl, fun K w vs hB hk hL => ?_⟩
 obtain ⟨v, rfl, hv⟩ := tZ hL
 cases hv
 have hN : ∀ W : World, W.cell? ⟨1, 2, none⟩ = some (.int .u64 100) → Calls Tryz.prog 315 #[.int .u64 u] W fun e w' => e = .returned (.int .i64 3) ∧ W = w' := fun W h => by
  have : u = 100 ∨ u = 101 ∨ u = 102 := by omega
  rcases this with rfl | rfl | rfl
  ·exact aB9 W h
  ·exact aBa W h
  ·exact aBb W h
 refine (aV4 u hu hN w (aXv hB hk)).mono ?_
 rintro e w' ⟨rfl, hb⟩
 exact ⟨_, K, rfl, Ext.refl _ _, tP hk hb, Rep.val _, hb⟩
theorem mL (u : Nat) (hu : 100 ≤ u ∧ u ≤ 102) : (Lib.decDigits u).length ≤ 3 := by
 rw [Lib.decDigits_length]
 have : u = 100 ∨ u = 101 ∨ u = 102 := by omega
 rcases this with rfl | rfl | rfl <;> simp [Lib.nDigits]
/-- The text of an error's number. -/
def aOb (n : Int) : List UInt8 := [101, 114, 114, 111, 114, 32] ++ if n = 2 then [50] else Lib.decDigits n.toNat
theorem aIg {n : Int} (h : aO1 n) : bR Tryz.prog 214 [int n] (str (aOb n)) ∧ (aOb n).length ≤ 20 := by
 obtain ⟨t, ht, c1, hl⟩ : ∃ t, t = (if n = 2 then [50] else Lib.decDigits n.toNat) ∧ bR Tryz.prog 254 [int n] (str t) ∧ t.length ≤ 3 := by
  rcases h with rfl | rfl | rfl | rfl
  ·exact ⟨_, rfl, aRt, by simp⟩
  ·exact ⟨_, rfl, aE0 100 (by omega), mL 100 (by omega)⟩
  ·exact ⟨_, rfl, aE0 101 (by omega), mL 101 (by omega)⟩
  ·exact ⟨_, rfl, aE0 102 (by omega), mL 102 (by omega)⟩
 unfold aOb
 rw [← ht]
 refine ⟨?_, by simp; omega⟩
 have hh : [(101 : UInt8), 114, 114, 111, 114, 32].length + t.length ≤ 9223372036854775807 := by simp; omega
 (refine bR.of_body Tryz.func214 rfl rfl Tryz.ntmps214 Tryz.results214 (by simp) ?_)
 have hA : ∀ (P : Program) (ty : TypeId) (x y : Operand), dY P .add ty x y (vs [101, 114, 114, 111, 114, 32]) (vs t) = some (Res.pure (vs ([101, 114, 114, 111, 114, 32] ++ t))) := fun P ty x y => aHa hh
 (refine gO (hA) ?_)
 (refine bL ?_; try with_reducible exact tt)
end Go.Proofs.YtpklhnpchhaccaaGreatDoor
