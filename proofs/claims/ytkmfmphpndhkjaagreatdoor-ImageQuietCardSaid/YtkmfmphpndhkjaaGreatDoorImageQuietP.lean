/- ImageQuiet: for every input the call returns true, and its arguments read as they did. -/
import Derived.Test.YtkmfmphpndhkjaaGreatDoorLawKit
import Derived.Test.YtkmfmphpndhkjaaGreatDoorQtE
import Derived.Test.YtkmfmphpndhkjaaGreatDoorLawM
import Derived.Test.YtkmfmphpndhkjaaGreatDoorCards
import Derived.Test.YtkmfmphpndhkjaaGreatDoorTie
import Derived.Deep.DeepHandedRow
import Derived.Lib.LaidTab
import Derived.LaidMore
namespace Go.Proofs.YtkmfmphpndhkjaaGreatDoor.imageQuiet
open Go.ChangeShapes Go.WideShapes Go.ChangeAt Go.RowKit Go.WideMaps Go.WideElems
open Go.ChangeMaps (open_string shut_string)
set_option maxRecDepth 100000
set_option linter.unusedVariables false
theorem own : ownKnob Tryz.prog.godebug = none := by kernel_rfl
theorem rd (t : TypeId) (h : t ∈ Tryz.f6.params.toList) : Tryz.prog.readableRec t = true ∧ t < Tryz.prog.types.size := by
  have := (List.all_eq_true.1 (show (Tryz.f6.params.toList.all fun t => Tryz.prog.readableRec t && decide (t < Tryz.prog.types.size)) = true by kernel_rfl)) t h
  simpa using this
theorem walk (H : Type) (enc : TypeId × Value → H) (W : World) (base : Nat) (args : Array Value) (ds : List (DataW H)) (p : List MemPlace)
    (hval : ∀ (j : Nat) t v, Tryz.f6.params[j]? = some t → args[j]? = some v → Value.okWide Tryz.prog W .any base t v)
    (hA : DataW.TrodAll enc Tryz.prog W 0 (fun _ => true) true Tryz.f6.params.toList args.toList ds p) (hplt : ∀ x ∈ p, x.block < W.heap.size) (hL : laidMetH Tryz.prog Rows.imageQuietRow.laid W) :
    (Calls Tryz.prog 6 args W fun e w' => e = .returned (.bool true) ∧ Below W.heap.size W w') ∧ (∀ gs, (Rows.imageQuietSpec.fn H (ds ++ [])).results = [.lit (.bool true)] ∧ (Rows.imageQuietSpec.fn H (ds ++ [])).args = ds ∧ (Rows.imageQuietSpec.fn H (ds ++ [])).vars = gs ∨ gs ≠ []) := by
  rw [Tryz.params6] at hA hval
  obtain ⟨v0, vs0, d0, ds0, p0, q0, hargs, rfl, rfl, h0, r0⟩ := trodAll_cons hA
  obtain ⟨rfl, rfl, rfl⟩ := trodAll_nil r0
  obtain rfl : args = #[v0] := by cases args; simp_all
  obtain ⟨xs0, hx0, hr0⟩ := rM (sh := aLz) Tryz.underlying39 (by kernel_rfl) (hval 0 39 v0 rfl rfl) h0
  obtain ⟨a0, rfl, hk0⟩ := aK6 hx0
  refine ⟨aJ.law (aAe a0 ⟨hk0.2.1, hk0.2.2.1, hk0.2.2.2⟩) (nN hL) (.cons hr0 .nil), fun gs => by cases gs with | nil => exact .inl ⟨rfl, rfl, rfl⟩ | cons _ _ => exact .inr (by simp)⟩
theorem contract (H : Type) (enc : TypeId × Value → H) (W : World) (base : Nat) (args : Array Value) (ds gs : List (DataW H)) (before : List MemPlace)
    (hval : ∀ (j : Nat) t v, Tryz.f6.params[j]? = some t → args[j]? = some v → Value.okWide Tryz.prog W .any base t v)
    (hW : DataW.Whole enc Tryz.prog Tryz.f6.params.toList Rows.imageQuietSpec.vars false W args.toList ds gs before) (hL : laidMetH Tryz.prog Rows.imageQuietRow.laid W) :
    Calls Tryz.prog 6 args W fun e W' => ∃ v, e = .returned v ∧ Rows.imageQuietSpec.post enc Tryz.prog Tryz.f6 false true false false W args v W' := by
  have hW' := hW
  have hlt := hW.lt
  obtain ⟨p, q, hA, hV, rfl, hfz, hnd⟩ := hW
  obtain ⟨rfl, rfl⟩ := trodVars_none hV
  obtain ⟨h1, h2⟩ := walk H enc W base args ds p hval hA (fun x hx => hlt x (by simp [hx])) hL
  refine h1.mono ?_
  rintro e W' ⟨rfl, hb⟩
  have h3 := (h2 []).resolve_right (by simp)
  exact ⟨_, rfl, xM (by kernel_rfl) rd (by kernel_rfl) Tryz.underlying4 rfl hW' hb h3⟩
def wit : Array Value := #[.agg #[.int .i8 0, .int .i64 0, .int .i64 0, .slice none 0 0, .slice none 0 0, .slice none 0 0, .int .i64 0, .int .i64 0, .slice none 0 0, .slice none 0 0, .slice none 0 0, .int .i64 0, .int .i64 0, .slice none 0 0, .slice none 0 0, .slice none 0 0, .int .i64 0, .int .i8 0, .int .i64 0, .int .i64 0, .int .i64 0, .int .i64 0, .slice none 0 0, .slice none 0 0, .int .i64 0, .int .i8 0, .int .i64 0, .int .i64 0, .int .i64 0, .int .i64 0, .slice none 0 0, .slice none 0 0, .int .i64 0, .int .i8 0, .int .i64 0, .int .i64 0, .int .i64 0, .int .i64 0, .slice none 0 0, .slice none 0 0, .int .i64 0, .int .i64 0, .int .i64 0, .int .i64 0, .int .i64 0, .int .i64 0, .int .i64 0]]
theorem laid_met (os : Os) : laidMetH Tryz.prog Rows.imageQuietRow.laid ((World.doorLaid Tryz.prog 400 os).forCall (fun _ _ => 0) ⟨#[], wit, []⟩).memory :=
  laidMetH_of_parts3 (fuel := 8) (laidMet_of_run' 8 (by kernel_rfl) (by kernel_rfl)) (by kernel_rfl) (by kernel_rfl)
theorem reads (os : Os) {H : Type} (enc : TypeId × Value → H) : ∃ places, DataW.whole enc Tryz.prog ((World.doorLaid Tryz.prog 400 os).forCall (fun _ _ => 0) ⟨#[], wit, []⟩).memory Tryz.f6.params.toList Rows.imageQuietSpec.vars false wit.toList 8 = some ([.agg [.lit (.int .i8 0), .agg [.agg [.lit (.int .i64 0), .lit (.int .i64 0), .nil, .nil, .nil], .agg [.lit (.int .i64 0), .lit (.int .i64 0), .nil, .nil, .nil], .agg [.lit (.int .i64 0), .lit (.int .i64 0), .nil, .nil, .nil]], .agg [.lit (.int .i64 0), .agg [.agg [.lit (.int .i8 0), .lit (.int .i64 0), .lit (.int .i64 0), .lit (.int .i64 0), .lit (.int .i64 0), .nil, .nil, .lit (.int .i64 0)], .agg [.lit (.int .i8 0), .lit (.int .i64 0), .lit (.int .i64 0), .lit (.int .i64 0), .lit (.int .i64 0), .nil, .nil, .lit (.int .i64 0)], .agg [.lit (.int .i8 0), .lit (.int .i64 0), .lit (.int .i64 0), .lit (.int .i64 0), .lit (.int .i64 0), .nil, .nil, .lit (.int .i64 0)]], .agg [.agg [.lit (.int .i64 0), .lit (.int .i64 0), .lit (.int .i64 0)], .agg [.lit (.int .i64 0), .lit (.int .i64 0), .lit (.int .i64 0)]]]]], [], places) :=
  ⟨[], by kernel_rfl⟩
theorem lifted (os : Os) (started : os.Started) (H : Type) (enc : TypeId × Value → H) (F : Stop.Interp) :
    ReturnsInHanded {} Tryz.checked os 6 .any ((OpenSpec.ofChange Rows.imageQuietSpec).preRow enc Tryz.prog Tryz.f6 Rows.imageQuietRow.domain false Rows.imageQuietRow.laid) (((OpenSpec.ofChange Rows.imageQuietSpec).at F).post enc Tryz.prog Tryz.f6 false true false false) := by
  obtain ⟨places, hx⟩ := reads os enc
  refine returnsInHanded_of_row (C := Tryz.checked) (s := (OpenSpec.ofChange Rows.imageQuietSpec)) own started (by kernel_rfl) Tryz.func6
    (witness_row_at (enc := enc) (C := Tryz.checked) false (World.doorLaid Tryz.prog 400 os) wit rfl (by kernel_rfl) (by kernel_rfl) (by kernel_rfl)
      (OpenSpec.preRow_of_cond 8 hx (by kernel_rfl) (fun k hk => by cases hk) (by kernel_rfl) (laid_met os))) ?_
  intro W base args ds gs before hval hW _ _ _ hL _ _
  exact contract H enc W base args ds gs before hval hW hL
theorem f1 : laidOutB Tryz.pinned.checked.prog = true := by kernel_rfl
theorem f2 : mapsRowed Tryz.pinned.checked.prog = true := by kernel_rfl
theorem f3 : Tryz.pinned.checked.prog.mayEnter = true := by kernel_rfl
theorem f4 : Tryz.pinned.checked.prog.stopsHeard = true := by kernel_rfl
theorem f5 : (Rows.imageQuietRow.lifted == Tryz.pinned.checked.prog.liftsFinal) = true := by kernel_rfl
theorem f6 : (Rows.imageQuietRow.inPlace == Tryz.pinned.checked.prog.inPlace 6) = true := by kernel_rfl
theorem f7 : (Rows.imageQuietRow.unfollowed == Tryz.pinned.checked.prog.unfollowed 6) = true := by kernel_rfl
theorem f8 : (Rows.imageQuietRow.recurses == Tryz.pinned.checked.prog.recurses 6) = true := by kernel_rfl
theorem f9 : (Rows.imageQuietRow.named == Tryz.pinned.checked.prog.varsNamed 6) = true := by kernel_rfl
theorem f10 : (Tryz.pinned.checked.prog.make == some Rows.imageQuietRow.make) = true := by kernel_rfl
theorem closed : joinedFacts Tryz.pinned.checked.prog 6 Tryz.f6 (OpenSpec.ofChange Rows.imageQuietSpec).bare Rows.imageQuietRow = true := by
  unfold joinedFacts
  rw [f1, f2, f3, f4, f5, f6, f7, f8, f9, f10]
  kernel_rfl
theorem said : Rows.ImageQuietSaid :=
  OpenClaim.holds_of_cond 6 Tryz.f6 rfl rfl rfl rfl rfl rfl rfl ⟨rfl, rfl, rfl, rfl, rfl⟩ rfl rfl rfl rfl rfl (by kernel_rfl) Tryz.func6 closed
    (of_decide_eq_true (by kernel_rfl)) (by unfold Func.isWrapper; first | (rw [if_pos (by decide +kernel)]; kernel_rfl) | (rw [if_neg (by decide +kernel)]; exact ⟨rfl, rfl⟩))
    (fun os started H enc _ F => by rw [OpenClaim.pre_eq_preRow]; exact lifted os started H enc F)
theorem plain (f : FuncId) (fn : Func) (hf : Tryz.pinned.checked.prog.funcNamed "roving/rovinglaw27.ImageQuiet" = some f) (hfn : Tryz.pinned.checked.prog.funcs[f]? = some fn) :
    true = Tryz.pinned.checked.prog.looks [] ∧ ∀ (j : Nat) t, fn.params[j]? = some t → Tryz.pinned.checked.prog.wantsStandIn t = false := by
  obtain rfl : f = 6 := Option.some.inj ((show Tryz.prog.funcNamed "roving/rovinglaw27.ImageQuiet" = some 6 by kernel_rfl).symm.trans hf) |>.symm
  obtain rfl : fn = Tryz.f6 := (Option.some.inj (Tryz.func6.symm.trans hfn)).symm
  refine ⟨by kernel_rfl, fun j t ht => ?_⟩
  have hm : t ∈ Tryz.f6.params.toList := by simpa using Array.mem_of_getElem? ht
  have := (List.all_eq_true.1 (show (Tryz.f6.params.toList.all fun t => !Tryz.prog.wantsStandIn t) = true by kernel_rfl)) t hm
  have h4 : Tryz.prog.wantsStandIn t = false := by simpa using this
  exact h4
theorem card : Rows.ImageQuietCardSaid :=
  Claim7.holds_tied_plain_at .later [] _ _ _ _ said (fun _ h => by cases h) (by kernel_rfl) (fun _ h => by cases h) imageQuiet_row_tie rfl ⟨rfl, rfl⟩ (by kernel_rfl) rfl plain (by kernel_rfl)
end Go.Proofs.YtkmfmphpndhkjaaGreatDoor.imageQuiet
