/- code of package disk: 0 of nil, the wrapped number of a refusal. -/
import Derived.Test.YtljhcenfmaiaoaaDoorEr2
import Derived.Test.YtljhcenfmaiaoaaDoorAbsS
namespace Go.Proofs.YtljhcenfmaiaoaaDoor
open Go Go.RowKit
set_option maxRecDepth 100000
set_option linter.unusedVariables false
def Glob (w : World) : Prop := w.cell? ⟨0, 0, none⟩ = some (.iface 92 (.agg #[.pointer (some ⟨1, 61, none⟩)]))
theorem Glob.lt {w : World} (h : Glob w) : 0 < w.heap.size := World.block_lt_of_cell? w _ h
theorem Glob.below {w w' : World} (h : Glob w) (hb : Below w.heap.size w w') : Glob w' := (hb.cell (p := ⟨0, 0, none⟩) h.lt).trans h
theorem codeNil (w : World) : Calls Tryd.prog 33 #[.nilIface] w fun e w' => e = .returned (.int .i64 0) ∧ Below w.heap.size w w' := by
  go_enter Tryd.func33, Tryd.ntmps33
  go_wp2_with fail
  go_ret
  exact ⟨rfl, (Below.refl _ _).alloc (Nat.le_refl _) _⟩
set_option maxHeartbeats 1000000 in
theorem codeR (b o : Nat) (n : Int) (w : World) (hg : Glob w) (hc : w.cell? ⟨b, o + 1, none⟩ = some (.int .i64 n)) (hbl : b < w.heap.size) :
    Calls Tryd.prog 33 #[.iface 74 (.pointer (some ⟨b, o, none⟩))] w fun e w' => e = .returned (.int .i64 n) ∧ Below w.heap.size w w' := by
  have b0 : Below w.heap.size w (w.alloc (.cells #[.int .i64 0] 26)) := (Below.refl _ _).alloc (Nat.le_refl _) _
  have l0 := LiesAt.new w #[.int .i64 0] 26
  have hg0 : Glob (w.alloc (.cells #[.int .i64 0] 26)) := hg.below b0
  go_enter Tryd.func33, Tryd.ntmps33
  go_wp2_with fail
  generalize w.alloc (.cells #[.int .i64 0] 26) = W0 at b0 l0 hg0 ⊢
  refine (asR b o n w.heap.size (.int .i64 0) W0 ((b0.cell (p := ⟨b, o + 1, none⟩) hbl).trans hc) (by have := l0.lt; omega) hg0 (l0.cell 0) (l0.frozen 0) l0.lt).mono ?_
  rintro e w' ⟨rfl, hgr, hcell⟩
  have hb1 : Below w.heap.size w w' := b0.grown hgr b0.size (fun k e => by cases e; exact Nat.le_refl _)
  go_wp2_with fail
  go_ret
  exact ⟨rfl, hb1⟩
theorem one_arg {K : Know} {x : D} {vs : List Value} (h : RepL K [x] vs) : ∃ v, vs = [v] ∧ Rep K x v := by
  have hl := h.1
  match vs, hl with
  | [v], _ => exact ⟨v, rfl, h.2 0 x v rfl rfl⟩
theorem glob_of {K : Know} {w : World} (hB : KLe BaseK K) (hk : KW K w) : Glob w := hk _ _ _ (hB _ _ _ (by unfold BaseK; rw [if_pos ⟨rfl, rfl⟩]))
theorem code_nil : Fun Tryd.prog 33 [.val .nilIface] (int 0) := by
  refine ⟨by kernel_rfl, fun K w vs hB hk hL => ?_⟩
  obtain ⟨v, rfl, hv⟩ := one_arg hL
  cases hv
  refine (codeNil w).mono ?_
  rintro e w' ⟨rfl, hb⟩
  exact ⟨_, K, rfl, Ext.refl _ _, fun b o v h => by rw [← hk b o v h]; exact hb.cell (p := ⟨b, o, none⟩) (by
    rcases Nat.lt_or_ge b w.heap.size with h' | h'
    · exact h'
    · rw [hk.lt h'] at h; cases h), Rep.val _, hb⟩
theorem kw_below {K : Know} {w w' : World} (hk : KW K w) (hb : Below w.heap.size w w') : KW K w' := fun b o v h => by
  rw [← hk b o v h]; exact hb.cell (p := ⟨b, o, none⟩) (by
    rcases Nat.lt_or_ge b w.heap.size with h' | h'
    · exact h'
    · rw [hk.lt h'] at h; cases h)
abbrev errD (s : List UInt8) (n : Int) : D := .iface 74 (.ptr [str s, int n] 0)
theorem code_err (s : List UInt8) (n : Int) : Fun Tryd.prog 33 [errD s n] (int n) := by
  refine ⟨by kernel_rfl, fun K w vs hB hk hL => ?_⟩
  obtain ⟨v, rfl, hv⟩ := one_arg hL
  cases hv with
  | iface hp =>
    cases hp with
    | ptr hl hv h1 hkk =>
      rename_i us b o
      match us, hl with
      | [u1, u2], _ =>
        have h2 := hv 1 (int n) u2 rfl rfl
        cases h2
        have hc := hk _ _ _ (hkk 1 _ rfl)
        refine (codeR b o n w (glob_of hB hk) hc (World.block_lt_of_cell? w _ hc)).mono ?_
        rintro e w' ⟨rfl, hb⟩
        exact ⟨_, K, rfl, Ext.refl _ _, kw_below hk hb, Rep.val _, hb⟩
end Go.Proofs.YtljhcenfmaiaoaaDoor
