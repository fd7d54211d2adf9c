/- From walks of code, of errors.Is: contracts over plain data. -/
import Derived.Test.YticbdcpdooahjaaDoorErC
namespace Go.Proofs.YticbdcpdooahjaaDoor
open Go.RowKit Go.Extern.Stop Go.Stop Go.Extern
set_option maxRecDepth 100000
set_option linter.unusedVariables false
set_option linter.unusedSimpArgs false
def Glob (w : World) : Prop := w.cell? ⟨0, 0, none⟩ = some (.iface 211 (.agg #[.pointer (some ⟨1, 103, none⟩)]))
theorem Glob.lt {w : World} (h : Glob w) : 0 < w.heap.size := World.block_lt_of_cell? w _ h
theorem Glob.below {w w' : World} (h : Glob w) (hb : Below w.heap.size w w') : Glob w' := (hb.cell (p := ⟨0, 0, none⟩) h.lt).trans h
theorem one_arg {K : Know} {x : D} {vs : List Value} (h : RepL K [x] vs) : ∃ v, vs = [v] ∧ Rep K x v := by
  have hl := h.1
  match vs, hl with
  | [v], _ => exact ⟨v, rfl, h.2 0 x v rfl rfl⟩
theorem two_args {K : Know} {x y : D} {vs : List Value} (h : RepL K [x, y] vs) : ∃ v u, vs = [v, u] ∧ Rep K x v ∧ Rep K y u := by
  have hl := h.1
  match vs, hl with
  | [v, u], _ => exact ⟨v, u, rfl, h.2 0 x v rfl rfl, h.2 1 y u rfl rfl⟩
theorem glob_of {K : Know} {w : World} (hB : KLe BaseK K) (hk : KW K w) : Glob w := hk _ _ _ (hB _ _ _ (by unfold BaseK; rw [if_pos ⟨rfl, rfl⟩]))
theorem kw_below {K : Know} {w w' : World} (hk : KW K w) (hb : Below w.heap.size w w') : KW K w' := fun b o v h => by
  rw [← hk b o v h]; exact hb.cell (p := ⟨b, o, none⟩) (by
    rcases Nat.lt_or_ge b w.heap.size with h' | h'
    · exact h'
    · rw [hk.lt h'] at h; cases h)
theorem code_nil_of {f : Nat} (hf : bodyOk Tryd.prog f = true) (h : ∀ w, Calls Tryd.prog f #[.nilIface] w fun e w' => e = .returned (.int .i64 0) ∧ Below w.heap.size w w') : Fun Tryd.prog f [.val .nilIface] (int 0) := by
  refine ⟨hf, fun K w vs hB hk hL => ?_⟩
  obtain ⟨v, rfl, hv⟩ := one_arg hL
  cases hv
  refine (h w).mono ?_
  rintro e w' ⟨rfl, hb⟩
  exact ⟨_, K, rfl, Ext.refl _ _, kw_below hk hb, Rep.val _, hb⟩
theorem errD_inv {T : Nat} {K : Know} {x : D} {n : Int} {v : Value} (h : Rep K (.iface T (.ptr [x, int n] 0)) v) : ∃ b o, v = .iface T (.pointer (some ⟨b, o, none⟩)) ∧ K b (o + 1) = some (.int .i64 n) := by
  cases h with
  | iface hp =>
    cases hp with
    | ptr hl hv h1 hkk =>
      rename_i us b o
      match us, hl with
      | [u1, u2], _ =>
        have h2 := hv 1 (int n) u2 rfl rfl
        cases h2
        exact ⟨b, o, rfl, hkk 1 _ rfl⟩
theorem code_err_of {T f : Nat} {n : Int} (hf : bodyOk Tryd.prog f = true) (h : ∀ (b o : Nat) (n : Int) (w : World), Glob w → w.cell? ⟨b, o + 1, none⟩ = some (.int .i64 n) → b < w.heap.size →
    Calls Tryd.prog f #[.iface T (.pointer (some ⟨b, o, none⟩))] w fun e w' => e = .returned (.int .i64 n) ∧ Below w.heap.size w w') (x : D) : Fun Tryd.prog f [.iface T (.ptr [x, int n] 0)] (int n) := by
  refine ⟨hf, fun K w vs hB hk hL => ?_⟩
  obtain ⟨v, rfl, hv⟩ := one_arg hL
  obtain ⟨b, o, rfl, hkk⟩ := errD_inv hv
  have hc := hk _ _ _ hkk
  refine (h b o n w (glob_of hB hk) hc (World.block_lt_of_cell? w _ hc)).mono ?_
  rintro e w' ⟨rfl, hb⟩
  exact ⟨_, K, rfl, Ext.refl _ _, kw_below hk hb, Rep.val _, hb⟩
theorem is_err {T fU : Nat} (hT : ErrT T fU) (x : D) (n m : Int) : Fun Tryd.prog 111 [.iface T (.ptr [x, int n] 0), .iface 28 (int m)] (boo (n == m)) := by
  refine ⟨by kernel_rfl, fun K w vs hB hk hL => ?_⟩
  obtain ⟨v, u, rfl, hv, hu⟩ := two_args hL
  obtain ⟨b, o, rfl, hkk⟩ := errD_inv hv
  cases hu with
  | iface hu =>
    cases hu
    refine (isR hT b o n m w (hk _ _ _ hkk)).mono ?_
    rintro e w' ⟨rfl, rfl⟩
    exact ⟨_, K, rfl, Ext.refl _ _, hk, Rep.val _, Below.refl _ _⟩
end Go.Proofs.YticbdcpdooahjaaDoor
