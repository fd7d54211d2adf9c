/- Bodies that come to their value up to a weaker form (nil for an empty list). -/
import Derived.Test.YticbdcpdooahjaaDoorAbsU
namespace Go.Proofs.YticbdcpdooahjaaDoor
open Go Go.RowKit
set_option linter.unusedVariables false
set_option linter.unusedSimpArgs false
def bodyW (P : Program) (rs : List ResultVar) (r : D) : Exit → St → Prop
  | .normal, σ => ∃ r1, retD P σ rs = some r1 ∧ ∀ K v, Rep K r1 v → Rep K r v
  | .ret, σ => ∃ r1, retD P σ rs = some r1 ∧ ∀ K v, Rep K r1 v → Rep K r v
  | _, _ => False
theorem Fun.of_bodyW {P : Program} {f : FuncId} {fn : Func} {c : Code} {args : List D} {r : D} {n : Nat} {rs : Array ResultVar} (hf : P.funcs[f]? = some fn) (hb : fn.body = some c) (hn : (fn.name == "runtime.NumGoroutine") = false) (hnt : fn.ntmps = n) (hrs : fn.results = rs) (hle : args.length ≤ n)
    (h : Wp P c (entry args n) (bodyW P rs.toList r)) : Fun P f args r := by
  subst hnt hrs
  refine ⟨by unfold bodyOk; rw [hf]; simp only [hn, hb]; rfl, fun K w vs hB hk hL => ?_⟩
  have hl := hL.1
  refine callsIn_wide.1 (callsIn_of_wp_marks (F := Fence.wide) (n := 0) hf hb trivial (wpIn_mono (h (Fr.of w K) K ⟨K, fun _ => none, fun _ => 0⟩ _ w ⟨⟨Fr.of_below _ _, Fr.of_ext _ _, hk, ?_, ?_, ?_, ?_, ?_, hB, Fr.of_lent _ _⟩, ?_, ?_, trivial, rfl, rfl, List.nodup_nil, fun _ h => by cases h⟩) ?_))
  · intro id he hid; cases hid
  · intro id b hb; cases hb
  · intro id _; rfl
  · intro i j b hb; cases hb
  · intro i b hb; cases hb
  · intro t
    show RepS _ _ (match args[t]? with | some x => SV.ofD x | none => .c .any) _
    cases ht : args[t]? with
    | none => trivial
    | some x =>
      have hlt : t < vs.length := by have := (List.getElem?_eq_some_iff.1 ht).1; omega
      have hv : (vs.toArray ++ Array.replicate (fn.ntmps - vs.toArray.size) undef).getD t undef = vs[t] := by
        rw [Array.getD_eq_getD_getElem?, Array.getElem?_append_left (by simpa using hlt)]
        simp [hlt]
      rw [hv]
      exact ofD_rep (hL.2 t x _ ht (List.getElem?_eq_getElem hlt)) _ _ rfl
  · show _ = fn.ntmps
    simp; omega
  · rintro e a' w' ⟨g', σ', hr, hQ⟩
    have fin : (∃ r1, retD P σ' fn.results.toList = some r1 ∧ ∀ K v, Rep K r1 v → Rep K r v) → LeavesInM Fence.wide 0 P fn a'.tmps (fun e w' => ∃ v K', e = .returned v ∧ Ext K K' w.heap.size ∧ KW K' w' ∧ Rep K' r v ∧ Below w.heap.size w w') a'.defers .returning w' := by
      rintro ⟨r1, hret, hw⟩
      refine leaves _ _ g' σ' a' w' hr rfl rfl (fun g2 H2 a2 w2 hr2 hag ht => ?_)
      obtain ⟨v, hv, hd⟩ := results_sound hr2 (fn := fn) (by rw [hag.retD]; exact hret)
      rw [ht] at hv
      exact ⟨v, hv, v, g2.K, rfl, hr2.mem.ext.of, hr2.mem.kw, hw _ _ hd, hr2.mem.below.of⟩
    cases e with
    | normal => exact fin hQ
    | ret => exact fin hQ
    | _ => exact hQ.elim
end Go.Proofs.YticbdcpdooahjaaDoor
