/- maps.Clone, at map[string]int. -/
import Derived.Test.YtdpfjdkjimaocaaDoorRmB
import Derived.Test.YtdpfjdkjimaocaaDoorProg
import Derived.WalkKit
import Derived.WalkSpells
import Derived.WalkLawsBesides
import Derived.Laws.Externs
import Derived.MapKept
namespace Go.Proofs.YtdpfjdkjimaocaaDoor
open Go Go.RowKit
set_option maxHeartbeats 4000000
set_option maxRecDepth 100000
set_option linter.unusedVariables false
set_option linter.unusedSimpArgs false
theorem eqlIn_map_nil (w : World) (d : Nat) (t k e : TypeId) (p : Option Nat) (h : Tryd.prog.underlying t = some (.map k e)) : (Op.equalIn (d + 1) t (.map p) (.map none)).run Tryd.prog w = .ok p.isNone w := by
  cases p <;> simp [Op.equalIn, run_underlying h]
theorem eql_map_nil (w : World) (t k e : TypeId) (p : Option Nat) (h : Tryd.prog.underlying t = some (.map k e)) : (binOp .eql t (.map p) (.map none)).run Tryd.prog w = .ok (.bool p.isNone) w := by
  simp only [binOp]
  simp [show Op.equal t (.map p) (.map none) = Op.equalIn (9999 + 1) t (.map p) (.map none) from rfl, eqlIn_map_nil w 9999 t k e p h]
theorem ta_map (w : World) (t xT k e : TypeId) (v : Value) (h : Tryd.prog.underlying t = some (.map k e)) : (Instr.typeAssert (.iface t v) xT t false).run Tryd.prog w = .ok v w := by
  simp [Instr.typeAssert, run_underlying h, go_sem, Result.andThen]
theorem ext_clone (w : World) {r : Nat} {es : Array MapEntry} {clock : Nat} (t : TypeId) (hb : w.heap[r]? = some (.map es clock)) :
    (Extern.MapsClone.clone #[.iface t (.map (some r))]).run Tryd.prog w = .ok (.iface t (.map (some w.heap.size))) (w.alloc (.map es clock)) := by
  have e : Extern.MapsClone.clone #[.iface t (.map (some r))] = (getObj r >>= fun o => match o with
      | .map entries clock => (newObj (.map entries clock) >>= fun n => pure (.iface t (.map (some n))))
      | _ => stuck "maps.clone: a map expected") := rfl
  rw [e]
  simp [MapKept.run_getObj_map hb, Result.andThen, go_sem]
theorem clone_calls (b : Nat) (es : Array MapEntry) (clock : Nat) (w : World) (hb : w.heap[b]? = some (.map es clock)) :
    Calls Tryd.prog 64 #[.map (some b)] w fun e w' => e = .returned (.map (some w.heap.size)) ∧ w' = w.alloc (.map es clock) := by
  have hq := fun w => eql_map_nil w 114 _ _ (some b) map_ty
  go_enter Tryd.func64, Tryd.ntmps64
  go_wp2_with fail
  rw [run_callFunc_extern Tryd.func82 (by kernel_rfl) (by kernel_rfl) (by kernel_rfl) (e := Extern.MapsClone.clone) (by kernel_rfl), ext_clone w 114 hb]
  simp only [Result.andThen]
  rw [Oper.upon_value]
  go_wp2_with fail
  rw [ta_map _ 114 _ _ _ _ map_ty]
  simp only [Result.andThen]
  rw [Oper.upon_value]
  go_wp2_with fail
  go_ret
  exact ⟨rfl, rfl⟩
theorem ofH_two (x y : HE) (i j : Nat) (h : i ≠ j) : upd (ofH [(i, x)]) j (some y) = ofH [(i, x), (j, y)] := by
  funext k
  unfold upd ofH
  simp only [List.lookup_cons, List.lookup_nil]
  by_cases h1 : k = j
  · subst h1
    have e : (k == i) = false := by simpa using Ne.symm h
    simp [e]
  · have e : (k == j) = false := by simpa using h1
    simp only [e, h1, if_false]
theorem clone_map (L : List (Bs × Value)) : FunG Tryd.prog 64 [.c (.mp 0)] [0] (ofH [(0, .smap L)]) (.c (.mp 1000)) [0, 1000] (ofH [(0, .smap L), (1000, .smap L)]) := by
  refine ⟨by kernel_rfl, keys_ofH [(0, .smap L)], keys_ofH [(0, .smap L), (1000, .smap L)], fun i hi => ?_, closed_ofH (by rfl), fun a ha i hi => ?_, fun g w vs hh hargs => ?_⟩
  · simp at hi; subst hi; rfl
  · simp at ha; subst ha; simp [SV.ids, CV.ids] at hi; subst hi; rfl
  · obtain ⟨hl, hr⟩ := hargs
    match vs, hl with
    | [v], _ =>
      have hv := hr 0 _ v rfl rfl
      obtain ⟨b, hb, rfl, _⟩ := hv
      obtain ⟨b', us, ob, hb', hheap, hus, hL, hn⟩ := hh.holds 0 _ (show ofH [(0, HE.smap L)] 0 = some (.smap L) from rfl)
      rw [hb] at hb'; cases hb'
      obtain ⟨hm, _⟩ := hh.newMap (id := 1000) hL rfl
      obtain ⟨es, clock, rfl, _⟩ := hL
      refine (clone_calls b _ clock w hheap).mono ?_
      rintro e w' ⟨rfl, rfl⟩
      rw [ofH_two _ _ _ _ (by decide)] at hm
      exact ⟨_, _, rfl, ⟨w.heap.size, upd_same g.β 1000 _, rfl, rfl⟩, hm⟩
end Go.Proofs.YtdpfjdkjimaocaaDoor
