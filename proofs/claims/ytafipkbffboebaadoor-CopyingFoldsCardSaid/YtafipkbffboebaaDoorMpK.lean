/- The machine: rows inside rows of one's own become lists; a cell is told in weaker words. -/
import Derived.Test.YtafipkbffboebaaDoorInMb
import Derived.Test.YtafipkbffboebaaDoorEnt
namespace Go.Proofs.YtafipkbffboebaaDoor
open Go Go.RowKit
set_option linter.unusedVariables false
set_option linter.unusedSimpArgs false
/-- A cell in weaker words. -/
theorem Weak.cellLe {σ : St} {id k : Nat} {cs : List CV} {x y : D} (hid : σ.H id = some (.cells cs)) (hk : cs[k]? = some (.d x)) (hle : DLe x y) (hdf : σ.fx.dfs.contains id = false) : Weak σ { σ with H := upd σ.H id (some (.cells (cs.set k (.d y)))) } := by
  intro W0 K0 g a w r
  obtain ⟨b, vs, t, hb, hheap, hr, h1, hn⟩ := r.mem.holds id _ hid
  have hr' : RepCs g σ.H (cs.set k (.d y)) vs := by
    refine ⟨by simp [hr.1], fun j z v hz hv2 => ?_⟩
    rw [List.getElem?_set] at hz
    split at hz
    · rename_i e
      subst e
      split at hz
      · cases hz
        exact hle _ _ (hr.2 _ _ _ hk hv2)
      · cases hz
    · exact hr.2 j z v hz hv2
  obtain ⟨h8, h9⟩ := RelH.write (t := t) r.mem hid hb hheap hn hr' h1
  rw [setRow_self w b vs.toArray t (0, 0) hheap] at h8
  exact ⟨g, h8, fun t => (r.env t).mono h9, r.size, r.defers.mono h9 (fun i o hi => by
    show upd σ.H id _ i = _
    rw [upd_ne _ _ (fun e => by subst e; rw [hid] at hi; cases hi)]; exact hi), r.ln, r.rd, r.nodup, r.lt⟩
end Go.Proofs.YtafipkbffboebaaDoor
