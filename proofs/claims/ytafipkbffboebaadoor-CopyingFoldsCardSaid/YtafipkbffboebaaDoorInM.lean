/- The abstract machine (InC, InX, InY, InZ, InZb, InZc, InZd, InZe). -/
import Derived.Test.YtafipkbffboebaaDoorInB
import Derived.Test.YtafipkbffboebaaDoorMpH
import Derived.Test.YtafipkbffboebaaDoorSqM
import Derived.Lib.SliceRun
import Derived.Lib.Overlaps
import Derived.Deep.RegionLaw
import Derived.Laws.CopyRow
import Derived.Laws.IdiomCopy
import Derived.WalkKit
import Derived.Shelf.Spec.SlicesInsert
import Derived.Shelf.Spec.SlicesInsertGrow
namespace Go.Proofs.YtafipkbffboebaaDoor
open Go Go.RowKit
set_option maxHeartbeats 4000000
set_option maxRecDepth 100000
set_option linter.unusedVariables false
set_option linter.unusedSimpArgs false
/-- A part, and how often its rows were written: the rows, the open transactions, each one's batches. -/
structure FoldS where
  p : PartD
  vr : Nat
  vo : Nat
  vt : Nat → Nat
def PidOk (l : List OpenD) : Prop := ∀ o ∈ l, 1 ≤ o.pid ∧ o.pid ≤ 8
theorem ids_plain : ∀ (ds : List D), (ds.map CV.d).flatMap CV.ids = []
  | [] => rfl
  | d :: ds => by rw [List.map_cons, List.flatMap_cons, ids_plain ds]; rfl
theorem chunk_flat {α : Type} (sz : Nat) : ∀ (xs : List (List α)), (∀ x ∈ xs, x.length = sz) → chunk sz xs.length xs.flatten = xs
  | [], _ => rfl
  | x :: xs, h => by
    have h1 := h x (List.mem_cons_self ..)
    show (x ++ xs.flatten).take sz :: chunk sz xs.length ((x ++ xs.flatten).drop sz) = _
    rw [List.take_left' h1, List.drop_left' h1, chunk_flat sz xs (fun y hy => h y (List.mem_cons_of_mem _ hy))]
theorem mapO_plain (f : CV → Option D) (hf : ∀ d, f (.d d) = some d) : ∀ ds : List D, mapO f (ds.map CV.d) = some ds
  | [] => rfl
  | d :: ds => by simp only [List.map_cons, mapO, hf, mapO_plain f hf ds]
theorem snap_d (H : Hp) : ∀ (k : Nat) (d : D), CV.snap H k (.d d) = some d
  | 0, _ => rfl
  | _ + 1, _ => rfl
/-- A row of plain structs, as it is now. -/
theorem snap_plain {H : Hp} {k τ n e sz : Nat} (xs : List (List D)) (hs : 0 < sz) (hx : ∀ x ∈ xs, x.length = sz) (hτ : H τ = some (.mrow e sz n (xs.flatten.map CV.d))) : CV.snap H (k + 1) (.mt τ n) = some (.lst sz xs) := by
  have hm := mapO_plain (CV.snap H k) (snap_d H k) xs.flatten
  simp only [CV.snap, hτ, if_true, hm]
  rw [List.length_map, flat_len hx, Nat.mul_div_cancel _ hs, chunk_flat sz xs hx]
structure OpOk (l : List OpenD) : Prop where
  pid : PidOk l
  rise : l.Pairwise (fun a b => a.pid < b.pid)
abbrev entV (e : EntD) : SV := .agg (e.dv.map CV.d)
end Go.Proofs.YtafipkbffboebaaDoor
namespace Go.Proofs.YtafipkbffboebaaDoor
open Go Go.RowKit Go.Lib
set_option maxHeartbeats 4000000
set_option maxRecDepth 100000
set_option linter.unusedVariables false
set_option linter.unusedSimpArgs false
end Go.Proofs.YtafipkbffboebaaDoor
namespace Go.Proofs.YtafipkbffboebaaDoor
open Go Go.RowKit
set_option maxHeartbeats 4000000
set_option maxRecDepth 100000
set_option linter.unusedVariables false
set_option linter.unusedSimpArgs false
theorem RepCs.take {g : G} {H : Hp} {cs : List CV} {vs : List Value} (h : RepCs g H cs vs) (n : Nat) : RepCs g H (cs.take n) (vs.take n) :=
  ⟨by simp [h.1], fun j x v hx hv => by
    rw [List.getElem?_take] at hx hv
    split at hx
    · rename_i hlt; rw [if_pos hlt] at hv; exact h.2 j x v hx hv
    · cases hx⟩
theorem RepCs.drop {g : G} {H : Hp} {cs : List CV} {vs : List Value} (h : RepCs g H cs vs) (n : Nat) : RepCs g H (cs.drop n) (vs.drop n) :=
  ⟨by simp [h.1], fun j x v hx hv => by
    rw [List.getElem?_drop] at hx hv
    exact h.2 _ x v hx hv⟩
end Go.Proofs.YtafipkbffboebaaDoor
namespace Go.Proofs.YtafipkbffboebaaDoor
open Go Go.RowKit Go.Lib
set_option maxHeartbeats 4000000
set_option maxRecDepth 100000
set_option linter.unusedVariables false
set_option linter.unusedSimpArgs false
end Go.Proofs.YtafipkbffboebaaDoor
namespace Go.Proofs.YtafipkbffboebaaDoor
open Go Go.RowKit Go.Lib
set_option maxHeartbeats 4000000
set_option maxRecDepth 100000
set_option linter.unusedVariables false
set_option linter.unusedSimpArgs false
end Go.Proofs.YtafipkbffboebaaDoor
namespace Go.Proofs.YtafipkbffboebaaDoor
open Go Go.RowKit Go.Lib
set_option maxHeartbeats 4000000
set_option maxRecDepth 100000
set_option linter.unusedVariables false
set_option linter.unusedSimpArgs false
end Go.Proofs.YtafipkbffboebaaDoor
namespace Go.Proofs.YtafipkbffboebaaDoor
open Go Go.RowKit
set_option maxHeartbeats 4000000
set_option maxRecDepth 100000
set_option linter.unusedVariables false
set_option linter.unusedSimpArgs false
/-- A row of one's own is given up: it begins anew. -/
theorem RelH.mreset {W0 : Fr} {K0 : Know} {g : G} {H : Hp} {w : World} {τ e sz n : Nat} {cs : List CV} (hh : RelH W0 K0 g H w) (hτ : H τ = some (.mrow e sz n cs)) (n' : Nat) (hn : n < n') :
    RelH W0 K0 ⟨g.K, upd g.β τ none, upd g.cap τ (g.cap τ)⟩ (upd H τ (some (.mrow e sz n' []))) w ∧ GLe g H ⟨g.K, upd g.β τ none, upd g.cap τ (g.cap τ)⟩ (upd H τ (some (.mrow e sz n' []))) := by
  obtain ⟨hs0, _, _⟩ := hh.holds τ _ hτ
  exact hh.mchg (w' := w) hτ e sz n' [] hn none (g.cap τ) hh.below hh.kw (fun _ _ _ _ => rfl) (fun b hb => by cases hb) (fun i b hne hi q => by cases q) (fun b hb => by cases hb) (Nat.le_refl _) (fun hle => ⟨hs0, Nat.zero_mod _, .inl ⟨upd_same _ _ _, rfl⟩⟩)
def FoldS.ins (s : FoldS) (i : Nat) (pid epoch : Int) : FoldS :=
  { s with p := { s.p with opens := s.p.opens.take i ++ ⟨pid, epoch, []⟩ :: s.p.opens.drop i }, vo := s.vo + 1, vt := fun q => if q = pid.toNat then s.vt q + 1 else s.vt q }
theorem PidOk.ins {l : List OpenD} (h : PidOk l) (i : Nat) {o : OpenD} (ho : 1 ≤ o.pid ∧ o.pid ≤ 8) : PidOk (l.take i ++ o :: l.drop i) := fun x hx => by
  rcases List.mem_append.1 hx with hx | hx
  · exact h x (List.mem_of_mem_take hx)
  · rcases List.mem_cons.1 hx with rfl | hx
    · exact ho
    · exact h x (List.mem_of_mem_drop hx)
end Go.Proofs.YtafipkbffboebaaDoor
namespace Go.Proofs.YtafipkbffboebaaDoor
open Go Go.RowKit
set_option maxHeartbeats 4000000
set_option maxRecDepth 100000
set_option linter.unusedVariables false
set_option linter.unusedSimpArgs false
end Go.Proofs.YtafipkbffboebaaDoor
