/- Package inline: reach, open, fits, impossible. -/
import Derived.Test.YtafipkbffboebaaDoorEnt
import Derived.Test.YtafipkbffboebaaDoorErIn
namespace Go.Proofs.YtafipkbffboebaaDoor
open Go Go.RowKit
set_option maxHeartbeats 4000000
set_option maxRecDepth 100000
set_option linter.unusedVariables false
set_option linter.unusedSimpArgs false
theorem any_take_in {α : Type} (p : α → Bool) (l : List α) (k : Nat) (h : k < l.length) : (l.take (k + 1)).any p = ((l.take k).any p || p l[k]) := by
  rw [List.take_succ_eq_append_getElem h, List.any_append]; simp
theorem reach_fun (l : List OpenD) (f : Nat) (caps : List D) (pr : OpenD → Bool) (hl : l.length ≤ 100000) (hf : ∀ x ∈ l, Fun Tryd.prog f (.agg x.dv :: caps) (boo (pr x))) :
    Fun Tryd.prog 105 [.lst 3 (l.map OpenD.dv), .fn (.func f) caps] (int (l.findIdx pr : Nat)) := by
  (refine Fun.of_body Tryd.func105 rfl rfl Tryd.ntmps105 Tryd.results105 (by simp) ?_)
  (refine gO0 ?_; try (with_reducible exact True.intro))
  refine Wp.loop (fun k : Nat => ⟨ofL [(0, .c (.d (.lst 3 (l.map OpenD.dv)))), (1, .c (.d (.fn (.func f) caps))), (7, .c (.d (.lst 3 (l.map OpenD.dv)))), (8, vi .i64 l.length), (9, vi .i64 k)], ofH [], 0, 21, 0⟩) (fun k => k ≤ l.length ∧ (l.take k).any pr = false) (fun k => l.length - k) 0 ⟨Nat.zero_le _, rfl⟩ ?_ ?_
  · refine Weak.keep rfl rfl ?_
    (refine rO0 ?_; try (with_reducible exact True.intro))
  rintro k ⟨hk, hall⟩
  (refine gO0 ?_; try (with_reducible exact True.intro))
  refine Wp.cond (by (refine rO0 ?_; try (with_reducible exact True.intro)); rfl) (fun h => ?_) (fun h => ?_)
  · have hlt : k < l.length := by simpa using h
    have c1 := hf l[k] (List.getElem_mem hlt)
    have hs := any_take_in pr l k hlt
    have hix : pr l[k] = true → l.findIdx pr = k := fun hp => by
      rw [List.findIdx_eq hlt]
      refine ⟨hp, fun j hj => ?_⟩
      have := List.any_eq_false.1 hall (l[j]) (by rw [List.mem_take_iff_getElem]; exact ⟨j, by omega, rfl⟩)
      simpa using this
    have hge : l[k]? = some l[k] := List.getElem?_eq_getElem hlt
    generalize l[k] = p at *
    simp only [OpenD.dv] at c1
    (refine gO (And.intro hge (@OpenD.dv.eq_1)) ?_; try (with_reducible exact True.intro))
    refine Wp.cond (by (refine rO0 ?_; try (with_reducible exact True.intro)); rfl) (fun h => ?_) (fun h => ?_)
    · have h1 := hix h
      (refine gO0 ?_; try (with_reducible exact True.intro))
      (refine rO (h1) ?_; try (with_reducible exact True.intro))
    · (refine gO0 ?_; try (with_reducible exact True.intro))
      refine ⟨k + 1, ⟨by omega, by rw [hs, hall, h]; rfl⟩, by omega, Weak.keep rfl rfl ?_⟩
      (refine rO0 ?_; try (with_reducible exact True.intro))
  · have hall : l.any pr = false := by
      rw [List.take_of_length_le (by simp only [decide_eq_false_iff_not] at h; omega)] at hall; exact hall
    have hix : l.findIdx pr = l.length := List.findIdx_eq_length.2 (fun x hx => by have := List.any_eq_false.1 hall x hx; simpa using this)
    (refine gO0 ?_; try (with_reducible exact True.intro))
    (refine rO (hix) ?_; try (with_reducible exact True.intro))
theorem openGe_fun (o : OpenD) (pid : Int) : Fun Tryd.prog 106 [.agg o.dv, .ptr [int pid] 0] (boo (decide (pid ≤ o.pid))) := by
  (refine Fun.of_body Tryd.func106 rfl rfl Tryd.ntmps106 Tryd.results106 (by simp) ?_)
  (refine gO (@OpenD.dv.eq_1) ?_; try (with_reducible exact True.intro))
  (refine rO0 ?_; try (with_reducible exact True.intro))
/-- Where a producer's open transaction stands, or would; is there one? -/
def openI (l : List OpenD) (pid : Int) : Nat := l.findIdx (fun x => decide (pid ≤ x.pid))
def openB (l : List OpenD) (pid : Int) : Bool := match l[openI l pid]? with
  | some o => o.pid == pid
  | none => false
theorem openI_le (l : List OpenD) (pid : Int) : openI l pid ≤ l.length := List.findIdx_le_length
abbrev partP (p : PartD) : D := .ptr p.dv 0
theorem open_fun (p : PartD) (pid : Int) (hl : p.opens.length ≤ 100000) : Fun Tryd.prog 81 [partP p, int pid] (.tup [int (openI p.opens pid : Nat), boo (openB p.opens pid)]) := by
  have c1 := reach_fun p.opens 106 [.ptr [int pid] 0] (fun x => decide (pid ≤ x.pid)) hl (fun x _ => openGe_fun x pid)
  have hle := openI_le p.opens pid
  unfold openB
  change Fun _ _ _ (int (openI p.opens pid : Nat)) at c1
  generalize openI p.opens pid = i at *
  (refine Fun.of_body Tryd.func81 rfl rfl Tryd.ntmps81 Tryd.results81 (by simp) ?_)
  (refine gO (@PartD.dv.eq_1) ?_; try (with_reducible exact True.intro))
  (refine Wp.weak (Weak.freeze (id := 0) (by (refine rO0 ?_; try (with_reducible exact True.intro)); rfl) (by (refine rO0 ?_; try (with_reducible exact True.intro)); rfl)) ?_)
  cases hg : p.opens[i]? with
  | none =>
    have hi : i = p.opens.length := by
      have := List.getElem?_eq_none_iff.1 hg; omega
    have d1 : decide ((i : Int) < (p.opens.length : Int)) = false := decide_eq_false (by omega)
    (refine gO (And.intro @PartD.dv.eq_1 (d1)) ?_; try (with_reducible exact True.intro))
    (refine rO0 ?_; try (with_reducible exact True.intro))
  | some o =>
    have hlt := (List.getElem?_eq_some_iff.1 hg).1
    have d1 : decide ((i : Int) < (p.opens.length : Int)) = true := decide_eq_true (by omega)
    (refine gO (And.intro @PartD.dv.eq_1 (And.intro d1 (And.intro hg (@OpenD.dv.eq_1)))) ?_; try (with_reducible exact True.intro))
    (refine rO0 ?_; try (with_reducible exact True.intro))
theorem fits_fun (p : PartD) (n : Int) : Fun Tryd.prog 60 [partP p, int n] (boo (decide (p.fin ≤ IntKind.i64.wrap (1048576 - n)))) := by
  (refine Fun.of_body Tryd.func60 rfl rfl Tryd.ntmps60 Tryd.results60 (by simp) ?_)
  (refine gO (@PartD.dv.eq_1) ?_; try (with_reducible exact True.intro))
  (refine rO0 ?_; try (with_reducible exact True.intro))
theorem impos_fun (s : List UInt8) : Fun Tryd.prog 61 [str s] (err_inline (str s) 70) := by
  (refine Fun.of_body Tryd.func61 rfl rfl Tryd.ntmps61 Tryd.results61 (by simp) ?_)
  (refine gO0 ?_; try (with_reducible exact True.intro))
  (refine rO0 ?_; try (with_reducible exact True.intro))
end Go.Proofs.YtafipkbffboebaaDoor
