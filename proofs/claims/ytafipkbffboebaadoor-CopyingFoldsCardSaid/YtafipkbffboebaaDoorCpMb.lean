/- The abstract machine (CpE, CpF, CpH0). -/
import Derived.Test.YtafipkbffboebaaDoorCpMa
import Derived.Test.YtafipkbffboebaaDoorCpD0
namespace Go.Proofs.YtafipkbffboebaaDoor
open Go Go.RowKit
set_option maxHeartbeats 8000000
set_option maxRecDepth 100000
set_option linter.unusedVariables false
set_option linter.unusedSimpArgs false
def bwd_Entry (l : List EntD) : List (List D) := l.reverse.zipIdx.map fun (e, y) => [int ((l.length : Int) - 1 - (y : Int)), .agg e.dv]
theorem bwd_len_Entry (l : List EntD) : (bwd_Entry l).length = l.length := by simp [bwd_Entry]
theorem bwd_get_Entry (l : List EntD) (y : Nat) (e : EntD) (h : l.reverse[y]? = some e) (hy : y < (bwd_Entry l).length) : (bwd_Entry l)[y] = [int ((l.length : Int) - 1 - y), .agg e.dv] := by
  have : (bwd_Entry l)[y]? = some [int ((l.length : Int) - 1 - y), .agg e.dv] := by simp only [bwd_Entry, List.getElem?_map, List.getElem?_zipIdx, h, Option.map_some, Nat.zero_add]
  exact (List.getElem?_eq_some_iff.1 this).2
theorem backward_Entry (l : List EntD) (hl : l.length ≤ 1000000) : SeqF Tryd.prog 96 [.ptr [.lst 18 (l.map EntD.dv)] 0] (bwd_Entry l) := by
  (refine SeqF.of_body Tryd.func96 rfl rfl Tryd.ntmps96 Tryd.results96 (by simp) (fun ks A cont q hL hY => ?_))
  have hlen := bwd_len_Entry l
  (refine gO0 ?_; try (with_reducible exact True.intro))
  refine Wp.loop (fun y : Nat => ⟨ofL [(0, .c (.yld 999)), (1, .c (.d (.ptr [.lst 18 (l.map EntD.dv)] 0))), (3, vi .i64 ((l.length : Int) - 1 - y))], ofHB (A y) [], 1000, 19, ⟨ks, [], false, some q⟩⟩) (fun y => y ≤ l.length ∧ ∀ j, j < y → cont j = true) (fun y => l.length - y) 0 ⟨Nat.zero_le _, fun j hj => by omega⟩ ?_ ?_
  · refine Weak.keepB (A := A) hL 0 rfl rfl (baseIs_refl _) rfl ?_
    (refine rO0 ?_; try (with_reducible exact True.intro))
    simp
  rintro y ⟨hy, hc⟩
  (refine gO0 ?_; try (with_reducible exact True.intro))
  refine Wp.cond (by (refine rO0 ?_; try (with_reducible exact True.intro)); rfl) (fun h => ?_) (fun h => ?_)
  · have hlt : y < l.length := by simp only [decide_eq_true_eq] at h; omega
    have hi : ((l.length : Int) - 1 - y).toNat = l.length - 1 - y := by omega
    have hp : ((0 : Int) ≤ (l.length : Int) - 1 - y) = True := by simp; omega
    have hg : l[l.length - 1 - y]? = some (l[l.length - 1 - y]'(by omega)) := List.getElem?_eq_getElem (by omega)
    have hYy := hY y (by omega) hc
    have hrev : l.reverse[y]? = some (l[l.length - 1 - y]'(by omega)) := by rw [List.getElem?_reverse hlt, hg]
    rw [bwd_get_Entry l y _ hrev] at hYy
    generalize l[l.length - 1 - y]'(by omega) = e at *
    simp only [EntD.dv] at hYy
    refine Wp.skip ?_
    refine Wp.seq ?_
    refine Wp.block ?_
    ((first | refine Wp.regY 6 rfl (fun K hK => ?_) | (refine Wp.seq ?_; refine Wp.regY 6 rfl (fun K hK => ?_))); (refine rO (And.intro hi (And.intro hp (And.intro hg (@EntD.dv.eq_1)))) ?_; try (with_reducible exact True.intro)); refine hK _ ?_; clear hK K; refine YAt.of hL rfl rfl rfl rfl hYy (by ((repeat refine (baseIs_upd (by omega)).2 ?_); first | exact baseIs_refl _ | exact baseIs_ofHB rfl)) (by (refine rO (And.intro hi (And.intro hp (And.intro hg (@EntD.dv.eq_1)))) ?_; try (with_reducible exact True.intro))) (by (refine rO (And.intro hi (And.intro hp (And.intro hg (@EntD.dv.eq_1)))) ?_; try (with_reducible exact True.intro))) (by (refine rO (And.intro hi (And.intro hp (And.intro hg (@EntD.dv.eq_1)))) ?_; try (with_reducible exact True.intro))) ?_; (refine rO (And.intro hi (And.intro hp (And.intro hg (And.intro @EntD.dv.eq_1 (hL.rb))))) ?_; try (with_reducible exact True.intro)))
    refine Wp.cond (by (refine rO0 ?_; try (with_reducible exact True.intro)); rfl) (fun h => ?_) (fun h => ?_)
    · have hcy : cont y = false := by simpa using h
      (refine gO0 ?_; try (with_reducible exact True.intro))
      refine ⟨rfl, y + 1, ⟨by omega, fun j hj => hc j (by omega), .inr ⟨by omega, hcy⟩⟩, ?_⟩
      (refine rO0 ?_; try (with_reducible exact True.intro))
      exact baseIs_refl _
    · have hcy : cont y = true := by simpa using h
      (refine gO0 ?_; try (with_reducible exact True.intro))
      refine ⟨y + 1, ⟨by omega, fun j hj => ?_⟩, by omega, ?_⟩
      · rcases Nat.lt_or_ge j y with h1 | h1
        · exact hc j h1
        · obtain rfl : j = y := by omega
          exact hcy
      refine Weak.keepB (A := A) (L := [(0, .c (.yld 999)), (1, .c (.d (.ptr [.lst 18 (l.map EntD.dv)] 0))), (3, vi .i64 ((l.length : Int) - 1 - (y + 1 : Nat)))]) (M := []) (fx := ⟨ks, [], false, some q⟩) hL (y + 1) rfl rfl (baseIs_refl _) rfl ?_
      have e : (l.length : Int) - 1 - (y : Int) - 1 = (l.length : Int) - 1 - ((y : Int) + 1) := by omega
      (refine rO (e) ?_; try (with_reducible exact True.intro))
  · have hyl : y = l.length := by simp only [decide_eq_false_iff_not] at h; omega
    subst hyl
    (refine gO0 ?_; try (with_reducible exact True.intro))
    refine ⟨rfl, l.length, ⟨by omega, fun j hj => hc j (by omega), .inl ⟨by omega, hc⟩⟩, ?_⟩
    (refine rO0 ?_; try (with_reducible exact True.intro))
    exact baseIs_refl _
theorem Backward_Entry (l : List EntD) : Fun Tryd.prog 62 [.lst 18 (l.map EntD.dv)] (.fn (.func 96) [.ptr [.lst 18 (l.map EntD.dv)] 0]) := by
  (refine Fun.of_body Tryd.func62 rfl rfl Tryd.ntmps62 Tryd.results62 (by simp) ?_)
  (refine gO0 ?_; try (with_reducible exact True.intro))
  (refine Wp.weak (Weak.freeze (id := 0) (by (refine rO0 ?_; try (with_reducible exact True.intro)); rfl) (by (refine rO0 ?_; try (with_reducible exact True.intro)); rfl)) ?_)
  (refine gO0 ?_; try (with_reducible exact True.intro))
  (refine rO0 ?_; try (with_reducible exact True.intro))
def endEB (e : EntD) (pid : Int) : Bool := e.b.pid == pid && (e.kind == 4 || (e.kind == 3 && e.yes))
theorem ends_fun (e : EntD) (pid : Int) : Fun Tryd.prog 63 [.agg e.dv, int pid] (boo (endEB e pid)) := by
  (refine Fun.of_body Tryd.func63 rfl rfl Tryd.ntmps63 Tryd.results63 (by simp) ?_)
  (refine gO (@EntD.dv.eq_1) ?_; try (with_reducible exact True.intro))
  (first | refine Wp.sto 4 (vb (endEB e pid)) ?_ ?_ | refine Wp.rtoS 4 (vb (endEB e pid)) ?_ ?_ | (refine Wp.seq ?_; first | refine Wp.sto 4 (vb (endEB e pid)) ?_ ?_ | refine Wp.rtoS 4 (vb (endEB e pid)) ?_ ?_))
  · unfold endEB
    cases q1 : (e.b.pid == pid) <;> cases q2 : (e.kind == 4) <;> cases q3 : (e.kind == 3) <;> cases q4 : e.yes <;> (((refine rO (And.intro @EntD.dv.eq_1 (And.intro q1 (And.intro q2 (And.intro q3 (q4))))) ?_; try (with_reducible exact True.intro)); (repeat (refine bcf (by assumption) ?_; (refine rO (And.intro @EntD.dv.eq_1 (And.intro q1 (And.intro q2 (And.intro q3 (q4))))) ?_; try (with_reducible exact True.intro))))); all_goals (exact (show okTr _ _ = true by kernel_rfl)))
  (refine gO0 ?_; try (with_reducible exact True.intro))
  (refine rO0 ?_; try (with_reducible exact True.intro))
def copyB (e : EntD) (pid epoch : Int) : Bool := e.kind == 3 && e.b.pid == pid && e.b.epoch == epoch
/-- How many copies stand, of a log that is read backwards. -/
def standR (l : List EntD) (pid epoch : Int) : Nat := (l.takeWhile fun e => !endEB e pid).countP fun e => copyB e pid epoch
theorem tw_stop {α : Type} {p : α → Bool} : ∀ (l : List α) (i : Nat) (e : α), (∀ j (h : j < l.length), j < i → p l[j] = true) → l[i]? = some e → p e = false → l.takeWhile p = l.take i
  | [], i, e, _, he, _ => by simp at he
  | a :: l, 0, e, _, he, hp => by
    simp at he; subst he
    simp [List.takeWhile_cons, hp]
  | a :: l, i + 1, e, hall, he, hp => by
    have h0 := hall 0 (by simp) (by omega)
    simp only [List.getElem_cons_zero] at h0
    rw [List.takeWhile_cons, h0, if_pos rfl, List.take_succ_cons]
    congr 1
    refine tw_stop l i e (fun j h hj => ?_) (by simpa using he) hp
    have := hall (j + 1) (by simpa using h) (by omega)
    simpa using this
theorem tw_all {α : Type} {p : α → Bool} : ∀ (l : List α), (∀ j (h : j < l.length), p l[j] = true) → l.takeWhile p = l
  | [], _ => rfl
  | a :: l, hall => by
    have h0 := hall 0 (by simp)
    simp only [List.getElem_cons_zero] at h0
    rw [List.takeWhile_cons, h0, if_pos rfl, tw_all l (fun j h => by have := hall (j + 1) (by simpa using h); rw [List.getElem_cons_succ] at this; exact this)]
/-- Nothing among the first i is an end. -/
def noEnd (l : List EntD) (pid : Int) (i : Nat) : Prop := ∀ j (h : j < l.length), j < i → endEB l[j] pid = false
theorem stand_take {l : List EntD} {pid epoch : Int} {i : Nat} (h : noEnd l pid i) : standR (l.take i) pid epoch = (l.take i).countP fun e => copyB e pid epoch := by
  unfold standR
  rw [tw_all (l.take i) (fun j hj => by
    have hj' : j < l.length ∧ j < i := by simp only [List.length_take] at hj; omega
    rw [List.getElem_take, h j hj'.1 hj'.2]; rfl)]
theorem stand_next {l : List EntD} {pid epoch : Int} {i : Nat} {e : EntD} (h : noEnd l pid i) (he : l[i]? = some e) :
    standR (l.take (i + 1)) pid epoch = standR (l.take i) pid epoch + (if !endEB e pid && copyB e pid epoch then 1 else 0) ∧ (endEB e pid = true → standR l pid epoch = standR (l.take i) pid epoch) := by
  obtain ⟨hlt, rfl⟩ := List.getElem?_eq_some_iff.1 he
  cases hend : endEB l[i] pid with
  | false =>
    refine ⟨?_, fun h => by cases h⟩
    have h2 : noEnd l pid (i + 1) := fun j hj hji => by
      rcases Nat.lt_or_ge j i with h1 | h1
      · exact h j hj h1
      · obtain rfl : j = i := by omega
        exact hend
    rw [stand_take h2, stand_take h, List.take_succ_eq_append_getElem hlt, List.countP_append]
    simp [List.countP_cons]
  | true =>
    have hs : ∀ l' : List EntD, (∀ j (h' : j < l'.length), j < i → endEB l'[j] pid = false) → l'[i]? = some l[i] → standR l' pid epoch = (l'.take i).countP fun e => copyB e pid epoch := fun l' h1 h2 => by
      unfold standR
      rw [tw_stop l' i l[i] (fun j hj hji => by rw [h1 j hj hji]; rfl) h2 (by rw [hend]; rfl)]
    have e1 := hs l h he
    have e2 := hs (l.take (i + 1)) (fun j hj hji => by rw [List.getElem_take]; exact h j (by simp only [List.length_take] at hj; omega) hji) (by rw [List.getElem?_take, if_pos (by omega)]; exact he)
    rw [List.take_take, Nat.min_eq_left (by omega)] at e2
    rw [stand_take h]
    exact ⟨by rw [e2]; simp, fun _ => e1⟩
abbrev stM (main : List EntD) (pid epoch : Int) (i : Nat) : List (Nat × HE) := [(0, .cells [.d (int pid)]), (1, .cells [.d (int epoch)]), (2, .cells [.d (int (standR (main.reverse.take i) pid epoch : Nat))])]
abbrev stS (main : List EntD) (pid epoch : Int) : St := ⟨ofL [(4, .c (.own 0 0)), (5, .c (.own 1 0)), (7, .c (.own 2 0)), (11, .c (.d (.fn (.func 96) [.ptr [.lst 18 (main.map EntD.dv)] 0])))], ofH (stM main pid epoch 0), 3, 37, 0⟩
def standF (main : List EntD) (pid epoch : Int) : Nat := standR main.reverse pid epoch
theorem standing_fun (main : List EntD) (pid epoch : Int) (hl : main.length ≤ 100000) : Fun Tryd.prog 33 [.lst 18 (main.map EntD.dv), int pid, int epoch] (int (standF main pid epoch : Nat)) := by
  have c1 := Backward_Entry main
  (refine Fun.of_body Tryd.func33 rfl rfl Tryd.ntmps33 Tryd.results33 (by simp) ?_)
  (refine gO0 ?_; try (with_reducible exact True.intro))
  refine Wp.weak (show Weak _ (stS main pid epoch) from Weak.keep rfl rfl ?_) ?_
  · (refine rO (And.intro @stM.eq_1 (And.intro @List.take_zero.{0} (And.intro @standR.eq_1 (And.intro @List.takeWhile_nil.{0} (And.intro @List.countP_nil.{0} (@Int.natCast_zero)))))) ?_; try (with_reducible exact True.intro))
  have hsq := backward_Entry main (by omega)
  have hbl := bwd_len_Entry main
  have hno : ∀ i, i ≤ main.length → (∀ j, j < i → (match main.reverse[j]? with | some e => !endEB e pid | none => true) = true) → noEnd main.reverse pid i := fun i hi hc j hj hji => by
    have := hc j hji
    rw [List.getElem?_eq_getElem hj] at this
    simpa using this
  refine Wp.rangeFunc (xs := bwd_Entry main) rfl rfl hsq 500 (stM main pid epoch) [0, 1, 2] (fun i => match main.reverse[i]? with | some e => !endEB e pid | none => true) (fun _ => .exit 0) rfl (fun _ => rfl) rfl (fun _ => rfl) rfl (fun i id h => by cases h) rfl (fun x hx => by simp only [bwd_Entry, List.mem_map] at hx; obtain ⟨⟨r, _⟩, _, rfl⟩ := hx; rfl) ?_ ?_ ?_
  · intro i hi hc o1
    have hi' : i < main.length := by omega
    have hg : main.reverse[i]? = some (main.reverse[i]'(by simpa using hi')) := List.getElem?_eq_getElem (by simpa using hi')
    rw [bwd_get_Entry main i _ hg]
    obtain ⟨hn1, hn2⟩ := stand_next (epoch := epoch) (hno i (by omega) hc) hg
    have hsl : standR (main.reverse.take i) pid epoch ≤ 100000 := by
      rw [stand_take (hno i (by omega) hc)]
      have := List.countP_le_length (p := fun e => copyB e pid epoch) (l := main.reverse.take i)
      simp only [List.length_take, List.length_reverse] at this
      omega
    simp only [hg]
    generalize main.reverse[i]'(by simpa using hi') = e at *
    have c2 := ends_fun e pid
    simp only [EntD.dv] at c2
    (refine gO (And.intro @stM.eq_1 (And.intro @EntD.dv.eq_1 (And.intro @List.cons_append.{0} (@List.nil_append.{0})))) ?_; try (with_reducible exact True.intro))
    refine ⟨rfl, by (refine rO0 ?_; try (with_reducible exact True.intro)), rfl, fun o2 => ?_⟩
    cases hend : endEB e pid with
    | true =>
      rw [hend] at c2 hn1
      (refine gO0 ?_; try (with_reducible exact True.intro))
      refine ⟨Weak.keep rfl rfl ?_, .inr ⟨rfl, rfl, rfl⟩⟩
      simp only [Bool.not_true, Bool.false_and, Bool.false_eq_true, if_false, Nat.add_zero] at hn1
      (refine rO (And.intro @stM.eq_1 (And.intro @List.cons_append.{0} (And.intro @List.nil_append.{0} (hn1)))) ?_; try (with_reducible exact True.intro))
    | false =>
      rw [hend] at c2 hn1
      simp only [Bool.not_false, Bool.true_and] at hn1
      (refine gO0 ?_; try (with_reducible exact True.intro))
      (first | refine Wp.sto 33 (vb (copyB e pid epoch)) ?_ ?_ | refine Wp.rtoS 33 (vb (copyB e pid epoch)) ?_ ?_ | (refine Wp.seq ?_; first | refine Wp.sto 33 (vb (copyB e pid epoch)) ?_ ?_ | refine Wp.rtoS 33 (vb (copyB e pid epoch)) ?_ ?_))
      · unfold copyB; ((rcases Bool.eq_false_or_eq_true (e.kind == 3) with hL1 | hL1) <;> (rcases Bool.eq_false_or_eq_true (e.b.pid == pid) with hL2 | hL2) <;> (rcases Bool.eq_false_or_eq_true (e.b.epoch == epoch) with hL3 | hL3) <;> (((refine rO (And.intro hL1 (And.intro hL2 (And.intro hL3 (@EntD.dv.eq_1)))) ?_; try (with_reducible exact True.intro)); (repeat (refine bcf (by assumption) ?_; (refine rO (And.intro hL1 (And.intro hL2 (And.intro hL3 (@EntD.dv.eq_1)))) ?_; try (with_reducible exact True.intro))))); all_goals (exact (show okTr _ _ = true by kernel_rfl))))
      refine Wp.cond (by (refine rO0 ?_; try (with_reducible exact True.intro)); rfl) (fun h => ?_) (fun h => ?_)
      · rw [if_pos h] at hn1
        (refine gO0 ?_; try (with_reducible exact True.intro))
        refine ⟨Weak.keep rfl rfl ?_, .inl ⟨rfl, rfl⟩⟩
        (refine rO (And.intro @stM.eq_1 (And.intro @List.cons_append.{0} (And.intro @List.nil_append.{0} (And.intro hn1 (And.intro @Int.natCast_add (@Int.natCast_one)))))) ?_; try (with_reducible exact True.intro))
      · rw [if_neg (by rw [h]; simp)] at hn1
        (refine gO0 ?_; try (with_reducible exact True.intro))
        refine ⟨Weak.keep rfl rfl ?_, .inl ⟨rfl, rfl⟩⟩
        (refine rO (And.intro @stM.eq_1 (And.intro @List.cons_append.{0} (And.intro @List.nil_append.{0} (And.intro hn1 (@Nat.add_zero))))) ?_; try (with_reducible exact True.intro))
  · intro i hi hc hn
    refine ⟨rfl, ?_⟩
    have hi' : i < main.length := by omega
    have hg : main.reverse[i]? = some (main.reverse[i]'(by simpa using hi')) := List.getElem?_eq_getElem (by simpa using hi')
    obtain ⟨hn1, hn2⟩ := stand_next (epoch := epoch) (hno i (by omega) hc) hg
    simp only [hg] at hn
    generalize main.reverse[i]'(by simpa using hi') = e at *
    have hend : endEB e pid = true := by simpa using hn
    have e1 := hn2 hend
    rw [hend] at hn1
    simp only [Bool.not_true, Bool.false_and, Bool.false_eq_true, if_false, Nat.add_zero] at hn1
    (refine gO (And.intro @stM.eq_1 (And.intro @List.cons_append.{0} (And.intro @List.nil_append.{0} (hn1)))) ?_; try (with_reducible exact True.intro))
    (refine rO (And.intro @standF.eq_1 (e1)) ?_; try (with_reducible exact True.intro))
  · intro hc
    have e1 : main.reverse.take (bwd_Entry main).length = main.reverse := List.take_of_length_le (by simp [hbl])
    (refine gO (And.intro @stM.eq_1 (And.intro @List.cons_append.{0} (And.intro @List.nil_append.{0} (e1)))) ?_; try (with_reducible exact True.intro))
    (refine rO (@standF.eq_1) ?_; try (with_reducible exact True.intro))
end Go.Proofs.YtafipkbffboebaaDoor
namespace Go.Proofs.YtafipkbffboebaaDoor
open Go Go.RowKit
set_option maxHeartbeats 8000000
set_option maxRecDepth 100000
set_option linter.unusedVariables false
set_option linter.unusedSimpArgs false
def hitB (o : OpenD) (e : EntD) : Bool := endEB e o.pid && e.b.epoch == o.epoch && e.next == lastF o
def overF (main : List EntD) (o : OpenD) : Bool := main.any (hitB o)
abbrev ovM (main : List EntD) (o : OpenD) (i : Nat) : List (Nat × HE) := [(0, .cells (o.dv.map .d)), (1, .cells [.d (boo ((main.reverse.take i).any (hitB o)))]), (2, .cells [.d (int (lastF o))])]
abbrev ovS (main : List EntD) (o : OpenD) : St := ⟨ofL [(3, .c (.own 0 0)), (4, .c (.own 1 0)), (5, .c (.own 2 0)), (11, .c (.d (.fn (.func 96) [.ptr [.lst 18 (main.map EntD.dv)] 0])))], ofH (ovM main o 0), 3, 32, 0⟩
theorem over_fun (main : List EntD) (o : OpenD) (hl : main.length ≤ 100000) (hs : SmallO o) (hpos : 0 < o.bats.length) : Fun Tryd.prog 32 [.lst 18 (main.map EntD.dv), .agg o.dv] (boo (overF main o)) := by
  have c1 := Backward_Entry main
  have c2 := cpBehind_fun o hs hpos
  simp only [OpenD.dv] at c2
  (refine Fun.of_body Tryd.func32 rfl rfl Tryd.ntmps32 Tryd.results32 (by simp) ?_)
  (refine gO (@OpenD.dv.eq_1) ?_; try (with_reducible exact True.intro))
  refine Wp.weak (show Weak _ (ovS main o) from Weak.keep rfl rfl ?_) ?_
  · (refine rO (And.intro @ovM.eq_1 (And.intro @List.take_zero.{0} (And.intro @List.any_nil.{0} (@OpenD.dv.eq_1)))) ?_; try (with_reducible exact True.intro))
  have hsq := backward_Entry main (by omega)
  have hbl := bwd_len_Entry main
  refine Wp.rangeFunc (xs := bwd_Entry main) rfl rfl hsq 500 (ovM main o) [0, 1, 2] (fun i => match main.reverse[i]? with | some e => !hitB o e | none => true) (fun _ => .ret) rfl (fun _ => rfl) rfl (fun _ => rfl) rfl (fun i id h => by cases h) rfl (fun x hx => by simp only [bwd_Entry, List.mem_map] at hx; obtain ⟨⟨r, _⟩, _, rfl⟩ := hx; rfl) ?_ ?_ ?_
  · intro i hi hc o1
    have hi' : i < main.length := by omega
    have hg : main.reverse[i]? = some (main.reverse[i]'(by simpa using hi')) := List.getElem?_eq_getElem (by simpa using hi')
    rw [bwd_get_Entry main i _ hg]
    have hs2 := any_take_succ (hitB o) main.reverse i (by simpa using hi')
    have hno : (main.reverse.take i).any (hitB o) = false := by
      rw [List.any_eq_false]
      intro x hx
      obtain ⟨j, hj, rfl⟩ := List.getElem_of_mem hx
      have hj2 : j < main.length ∧ j < i := by simp only [List.length_take, List.length_reverse] at hj; omega
      have := hc j hj2.2
      rw [List.getElem?_eq_getElem (by simpa using hj2.1)] at this
      rw [List.getElem_take]
      simpa using this
    simp only [hg]
    generalize main.reverse[i]'(by simpa using hi') = e at *
    have c3 := ends_fun e o.pid
    simp only [EntD.dv] at c3
    (refine gO (And.intro @ovM.eq_1 (And.intro @EntD.dv.eq_1 (And.intro @OpenD.dv.eq_1 (And.intro @List.cons_append.{0} (@List.nil_append.{0}))))) ?_; try (with_reducible exact True.intro))
    refine ⟨rfl, by (refine rO0 ?_; try (with_reducible exact True.intro)), rfl, fun o2 => ?_⟩
    (refine gO (And.intro @EntD.dv.eq_1 (@OpenD.dv.eq_1)) ?_; try (with_reducible exact True.intro))
    (first | refine Wp.sto 31 (vb (hitB o e)) ?_ ?_ | refine Wp.rtoS 31 (vb (hitB o e)) ?_ ?_ | (refine Wp.seq ?_; first | refine Wp.sto 31 (vb (hitB o e)) ?_ ?_ | refine Wp.rtoS 31 (vb (hitB o e)) ?_ ?_))
    · unfold hitB; ((rcases Bool.eq_false_or_eq_true (endEB e o.pid) with hL1 | hL1) <;> (rcases Bool.eq_false_or_eq_true (e.b.epoch == o.epoch) with hL2 | hL2) <;> (rcases Bool.eq_false_or_eq_true (e.next == lastF o) with hL3 | hL3) <;> (((refine rO (And.intro hL1 (And.intro hL2 (And.intro hL3 (And.intro @EntD.dv.eq_1 (@OpenD.dv.eq_1))))) ?_; try (with_reducible exact True.intro)); (repeat (refine bcf (by assumption) ?_; (refine rO (And.intro hL1 (And.intro hL2 (And.intro hL3 (And.intro @EntD.dv.eq_1 (@OpenD.dv.eq_1))))) ?_; try (with_reducible exact True.intro))))); all_goals (exact (show okTr _ _ = true by kernel_rfl))))
    refine Wp.cond (by (refine rO0 ?_; try (with_reducible exact True.intro)); rfl) (fun h => ?_) (fun h => ?_)
    · rw [hno, h] at hs2
      (refine gO (@OpenD.dv.eq_1) ?_; try (with_reducible exact True.intro))
      refine ⟨Weak.keep rfl rfl ?_, .inr ⟨by rw [h]; rfl, rfl, rfl⟩⟩
      (refine rO (And.intro @ovM.eq_1 (And.intro @List.cons_append.{0} (And.intro @List.nil_append.{0} (And.intro hs2 (And.intro @Bool.false_or (@OpenD.dv.eq_1)))))) ?_; try (with_reducible exact True.intro))
    · rw [hno, h] at hs2
      (refine gO0 ?_; try (with_reducible exact True.intro))
      refine ⟨Weak.keep rfl rfl ?_, .inl ⟨rfl, by rw [h]; rfl⟩⟩
      (refine rO (And.intro @ovM.eq_1 (And.intro @List.cons_append.{0} (And.intro @List.nil_append.{0} (And.intro hs2 (And.intro hno (And.intro @Bool.false_or (@OpenD.dv.eq_1))))))) ?_; try (with_reducible exact True.intro))
  · intro i hi hc hn
    refine ⟨rfl, ?_⟩
    have hi' : i < main.length := by omega
    have hg : main.reverse[i]? = some (main.reverse[i]'(by simpa using hi')) := List.getElem?_eq_getElem (by simpa using hi')
    have hs2 := any_take_succ (hitB o) main.reverse i (by simpa using hi')
    have hm : main.reverse[i]'(by simpa using hi') ∈ main := by rw [← List.mem_reverse]; exact List.getElem_mem _
    simp only [hg] at hn
    generalize main.reverse[i]'(by simpa using hi') = e at *
    have hh : hitB o e = true := by simpa using hn
    rw [hh, Bool.or_true] at hs2
    have e1 : overF main o = true := List.any_eq_true.2 ⟨e, hm, hh⟩
    (refine rO (And.intro @ovM.eq_1 (And.intro @List.cons_append.{0} (And.intro @List.nil_append.{0} (And.intro hs2 (And.intro e1 (@OpenD.dv.eq_1)))))) ?_; try (with_reducible exact True.intro))
  · intro hc
    have e1 : (main.reverse.take (bwd_Entry main).length).any (hitB o) = false := by
      rw [List.any_eq_false]
      intro x hx
      obtain ⟨j, hj, rfl⟩ := List.getElem_of_mem hx
      have hj2 : j < main.length := by simp only [List.length_take, List.length_reverse] at hj; omega
      have := hc j (by omega)
      rw [List.getElem?_eq_getElem (by simpa using hj2)] at this
      rw [List.getElem_take]
      simpa using this
    have e2 : overF main o = false := by
      rw [List.take_of_length_le (by simp [hbl]), List.any_reverse] at e1; exact e1
    (refine gO (And.intro @ovM.eq_1 (And.intro @List.cons_append.{0} (And.intro @List.nil_append.{0} (And.intro e1 (@OpenD.dv.eq_1))))) ?_; try (with_reducible exact True.intro))
    (refine rO (e2) ?_; try (with_reducible exact True.intro))
theorem Over_fun (main : List EntD) (o : OpenD) (hl : main.length ≤ 100000) (hs : SmallO o) : Fun Tryd.prog 18 [.lst 18 (main.map EntD.dv), .agg o.dv] (boo (okO o && overF main o)) := by
  have c1 := cpCheck_fun o hs
  simp only [OpenD.dv] at c1
  (refine Fun.of_body Tryd.func18 rfl rfl Tryd.ntmps18 Tryd.results18 (by simp) ?_)
  cases hok : okO o with
  | false =>
    cases hlb : lenBad o <;> (
      simp only [chkD, hok, hlb, if_true, if_false, Bool.false_eq_true] at c1
      (refine gO (@OpenD.dv.eq_1) ?_; try (with_reducible exact True.intro))
      (refine rO (@Bool.false_and) ?_; try (with_reducible exact True.intro)))
  | true =>
    simp only [chkD, hok, if_true] at c1
    have c2 := over_fun main o hl hs (okO_pos hok).1
    simp only [OpenD.dv] at c2
    (refine gO (@OpenD.dv.eq_1) ?_; try (with_reducible exact True.intro))
    (refine rO (@Bool.true_and) ?_; try (with_reducible exact True.intro))
def leftF (main : List EntD) (o : OpenD) : List EntD × Int := if okO o then (if overF main o then ([], 0) else ((cpL o).drop (min (standF main o.pid o.epoch) (cpL o).length), 0)) else ([], 2)
theorem left_fun15 (main : List EntD) (o : OpenD) (hl : main.length ≤ 100000) (hs : SmallO o) : Fun Tryd.prog 17 [.lst 18 (main.map EntD.dv), .agg o.dv] (.tup [.lst 18 ((leftF main o).1.map EntD.dv), int (leftF main o).2]) := by
  have c1 := copies_fun o hs
  have c3 := standing_fun main o.pid o.epoch hl
  (refine Fun.of_bodyW Tryd.func17 rfl rfl Tryd.ntmps17 Tryd.results17 (by simp) ?_)
  cases hok : okO o with
  | false =>
    have e1 : cpF o = ([], 2) := by simp only [cpF, hok]; rfl
    have e2 : leftF main o = ([], 2) := by simp only [leftF, hok]; rfl
    rw [e1] at c1
    rw [e2]
    simp only [OpenD.dv, List.map_nil] at c1
    (refine gO (@OpenD.dv.eq_1) ?_; try (with_reducible exact True.intro))
    (refine rO (@List.map_nil.{0,0}) ?_; try (with_reducible exact True.intro))
    exact ⟨_, rfl, DLe.tup (.cons (.nil 18) (.cons (.refl _) .nil))⟩
  | true =>
    have e1 : cpF o = (cpL o, 0) := by simp only [cpF, hok]; rfl
    rw [e1] at c1
    have c2 := over_fun main o hl hs (okO_pos hok).1
    simp only [OpenD.dv] at c1 c2
    cases hov : overF main o with
    | true =>
      have e2 : leftF main o = ([], 0) := by simp only [leftF, hok, hov]; rfl
      rw [e2]
      rw [hov] at c2
      (refine gO (@OpenD.dv.eq_1) ?_; try (with_reducible exact True.intro))
      (refine rO (@List.map_nil.{0,0}) ?_; try (with_reducible exact True.intro))
      exact ⟨_, rfl, DLe.tup (.cons (.nil 18) (.cons (.refl _) .nil))⟩
    | false =>
      have e2 : leftF main o = ((cpL o).drop (min (standF main o.pid o.epoch) (cpL o).length), 0) := by simp only [leftF, hok, hov]; rfl
      rw [e2]
      rw [hov] at c2
      obtain ⟨n, hn⟩ : ∃ n, n = min (standF main o.pid o.epoch) (cpL o).length := ⟨_, rfl⟩
      have hmin : (if ((cpL o).length : Int) < (standF main o.pid o.epoch : Int) then ((cpL o).length : Int) else (standF main o.pid o.epoch : Int)) = (n : Int) := by split <;> omega
      have hle : n ≤ (cpL o).length := by omega
      rw [← hn]
      have htk : (((cpL o).map EntD.dv).drop n).take ((cpL o).length - n) = ((cpL o).map EntD.dv).drop n := List.take_of_length_le (by simp)
      (refine gO (And.intro @OpenD.dv.eq_1 (And.intro hmin (And.intro hle (htk)))) ?_; try (with_reducible exact True.intro))
      (refine rO (And.intro htk (@List.map_drop.{0,0})) ?_; try (with_reducible exact True.intro))
      exact ⟨_, rfl, fun K v h => h⟩
end Go.Proofs.YtafipkbffboebaaDoor
namespace Go.Proofs.YtafipkbffboebaaDoor
open Go Go.RowKit
set_option maxHeartbeats 8000000
set_option maxRecDepth 100000
set_option linter.unusedVariables false
set_option linter.unusedSimpArgs false
def kv : RecD := ⟨[107], [118]⟩
def b0D : BatD := ⟨2, 1, 0, true, [kv]⟩
def b1D : BatD := ⟨2, 1, 1, true, [kv]⟩
def twoD : OpenD := ⟨2, 1, [b0D, b1D]⟩
def e0D : EntD := ⟨3, b0D, false, 0, 0, rowZ, prodZ⟩
def e1D : EntD := ⟨3, b1D, true, 2, 0, rowZ, prodZ⟩
theorem two_fun : Fun Tryd.prog 16 [] (.agg twoD.dv) := by
  (refine Fun.of_body Tryd.func16 rfl rfl Tryd.ntmps16 Tryd.results16 (by simp) ?_)
  (refine gO0 ?_; try (with_reducible exact True.intro))
  (refine rO (And.intro @OpenD.dv.eq_1 (And.intro @twoD.eq_1 (And.intro @BatD.dv.eq_1 (And.intro @b0D.eq_1 (And.intro @b1D.eq_1 (And.intro @RecD.dv.eq_1 (And.intro @kv.eq_1 (And.intro @List.map_cons.{0,0} (@List.map_nil.{0,0}))))))))) ?_; try (with_reducible exact True.intro))
theorem two_small : SmallO twoD := ⟨by decide, by decide⟩
theorem wakes15_fun : Fun Tryd.prog 6 [] (boo true) := by
  have c1 := two_fun
  have c2 := copies_fun twoD two_small
  have c3 := left_fun15 [e0D] twoD (by decide) two_small
  have c4 := (left_fun15 [] twoD (by decide) two_small).args (.cons (.nil 18) (.refl [.agg twoD.dv]))
  have c5 := Over_fun [e0D, e1D] twoD (by decide) two_small
  have q2 : cpF twoD = ([e0D, e1D], 0) := by decide +kernel
  have q3 : leftF [e0D] twoD = ([e1D], 0) := by decide +kernel
  have q4 : leftF [] twoD = ([e0D, e1D], 0) := by decide +kernel
  have q5 : (okO twoD && overF [e0D, e1D] twoD) = true := by decide +kernel
  rw [q2] at c2
  rw [q3] at c3
  rw [q4] at c4
  rw [q5] at c5
  simp only [OpenD.dv, twoD, BatD.dv, b0D, b1D, RecD.dv, kv, List.map_cons, List.map_nil, EntD.dv, e0D, e1D, rowZ, prodZ] at c1 c2 c3 c4 c5
  (refine Fun.of_body Tryd.func6 rfl rfl Tryd.ntmps6 Tryd.results6 (by simp) ?_)
  (refine gO (And.intro @OpenD.dv.eq_1 (And.intro @twoD.eq_1 (And.intro @BatD.dv.eq_1 (And.intro @EntD.dv.eq_1 (And.intro @Int.cast_ofNat_Int (And.intro @List.take_succ_cons.{0} (And.intro @List.take_zero.{0} (@List.drop_zero.{0})))))))) ?_; try (with_reducible exact True.intro))
  (refine rO0 ?_; try (with_reducible exact True.intro))
def entOf (b : BatD) : EntD := ⟨0, b, false, 0, 0, rowZ, prodZ⟩
def gOpen (o : OpenD) : Bool := decide (40 < (o.bats.length : Int)) || o.bats.any (fun b => gEnt (entOf b))
theorem gOpen_fun (o : OpenD) : Fun Tryd.prog 5 [.agg o.dv] (boo (gOpen o)) := by
  (refine Fun.of_body Tryd.func5 rfl rfl Tryd.ntmps5 Tryd.results5 (by simp) ?_)
  (refine gO (@OpenD.dv.eq_1) ?_; try (with_reducible exact True.intro))
  refine Wp.cond (by (refine rO0 ?_; try (with_reducible exact True.intro)); rfl) (fun h => ?_) (fun h => ?_)
  · have hf : gOpen o = true := by simp only [gOpen, h, Bool.true_or]
    (refine gO0 ?_; try (with_reducible exact True.intro))
    (refine rO (hf) ?_; try (with_reducible exact True.intro))
  have h1 := h
  have hl : o.bats.length ≤ 40 := by simp only [decide_eq_false_iff_not] at h; omega
  (refine gO (@OpenD.dv.eq_1) ?_; try (with_reducible exact True.intro))
  refine Wp.loop (fun k : Nat => ⟨ofL [(1, .c (.own 0 0)), (10, .c (.d (.lst 5 (o.bats.map BatD.dv)))), (11, vi .i64 o.bats.length), (12, vi .i64 k)], ofH [(0, .cells (o.dv.map .d))], 1, 20, 0⟩) (fun k => k ≤ o.bats.length ∧ (o.bats.take k).any (fun b => gEnt (entOf b)) = false) (fun k => o.bats.length - k) 0 ⟨Nat.zero_le _, rfl⟩ ?_ ?_
  · refine Weak.keep rfl rfl ?_
    (refine rO (@OpenD.dv.eq_1) ?_; try (with_reducible exact True.intro))
  rintro k ⟨hk, hall⟩
  (refine gO0 ?_; try (with_reducible exact True.intro))
  refine Wp.cond (by (refine rO0 ?_; try (with_reducible exact True.intro)); rfl) (fun h => ?_) (fun h => ?_)
  · have hlt : k < o.bats.length := by simpa using h
    have hs := any_take_succ (fun b => gEnt (entOf b)) o.bats k hlt
    have hm : o.bats[k] ∈ o.bats := List.getElem_mem hlt
    have hge : o.bats[k]? = some o.bats[k] := List.getElem?_eq_getElem hlt
    generalize o.bats[k] = b at *
    have c1 := (gEnt_fun (entOf b)).args (.cons (.agg (dvz_le (entOf b) rfl)) .nil)
    simp only [EntD.dvz, entOf, rowZ, prodZ] at c1
    (refine gO (And.intro hge (@BatD.dv.eq_1)) ?_; try (with_reducible exact True.intro))
    refine Wp.cond (by (refine rO0 ?_; try (with_reducible exact True.intro)); rfl) (fun h => ?_) (fun h => ?_)
    · have hf : gOpen o = true := by
        have : o.bats.any (fun b => gEnt (entOf b)) = true := List.any_eq_true.2 ⟨b, hm, h⟩
        simp only [gOpen, this, Bool.or_true]
      (refine gO0 ?_; try (with_reducible exact True.intro))
      (refine rO (hf) ?_; try (with_reducible exact True.intro))
    · have h' : gEnt (entOf b) = false := h
      (refine gO0 ?_; try (with_reducible exact True.intro))
      refine ⟨k + 1, ⟨by omega, by rw [hs, hall, h']; rfl⟩, by omega, Weak.keep rfl rfl ?_⟩
      (refine rO (@OpenD.dv.eq_1) ?_; try (with_reducible exact True.intro))
  · have hf : gOpen o = false := by
      rw [List.take_of_length_le (by simp only [decide_eq_false_iff_not] at h; omega)] at hall
      simp only [gOpen, h1, hall]; rfl
    (refine gO0 ?_; try (with_reducible exact True.intro))
    (refine rO (hf) ?_; try (with_reducible exact True.intro))
theorem gOpen_small {o : OpenD} (h : gOpen o = false) : SmallO o := by
  simp only [gOpen, Bool.or_eq_false_iff, decide_eq_false_iff_not] at h
  refine ⟨by omega, fun b hb => ?_⟩
  have h2 : gEnt (entOf b) = false := by simpa using List.any_eq_false.1 h.2 b hb
  simp only [gEnt, gEnt0, Bool.or_eq_false_iff] at h2
  have h3 : decide (40 < (b.recs.length : Int)) = false := h2.1.1.1.1
  simp only [decide_eq_false_iff_not] at h3
  omega
end Go.Proofs.YtafipkbffboebaaDoor
