/- Package inline: own: a part's rows, a transaction's batches. -/
import Derived.Test.YtafipkbffboebaaGreatDoorInMe
import Derived.Test.YtafipkbffboebaaGreatDoorMpN
namespace Go.Proofs.YtafipkbffboebaaGreatDoor
open Go Go.RowKit
set_option maxHeartbeats 4000000
set_option maxRecDepth 100000
set_option linter.unusedVariables false
set_option linter.unusedSimpArgs false
/-- A function that is handed an empty list. -/
theorem FunG.of_nil {P : Program} {f : FuncId} {ars : List SV} {sz : Nat} {ks ks' : List Nat} {B B' : Hp} {r : SV} (h : ∀ a c, FunG P f (.c (.d (.val (.slice a 0 c))) :: ars) ks B r ks' B') : FunG P f (.c (.d (.lst sz [])) :: ars) ks B r ks' B' := by
  have h0 := h none 0
  refine ⟨h0.body, h0.sup, h0.sup', h0.sub, h0.cl, fun a ha i hi => ?_, fun g w vs hh hL => ?_⟩
  · rcases List.mem_cons.1 ha with rfl | ha
    · cases hi
    · exact h0.ids a (List.mem_cons_of_mem _ ha) i hi
  · obtain ⟨h1, h2⟩ := hL
    cases vs with
    | nil => cases h1
    | cons v vs =>
      have hv := h2 0 _ v rfl rfl
      have hv : Rep g.K (.lst sz []) v := hv
      obtain ⟨a2, c2, us, rfl, _⟩ := hv.inv
      refine (h a2 c2).calls g w _ hh ⟨h1, fun j x u hx hu => ?_⟩
      cases j with
      | zero => cases hx; cases hu; exact Rep.val _
      | succ j => exact h2 (j + 1) x u hx hu
theorem okG_rowB {args : List SV} {r : SV} {k e sz v' : Nat} {xs : List (List D)} (ha : (args.all fun a => subB a.ids []) = true) (hr : subB r.ids [k] = true) : okG args r [] [(k, .mrow e sz v' (xs.flatten.map CV.d))] = true := by
  unfold okG okB
  simp only [List.map_cons, List.map_nil, List.all_cons, List.all_nil, HE.ids, ids_plain, Bool.and_true, ha, hr]
  simp [subB]
theorem okIds_row0 {L : List (Nat × SV)} {k e sz v : Nat} {xs : List (List D)} (hL : (L.all fun p => p.2.ids.all fun i => [k].contains i) = true) : (okIds L [(k, .mrow e sz v (xs.flatten.map CV.d))] && keepsLent ⟨[], [], false, none⟩ [(k, .mrow e sz v (xs.flatten.map CV.d))]) = true := by
  unfold okIds
  simp only [List.map_cons, List.map_nil, hL, List.all_cons, List.all_nil, HE.ids, ids_plain, Bool.and_true]
  rfl
theorem cloneRows_fun (l : List RowD) (hl : l.length ≤ 1000000) : FunG Tryz.prog 74 [.c (.d (.lst 5 (l.map RowD.dv)))] [] (ofH []) (.c (.mt 9 2)) [9] (ofH [(9, .mrow 30 5 2 (rowsC l))]) := by
  cases l with
  | nil =>
    refine FunG.of_nil (fun a c => ?_)
    refine FunG.of_bodyH rfl rfl Tryz.func74 rfl rfl Tryz.ntmps74 Tryz.results74 (Nat.le_of_ble_eq_true rfl) (okG_rowB (xs := []) rfl rfl) ?_
    cases a with
    | none =>
      (refine gO (And.intro @GRUN (And.intro @Option.isNone_none.{0} (@Option.isNone_some.{0}))) ?_; try (with_reducible exact True.intro))
      show bodyQG _ _ _ _ _ Exit.ret _
      refine bodyQG.weak (Weak.mtNew 2 (by decide) (t := 2) (τ := 9) (e := 30) (sz := 5) (by decide) (by (refine rO (@GRUN) ?_; try (with_reducible exact True.intro))) (by (refine rO (@GRUN) ?_; try (with_reducible exact True.intro))) (.inl rfl)) ?_
      refine bodyQG.ret ?_
      (refine rO (And.intro @GRUN (And.intro @endB.eq_1 (And.intro @endB.eq_2 (And.intro @rowsC.eq_1 (And.intro @List.map_nil.{0,0} (@List.flatten_nil.{0})))))) ?_; try (with_reducible exact True.intro))
    | some ad =>
      (refine Wp.sreg (fun K hK => ?_); (refine rO (@GRUN) ?_; try (with_reducible exact True.intro)); refine hK _ ?_; clear hK K)
      refine Wp.seq ?_
      (refine Wp.sreg (fun K hK => ?_); (refine rO (And.intro @GRUN (@Option.isNone_some.{0})) ?_; try (with_reducible exact True.intro)); refine hK _ ?_; clear hK K)
      refine Wp.condG (fun K hK hF => ?_)
      (refine rO (@GRUN) ?_; try (with_reducible exact True.intro))
      refine hF ?_
      clear hK hF K
      refine Wp.skip ?_
      (first | refine Wp.sregG ?_ | refine Wp.regG ?_ | (refine Wp.seq ?_; first | refine Wp.sregG ?_ | refine Wp.regG ?_))
      (refine GRun.at 1 (fun K hK => ?_); (refine rO (@GRUN) ?_; try (with_reducible exact True.intro)); refine hK _ ?_; clear hK K)
      refine GRun.weak (Weak.mtNew 1 (by decide) (t := 5) (τ := 9) (e := 30) (sz := 5) (by decide) (by (refine rO (@GRUN) ?_; try (with_reducible exact True.intro))) (by (refine rO (@GRUN) ?_; try (with_reducible exact True.intro))) (.inr rfl)) ?_
      (refine GRun.done (fun K hK => ?_); (refine rO (@GRUN) ?_; try (with_reducible exact True.intro)); refine hK _ ?_; clear hK K)
      (refine gO (@GRUN) ?_; try (with_reducible exact True.intro))
      refine bodyQG.ret ?_
      (refine rO (And.intro @GRUN (And.intro @endB.eq_1 (And.intro @endB.eq_2 (And.intro @rowsC.eq_1 (And.intro @List.map_nil.{0,0} (@List.flatten_nil.{0})))))) ?_; try (with_reducible exact True.intro))
  | cons f fs =>
    have hb : (fs.length + 1) * 56 ≤ 140737488355328 := by simp at hl; omega
    refine FunG.of_bodyH rfl rfl Tryz.func74 rfl rfl Tryz.ntmps74 Tryz.results74 (Nat.le_of_ble_eq_true rfl) (okG_rowB rfl rfl) ?_
    (refine Wp.sreg (fun K hK => ?_); (refine rO (@GRUN) ?_; try (with_reducible exact True.intro)); refine hK _ ?_; clear hK K)
    refine Wp.seq ?_
    (refine Wp.sreg (fun K hK => ?_); (refine rO (@GRUN) ?_; try (with_reducible exact True.intro)); refine hK _ ?_; clear hK K)
    refine Wp.condG (fun K hK hF => ?_)
    (refine rO (@GRUN) ?_; try (with_reducible exact True.intro))
    refine hF ?_
    clear hK hF K
    refine Wp.skip ?_
    (first | refine Wp.sregG ?_ | refine Wp.regG ?_ | (refine Wp.seq ?_; first | refine Wp.sregG ?_ | refine Wp.regG ?_))
    (refine GRun.at 1 (fun K hK => ?_); (refine rO (@GRUN) ?_; try (with_reducible exact True.intro)); refine hK _ ?_; clear hK K)
    refine GRun.weak (Weak.mtNew 1 (by decide) (t := 5) (τ := 9) (e := 30) (sz := 5) (by decide) (by (refine rO (@GRUN) ?_; try (with_reducible exact True.intro))) (by (refine rO (@GRUN) ?_; try (with_reducible exact True.intro))) (.inr rfl)) ?_
    (refine GRun.done (fun K hK => ?_); (refine rO (And.intro @GRUN (hb)) ?_; try (with_reducible exact True.intro)); refine hK _ ?_; clear hK K)
    (refine gO (@GRUN) ?_; try (with_reducible exact True.intro))
    refine bodyQG.ret ?_
    (refine rO (And.intro @GRUN (And.intro @endB.eq_1 (And.intro @endB.eq_2 (@rowsC.eq_1)))) ?_; try (with_reducible exact True.intro))
theorem eachB_fun (l : List BatD) (hl : l.length ≤ 1000) (hr : ∀ b ∈ l, b.recs.length ≤ 100000) : FunG Tryz.prog 77 [.c (.d (.lst 5 (l.map BatD.dv))), .c (.d (.fn (.func 47) []))] [] (ofH []) (.c (.mt 21 (1 + l.length))) [21] (ofH [(21, .mrow 28 5 (1 + l.length) (batsC l))]) := by
  refine FunG.of_bodyH rfl rfl Tryz.func77 rfl rfl Tryz.ntmps77 Tryz.results77 (Nat.le_of_ble_eq_true rfl) (okG_rowB rfl rfl) ?_
  (refine gO (@GRUN) ?_; try (with_reducible exact True.intro))
  refine Wp.weak (Weak.mtNew 1 (by decide) (t := 5) (τ := 21) (e := 28) (sz := 5) (by decide) (by (refine rO (@GRUN) ?_; try (with_reducible exact True.intro))) (by (refine rO (@GRUN) ?_; try (with_reducible exact True.intro))) (.inl rfl)) ?_
  refine Wp.loop (fun k : Nat => ⟨ofL [(1, .c (.d (.fn (.func 47) []))), (5, .c (.mt 21 (1 + k))), (8, .c (.d (.lst 5 (l.map BatD.dv)))), (9, vi .i64 l.length), (10, vi .i64 k)], ofH [(21, .mrow 28 5 (1 + k) (batsC (l.take k)))], 1000, 22, ⟨[], [], false, none⟩⟩) (fun k => k ≤ l.length) (fun k => l.length - k) 0 (Nat.zero_le _) ?_ ?_
  · refine Weak.keep rfl (okIds_row0 rfl) ?_
    (refine rO (And.intro @GRUN (And.intro @batsC.eq_1 (And.intro @List.take_zero.{0} (And.intro @List.map_nil.{0,0} (@List.flatten_nil.{0}))))) ?_; try (with_reducible exact True.intro))
  intro k hk
  by_cases hkl : k < l.length
  · have d1 : decide ((k : Int) < (l.length : Int)) = true := decide_eq_true (by omega)
    have hge : l[k]? = some l[k] := List.getElem?_eq_getElem hkl
    have hwk : IntKind.i64.wrap ((k : Int) + 1) = ((k + 1 : Nat) : Int) := by rw [wrap_i64 (by omega)]; rfl
    have hsn : batsC (l.take (k + 1)) = batsC (l.take k) ++ l[k].dv.map CV.d := by rw [List.take_succ_eq_append_getElem hkl, batsC_app]
    have hll : (batsC (l.take k)).length = k * 5 := by rw [batsC_len, List.length_take, Nat.min_eq_left (by omega)]
    have hx := hr _ (List.getElem_mem hkl)
    generalize l[k] = b at *
    have c1 := ownBatch_fun b hx
    simp only [BatD.dv] at c1
    generalize batsC (l.take k) = L at *
    have hsz : (k * 5 + 1) * 56 ≤ 140737488355328 := by omega
    (refine gO (And.intro @GRUN (And.intro d1 (And.intro hge (And.intro @BatD.dv.eq_1 (And.intro hll (hsz)))))) ?_; try (with_reducible exact True.intro))
    refine ⟨k + 1, hkl, by omega, Weak.keep rfl (okIds_row0 rfl) ?_⟩
    rw [hsn]
    (refine rO (And.intro @GRUN (And.intro hwk (And.intro @BatD.dv.eq_1 (And.intro @List.map_cons.{0,0} (And.intro @List.map_nil.{0,0} (And.intro @List.flatten_cons.{0} (And.intro @List.flatten_nil.{0} (And.intro @List.append_nil.{0} (@Nat.add_assoc))))))))) ?_; try (with_reducible exact True.intro))
  · have hke : k = l.length := by omega
    subst hke
    rw [List.take_length]
    have d1 : decide ((l.length : Int) < (l.length : Int)) = false := by simp
    (refine gO (And.intro @GRUN (d1)) ?_; try (with_reducible exact True.intro))
    refine bodyQG.ret ?_
    (refine rO (And.intro @GRUN (And.intro @endB.eq_1 (@endB.eq_2))) ?_; try (with_reducible exact True.intro))
end Go.Proofs.YtafipkbffboebaaGreatDoor
