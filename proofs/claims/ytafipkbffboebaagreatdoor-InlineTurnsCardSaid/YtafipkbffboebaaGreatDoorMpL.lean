/- The machine: an empty literal to which a list is appended begins a row of one's own that may be written. -/
import Derived.Test.YtafipkbffboebaaGreatDoorMpK
namespace Go.Proofs.YtafipkbffboebaaGreatDoor
open Go Go.RowKit
set_option linter.unusedVariables false
set_option linter.unusedSimpArgs false
set_option maxHeartbeats 2000000
theorem GRun.appNew {P : Program} {all : List Oper} {o : Oper} {os : List Oper} {σ : St} {k : St → Prop} {t e sz bb : Nat} {zs : List Value} {x y : Operand} {ys : List (List D)} {cy : CV} (id : Nat)
    (hop : o.op = .call { callee := .builtin .append, args := #[x, y], argTypes := #[t, t] })
    (hes : esize P t = some (e, sz, bb, zs)) (hsz : zs.length = sz ∧ 0 < sz ∧ 0 < bb)
    (hc : guardB all σ.env o = some true ∧ bdst σ o = true ∧ evalS σ.env x = .c (.full sz []) ∧ evalS σ.env y = .c cy ∧ cy.lstOf sz = some ys ∧ ys ≠ [] ∧ ys.length * bb ≤ 140737488355328 ∧ σ.H id = none ∧ σ.fx.dfs.contains id = false)
    (h : GRun P all os ⟨putE σ.env o.dst (.c (.mt id 1)), upd σ.H id (some (.mrow e sz 1 (ys.flatten.map .d))), σ.nx, σ.sz, σ.fx⟩ k) : GRun P all (o :: os) σ k := by
  obtain ⟨hg, hd, hx, hy, hys, hy0, htot, hn, hdf⟩ := hc
  obtain ⟨hzs, hs0, hbp⟩ := hsz
  obtain ⟨hu, j, z, u, hj, hz, hs, hby, hzz, _⟩ := esize_spec hes
  refine GRun.opr hg hd (by rw [hop]; intro c hc; cases hc) fun F K0 g a w hr => ?_
  have hx' := evalS_rep hr x
  have hy' := evalS_rep hr y
  rw [hx] at hx'
  rw [hy] at hy'
  obtain ⟨_, a1, hv1⟩ := hx'
  simp only [List.length_nil] at hv1
  have hry := CV.lstOf_rep hy' hys
  subst hs
  obtain ⟨a2, c2, us, hv2, hs2, hc2, hr2, h12, hk2⟩ := hry.inv
  have hl2 : us.length = ys.length * j.size := by rw [← hr2.1, flat_len hs2]
  have hr2c : RepCs g (upd σ.H id (some (.mrow e j.size 0 []))) (ys.flatten.map CV.d) us := hr2.cs _
  have hm : 0 < ys.length := by
    rcases Nat.eq_zero_or_pos ys.length with h0 | h0
    · exact absurd (List.eq_nil_of_length_eq_zero h0) hy0
    · exact h0
  obtain ⟨b2, o2, rfl, hkk2⟩ := hk2 hy0
  have hnews : ∀ (i : Nat) v, us[i]? = some v → w.cell? ((⟨b2, o2, none⟩ : Addr).add i) = some v := fun i v hi => by rw [Addr.add_lit]; exact hr.mem.kw _ _ _ (hkk2 i v hi)
  have hz2 : z.cells.size = j.size := by rw [← hzs, hzz]; simp
  have hsub : ys.length ≤ ys.length * bb := Nat.le_mul_of_pos_right _ hbp
  have hge := grownCap_ge w ys.length 0 e
  obtain ⟨h2, l2⟩ := hr.mem.mtok e j.size hn hs0
  have hrun : ∃ w', w' = (w.drew).alloc (.cells (us.toArray ++ Builtin.zeroCells z.cells (grownCap w ys.length 0 e - ys.length)) e) ∧
      (Builtin.append_ #[t, t] o.type #[.slice a1 0 0, .slice (some ⟨b2, o2, none⟩) ys.length c2]).run P w = .ok (.slice (some ⟨w.heap.size, 0, none⟩) ys.length (grownCap w ys.length 0 e)) w' := by
    cases a1 with
    | none => exact ⟨_, rfl, run_append_nil (P := P) w t o.type e j z hu hj hz ⟨b2, o2, none⟩ ys.length c2 us hl2 hnews hm (by omega) (by rw [hby]; omega)⟩
    | some b => 
      have := run_append_grow (P := P) w t o.type e j z hu hj hz b 0 0 [] (by simp) (by intro i v hi; simp at hi) ⟨b2, o2, none⟩ ys.length c2 us hl2 hnews (by omega) (by omega) (growslice_fits (by omega) (by rw [hby]; simpa using htot))
      simp only [Nat.zero_add] at this
      exact ⟨_, rfl, by simpa using this⟩
  obtain ⟨w', hw', hrun⟩ := hrun
  obtain ⟨h5, h6⟩ := RelH.mnew (n' := 1) (cs' := ys.flatten.map CV.d) (cp := grownCap w ys.length 0 e) (vs := us) (cur := us.toArray ++ Builtin.zeroCells z.cells (grownCap w ys.length 0 e - ys.length)) (rest := (Builtin.zeroCells z.cells (grownCap w ys.length 0 e - ys.length)).toList) h2.drew (upd_same _ _ _) (by decide) hs0 (by rw [List.length_map, flat_len hs2, Nat.mul_mod_left]) (by simp) (by
    simp only [Array.size_append, List.size_toArray, size_zeroCells, hz2, hl2, ← Nat.add_mul]
    congr 1; omega) hr2c h12
  rw [upd_upd] at h5 h6
  refine ⟨_, .slice (some ⟨w.heap.size, 0, none⟩) ys.length (grownCap w ys.length 0 e), w', _, _, .c (.mt id 1), σ.nx, ?_, .inl rfl, by rw [hw']; exact h5, l2.trans h6, ?_, ?_, h⟩
  · unfold execOp; rw [hop]
    simp [resolve, invoke, builtin, hv1, hv2, hrun, Result.andThen]
  · refine ⟨⟨_, _, _, rfl⟩, e, j.size, 1, _, upd_same _ _ _, Nat.le_refl _, fun _ => .inl ⟨_, upd_same _ _ _, ?_⟩⟩
    show _ = Value.slice _ _ (upd _ _ _ _)
    rw [upd_same, List.length_map, flat_len hs2, Nat.mul_div_cancel _ hs0]; rfl
  · intro i hi
    rw [upd_ne]
    rintro rfl
    rw [show σ.fx.dfs.contains i = true by simpa using hi] at hdf; cases hdf
theorem Weak.pubSlot {σ : St} {t τ e sz n : Nat} {cs : List CV} {ds : List D} (hτ : σ.H τ = some (.mrow e sz n cs)) (hd : mapO CV.toD0 cs = some ds) (ht : σ.env t = .c (.mt τ n)) (hdf : σ.fx.dfs.contains τ = false) :
    Weak σ { σ with env := upd σ.env t (.c (.d (.lst sz (chunk sz (cs.length / sz) ds)))), H := upd σ.H τ (some (.mrow e sz (n + 1) [])) } := by
  intro W0 K0 g a w r
  have hv : RepC g σ.H (.mt τ n) (a.tmps.getD t undef) := by have := r.env t; rw [ht] at this; exact this
  obtain ⟨g', h5, h6, h7⟩ := r.mem.publish hτ hd hv
  refine ⟨g', h5, fun u => ?_, r.size, r.defers.mono h6 (fun i o hi => ?_), r.ln, r.rd, r.nodup, r.lt⟩
  · show RepS g' _ (upd σ.env t _ u) _
    by_cases h : u = t
    · subst h; rw [upd_same]; exact h7
    · rw [upd_ne _ _ h]; exact (r.env u).mono h6
  · show upd σ.H τ _ i = _
    rw [upd_ne _ _ (fun e => by subst e; rw [hτ] at hi; cases hi)]; exact hi
/-- A struct of a row is set. -/
theorem set_flat {α : Type} (f : α → List D) (sz : Nat) (hf : ∀ a, (f a).length = sz) : ∀ (l : List α) (k : Nat) (x : α), k < l.length → splice ((l.map f).flatten.map CV.d) (k * sz) ((f x).map CV.d) = ((l.set k x).map f).flatten.map CV.d
  | [], k, x, h => absurd h (Nat.not_lt_zero _)
  | a :: l, 0, x, h => by
    simp only [splice, List.map_cons, List.flatten_cons, List.map_append, Nat.zero_mul, List.take_zero, List.nil_append, Nat.zero_add, List.length_map, List.set_cons_zero, hf]
    rw [List.drop_left' (by rw [List.length_map, hf])]
  | a :: l, k + 1, x, h => by
    have ih := set_flat f sz hf l k x (by simpa using h)
    simp only [List.map_cons, List.flatten_cons, List.map_append, List.set_cons_succ]
    rw [← ih]
    simp only [splice]
    rw [Nat.add_mul, Nat.one_mul, Nat.add_comm (k * sz) sz, List.take_append, List.drop_append, List.length_map, hf]
    rw [List.take_of_length_le (by rw [List.length_map, hf]; omega), List.drop_eq_nil_of_le (by rw [List.length_map, hf]; omega)]
    rw [show sz + k * sz - sz = k * sz by omega, show sz + k * sz + ((f x).map CV.d).length - sz = k * sz + ((f x).map CV.d).length by omega]
    simp only [List.append_assoc, List.nil_append]
end Go.Proofs.YtafipkbffboebaaGreatDoor
