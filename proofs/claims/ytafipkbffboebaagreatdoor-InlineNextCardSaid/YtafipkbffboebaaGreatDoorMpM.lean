/- The machine: an empty list begins a row of one's own in a box that stands already; a row is appended to a row. -/
import Derived.Test.YtafipkbffboebaaGreatDoorMpL
import Derived.Test.YtafipkbffboebaaGreatDoorInMb
namespace Go.Proofs.YtafipkbffboebaaGreatDoor
open Go Go.RowKit
set_option linter.unusedVariables false
set_option linter.unusedSimpArgs false
set_option maxHeartbeats 2000000
theorem empty_val {g : G} {H : Hp} {sz : Nat} {x : CV} {v : Value} (hx : x = .d (.val (.slice none 0 0)) ∨ x = .full sz []) (h : RepC g H x v) : ∃ a, v = .slice a 0 0 := by
  rcases hx with rfl | rfl
  · have h : Rep g.K (.val (.slice none 0 0)) v := h
    cases h; exact ⟨_, rfl⟩
  · obtain ⟨_, a, hv⟩ := h
    exact ⟨a, hv⟩
/-- A slot that holds an empty list without room: a row of one's own begins there, in a box that was another's. -/
theorem Weak.mtSlot {σ : St} {t τ e sz n : Nat} {cs : List CV} {x : CV} (n' : Nat) (hn : n < n') (hτ : σ.H τ = some (.mrow e sz n cs)) (ht : σ.env t = .c x) (hx : x = .d (.val (.slice none 0 0)) ∨ x = .full sz []) :
    Weak σ { σ with env := upd σ.env t (.c (.mt τ n')), H := upd σ.H τ (some (.mrow e sz n' [])) } := by
  intro W0 K0 g a w r
  obtain ⟨h5, h6⟩ := r.mem.mreset hτ n' hn
  have hv : RepC g σ.H x (a.tmps.getD t undef) := by have := r.env t; rw [ht] at this; exact this
  obtain ⟨b, hb⟩ := empty_val hx hv
  refine ⟨_, h5, fun u => ?_, r.size, r.defers.mono h6 (fun i o hi => ?_), r.ln, r.rd, r.nodup, r.lt⟩
  · show RepS _ _ (upd σ.env t _ u) _
    by_cases h : u = t
    · subst h; rw [upd_same]
      exact ⟨⟨_, _, _, hb⟩, e, sz, n', [], upd_same _ _ _, Nat.le_refl _, fun _ => .inr ⟨upd_same _ _ _, rfl, b, hb⟩⟩
    · rw [upd_ne _ _ h]; exact (r.env u).mono h6
  · show upd σ.H τ _ i = _
    rw [upd_ne _ _ (fun e => by subst e; rw [hτ] at hi; cases hi)]; exact hi
/-- A row of one's own is appended to another one. -/
theorem GRun.mappRow {P : Program} {all : List Oper} {o : Oper} {os : List Oper} {σ : St} {k : St → Prop} {t e sz bb τ n τ2 n2 : Nat} {zs : List Value} {x y : Operand} {cs cs2 : List CV}
    (hop : o.op = .call { callee := .builtin .append, args := #[x, y], argTypes := #[t, t] })
    (hes : esize P t = some (e, sz, bb, zs)) (hsz : zs.length = sz ∧ 0 < bb)
    (hc : guardB all σ.env o = some true ∧ bdst σ o = true ∧ evalS σ.env x = .c (.mt τ n) ∧ evalS σ.env y = .c (.mt τ2 n2) ∧ σ.H τ = some (.mrow e sz n cs) ∧ σ.H τ2 = some (.mrow e sz n2 cs2) ∧ cs2 ≠ [] ∧ (cs.length + cs2.length) * bb ≤ 140737488355328 ∧ σ.fx.dfs.contains τ = false)
    (h : GRun P all os ⟨putE σ.env o.dst (.c (.mt τ (n + 1))), upd σ.H τ (some (.mrow e sz (n + 1) (cs ++ cs2))), σ.nx, σ.sz, σ.fx⟩ k) : GRun P all (o :: os) σ k := by
  obtain ⟨hg, hd, hx, hy, hτ, hτ2, hy0, htot, hdf⟩ := hc
  obtain ⟨hzs, hbp⟩ := hsz
  obtain ⟨hu, j, z, u, hj, hz, hs, hby, hzz, _⟩ := esize_spec hes
  refine GRun.opr hg hd (by rw [hop]; intro c hc; cases hc) fun F K0 g a w hr => ?_
  have hx' := evalS_rep hr x
  have hy' := evalS_rep hr y
  rw [hx] at hx'
  rw [hy] at hy'
  subst hs
  have hh := hr.mem
  obtain ⟨hs0, hmod, hcase⟩ := hh.holds τ _ hτ
  obtain ⟨_, hmod2, _⟩ := hh.holds τ2 _ hτ2
  obtain ⟨b2, cur2, us, rest2, hv2, hb2, hheap2, hcur2, hcsz2, hr2, h12⟩ := mt_cells hh hτ2 hy' hy0
  obtain ⟨m, hm⟩ : ∃ m, cs2.length = m * j.size := ⟨cs2.length / j.size, (Nat.div_mul_cancel (Nat.dvd_of_mod_eq_zero hmod2)).symm⟩
  have hmd : cs2.length / j.size = m := by rw [hm, Nat.mul_div_cancel _ hs0]
  rw [hmd] at hv2
  have hl2 : us.length = m * j.size := by rw [← hr2.1, hm]
  have hm0 : 0 < m := by
    rcases Nat.eq_zero_or_pos m with h0 | h0
    · rw [h0, Nat.zero_mul] at hm; exact absurd (List.eq_nil_of_length_eq_zero hm) hy0
    · exact h0
  have hnews : ∀ (i : Nat) v, us[i]? = some v → w.cell? ((⟨b2, 0, none⟩ : Addr).add i) = some v := fun i v hi => by
    have hlt := (List.getElem?_eq_some_iff.1 hi).1
    rw [Addr.add_lit, Nat.zero_add]
    have : cur2[i]? = some v := by rw [← Array.getElem?_toList, hcur2, List.getElem?_append_left hlt]; exact hi
    simp [World.cell?, hheap2, this]
  have hz2 : z.cells.size = j.size := by rw [← hzs, hzz]; simp
  have hmle : m ≤ cs2.length := by rw [hm]; exact Nat.le_mul_of_pos_right _ hs0
  have hmodA : (cs ++ cs2).length % j.size = 0 := by rw [List.length_append, hm, Nat.add_mul_mod_self_right]; exact hmod
  have hsub : cs.length + cs2.length ≤ (cs.length + cs2.length) * bb := Nat.le_mul_of_pos_right _ hbp
  obtain ⟨_, e3, s3, n3, c3, h3, _, h4⟩ := hx'
  rw [hτ] at h3; cases h3
  have fin : ∀ (w' : World) (g' : G) (v : Value), (Builtin.append_ #[t, t] o.type #[a.eval x, a.eval y]).run P w = .ok v w' → RelH F K0 g' (upd σ.H τ (some (.mrow e j.size (n + 1) (cs ++ cs2)))) w' → GLe g σ.H g' (upd σ.H τ (some (.mrow e j.size (n + 1) (cs ++ cs2)))) → RepC g' (upd σ.H τ (some (.mrow e j.size (n + 1) (cs ++ cs2)))) (.mt τ (n + 1)) v →
      ∃ n v w' g' H' x nx', (execOp a.eval o).run P w = .ok n w' ∧ (n = .value v ∨ (n = .skip ∧ v = undef)) ∧ RelH F K0 g' H' w' ∧ GLe g σ.H g' H' ∧ RepS g' H' x v ∧ (∀ i ∈ σ.fx.dfs, H' i = σ.H i) ∧ GRun P all os ⟨putE σ.env o.dst x, H', nx', σ.sz, σ.fx⟩ k := fun w' g' v hrun h5 h6 h7 => by
    refine ⟨_, v, w', g', _, .c (.mt τ (n + 1)), σ.nx, ?_, .inl rfl, h5, h6, h7, upd_dfs hdf, h⟩
    unfold execOp; rw [hop]
    simp [resolve, invoke, builtin, hrun, Result.andThen]
  rcases hcase with ⟨hb, hcs⟩ | ⟨b, cur, vs, rest, hb, hheap, hcur, hcsz, hr1, h1, hkn⟩
  · subst hcs
    rcases h4 rfl with ⟨b, hbb, _⟩ | ⟨_, _, a1, hv⟩
    · rw [hb] at hbb; cases hbb
    have hge := grownCap_ge w m 0 e
    have hrun : (Builtin.append_ #[t, t] o.type #[a.eval x, a.eval y]).run P w = .ok (.slice (some ⟨w.heap.size, 0, none⟩) m (grownCap w m 0 e)) ((w.drew).alloc (.cells (us.toArray ++ Builtin.zeroCells z.cells (grownCap w m 0 e - m)) e)) := by
      rw [hv, hv2]
      cases a1 with
      | none => exact run_append_nil (P := P) w t o.type e j z hu hj hz ⟨b2, 0, none⟩ m _ us hl2 hnews hm0 (by simp at hsub htot; omega) (by rw [hby]; simp at htot; have := Nat.mul_le_mul_right bb hmle; omega)
      | some ad =>
        have := run_append_grow (P := P) w t o.type e j z hu hj hz ad 0 0 [] (by simp) (by intro i v hi; simp at hi) ⟨b2, 0, none⟩ m (g.cap τ2) us hl2 hnews (by omega) (by omega) (growslice_fits (by simp at hsub htot; omega) (by rw [hby]; simp at htot; exact Nat.le_trans (Nat.mul_le_mul_right _ (by omega)) htot))
        simp only [Nat.zero_add] at this
        simpa using this
    obtain ⟨h5, h6⟩ := RelH.mnew (cs' := cs2) (cp := grownCap w m 0 e) (vs := us) (cur := us.toArray ++ Builtin.zeroCells z.cells (grownCap w m 0 e - m)) (rest := (Builtin.zeroCells z.cells (grownCap w m 0 e - m)).toList) hh.drew hτ (Nat.lt_succ_self n) hs0 hmod2 (by simp) (by
      simp only [Array.size_append, List.size_toArray, size_zeroCells, hz2, hl2, ← Nat.add_mul]
      congr 1; omega) hr2 h12
    refine fin _ _ _ hrun (by simpa only [List.nil_append] using h5) (by simpa only [List.nil_append] using h6) ?_
    refine ⟨⟨_, _, _, rfl⟩, e, j.size, n + 1, _, upd_same _ _ _, Nat.le_refl _, fun _ => .inl ⟨_, upd_same _ _ _, ?_⟩⟩
    show _ = Value.slice _ _ (upd _ _ _ _)
    rw [upd_same, List.nil_append, hmd]; rfl
  · have hl1 : vs.length = cs.length := hr1.1.symm
    obtain ⟨q, hq⟩ : ∃ q, cs.length = q * j.size := ⟨cs.length / j.size, (Nat.div_mul_cancel (Nat.dvd_of_mod_eq_zero hmod)).symm⟩
    have hqd : cs.length / j.size = q := by rw [hq, Nat.mul_div_cancel _ hs0]
    have hqle : q ≤ cs.length := by rw [hq]; exact Nat.le_mul_of_pos_right _ hs0
    obtain ⟨b3, hb3, hv⟩ : ∃ b2, g.β τ = some b2 ∧ a.eval x = .slice (some ⟨b2, 0, none⟩) (cs.length / j.size) (g.cap τ) := by
      rcases h4 rfl with h | ⟨hb2, _⟩
      · exact h
      · rw [hb] at hb2; cases hb2
    rw [hb] at hb3; cases hb3
    rw [hqd] at hv
    have hcurl : cur.size = vs.length + rest.length := by rw [← Array.length_toList, hcur, List.length_append]
    have hlen : (cs ++ cs2).length = (q + m) * j.size := by rw [List.length_append, hm, hq, Nat.add_mul]
    by_cases hroom : q + m ≤ g.cap τ
    · have hfit : q * j.size + us.length ≤ cur.size := by rw [hl2, hcsz, ← Nat.add_mul]; exact Nat.mul_le_mul_right _ hroom
      have hrun := run_append_room (P := P) w t o.type e j hu hj b q (g.cap τ) cur hheap ⟨b2, 0, none⟩ m (g.cap τ2) us hl2 hnews h12 hroom hfit
      rw [← hv, ← hv2] at hrun
      have htk : cur.toList.take (q * j.size) = vs := by rw [hcur, ← hq, ← hl1]; exact List.take_left' rfl
      obtain ⟨h5, h6⟩ := RelH.mset (cs' := cs ++ cs2) (vs := vs ++ us) (cur' := (cur.toList.take (q * j.size) ++ us ++ cur.toList.drop (q * j.size + us.length)).toArray) (rest := cur.toList.drop (q * j.size + us.length)) hh hτ hb hheap (Nat.lt_succ_self n) hmodA (by rw [htk]) (by simp only [List.size_toArray, List.length_append, List.length_take, List.length_drop, Array.length_toList]; omega) (hr1.app hr2) (fun x hx => (List.mem_append.1 hx).elim (h1 x) (h12 x))
      refine fin _ _ _ hrun h5 h6 ?_
      refine ⟨⟨_, _, _, rfl⟩, e, j.size, n + 1, _, upd_same _ _ _, Nat.le_refl _, fun _ => .inl ⟨_, upd_same _ _ _, ?_⟩⟩
      show _ = Value.slice _ _ (upd _ _ _ _)
      rw [upd_same, hlen, Nat.mul_div_cancel _ hs0]
    · have hge := grownCap_ge w (q + m) (g.cap τ) e
      have hrun := run_append_grow (P := P) w t o.type e j z hu hj hz ⟨b, 0, none⟩ q (g.cap τ) vs (by rw [hl1]; exact hq) (by
        intro i v hi
        have hlt := (List.getElem?_eq_some_iff.1 hi).1
        rw [Addr.add_lit, Nat.zero_add]
        have : cur[i]? = some v := by rw [← Array.getElem?_toList, hcur, List.getElem?_append_left hlt]; exact hi
        simp [World.cell?, hheap, this]) ⟨b2, 0, none⟩ m (g.cap τ2) us hl2 hnews (by omega) (by omega) (growslice_fits (by omega) (by rw [hby]; exact Nat.le_trans (Nat.mul_le_mul_right _ (by omega)) htot))
      rw [← hv, ← hv2] at hrun
      obtain ⟨h5, h6⟩ := RelH.mnew (cs' := cs ++ cs2) (cp := grownCap w (q + m) (g.cap τ) e) (vs := vs ++ us) (cur := vs.toArray ++ us.toArray ++ Builtin.zeroCells z.cells (grownCap w (q + m) (g.cap τ) e - (q + m))) (rest := (Builtin.zeroCells z.cells (grownCap w (q + m) (g.cap τ) e - (q + m))).toList) hh.drew hτ (Nat.lt_succ_self n) hs0 hmodA (by simp) (by
        simp only [Array.size_append, List.size_toArray, size_zeroCells, hz2, hl1, hl2, hq, ← Nat.add_mul]
        congr 1; omega) (hr1.app hr2) (fun x hx => (List.mem_append.1 hx).elim (h1 x) (h12 x))
      refine fin _ _ _ hrun h5 h6 ?_
      refine ⟨⟨_, _, _, rfl⟩, e, j.size, n + 1, _, upd_same _ _ _, Nat.le_refl _, fun _ => .inl ⟨_, upd_same _ _ _, ?_⟩⟩
      show _ = Value.slice _ _ (upd _ _ _ _)
      rw [upd_same, hlen, Nat.mul_div_cancel _ hs0]; rfl
end Go.Proofs.YtafipkbffboebaaGreatDoor
