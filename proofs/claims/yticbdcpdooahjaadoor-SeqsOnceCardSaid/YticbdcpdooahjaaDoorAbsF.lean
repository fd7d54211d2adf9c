/- The abstract machine: append. -/
import Derived.Test.YticbdcpdooahjaaDoorAbsE
namespace Go.Proofs.YticbdcpdooahjaaDoor
open Go Go.RowKit
set_option linter.unusedVariables false
set_option linter.unusedSimpArgs false
theorem RelH.drew {W0 : Fr} {K0 : Know} {g : G} {H : Hp} {w : World} (hh : RelH W0 K0 g H w) : RelH W0 K0 g H w.drew :=
  ⟨hh.below.trans (Below.refl _ _).drew, hh.ext, hh.kw, hh.holds, hh.base, hh.dom, hh.sep, hh.frozlt, hh.glob, hh.lent⟩
/-- The list has moved to a row of its own. -/
theorem RelH.newrow {W0 : Fr} {K0 : Know} {g : G} {H : Hp} {w : World} {τ e sz n' cp : Nat} {vs : List Value} {cur : Array Value} (hh : RelH W0 K0 g H w) (hτ : H τ = none ∨ ∃ e n, H τ = some (.row e sz n) ∧ n < n')
    (hv : ∀ (j : Nat) v, vs[j]? = some v → cur[j]? = some v) (hsz : cur.size = cp * sz) (hn : n' ≤ cp) (hl : vs.length = n' * sz) :
    RelH W0 K0 ⟨Kadd g.K w.heap.size vs, upd g.β τ (some w.heap.size), upd g.cap τ cp⟩ (upd H τ (some (.row e sz n'))) (w.alloc (.cells cur e)) ∧
    GLe g H ⟨Kadd g.K w.heap.size vs, upd g.β τ (some w.heap.size), upd g.cap τ cp⟩ (upd H τ (some (.row e sz n'))) := by
  have he := Kadd_ext hh.kw vs
  have hb := below_alloc w (.cells cur e)
  have hnb : ∀ i, isRow (H i) = false → ∀ b, g.β i = some b → i ≠ τ := fun i hi b hbi e => by
    subst e
    rcases hτ with h | ⟨e, n, h, _⟩
    · rw [hh.dom i h] at hbi; cases hbi
    · rw [h] at hi; simp [isRow] at hi
  have hle : GLe g H ⟨Kadd g.K w.heap.size vs, upd g.β τ (some w.heap.size), upd g.cap τ cp⟩ (upd H τ (some (.row e sz n'))) := by
    intro x v r
    cases x with
    | any => trivial
    | d x => exact Rep.mono he.1 r
    | own i off =>
      obtain ⟨b, hbi, rfl, hnr⟩ := r
      have hne := hnb i hnr b hbi
      exact ⟨b, (upd_ne _ _ hne).trans hbi, rfl, by rw [upd_ne _ _ hne]; exact hnr⟩
    | full s xs => exact ⟨r.1.mono he.1, r.2⟩
    | clo f caps => exact clo_mono r he.1 (fun i off v ⟨b, hbi, hv, hnr⟩ => ⟨b, (upd_ne _ _ (hnb i hnr b hbi)).trans hbi, hv, by rw [upd_ne _ _ (hnb i hnr b hbi)]; exact hnr⟩)
    | yld i => exact yld_mono r (fun i off v ⟨b, hbi, hv, hnr⟩ => ⟨b, (upd_ne _ _ (hnb i hnr b hbi)).trans hbi, hv, by rw [upd_ne _ _ (hnb i hnr b hbi)]; exact hnr⟩)
    | view i s off len =>
      obtain ⟨b, c, hbi, rfl, hc, hnr⟩ := r
      have hne := hnb i hnr b hbi
      exact ⟨b, c, (upd_ne _ _ hne).trans hbi, rfl, hc, by rw [upd_ne _ _ hne]; exact hnr⟩
    | app σ s xs =>
      obtain ⟨r1, e', n, hrow, hle', hf⟩ := r
      by_cases hst : σ = τ
      · subst hst
        rcases hτ with h | ⟨e2, n2, h, hlt⟩
        · rw [h] at hrow; cases hrow
        · rw [h] at hrow; cases hrow
          exact ⟨r1.mono he.1, e, n', upd_same _ _ _, by omega, fun h => by omega⟩
      · refine ⟨r1.mono he.1, e', n, by rw [upd_ne _ _ hst]; exact hrow, hle', fun h => ?_⟩
        rcases hf h with h4 | ⟨b, hb4, hv4⟩
        · exact .inl h4
        · exact .inr ⟨b, (upd_ne _ _ hst).trans hb4, by show v = .slice _ _ (upd g.cap τ cp σ); rw [upd_ne _ _ hst]; exact hv4⟩
  refine ⟨⟨hh.below.trans hb, hh.ext.trans he hh.below.size, Kadd_kw hh.kw vs cur e (0, 0) hv, ?_, ?_, ?_, ?_, ?_, hh.glob, hh.lent.trans hle⟩, hle⟩
  · intro i he' hi
    by_cases hne : i = τ
    · subst hne
      rw [upd_same] at hi
      cases hi
      intro b hbi
      have : some w.heap.size = some b := (upd_same g.β i (some w.heap.size)).symm.trans hbi
      cases this
      exact ⟨cur, heap_new w _, by show _ = upd g.cap i cp i * sz; rw [upd_same]; exact hsz, by show n' ≤ upd g.cap i cp i; rw [upd_same]; exact hn, fun o ho => by
        show Kadd _ _ _ _ _ = none
        unfold Kadd; rw [if_pos rfl]; exact List.getElem?_eq_none (by omega)⟩
    · rw [upd_ne _ _ hne] at hi
      have := hh.holds i he' hi
      have hk : ∀ b o, b < w.heap.size → Kadd g.K w.heap.size vs b o = g.K b o := fun b o h => he.2 b o h
      cases he' with
      | cells cs =>
        obtain ⟨b, vs', t', hβi, hheap, hr', h1', hn'⟩ := this
        exact ⟨b, vs', t', (upd_ne _ _ hne).trans hβi, (hb.block b (lt_of_heap hheap)).trans hheap, hr'.mono hle, h1', fun o => (hk b o (lt_of_heap hheap)).trans (hn' o)⟩
      | obj o =>
        obtain ⟨b, hβi, hheap, hn'⟩ := this
        exact ⟨b, (upd_ne _ _ hne).trans hβi, (hb.block b (lt_of_heap hheap)).trans hheap, fun o => (hk b o (lt_of_heap hheap)).trans (hn' o)⟩
      | froz ds =>
        obtain ⟨b, vs', hβi, hr', h1', hn'⟩ := this
        exact ⟨b, vs', (upd_ne _ _ hne).trans hβi, hr'.mono he.1, h1', fun j v hj => he.1 _ _ _ (hn' j v hj)⟩
      | row e2 sz2 n2 =>
        intro b hβi
        have hβi' : g.β i = some b := (upd_ne g.β (some w.heap.size) hne).symm.trans hβi
        obtain ⟨cur2, hheap, h2, h3, h4⟩ := this b hβi'
        exact ⟨cur2, (hb.block b (lt_of_heap hheap)).trans hheap, by show _ = upd g.cap τ cp i * sz2; rw [upd_ne _ _ hne]; exact h2, by show n2 ≤ upd g.cap τ cp i; rw [upd_ne _ _ hne]; exact h3, fun o ho => (hk b o (lt_of_heap hheap)).trans (h4 o ho)⟩
  · intro i b hβi
    by_cases hne : i = τ
    · subst hne
      have : some w.heap.size = some b := (upd_same g.β i (some w.heap.size)).symm.trans hβi
      cases this; exact Fr.new hh.below.size
    · exact hh.base i b ((upd_ne g.β (some w.heap.size) hne).symm.trans hβi)
  · intro i hi
    by_cases hne : i = τ
    · subst hne; rw [upd_same] at hi; cases hi
    · rw [upd_ne _ _ hne] at hi
      exact (upd_ne _ _ hne).trans (hh.dom i hi)
  · intro i j b hi hj
    have key : ∀ i, upd g.β τ (some w.heap.size) i = some b → (i = τ ∧ b = w.heap.size) ∨ (i ≠ τ ∧ g.β i = some b) := by
      intro i hi
      by_cases hne : i = τ
      · subst hne; rw [upd_same] at hi; cases hi; exact .inl ⟨rfl, rfl⟩
      · rw [upd_ne _ _ hne] at hi; exact .inr ⟨hne, hi⟩
    rcases key i hi with ⟨rfl, rfl⟩ | ⟨h1, h2⟩
    · rcases key j hj with ⟨rfl, _⟩ | ⟨h3, h4⟩
      · rfl
      · have := hh.frozlt j _ h4; omega
    · rcases key j hj with ⟨rfl, rfl⟩ | ⟨h3, h4⟩
      · have := hh.frozlt i _ h2; omega
      · exact hh.sep i j b h2 h4
  · intro i b hβi
    by_cases hne : i = τ
    · subst hne
      have : some w.heap.size = some b := (upd_same g.β i (some w.heap.size)).symm.trans hβi
      cases this; exact lt_of_heap (heap_new w _)
    · have := hh.frozlt i b ((upd_ne g.β (some w.heap.size) hne).symm.trans hβi)
      have := hb.size; omega
def Kput (K : Know) (b off : Nat) (vs : List Value) : Know := fun b' o => if b' = b ∧ off ≤ o ∧ o < off + vs.length then vs[o - off]? else K b' o
/-- The list has grown in its row. -/
theorem RelH.inrow {W0 : Fr} {K0 : Know} {g : G} {H : Hp} {w : World} {τ e sz n m b : Nat} {us : List Value} {cur : Array Value} (hh : RelH W0 K0 g H w) (hτ : H τ = some (.row e sz n)) (hm : 0 < m) (hβ : g.β τ = some b)
    (hheap : w.heap[b]? = some (.cells cur e (0, 0))) (hsz : cur.size = g.cap τ * sz) (hn : n + m ≤ g.cap τ) (hl : us.length = m * sz) (hk : ∀ o, n * sz ≤ o → g.K b o = none) :
    RelH W0 K0 ⟨Kput g.K b (n * sz) us, g.β, g.cap⟩ (upd H τ (some (.row e sz (n + m)))) (w.setRow b (cur.toList.take (n * sz) ++ us ++ cur.toList.drop (n * sz + us.length)).toArray) ∧
    GLe g H ⟨Kput g.K b (n * sz) us, g.β, g.cap⟩ (upd H τ (some (.row e sz (n + m)))) := by
  have htot : n * sz + us.length ≤ cur.size := by rw [hl, hsz, ← Nat.add_mul]; exact Nat.mul_le_mul_right _ hn
  have hkle : KLe g.K (Kput g.K b (n * sz) us) := fun b' o v hv => by
    unfold Kput
    split
    · rename_i h; rw [h.1, hk o h.2.1] at hv; cases hv
    · exact hv
  have hoth : ∀ b' o, b' ≠ b → Kput g.K b (n * sz) us b' o = g.K b' o := fun b' o h => by unfold Kput; rw [if_neg (fun h' => h h'.1)]
  have hnb : ∀ i, isRow (H i) = false → i ≠ τ := fun i hi e => by subst e; rw [hτ] at hi; simp [isRow] at hi
  have hle : GLe g H ⟨Kput g.K b (n * sz) us, g.β, g.cap⟩ (upd H τ (some (.row e sz (n + m)))) := by
    intro x v r
    cases x with
    | any => trivial
    | d x => exact Rep.mono hkle r
    | own i off =>
      obtain ⟨b, hbi, rfl, hnr⟩ := r
      exact ⟨b, hbi, rfl, by rw [upd_ne _ _ (hnb i hnr)]; exact hnr⟩
    | full s xs => exact ⟨r.1.mono hkle, r.2⟩
    | clo f caps => exact clo_mono r hkle (fun i off v ⟨b, hbi, hv, hnr⟩ => ⟨b, hbi, hv, by rw [upd_ne _ _ (hnb i hnr)]; exact hnr⟩)
    | yld i => exact yld_mono r (fun i off v ⟨b, hbi, hv, hnr⟩ => ⟨b, hbi, hv, by rw [upd_ne _ _ (hnb i hnr)]; exact hnr⟩)
    | view i s off len =>
      obtain ⟨b, c, hbi, rfl, hc, hnr⟩ := r
      exact ⟨b, c, hbi, rfl, hc, by rw [upd_ne _ _ (hnb i hnr)]; exact hnr⟩
    | app σ s xs =>
      obtain ⟨r1, e', n2, hrow, hle', hf⟩ := r
      by_cases hst : σ = τ
      · subst hst
        rw [hτ] at hrow; cases hrow
        exact ⟨r1.mono hkle, e, n + m, upd_same _ _ _, by omega, fun h => by omega⟩
      · exact ⟨r1.mono hkle, e', n2, by rw [upd_ne _ _ hst]; exact hrow, hle', hf⟩
  have hset := setRow_heap w b cur (cur.toList.take (n * sz) ++ us ++ cur.toList.drop (n * sz + us.length)).toArray e (0, 0) hheap
  have hne0 : ∀ k, k ≠ b → (w.setRow b (cur.toList.take (n * sz) ++ us ++ cur.toList.drop (n * sz + us.length)).toArray).heap[k]? = w.heap[k]? := fun k hk => setRow_other w b k _ hk
  have hsize : (w.setRow b (cur.toList.take (n * sz) ++ us ++ cur.toList.drop (n * sz + us.length)).toArray).heap.size = w.heap.size := by simp [World.setRow]
  generalize hW : w.setRow b (cur.toList.take (n * sz) ++ us ++ cur.toList.drop (n * sz + us.length)).toArray = W at hset hne0 hsize
  have hWf : W.os = w.os ∧ W.tape = w.tape ∧ W.output = w.output := by subst hW; exact ⟨rfl, rfl, rfl⟩
  have hcell : ∀ o, W.cell? ⟨b, o, none⟩ = (splice cur.toList (n * sz) us)[o]? := fun o => by
    rw [cell_of_cells hset]; rfl
  have hsg := splice_get cur.toList us (n * sz) (by simpa using htot)
  refine ⟨⟨⟨hWf.1.trans hh.below.os, hWf.2.1.trans hh.below.tape, hWf.2.2.trans hh.below.output, by rw [hsize]; exact hh.below.size, fun k hk' => (hne0 k (Fr.ne hk' (hh.base τ b hβ))).trans (hh.below.block k hk')⟩, ?_, ?_, ?_, hh.base, ?_, hh.sep, ?_, hh.glob, hh.lent.trans hle⟩, hle⟩
  · exact ⟨hh.ext.1.trans hkle, fun b' o hb' => (hoth b' o (Fr.ne hb' (hh.base τ b hβ))).trans (hh.ext.2 b' o hb')⟩
  · intro b' o v hv
    by_cases hbb : b' = b
    · subst hbb
      have hv' : Kput g.K b' (n * sz) us b' o = some v := hv
      rw [hcell, hsg]
      unfold Kput at hv'
      by_cases h1 : o < n * sz
      · rw [if_pos h1]
        rw [if_neg (by omega)] at hv'
        have := hh.kw b' o v hv'
        simp only [World.cell?, hheap] at this
        simpa using this
      · rw [if_neg h1]
        by_cases h2 : o < n * sz + us.length
        · rw [if_pos h2]
          rw [if_pos ⟨rfl, by omega, h2⟩] at hv'
          exact hv'
        · rw [if_neg (fun h => h2 h.2.2), hk o (by omega)] at hv'; cases hv'
    · have hv' : Kput g.K b (n * sz) us b' o = some v := hv
      rw [hoth b' o hbb] at hv'
      rw [← hh.kw b' o v hv']
      exact World.cell?_of_block (hne0 b' hbb)
  · intro i he' hi
    by_cases hne : i = τ
    · subst hne
      rw [upd_same] at hi
      cases hi
      intro b' hbi
      have hbi : g.β i = some b' := hbi
      rw [hβ] at hbi; cases hbi
      refine ⟨_, hset, ?_, hn, fun o ho => ?_⟩
      · show _ = g.cap i * sz
        rw [← hsz]; simp; omega
      · show Kput _ _ _ _ _ _ = none
        unfold Kput
        rw [Nat.add_mul] at ho
        rw [if_neg (by omega)]; exact hk o (by omega)
    · rw [upd_ne _ _ hne] at hi
      have := hh.holds i he' hi
      have hbn : ∀ b', g.β i = some b' → b' ≠ b := fun b' h e => hne (hh.sep i τ b (e ▸ h) hβ)
      cases he' with
      | cells cs =>
        obtain ⟨b', vs', t', hβi, hheap', hr', h1', hn'⟩ := this
        exact ⟨b', vs', t', hβi, (hne0 b' (hbn b' hβi)).trans hheap', hr'.mono hle, h1', fun o => (hoth b' o (hbn b' hβi)).trans (hn' o)⟩
      | obj o =>
        obtain ⟨b', hβi, hheap', hn'⟩ := this
        exact ⟨b', hβi, (hne0 b' (hbn b' hβi)).trans hheap', fun o => (hoth b' o (hbn b' hβi)).trans (hn' o)⟩
      | froz ds =>
        obtain ⟨b', vs', hβi, hr', h1', hn'⟩ := this
        exact ⟨b', vs', hβi, hr'.mono hkle, h1', fun j v hj => hkle _ _ _ (hn' j v hj)⟩
      | row e2 sz2 n2 =>
        intro b' hβi
        obtain ⟨cur2, hheap', h2, h3, h4⟩ := this b' hβi
        exact ⟨cur2, (hne0 b' (hbn b' hβi)).trans hheap', h2, h3, fun o ho => (hoth b' o (hbn b' hβi)).trans (h4 o ho)⟩
  · intro i hi
    by_cases hne : i = τ
    · subst hne; rw [upd_same] at hi; cases hi
    · rw [upd_ne _ _ hne] at hi
      exact hh.dom i hi
  · intro i b' hb'; rw [hsize]; exact hh.frozlt i b' hb'
theorem run_append_none {P : Program} {t e ty : TypeId} {j : TypeInfo} (hu : P.underlying t = some (.slice e)) (hj : P.info? e = some j) (a a2 : Option Addr) (n c c2 : Nat) (h : n ≤ c) (w : World) :
    (Builtin.append_ #[t, t] ty #[.slice a n c, .slice a2 0 c2]).run P w = .ok (.slice a n c) w := by
  unfold Builtin.append_
  cases a2 <;> cases a <;> simp [run_underlying hu, run_sizeOf hj, Builtin.lenOf, h, Builtin.firstCells, loadCells, loadCellsFrom, storeCells]
theorem RepL.append {K : Know} {a b : List D} {u v : List Value} (h : RepL K a u) (h' : RepL K b v) : RepL K (a ++ b) (u ++ v) := by
  refine ⟨by simp [h.1, h'.1], fun j x y hx hy => ?_⟩
  have e := h.1
  rcases Nat.lt_or_ge j a.length with hj | hj
  · rw [List.getElem?_append_left hj] at hx
    rw [List.getElem?_append_left (by omega)] at hy
    exact h.2 j x y hx hy
  · rw [List.getElem?_append_right hj] at hx
    rw [List.getElem?_append_right (by omega), ← e] at hy
    exact h'.2 _ x y hx hy
def aAppend (P : Program) (t : TypeId) (H : Hp) (nx : Nat) (x y : SV) : Option (Res × Nat) :=
  match esize P t with
  | some (e, sz, bb, zs) => if 0 < sz ∧ zs.length = sz then match x, y with
      | .c cx, .c cy => match cx.lstOf sz, cy.lstOf sz with
        | some xs, some ys => match cx with
          | .app τ _ _ => match H τ with
            | some (.row e' s' n) => if e' = e ∧ s' = sz ∧ n = xs.length then some (⟨.c (.app τ sz (xs ++ ys)), some (τ, .row e sz (xs.length + ys.length)), [τ], false⟩, (xs.length + ys.length) * bb) else none
            | _ => none
          | .full _ _ => match H nx with
            | none => some (⟨.c (.app nx sz (xs ++ ys)), some (nx, .row e sz (xs.length + ys.length)), [nx], true⟩, (xs.length + ys.length) * bb)
            | some _ => none
          | .d (.val (.slice none 0 0)) => match H nx with
            | none => some (⟨.c (.app nx sz (xs ++ ys)), some (nx, .row e sz (xs.length + ys.length)), [nx], true⟩, (xs.length + ys.length) * bb)
            | some _ => none
          | _ => none
        | _, _ => none
      | _, _ => none
    else none
  | none => none
theorem append_grows {P : Program} {W0 : Fr} {K0 : Know} {g : G} {H : Hp} {w : World} {t e ty τ sz bb : Nat} {zs : List Value} {xs ys : List (List D)} {a : Option Addr} {c : Nat} {v2 : Value} (hh : RelH W0 K0 g H w)
    (hes : esize P t = some (e, sz, bb, zs)) (hsz : 0 < sz) (hzs : zs.length = sz) (hτ : H τ = none ∨ ∃ e, H τ = some (.row e sz xs.length)) (hx : Rep g.K (.lst sz xs) (.slice a xs.length c)) (hy : Rep g.K (.lst sz ys) v2)
    (hc : c < xs.length + ys.length) (hm : 0 < ys.length) (hac : a = none → c = 0) (hb : (xs.length + ys.length) * bb ≤ 140737488355328) (h63 : xs.length + ys.length ≤ maxLen) :
    ∃ v' w' g', (Builtin.append_ #[t, t] ty #[.slice a xs.length c, v2]).run P w = .ok v' w' ∧ RepC g' (upd H τ (some (.row e sz (xs.length + ys.length)))) (.app τ sz (xs ++ ys)) v' ∧
      RelH W0 K0 g' (upd H τ (some (.row e sz (xs.length + ys.length)))) w' ∧ GLe g H g' (upd H τ (some (.row e sz (xs.length + ys.length)))) := by
  obtain ⟨hu, j, z, u, hj, hz, hs, hby, hzz, _⟩ := esize_spec hes
  subst hs
  obtain ⟨a2, c2, us, rfl, hs2, hc2, hr2, h12, hk2⟩ := hy.inv
  obtain ⟨b2, o2, rfl, hkk2⟩ := hk2 (by intro e; rw [e] at hm; simp at hm)
  obtain ⟨a', c', vs, e1, hs1, hc1, hr1, h11, hk1⟩ := hx.inv
  cases e1
  have hl1 : vs.length = xs.length * j.size := by rw [← hr1.1, flat_len hs1]
  have hl2 : us.length = ys.length * j.size := by rw [← hr2.1, flat_len hs2]
  have hsmall : ((xs.length + ys.length : Nat) : Int) ≤ 9223372036854775807 := by unfold maxLen at h63; omega
  have hnews : ∀ (i : Nat) v, us[i]? = some v → w.cell? ((⟨b2, o2, none⟩ : Addr).add i) = some v := fun i v hi => by rw [Addr.add_lit]; exact hh.kw _ _ _ (hkk2 i v hi)
  have hge := grownCap_ge w (xs.length + ys.length) c e
  have hrun : (Builtin.append_ #[t, t] ty #[.slice a xs.length c, .slice (some ⟨b2, o2, none⟩) ys.length c2]).run P w = .ok (.slice (some ⟨w.heap.size, 0, none⟩) (xs.length + ys.length) (grownCap w (xs.length + ys.length) c e))
      (w.drew.alloc (.cells (vs.toArray ++ us.toArray ++ Builtin.zeroCells z.cells (grownCap w (xs.length + ys.length) c e - (xs.length + ys.length))) e)) := by
    cases a with
    | some ad =>
      refine run_append_grow (P := P) w t ty e j z hu hj hz ad xs.length c vs hl1 ?_ ⟨b2, o2, none⟩ ys.length c2 us hl2 hnews hc hsmall (growslice_fits hc (by rw [hby]; exact hb))
      intro i v hi
      have hne : xs ≠ [] := by intro e; rw [e] at hl1; simp at hl1; rw [hl1] at hi; simp at hi
      obtain ⟨b, o, e, hkk⟩ := hk1 hne
      cases e
      rw [Addr.add_lit]; exact hh.kw _ _ _ (hkk i v hi)
    | none =>
      have hx0 : xs = [] := by
        by_cases h : xs = []
        · exact h
        · obtain ⟨b, o, e, _⟩ := hk1 h; cases e
      subst hx0
      obtain rfl := hac rfl
      have : vs = [] := List.eq_nil_of_length_eq_zero (by simpa using hl1)
      subst this
      have := run_append_nil (P := P) w t ty e j z hu hj hz ⟨b2, o2, none⟩ ys.length c2 us hl2 hnews hm (by simpa using hsmall) (by rw [hby]; simp at hb; omega)
      simpa using this
  have hcur : (vs.toArray ++ us.toArray ++ Builtin.zeroCells z.cells (grownCap w (xs.length + ys.length) c e - (xs.length + ys.length))).size = grownCap w (xs.length + ys.length) c e * j.size := by
    have hz2 : z.cells.size = j.size := by rw [← hzs, hzz]; simp
    simp only [Array.size_append, List.size_toArray, size_zeroCells, hz2, hl1, hl2, ← Nat.add_mul]
    congr 1; omega
  obtain ⟨h1, h2⟩ := RelH.newrow (τ := τ) (e := e) (sz := j.size) (n' := xs.length + ys.length) (vs := vs ++ us) hh.drew
    (hτ.imp id (fun ⟨e, h⟩ => ⟨e, _, h, by omega⟩)) (fun i v hi => by
      have hlt := (List.getElem?_eq_some_iff.1 hi).1
      rw [Array.getElem?_append_left (by simpa using hlt)]
      simpa using hi) hcur hge (by simp [hl1, hl2, Nat.add_mul])
  refine ⟨_, _, _, hrun, ⟨?_, e, _, upd_same _ _ _, by simp, fun _ => .inr ⟨_, upd_same _ _ _, ?_⟩⟩, h1, h2⟩
  · have hL := (hr1.append hr2).mono (Kadd_ext hh.kw (vs ++ us)).1
    have hfl : (xs ++ ys).flatten = xs.flatten ++ ys.flatten := by simp
    have := Rep.lst (K := Kadd g.K w.heap.size (vs ++ us)) (sz := j.size) (xs := xs ++ ys) (vs := vs ++ us) (a := some ⟨w.heap.size, 0, none⟩) (c := grownCap w (xs.length + ys.length) c e)
      (fun x hx => (List.mem_append.1 hx).elim (hs1 x) (hs2 x)) (by simpa using hge) (by rw [hfl]; exact hL.1) (by rw [hfl]; exact hL.2) (fun u hu => (List.mem_append.1 hu).elim (h11 u) (h12 u))
      (fun _ => ⟨w.heap.size, 0, rfl, fun i v hi => by unfold Kadd; rw [if_pos rfl, Nat.zero_add]; exact hi⟩)
    rw [List.length_append] at this
    exact this
  · rw [List.length_append]
    show _ = Value.slice _ _ (upd _ _ _ _)
    rw [upd_same]; rfl
theorem ok_append {P : Program} {W0 : Fr} {K0 : Know} {g : G} {H : Hp} {w : World} {r : Res} {t ty : TypeId} {nx tot : Nat} {x y : SV} {v1 v2 : Value} (hh : RelH W0 K0 g H w) (hx : RepS g H x v1) (hy : RepS g H y v2) (h : aAppend P t H nx x y = some (r, tot))
    (htot : tot ≤ 140737488355328) (hbb : ∀ e sz bb zs, esize P t = some (e, sz, bb, zs) → 0 < bb) :
    RunOk P W0 K0 (vN (Builtin.append_ #[t, t] ty #[v1, v2])) g H w r := by
  unfold aAppend at h
  split at h
  · rename_i e sz bb zs hes
    split at h
    · rename_i hc0
      obtain ⟨hsz, hzs⟩ := hc0
      split at h
      · rename_i cx cy
        split at h
        · rename_i xs ys hxs hys
          have hbp := hbb e sz bb zs hes
          have hrx := CV.lstOf_rep hx hxs
          have hry := CV.lstOf_rep hy hys
          obtain ⟨hu, j, z, u, hj, hz, hs, hby, hzz, _⟩ := esize_spec hes
          -- nothing is appended
          have hnone : ∀ τ, ys = [] → (cx = .app τ sz xs ∧ H τ = some (.row e sz xs.length)) ∨ (H τ = none ∧ ∃ a, v1 = .slice a xs.length xs.length) →
              RunOk P W0 K0 (vN (Builtin.append_ #[t, t] ty #[v1, v2])) g H w ⟨.c (.app τ sz (xs ++ ys)), some (τ, .row e sz (xs.length + ys.length)), [τ], (H τ).isNone⟩ := by
            intro τ hy0 hcase
            subst hy0
            obtain ⟨a, c, vs, rfl, _, hcap, _⟩ := hrx.inv
            obtain ⟨a2, c2, vs2, rfl, _⟩ := hry.inv
            have hrun : (vN (Builtin.append_ #[t, t] ty #[.slice a xs.length c, .slice a2 ([] : List (List D)).length c2])).run P w = .ok (.value (.slice a xs.length c)) w := by
              rw [vN_run, show ([] : List (List D)).length = 0 from rfl, run_append_none hu hj a a2 xs.length c c2 hcap]; rfl
            rcases hcase with ⟨rfl, hrow⟩ | ⟨hnone, a', hfull⟩
            · have hH : hup H (some (τ, .row e sz (xs.length + ([] : List (List D)).length))) = H := by
                funext i
                simp only [hup, List.length_nil, Nat.add_zero]
                by_cases hi : i = τ
                · subst hi; rw [upd_same]; exact hrow.symm
                · rw [upd_ne _ _ hi]
              refine ⟨_, _, w, g, hrun, .inl rfl, ?_, by rw [hH]; exact hh, by rw [hH]; exact GLe.refl _ _⟩
              rw [hH]; simp only [List.append_nil]; exact hx
            · have hβ : g.β τ = none := hh.dom τ hnone
              have hle : GLe g H g (upd H τ (some (.row e sz xs.length))) := by
                intro x v r
                cases x with
                | own i off =>
                  obtain ⟨b, hb, rfl, hnr⟩ := r
                  have hne : i ≠ τ := fun e => by subst e; rw [hβ] at hb; cases hb
                  exact ⟨b, hb, rfl, by rw [upd_ne _ _ hne]; exact hnr⟩
                | clo f caps => exact clo_mono r (KLe.refl _) (fun i off v ⟨b, hb, hv, hnr⟩ => ⟨b, hb, hv, by rw [upd_ne _ _ (fun e => by subst e; rw [hβ] at hb; cases hb)]; exact hnr⟩)
                | yld i => exact yld_mono r (fun i off v ⟨b, hb, hv, hnr⟩ => ⟨b, hb, hv, by rw [upd_ne _ _ (fun e => by subst e; rw [hβ] at hb; cases hb)]; exact hnr⟩)
                | view i s off len =>
                  obtain ⟨b, c, hb, rfl, hc, hnr⟩ := r
                  have hne : i ≠ τ := fun e => by subst e; rw [hβ] at hb; cases hb
                  exact ⟨b, c, hb, rfl, hc, by rw [upd_ne _ _ hne]; exact hnr⟩
                | app i s xs' =>
                  obtain ⟨r1, e', n, hrow, hl, hf⟩ := r
                  have hne : i ≠ τ := fun e => by subst e; rw [hnone] at hrow; cases hrow
                  exact ⟨r1, e', n, by rw [upd_ne _ _ hne]; exact hrow, hl, hf⟩
                | _ => exact r
              refine ⟨_, _, w, g, hrun, .inl rfl, ?_, ?_, ?_⟩
              · simp only [hup, List.length_nil, Nat.add_zero, List.append_nil]
                exact ⟨hrx, e, _, upd_same _ _ _, Nat.le_refl _, fun _ => .inl ⟨a', hfull⟩⟩
              · simp only [hup, List.length_nil, Nat.add_zero]
                refine ⟨hh.below, hh.ext, hh.kw, fun i he hi => ?_, hh.base, fun i hi => ?_, hh.sep, hh.frozlt, hh.glob, hh.lent.trans hle⟩
                · by_cases hne : i = τ
                  · subst hne; rw [upd_same] at hi; cases hi
                    intro b hb; rw [hβ] at hb; cases hb
                  · rw [upd_ne _ _ hne] at hi
                    have := hh.holds i he hi
                    cases he with
                    | cells cs =>
                      obtain ⟨b, vs, t, h1, h2, h3, h4⟩ := this
                      exact ⟨b, vs, t, h1, h2, h3.mono hle, h4⟩
                    | obj o => exact this
                    | froz ds => exact this
                    | row e s n => exact this
                · by_cases hne : i = τ
                  · subst hne; rw [upd_same] at hi; cases hi
                  · rw [upd_ne _ _ hne] at hi; exact hh.dom i hi
              · simp only [hup, List.length_nil, Nat.add_zero]; exact hle
          have hml : (xs.length + ys.length) * bb ≤ 140737488355328 → xs.length + ys.length ≤ maxLen := fun h => by
            have : xs.length + ys.length ≤ (xs.length + ys.length) * bb := Nat.le_mul_of_pos_right _ hbp
            unfold maxLen; omega
          have hfin : H nx = none → (∃ a, v1 = .slice a xs.length xs.length) → (xs.length + ys.length) * bb ≤ 140737488355328 → RunOk P W0 K0 (vN (Builtin.append_ #[t, t] ty #[v1, v2])) g H w ⟨.c (.app nx sz (xs ++ ys)), some (nx, .row e sz (xs.length + ys.length)), [nx], true⟩ := by
            intro hnx hfull htot
            by_cases hy0 : ys = []
            · have := hnone nx hy0 (.inr ⟨hnx, hfull⟩)
              rw [hnx] at this
              exact this
            · have hm : 0 < ys.length := by
                rcases Nat.eq_zero_or_pos ys.length with h0 | h0
                · exact absurd (List.eq_nil_of_length_eq_zero h0) hy0
                · exact h0
              obtain ⟨a, rfl⟩ := hfull
              have : a = none → xs.length = 0 := fun h => by
                obtain ⟨a', c', vs, e1, _, _, _, _, hk⟩ := hrx.inv
                cases e1
                by_cases hx0 : xs = []
                · rw [hx0]; rfl
                · obtain ⟨b, o, e, _⟩ := hk hx0; rw [h] at e; cases e
              obtain ⟨v', w', g', h1, h2, h3, h4⟩ := append_grows (ty := ty) hh hes hsz hzs (.inl hnx) hrx hry (by omega) hm this htot (hml htot)
              exact ⟨_, _, _, _, by rw [vN_run, h1]; rfl, .inl rfl, h2, h3, h4⟩
          split at h
          · rename_i τ s' xs'
            simp only [CV.lstOf] at hxs
            split at hxs
            · rename_i es
              subst es
              cases hxs
              split at h
              · rename_i e' s'' n hrow
                split at h
                · rename_i hcc
                  obtain ⟨rfl, rfl, rfl⟩ := hcc
                  cases h
                  by_cases hy0 : ys = []
                  · have := hnone τ hy0 (.inl ⟨rfl, hrow⟩)
                    rw [hrow] at this
                    exact this
                  · have hm : 0 < ys.length := by
                      rcases Nat.eq_zero_or_pos ys.length with h0 | h0
                      · exact absurd (List.eq_nil_of_length_eq_zero h0) hy0
                      · exact h0
                    obtain ⟨_, e2, n2, hrow2, hl, hf⟩ := hx
                    rw [hrow] at hrow2
                    cases hrow2
                    have fin : ∀ {v' w' g'}, (Builtin.append_ #[t, t] ty #[v1, v2]).run P w = .ok v' w' → RepC g' (upd H τ (some (.row e' s'' (xs.length + ys.length)))) (.app τ s'' (xs ++ ys)) v' →
                        RelH W0 K0 g' (upd H τ (some (.row e' s'' (xs.length + ys.length)))) w' → GLe g H g' (upd H τ (some (.row e' s'' (xs.length + ys.length)))) →
                        RunOk P W0 K0 (vN (Builtin.append_ #[t, t] ty #[v1, v2])) g H w ⟨.c (.app τ s'' (xs ++ ys)), some (τ, .row e' s'' (xs.length + ys.length)), [τ], false⟩ := fun hr h1 h2 h3 =>
                      ⟨_, _, _, _, by rw [vN_run, hr]; rfl, .inl rfl, h1, h2, h3⟩
                    rcases hf rfl with ⟨a, rfl⟩ | ⟨b, hb, rfl⟩
                    · have : a = none → xs.length = 0 := fun h => by
                        obtain ⟨a', c', vs, e1, _, _, _, _, hk⟩ := hrx.inv
                        cases e1
                        by_cases hx0 : xs = []
                        · rw [hx0]; rfl
                        · obtain ⟨b, o, e, _⟩ := hk hx0; rw [h] at e; cases e
                      obtain ⟨v', w', g', h1, h2, h3, h4⟩ := append_grows (ty := ty) hh hes hsz hzs (.inr ⟨e', hrow⟩) hrx hry (by omega) hm this htot (hml htot)
                      exact fin h1 h2 h3 h4
                    · obtain ⟨cur, hheap, hcs, hcn, hkn⟩ := hh.holds τ _ hrow b hb
                      by_cases hroom : xs.length + ys.length ≤ g.cap τ
                      · subst hs
                        obtain ⟨a2, c2, us, rfl, hs2, hc2, hr2, h12, hk2⟩ := hry.inv
                        obtain ⟨b2, o2, rfl, hkk2⟩ := hk2 hy0
                        have hl2 : us.length = ys.length * j.size := by rw [← hr2.1, flat_len hs2]
                        have hnews : ∀ (i : Nat) v, us[i]? = some v → w.cell? ((⟨b2, o2, none⟩ : Addr).add i) = some v := fun i v hi => by rw [Addr.add_lit]; exact hh.kw _ _ _ (hkk2 i v hi)
                        have hfit : xs.length * j.size + us.length ≤ cur.size := by rw [hl2, hcs, ← Nat.add_mul]; exact Nat.mul_le_mul_right _ hroom
                        have hr := run_append_room (P := P) w t ty e' j hu hj b xs.length (g.cap τ) cur hheap ⟨b2, o2, none⟩ ys.length c2 us hl2 hnews h12 hroom hfit
                        obtain ⟨h1, h2⟩ := RelH.inrow hh hrow hm hb hheap hcs hroom hl2 hkn
                        refine fin hr ?_ h1 h2
                        obtain ⟨a', c', vs, e1, hs1, hc1, hr1, h11, hk1⟩ := hrx.inv
                        cases e1
                        have hl1 : vs.length = xs.length * j.size := by rw [← hr1.1, flat_len hs1]
                        have hkle : KLe g.K (Kput g.K b (xs.length * j.size) us) := fun b' o v hv => by
                          unfold Kput
                          split
                          · rename_i h; rw [h.1, hkn o h.2.1] at hv; cases hv
                          · exact hv
                        have hL := (hr1.append hr2).mono hkle
                        have hfl : (xs ++ ys).flatten = xs.flatten ++ ys.flatten := by simp
                        have hrep := Rep.lst (K := Kput g.K b (xs.length * j.size) us) (sz := j.size) (xs := xs ++ ys) (vs := vs ++ us) (a := some ⟨b, 0, none⟩) (c := g.cap τ)
                          (fun x hx => (List.mem_append.1 hx).elim (hs1 x) (hs2 x)) (by simpa using hroom) (by rw [hfl]; exact hL.1) (by rw [hfl]; exact hL.2) (fun u hu => (List.mem_append.1 hu).elim (h11 u) (h12 u))
                          (fun _ => ⟨b, 0, rfl, fun i v hi => by
                            rw [Nat.zero_add]
                            rcases Nat.lt_or_ge i vs.length with hi2 | hi2
                            · rw [List.getElem?_append_left hi2] at hi
                              have hne : xs ≠ [] := by intro e; rw [e] at hl1; simp at hl1; rw [hl1] at hi2; simp at hi2
                              obtain ⟨b', o', e, hkk⟩ := hk1 hne
                              cases e
                              have := hkk i v hi
                              rw [Nat.zero_add] at this
                              exact hkle _ _ _ this
                            · rw [List.getElem?_append_right hi2] at hi
                              have hlt := (List.getElem?_eq_some_iff.1 hi).1
                              unfold Kput
                              rw [if_pos ⟨rfl, by omega, by omega⟩, ← hl1]; exact hi⟩)
                        rw [List.length_append] at hrep
                        exact ⟨hrep, e', _, upd_same _ _ _, by simp, fun _ => .inr ⟨b, hb, by rw [List.length_append]⟩⟩
                      · obtain ⟨v', w', g', h1, h2, h3, h4⟩ := append_grows (ty := ty) hh hes hsz hzs (.inr ⟨e', hrow⟩) hrx hry (by omega) hm (fun h => by cases h) htot (hml htot)
                        exact fin h1 h2 h3 h4
                · cases h
              · cases h
            · cases hxs
          · split at h
            · rename_i hnx
              cases h
              exact hfin hnx (by
                simp only [CV.lstOf] at hxs
                split at hxs
                · cases hxs; exact hx.2
                · cases hxs) htot
            · cases h
          · split at h
            · rename_i hnx
              cases h
              exact hfin hnx (by
                simp only [CV.lstOf] at hxs
                cases hxs
                have hx : Rep g.K (.val (.slice none 0 0)) v1 := hx
                cases hx; exact ⟨none, rfl⟩) htot
            · cases h
          · cases h
        · cases h
      · cases h
    · cases h
  · cases h
end Go.Proofs.YticbdcpdooahjaaDoor
