/- The abstract machine: lists that are made (make): without elements, with room; of zeros. -/
import Derived.Test.YticbdcpdooahjaaDoorAbsF
import Derived.Laws.MakeOwn
namespace Go.Proofs.YticbdcpdooahjaaDoor
open Go Go.RowKit
set_option linter.unusedVariables false
set_option linter.unusedSimpArgs false
/-- The value is a list to which its holder alone may append. -/
def Appable (K : Know) (B : Nat) (w : World) (e sz n : Nat) (v : Value) : Prop := (∃ a, v = .slice a n n) ∨ ∃ b cap cur, v = .slice (some ⟨b, 0, none⟩) n cap ∧ B ≤ b ∧ w.heap[b]? = some (.cells cur e (0, 0)) ∧ cur.size = cap * sz ∧ n ≤ cap ∧ ∀ o, n * sz ≤ o → K b o = none
/-- A call's list is taken over: a token of one's own. -/
theorem RelH.gotrow {W0 : Fr} {K0 : Know} {g : G} {H : Hp} {w' : World} {nx e sz n0 : Nat} {xs : List (List D)} {v : Value} (hh : RelH W0 K0 g H w') (hnx : H nx = none) (hr : Rep g.K (.lst sz xs) v) (hap : Appable g.K n0 w' e sz xs.length v)
    (hdummy : ∀ b, n0 ≤ b → True) (hlt : ∀ i b, g.β i = some b → b < n0) (hn0 : W0.W.heap.size ≤ n0) :
    ∃ g', RelH W0 K0 g' (upd H nx (some (.row e sz xs.length))) w' ∧ GLe g H g' (upd H nx (some (.row e sz xs.length))) ∧ RepC g' (upd H nx (some (.row e sz xs.length))) (.app nx sz xs) v := by
  have hβ : g.β nx = none := hh.dom nx hnx
  have hne : ∀ i b, g.β i = some b → i ≠ nx := fun i b h e => by subst e; rw [hβ] at h; cases h
  have key : ∀ (β' : Nat → Option Nat) (c' : Nat → Nat), (∀ i, i ≠ nx → β' i = g.β i) → (∀ i, i ≠ nx → c' i = g.cap i) → GLe g H { g with β := β', cap := c' } (upd H nx (some (.row e sz xs.length))) := by
    intro β' c' h1 h2 x v r
    cases x with
    | any => trivial
    | d x => exact r
    | full s ys => exact r
    | own i off =>
      obtain ⟨b, hb, rfl, hnr⟩ := r
      have := hne i b hb
      exact ⟨b, (h1 i this).trans hb, rfl, by rw [upd_ne _ _ this]; exact hnr⟩
    | clo f caps => exact clo_mono r (KLe.refl _) (fun i off v ⟨b, hb, hv, hnr⟩ => ⟨b, (h1 i (hne i b hb)).trans hb, hv, by rw [upd_ne _ _ (hne i b hb)]; exact hnr⟩)
    | yld i => exact yld_mono r (fun i off v ⟨b, hb, hv, hnr⟩ => ⟨b, (h1 i (hne i b hb)).trans hb, hv, by rw [upd_ne _ _ (hne i b hb)]; exact hnr⟩)
    | view i s off len =>
      obtain ⟨b, c, hb, rfl, hc, hnr⟩ := r
      have := hne i b hb
      exact ⟨b, c, (h1 i this).trans hb, rfl, hc, by rw [upd_ne _ _ this]; exact hnr⟩
    | app i s ys =>
      obtain ⟨r1, e', n, hrow, hl, hf⟩ := r
      have hi : i ≠ nx := fun e => by subst e; rw [hnx] at hrow; cases hrow
      refine ⟨r1, e', n, by rw [upd_ne _ _ hi]; exact hrow, hl, fun hn => ?_⟩
      rcases hf hn with h | ⟨b, hb, hv⟩
      · exact .inl h
      · exact .inr ⟨b, (h1 i hi).trans hb, by show v = .slice _ _ (c' i); rw [h2 i hi]; exact hv⟩
  have hold : ∀ (β' : Nat → Option Nat) (c' : Nat → Nat), (∀ i, i ≠ nx → β' i = g.β i) → (∀ i, i ≠ nx → c' i = g.cap i) → ∀ i he, i ≠ nx → H i = some he → HoldsE { g with β := β', cap := c' } (upd H nx (some (.row e sz xs.length))) w' i he := by
    intro β' c' h1 h2 i he hi hH
    have := hh.holds i he hH
    have hle := key β' c' h1 h2
    cases he with
    | cells cs =>
      obtain ⟨b, vs, t, hb, hheap, hrr, ho, hn⟩ := this
      exact ⟨b, vs, t, (h1 i hi).trans hb, hheap, hrr.mono hle, ho, hn⟩
    | obj o =>
      obtain ⟨b, hb, hheap, hn⟩ := this
      exact ⟨b, (h1 i hi).trans hb, hheap, hn⟩
    | froz ds =>
      obtain ⟨b, vs, hb, hrr⟩ := this
      exact ⟨b, vs, (h1 i hi).trans hb, hrr⟩
    | row e2 s2 n2 =>
      intro b hb
      obtain ⟨cur, q1, q2, q3, q4⟩ := this b ((h1 i hi).symm.trans hb)
      exact ⟨cur, q1, by show _ = c' i * s2; rw [h2 i hi]; exact q2, by show n2 ≤ c' i; rw [h2 i hi]; exact q3, q4⟩
  rcases hap with ⟨a, rfl⟩ | ⟨b, cp, cur, rfl, hB, hheap, hcs, hcn, hkn⟩
  · refine ⟨{ g with β := g.β, cap := g.cap }, ⟨hh.below, hh.ext, hh.kw, fun i he hi => ?_, hh.base, fun i hi => ?_, hh.sep, hh.frozlt, hh.glob, hh.lent.trans (key g.β g.cap (fun _ _ => rfl) (fun _ _ => rfl))⟩, key g.β g.cap (fun _ _ => rfl) (fun _ _ => rfl), hr, e, _, upd_same _ _ _, Nat.le_refl _, fun _ => .inl ⟨a, rfl⟩⟩
    · by_cases h : i = nx
      · subst h; rw [upd_same] at hi; cases hi
        intro b hb; rw [hβ] at hb; cases hb
      · rw [upd_ne _ _ h] at hi; exact hold g.β g.cap (fun _ _ => rfl) (fun _ _ => rfl) i he h hi
    · by_cases h : i = nx
      · subst h; rw [upd_same] at hi; cases hi
      · rw [upd_ne _ _ h] at hi; exact hh.dom i hi
  · have hu : ∀ i, i ≠ nx → upd g.β nx (some b) i = g.β i := fun i hi => upd_ne _ _ hi
    have hu2 : ∀ i, i ≠ nx → upd g.cap nx cp i = g.cap i := fun i hi => upd_ne _ _ hi
    refine ⟨{ g with β := upd g.β nx (some b), cap := upd g.cap nx cp }, ⟨hh.below, hh.ext, hh.kw, fun i he hi => ?_, fun i b' hi => ?_, fun i hi => ?_, fun i j b' hi hj => ?_, fun i b' hi => ?_, hh.glob, hh.lent.trans (key _ _ hu hu2)⟩, key _ _ hu hu2, hr, e, _, upd_same _ _ _, Nat.le_refl _, fun _ => .inr ⟨b, upd_same _ _ _, by show _ = Value.slice _ _ (upd g.cap nx cp nx); rw [upd_same]⟩⟩
    · by_cases h : i = nx
      · subst h; rw [upd_same] at hi; cases hi
        intro b' hb'
        have hb' : upd g.β i (some b) i = some b' := hb'
        rw [upd_same] at hb'; cases hb'
        exact ⟨cur, hheap, by show _ = upd g.cap i cp i * sz; rw [upd_same]; exact hcs, by show _ ≤ upd g.cap i cp i; rw [upd_same]; exact hcn, hkn⟩
      · rw [upd_ne _ _ h] at hi; exact hold _ _ hu hu2 i he h hi
    · have hi : upd g.β nx (some b) i = some b' := hi
      by_cases h : i = nx
      · subst h; rw [upd_same] at hi; cases hi; exact Fr.new (by omega)
      · rw [upd_ne _ _ h] at hi; exact hh.base i b' hi
    · by_cases h : i = nx
      · subst h; rw [upd_same] at hi; cases hi
      · rw [upd_ne _ _ h] at hi; exact (hu i h).trans (hh.dom i hi)
    · have hi : upd g.β nx (some b) i = some b' := hi
      have hj : upd g.β nx (some b) j = some b' := hj
      by_cases h : i = nx
      · by_cases h' : j = nx
        · rw [h, h']
        · subst h; rw [upd_same] at hi; cases hi
          rw [upd_ne _ _ h'] at hj
          have := hlt j _ hj; omega
      · by_cases h' : j = nx
        · subst h'; rw [upd_same] at hj; cases hj
          rw [upd_ne _ _ h] at hi
          have := hlt i _ hi; omega
        · rw [upd_ne _ _ h] at hi; rw [upd_ne _ _ h'] at hj
          exact hh.sep i j b' hi hj
    · have hi : upd g.β nx (some b) i = some b' := hi
      by_cases h : i = nx
      · subst h; rw [upd_same] at hi; cases hi; exact lt_of_heap hheap
      · rw [upd_ne _ _ h] at hi; exact hh.frozlt i b' hi
def aMakeSlice (P : Program) (H : Hp) (nx : Nat) (t : TypeId) (x y : SV) : Option Res :=
  match esize P t with
  | some (e, sz, bb, zs) => match H nx with
    | some _ => none
    | none => match x.nat, y.nat with
      | some l, some c => if 0 < bb ∧ bb * c ≤ 140737488355328 ∧ zs.length = sz ∧ 0 < sz ∧ zs.all (·.oneCell') = true then
          (if l = 0 then some ⟨.c (.app nx sz []), some (nx, .row e sz 0), [nx], true⟩
          else if l = c then some ⟨.c (.view nx sz 0 c), some (nx, .cells ((zrow zs c).map fun v => .d (.val v))), [nx], true⟩ else none) else none
      | _, _ => none
  | none => none
theorem zrow_one (z : Value) : ∀ n, zrow [z] n = List.replicate n z
  | 0 => rfl
  | n + 1 => by simp only [zrow, zrow_one z n, List.replicate_succ]; rfl
theorem ok_makeSlice {P : Program} {W0 : Fr} {K0 : Know} {g : G} {H : Hp} {w : World} {r : Res} {t : TypeId} {nx : Nat} {x y : SV} {v u : Value} (hh : RelH W0 K0 g H w) (hx : RepS g H x v) (hy : RepS g H y u) (h : aMakeSlice P H nx t x y = some r) :
    RunOk P W0 K0 (vN (Instr.makeSlice t v u)) g H w r := by
  unfold aMakeSlice at h
  split at h
  rotate_left
  · cases h
  rename_i e sz bb zs hes
  obtain ⟨hu, j, z, uu, hj, hz, hs, hby, hzs, _⟩ := esize_spec hes
  split at h
  · cases h
  rename_i hnx
  split at h
  rotate_left
  · cases h
  rename_i l c hl hc
  obtain ⟨kl, rfl⟩ := SV.nat_rep hx hl
  obtain ⟨kc, rfl⟩ := SV.nat_rep hy hc
  split at h
  rotate_left
  · cases h
  rename_i hcond
  obtain ⟨hb0, hbb, hzl, hsz, hz1⟩ := hcond
  have hcc : c ≤ bb * c := Nat.le_mul_of_pos_left c hb0
  have hbytes : (j.bytes : Int) * (c : Int) ≤ 281474976710656 := by
    have h : ((bb * c : Nat) : Int) ≤ 281474976710656 := by omega
    rw [hby]; rwa [Int.natCast_mul] at h
  have hrun : ∀ l' : Nat, l' ≤ c → (Instr.makeSlice t (.int kl l') (.int kc c)).run P w = .ok (.slice (some ⟨w.heap.size, 0, none⟩) l' c) (w.alloc (.cells (madeCells z.cells (c * j.size)) e)) := fun l' hle => by
    have := run_make (P := P) w t e j z hu hj hz kl kc l' c (by omega) (by omega) hbytes (by omega)
    simpa using this
  have hrow : madeCells z.cells (c * j.size) = (zrow zs c).toArray := by
    rw [zrow_eq zs (by omega) c, hzl, hs]
    unfold madeCells
    subst hzs
    apply Array.ext'
    simp [zeroRow]
  rw [hrow] at hrun
  have hlen : (zrow zs c).length = c * sz := by rw [zrow_len, hzl]
  split at h
  · rename_i h0
    cases h
    subst h0
    obtain ⟨h1, h2, h3⟩ := new_list (P := P) (sz := sz) (n := 0) (ds := []) (vs := []) e (zrow zs c) hh ⟨rfl, fun j x v hx => by simp at hx⟩ (by simp) (by simp) c (Nat.zero_le _)
    rw [List.nil_append] at h1
    obtain ⟨g', h4, h5, h6⟩ := RelH.gotrow (nx := nx) (e := e) (sz := sz) (n0 := w.heap.size) (xs := []) h1 hnx h3 (.inr ⟨w.heap.size, c, (zrow zs c).toArray, rfl, Nat.le_refl _, World.alloc_heap_new w _, by simpa using hlen, Nat.zero_le _, fun o _ => by show Kadd _ _ _ _ _ = none; unfold Kadd; simp⟩) (fun _ _ => trivial) (fun i b hb => hh.frozlt i b hb) hh.below.size
    exact ⟨_, _, _, g', by rw [vN_run, hrun 0 (Nat.zero_le _)]; rfl, .inl rfl, h6, h4, h2.trans h5⟩
  · split at h
    · rename_i hlc
      cases h
      subst hlc
      have hone : ∀ u ∈ zrow zs l, u.oneCell' = true := fun u hu => by
        obtain ⟨i, hi, rfl⟩ := List.getElem_of_mem hu
        have hg := zrow_get zs (by omega) l i (by rw [← zrow_len]; exact hi)
        have := List.getElem?_eq_getElem hi
        rw [hg] at this
        exact List.all_eq_true.1 hz1 _ (List.mem_of_getElem? this)
      obtain ⟨h2, h3⟩ := RelH.box e hh hnx (vals_rep g H (zrow zs l)) hone
      exact ⟨_, _, _, _, by rw [vN_run, hrun l (Nat.le_refl _)]; rfl, .inl rfl, ⟨w.heap.size, l, upd_same _ _ _, rfl, Nat.le_refl _, by simp [hup, upd_same, isRow]⟩, h2, h3⟩
    · cases h
end Go.Proofs.YticbdcpdooahjaaDoor
