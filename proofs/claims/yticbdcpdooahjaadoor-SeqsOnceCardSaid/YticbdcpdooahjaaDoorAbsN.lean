/- The abstract machine: regions in a form that simp runs through. -/
import Derived.Test.YticbdcpdooahjaaDoorAbsM
namespace Go.Proofs.YticbdcpdooahjaaDoor
open Go Go.RowKit
set_option linter.unusedVariables false
set_option linter.unusedSimpArgs false
theorem Weak.nilApp {σ : St} {t τ : Nat} (e sz : Nat) (hτ : σ.H τ = none) (ht : σ.env t = .c (.d (.val (.slice none 0 0)))) : Weak σ { σ with env := upd σ.env t (.c (.app τ sz [])), H := upd σ.H τ (some (.row e sz 0)) } :=
  (Weak.tok (τ := τ) e sz 0 hτ).trans (Weak.slot (σ := { σ with H := upd σ.H τ (some (.row e sz 0)) }) (t := t) ht (fun g v h => tok_conv (e := e) (n := 0) (xs := []) (upd_same _ _ _) (.inl ⟨rfl, rfl⟩) rfl v h))
theorem Weak.nilAppCell {σ : St} {id k τ : Nat} {cs : List CV} (e sz : Nat) (hne : id ≠ τ) (hτ : σ.H τ = none) (hid : σ.H id = some (.cells cs)) (hk : cs[k]? = some (.d (.val (.slice none 0 0)))) : Weak σ { σ with H := upd (upd σ.H τ (some (.row e sz 0))) id (some (.cells (cs.set k (.app τ sz [])))) } :=
  (Weak.tok (τ := τ) e sz 0 hτ).trans (Weak.cellAt (σ := { σ with H := upd σ.H τ (some (.row e sz 0)) }) (id := id) ((upd_ne _ _ hne).trans hid) hk (fun g v h => tok_conv (e := e) (n := 0) (xs := []) (upd_same _ _ _) (.inl ⟨rfl, rfl⟩) rfl v h))
inductive BRes where
  | no
  | ok (r : Res)
  | okIf (tot : Nat) (r : Res)
  | call (f : FuncId) (ds : List D) (fp : List Nat)
def bres (P : Program) (o : Oper) (ρ : Operand → SV) (H : Hp) (nx : Nat) : BRes :=
  match o.op with
  | .call c => match c.callee with
    | .builtin b => match abuiltin P b c.argTypes.toList o.type (c.args.toList.map ρ) H nx with
      | some (r, tot) => .okIf tot r
      | none => .no
    | .value f => match ρ f with
      | .c (.d (.fn (.func f) caps)) => match mapO (SV.toD H) (c.args.toList.map ρ) with
        | some ds => .call f (ds ++ caps) ((c.args.toList.map ρ).flatMap ownId)
        | none => .no
      | _ => .no
    | _ => .no
  | op => match aop P op ρ H nx with
    | some r => .ok r
    | none => .no
def bdst (σ : St) (o : Oper) : Bool := match o.dst with
  | some d => decide (d < σ.sz)
  | none => true
mutual
def bops (P : Program) (all : List Oper) : List Oper → St → List Foot → (St → List Foot → Prop) → Prop
  | [], σ, tr, k => k σ tr.reverse
  | o :: os, σ, tr, k => bgd P all o os σ tr k (guardB all σ.env o)
termination_by l => (l.length, 0)
def bgd (P : Program) (all : List Oper) (o : Oper) (os : List Oper) (σ : St) (tr : List Foot) (k : St → List Foot → Prop) : Option Bool → Prop
  | none => False
  | some true => bgo P all o os σ tr k (bres P o (evalS σ.env) σ.H σ.nx)
  | some false => bdst σ o = true ∧ bops P all os (σ.skip o) (⟨[], none⟩ :: tr) k
termination_by (os.length, 3)
def bgo (P : Program) (all : List Oper) (o : Oper) (os : List Oper) (σ : St) (tr : List Foot) (k : St → List Foot → Prop) : BRes → Prop
  | .no => False
  | .ok r => bdst σ o = true ∧ bops P all os (σ.step o r) (⟨r.fp, r.up.map (·.1)⟩ :: tr) k
  | .okIf tot r => tot ≤ 140737488355328 ∧ bdst σ o = true ∧ bops P all os (σ.step o r) (⟨r.fp, r.up.map (·.1)⟩ :: tr) k
  | .call f ds fp => bcall P all o os σ tr k f ds fp
termination_by (os.length, 2)
def bcall (P : Program) (all : List Oper) (o : Oper) (os : List Oper) (σ : St) (tr : List Foot) (k : St → List Foot → Prop) (f : FuncId) (ds : List D) (fp : List Nat) : Prop :=
  (∃ y, Fun P f ds y ∧ bdst σ o = true ∧ bops P all os (σ.step o ⟨SV.ofD y, none, fp, false⟩) (⟨fp, none⟩ :: tr) k) ∨
      (∃ e sz xs, FunA P f ds e sz xs ∧ σ.H σ.nx = none ∧ bdst σ o = true ∧ bops P all os (σ.step o ⟨.c (.app σ.nx sz xs), some (σ.nx, .row e sz xs.length), σ.nx :: fp, true⟩) (⟨σ.nx :: fp, some σ.nx⟩ :: tr) k)
termination_by (os.length, 1)
end
theorem bdst_ok {σ : St} {o : Oper} (h : bdst σ o = true) : dstOk σ o := by
  unfold bdst at h; unfold dstOk
  cases hd : o.dst with
  | none => trivial
  | some d => rw [hd] at h; simpa using h
def BSpec (P : Program) (o : Oper) (ρ : Operand → SV) (H : Hp) (nx : Nat) : BRes → Prop
  | .no => True
  | .ok r => AStep P o ρ H nx r
  | .okIf tot r => tot ≤ 140737488355328 → AStep P o ρ H nx r
  | .call f ds fp => (∀ y, Fun P f ds y → AStep P o ρ H nx ⟨SV.ofD y, none, fp, false⟩) ∧ ∀ e sz xs, FunA P f ds e sz xs → H nx = none → AStep P o ρ H nx ⟨.c (.app nx sz xs), some (nx, .row e sz xs.length), nx :: fp, true⟩
theorem bres_spec (P : Program) (o : Oper) (ρ : Operand → SV) (H : Hp) (nx : Nat) : BSpec P o ρ H nx (bres P o ρ H nx) := by
  obtain ⟨dst, op, type, pos, after, guard⟩ := o
  cases op with
  | call c =>
    obtain ⟨cal, args, tys⟩ := c
    cases cal with
    | builtin b =>
      simp only [bres]
      split
      · rename_i r tot hr
        intro ht
        simp only [AStep, astep, hr]
        exact ⟨ht, trivial⟩
      · trivial
    | value f =>
      simp only [bres]
      split
      · rename_i fid caps hf
        split
        · rename_i ds hds
          refine ⟨fun y hy => ?_, fun e sz xs hy hn => ?_⟩
          · simp only [AStep, astep, hf, hds]
            exact .inl ⟨y, hy, rfl⟩
          · simp only [AStep, astep, hf, hds]
            exact .inr ⟨e, sz, xs, hy, hn, rfl⟩
        · trivial
      · trivial
    | invoke r m => trivial
  | _ =>
    simp only [bres]
    split
    · rename_i r hr
      show AStep _ _ _ _ _ _
      simp only [AStep, astep, hr]
    · trivial
theorem bops_aops {P : Program} {all : List Oper} : ∀ {l : List Oper} {σ : St} {tr : List Foot} {k : St → List Foot → Prop}, bops P all l σ tr k → aops P all l σ tr k
  | [], σ, tr, k, h => by simpa [bops, aops] using h
  | o :: os, σ, tr, k, h => by
    rw [bops] at h
    rw [aops]
    cases hg : guardB all σ.env o with
    | none => rw [hg, bgd] at h; exact h.elim
    | some gb =>
    cases gb with
    | true =>
      rw [hg, bgd] at h
      simp only [hg]
      refine ⟨fun _ => ?_, (fun e => by cases e)⟩
      have key : ∀ r, AStep P o (evalS σ.env) σ.H σ.nx r → (bdst σ o = true ∧ bops P all os (σ.step o r) (⟨r.fp, r.up.map (·.1)⟩ :: tr) k) → astep P o (evalS σ.env) σ.H σ.nx (fun r => dstOk σ o ∧ aops P all os (σ.step o r) (⟨r.fp, r.up.map (·.1)⟩ :: tr) k) :=
        fun r hr hb => astep_put hr ⟨bdst_ok hb.1, bops_aops hb.2⟩
      have hsp := bres_spec P o (evalS σ.env) σ.H σ.nx
      cases hb : bres P o (evalS σ.env) σ.H σ.nx with
      | no => rw [hb, bgo] at h; exact h.elim
      | ok r =>
        rw [hb] at hsp
        rw [hb, bgo] at h
        exact key r hsp h
      | okIf tot r =>
        rw [hb] at hsp
        rw [hb, bgo] at h
        exact key r (hsp h.1) h.2
      | call f ds fp =>
        rw [hb] at hsp
        rw [hb, bgo, bcall] at h
        rcases h with ⟨y, hf, hrest⟩ | ⟨e, sz, xs, hf, hn, hrest⟩
        · exact key ⟨SV.ofD y, none, fp, false⟩ (hsp.1 y hf) hrest
        · exact key _ (hsp.2 e sz xs hf hn) hrest
    | false =>
      rw [hg, bgd] at h
      simp only [hg]
      exact ⟨(fun e => by cases e), fun _ => ⟨bdst_ok h.1, bops_aops h.2⟩⟩
theorem bcall_f {P : Program} {all : List Oper} {o : Oper} {os : List Oper} {σ : St} {tr : List Foot} {k : St → List Foot → Prop} {f : FuncId} {ds : List D} {fp : List Nat} {y : D} (hf : Fun P f ds y)
    (h : bdst σ o = true ∧ bops P all os (σ.step o ⟨SV.ofD y, none, fp, false⟩) (⟨fp, none⟩ :: tr) k) : bcall P all o os σ tr k f ds fp := by rw [bcall]; exact .inl ⟨y, hf, h⟩
theorem bcall_a {P : Program} {all : List Oper} {o : Oper} {os : List Oper} {σ : St} {tr : List Foot} {k : St → List Foot → Prop} {f : FuncId} {ds : List D} {fp : List Nat} {e sz : Nat} {xs : List (List D)} (hf : FunA P f ds e sz xs)
    (h : σ.H σ.nx = none ∧ bdst σ o = true ∧ bops P all os (σ.step o ⟨.c (.app σ.nx sz xs), some (σ.nx, .row e sz xs.length), σ.nx :: fp, true⟩) (⟨σ.nx :: fp, some σ.nx⟩ :: tr) k) : bcall P all o os σ tr k f ds fp := by rw [bcall]; exact .inr ⟨e, sz, xs, hf, h⟩
theorem bgd_split {P : Program} {all : List Oper} {o : Oper} {os : List Oper} {σ : St} {tr : List Foot} {k : St → List Foot → Prop} {b : Bool} (h : ∀ c, b = c → bgd P all o os σ tr k (some c)) : bgd P all o os σ tr k (some b) := h b rfl
section
variable {P : Program} {σ : St} {Q : Exit → St → Prop}
theorem Wp.condT {c : Operand} {x y : Code} (hc : evalS σ.env c = .c (.d (.val (.bool true)))) (h : Wp P x σ Q) : Wp P (.cond c x y) σ Q := Wp.cond hc (fun _ => h) (fun e => by cases e)
theorem Wp.condF {c : Operand} {x y : Code} (hc : evalS σ.env c = .c (.d (.val (.bool false)))) (h : Wp P y σ Q) : Wp P (.cond c x y) σ Q := Wp.cond hc (fun e => by cases e) (fun _ => h)
theorem Wp.reg {id : Nat} {all : List Oper} (h : ∀ K : St → Prop, (∀ σ', Q .normal σ' → K σ') → bops P all all σ [] (fun σ' _ => K σ')) : Wp P (.region id all.toArray false) σ Q := Wp.region (fun K hK => bops_aops (h K hK))
theorem Wp.drw {id : Nat} {all : List Oper} (hm : P.follows .mixedOrders = true) (h : ∀ K : St → Prop, (∀ σ', Q .normal σ' → K σ') → bops P all all σ [] (fun σ' tr => okTr all tr = true ∧ K σ')) : Wp P (.region id all.toArray true) σ Q := Wp.drawn hm (fun K hK => bops_aops (h K hK))
theorem Wp.sreg {id : Nat} {all : List Oper} {y : Code} (h : ∀ K : St → Prop, (∀ σ', Wp P y σ' Q → K σ') → bops P all all σ [] (fun σ' _ => K σ')) : Wp P (.seq (.region id all.toArray false) y) σ Q := Wp.seqRegion (fun K hK => bops_aops (h K hK))
theorem Wp.sdrw {id : Nat} {all : List Oper} {y : Code} (hm : P.follows .mixedOrders = true) (h : ∀ K : St → Prop, (∀ σ', Wp P y σ' Q → K σ') → bops P all all σ [] (fun σ' tr => okTr all tr = true ∧ K σ')) : Wp P (.seq (.region id all.toArray true) y) σ Q := Wp.seqDrawn hm (fun K hK => bops_aops (h K hK))
theorem Wp.sto {id : Nat} {all : List Oper} {y : Code} (d : Nat) (v : SV) (h : bops P all all σ [] (fun σ' _ => σ'.env d = v ∧ σ'.H = σ.H)) (hy : Wp P y ⟨upd (forget (dsts all) σ.env) d v, σ.H, σ.nx, σ.sz, σ.fx⟩ Q) : Wp P (.seq (.region id all.toArray false) y) σ Q := Wp.seqTo d v (bops_aops h) hy
theorem Wp.stoD {id : Nat} {all : List Oper} {y : Code} (d : Nat) (v : SV) (hm : P.follows .mixedOrders = true) (h : bops P all all σ [] (fun σ' tr => okTr all tr = true ∧ σ'.env d = v ∧ σ'.H = σ.H)) (hy : Wp P y ⟨upd (forget (dsts all) σ.env) d v, σ.H, σ.nx, σ.sz, σ.fx⟩ Q) : Wp P (.seq (.region id all.toArray true) y) σ Q := Wp.seqToD d v hm (bops_aops h) hy
theorem Wp.meetT {x y : Code} {Q' : Exit → St → Prop} (σc : St) (h : Wp P x σ (thenQ (fun σ' => Weak σ' σc) Q')) (hy : Wp P y σc Q) : Wp P x σ (thenQ (fun σ' => Wp P y σ' Q) Q') :=
  h.mono (fun e σ' hq => by
    cases e with
    | normal => exact Wp.weak hq hy
    | _ => exact hq)
theorem Wp.rto {id : Nat} {all : List Oper} (d : Nat) (v : SV) (h : bops P all all σ [] (fun σ' _ => σ'.env d = v ∧ σ'.H = σ.H)) (hy : ∀ σ', Weak σ' ⟨upd (forget (dsts all) σ.env) d v, σ.H, σ.nx, σ.sz, σ.fx⟩ → Q .normal σ') : Wp P (.region id all.toArray false) σ Q :=
  Wp.region (fun K hK => aops_mono (bops_aops h) (fun σ' _ hk he hs => hK σ' (hy σ' (Weak.to he hs hk.1 hk.2))))
theorem Wp.rtoD {id : Nat} {all : List Oper} (d : Nat) (v : SV) (hm : P.follows .mixedOrders = true) (h : bops P all all σ [] (fun σ' tr => okTr all tr = true ∧ σ'.env d = v ∧ σ'.H = σ.H)) (hy : ∀ σ', Weak σ' ⟨upd (forget (dsts all) σ.env) d v, σ.H, σ.nx, σ.sz, σ.fx⟩ → Q .normal σ') : Wp P (.region id all.toArray true) σ Q :=
  Wp.drawn hm (fun K hK => aops_mono (bops_aops h) (fun σ' _ hk he hs => ⟨hk.1, hK σ' (hy σ' (Weak.to he hs hk.2.1 hk.2.2))⟩))
theorem Wp.rtoS {id : Nat} {all : List Oper} {y : Code} {Q' : Exit → St → Prop} (d : Nat) (v : SV) (h : bops P all all σ [] (fun σ' _ => σ'.env d = v ∧ σ'.H = σ.H)) (hy : Wp P y ⟨upd (forget (dsts all) σ.env) d v, σ.H, σ.nx, σ.sz, σ.fx⟩ Q') : Wp P (.region id all.toArray false) σ (thenQ (fun σ' => Wp P y σ' Q') Q) :=
  Wp.rto d v h (fun σ' hw => Wp.weak hw hy)
theorem Wp.rtoDS {id : Nat} {all : List Oper} {y : Code} {Q' : Exit → St → Prop} (d : Nat) (v : SV) (hm : P.follows .mixedOrders = true) (h : bops P all all σ [] (fun σ' tr => okTr all tr = true ∧ σ'.env d = v ∧ σ'.H = σ.H)) (hy : Wp P y ⟨upd (forget (dsts all) σ.env) d v, σ.H, σ.nx, σ.sz, σ.fx⟩ Q') : Wp P (.region id all.toArray true) σ (thenQ (fun σ' => Wp P y σ' Q') Q) :=
  Wp.rtoD d v hm h (fun σ' hw => Wp.weak hw hy)
end
end Go.Proofs.YticbdcpdooahjaaDoor
