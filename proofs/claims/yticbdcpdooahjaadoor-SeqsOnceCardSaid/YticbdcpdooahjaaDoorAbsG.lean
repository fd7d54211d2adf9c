/- The abstract machine: one operation, calls among them; what it does in the model; what it hangs on. -/
import Derived.Test.YticbdcpdooahjaaDoorAbsQ
namespace Go.Proofs.YticbdcpdooahjaaDoor
open Go Go.RowKit
set_option linter.unusedVariables false
set_option linter.unusedSimpArgs false
def bodyOk (P : Program) (f : FuncId) : Bool :=
  match P.funcs[f]? with
  | some fn => !(fn.name == "runtime.NumGoroutine") && fn.body.isSome
  | none => false
/-- THE CONTRACT OF A FUNCTION: handed values that stand for args, it returns one that stands for r, and turns nothing that was there. -/
def Fun (P : Program) (f : FuncId) (args : List D) (r : D) : Prop := bodyOk P f = true ∧ ∀ (K : Know) (w : World) (vs : List Value), KLe BaseK K → KW K w → RepL K args vs →
  Calls P f vs.toArray w fun e w' => ∃ v K', e = .returned v ∧ Ext K K' w.heap.size ∧ KW K' w' ∧ Rep K' r v ∧ Below w.heap.size w w'
/-- The contract of a function that returns a list of its own. -/
def FunA (P : Program) (f : FuncId) (args : List D) (e sz : Nat) (xs : List (List D)) : Prop := bodyOk P f = true ∧ ∀ (K : Know) (w : World) (vs : List Value), KLe BaseK K → KW K w → RepL K args vs →
  Calls P f vs.toArray w fun en w' => ∃ v K', en = .returned v ∧ Ext K K' w.heap.size ∧ KW K' w' ∧ Rep K' (.lst sz xs) v ∧ Appable K' w.heap.size w' e sz xs.length v ∧ Below w.heap.size w w'
theorem FunA.fun {P : Program} {f : FuncId} {args : List D} {e sz : Nat} {xs : List (List D)} (h : FunA P f args e sz xs) : Fun P f args (.lst sz xs) :=
  ⟨h.1, fun K w vs hB hk hL => (h.2 K w vs hB hk hL).mono (fun en w' ⟨v, K', h1, h2, h3, h4, _, h5⟩ => ⟨v, K', h1, h2, h3, h4, h5⟩)⟩
/-! comparisons with nil -/
def nilD : TypeDesc → SV → SV → Bool
  | .interface _, .c (.d (.iface _ _)), .c (.d (.val .nilIface)) => true
  | .interface _, .c (.d (.val .nilIface)), .c (.d (.iface _ _)) => true
  | .pointer _, .c (.own _ _), .c (.d (.val (.pointer none))) => true
  | .pointer _, .c (.d (.ptr _ _)), .c (.d (.val (.pointer none))) => true
  | .func _ _ _, .c (.d (.fn _ _)), .c (.d (.val .nilFunc)) => true
  | .slice _, .c (.d (.lst _ (_ :: _))), .c (.d (.val (.slice none 0 0))) => true
  | _, _, _ => false
def aBin (P : Program) (op : BinOp) (t : TypeId) (x y : Operand) (sx sy : SV) : Option Res :=
  match sx.exact, sy.exact with
  | some vx, some vy => sc P (do eqGuard op t x y vx vy; binOp op t vx vy)
  | _, _ => match P.underlying t with
    | some u => if nilD u sx sy then match op with
        | .eql => some (Res.pure (.c (.d (.val (.bool false)))))
        | .neq => some (Res.pure (.c (.d (.val (.bool true)))))
        | _ => none
      else none
    | none => none
theorem ok_bin {P : Program} {W0 : Fr} {K0 : Know} {g : G} {H : Hp} {w : World} {r : Res} {op : BinOp} {t : TypeId} {x y : Operand} {sx sy : SV} {vx vy : Value} (hh : RelH W0 K0 g H w) (hx : RepS g H sx vx) (hy : RepS g H sy vy) (h : aBin P op t x y sx sy = some r) :
    RunOk P W0 K0 (vN (do eqGuard op t x y vx vy; binOp op t vx vy)) g H w r := by
  unfold aBin at h
  split at h
  · rename_i ux uy hux huy
    rw [SV.exact_rep hx hux, SV.exact_rep hy huy]
    exact ok_sc hh h
  · split at h
    · rename_i u hu
      split at h
      · rename_i hn
        have key : (Op.equal t vx vy).run P w = .ok false w ∧ (∀ a, (eqGuard .eql t x y vx vy).run P w = .ok a w ∨ True) ∧ ((∃ t v, vx = .iface t v ∧ vy = .nilIface) ∨ (∃ t v, vx = .nilIface ∧ vy = .iface t v) ∨ (∃ a, vx = .pointer (some a) ∧ vy = .pointer none) ∨ (∃ f a b, vx = .func f a b ∧ vy = .nilFunc) ∨ (∃ a n c, vx = .slice (some a) n c ∧ vy = .slice none 0 0)) := by
          unfold nilD at hn
          split at hn
          · have hx : Rep g.K (.iface _ _) vx := hx
            have hy : Rep g.K (.val .nilIface) vy := hy
            cases hx; cases hy
            refine ⟨?_, fun _ => .inr trivial, .inl ⟨_, _, rfl, rfl⟩⟩
            unfold Op.equal; rw [show Op.maxDepth = 9999 + 1 from rfl]; unfold Op.equalIn
            simp [run_underlying hu]
          · have hx : Rep g.K (.val .nilIface) vx := hx
            have hy : Rep g.K (.iface _ _) vy := hy
            cases hx; cases hy
            refine ⟨?_, fun _ => .inr trivial, .inr (.inl ⟨_, _, rfl, rfl⟩)⟩
            unfold Op.equal; rw [show Op.maxDepth = 9999 + 1 from rfl]; unfold Op.equalIn
            simp [run_underlying hu]
          · obtain ⟨b, hb, rfl, _⟩ := hx
            have hy : Rep g.K (.val (.pointer none)) vy := hy
            cases hy
            refine ⟨?_, fun _ => .inr trivial, .inr (.inr (.inl ⟨_, rfl, rfl⟩))⟩
            unfold Op.equal; rw [show Op.maxDepth = 9999 + 1 from rfl]; unfold Op.equalIn
            simp [run_underlying hu]
          · have hx : Rep g.K (.ptr _ _) vx := hx
            have hy : Rep g.K (.val (.pointer none)) vy := hy
            cases hx; cases hy
            refine ⟨?_, fun _ => .inr trivial, .inr (.inr (.inl ⟨_, rfl, rfl⟩))⟩
            unfold Op.equal; rw [show Op.maxDepth = 9999 + 1 from rfl]; unfold Op.equalIn
            simp [run_underlying hu]
          · have hx : Rep g.K (.fn _ _) vx := hx
            have hy : Rep g.K (.val .nilFunc) vy := hy
            cases hx; cases hy
            refine ⟨?_, fun _ => .inr trivial, .inr (.inr (.inr (.inl ⟨_, _, _, rfl, rfl⟩)))⟩
            unfold Op.equal; rw [show Op.maxDepth = 9999 + 1 from rfl]; unfold Op.equalIn
            simp [run_underlying hu]
          · have hx : Rep g.K (.lst _ (_ :: _)) vx := hx
            have hy : Rep g.K (.val (.slice none 0 0)) vy := hy
            obtain ⟨a, c, us, rfl, _, _, _, _, hk⟩ := hx.inv
            obtain ⟨b, off, rfl, _⟩ := hk (by simp)
            cases hy
            refine ⟨?_, fun _ => .inr trivial, .inr (.inr (.inr (.inr ⟨_, _, _, rfl, rfl⟩)))⟩
            unfold Op.equal; rw [show Op.maxDepth = 9999 + 1 from rfl]; unfold Op.equalIn
            simp [run_underlying hu]
          · cases hn
        obtain ⟨heq, _, hsh⟩ := key
        have hb1 : binOp .eql t vx vy = (do pure (.bool (← Op.equal t vx vy))) := by
          rcases hsh with ⟨_, _, rfl, rfl⟩ | ⟨_, _, rfl, rfl⟩ | ⟨_, rfl, rfl⟩ | ⟨_, _, _, rfl, rfl⟩ | ⟨_, _, _, rfl, rfl⟩ <;> rfl
        have hb2 : binOp .neq t vx vy = (do pure (.bool (!(← Op.equal t vx vy)))) := by
          rcases hsh with ⟨_, _, rfl, rfl⟩ | ⟨_, _, rfl, rfl⟩ | ⟨_, rfl, rfl⟩ | ⟨_, _, _, rfl, rfl⟩ | ⟨_, _, _, rfl, rfl⟩ <;> rfl
        have hg : ∀ op, (eqGuard op t x y vx vy).run P w = .ok () w := by
          intro op
          unfold eqGuard
          rcases hsh with ⟨_, _, rfl, rfl⟩ | ⟨_, _, rfl, rfl⟩ | ⟨_, rfl, rfl⟩ | ⟨_, _, _, rfl, rfl⟩ | ⟨_, _, _, rfl, rfl⟩ <;> (split <;> rfl)
        split at h
        · cases h
          exact RunOk.same hh (v := .bool false) (by rw [vN_run, hb1]; simp [hg, heq]) (Rep.val _)
        · cases h
          exact RunOk.same hh (v := .bool true) (by rw [vN_run, hb2]; simp [hg, heq]) (Rep.val _)
        · cases h
      · cases h
    · cases h
def ptrLike : SV → Bool
  | .c (.own _ _) => true
  | .c (.d (.ptr _ _)) => true
  | .c (.d (.iface _ _)) => true
  | .c (.d (.fn (.func _) _)) => true
  | _ => false
def aop (P : Program) (op : Op) (ρ : Operand → SV) (H : Hp) (nx : Nat) : Option Res :=
  match op with
  | .move x => some (Res.pure (ρ x))
  | .assign x => some (Res.pure (ρ x))
  | .pick c a b => match (ρ c).exact with
    | some (.bool t) => some (Res.pure (if t then ρ a else ρ b))
    | _ => none
  | .alloc t => aAlloc P H nx t
  | .box _ x => aBox H nx (ρ x)
  | .build t ps => aBuild P t (ps.toList.map fun p => (p.1, ρ p.2))
  | .buildSlice t len ps => aBuildSlice P t len (ps.toList.map fun p => (p.1, ρ p.2))
  | .load t a => aLoad P t H (ρ a)
  | .store t a x => aStore P t H (ρ a) (ρ x)
  | .nilCheck x => if ptrLike (ρ x) then some (Res.pure (ρ x)) else none
  | .binOp op t x y _ => aBin P op t x y (ρ x) (ρ y)
  | .unOp op _ x => match (ρ x).exact with
    | some v => sc P (Op.unary op v)
    | none => none
  | .convert s d x => match (ρ x).exact with
    | some v => sc P (convert s d v)
    | none => none
  | .makeInterface t x => aIface P t H (ρ x)
  | .makeFunc fn first caps => aMakeFunc H fn (first.toList.map ρ) (caps.toList.map ρ)
  | .slice t x lo hi mx => aSlice P t (ρ x) (lo.map ρ) (hi.map ρ) (mx.map ρ)
  | .fieldAddr s x f => aField P s f (ρ x)
  | .field t x f => aPart P t f (ρ x)
  | .indexAddr t x i => aIndexAddr P t (ρ x) (ρ i)
  | .index t x i => match (ρ x).exact, (ρ i).exact with
    | some v, some u => sc P (Instr.index t v u)
    | _, _ => none
  | .extract x i => aExtract (ρ x) i
  | .makeSlice t l c => aMakeSlice P H nx t (ρ l) (ρ c)
  | _ => none
theorem parts_rep {g : G} {H : Hp} {ρ : Operand → SV} {a : Act} : ∀ (ps : List (Nat × Operand)), (∀ p ∈ ps, RepS g H (ρ p.2) (a.eval p.2)) → RepParts g H (ps.map fun p => (p.1, ρ p.2)) (ps.map fun p => (p.1, a.eval p.2))
  | [], _ => trivial
  | p :: ps, h => ⟨rfl, h p (by simp), parts_rep ps (fun q hq => h q (by simp [hq]))⟩
theorem list_rep {g : G} {H : Hp} {ρ : Operand → SV} {a : Act} (ps : List Operand) (h : ∀ p ∈ ps, RepS g H (ρ p) (a.eval p)) : RepSs g H (ps.map ρ) (ps.map a.eval) :=
  ⟨by simp, fun j x v hx hv => by
    simp only [List.getElem?_map, Option.map_eq_some_iff] at hx hv
    obtain ⟨p, hp, rfl⟩ := hx
    obtain ⟨q, hq, rfl⟩ := hv
    rw [hp] at hq; cases hq
    exact h p (List.mem_of_getElem? hp)⟩
theorem omap_rep {g : G} {H : Hp} {ρ : Operand → SV} {a : Act} (o : Option Operand) (h : ∀ x, o = some x → RepS g H (ρ x) (a.eval x)) :
    match o.map ρ, o.map a.eval with | none, none => True | some x, some v => RepS g H x v | _, _ => False := by
  cases o with
  | none => trivial
  | some x => exact h x rfl
theorem aop_sound {P : Program} {W0 : Fr} {K0 : Know} {o : Oper} {ρ : Operand → SV} {H : Hp} {nx : Nat} {r : Res} {g : G} {a : Act} {w : World} (hh : RelH W0 K0 g H w) (hρ : ∀ x ∈ o.op.operands, RepS g H (ρ x) (a.eval x)) (h : aop P o.op ρ H nx = some r) :
    RunOk P W0 K0 (execOp a.eval o) g H w r := by
  obtain ⟨dst, op, type, pos, after, guard⟩ := o
  cases op <;> simp only [Op.operands] at hρ <;> simp only [aop] at h <;> (try (cases h; done)) <;> simp only [execOp]
  case move x => cases h; exact RunOk.same hh rfl (hρ x (by simp))
  case assign x => cases h; exact RunOk.same hh rfl (hρ x (by simp))
  case pick c x y =>
    split at h
    · rename_i t ht
      cases h
      have hc := SV.exact_rep (hρ c (by simp)) ht
      refine RunOk.same hh (v := if t then a.eval x else a.eval y) (by simp [hc, asBool]) ?_
      cases t
      · exact hρ y (by simp)
      · exact hρ x (by simp)
    · cases h
  case alloc t => exact ok_alloc hh h
  case box t x => exact ok_box hh (hρ x (by simp)) h
  case build t ps =>
    refine ok_build hh ?_ h
    have := parts_rep (g := g) (H := H) (ρ := ρ) (a := a) ps.toList (fun p hp => hρ p.2 (by simp; exact ⟨p.1, by simpa using hp⟩))
    simpa using this
  case buildSlice t len ps =>
    refine ok_buildSlice hh ?_ h
    have := parts_rep (g := g) (H := H) (ρ := ρ) (a := a) ps.toList (fun p hp => hρ p.2 (by simp; exact ⟨p.1, by simpa using hp⟩))
    simpa using this
  case load t x => exact ok_load hh (hρ x (by simp)) h
  case store t x y => exact ok_store hh (hρ x (by simp)) (hρ y (by simp)) h
  case nilCheck x =>
    split at h
    · rename_i hp
      cases h
      have hx := hρ x (by simp)
      refine RunOk.same hh (v := a.eval x) ?_ hx
      generalize ρ x = s at hp hx
      generalize a.eval x = v at hx
      unfold ptrLike at hp
      split at hp
      · obtain ⟨b, _, rfl, _⟩ := hx; rfl
      · have hx : Rep g.K (.ptr _ _) v := hx
        cases hx; rfl
      · have hx : Rep g.K (.iface _ _) v := hx
        cases hx; rfl
      · have hx : Rep g.K (.fn _ _) v := hx
        cases hx; rfl
      · cases hp
    · cases h
  case binOp op t x y yt => exact ok_bin hh (hρ x (by simp)) (hρ y (by simp)) h
  case unOp op t x =>
    split at h
    · rename_i v hv
      rw [SV.exact_rep (hρ x (by simp)) hv]; exact ok_sc hh h
    · cases h
  case convert s d x =>
    split at h
    · rename_i v hv
      rw [SV.exact_rep (hρ x (by simp)) hv]; exact ok_sc hh h
    · cases h
  case makeInterface t x => exact ok_iface hh (hρ x (by simp)) h
  case makeFunc fn first caps =>
    have := ok_makeFunc (P := P) hh (list_rep (a := a) first.toList (fun p hp => hρ p (by simp at hp; simp [hp]))) (list_rep (a := a) caps.toList (fun p hp => hρ p (by simp at hp; simp [hp]))) h
    rw [show (first.toList.map a.eval).toArray = first.map a.eval from by apply Array.ext'; simp, show (caps.toList.map a.eval).toArray = caps.map a.eval from by apply Array.ext'; simp] at this
    exact this
  case slice t x lo hi mx =>
    exact ok_slice hh (hρ x (by simp)) (omap_rep lo (fun y hy => hρ y (by simp [hy]))) (omap_rep hi (fun y hy => hρ y (by simp [hy]))) (omap_rep mx (fun y hy => hρ y (by simp [hy]))) h
  case fieldAddr s x f => exact ok_field_addr hh (hρ x (by simp)) h
  case field t x f => exact ok_part hh (hρ x (by simp)) h
  case indexAddr t x i => exact ok_indexAddr hh (hρ x (by simp)) (hρ i (by simp)) h
  case index t x i =>
    split at h
    · rename_i v u hv hu
      rw [SV.exact_rep (hρ x (by simp)) hv, SV.exact_rep (hρ i (by simp)) hu]; exact ok_sc hh h
    · cases h
  case extract x i => exact ok_extract hh (hρ x (by simp)) h
  case makeSlice t l c => exact ok_makeSlice hh (hρ l (by simp)) (hρ c (by simp)) h
/-! builtins and calls -/
def abuiltin (P : Program) (b : Builtin) (ts : List TypeId) (ty : TypeId) (xs : List SV) (H : Hp) (nx : Nat) : Option (Res × Nat) :=
  match b with
  | .len => match ts, xs with
    | [t], [x] => match aLen P t x with
      | some r => some (r, 0)
      | none => none
    | _, _ => none
  | .append => match ts, xs with
    | [t, t'], [x, y] => if t = t' then match esize P t with
        | some (_, _, bb, _) => if 0 < bb then aAppend P t H nx x y else none
        | none => none
      else none
    | _, _ => none
  | .min => match mapO SV.exact xs with
    | some vs => match sc P (Builtin.min_ ts.toArray ty vs.toArray) with
      | some r => some (r, 0)
      | none => none
    | none => none
  | .max => match mapO SV.exact xs with
    | some vs => match sc P (Builtin.max_ ts.toArray ty vs.toArray) with
      | some r => some (r, 0)
      | none => none
    | none => none
  | _ => none
theorem exacts_rep {g : G} {H : Hp} {xs : List SV} {vs us : List Value} (h : RepSs g H xs vs) (hu : mapO SV.exact xs = some us) : vs = us := by
  obtain ⟨h1, h2⟩ := mapO_get hu
  have hl : vs.length = us.length := by have := h.1; omega
  apply List.ext_getElem hl
  intro j hj hj'
  obtain ⟨x, hx, hxe⟩ := h2 j us[j] (List.getElem?_eq_getElem hj')
  exact SV.exact_rep (h.2 j x vs[j] hx (List.getElem?_eq_getElem hj)) hxe
theorem ok_builtin {P : Program} {W0 : Fr} {K0 : Know} {g : G} {H : Hp} {w : World} {r : Res} {b : Builtin} {ts : List TypeId} {ty : TypeId} {cs : Array Bool} {nx tot : Nat} {xs : List SV} {vs : List Value} (hh : RelH W0 K0 g H w) (hx : RepSs g H xs vs)
    (h : abuiltin P b ts ty xs H nx = some (r, tot)) (ht : tot ≤ 140737488355328) : RunOk P W0 K0 (builtin b ts.toArray ty cs vs.toArray) g H w r := by
  unfold abuiltin at h
  split at h
  · split at h
    · rename_i t x
      split at h
      · rename_i r' hr
        cases h
        obtain ⟨v, rfl⟩ : ∃ v, vs = [v] := by
          have := hx.1
          match vs, this with
          | [v], _ => exact ⟨v, rfl⟩
        exact ok_len hh (hx.2 0 x v rfl rfl) hr
      · cases h
    · cases h
  · split at h
    · rename_i t t' x y
      split at h
      · rename_i e
        subst e
        split at h
        · rename_i e0 s0 bb zs hes
          split at h
          · rename_i hbb
            obtain ⟨v, u, rfl⟩ : ∃ v u, vs = [v, u] := by
              have := hx.1
              match vs, this with
              | [v, u], _ => exact ⟨v, u, rfl⟩
            exact ok_append hh (hx.2 0 x v rfl rfl) (hx.2 1 y u rfl rfl) h ht (fun e' s' b' z' h' => by rw [hes] at h'; cases h'; exact hbb)
          · cases h
        · cases h
      · cases h
    · cases h
  · split at h
    · rename_i us hus
      split at h
      · rename_i r' hr
        cases h
        rw [exacts_rep hx hus]
        exact ok_sc hh hr
      · cases h
    · cases h
  · split at h
    · rename_i us hus
      split at h
      · rename_i r' hr
        cases h
        rw [exacts_rep hx hus]
        exact ok_sc hh hr
      · cases h
    · cases h
  · cases h
/-- One operation, with what is done behind it. -/
def astep (P : Program) (o : Oper) (ρ : Operand → SV) (H : Hp) (nx : Nat) (k : Res → Prop) : Prop :=
  match o.op with
  | .call c => match c.callee with
    | .builtin b => match abuiltin P b c.argTypes.toList o.type (c.args.toList.map ρ) H nx with
      | some (r, tot) => tot ≤ 140737488355328 ∧ k r
      | none => False
    | .value f => match ρ f with
      | .c (.d (.fn (.func f) caps)) => match mapO (SV.toD H) (c.args.toList.map ρ) with
        | some ds => (∃ y, Fun P f (ds ++ caps) y ∧ k ⟨SV.ofD y, none, (c.args.toList.map ρ).flatMap ownId, false⟩) ∨
            (∃ e sz xs, FunA P f (ds ++ caps) e sz xs ∧ H nx = none ∧ k ⟨.c (.app nx sz xs), some (nx, .row e sz xs.length), nx :: (c.args.toList.map ρ).flatMap ownId, true⟩)
        | none => False
      | _ => False
    | _ => False
  | op => match aop P op ρ H nx with
    | some r => k r
    | none => False
def AStep (P : Program) (o : Oper) (ρ : Operand → SV) (H : Hp) (nx : Nat) (r : Res) : Prop := astep P o ρ H nx (fun r' => r' = r)
theorem astep_get {P : Program} {o : Oper} {ρ : Operand → SV} {H : Hp} {nx : Nat} {k : Res → Prop} (h : astep P o ρ H nx k) : ∃ r, AStep P o ρ H nx r ∧ k r := by
  unfold AStep
  unfold astep at *
  split at h
  · split at h
    · split at h
      · rename_i r tot hr
        exact ⟨r, ⟨h.1, rfl⟩, h.2⟩
      · exact h.elim
    · split at h
      · split at h
        · rcases h with ⟨y, h1, h2⟩ | ⟨e, sz, xs, h1, h2, h3⟩
          · exact ⟨_, .inl ⟨y, h1, rfl⟩, h2⟩
          · exact ⟨_, .inr ⟨e, sz, xs, h1, h2, rfl⟩, h3⟩
        · exact h.elim
      · exact h.elim
    · exact h.elim
  · split at h
    · rename_i r hr
      exact ⟨r, rfl, h⟩
    · exact h.elim
theorem astep_put {P : Program} {o : Oper} {ρ : Operand → SV} {H : Hp} {nx : Nat} {k : Res → Prop} {r : Res} (h : AStep P o ρ H nx r) (hk : k r) : astep P o ρ H nx k := by
  unfold AStep at h
  unfold astep at *
  split at h
  · split at h
    · split at h
      · obtain ⟨h1, rfl⟩ := h; exact ⟨h1, hk⟩
      · exact h.elim
    · split at h
      · split at h
        · rcases h with ⟨y, h1, rfl⟩ | ⟨e, sz, xs, h1, h2, rfl⟩
          · exact .inl ⟨y, h1, hk⟩
          · exact .inr ⟨e, sz, xs, h1, h2, hk⟩
        · exact h.elim
      · exact h.elim
    · exact h.elim
  · split at h
    · subst h; exact hk
    · exact h.elim
def StepPost (W0 : Fr) (K0 : Know) (o : Oper) (a : Act) (g : G) (H : Hp) (r : Res) (a' : Act) (w' : World) : Prop :=
  ∃ v g', a' = a.put o.dst v ∧ RepS g' (hup H r.up) r.v v ∧ RelH W0 K0 g' (hup H r.up) w' ∧ GLe g H g' (hup H r.up)
/-- No fence but the round that the frame is of. -/
abbrev fen (ro : Option Nat) : Fence := { Fence.wide with round := ro }
theorem callsIn_fen {ro : Option Nat} {n : Nat} {P : Program} {f : FuncId} {args : Array Value} {w : World} {R : Ending → World → Prop} (h : Calls P f args w R) : CallsIn (fen ro) n P f args w R := by
  have h0 : CallsIn Fence.wide n P f args w R := callsIn_wide.2 h
  exact h0
theorem fen_depth {ro : Option Nat} {n : Nat} : (fen ro).depth.isSome = true → 1 ≤ n := fun h => by simp [fen, Fence.wide] at h
theorem RunOk.wp {P : Program} {W0 : Fr} {K0 : Know} {o : Oper} {a : Act} {g : G} {H : Hp} {w : World} {r : Res} {ro : Option Nat} (hnd : ∀ c, o.op ≠ .defer c) (h : RunOk P W0 K0 (execOp a.eval o) g H w r) (Q : Exit → Act → World → Prop) : o.wpIn (fen ro) 0 P a w (StepPost W0 K0 o a g H r) Q := by
  obtain ⟨n, v, w', g', hr, hn, h1, h2, h3⟩ := h
  refine ⟨fun _ _ => trivial, ?_⟩
  rw [Oper.semAt_eq _ _ _ hnd, hr]
  rcases hn with rfl | ⟨rfl, rfl⟩
  · exact ⟨v, g', rfl, h1, h2, h3⟩
  · exact ⟨undef, g', rfl, h1, h2, h3⟩
theorem step_sound {P : Program} {W0 : Fr} {K0 : Know} {o : Oper} {ρ : Operand → SV} {H : Hp} {nx : Nat} {r : Res} {g : G} {a : Act} {w : World} (hh : RelH W0 K0 g H w) (hρ : ∀ x ∈ o.op.operands, RepS g H (ρ x) (a.eval x)) (h : AStep P o ρ H nx r) (ro : Option Nat) (Q : Exit → Act → World → Prop) :
    o.wpIn (fen ro) 0 P a w (StepPost W0 K0 o a g H r) Q := by
  have hnd : ∀ c, o.op ≠ .defer c := by
    intro c hc
    unfold AStep astep at h
    rw [hc] at h
    simp [aop] at h
  unfold AStep astep at h
  split at h
  · rename_i c hop
    rw [hop] at hρ
    simp only [Op.operands, Call.operands] at hρ
    have hargs : RepSs g H (c.args.toList.map ρ) (c.args.toList.map a.eval) := list_rep c.args.toList (fun p hp => hρ p (by simp at hp; simp [hp]))
    have hmap : c.args.map a.eval = (c.args.toList.map a.eval).toArray := by apply Array.ext'; simp
    split at h
    · rename_i b hb
      split at h
      · rename_i r' tot hr
        obtain ⟨ht, rfl⟩ := h
        apply RunOk.wp hnd
        have := fun cs => ok_builtin (P := P) (cs := cs) hh hargs hr ht
        simp only [Array.toArray_toList] at this
        unfold execOp
        rw [hop]
        simp only [resolve, hb, hmap]
        exact this _
      · exact h.elim
    · rename_i f hf
      split at h
      · rename_i fid caps hρf
        split at h
        · rename_i ds hds
          have hfv := hρ f (by simp [hf])
          rw [hρf] at hfv
          have hfv : Rep g.K (.fn (.func fid) caps) (a.eval f) := hfv
          generalize hav : a.eval f = fv at hfv
          cases hfv with
          | fn hl hv =>
            rename_i cvs
            obtain ⟨h1, h2⟩ := mapO_get hds
            have hL : RepL g.K (ds ++ caps) (c.args.toList.map a.eval ++ cvs) := by
              refine RepL.append ⟨by rw [h1, hargs.1], fun j x v hx hv' => ?_⟩ ⟨hl, hv⟩
              obtain ⟨s, hs, hsx⟩ := h2 j x hx
              exact SV.toD_rep hh (hargs.2 j s v hs hv') hsx
            have hrun : bodyOk P fid = true → (execOp a.eval o).run P w = .ok (.enter fid (c.args.toList.map a.eval ++ cvs).toArray) w := fun hbody => by
              unfold execOp
              rw [hop]
              unfold bodyOk at hbody
              split at hbody
              · rename_i fn hfn
                simp only [Bool.and_eq_true, Bool.not_eq_true'] at hbody
                simp only [resolve, hf, hmap, hav, Deferred.ofValue]
                have hb1 : ¬ fn.body = none := by intro e; rw [e] at hbody; simp at hbody
                have hb2 : ¬ fn.name = "runtime.NumGoroutine" := by simpa using hbody.1
                simp [invoke, callFunc, hfn, hb1, hb2]
              · cases hbody
            have hBg : KLe BaseK g.K := hh.glob.trans hh.ext.1
            rcases h with ⟨y, hfun, rfl⟩ | ⟨e, sz, xs, hfun, hnx, rfl⟩
            · obtain ⟨hbody, hcalls⟩ := hfun
              have hc := hcalls g.K w _ hBg hh.kw hL
              refine ⟨fun _ _ => trivial, ?_⟩
              rw [Oper.semAt_eq _ _ _ hnd, hrun hbody]
              simp only [Oper.uponIn]
              refine ⟨fen_depth, callsIn_fen (hc.mono ?_)⟩
              rintro e w' ⟨v, K', rfl, he, hk, hr, hb⟩
              exact ⟨v, { g with K := K' }, rfl, ofD_rep hr _ _ rfl, hh.grow hb he hk, GLe.ofK he.1⟩
            · obtain ⟨hbody, hcalls⟩ := hfun
              have hc := hcalls g.K w _ hBg hh.kw hL
              refine ⟨fun _ _ => trivial, ?_⟩
              rw [Oper.semAt_eq _ _ _ hnd, hrun hbody]
              simp only [Oper.uponIn]
              refine ⟨fen_depth, callsIn_fen (hc.mono ?_)⟩
              rintro en w' ⟨v, K', rfl, he, hk, hr, hap, hb⟩
              obtain ⟨g', hrel, hle, hrc⟩ := RelH.gotrow (hh.grow hb he hk) hnx hr hap (fun _ _ => trivial) (fun i b hi => hh.frozlt i b hi) hh.below.size
              exact ⟨v, g', rfl, hrc, hrel, (GLe.ofK he.1).trans hle⟩
        · exact h.elim
      · exact h.elim
    · exact h.elim
  · split at h
    · rename_i r' hr
      subst h
      exact (aop_sound hh hρ hr).wp hnd Q
    · exact h.elim
end Go.Proofs.YticbdcpdooahjaaDoor
