/- The abstract machine: scalars and strings, as rules for simp. -/
import Derived.Test.YticbdcpdooahjaaDoorAbsN
import Derived.IntWalk
import Derived.Laws.Strings
namespace Go.Proofs.YticbdcpdooahjaaDoor
open Go Go.RowKit
set_option linter.unusedVariables false
set_option linter.unusedSimpArgs false
abbrev str (l : List UInt8) : D := .val (.string ⟨l.toArray⟩)
abbrev int (n : Int) : D := .val (.int .i64 n)
abbrev boo (b : Bool) : D := .val (.bool b)
theorem upd_app {α : Type} (f : Nat → α) (t : Nat) (v : α) (i : Nat) : upd f t v i = match i == t with | true => v | false => f i := by
  unfold upd
  by_cases h : i = t
  · subst h; simp
  · rw [if_neg h, show (i == t) = false from by simpa using h]
theorem forget_app (l : List Nat) (env : Nat → SV) (t : Nat) : forget l env t = match l.contains t with | true => .c .any | false => env t := by
  unfold forget; cases l.contains t <;> rfl
theorem entry_env (args : List D) (n t : Nat) : (entry args n).env t = match args[t]? with | some x => SV.ofD x | none => .c .any := rfl
theorem entry_H (args : List D) (n i : Nat) : (entry args n).H i = none := rfl
theorem entry_nx (args : List D) (n : Nat) : (entry args n).nx = 0 := rfl
theorem entry_sz (args : List D) (n : Nat) : (entry args n).sz = n := rfl
theorem step_def (σ : St) (o : Oper) (r : Res) : σ.step o r = ⟨putE σ.env o.dst r.v, hup σ.H r.up, if r.al then σ.nx + 1 else σ.nx, σ.sz, σ.fx⟩ := rfl
theorem skip_def (σ : St) (o : Oper) : σ.skip o = ⟨putE σ.env o.dst (.c (.d (.val undef))), σ.H, σ.nx, σ.sz, σ.fx⟩ := rfl
theorem putE_some (env : Nat → SV) (d : Nat) (x : SV) : putE env (some d) x = upd env d x := rfl
theorem putE_none (env : Nat → SV) (x : SV) : putE env none x = env := rfl
theorem hup_none (H : Hp) : hup H none = H := rfl
theorem hup_some (H : Hp) (id : Nat) (he : HE) : hup H (some (id, he)) = upd H id (some he) := rfl
theorem ofL_app (L : List (Nat × SV)) (t : Nat) : ofL L t = match L.lookup t with | some x => x | none => .c .any := rfl
theorem ofH_app (M : List (Nat × HE)) (t : Nat) : ofH M t = M.lookup t := rfl
theorem bs_toList (l : List UInt8) : (ByteArray.mk l.toArray).toList = l := ByteArray.toList_mk l
theorem pureRun_bind (P : Program) {α β : Type} : ∀ (s : Sem α) (f : α → Sem β), pureRun P (s >>= f) = match pureRun P s with | some a => pureRun P (f a) | none => none := by
  intro s f
  show pureRun P (s.bind f) = _
  induction s with
  | pure a => rfl
  | program k ih => exact ih P
  | mark m k ih => exact ih
  | _ => rfl
theorem pureRun_pure (P : Program) {α : Type} (a : α) : pureRun P (pure a : Sem α) = some a := rfl
theorem pureRun_und {P : Program} {t : TypeId} {u : TypeDesc} (h : P.underlying t = some u) : pureRun P (underlying t) = some u := by
  unfold underlying
  rw [pureRun_bind]
  show pureRun P (match P.underlying t with | some d => pure d | none => stuck "no such type") = _
  rw [h]; rfl
theorem bs_size (l : List UInt8) : (ByteArray.mk l.toArray).size = l.length := by simp [ByteArray.size]
theorem bs_append (a b : List UInt8) : (ByteArray.mk a.toArray ++ ByteArray.mk b.toArray : ByteArray) = ⟨(a ++ b).toArray⟩ := by
  apply ByteArray.ext; simp
theorem bs_extract (a : List UInt8) (l h : Nat) : (ByteArray.mk a.toArray).extract l h = ⟨((a.drop l).take (h - l)).toArray⟩ := by
  apply ByteArray.ext; simp [List.extract_eq_take_drop]
section
variable {P : Program} {t : TypeId} {x y : Operand} {k : IntKind} {a b : Int}
abbrev vi (k : IntKind) (n : Int) : SV := .c (.d (.val (.int k n)))
abbrev vb (b : Bool) : SV := .c (.d (.val (.bool b)))
abbrev vs (l : List UInt8) : SV := .c (.d (.val (.string ⟨l.toArray⟩)))
theorem bin_add : aBin P .add t x y (vi k a) (vi k b) = some (Res.pure (vi k (k.wrap (a + b)))) := by cases k <;> rfl
theorem bin_sub : aBin P .sub t x y (vi k a) (vi k b) = some (Res.pure (vi k (k.wrap (a - b)))) := by cases k <;> rfl
theorem bin_mul : aBin P .mul t x y (vi k a) (vi k b) = some (Res.pure (vi k (k.wrap (a * b)))) := by cases k <;> rfl
theorem bin_eql : aBin P .eql t x y (vi k a) (vi k b) = some (Res.pure (vb (a == b))) := by cases k <;> rfl
theorem bin_neq : aBin P .neq t x y (vi k a) (vi k b) = some (Res.pure (vb (a != b))) := by cases k <;> rfl
theorem bin_lss : aBin P .lss t x y (vi k a) (vi k b) = some (Res.pure (vb (decide (a < b)))) := by cases k <;> rfl
theorem bin_leq : aBin P .leq t x y (vi k a) (vi k b) = some (Res.pure (vb (decide (a ≤ b)))) := by cases k <;> rfl
theorem bin_gtr : aBin P .gtr t x y (vi k a) (vi k b) = some (Res.pure (vb (decide (b < a)))) := by cases k <;> rfl
theorem bin_geq : aBin P .geq t x y (vi k a) (vi k b) = some (Res.pure (vb (decide (b ≤ a)))) := by cases k <;> rfl
theorem bin_quo (hb : b ≠ 0) : aBin P .quo t x y (vi k a) (vi k b) = some (Res.pure (vi k (k.wrap (a.tdiv b)))) := by
  have : sc P (do eqGuard .quo t x y (.int k a) (.int k b); binOp .quo t (.int k a) (.int k b)) = some (Res.pure (vi k (k.wrap (a.tdiv b)))) := by
    have e : (do eqGuard .quo t x y (.int k a) (.int k b); binOp .quo t (.int k a) (.int k b)) = (Sem.pure (.int k (k.wrap (a.tdiv b)))) := by
      cases k <;> (show (if b = 0 then _ else _) = _; rw [if_neg hb]; rfl)
    rw [e]; rfl
  exact this
theorem bin_rem (hb : b ≠ 0) : aBin P .rem t x y (vi k a) (vi k b) = some (Res.pure (vi k (a.tmod b))) := by
  have : sc P (do eqGuard .rem t x y (.int k a) (.int k b); binOp .rem t (.int k a) (.int k b)) = some (Res.pure (vi k (a.tmod b))) := by
    have e : (do eqGuard .rem t x y (.int k a) (.int k b); binOp .rem t (.int k a) (.int k b)) = (Sem.pure (.int k (a.tmod b))) := by
      cases k <;> (show (if b = 0 then _ else _) = _; rw [if_neg hb]; rfl)
    rw [e]; rfl
  exact this
variable {l m : List UInt8}
theorem sbin_eql : aBin P .eql t x y (vs l) (vs m) = some (Res.pure (vb (l == m))) := by
  show some (Res.pure (vb ((ByteArray.mk l.toArray).toList == (ByteArray.mk m.toArray).toList))) = _
  rw [bs_toList, bs_toList]
theorem sbin_neq : aBin P .neq t x y (vs l) (vs m) = some (Res.pure (vb (!(l == m)))) := by
  show some (Res.pure (vb (!((ByteArray.mk l.toArray).toList == (ByteArray.mk m.toArray).toList)))) = _
  rw [bs_toList, bs_toList]
theorem sbin_lss : aBin P .lss t x y (vs l) (vs m) = some (Res.pure (vb (Op.bytesLess l m))) := by
  show some (Res.pure (vb (Op.bytesLess (ByteArray.mk l.toArray).toList (ByteArray.mk m.toArray).toList))) = _
  rw [bs_toList, bs_toList]
theorem sbin_leq : aBin P .leq t x y (vs l) (vs m) = some (Res.pure (vb (Op.bytesLess l m || l == m))) := by
  show some (Res.pure (vb (Op.bytesLess (ByteArray.mk l.toArray).toList (ByteArray.mk m.toArray).toList || (ByteArray.mk l.toArray).toList == (ByteArray.mk m.toArray).toList))) = _
  rw [bs_toList, bs_toList]
theorem sbin_gtr : aBin P .gtr t x y (vs l) (vs m) = some (Res.pure (vb (!(Op.bytesLess l m || l == m)))) := by
  show some (Res.pure (vb (!(Op.bytesLess (ByteArray.mk l.toArray).toList (ByteArray.mk m.toArray).toList || (ByteArray.mk l.toArray).toList == (ByteArray.mk m.toArray).toList)))) = _
  rw [bs_toList, bs_toList]
theorem sbin_geq : aBin P .geq t x y (vs l) (vs m) = some (Res.pure (vb (!Op.bytesLess l m))) := by
  show some (Res.pure (vb (!Op.bytesLess (ByteArray.mk l.toArray).toList (ByteArray.mk m.toArray).toList))) = _
  rw [bs_toList, bs_toList]
theorem sbin_add (h : l.length + m.length ≤ 9223372036854775807) : aBin P .add t x y (vs l) (vs m) = some (Res.pure (vs (l ++ m))) := by
  have : sc P (do eqGuard .add t x y (.string ⟨l.toArray⟩) (.string ⟨m.toArray⟩); binOp .add t (.string ⟨l.toArray⟩) (.string ⟨m.toArray⟩)) = some (Res.pure (vs (l ++ m))) := by
    have e : (do eqGuard .add t x y (.string ⟨l.toArray⟩) (.string ⟨m.toArray⟩); binOp .add t (.string ⟨l.toArray⟩) (.string ⟨m.toArray⟩)) = (Sem.pure (.string ⟨(l ++ m).toArray⟩)) := by
      show (if (((ByteArray.mk l.toArray).size + (ByteArray.mk m.toArray).size : Nat) : Int) > IntKind.i64.max then _ else _) = _
      rw [if_neg (by rw [bs_size, bs_size]; show ¬ _ > (9223372036854775807 : Int); omega), bs_append]; rfl
    rw [e]; rfl
  exact this
theorem bbin_eql {p q : Bool} (hu : P.underlying t = some .bool) : aBin P .eql t x y (vb p) (vb q) = some (Res.pure (vb (p == q))) := by
  have : sc P (do eqGuard .eql t x y (.bool p) (.bool q); binOp .eql t (.bool p) (.bool q)) = some (Res.pure (vb (p == q))) := by
    unfold sc
    have e : pureRun P (do eqGuard .eql t x y (.bool p) (.bool q); binOp .eql t (.bool p) (.bool q)) = some (.bool (p == q)) := by
      have e0 : pureRun P (Op.equal t (.bool p) (.bool q)) = some (p == q) := by
        unfold Op.equal
        rw [show Op.maxDepth = 9999 + 1 from rfl]
        unfold Op.equalIn
        rw [pureRun_bind, pureRun_und hu]; rfl
      have e1 : pureRun P (eqGuard .eql t x y (.bool p) (.bool q)) = some () := rfl
      rw [pureRun_bind, e1]
      simp only [binOp]
      rw [pureRun_bind, e0]; rfl
    rw [e]; rfl
  exact this
theorem bbin_neq {p q : Bool} (hu : P.underlying t = some .bool) : aBin P .neq t x y (vb p) (vb q) = some (Res.pure (vb (!(p == q)))) := by
  have : sc P (do eqGuard .neq t x y (.bool p) (.bool q); binOp .neq t (.bool p) (.bool q)) = some (Res.pure (vb (!(p == q)))) := by
    unfold sc
    have e : pureRun P (do eqGuard .neq t x y (.bool p) (.bool q); binOp .neq t (.bool p) (.bool q)) = some (.bool (!(p == q))) := by
      have e0 : pureRun P (Op.equal t (.bool p) (.bool q)) = some (p == q) := by
        unfold Op.equal
        rw [show Op.maxDepth = 9999 + 1 from rfl]
        unfold Op.equalIn
        rw [pureRun_bind, pureRun_und hu]; rfl
      have e1 : pureRun P (eqGuard .neq t x y (.bool p) (.bool q)) = some () := rfl
      rw [pureRun_bind, e1]
      simp only [binOp]
      rw [pureRun_bind, e0]; rfl
    rw [e]; rfl
  exact this
theorem nil_run {op : BinOp} {vx vy : Value} {q : Bool} (e1 : pureRun P (eqGuard op t x y vx vy) = some ()) (e0 : pureRun P (Op.equal t vx vy) = some q) (h : (op = .eql ∧ binOp op t vx vy = (do pure (.bool (← Op.equal t vx vy)))) ∨ (op = .neq ∧ binOp op t vx vy = (do pure (.bool (!(← Op.equal t vx vy)))))) :
    sc P (do eqGuard op t x y vx vy; binOp op t vx vy) = some (Res.pure (vb (if op = .eql then q else !q))) := by
  unfold sc
  rcases h with ⟨rfl, h⟩ | ⟨rfl, h⟩
  · have e : pureRun P (do eqGuard .eql t x y vx vy; binOp .eql t vx vy) = some (.bool q) := by
      rw [pureRun_bind, e1, h]; simp only; rw [pureRun_bind, e0]; rfl
    rw [e]; rfl
  · have e : pureRun P (do eqGuard .neq t x y vx vy; binOp .neq t vx vy) = some (.bool (!q)) := by
      rw [pureRun_bind, e1, h]; simp only; rw [pureRun_bind, e0]; rfl
    rw [e]; rfl
theorem ifc_eq0 {ms : Array (String × TypeId)} (hu : P.underlying t = some (.interface ms)) : pureRun P (Op.equal t .nilIface .nilIface) = some true := by
  unfold Op.equal; rw [show Op.maxDepth = 9999 + 1 from rfl]; unfold Op.equalIn
  rw [pureRun_bind, pureRun_und hu]; rfl
theorem ifc_eql_nn {ms : Array (String × TypeId)} (hu : P.underlying t = some (.interface ms)) (v : Value) : aBin P .eql t x (.const v) (.c (.d (.val .nilIface))) (.c (.d (.val .nilIface))) = some (Res.pure (vb true)) :=
  nil_run (op := .eql) (vx := .nilIface) (vy := .nilIface) (by cases x <;> rfl) (ifc_eq0 hu) (.inl ⟨rfl, rfl⟩)
theorem ifc_neq_nn {ms : Array (String × TypeId)} (hu : P.underlying t = some (.interface ms)) (v : Value) : aBin P .neq t x (.const v) (.c (.d (.val .nilIface))) (.c (.d (.val .nilIface))) = some (Res.pure (vb false)) :=
  nil_run (op := .neq) (vx := .nilIface) (vy := .nilIface) (by cases x <;> rfl) (ifc_eq0 hu) (.inr ⟨rfl, rfl⟩)
theorem ifc_eql_in {ms : Array (String × TypeId)} (hu : P.underlying t = some (.interface ms)) (a : TypeId) (b : D) : aBin P .eql t x y (.c (.d (.iface a b))) (.c (.d (.val .nilIface))) = some (Res.pure (vb false)) := by
  unfold aBin; simp only [SV.exact, CV.exact, hu, nilD, if_true]
theorem ifc_neq_in {ms : Array (String × TypeId)} (hu : P.underlying t = some (.interface ms)) (a : TypeId) (b : D) : aBin P .neq t x y (.c (.d (.iface a b))) (.c (.d (.val .nilIface))) = some (Res.pure (vb true)) := by
  unfold aBin; simp only [SV.exact, CV.exact, hu, nilD, if_true]
theorem sl_eql_cons {e : TypeId} (hu : P.underlying t = some (.slice e)) (s : Nat) (z : List D) (zs : List (List D)) : aBin P .eql t x y (.c (.d (.lst s (z :: zs)))) (.c (.d (.val (.slice none 0 0)))) = some (Res.pure (vb false)) := by
  unfold aBin; simp only [SV.exact, CV.exact, hu, nilD, if_true]
theorem sl_neq_cons {e : TypeId} (hu : P.underlying t = some (.slice e)) (s : Nat) (z : List D) (zs : List (List D)) : aBin P .neq t x y (.c (.d (.lst s (z :: zs)))) (.c (.d (.val (.slice none 0 0)))) = some (Res.pure (vb true)) := by
  unfold aBin; simp only [SV.exact, CV.exact, hu, nilD, if_true]
theorem sl_eq0 {e : TypeId} (hu : P.underlying t = some (.slice e)) (a : Option Addr) (n c : Nat) : pureRun P (Op.equal t (.slice a n c) (.slice none 0 0)) = some a.isNone := by
  unfold Op.equal; rw [show Op.maxDepth = 9999 + 1 from rfl]; unfold Op.equalIn
  rw [pureRun_bind, pureRun_und hu]; cases a <;> rfl
theorem sl_eql_val {e : TypeId} (hu : P.underlying t = some (.slice e)) (a : Option Addr) (n c : Nat) : aBin P .eql t x y (.c (.d (.val (.slice a n c)))) (.c (.d (.val (.slice none 0 0)))) = some (Res.pure (vb a.isNone)) :=
  nil_run (op := .eql) (vx := .slice a n c) (vy := .slice none 0 0) rfl (sl_eq0 hu a n c) (.inl ⟨rfl, rfl⟩)
theorem sl_neq_val {e : TypeId} (hu : P.underlying t = some (.slice e)) (a : Option Addr) (n c : Nat) : aBin P .neq t x y (.c (.d (.val (.slice a n c)))) (.c (.d (.val (.slice none 0 0)))) = some (Res.pure (vb (!a.isNone))) :=
  nil_run (op := .neq) (vx := .slice a n c) (vy := .slice none 0 0) rfl (sl_eq0 hu a n c) (.inr ⟨rfl, rfl⟩)
theorem un_not {p : Bool} : sc P (Op.unary .not (.bool p)) = some (Res.pure (vb (!p))) := rfl
theorem un_neg : sc P (Op.unary .neg (.int k a)) = some (Res.pure (vi k (k.wrap (0 - a)))) := rfl
theorem max_two {ts : Array TypeId} {ty : TypeId} : sc P (Builtin.max_ ts ty #[.int k a, .int k b]) = some (Res.pure (vi k (if b > a then b else a))) := rfl
theorem min_two {ts : Array TypeId} {ty : TypeId} : sc P (Builtin.min_ ts ty #[.int k a, .int k b]) = some (Res.pure (vi k (if b < a then b else a))) := rfl
theorem idx_str {ix : Nat} (hu : P.underlying t = some .string) (h : ix < l.length) : sc P (Instr.index t (.string ⟨l.toArray⟩) (.int k ix)) = some (Res.pure (vi .u8 (l[ix].toNat))) := by
  unfold sc
  have e : pureRun P (Instr.index t (.string ⟨l.toArray⟩) (.int k ix)) = some (.int .u8 (l[ix].toNat)) := by
    have hg : (if (0 : Int) ≤ (ix : Int) then (ByteArray.mk l.toArray)[(ix : Int).toNat]? else none) = some l[ix] := by
      rw [if_pos (by omega)]
      simp only [Int.toNat_natCast]
      rw [getElem?_pos _ _ (by rw [bs_size]; exact h)]
      rfl
    unfold Instr.index
    simp only [asIntOf]
    rw [pureRun_bind, pureRun_pure]
    simp only
    rw [pureRun_bind, pureRun_und hu]
    simp only [hg, pureRun_pure]
  rw [e]; rfl
end
theorem beqT (b : Bool) : (b == true) = b := by cases b <;> rfl
theorem beqF (b : Bool) : (b == false) = !b := by cases b <;> rfl
theorem wrap_i64 {n : Int} (h : -9223372036854775808 ≤ n ∧ n ≤ 9223372036854775807) : IntKind.i64.wrap n = n := IntWalk.i64_in n h
theorem toNat_k1 (k : Nat) : ((k : Int) + 1).toNat = k + 1 := by omega
theorem nonneg_k1 (k : Nat) : ((0 : Int) ≤ (k : Int) + 1) = True := by simp; omega
end Go.Proofs.YticbdcpdooahjaaDoor
