/- Equality of structs whose fields are one cell each. -/
import Derived.Test.YticbdcpdooahjaaDoorRun
namespace Go.Proofs.YticbdcpdooahjaaDoor
open Go Go.RowKit
set_option linter.unusedVariables false
set_option linter.unusedSimpArgs false
section
variable {P : Program} {d : Nat} {t : TypeId}
theorem eqIn_str (hu : P.underlying t = some .string) (a b : ByteArray) : pureRun P (Op.equalIn (d + 1) t (.string a) (.string b)) = some (a == b) := by
  unfold Op.equalIn; rw [pureRun_bind, pureRun_und hu]; rfl
theorem eqIn_int {k : IntKind} (hu : P.underlying t = some (.int k)) (k' : IntKind) (a b : Int) : pureRun P (Op.equalIn (d + 1) t (.int k' a) (.int k' b)) = some (a == b) := by
  unfold Op.equalIn; rw [pureRun_bind, pureRun_und hu]; simp only [if_true]; rfl
theorem eqIn_bool (hu : P.underlying t = some .bool) (a b : Bool) : pureRun P (Op.equalIn (d + 1) t (.bool a) (.bool b)) = some (a == b) := by
  unfold Op.equalIn; rw [pureRun_bind, pureRun_und hu]; rfl
theorem pureRun_part {cs : Array Value} {off : Nat} {v : Value} (ha : pureRun P (isAgg t) = some false) (hv : cs[off]? = some v) : pureRun P (part t cs off) = some v := by
  unfold part; rw [pureRun_bind, ha]; simp only [Bool.false_eq_true, if_false, hv]; rfl
theorem pureRun_prog : pureRun P program = some P := rfl
/-- The fields' equality, one after the other. -/
def eqFs (P : Program) (d : Nat) (xs ys : Array Value) : List Field → Option Bool
  | [] => some true
  | f :: fs => match xs[f.offset]?, ys[f.offset]? with
    | some x, some y => match pureRun P (isAgg f.type), pureRun P (Op.equalIn d f.type x y) with
      | some false, some true => if f.name ≠ "_" then eqFs P d xs ys fs else none
      | some false, some false => if f.name ≠ "_" then some false else none
      | _, _ => none
    | _, _ => none
theorem eqFs_run {xs ys : Array Value} : ∀ {l : List Field} {q : Bool}, eqFs P d xs ys l = some q →
    pureRun P (forIn l ((none, ()) : Option Bool × Unit) fun f _ =>
      if f.name ≠ "_" then do
        let x ← part f.type xs f.offset
        let y ← part f.type ys f.offset
        let e ← Op.equalIn d f.type x y
        if (!e) = true then pure (ForInStep.done (some false, ())) else pure (ForInStep.yield (none, ()))
      else pure (ForInStep.yield (none, ()))) = some (if q then (none, ()) else (some false, ()))
  | [], q, h => by
    simp only [eqFs, Option.some.injEq] at h; subst h
    rw [List.forIn_nil]; rfl
  | f :: l, q, h => by
    unfold eqFs at h
    rw [List.forIn_cons, pureRun_bind]
    split at h
    · rename_i x y hx hy
      split at h
      · rename_i ha he
        split at h
        · rename_i hn
          rw [if_pos hn, pureRun_bind, pureRun_part ha hx]; simp only
          rw [pureRun_bind, pureRun_part ha hy]; simp only
          rw [pureRun_bind, he]; simp only [Bool.not_true, Bool.false_eq_true, if_false]
          exact eqFs_run h
        · cases h
      · rename_i ha he
        split at h
        · rename_i hn
          simp only [Option.some.injEq] at h; subst h
          rw [if_pos hn, pureRun_bind, pureRun_part ha hx]; simp only
          rw [pureRun_bind, pureRun_part ha hy]; simp only
          rw [pureRun_bind, he]; simp only [Bool.not_false, if_true]; rfl
        · cases h
      · cases h
    · cases h
theorem eqIn_struct {fs : Array Field} {xs ys : Array Value} {q : Bool} (hu : P.underlying t = some (.struct fs)) (hst : P.stoodInHeld t = false) (h : eqFs P d xs ys fs.toList = some q) : pureRun P (Op.equalIn (d + 1) t (.agg xs) (.agg ys)) = some q := by
  unfold Op.equalIn; rw [pureRun_bind, pureRun_und hu]
  simp only
  rw [pureRun_bind, pureRun_prog]
  simp only [hst]
  rw [if_neg (by decide), pureRun_bind, ← Array.forIn_toList, eqFs_run h]
  cases q <;> rfl
theorem agg_eql {x y : Operand} {fs : Array Field} {xs ys : Array Value} {q : Bool} (hu : P.underlying t = some (.struct fs)) (hst : P.stoodInHeld t = false) (hg : P.eqGuardType P.depth t = false) (h : eqFs P 9999 xs ys fs.toList = some q) :
    sc P (do eqGuard .eql t x y (.agg xs) (.agg ys); binOp .eql t (.agg xs) (.agg ys)) = some (Res.pure (vb q)) ∧ sc P (do eqGuard .neq t x y (.agg xs) (.agg ys); binOp .neq t (.agg xs) (.agg ys)) = some (Res.pure (vb (!q))) := by
  have e0 : pureRun P (Op.equal t (.agg xs) (.agg ys)) = some q := eqIn_struct (d := 9999) hu hst h
  have eg : ∀ op, op = .eql ∨ op = .neq → pureRun P (eqGuard op t x y (.agg xs) (.agg ys)) = some () := by
    intro op ho
    unfold eqGuard
    rcases ho with rfl | rfl <;> simp [pureRun_bind, pureRun_prog, hg] <;> rfl
  exact ⟨nil_run (op := .eql) (eg _ (.inl rfl)) e0 (.inl ⟨rfl, rfl⟩), nil_run (op := .neq) (eg _ (.inr rfl)) e0 (.inr ⟨rfl, rfl⟩)⟩
end
end Go.Proofs.YticbdcpdooahjaaDoor
