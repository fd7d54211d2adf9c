/- The abstract machine: an operation hangs on its operands and on the boxes that it names, on nothing else. -/
import Derived.Test.YticbdcpdooahjaaDoorAbsG
namespace Go.Proofs.YticbdcpdooahjaaDoor
open Go Go.RowKit
set_option linter.unusedVariables false
set_option linter.unusedSimpArgs false
theorem aop_congr {P : Program} {op : Op} {ρ ρ' : Operand → SV} {H : Hp} {nx : Nat} (h : ∀ x ∈ op.operands, ρ x = ρ' x) : aop P op ρ H nx = aop P op ρ' H nx := by
  have pairs : ∀ ps : List (Nat × Operand), (∀ p ∈ ps, ρ p.2 = ρ' p.2) → (ps.map fun p => (p.1, ρ p.2)) = (ps.map fun p => (p.1, ρ' p.2)) := fun ps hp =>
    List.map_congr_left fun p hm => by rw [hp p hm]
  cases op <;> simp only [Op.operands] at h <;> simp only [aop]
  case build t ps => rw [pairs ps.toList fun p hp => h p.2 (by simp; exact ⟨p.1, by simpa using hp⟩)]
  case buildSlice t n ps => rw [pairs ps.toList fun p hp => h p.2 (by simp; exact ⟨p.1, by simpa using hp⟩)]
  case makeFunc fn first caps =>
    rw [List.map_congr_left (l := first.toList) fun x hx => h x (by simp at hx; simp [hx]), List.map_congr_left (l := caps.toList) fun x hx => h x (by simp at hx; simp [hx])]
  case slice t x lo hi mx => cases lo <;> cases hi <;> cases mx <;> simp_all
  all_goals (first | rfl | (simp_all; done))
theorem capD_local {H H' : Hp} {x : SV} (h : ∀ id ∈ ownId x, H' id = H id) : capD H' x = capD H x := by
  cases x with
  | agg cs => rfl
  | c x => cases x with
    | own id off => simp only [capD, CV.toD, h id (by simp [ownId])]
    | _ => rfl
theorem toD_local {H H' : Hp} {x : SV} (h : ∀ id ∈ ownId x, H' id = H id) : SV.toD H' x = SV.toD H x := by
  cases x with
  | agg cs => rfl
  | c x => cases x with
    | own id off => simp only [SV.toD, CV.toD, h id (by simp [ownId])]
    | _ => rfl
theorem mapO_congr {α β : Type} {f f' : α → Option β} : ∀ {xs : List α}, (∀ x ∈ xs, f x = f' x) → mapO f xs = mapO f' xs
  | [], _ => rfl
  | x :: xs, h => by simp only [mapO]; rw [h x (by simp), mapO_congr (fun y hy => h y (by simp [hy]))]
theorem aAlloc_local {P : Program} {H H' : Hp} {nx : Nat} {t : TypeId} {r : Res} (h : aAlloc P H nx t = some r) (hf : ∀ id ∈ r.fp, H' id = H id) : aAlloc P H' nx t = some r := by
  have hfp : r.fp = [nx] := by
    unfold aAlloc at h
    split at h
    · split at h
      · split at h
        · cases h; rfl
        · cases h
      · cases h
    · cases h
  unfold aAlloc at *
  rw [hf nx (by simp [hfp])]; exact h
theorem aMakeSlice_local {P : Program} {H H' : Hp} {nx : Nat} {t : TypeId} {x y : SV} {r : Res} (h : aMakeSlice P H nx t x y = some r) (hf : ∀ id ∈ r.fp, H' id = H id) : aMakeSlice P H' nx t x y = some r := by
  have hfp : r.fp = [nx] := by
    unfold aMakeSlice at h
    split at h
    · split at h
      · cases h
      · split at h
        · split at h
          · split at h
            · cases h; rfl
            · split at h
              · cases h; rfl
              · cases h
          · cases h
        · cases h
    · cases h
  unfold aMakeSlice at *
  rw [hf nx (by simp [hfp])]; exact h
theorem aBox_local {H H' : Hp} {nx : Nat} {x : SV} {r : Res} (h : aBox H nx x = some r) (hf : ∀ id ∈ r.fp, H' id = H id) : aBox H' nx x = some r := by
  have hfp : r.fp = [nx] := by
    unfold aBox at h
    split at h
    · split at h
      · cases h; rfl
      · cases h
    · cases h
  unfold aBox at *
  rw [hf nx (by simp [hfp])]; exact h
theorem aLoad_local {P : Program} {H H' : Hp} {t : TypeId} {x : SV} {r : Res} (h : aLoad P t H x = some r) (hf : ∀ id ∈ r.fp, H' id = H id) : aLoad P t H' x = some r := by
  cases x with
  | agg cs => simp [aLoad] at h
  | c x => cases x with
    | own id off =>
      have hfp : r.fp = [id] := by
        simp only [aLoad] at h
        split at h
        · split at h
          · cases h; rfl
          · cases h
        · split at h
          · cases h; rfl
          · cases h
        · cases h
      simp only [aLoad] at *
      rw [hf id (by simp [hfp])]; exact h
    | d x => cases x <;> first | exact h | (simp [aLoad] at h)
    | _ => simp [aLoad] at h
theorem aStore_local {P : Program} {H H' : Hp} {t : TypeId} {x y : SV} {r : Res} (h : aStore P t H x y = some r) (hf : ∀ id ∈ r.fp, H' id = H id) : aStore P t H' x y = some r := by
  cases x with
  | agg cs => simp [aStore] at h
  | c x => cases x with
    | own id off =>
      have hfp : r.fp = [id] := by
        simp only [aStore] at h
        split at h
        · split at h
          · split at h
            · cases h; rfl
            · cases h
          · cases h
        · cases h
      simp only [aStore] at *
      rw [hf id (by simp [hfp])]; exact h
    | _ => simp [aStore] at h
theorem aIface_local {P : Program} {H H' : Hp} {t : TypeId} {x : SV} {r : Res} (h : aIface P t H x = some r) (hf : ∀ id ∈ r.fp, H' id = H id) : aIface P t H' x = some r := by
  cases x with
  | agg cs => exact h
  | c x => cases x with
    | own id off =>
      have hfp : r.fp = [id] := by
        simp only [aIface] at h
        split at h
        · split at h
          · cases h
          · split at h
            · cases h; rfl
            · split at h
              · cases h; rfl
              · cases h
            · cases h
        · cases h
      simp only [aIface] at *
      rw [hf id (by simp [hfp])]; exact h
    | _ => exact h
theorem aMakeFunc_local {H H' : Hp} {fn : Fn} {first caps : List SV} {r : Res} (h : aMakeFunc H fn first caps = some r) (hf : ∀ id ∈ r.fp, H' id = H id) : aMakeFunc H' fn first caps = some r := by
  cases first with
  | cons x xs => simp [aMakeFunc] at h
  | nil =>
    have hfp : r.fp = caps.flatMap ownId := by
      simp only [aMakeFunc] at h
      split at h
      · cases h; rfl
      · cases h
    have : mapO (capD H') caps = mapO (capD H) caps := mapO_congr (fun x hx => capD_local (fun id hid => hf id (by rw [hfp]; exact List.mem_flatMap.2 ⟨x, hx, hid⟩)))
    simp only [aMakeFunc] at *
    rw [this]; exact h
theorem aop_local {P : Program} {op : Op} {ρ : Operand → SV} {H H' : Hp} {nx : Nat} {r : Res} (h : aop P op ρ H nx = some r) (hf : ∀ id ∈ r.fp, H' id = H id) : aop P op ρ H' nx = some r := by
  cases op <;> simp only [aop] at h ⊢ <;> (try exact h)
  case alloc t => exact aAlloc_local h hf
  case box t x => exact aBox_local h hf
  case makeSlice t x y => exact aMakeSlice_local h hf
  case load t x => exact aLoad_local h hf
  case store t x y => exact aStore_local h hf
  case makeInterface t x => exact aIface_local h hf
  case makeFunc fn first caps => exact aMakeFunc_local h hf
theorem aAppend_local {P : Program} {t : TypeId} {H H' : Hp} {nx tot : Nat} {x y : SV} {r : Res} (h : aAppend P t H nx x y = some (r, tot)) (hf : ∀ id ∈ r.fp, H' id = H id) : aAppend P t H' nx x y = some (r, tot) := by
  unfold aAppend at h ⊢
  cases hes : esize P t with
  | none => rw [hes] at h; cases h
  | some q =>
    obtain ⟨e, sz, bb, zs⟩ := q
    rw [hes] at h
    simp only at h ⊢
    split at h
    · rename_i hc
      rw [if_pos hc]
      cases x with
      | agg cs => cases h
      | c cx => cases y with
        | agg cs => cases h
        | c cy =>
          simp only at h ⊢
          cases hxs : cx.lstOf sz with
          | none => rw [hxs] at h; cases h
          | some xs => cases hys : cy.lstOf sz with
            | none => rw [hxs, hys] at h; cases h
            | some ys =>
              rw [hxs, hys] at h
              simp only at h ⊢
              cases cx with
              | app τ s' xs' =>
                have hfp : r.fp = [τ] := by
                  simp only at h
                  split at h
                  · split at h
                    · cases h; rfl
                    · cases h
                  · cases h
                simp only at h ⊢
                rw [hf τ (by simp [hfp])]; exact h
              | d x => cases x with
                | lst s xs => cases h
                | val v =>
                  split at h
                  · rename_i heq; cases heq
                  · rename_i heq; cases heq
                  · rename_i heq
                    cases heq
                    have hfp : r.fp = [nx] := by
                      split at h
                      · cases h; rfl
                      · cases h
                    rw [hf nx (by simp [hfp])]; exact h
                  · cases h
                | _ => simp [CV.lstOf] at hxs
              | full s' xs' =>
                have hfp : r.fp = [nx] := by
                  simp only at h
                  split at h
                  · cases h; rfl
                  · cases h
                simp only at h ⊢
                rw [hf nx (by simp [hfp])]; exact h
              | _ => simp [CV.lstOf] at hxs
    · cases h
theorem abuiltin_local {P : Program} {b : Builtin} {ts : List TypeId} {ty : TypeId} {xs : List SV} {H H' : Hp} {nx tot : Nat} {r : Res} (h : abuiltin P b ts ty xs H nx = some (r, tot)) (hf : ∀ id ∈ r.fp, H' id = H id) : abuiltin P b ts ty xs H' nx = some (r, tot) := by
  cases b <;> (try exact h)
  simp only [abuiltin] at h ⊢
  match ts, xs, h with
  | [t, t'], [x, y], h =>
    simp only at h ⊢
    split at h
    · rename_i e
      rw [if_pos e]
      cases hes : esize P t with
      | none => rw [hes] at h; cases h
      | some q =>
        obtain ⟨e, sz, bb, zs⟩ := q
        rw [hes] at h
        simp only at h ⊢
        split at h
        · rename_i hbb; rw [if_pos hbb]; exact aAppend_local h hf
        · cases h
    · cases h
theorem AStep.local {P : Program} {o : Oper} {ρ ρ' : Operand → SV} {H H' : Hp} {nx : Nat} {r : Res} (h : AStep P o ρ H nx r) (hρ : ∀ x ∈ o.op.operands, ρ x = ρ' x) (hf : ∀ id ∈ r.fp, H' id = H id) : AStep P o ρ' H' nx r := by
  obtain ⟨dst, op, type, pos, after, guard⟩ := o
  unfold AStep astep at h ⊢
  cases op with
  | call c =>
    simp only [Op.operands, Call.operands] at hρ
    have hargs : c.args.toList.map ρ = c.args.toList.map ρ' := List.map_congr_left fun x hx => hρ x (by simp at hx; simp [hx])
    simp only at h ⊢
    obtain ⟨cal, args, tys⟩ := c
    cases cal with
    | builtin b =>
      simp only at h ⊢ hargs
      rw [← hargs]
      cases hr : abuiltin P b tys.toList type (args.toList.map ρ) H nx with
      | none => rw [hr] at h; exact h.elim
      | some q =>
        obtain ⟨r', tot⟩ := q
        rw [hr] at h
        obtain ⟨ht, rfl⟩ := h
        rw [abuiltin_local hr hf]
        exact ⟨ht, rfl⟩
    | value f =>
      simp only at h ⊢ hargs
      rw [← hargs, ← hρ f (by simp)]
      split at h
      · rename_i fid caps hρf
        split at h
        · rename_i ds hds
          rcases h with ⟨y, hfun, rfl⟩ | ⟨e, sz, xs, hfun, hnx, rfl⟩
          · have : mapO (SV.toD H') (args.toList.map ρ) = some ds := by
              rw [← hds]
              exact mapO_congr (fun x hx => toD_local (fun id hid => hf id (List.mem_flatMap.2 ⟨x, hx, hid⟩)))
            rw [this]
            exact .inl ⟨y, hfun, rfl⟩
          · have : mapO (SV.toD H') (args.toList.map ρ) = some ds := by
              rw [← hds]
              exact mapO_congr (fun x hx => toD_local (fun id hid => hf id (List.mem_cons_of_mem _ (List.mem_flatMap.2 ⟨x, hx, hid⟩))))
            rw [this]
            exact .inr ⟨e, sz, xs, hfun, (hf nx (by simp)).trans hnx, rfl⟩
        · exact h.elim
      · exact h.elim
    | invoke _ _ => exact h.elim
  | _ =>
    simp only at h ⊢
    split at h
    · rename_i r' hr
      subst h
      have := aop_local ((aop_congr (P := P) (nx := nx) (H := H) hρ).symm.trans hr) hf
      rw [this]
    · exact h.elim
end Go.Proofs.YticbdcpdooahjaaDoor
