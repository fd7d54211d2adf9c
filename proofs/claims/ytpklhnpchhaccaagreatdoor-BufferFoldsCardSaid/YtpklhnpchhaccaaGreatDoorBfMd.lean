/- The abstract machine (BfR, BfS). -/
import Derived.Test.YtpklhnpchhaccaaGreatDoorBfMc
import Derived.Test.YtpklhnpchhaccaaGreatDoorBfMe
namespace Go.Proofs.YtpklhnpchhaccaaGreatDoor
open Go Go.RowKit
set_option maxHeartbeats 8000000
set_option maxRecDepth 100000
set_option linter.unusedVariables false
set_option linter.unusedSimpArgs false
abbrev iJ (l:List SideD):D:=.lst 2 (l.map SideD.dv)
def vX (l:List SideD):List (List D):=(List.range l.length).map fun i=>[.agg ((l[i]?).getD ⟨0,[]⟩).dv,dM (aN l i)]
theorem mO (l:List SideD):(vX l).length=l.length:=by simp[vX]
theorem aJl {l:List SideD} {i:Nat} {x:SideD} (h:l[i]? = some x) (hi:i<(vX l).length):(vX l)[i]=[.agg x.dv,dM (aN l i)]:=by
 simp[vX,h]
theorem aM1 (l:List SideD):aW Tryz.prog 103 [iJ l] (.fn (.func 162) [.ptr [iJ l] 0]):=by
 (refine aW.of_body Tryz.func103 rfl rfl Tryz.ntmps103 Tryz.results103 (by simp) ?_)
 (refine bP ?_)
 (refine Wp.weak (aD.freeze (id:=0) (by (refine aT ?_);rfl) (by (refine aT ?_);rfl)) ?_)
 (refine bP ?_)
 (refine aT ?_;try with_reducible exact tt)
theorem aM2 (l:List SideD) (hn:l.length≤1000000):aKc Tryz.prog 162 [.ptr [iJ l] 0] (vX l):=by
 (refine aKc.of_body Tryz.func162 rfl rfl Tryz.ntmps162 Tryz.results162 (by simp) (fun ks A cont q hL hY=>?_))
 (refine bP ?_)
 refine Wp.loop (fun y:Nat=>⟨iH [(0,.c (.yld 999)),(1,.c (.d (.ptr [iJ l] 0))),(5,.c (.d (iJ l))),(6,vi .i64 l.length),(7,vi .i64 y)],xG (A y) [],1000,30,⟨ks,[],false,some q⟩⟩) (fun y=>y≤l.length∧∀ j,j<y→cont j=true) (fun y=>l.length - y) 0 ⟨Nat.zero_le _,fun j hj=>by omega⟩ ?_ ?_
 ·refine aD.keepB (A:=A) hL 0 rfl rfl (cP _) rfl ?_
  (refine aT ?_;try with_reducible exact tt)
 rintro y ⟨hy,hc⟩
 (refine bP ?_)
 refine Wp.cond (by (refine aT ?_);rfl) (fun h=>?_) (fun h=>?_)
 ·have hlt:y<l.length:=by simpa using h
  have hg:l[y]? = some l[y]:=List.getElem?_eq_getElem hlt
  have hYy:=hY y (by rw[mO];exact hlt) hc
  rw[aJl hg] at hYy
  have hwk:IntKind.i64.wrap ((y:Int)+1)=((y+1:Nat):Int):=by rw[bA (by omega)];rfl
  generalize l[y]=x at *
  (repeat (first|apply Wp.skip|apply Wp.exit|apply Wp.ret|apply Wp.block|apply Wp.label|((first|refine Wp.sreg (fun K hK=>?_)|refine Wp.reg (fun K hK=>?_)|refine Wp.sdrw aI (fun K hK=>?_)|refine Wp.drw aI (fun K hK=>?_)|refine Wp.condG (fun K hK hF=>?_));(repeat (revert hK;intro hK;simp (maxSteps:=2000000) (disch:=omega) only[gE,TY,bW,eH,fP,SV.ofD,eA,eO,fI,fJ,bR,fK,eX,eQ,fL,eL,fG,fF,fH,CV.exact,CV.lstOf,CV.lenOf,CV.one,D.one,Value.oneCell',CV.toD0,fX,eF,fZ,fC,rD0,gC,fD,fY,reduceCtorEq,reduceIte,Nat.reduceBEq,Nat.reduceEqDiff,Nat.reduceAdd,Nat.reduceMul,Nat.reduceSub,Nat.reduceLT,Nat.reduceLeDiff,Nat.reduceBNe,Int.reduceLE,Int.reduceLT,Int.reduceBEq,Int.reduceBNe,Int.reduceEq,Int.reduceNeg,Int.reduceAdd,Int.reduceSub,Int.reduceToNat,forall_const,hg,SideD.dv,List.map_cons,List.map_nil,hL.above,jK];(first|(refine hK _ ?_;clear hK K)|(refine⟨by kernel_rfl,hK _ ?_⟩;clear hK K)|(refine hK ?_;clear hK hF K)|(refine hF ?_;clear hK hF K)|refine dB (by assumption) ?_|refine bca (by assumption) ?_)));fail_if_success (revert hK;intro hK))|apply Wp.seq))
  rcases Nat.eq_zero_or_pos y with h0|h0
  ·have e0:((y:Int) == 0)=true:=by rw[h0];rfl
   have s0:aN l y=true:=by rw[h0];rfl
   rw[s0] at hYy
   (first|refine Wp.sregM aI ?_|refine Wp.regM aI ?_|(refine Wp.seq ?_;first|refine Wp.sregM aI ?_|refine Wp.regM aI ?_))
   (refine cR.at 15 (fun K hK=>?_);simp (maxSteps:=2000000) (disch:=omega) only[gE,TY,bW,eH,fP,SV.ofD,eA,eO,fI,fJ,bR,fK,eX,eQ,fL,eL,fG,fF,fH,CV.exact,CV.lstOf,CV.lenOf,CV.one,D.one,Value.oneCell',CV.toD0,fX,eF,fZ,fC,rD0,gC,fD,fY,reduceCtorEq,reduceIte,Nat.reduceBEq,Nat.reduceEqDiff,Nat.reduceAdd,Nat.reduceMul,Nat.reduceSub,Nat.reduceLT,Nat.reduceLeDiff,Nat.reduceBNe,Int.reduceLE,Int.reduceLT,Int.reduceBEq,Int.reduceBNe,Int.reduceEq,Int.reduceNeg,Int.reduceAdd,Int.reduceSub,Int.reduceToNat,forall_const,aC,hg,e0,SideD.dv,List.map_cons,List.map_nil,hL.above,jK];refine hK _ _ ?_;clear hK K)
   (refine cR.yld hL rfl rfl (by kernel_rfl) rfl hYy (by ((repeat refine (iA (by omega)).2 ?_);first|exact cP _|exact hZ rfl)) (Nat.le_of_ble_eq_true rfl) (by simp (maxSteps:=2000000) (disch:=omega) only[gE,TY,bW,eH,fP,SV.ofD,eA,eO,fI,fJ,bR,fK,eX,eQ,fL,eL,fG,fF,fH,CV.exact,CV.lstOf,CV.lenOf,CV.one,D.one,Value.oneCell',CV.toD0,fX,eF,fZ,fC,rD0,gC,fD,fY,reduceCtorEq,reduceIte,Nat.reduceBEq,Nat.reduceEqDiff,Nat.reduceAdd,Nat.reduceMul,Nat.reduceSub,Nat.reduceLT,Nat.reduceLeDiff,Nat.reduceBNe,Int.reduceLE,Int.reduceLT,Int.reduceBEq,Int.reduceBNe,Int.reduceEq,Int.reduceNeg,Int.reduceAdd,Int.reduceSub,Int.reduceToNat,forall_const,aC,SideD.dv,List.map_cons,List.map_nil,hL.above,jK]) (by simp (maxSteps:=2000000) (disch:=omega) only[gE,TY,bW,eH,fP,SV.ofD,eA,eO,fI,fJ,bR,fK,eX,eQ,fL,eL,fG,fF,fH,CV.exact,CV.lstOf,CV.lenOf,CV.one,D.one,Value.oneCell',CV.toD0,fX,eF,fZ,fC,rD0,gC,fD,fY,reduceCtorEq,reduceIte,Nat.reduceBEq,Nat.reduceEqDiff,Nat.reduceAdd,Nat.reduceMul,Nat.reduceSub,Nat.reduceLT,Nat.reduceLeDiff,Nat.reduceBNe,Int.reduceLE,Int.reduceLT,Int.reduceBEq,Int.reduceBNe,Int.reduceEq,Int.reduceNeg,Int.reduceAdd,Int.reduceSub,Int.reduceToNat,forall_const,SV.toD0',CV.toD0,aC,SideD.dv,List.map_cons,List.map_nil,hL.above,jK]) ?_)
   (refine cR.done (fun K hK=>?_);(refine rO (ai @aC (ai hL.rb (hL.above))) ?_);refine hK _ _ ?_;clear hK K;refine⟨by kernel_rfl,?_⟩)
   cases hcy:cont y with
   | false =>
    (refine gO (hcy) ?_)
    refine⟨rfl,y+1,⟨by rw[mO];omega,fun j hj=>hc j (by omega),.inr ⟨by omega,hcy⟩⟩,?_⟩
    (refine aT ?_)
    ((repeat refine (iA (by omega)).2 ?_);first|exact cP _|exact hZ rfl)
   | true =>
    (refine gO (hcy) ?_)
    refine⟨y+1,⟨hlt,fun j hj=>?_⟩,by omega,?_⟩
    ·rcases Nat.lt_or_ge j y with h1|h1
     ·exact hc j h1
     ·obtain rfl:j=y:=by omega
      exact hcy
    refine aD.keepB (A:=A) (L:=[(0,.c (.yld 999)),(1,.c (.d (.ptr [iJ l] 0))),(5,.c (.d (iJ l))),(6,vi .i64 l.length),(7,vi .i64 (y+1:Nat))]) (M:=[]) (fx:=⟨ks,[],false,some q⟩) hL (y+1) rfl rfl ?_ rfl ?_
    ·((repeat refine (iA (by omega)).2 ?_);first|exact cP _|exact hZ rfl)
    (refine rO (hwk) ?_;try with_reducible exact tt)
  ·have e0:((y:Int) == 0)=false:=by rw[beq_eq_false_iff_ne];omega
   have hg1:l[y - 1]? = some (l[y - 1]'(by omega)):=List.getElem?_eq_getElem (by omega)
   have hw1:IntKind.i64.wrap ((y:Int) - 1)=((y - 1:Nat):Int):=by rw[bA (by omega)];omega
   have s0:aN l y=decide ((l[y - 1]'(by omega)).pid<x.pid):=by
    obtain⟨z,rfl⟩:∃ z,y=z+1:=⟨y - 1,by omega⟩
    simp only[aN,hg,hg1]
   rw[s0] at hYy
   generalize (l[y - 1]'(by omega))=p at *
   (first|refine Wp.sregM aI ?_|refine Wp.regM aI ?_|(refine Wp.seq ?_;first|refine Wp.sregM aI ?_|refine Wp.regM aI ?_))
   (refine cR.at 15 (fun K hK=>?_);simp (maxSteps:=2000000) (disch:=omega) only[gE,TY,bW,eH,fP,SV.ofD,eA,eO,fI,fJ,bR,fK,eX,eQ,fL,eL,fG,fF,fH,CV.exact,CV.lstOf,CV.lenOf,CV.one,D.one,Value.oneCell',CV.toD0,fX,eF,fZ,fC,rD0,gC,fD,fY,reduceCtorEq,reduceIte,Nat.reduceBEq,Nat.reduceEqDiff,Nat.reduceAdd,Nat.reduceMul,Nat.reduceSub,Nat.reduceLT,Nat.reduceLeDiff,Nat.reduceBNe,Int.reduceLE,Int.reduceLT,Int.reduceBEq,Int.reduceBNe,Int.reduceEq,Int.reduceNeg,Int.reduceAdd,Int.reduceSub,Int.reduceToNat,forall_const,aC,hg,e0,hg1,hw1,SideD.dv,List.map_cons,List.map_nil,hL.above,jK];refine hK _ _ ?_;clear hK K)
   (refine cR.yld hL rfl rfl (by kernel_rfl) rfl hYy (by ((repeat refine (iA (by omega)).2 ?_);first|exact cP _|exact hZ rfl)) (Nat.le_of_ble_eq_true rfl) (by simp (maxSteps:=2000000) (disch:=omega) only[gE,TY,bW,eH,fP,SV.ofD,eA,eO,fI,fJ,bR,fK,eX,eQ,fL,eL,fG,fF,fH,CV.exact,CV.lstOf,CV.lenOf,CV.one,D.one,Value.oneCell',CV.toD0,fX,eF,fZ,fC,rD0,gC,fD,fY,reduceCtorEq,reduceIte,Nat.reduceBEq,Nat.reduceEqDiff,Nat.reduceAdd,Nat.reduceMul,Nat.reduceSub,Nat.reduceLT,Nat.reduceLeDiff,Nat.reduceBNe,Int.reduceLE,Int.reduceLT,Int.reduceBEq,Int.reduceBNe,Int.reduceEq,Int.reduceNeg,Int.reduceAdd,Int.reduceSub,Int.reduceToNat,forall_const,aC,SideD.dv,List.map_cons,List.map_nil,hL.above,jK]) (by simp (maxSteps:=2000000) (disch:=omega) only[gE,TY,bW,eH,fP,SV.ofD,eA,eO,fI,fJ,bR,fK,eX,eQ,fL,eL,fG,fF,fH,CV.exact,CV.lstOf,CV.lenOf,CV.one,D.one,Value.oneCell',CV.toD0,fX,eF,fZ,fC,rD0,gC,fD,fY,reduceCtorEq,reduceIte,Nat.reduceBEq,Nat.reduceEqDiff,Nat.reduceAdd,Nat.reduceMul,Nat.reduceSub,Nat.reduceLT,Nat.reduceLeDiff,Nat.reduceBNe,Int.reduceLE,Int.reduceLT,Int.reduceBEq,Int.reduceBNe,Int.reduceEq,Int.reduceNeg,Int.reduceAdd,Int.reduceSub,Int.reduceToNat,forall_const,SV.toD0',CV.toD0,aC,SideD.dv,List.map_cons,List.map_nil,hL.above,jK]) ?_)
   (refine cR.done (fun K hK=>?_);(refine rO (ai @aC (ai hL.rb (hL.above))) ?_);refine hK _ _ ?_;clear hK K;refine⟨by kernel_rfl,?_⟩)
   cases hcy:cont y with
   | false =>
    (refine gO (hcy) ?_)
    refine⟨rfl,y+1,⟨by rw[mO];omega,fun j hj=>hc j (by omega),.inr ⟨by omega,hcy⟩⟩,?_⟩
    (refine aT ?_)
    ((repeat refine (iA (by omega)).2 ?_);first|exact cP _|exact hZ rfl)
   | true =>
    (refine gO (hcy) ?_)
    refine⟨y+1,⟨hlt,fun j hj=>?_⟩,by omega,?_⟩
    ·rcases Nat.lt_or_ge j y with h1|h1
     ·exact hc j h1
     ·obtain rfl:j=y:=by omega
      exact hcy
    refine aD.keepB (A:=A) (L:=[(0,.c (.yld 999)),(1,.c (.d (.ptr [iJ l] 0))),(5,.c (.d (iJ l))),(6,vi .i64 l.length),(7,vi .i64 (y+1:Nat))]) (M:=[]) (fx:=⟨ks,[],false,some q⟩) hL (y+1) rfl rfl ?_ rfl ?_
    ·((repeat refine (iA (by omega)).2 ?_);first|exact cP _|exact hZ rfl)
    (refine rO (hwk) ?_;try with_reducible exact tt)
 ·have hyl:y=l.length:=by simp only[decide_eq_false_iff_not] at h;omega
  subst hyl
  (refine bP ?_)
  refine⟨rfl,l.length,⟨by rw[mO];exact Nat.le_refl _,fun j hj=>hc j (by omega),.inl ⟨mO l ▸ rfl,hc⟩⟩,?_⟩
  (refine aT ?_)
  exact cP _
set_option maxHeartbeats 4000000
theorem aIi {α:Type} (f:α→Bool) (l:List α) (h:∀ x ∈ l,f x=false) (r:List α):(l++r).findIdx f=l.length+r.findIdx f:=by
 induction l with
 | nil=>simp
 | cons x l ih =>
  have h1:=h x (List.mem_cons_self ..)
  rw[List.cons_append,List.findIdx_cons,h1,List.length_cons]
  show ((l++r).findIdx f+1)=_
  rw[ih (fun y hy=>h y (List.mem_cons_of_mem _ hy))]
  omega
theorem aEk {l:List OpenD} {pid:Int} (h:∀ o ∈ l,o.pid<pid) (r:List OpenD):aZ (l++r) pid=l.length+aZ r pid :=
 aIi _ l (fun x hx=>by have:=h x hx;simp;omega) r
theorem aSn {p:PartD} {b:BatD} (h:∀ o ∈ p.opens,o.pid<b.pid):xJ p b=some { p with opens:=p.opens++[⟨b.pid,b.epoch,[b]⟩] }:=by
 have hi:aZ p.opens b.pid=p.opens.length:=by
  have:=aEk h []
  rw[List.append_nil] at this
  rw[this];rfl
 have hb:bL p.opens b.pid=false:=by
  unfold bL;rw[hi,List.getElem?_eq_none (Nat.le_refl _)]
 unfold xJ
 rw[hb,hi,List.take_length,List.drop_length]
theorem aSm {p:PartD} {b:BatD} {l:List OpenD} {bs:List BatD} (h:∀ o ∈ l,o.pid<b.pid) (ho:p.opens=l++[⟨b.pid,b.epoch,bs⟩]) (hb8:bs.length<8):xJ p b=some { p with opens:=l++[⟨b.pid,b.epoch,bs++[b]⟩] }:=by
 have hi:aZ p.opens b.pid=l.length:=by
  rw[ho,aEk h]
  show l.length+List.findIdx _ _=_
  rw[List.findIdx_cons];simp
 have hg:p.opens[l.length]? = some ⟨b.pid,b.epoch,bs⟩:=by rw[ho,List.getElem?_append_right (Nat.le_refl _),Nat.sub_self];rfl
 have hb:bL p.opens b.pid=true:=by
  unfold bL;rw[hi,hg];simp
 unfold xJ
 rw[hb,hi,hg]
 dsimp only
 rw[if_neg (by simp;omega),ho,List.take_left',List.drop_append,List.drop_of_length_le (by omega)]
 ·simp
 ·rfl
abbrev aT7 (x:SideD) (k:Nat):OpenD:=⟨x.pid,nH x,(x.l.take k).map (·.b)⟩
theorem aM8 {x:SideD} (hx:1≤x.l.length) (y:EntD):jO x y=gA x y:=by
 obtain⟨pid,l⟩:=x
 cases l with
 | nil=>simp at hx
 | cons z l=>rfl
theorem aGv {x:SideD} {y:EntD} (h:gA x y=false):aL y=true∧y.kind=0∧y.b.txn=true∧y.b.pid=x.pid∧y.b.epoch=nH x:=by
 unfold gA at h
 simp only[Bool.or_eq_false_iff,Bool.not_eq_false',bne_eq_false_iff_eq] at h
 exact⟨h.1,h.2.1,h.2.2.1,h.2.2.2.1,h.2.2.2.2⟩
theorem aT8 {x : SideD} {p : PartD} (hx : 1 ≤ x.l.length ∧ x.l.length ≤ 8) (hp : ∀ o ∈ p.opens, o.pid < x.pid) : ∀ k, k ≤ x.l.length →
    (match bV x p.prods (x.l.take k) with
     | none => (cD x p (x.l.take k)).1 = false
     | some qs => cD x p (x.l.take k) = (true, { p with prods := qs, opens := if k = 0 then p.opens else p.opens ++ [aT7 x k] }))
  | 0, _ => rfl
  | k + 1, hk => by
    have ih := aT8 hx hp k (by omega)
    have hkl : k < x.l.length := by omega
    cases hq : bV x p.prods (x.l.take k) with
    | none =>
      rw [hq] at ih
      have h1 : bV x p.prods (x.l.take (k + 1)) = none := by
        rw [List.take_succ_eq_append_getElem hkl, sS, hq]
      rw [h1]
      dsimp only at ih ⊢
      rw [List.take_succ_eq_append_getElem hkl, sT, if_neg (by rw [ih]; exact Bool.false_ne_true)]
      exact ih
    | some qs =>
      rw [hq] at ih
      dsimp only at ih
      have h1 := qC hkl hq
      have h2 := aC2 (s := x) (p := p) hkl (by rw [ih])
      rw [ih] at h2
      dsimp only at h2
      have hO : aT7 x (k + 1) = ⟨x.pid, nH x, (x.l.take k).map (·.b) ++ [x.l[k].b]⟩ := by
        show OpenD.mk _ _ _ = _
        rw [List.take_succ_eq_append_getElem hkl, List.map_append]; rfl
      rw [hO]
      generalize x.l[k] = y at *
      unfold gU at h2
      rw [aM8 hx.1] at h2
      rw [h1, h2]
      cases hn : gA x y with
      | true => rw [if_pos rfl, if_pos rfl]
      | false =>
        rw [if_neg Bool.false_ne_true, if_neg Bool.false_ne_true]
        obtain ⟨_, _, _, e4, e5⟩ := aGv hn
        unfold uJ
        by_cases hz : (aG qs y.b (-1)).2 ≠ 0
        · rw [if_pos hz, if_pos hz]
        · rw [if_neg hz, if_neg hz]
          rw [if_neg (show ¬ k + 1 = 0 by omega)]
          by_cases h0 : k = 0
          · subst h0
            rw [if_pos rfl, aSn (by rw [e4]; exact hp), e4, e5]
            rfl
          · rw [if_neg h0, aSm (l := p.opens) (bs := (x.l.take k).map (·.b)) (by rw [e4]; exact hp) (by rw [e4, e5]) (by rw [List.length_map, List.length_take]; omega), e4, e5]
theorem aT9 {x : SideD} {p : PartD} (hx : 1 ≤ x.l.length ∧ x.l.length ≤ 8) (hp : ∀ o ∈ p.opens, o.pid < x.pid) :
    (match bV x p.prods x.l with
     | none => (cD x p x.l).1 = false
     | some qs => cD x p x.l = (true, { p with prods := qs, opens := p.opens ++ [⟨x.pid, nH x, x.l.map (·.b)⟩] })) := by
  have h := aT8 hx hp x.l.length (Nat.le_refl _)
  rw [List.take_length, if_neg (by omega)] at h
  have : aT7 x x.l.length = ⟨x.pid, nH x, x.l.map (·.b)⟩ := by show OpenD.mk _ _ _ = _; rw [List.take_length]
  rw [this] at h
  exact h
def jW (all:List SideD):List ProdD→Nat→List SideD→Option (List ProdD)
 | ps,_,[]=>some ps
 | ps,k,x::l=>if aN all k=false then none else if x.l.length=0∨8<x.l.length then none else match bV x ps x.l with
  | none=>none
  | some qs=>jW all qs (k+1) l
abbrev mkO (x:SideD):OpenD:=⟨x.pid,nH x,x.l.map (·.b)⟩
def aF5 (all:List SideD) (k:Nat) (opens:List OpenD):Prop:=opens=[]∨∃ y,0<k∧all[k - 1]? = some y∧∀ o ∈ opens,o.pid≤y.pid
theorem aHl {all:List SideD} {k:Nat} {opens:List OpenD} {x:SideD} (h:aF5 all k opens) (hs:aN all k=true) (hx:all[k]? = some x):∀ o ∈ opens,o.pid<x.pid:=by
 intro o ho
 rcases h with rfl|⟨y,hk,hy,hle⟩
 ·cases ho
 ·obtain⟨j,rfl⟩:∃ j,k=j+1:=⟨k - 1,by omega⟩
  rw[Nat.add_sub_cancel] at hy
  unfold aN at hs
  rw[hx,Nat.add_sub_cancel,hy] at hs
  have:=of_decide_eq_true hs
  have:=hle o ho
  omega
theorem aA1 {all:List SideD} {k:Nat} {opens:List OpenD} {x:SideD} (h:∀ o ∈ opens,o.pid<x.pid) (hx:all[k]? = some x):aF5 all (k+1) (opens++[mkO x]):=by
 refine .inr ⟨x,by omega,by rw[Nat.add_sub_cancel];exact hx,fun o ho=>?_⟩
 rcases List.mem_append.1 ho with h1|h1
 ·have:=h o h1;omega
 ·simp at h1;subst h1;exact Int.le_refl _
theorem aJw (all:List SideD):∀ (l:List SideD) (u:RefS) (k:Nat),all.drop k=l→aF5 all k u.p.opens →
  eC all u k l=(jW all u.p.prods k l).map (fun qs=>⟨{ u.p with prods:=qs,opens:=u.p.opens++l.map mkO },u.w,u.v⟩)
 | [],u,k,_,_=>by
  show some u=some _
  rw[List.map_nil,List.append_nil]
 | x::l,u,k,hd,hB=>by
  have hx:all[k]? = some x:=by
   have:=congrArg (fun l=>l[0]?) hd
   simpa using this
  have hd2:all.drop (k+1)=l:=by rw[← List.drop_drop,hd];rfl
  show (if aN all k=false then none else if (fA u x).1=false then none else eC all (fA u x).2 (k+1) l)=Option.map _ (if aN all k=false then none else if x.l.length=0∨8<x.l.length then none else match bV x u.p.prods x.l with
   | none=>none
   | some qs=>jW all qs (k+1) l)
  by_cases h1:aN all k=false
  ·rw[if_pos h1,if_pos h1];rfl
  rw[if_neg h1,if_neg h1]
  by_cases h2:x.l.length=0∨8<x.l.length
  ·have:(fA u x).1=false:=by unfold fA;rw[if_pos h2]
   rw[if_pos this,if_pos h2];rfl
  rw[if_neg h2]
  have hlt:=aHl hB (by simpa using h1) hx
  have hr:=aT9 (x:=x) (p:=u.p) (by omega) hlt
  have hs:fA u x=((cD x u.p x.l).1,⟨(cD x u.p x.l).2,u.w,u.v⟩):=by unfold fA;rw[if_neg h2]
  rw[hs]
  cases hq:bV x u.p.prods x.l with
  | none =>
   rw[hq] at hr
   dsimp only at hr ⊢
   rw[if_pos hr];rfl
  | some qs =>
   rw[hq] at hr
   dsimp only at hr ⊢
   rw[hr,if_neg (by simp)]
   rw[aJw all l _ (k+1) hd2 (aA1 hlt hx)]
   dsimp only
   rw[List.append_assoc]
   rfl
def mV (l:List BatD) (x:SideD):Bool:=decide (l.length<x.l.length) && decide (l=(x.l.map (·.b)).take l.length)
theorem aNi (p:PartD) (w:eE) (x:SideD):gT p w x=if x.l.length=0∨8<x.l.length then none else match bV x p.prods x.l with
  | none=>none
  | some qs=>if mV (dG w x.pid) x then some ({ p with prods:=qs,opens:=p.opens++[mkO x] },cU w x.pid) else none:=by
 unfold gT mV
 by_cases h:x.l.length=0∨8<x.l.length
 ·rw[if_pos h,if_pos h]
 rw[if_neg h,if_neg h]
 cases bV x p.prods x.l with
 | none=>rfl
 | some qs =>
  dsimp only
  by_cases h1:x.l.length≤(dG w x.pid).length
  ·rw[if_pos h1,decide_eq_false (by omega)];simp
  ·rw[if_neg h1,decide_eq_true (show (dG w x.pid).length<x.l.length by omega)]
   by_cases h2:dG w x.pid=(x.l.map (·.b)).take (dG w x.pid).length
   ·rw[if_neg (fun h=>h h2),Bool.true_and,if_pos (decide_eq_true h2)]
   ·rw[if_pos h2,Bool.true_and,decide_eq_false h2,if_neg Bool.false_ne_true]
def dX (all:List SideD):PartD × eE→Nat→List SideD→Option (PartD × eE)
 | s,_,[]=>some s
 | s,k,x::l=>if aN all k=false then none else match gT s.1 s.2 x with
  | none=>none
  | some t=>dX all t (k+1) l
theorem qE (all:List SideD):∀ (l:List SideD) (s:PartD × eE) (j:Nat) (r:List SideD),dX all s j (l++r)=match dX all s j l with
  | none=>none
  | some u=>dX all u (j+l.length) r
 | [],s,j,r=>rfl
 | x::l,s,j,r=>by
  have e1:∀ l,dX all s j (x::l)=if aN all j=false then none else match gT s.1 s.2 x with
   | none=>none
   | some t=>dX all t (j+1) l:=fun _=>rfl
  rw[List.cons_append,e1,e1]
  by_cases h1:aN all j=false
  ·rw[if_pos h1,if_pos h1]
  rw[if_neg h1,if_neg h1]
  cases gT s.1 s.2 x with
  | none=>rfl
  | some t =>
   dsimp only
   rw[qE all l t (j+1) r,List.length_cons,show j+(l.length+1)=j+1+l.length by omega]
theorem aTo {w:eE} (hn:(w.map (·.1)).Nodup) {y:Int × List BatD} (hy:y ∈ w):dG w y.1=y.2:=by
 have hk:lL w y.1=true:=by
  cases h:lL w y.1 with
  | true=>rfl
  | false=>exact absurd (List.mem_map.2 ⟨y,hy,rfl⟩) (lT h)
 have h1:=List.mem_of_getElem? (oF hk)
 have h2:∀ (w:eE),(w.map (·.1)).Nodup→∀ a ∈ w,∀ b ∈ w,a.1=b.1→a=b:=by
  intro w
  induction w with
  | nil=>intro _ a ha;cases ha
  | cons c w ih =>
   intro hn a ha b hb e
   rw[List.map_cons,List.nodup_cons] at hn
   rcases List.mem_cons.1 ha with h1|h1<;>rcases List.mem_cons.1 hb with h2|h2
   ·rw[h1,h2]
   ·exact absurd (List.mem_map.2 ⟨b,h2,by rw[← e,h1]⟩) hn.1
   ·exact absurd (List.mem_map.2 ⟨a,h1,by rw[e,h2]⟩) hn.1
   ·exact ih hn.2 a h1 b h2 e
 have:=h2 w hn _ h1 _ hy rfl
 exact congrArg Prod.snd this
theorem aW9 {w:eE} {pid:Int} (h:∀ y ∈ w,y.1≠pid):dG w pid=[]:=by
 refine sA ?_
 cases hk:lL w pid with
 | false=>rfl
 | true=>exact absurd rfl (h _ (List.mem_of_getElem? (oF hk)))
theorem aCf {w:eE} (hn:(w.map (·.1)).Nodup) {f:Int × List BatD→Bool} {pid:Int} (hf:∀ y:Int × List BatD,y.1=pid→f y=true):dG (w.filter f) pid=dG w pid:=by
 cases hk:lL w pid with
 | true =>
  have h1:=List.mem_of_getElem? (oF hk)
  exact aTo (List.Nodup.sublist (List.Sublist.map _ (List.filter_sublist)) hn) (y:=(pid,dG w pid)) (List.mem_filter.2 ⟨h1,hf _ rfl⟩)
 | false =>
  rw[sA hk]
  exact aW9 (fun y hy e=>lT hk (List.mem_map.2 ⟨y,(List.mem_filter.1 hy).1,e⟩))
theorem aHg {w:eE} (hn:(w.map (·.1)).Nodup) (pid:Int):cU w pid=w.filter (fun y=>y.1 != pid):=by
 unfold cU
 cases hk:lL w pid with
 | false =>
  rw[if_neg Bool.false_ne_true]
  exact (List.filter_eq_self.2 (fun y hy=>by
   have:y.1≠pid:=fun e=>lT hk (List.mem_map.2 ⟨y,hy,e⟩)
   simpa using this)).symm
 | true =>
  rw[if_pos rfl]
  have hg:=oF hk
  generalize wI w pid=i at *
  generalize dG w pid=l at *
  induction w generalizing i with
  | nil=>simp at hg
  | cons c w ih =>
   rw[List.map_cons,List.nodup_cons] at hn
   cases i with
   | zero =>
    simp at hg;subst hg
    rw[List.eraseIdx_zero,List.tail_cons,List.filter_cons_of_neg (by simp)]
    exact (List.filter_eq_self.2 (fun y hy=>by
     have:y.1≠pid:=fun e=>hn.1 (List.mem_map.2 ⟨y,hy,e⟩)
     simpa using this)).symm
   | succ i =>
    have hg:w[i]? = some (pid,l):=by simpa using hg
    have hc:c.1≠pid:=fun e=>hn.1 (List.mem_map.2 ⟨_,List.mem_of_getElem? hg,e.symm⟩)
    rw[List.eraseIdx_cons_succ,List.filter_cons_of_pos (by simpa using hc)]
    congr 1
    refine ih hn.2 ?_ i hg
    cases h:lL w pid with
    | true=>rfl
    | false=>exact absurd (List.mem_map.2 ⟨_,List.mem_of_getElem? hg,rfl⟩) (lT h)
theorem rW (all:List SideD):∀ (l:List SideD) (ps rs:List ProdD) (k:Nat),all.drop k=l→jW all ps k l=some rs→∀ x,0<k→all[k - 1]? = some x→∀ z ∈ l,x.pid<z.pid
| [],_,_,_,_,_,_,_,_,z,hz=>by cases hz
| y::l,ps,rs,k,hd,hs,x,hk,hx,z,hz=>by
 have hy:all[k]? = some y:=by
  have:=congrArg (fun l=>l[0]?) hd
  simpa using this
 have hd2:all.drop (k+1)=l:=by rw[← List.drop_drop,hd];rfl
 have hs:(if aN all k=false then none else if y.l.length=0∨8<y.l.length then none else match bV y ps y.l with
  | none=>none
  | some qs=>jW all qs (k+1) l)=some rs:=hs
 split at hs
 ·cases hs
 rename_i h1
 split at hs
 ·cases hs
 split at hs
 ·cases hs
 have hlt:x.pid<y.pid:=by
  obtain⟨j,rfl⟩:∃ j,k=j+1:=⟨k - 1,by omega⟩
  rw[Nat.add_sub_cancel] at hx
  unfold aN at h1
  rw[hy,Nat.add_sub_cancel,hx] at h1
  have h1:decide (x.pid<y.pid)=true:=by simpa using h1
  exact of_decide_eq_true h1
 rcases List.mem_cons.1 hz with rfl|hz
 ·exact hlt
 ·have:=rW all l _ rs (k+1) hd2 hs y (by omega) (by rw[Nat.add_sub_cancel];exact hy) z hz
  omega
theorem aJu (all:List SideD):∀ (l:List SideD) (p:PartD) (w:eE) (k:Nat),all.drop k=l→(w.map (·.1)).Nodup→aF5 all k p.opens →
  dX all (p,w) k l=match jW all p.prods k l with
   | none=>none
   | some qs=>if l.all (fun x=>mV (dG w x.pid) x) then some ({ p with prods:=qs,opens:=p.opens++l.map mkO },w.filter (fun y=>l.all (fun x=>x.pid != y.1))) else none
 | [],p,w,k,_,_,_=>by
  show some (p,w)=if true=true then some _ else none
  rw[if_pos rfl,List.map_nil,List.append_nil]
  congr 2
  exact (List.filter_eq_self.2 (fun _ _=>rfl)).symm
 | x::l,p,w,k,hd,hn,hB=>by
  have hx:all[k]? = some x:=by
   have:=congrArg (fun l=>l[0]?) hd
   simpa using this
  have hd2:all.drop (k+1)=l:=by rw[← List.drop_drop,hd];rfl
  have e1:dX all (p,w) k (x::l)=if aN all k=false then none else match gT p w x with
   | none=>none
   | some t=>dX all t (k+1) l:=rfl
  have e2:jW all p.prods k (x::l)=if aN all k=false then none else if x.l.length=0∨8<x.l.length then none else match bV x p.prods x.l with
   | none=>none
   | some qs=>jW all qs (k+1) l:=rfl
  rw[e1,e2,aNi]
  by_cases h1:aN all k=false
  ·rw[if_pos h1,if_pos h1]
  rw[if_neg h1,if_neg h1]
  by_cases h2:x.l.length=0∨8<x.l.length
  ·rw[if_pos h2,if_pos h2]
  rw[if_neg h2,if_neg h2]
  have hlt:=aHl hB (by simpa using h1) hx
  cases hq:bV x p.prods x.l with
  | none=>rfl
  | some qs =>
   dsimp only
   by_cases hc:mV (dG w x.pid) x=true
   ·rw[if_pos hc]
    dsimp only
    rw[aHg hn,aJu all l _ _ (k+1) hd2 (List.Nodup.sublist (List.Sublist.map _ (List.filter_sublist)) hn) (aA1 hlt hx)]
    dsimp only
    cases hs:jW all qs (k+1) l with
    | none=>rfl
    | some rs =>
     dsimp only
     have hpid:∀ z ∈ l,z.pid≠x.pid:=by
      intro z hz
      have:=rW all l qs rs (k+1) hd2 hs x (by omega) (by rw[Nat.add_sub_cancel];exact hx) z hz
      omega
     have ha:(l.all fun z=>mV (dG (w.filter fun y=>y.1 != x.pid) z.pid) z)=(l.all fun z=>mV (dG w z.pid) z):=by
      rw[Bool.eq_iff_iff,List.all_eq_true,List.all_eq_true]
      constructor
      ·intro h z hz
       have:=h z hz
       rwa [aCf hn (fun y hy=>by have:=hpid z hz;simp;omega)] at this
      ·intro h z hz
       have:=h z hz
       rwa [aCf hn (fun y hy=>by have:=hpid z hz;simp;omega)]
     rw[ha,List.all_cons,hc,Bool.true_and,List.filter_filter,List.map_cons,List.append_assoc]
     by_cases h9:(l.all fun z=>mV (dG w z.pid) z)=true
     ·rw[if_pos h9,if_pos h9]
      congr 2
      refine List.filter_congr (fun y hy=>?_)
      rw[List.all_cons,Bool.and_comm]
      congr 1
      rw[Bool.eq_iff_iff];simp;exact⟨fun h e=>h e.symm,fun h e=>h e.symm⟩
     ·rw[if_neg h9,if_neg h9]
   ·rw[if_neg hc]
    cases jW all qs (k+1) l with
    | none=>rfl
    | some rs =>
     dsimp only
     rw[if_neg (by rw[List.all_cons];simp[hc])]
theorem aTv {p:PartD} {all:List SideD} {w:eE} (hn:(w.map (·.1)).Nodup) (ho:p.opens=all.map mkO) (hr:(all.map (·.pid)).Pairwise (· < ·)) (hl:∀ x ∈ all,1≤x.l.length) :
  w.all (kK p)=((all.all fun x=>mV (dG w x.pid) x) && (w.filter (fun y=>all.all (fun x=>x.pid != y.1))).isEmpty):=by
 have hw:∀ y:Int × List BatD,kK p y=true ↔ ∃ x ∈ all,x.pid=y.1∧mV y.2 x=true:=by
  intro y
  have hfind:∀ (l:List SideD),(l.map (·.pid)).Pairwise (· < ·)→((bL (l.map mkO) y.1 && match (l.map mkO)[aZ (l.map mkO) y.1]? with
    | some o=>decide (y.2.length<o.bats.length) && decide (y.2=o.bats.take y.2.length)
    | none=>false)=true ↔ ∃ x ∈ l,x.pid=y.1∧mV y.2 x=true):=by
   intro l hp
   induction l with
   | nil=>simp[bL,aZ]
   | cons z l ih =>
    rw[List.map_cons,List.pairwise_cons] at hp
    have ih:=ih hp.2
    by_cases h1:z.pid<y.1
    ·have hi:aZ ((z::l).map mkO) y.1=aZ (l.map mkO) y.1+1:=by
      unfold aZ
      rw[List.map_cons,List.findIdx_cons,decide_eq_false (show ¬ y.1≤(mkO z).pid by show ¬ y.1≤z.pid;omega)];rfl
     have hg:((z::l).map mkO)[aZ (l.map mkO) y.1+1]? = (l.map mkO)[aZ (l.map mkO) y.1]?:=by rw[List.map_cons,List.getElem?_cons_succ]
     unfold bL at ih ⊢
     rw[hi,hg,ih]
     constructor
     ·rintro⟨x,hx,h⟩;exact⟨x,List.mem_cons_of_mem _ hx,h⟩
     ·rintro⟨x,hx,h⟩
      rcases List.mem_cons.1 hx with rfl|hx
      ·omega
      ·exact⟨x,hx,h⟩
    ·have hi:aZ ((z::l).map mkO) y.1=0:=by
      unfold aZ
      rw[List.map_cons,List.findIdx_cons,decide_eq_true (show y.1≤(mkO z).pid by show y.1≤z.pid;omega)];rfl
     unfold bL
     rw[hi,List.map_cons,List.getElem?_cons_zero]
     dsimp only
     constructor
     ·intro h
      rw[Bool.and_eq_true] at h
      refine⟨z,List.mem_cons_self ..,by simpa using h.1,?_⟩
      unfold mV
      rw[List.length_map] at h
      exact h.2
     ·rintro⟨x,hx,hxy,hc⟩
      have hxz:x=z:=by
       rcases List.mem_cons.1 hx with rfl|hx
       ·rfl
       ·have:=hp.1 x.pid (List.mem_map.2 ⟨x,hx,rfl⟩);omega
      subst hxz
      unfold mV at hc
      rw[List.length_map,hc,hxy];simp
  have:=hfind all hr
  unfold kK
  rw[ho]
  exact this
 have huniq:∀ a ∈ all,∀ b ∈ all,a.pid=b.pid→a=b:=by
  have:∀ l:List SideD,(l.map (·.pid)).Pairwise (· < ·)→∀ a ∈ l,∀ b ∈ l,a.pid=b.pid→a=b:=by
   intro l
   induction l with
   | nil=>intro _ a ha;cases ha
   | cons c l ih =>
    intro hp a ha b hb e
    rw[List.map_cons,List.pairwise_cons] at hp
    rcases List.mem_cons.1 ha with h1|h1<;>rcases List.mem_cons.1 hb with h2|h2
    ·rw[h1,h2]
    ·have:=hp.1 b.pid (List.mem_map.2 ⟨b,h2,rfl⟩);rw[h1] at e;omega
    ·have:=hp.1 a.pid (List.mem_map.2 ⟨a,h1,rfl⟩);rw[h2] at e;omega
    ·exact ih hp.2 a h1 b h2 e
  exact this all hr
 rw[Bool.eq_iff_iff,List.all_eq_true,Bool.and_eq_true,List.all_eq_true,List.isEmpty_iff,List.filter_eq_nil_iff]
 constructor
 ·intro h
  refine⟨fun x hx=>?_,fun y hy h2=>?_⟩
  ·cases hk:lL w x.pid with
   | false =>
    rw[sA hk]
    have:=hl x hx
    unfold mV
    simp
    omega
   | true =>
    obtain⟨z,hz,he,hc⟩:=(hw _).1 (h _ (List.mem_of_getElem? (oF hk)))
    rw[huniq z hz x hx he] at hc
    exact hc
  ·obtain⟨x,hx,he,_⟩:=(hw y).1 (h y hy)
   have:=List.all_eq_true.1 h2 x hx
   rw[he] at this
   simp at this
 ·rintro⟨h1,h2⟩ y hy
  have h3:=h2 y hy
  simp only[List.all_eq_true,Classical.not_forall,bne_iff_ne,ne_eq,Decidable.not_not] at h3
  obtain⟨x,hx,he⟩:=h3
  refine (hw y).2 ⟨x,hx,he,?_⟩
  have:=h1 x hx
  rw[he,aTo hn hy] at this
  exact this
theorem aC3 (all:List SideD):∀ (l:List SideD) (ps rs:List ProdD) (k:Nat),jW all ps k l=some rs→∀ x ∈ l,1≤x.l.length∧x.l.length≤8
 | [],_,_,_,_,x,hx=>by cases hx
 | y::l,ps,rs,k,hs,x,hx=>by
  have hs:(if aN all k=false then none else if y.l.length=0∨8<y.l.length then none else match bV y ps y.l with
   | none=>none
   | some qs=>jW all qs (k+1) l)=some rs:=hs
  split at hs
  ·cases hs
  split at hs
  ·cases hs
  split at hs
  ·cases hs
  rcases List.mem_cons.1 hx with rfl|hx
  ·omega
  ·exact aC3 all l _ rs (k+1) hs x hx
theorem aEs (all:List SideD):∀ (l:List SideD) (ps rs:List ProdD) (k:Nat),all.drop k=l→jW all ps k l=some rs→(l.map (·.pid)).Pairwise (· < ·)
 | [],_,_,_,_,_=>.nil
 | y::l,ps,rs,k,hd,hs=>by
  have hy:all[k]? = some y:=by
   have:=congrArg (fun l=>l[0]?) hd
   simpa using this
  have hd2:all.drop (k+1)=l:=by rw[← List.drop_drop,hd];rfl
  have hs:(if aN all k=false then none else if y.l.length=0∨8<y.l.length then none else match bV y ps y.l with
   | none=>none
   | some qs=>jW all qs (k+1) l)=some rs:=hs
  split at hs
  ·cases hs
  split at hs
  ·cases hs
  split at hs
  ·cases hs
  rw[List.map_cons,List.pairwise_cons]
  refine⟨fun a ha=>?_,aEs all l _ rs (k+1) hd2 hs⟩
  obtain⟨z,hz,rfl⟩:=List.mem_map.1 ha
  exact rW all l _ rs (k+1) hd2 hs y (by omega) (by rw[Nat.add_sub_cancel];exact hy) z hz
def zV (main:List EntD) (sides:List SideD):Option PartD:=match eG ref0 main with
 | none=>none
 | some s=>match dX sides (s.p,s.w) 0 sides with
  | none=>none
  | some t=>if t.2.isEmpty then some t.1 else none
theorem aUc (main:List EntD) (sides:List SideD) (h:∀ s,eG ref0 main=some s→(s.w.map (·.1)).Nodup∧s.p.opens=[]):zV main sides=(iB main sides).map (·.p):=by
 unfold zV iB
 cases hl:eG ref0 main with
 | none=>rfl
 | some s =>
  obtain⟨hn,ho⟩:=h s hl
  dsimp only
  rw[aJu sides sides s.p s.w 0 rfl hn (.inl ho),aJw sides sides s 0 rfl (.inl ho)]
  cases hq:jW sides s.p.prods 0 sides with
  | none=>rfl
  | some qs =>
   dsimp only[Option.map_some]
   rw[aTv (p:={ s.p with prods:=qs,opens:=s.p.opens++sides.map mkO }) (all:=sides) hn (by rw[ho];rfl) (aEs sides sides _ _ 0 rfl hq) (fun x hx=>(aC3 sides sides _ _ 0 hq x hx).1)]
   by_cases hc:(sides.all fun x=>mV (dG s.w x.pid) x)=true
   ·rw[if_pos hc,hc,Bool.true_and]
    dsimp only
    split<;>rfl
   ·rw[if_neg hc]
    have:(sides.all fun x=>mV (dG s.w x.pid) x)=false:=by simpa using hc
    rw[this,Bool.false_and,if_neg Bool.false_ne_true]
    rfl
end Go.Proofs.YtpklhnpchhaccaaGreatDoor
