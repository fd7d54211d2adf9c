/- The abstract machine (Api, Auto, Ent). -/
import Derived.Test.YtkmfmphpndhkjaaGreatDoorMacC
import Derived.Test.YtkmfmphpndhkjaaGreatDoorTy
import Derived.Test.YtkmfmphpndhkjaaGreatDoorMacD
namespace Go.Proofs.YtkmfmphpndhkjaaGreatDoor
open Go Go.RowKit
set_option linter.unusedVariables false
set_option linter.unusedSimpArgs false
abbrev bU:D:=.val (.slice none 0 0)
abbrev i8 (n:Int):D:=.val (.int .i8 n)
theorem aEd (a b:List UInt8):((ByteArray.mk a.toArray) == (ByteArray.mk b.toArray))=(a == b):=by
 show (a.toArray == b.toArray)=(a == b)
 simp
structure RecD where
 key:List UInt8
 value:List UInt8
 deriving DecidableEq
def RecD.dv (r:RecD):List D:=[str r.key,str r.value]
structure RowD where
 off:Int
 pid:Int
 seq:Int
 key:List UInt8
 value:List UInt8
 deriving DecidableEq
def RowD.dv (r:RowD):List D:=[int r.off,int r.pid,int r.seq,str r.key,str r.value]
structure BatD where
 pid:Int
 epoch:Int
 seq:Int
 txn:Bool
 recs:List RecD
 deriving DecidableEq
def BatD.dv (b:BatD):List D:=[int b.pid,int b.epoch,int b.seq,dC b.txn,.lst 2 (b.recs.map RecD.dv)]
structure SeenD where
 seq:Int
 count:Int
 base:Int
 deriving DecidableEq
def SeenD.dv (s:SeenD):List D:=[int s.seq,int s.count,int s.base]
structure ProdD where
 pid:Int
 epoch:Int
 next:Int
 seen:List SeenD
 deriving DecidableEq
def ProdD.dv (p:ProdD):List D:=[int p.pid,int p.epoch,int p.next,.lst 3 (p.seen.map SeenD.dv)]
structure OpenD where
 pid:Int
 epoch:Int
 bats:List BatD
 deriving DecidableEq
def OpenD.dv (o:OpenD):List D:=[int o.pid,int o.epoch,.lst 5 (o.bats.map BatD.dv)]
structure PartD where
 start:Int
 fin:Int
 rows:List RowD
 opens:List OpenD
 prods:List ProdD
 deriving DecidableEq
def PartD.dv (p:PartD):List D:=[int p.start,int p.fin,.lst 5 (p.rows.map RowD.dv),.lst 3 (p.opens.map OpenD.dv),.lst 4 (p.prods.map ProdD.dv)]
theorem aF {α:Type} (l:List α) (k:Nat) (h:k<l.length):l.take (k+1)=l.take k++[l[k]]:=List.take_succ_eq_append_getElem h
theorem dH {α:Type} (p:α→Bool) (l:List α) (k:Nat) (h:k<l.length):(l.take (k+1)).any p=((l.take k).any p || p l[k]):=by
 rw[List.take_succ_eq_append_getElem h,List.any_append];simp
theorem eC {α:Type} (p:α→Bool) (l:List α) (k:Nat) (h:k<l.length):(l.take (k+1)).all p=((l.take k).all p && p l[k]):=by
 rw[List.take_succ_eq_append_getElem h,List.all_append];simp
theorem pD.of_nil {P:Program} {f:FuncId} {e sz s:Nat} {rest:List D} {xs:List (List D)} (h:∀ a c,pD P f (.val (.slice a 0 c)::rest) e sz xs):pD P f (.lst s []::rest) e sz xs:=by
 refine⟨(h none 0).1,fun K w vs hB hk hL=>?_⟩
 have hl:=hL.1
 match vs,hl with
 | v::vs,hl =>
  have hv:=hL.2 0 _ v rfl rfl
  obtain⟨a,c,us,rfl,_⟩:=hv.inv
  exact (h a c).2 K w _ hB hk ⟨hL.1,fun j x v hx hv=>by
   cases j with
   | zero=>simp at hx hv;subst hx hv;exact Rep.val _
   | succ j=>exact hL.2 (j+1) x v hx hv⟩
structure Hide (A:Prop):Prop where
 out:A
inductive Tag (A:Prop):Prop
 | mk
theorem aOe {A B:Prop} (k:Hide A) (m:B) (d:Tag A):B:=m
theorem aK {A B:Prop} (k:A) (h:Hide A→B:=by intro k;refine aOe k ?_ ?_;(focus ((simp (maxSteps:=2000000) (disch:=omega) only[bF,TY,aL,bQ,cD,SV.ofD,bW,cF,bX,fB,bK,fC,eQ,cQ,cL,dO,eZ,eY,fA,CV.exact,CV.lstOf,CV.lenOf,CV.one,D.one,Value.oneCell',CV.toD0,fS,cC,dU,eV,rD0,eS,eO,fT,reduceCtorEq,reduceIte,Nat.reduceBEq,Nat.reduceEqDiff,Nat.reduceAdd,Nat.reduceMul,Nat.reduceSub,Nat.reduceLT,Nat.reduceLeDiff,Nat.reduceBNe,Int.reduceLE,Int.reduceLT,Int.reduceBEq,Int.reduceBNe,Int.reduceEq,Int.reduceNeg,Int.reduceAdd,Int.reduceSub,Int.reduceToNat,forall_const,aCz,zS,fX,jJ,retA])<;>exact k.out));first|with_reducible exact @Tag.mk True|exact Tag.mk):B:=h ⟨k⟩
theorem rO {E A B:Prop} (e:E) (k:A) (h:E→Hide A→B:=by intro e k;refine aOe k ?_ ?_;(focus ((simp (maxSteps:=2000000) (disch:=omega) only[bF,TY,aL,bQ,cD,SV.ofD,bW,cF,bX,fB,bK,fC,eQ,cQ,cL,dO,eZ,eY,fA,CV.exact,CV.lstOf,CV.lenOf,CV.one,D.one,Value.oneCell',CV.toD0,fS,cC,dU,eV,rD0,eS,eO,fT,reduceCtorEq,reduceIte,Nat.reduceBEq,Nat.reduceEqDiff,Nat.reduceAdd,Nat.reduceMul,Nat.reduceSub,Nat.reduceLT,Nat.reduceLeDiff,Nat.reduceBNe,Int.reduceLE,Int.reduceLT,Int.reduceBEq,Int.reduceBNe,Int.reduceEq,Int.reduceNeg,Int.reduceAdd,Int.reduceSub,Int.reduceToNat,forall_const,aCz,zS,fX,jJ,retA,e])<;>exact k.out));first|with_reducible exact @Tag.mk True|exact Tag.mk):B:=h e ⟨k⟩
theorem rOs {E A B:Prop} (e:E) (k:A) (h:E→Hide A→B:=by intro e k;refine aOe k ?_ ?_;(focus ((simp (maxSteps:=2000000) (disch:=omega) only[bF,TY,aL,bQ,cD,SV.ofD,bW,cF,bX,fB,bK,fC,eQ,cQ,cL,dO,eZ,eY,fA,CV.exact,CV.lstOf,CV.lenOf,CV.one,D.one,Value.oneCell',CV.toD0,fS,cC,dU,eV,rD0,eS,eO,fT,reduceCtorEq,reduceIte,Nat.reduceBEq,Nat.reduceEqDiff,Nat.reduceAdd,Nat.reduceMul,Nat.reduceSub,Nat.reduceLT,Nat.reduceLeDiff,Nat.reduceBNe,Int.reduceLE,Int.reduceLT,Int.reduceBEq,Int.reduceBNe,Int.reduceEq,Int.reduceNeg,Int.reduceAdd,Int.reduceSub,Int.reduceToNat,forall_const,aCz,zS,fX,jJ,retA,iP,SV.ren,CV.ren,Cap.sv,iN,wF,lR,cR,pP,List.nil_append,e])<;>exact k.out));first|with_reducible exact @Tag.mk True|exact Tag.mk):B:=h e ⟨k⟩
theorem rOt {E A B:Prop} (e:E) (k:A) (h:E→Hide A→B:=by intro e k;refine aOe k ?_ ?_;(focus ((simp (maxSteps:=2000000) (disch:=omega) only[bF,TY,aL,bQ,cD,SV.ofD,bW,cF,bX,fB,bK,fC,eQ,cQ,cL,dO,eZ,eY,fA,CV.exact,CV.lstOf,CV.lenOf,CV.one,D.one,Value.oneCell',CV.toD0,fS,cC,dU,eV,rD0,eS,eO,fT,reduceCtorEq,reduceIte,Nat.reduceBEq,Nat.reduceEqDiff,Nat.reduceAdd,Nat.reduceMul,Nat.reduceSub,Nat.reduceLT,Nat.reduceLeDiff,Nat.reduceBNe,Int.reduceLE,Int.reduceLT,Int.reduceBEq,Int.reduceBNe,Int.reduceEq,Int.reduceNeg,Int.reduceAdd,Int.reduceSub,Int.reduceToNat,forall_const,aCz,zS,fX,jJ,retA,iP,e])<;>exact k.out));first|with_reducible exact @Tag.mk True|exact Tag.mk):B:=h e ⟨k⟩
theorem aI {A B:Prop} (k:A) (h:Hide A→B:=by intro k;refine aOe k ?_ ?_;(focus ((repeat (first|apply Wp.skip|apply Wp.exit|apply Wp.ret|apply Wp.block|apply Wp.label|((first|refine Wp.sreg (fun K hK=>?_)|refine Wp.reg (fun K hK=>?_)|refine Wp.sdrw aA (fun K hK=>?_)|refine Wp.drw aA (fun K hK=>?_)|refine Wp.condG (fun K hK hF=>?_));(repeat (revert hK;intro hK;simp (maxSteps:=2000000) (disch:=omega) only[bF,TY,aL,bQ,cD,SV.ofD,bW,cF,bX,fB,bK,fC,eQ,cQ,cL,dO,eZ,eY,fA,CV.exact,CV.lstOf,CV.lenOf,CV.one,D.one,Value.oneCell',CV.toD0,fS,cC,dU,eV,rD0,eS,eO,fT,reduceCtorEq,reduceIte,Nat.reduceBEq,Nat.reduceEqDiff,Nat.reduceAdd,Nat.reduceMul,Nat.reduceSub,Nat.reduceLT,Nat.reduceLeDiff,Nat.reduceBNe,Int.reduceLE,Int.reduceLT,Int.reduceBEq,Int.reduceBNe,Int.reduceEq,Int.reduceNeg,Int.reduceAdd,Int.reduceSub,Int.reduceToNat,forall_const];(first|(refine hK _ ?_;clear hK K)|(refine⟨by kernel_rfl,hK _ ?_⟩;clear hK K)|(refine hK ?_;clear hK hF K)|(refine hF ?_;clear hK hF K)|refine aQ (by assumption) ?_|refine gJ (by assumption) ?_)));fail_if_success (revert hK;intro hK))|apply Wp.seq))<;>exact k.out));first|with_reducible exact @Tag.mk True|exact Tag.mk):B:=h ⟨k⟩
theorem gO {E A B:Prop} (e:E) (k:A) (h:E→Hide A→B:=by intro e k;refine aOe k ?_ ?_;(focus ((repeat (first|apply Wp.skip|apply Wp.exit|apply Wp.ret|apply Wp.block|apply Wp.label|((first|refine Wp.sreg (fun K hK=>?_)|refine Wp.reg (fun K hK=>?_)|refine Wp.sdrw aA (fun K hK=>?_)|refine Wp.drw aA (fun K hK=>?_)|refine Wp.condG (fun K hK hF=>?_));(repeat (revert hK;intro hK;simp (maxSteps:=2000000) (disch:=omega) only[bF,TY,aL,bQ,cD,SV.ofD,bW,cF,bX,fB,bK,fC,eQ,cQ,cL,dO,eZ,eY,fA,CV.exact,CV.lstOf,CV.lenOf,CV.one,D.one,Value.oneCell',CV.toD0,fS,cC,dU,eV,rD0,eS,eO,fT,reduceCtorEq,reduceIte,Nat.reduceBEq,Nat.reduceEqDiff,Nat.reduceAdd,Nat.reduceMul,Nat.reduceSub,Nat.reduceLT,Nat.reduceLeDiff,Nat.reduceBNe,Int.reduceLE,Int.reduceLT,Int.reduceBEq,Int.reduceBNe,Int.reduceEq,Int.reduceNeg,Int.reduceAdd,Int.reduceSub,Int.reduceToNat,forall_const,e];(first|(refine hK _ ?_;clear hK K)|(refine⟨by kernel_rfl,hK _ ?_⟩;clear hK K)|(refine hK ?_;clear hK hF K)|(refine hF ?_;clear hK hF K)|refine aQ (by assumption) ?_|refine gJ (by assumption) ?_)));fail_if_success (revert hK;intro hK))|apply Wp.seq))<;>exact k.out));first|with_reducible exact @Tag.mk True|exact Tag.mk):B:=h e ⟨k⟩
structure EntD where
 kind:Int
 b:BatD
 yes:Bool
 next:Int
 off:Int
 row:RowD
 prod:ProdD
 deriving DecidableEq
def EntD.dv (e:EntD):List D:=[i8 e.kind,int e.b.pid,int e.b.epoch,int e.b.seq,dC e.b.txn,.lst 2 (e.b.recs.map RecD.dv),dC e.yes,int e.next,int e.off,int e.row.off,int e.row.pid,int e.row.seq,str e.row.key,str e.row.value,int e.prod.pid,int e.prod.epoch,int e.prod.next,.lst 3 (e.prod.seen.map SeenD.dv)]
def aIr:RowD:=⟨0,0,0,[],[]⟩
def yH:ProdD:=⟨0,0,0,[]⟩
def jA (x y:D):Prop:=∀ K v,Rep K x v→Rep K y v
theorem jA.refl (x:D):jA x x:=fun _ _ h=>h
theorem jA.nil (sz:Nat):jA bU (.lst sz []):=fun K v h=>by cases h;exact aFo _ _
inductive AllLe:List D→List D→Prop
 | nil:AllLe [] []
 | cons {x y:D} {xs ys:List D} (h:jA x y) (t:AllLe xs ys):AllLe (x::xs) (y::ys)
theorem AllLe.refl:∀ xs:List D,AllLe xs xs
 | []=>.nil
 | x::xs=>.cons (.refl x) (AllLe.refl xs)
theorem AllLe.len {xs ys:List D} (h:AllLe xs ys):xs.length=ys.length:=by
 induction h with
 | nil=>rfl
 | cons _ _ ih=>simp[ih]
theorem AllLe.get {xs ys:List D} (h:AllLe xs ys):∀ (j:Nat) (y:D),ys[j]? = some y→∃ x,xs[j]? = some x∧jA x y:=by
 induction h with
 | nil=>intro j y h;simp at h
 | cons h t ih =>
  intro j y hy
  cases j with
  | zero=>simp at hy;subst hy;exact⟨_,rfl,h⟩
  | succ j=>exact ih j y (by simpa using hy)
theorem jA.agg {xs ys:List D} (h:AllLe xs ys):jA (.agg xs) (.agg ys):=fun K v r=>by
 cases r with
 | agg hl hv h1 =>
  refine .agg (h.len.symm.trans hl) (fun j y v hy hvv=>?_) h1
  obtain⟨x,hx,hle⟩:=h.get j y hy
  exact hle _ _ (hv j x v hx hvv)
theorem jA.tup {xs ys:List D} (h:AllLe xs ys):jA (.tup xs) (.tup ys):=fun K v r=>by
 cases r with
 | tup hl hv =>
  refine .tup (h.len.symm.trans hl) (fun j y v hy hvv=>?_)
  obtain⟨x,hx,hle⟩:=h.get j y hy
  exact hle _ _ (hv j x v hx hvv)
theorem AllLe.append {xs ys xs' ys' : List D} (h:AllLe xs ys) (h' : AllLe xs' ys'):AllLe (xs++xs') (ys++ys'):=by
 induction h with
 | nil=>exact h'
 | cons h t ih=>exact .cons h ih
inductive AllLe2:List (List D)→List (List D)→Prop
 | nil:AllLe2 [] []
 | cons {x y:List D} {xs ys:List (List D)} (h:AllLe x y) (t:AllLe2 xs ys):AllLe2 (x::xs) (y::ys)
theorem AllLe2.map {α:Type} {f g:α→List D} (h:∀ a,AllLe (f a) (g a)):∀ l:List α,AllLe2 (l.map f) (l.map g)
 | []=>.nil
 | a::l=>.cons (h a) (AllLe2.map h l)
theorem AllLe2.flat {xs ys:List (List D)} (h:AllLe2 xs ys):AllLe xs.flatten ys.flatten:=by
 induction h with
 | nil=>exact .nil
 | cons h t ih=>rw[List.flatten_cons,List.flatten_cons];exact h.append ih
theorem AllLe2.len {xs ys:List (List D)} (h:AllLe2 xs ys):xs.length=ys.length:=by
 induction h with
 | nil=>rfl
 | cons h t ih=>simp[ih]
theorem AllLe2.sizes {xs ys:List (List D)} {sz:Nat} (h:AllLe2 xs ys) (hs:∀ x ∈ xs,x.length=sz):∀ y ∈ ys,y.length=sz:=by
 induction h with
 | nil=>intro y hy;simp at hy
 | cons h t ih =>
  intro y hy
  rcases List.mem_cons.1 hy with rfl|hy
  ·rw[← h.len];exact hs _ (by simp)
  ·exact ih (fun x hx=>hs x (by simp[hx])) y hy
theorem jA.lst {sz:Nat} {xs ys:List (List D)} (h:AllLe2 xs ys):jA (.lst sz xs) (.lst sz ys):=fun K v r=>by
 cases r with
 | lst hs hc hl hv h1 hk =>
  have hlen:=h.len
  have hf:=h.flat
  rw[hlen] at hc ⊢
  refine .lst (h.sizes hs) hc (hf.len.symm.trans hl) (fun j y v hy hvv=>?_) h1 (fun hne=>hk (fun e=>hne (by subst e;cases h;rfl)))
  obtain⟨x,hx,hle⟩:=hf.get j y hy
  exact hle _ _ (hv j x v hx hvv)
theorem aJ.args {P:Program} {f:FuncId} {xs ys:List D} {r:D} (h:AllLe xs ys) (hf:aJ P f ys r):aJ P f xs r :=
 ⟨hf.1,fun K w vs hB hk hL=>hf.2 K w vs hB hk ⟨h.len.symm.trans hL.1,fun j y v hy hv=>by
  obtain⟨x,hx,hle⟩:=h.get j y hy
  exact hle _ _ (hL.2 j x v hx hv)⟩⟩
def EntD.dvz (e:EntD):List D:=[i8 e.kind,int e.b.pid,int e.b.epoch,int e.b.seq,dC e.b.txn,.lst 2 (e.b.recs.map RecD.dv),dC e.yes,int e.next,int e.off,int e.row.off,int e.row.pid,int e.row.seq,str e.row.key,str e.row.value,int e.prod.pid,int e.prod.epoch,int e.prod.next,bU]
theorem aJv (e:EntD) (h:e.prod.seen=[]):AllLe e.dvz e.dv:=by
 unfold EntD.dvz EntD.dv
 rw[h]
 exact .cons (.refl _) (.cons (.refl _) (.cons (.refl _) (.cons (.refl _) (.cons (.refl _) (.cons (.refl _) (.cons (.refl _) (.cons (.refl _) (.cons (.refl _) (.cons (.refl _) (.cons (.refl _) (.cons (.refl _) (.cons (.refl _) (.cons (.refl _) (.cons (.refl _) (.cons (.refl _) (.cons (.refl _) (.cons (.nil 3) .nil)))))))))))))))))
theorem aLf:∀ (l:List EntD),(∀ e ∈ l,e.prod.seen=[])→AllLe2 (l.map EntD.dvz) (l.map EntD.dv)
 | [],_=>.nil
 | e::l,h=>.cons (aJv e (h e (by simp))) (aLf l (fun x hx=>h x (by simp[hx])))
end Go.Proofs.YtkmfmphpndhkjaaGreatDoor
