/- Package image: bare. -/
import Derived.Test.YtkmfmphpndhkjaaGreatDoorFrsM
import Derived.Test.YtkmfmphpndhkjaaGreatDoorImB
import Derived.Test.YtkmfmphpndhkjaaGreatDoorTbM
namespace Go.Proofs.YtkmfmphpndhkjaaGreatDoor
open Go Go.RowKit
set_option maxHeartbeats 8000000
set_option maxRecDepth 100000
set_option linter.unusedVariables false
set_option linter.unusedSimpArgs false
def rk (l:List RowD) (k:Nat):List RowD:=l.mapIdx (fun j r=>if j<k then { r with off:=(j:Int) } else r)
theorem aV6 (l:List RowD) (k:Nat):(rk l k).length=l.length:=by simp[rk]
theorem aTj (l:List RowD):rk l 0=l:=by
 apply List.ext_getElem?
 intro j
 simp only[rk,List.getElem?_mapIdx]
 cases l[j]?<;>simp
theorem aV5 (l:List RowD):rk l l.length=cX l:=by
 apply List.ext_getElem?
 intro j
 simp only[rk,dP,List.getElem?_mapIdx]
 cases h:l[j]? with
 | none=>rfl
 | some r =>
  have:=(List.getElem?_eq_some_iff.1 h).1
  simp[this]
theorem aHe {α:Type} {s:Nat} (v:α):∀ (L:List (List α)) (k:Nat) (x:List α),(∀ y ∈ L,y.length=s)→L[k]? = some (v::x)→∀ (u:α),List.take (k*s) L.flatten++[u]++List.drop (k*s+1) L.flatten=(L.set k (u::x)).flatten
 | [],k,x,_,h,u=>by simp at h
 | y::L,0,x,hs,h,u=>by
  simp at h;subst h
  simp
 | y::L,k+1,x,hs,h,u=>by
  have hy:=hs y (by simp)
  have ih:=aHe v L k x (fun z hz=>hs z (by simp[hz])) (by simpa using h) u
  simp only[List.flatten_cons,List.set_cons_succ,← ih]
  have e1:(k+1)*s=y.length+k*s:=by rw[hy,Nat.succ_mul];omega
  have e2:(k+1)*s+1=y.length+(k*s+1):=by omega
  rw[e2,e1,List.take_length_add_append,List.drop_length_add_append]
  simp
theorem tZ (l:List RowD):lD l=(l.map RowD.dv).flatten.map .d:=by simp[lD,bT]
theorem aO6 (l:List RowD):(lD l).length=l.length*5:=by
 rw[tZ,List.length_map,dV (sz:=5) (fun x hx=>by obtain⟨r,_,rfl⟩:=List.mem_map.1 hx;rfl),List.length_map]
theorem aV7 {l:List RowD} {k:Nat} (h:k<l.length):List.take (k*5) (lD (rk l k))++[CV.d (int (k:Int))]++List.drop (k*5+1) (lD (rk l k))=lD (rk l (k+1)):=by
 have hk:(rk l k)[k]? = some l[k]:=by
  simp only[rk,List.getElem?_mapIdx,List.getElem?_eq_getElem h];simp
 have hset:rk l (k+1)=(rk l k).set k { l[k] with off:=(k:Int) }:=by
  apply List.ext_getElem?
  intro j
  rw[List.getElem?_set]
  simp only[rk,List.getElem?_mapIdx,List.length_mapIdx]
  by_cases hj:k=j
  ·subst hj
   simp[h]
  ·rw[if_neg hj]
   cases l[j]? with
   | none=>rfl
   | some r =>
    have:(j<k+1)=(j<k):=by apply propext;omega
    simp[this]
 have hm:((rk l k).map RowD.dv)[k]? = some (int l[k].off::[int l[k].pid,int l[k].seq,str l[k].key,str l[k].value]):=by
  rw[List.getElem?_map,hk];rfl
 have:=aHe (s:=5) _ ((rk l k).map RowD.dv) k _ (fun y hy=>by obtain⟨r,_,rfl⟩:=List.mem_map.1 hy;rfl) hm (int (k:Int))
 rw[tZ,tZ,hset,List.map_set,← List.map_take,← List.map_drop]
 show List.map CV.d _++List.map CV.d [int (k:Int)]++List.map CV.d _=_
 rw[← List.map_append,← List.map_append,this]
 rfl
theorem fI (p:PartD) (hs:SmallP p):aJ Tryz.prog 51 [.agg p.dv] (.tup [.agg (iL p).dv,.agg (yC p (iL p)).1.dv,int (yC p (iL p)).2]):=by
 have hr:=hs.rows
 have cm:=aOl p (iL p) ⟨hs.rows,hs.opens⟩ ⟨by simpa [iL,cY] using hs.rows,hs.opens⟩
 have hbr:(iL p).dv=[int 0,int (p.rows.length:Int),.lst 5 ((cX p.rows).map RowD.dv),.lst 3 (p.opens.map OpenD.dv),.lst 4 (p.prods.map ProdD.dv)]:=rfl
 rw[hbr] at cm ⊢
 by_cases h0:p.rows.length=0
 ·have hn:=List.eq_nil_of_length_eq_zero h0
  have c1:=aK4 p hs
  have hbn:cX p.rows=[]:=by rw[hn];rfl
  rw[hbn] at cm ⊢
  simp only[PartD.dv,TabD.dv,List.map_nil] at c1 cm
  rw[hn] at c1 cm
  simp only[List.length_nil,List.map_nil] at c1 cm
  (refine aJ.of_body Tryz.func51 rfl rfl Tryz.ntmps51 Tryz.results51 (by simp) ?_)
  (refine gO (ai @PartD.dv.eq_1 (ai hn (ai @List.map_nil.{0,0} (@List.length_nil.{0})))) ?_;try with_reducible exact tt)
  refine Wp.rounds 1 (aN.go ?_)
  (refine gO (ai @PartD.dv.eq_1 (ai hn (ai @List.map_nil.{0,0} (@List.length_nil.{0})))) ?_;try with_reducible exact tt)
  (refine rO (ai @PartD.dv.eq_1 (ai hn (ai @TabD.dv.eq_1 (ai @List.map_nil.{0,0} (@List.length_nil.{0}))))) ?_;try with_reducible exact tt)
 ·have c1:=aHg p hs (by omega)
  simp only[PartD.dv,TabD.dv] at cm
  (refine aJ.of_body Tryz.func51 rfl rfl Tryz.ntmps51 Tryz.results51 (by simp) ?_)
  (refine gO (@PartD.dv.eq_1) ?_;try with_reducible exact tt)
  ((first|refine Wp.sregG ?_|refine Wp.regG ?_|(refine Wp.seq ?_;first|refine Wp.sregG ?_|refine Wp.regG ?_));refine cU.at 1 (fun K hK=>?_);simp (maxSteps:=2000000) (disch:=omega) only[bF,TY,aL,bQ,cD,SV.ofD,bW,cF,bX,fB,bK,fC,eQ,cQ,cL,dO,eZ,eY,fA,CV.exact,CV.lstOf,CV.lenOf,CV.one,D.one,Value.oneCell',CV.toD0,fS,cC,dU,eV,rD0,eS,eO,fT,reduceCtorEq,reduceIte,Nat.reduceBEq,Nat.reduceEqDiff,Nat.reduceAdd,Nat.reduceMul,Nat.reduceSub,Nat.reduceLT,Nat.reduceLeDiff,Nat.reduceBNe,Int.reduceLE,Int.reduceLT,Int.reduceBEq,Int.reduceBNe,Int.reduceEq,Int.reduceNeg,Int.reduceAdd,Int.reduceSub,Int.reduceToNat,forall_const,bA,gX,PartD.dv];refine hK _ ?_;clear hK K;refine cU.call (c1) [(1005,50)] 51 rfl rfl ?_ ?_;(focus (simp (maxSteps:=2000000) (disch:=omega) only[bF,TY,aL,bQ,cD,SV.ofD,bW,cF,bX,fB,bK,fC,eQ,cQ,cL,dO,eZ,eY,fA,CV.exact,CV.lstOf,CV.lenOf,CV.one,D.one,Value.oneCell',CV.toD0,fS,cC,dU,eV,rD0,eS,eO,fT,reduceCtorEq,reduceIte,Nat.reduceBEq,Nat.reduceEqDiff,Nat.reduceAdd,Nat.reduceMul,Nat.reduceSub,Nat.reduceLT,Nat.reduceLeDiff,Nat.reduceBNe,Int.reduceLE,Int.reduceLT,Int.reduceBEq,Int.reduceBNe,Int.reduceEq,Int.reduceNeg,Int.reduceAdd,Int.reduceSub,Int.reduceToNat,forall_const,iN,wF,lR,fX,List.nil_append,iP,SV.ren,CV.ren,HE.ren,cR,pP,bA,gX,PartD.dv];done));refine cU.done (fun K hK=>?_);simp (maxSteps:=2000000) (disch:=omega) only[bF,TY,aL,bQ,cD,SV.ofD,bW,cF,bX,fB,bK,fC,eQ,cQ,cL,dO,eZ,eY,fA,CV.exact,CV.lstOf,CV.lenOf,CV.one,D.one,Value.oneCell',CV.toD0,fS,cC,dU,eV,rD0,eS,eO,fT,reduceCtorEq,reduceIte,Nat.reduceBEq,Nat.reduceEqDiff,Nat.reduceAdd,Nat.reduceMul,Nat.reduceSub,Nat.reduceLT,Nat.reduceLeDiff,Nat.reduceBNe,Int.reduceLE,Int.reduceLT,Int.reduceBEq,Int.reduceBNe,Int.reduceEq,Int.reduceNeg,Int.reduceAdd,Int.reduceSub,Int.reduceToNat,forall_const,jR,iP,SV.ren,CV.ren,HE.ren,List.map_cons,List.map_nil,gX,PartD.dv];refine hK _ ?_;clear hK K)
  (refine gO (@PartD.dv.eq_1) ?_;try with_reducible exact tt)
  refine Wp.loop (fun k:Nat=>⟨dI [(1,.c (.own 0 0)),(2,.c (.own 1 0)),(3,.c (.own 2 0)),(5,.c (.own 51 0)),(18,vi .i64 p.rows.length),(19,vi .i64 k)],bJ [(0,.cells (p.dv.map .d)),(1,.cells [.d (int 0),.d (int 0),.d bU,.d bU,.d bU]),(2,.cells [.d (int 0),.d (int 0),.d bU]),(51,.cells [.d (int 0),.d (int p.rows.length),.view 50 5 0 p.rows.length,.d (.lst 3 (p.opens.map OpenD.dv)),.d (.lst 4 (p.prods.map ProdD.dv))]),(50,.cells (lD (rk p.rows k)))],60,38,0⟩) (fun k=>k≤p.rows.length) (fun k=>p.rows.length - k) 0 (Nat.zero_le _) ?_ ?_
  ·refine aD.keep rfl (by simp[aO,SV.ids,HE.ids,CV.ids,xN,PartD.dv];rfl) ?_
   simp (maxSteps:=2000000) (disch:=omega) only[bF,TY,aL,bQ,cD,SV.ofD,bW,cF,bX,fB,bK,fC,eQ,cQ,cL,dO,eZ,eY,fA,CV.exact,CV.lstOf,CV.lenOf,CV.one,D.one,Value.oneCell',CV.toD0,fS,cC,dU,eV,rD0,eS,eO,fT,reduceCtorEq,reduceIte,Nat.reduceBEq,Nat.reduceEqDiff,Nat.reduceAdd,Nat.reduceMul,Nat.reduceSub,Nat.reduceLT,Nat.reduceLeDiff,Nat.reduceBNe,Int.reduceLE,Int.reduceLT,Int.reduceBEq,Int.reduceBNe,Int.reduceEq,Int.reduceNeg,Int.reduceAdd,Int.reduceSub,Int.reduceToNat,forall_const,PartD.dv,aTj]
  intro k hk
  by_cases hlt:k<p.rows.length
  ·have dk:decide ((k:Int)<(p.rows.length:Int))=true:=decide_eq_true (by omega)
   have hwk:IntKind.i64.wrap ((k:Int)+1)=((k+1:Nat):Int):=by rw[aG (by omega)];rfl
   have hput:=aV7 hlt
   have hcl:(lD (rk p.rows k)).length=p.rows.length*5:=by rw[aO6,aV6]
   have hk1:k*5+1≤p.rows.length*5:=by omega
   generalize lD (rk p.rows k)=A at *
   (refine gO (ai dk (ai hlt (ai hcl (ai hk1 (ai hput (@PartD.dv.eq_1)))))) ?_;try with_reducible exact tt)
   refine⟨k+1,by omega,by omega,aD.keep rfl (by simp[aO,SV.ids,HE.ids,CV.ids,xN,PartD.dv];rfl) ?_⟩
   (refine rO (ai hwk (@PartD.dv.eq_1)) ?_;try with_reducible exact tt)
  ·have hke:k=p.rows.length:=by omega
   subst hke
   have dk:decide ((p.rows.length:Int)<(p.rows.length:Int))=false:=by simp
   rw[aV5]
   refine Wp.weak (aD.fillCell (A:=51) (B:=50) (k:=2) (n:=p.rows.length) (s:=5) (z:=oI) (ds:=(cX p.rows).map RowD.dv) (cs:=[.d (int 0),.d (int p.rows.length),.view 50 5 0 p.rows.length,.d (.lst 3 (p.opens.map OpenD.dv)),.d (.lst 4 (p.prods.map ProdD.dv))]) (by (refine aK ?_;try with_reducible exact tt)) (by decide) rfl (by simp (maxSteps:=2000000) (disch:=omega) only[bF,TY,aL,bQ,cD,SV.ofD,bW,cF,bX,fB,bK,fC,eQ,cQ,cL,dO,eZ,eY,fA,CV.exact,CV.lstOf,CV.lenOf,CV.one,D.one,Value.oneCell',CV.toD0,fS,cC,dU,eV,rD0,eS,eO,fT,reduceCtorEq,reduceIte,Nat.reduceBEq,Nat.reduceEqDiff,Nat.reduceAdd,Nat.reduceMul,Nat.reduceSub,Nat.reduceLT,Nat.reduceLeDiff,Nat.reduceBNe,Int.reduceLE,Int.reduceLT,Int.reduceBEq,Int.reduceBNe,Int.reduceEq,Int.reduceNeg,Int.reduceAdd,Int.reduceSub,Int.reduceToNat,forall_const,lD]) (fun y hy=>by obtain⟨r,_,rfl⟩:=List.mem_map.1 hy;rfl) (by simp[cY])) ?_
   (refine gO (ai dk (ai @PartD.dv.eq_1 (ai @List.set_cons_succ.{0} (@List.set_cons_zero.{0})))) ?_;try with_reducible exact tt)
   (refine rO (ai @PartD.dv.eq_1 (ai @TabD.dv.eq_1 (ai @List.set_cons_succ.{0} (@List.set_cons_zero.{0})))) ?_;try with_reducible exact tt)
end Go.Proofs.YtkmfmphpndhkjaaGreatDoor
