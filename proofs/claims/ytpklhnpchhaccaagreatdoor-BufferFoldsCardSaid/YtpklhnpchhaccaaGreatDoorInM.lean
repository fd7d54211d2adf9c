/- The abstract machine (InC, InX, InY, InZ, InZb, InZc, InZd, InZe). -/
import Derived.Test.YtpklhnpchhaccaaGreatDoorInMo
import Derived.Test.YtpklhnpchhaccaaGreatDoorMpH
import Derived.Test.YtpklhnpchhaccaaGreatDoorSqM
import Derived.Lib.SliceRun
import Derived.Lib.Overlaps
import Derived.Deep.RegionLaw
import Derived.Laws.CopyRow
import Derived.Laws.IdiomCopy
import Derived.WalkKit
import Derived.Shelf.Spec.SlicesInsert
import Derived.Shelf.Spec.SlicesInsertGrow
namespace Go.Proofs.YtpklhnpchhaccaaGreatDoor
open Go Go.RowKit
set_option maxHeartbeats 4000000
set_option maxRecDepth 100000
set_option linter.unusedVariables false
set_option linter.unusedSimpArgs false
structure FoldS where
 p:PartD
 vr:Nat
 vo:Nat
 vt:Nat→Nat
def fO (l:List RowD):List CV:=(l.map RowD.dv).flatten.map CV.d
def fN (l:List BatD):List CV:=(l.map BatD.dv).flatten.map CV.d
def dK (vt:Nat→Nat) (l:List OpenD):List CV:=l.flatMap fun o=>[.d (int o.pid),.d (int o.epoch),.mt (10+o.pid.toNat) (vt o.pid.toNat)]
def fW (l:List OpenD) (q:Nat):List BatD:=match l.find? (fun o=>o.pid == (q:Int)) with
 | some o=>o.bats
 | none=>[]
abbrev qL:List Nat:=[0,9,10,11,12,13,14,15,16,17,18]
abbrev oB (s : FoldS) : List (Nat × HE) :=
  [(0, .cells [.d (int s.p.start), .d (int s.p.fin), .mt 9 s.vr, .mt 10 s.vo, .d (.lst 4 (s.p.prods.map ProdD.dv))]),
   (9, .mrow 47 5 s.vr (fO s.p.rows)), (10, .mrow 95 3 s.vo (dK s.vt s.p.opens)),
   (11, .mrow 62 5 (s.vt 1) (fN (fW s.p.opens 1))), (12, .mrow 62 5 (s.vt 2) (fN (fW s.p.opens 2))), (13, .mrow 62 5 (s.vt 3) (fN (fW s.p.opens 3))), (14, .mrow 62 5 (s.vt 4) (fN (fW s.p.opens 4))),
   (15, .mrow 62 5 (s.vt 5) (fN (fW s.p.opens 5))), (16, .mrow 62 5 (s.vt 6) (fN (fW s.p.opens 6))), (17, .mrow 62 5 (s.vt 7) (fN (fW s.p.opens 7))), (18, .mrow 62 5 (s.vt 8) (fN (fW s.p.opens 8)))]
def mQ (l:List OpenD):Prop:=∀ o ∈ l,1≤o.pid∧o.pid≤8
theorem eS:∀ (ds:List D),(ds.map CV.d).flatMap CV.ids=[]
 | []=>rfl
 | d::ds=>by rw[List.map_cons,List.flatMap_cons,eS ds];rfl
theorem aE4 (vt:Nat→Nat):∀ (l:List OpenD),mQ l→(((dK vt l).flatMap CV.ids).all fun i=>qL.contains i)=true
 | [],_=>rfl
 | o::l,h=>by
  have h1:=h o (List.mem_cons_self ..)
  have ih:=aE4 vt l (fun x hx=>h x (List.mem_cons_of_mem _ hx))
  unfold dK at ih ⊢
  rw[List.flatMap_cons,List.flatMap_append,List.all_append,ih,Bool.and_true]
  obtain⟨q,hq⟩:∃ q,q=o.pid.toNat:=⟨_,rfl⟩
  rw[← hq]
  have h2:1≤q∧q≤8:=by omega
  show (List.all [10+q] fun i=>qL.contains i)=true
  simp only[List.all_cons,List.all_nil,Bool.and_true,List.contains_cons,Bool.or_eq_true,beq_iff_eq]
  omega
theorem aS0 (s:FoldS) (h:mQ s.p.opens):okB qL (oB s)=true:=by
 have h2:=aE4 s.vt _ h
 unfold okB
 simp only[oB,List.all_cons,List.all_nil,HE.ids,fO,fN,eS,Bool.and_true,Bool.true_and]
 rw[h2]
 rfl
theorem nD {args:List SV} {r:SV} {s t:FoldS} (ha:(args.all fun a=>nM a.ids qL)=true) (hr:nM r.ids qL=true) (h1:mQ s.p.opens) (h2:mQ t.p.opens):okG args r (oB s) (oB t)=true:=by
 have e1:(oB s).map (·.1)=qL:=rfl
 have e2:(oB t).map (·.1)=qL:=rfl
 unfold okG
 rw[e1,e2,aS0 s h1,aS0 t h2,ha,hr];rfl
theorem aEo (a b:List RowD):fO (a++b)=fO a++(b.map RowD.dv).flatten.map CV.d:=by simp[fO]
theorem xN (l:List RowD):(fO l).length=l.length*5:=by
 unfold fO
 rw[List.length_map,cQ (sz:=5) (by intro x hx;obtain⟨r,_,rfl⟩:=List.mem_map.1 hx;rfl),List.length_map]
theorem kO {α:Type} (sz:Nat):∀ (xs:List (List α)),(∀ x ∈ xs,x.length=sz)→eM sz xs.length xs.flatten=xs
 | [],_=>rfl
 | x::xs,h=>by
  have h1:=h x (List.mem_cons_self ..)
  show (x++xs.flatten).take sz::eM sz xs.length ((x++xs.flatten).drop sz)=_
  rw[List.take_left' h1,List.drop_left' h1,kO sz xs (fun y hy=>h y (List.mem_cons_of_mem _ hy))]
theorem tQ (f:CV→Option D) (hf:∀ d,f (.d d)=some d):∀ ds:List D,bN f (ds.map CV.d)=some ds
 | []=>rfl
 | d::ds=>by simp only[List.map_cons,bN,hf,tQ f hf ds]
theorem uE (H:Hp):∀ (k:Nat) (d:D),CV.snap H k (.d d)=some d
 | 0,_=>rfl
 | _+1,_=>rfl
theorem nI {H:Hp} {k τ n e sz:Nat} (xs:List (List D)) (hs:0<sz) (hx:∀ x ∈ xs,x.length=sz) (hτ:H τ=some (.mrow e sz n (xs.flatten.map CV.d))):CV.snap H (k+1) (.mt τ n)=some (.lst sz xs):=by
 have hm:=tQ (CV.snap H k) (uE H k) xs.flatten
 simp only[CV.snap,hτ,if_true,hm]
 rw[List.length_map,cQ hx,Nat.mul_div_cancel _ hs,kO sz xs hx]
structure OpOk (l:List OpenD):Prop where
 pid:mQ l
 rise:l.Pairwise (fun a b=>a.pid<b.pid)
theorem aA0 {l:List OpenD} (h:OpOk l) {o:OpenD} (ho:o ∈ l):fW l o.pid.toNat=o.bats:=by
 obtain⟨h1,h2⟩:=h
 have hp:=h1 o ho
 unfold fW
 have:l.find? (fun x=>x.pid == ((o.pid.toNat:Nat):Int))=some o:=by
  have hq:((o.pid.toNat:Nat):Int)=o.pid:=by omega
  rw[hq]
  clear hp hq h1
  induction l with
  | nil=>cases ho
  | cons a r ih =>
   rw[List.pairwise_cons] at h2
   rcases List.mem_cons.1 ho with rfl|hr
   ·simp
   ·have:=h2.1 o hr
    rw[List.find?_cons_of_neg (by simp;omega)]
    exact ih hr h2.2
 rw[this]
theorem aQd {H:Hp} {s:FoldS} (h:aJ H (bI (oB s)) qL) (hok:OpOk s.p.opens) {o:OpenD} (ho:o ∈ s.p.opens):CV.snap H 1 (.mt (10+o.pid.toNat) (s.vt o.pid.toNat))=some (.lst 5 (o.bats.map BatD.dv)):=by
 have hp:=hok.pid o ho
 have hb:=aA0 hok ho
 obtain⟨q,hq⟩:∃ q,q=o.pid.toNat:=⟨_,rfl⟩
 rw[← hq] at hb ⊢
 have hq2:q=1∨q=2∨q=3∨q=4∨q=5∨q=6∨q=7∨q=8:=by omega
 have hH:H (10+q)=some (.mrow 62 5 (s.vt q) ((o.bats.map BatD.dv).flatten.map CV.d)):=by
  rw[oN h (10+q) (by rcases hq2 with rfl|rfl|rfl|rfl|rfl|rfl|rfl|rfl<;>rfl),← hb]
  rcases hq2 with rfl|rfl|rfl|rfl|rfl|rfl|rfl|rfl<;>rfl
 exact nI (o.bats.map BatD.dv) (by decide) (fun x hx=>by obtain⟨b,_,rfl⟩:=List.mem_map.1 hx;rfl) hH
theorem aB1 {H:Hp} {s:FoldS} (h:aJ H (bI (oB s)) qL) (hok:OpOk s.p.opens):∀ l:List OpenD,(∀ o ∈ l,o ∈ s.p.opens)→bN (CV.snap H 1) (dK s.vt l)=some (l.map OpenD.dv).flatten
 | [],_=>rfl
 | o::l,hm=>by
  have h1:=aQd h hok (hm o (List.mem_cons_self ..))
  have ih:=aB1 h hok l (fun x hx=>hm x (List.mem_cons_of_mem _ hx))
  unfold dK at ih ⊢
  rw[List.flatMap_cons,List.cons_append,List.cons_append,List.cons_append,List.nil_append]
  simp only[bN,uE,h1,ih]
  rfl
theorem aBi (vt:Nat→Nat):∀ l:List OpenD,(dK vt l).length=l.length*3
 | []=>rfl
 | o::l=>by
  have ih:=aBi vt l
  unfold dK at ih ⊢
  rw[List.flatMap_cons,List.length_append,ih]
  simp only[List.length_cons,List.length_nil]
  omega
theorem aW7 {H:Hp} {s:FoldS} (h:aJ H (bI (oB s)) qL) (hok:OpOk s.p.opens):CV.snap H 3 (.own 0 0)=some (aNb s.p):=by
 have h0:H 0=bI (oB s) 0:=h.1
 have h9:H 9=bI (oB s) 9:=h.2.1
 have h10:H 10=bI (oB s) 10:=h.2.2.1
 have e9:CV.snap H 2 (.mt 9 s.vr)=some (.lst 5 (s.p.rows.map RowD.dv)):=nI (e:=47) (s.p.rows.map RowD.dv) (by decide) (fun x hx=>by obtain⟨b,_,rfl⟩:=List.mem_map.1 hx;rfl) h9
 have e10:CV.snap H 2 (.mt 10 s.vo)=some (.lst 3 (s.p.opens.map OpenD.dv)):=by
  have hm:=aB1 h hok s.p.opens (fun _ h=>h)
  have h10' : H 10=some (.mrow 95 3 s.vo (dK s.vt s.p.opens)):=h10
  simp only[CV.snap,h10',if_true,hm]
  have hx:∀ x ∈ s.p.opens.map OpenD.dv,x.length=3:=fun x hx=>by obtain⟨b,_,rfl⟩:=List.mem_map.1 hx;rfl
  rw[aBi,Nat.mul_div_cancel _ (by decide),show s.p.opens.length=(s.p.opens.map OpenD.dv).length by simp,kO 3 _ hx]
 have h0' : H 0=some (.cells [.d (int s.p.start),.d (int s.p.fin),.mt 9 s.vr,.mt 10 s.vo,.d (.lst 4 (s.p.prods.map ProdD.dv))]):=h0
 simp only[CV.snap] at e9 e10 ⊢
 simp only[h0',bN,CV.snap,e9,e10,uE]
 rfl
theorem iK {H:Hp} {s:FoldS} {x:D} (hok:OpOk s.p.opens) (h:aJ H (bI (oB s)) qL):(bN (SV.snap H) [.c (.own 0 0),.c (.d x)]).map (· ++ [])=some [aNb s.p,x]:=by
 simp only[bN,SV.snap,aW7 h hok,uE,Option.map_some,List.append_nil]
def aW0 (s:FoldS) (b:BatD):FoldS:=⟨{ s.p with rows:=s.p.rows++cS b s.p.fin,fin:=s.p.fin+(b.recs.length:Int) },s.vr+1,s.vo,s.vt⟩
abbrev aOf (b:BatD):SV:=.agg (b.dv.map CV.d)
abbrev bAi:SV:=.c (.d (.tup []))
theorem aPw (s:FoldS) (b:BatD) (hp:mQ s.p.opens) (hf : -1000000000≤s.p.fin∧s.p.fin≤1000000000) (hb:b.recs.length≤100000) (hr:s.p.rows.length≤1000000) :
  FunG Tryz.prog 303 [.c (.own 0 0),aOf b] qL (bI (oB s)) bAi qL (bI (oB (aW0 s b))):=by
 have c1:=aJo b s.p.fin hb
 have hrl:(cS b s.p.fin).length=b.recs.length:=pA _ _ _
 have hcl:=xN s.p.rows
 have hbb:((fO s.p.rows).length+b.recs.length)*56≤140737488355328:=by rw[hcl];omega
 refine FunG.of_bodyH rfl rfl Tryz.func303 rfl rfl Tryz.ntmps303 Tryz.results303 (Nat.le_of_ble_eq_true rfl) (nD rfl rfl hp hp) ?_
 (refine gO (ai @aC (ai @BatD.dv.eq_1 (ai hrl (ai @List.length_map.{0,0} (hbb))))) ?_)
 refine aO.normal ?_
 (refine rO (ai @aC (ai @aJ.eq_1 (ai @aJ.eq_2 (ai @aW0.eq_1 (@aEo))))) ?_;try with_reducible exact tt)
def aXn (s:FoldS) (r:RowD):FoldS:=⟨{ s.p with rows:=s.p.rows++[{ r with off:=s.p.fin }],fin:=s.p.fin+1 },s.vr+1,s.vo,s.vt⟩
abbrev jG (e:EntD):SV:=.agg (e.dv.map CV.d)
abbrev lJ:SV:=.c (.d (.val .nilIface))
abbrev wU (s:List UInt8):SV:=.c (.d (tO (str s) 70))
theorem aSu (s:FoldS) (e:EntD) (hp:OpOk s.p.opens) (hf : -1000000000≤s.p.fin∧s.p.fin<1048576) (hr:s.p.rows.length≤1000000) :
  FunG Tryz.prog 287 [.c (.own 0 0),jG e] qL (bI (oB s)) lJ qL (bI (oB (aXn s e.row))):=by
 have c1:=rB s.p 1
 rw[show IntKind.i64.wrap (1048576 - 1)=1048575 from bA (by decide),show decide (s.p.fin≤1048575)=true from decide_eq_true (by omega)] at c1
 have hcl:=xN s.p.rows
 have hbb:((fO s.p.rows).length+1)*56≤140737488355328:=by rw[hcl];omega
 refine FunG.of_bodyH rfl rfl Tryz.func287 rfl rfl Tryz.ntmps287 Tryz.results287 (Nat.le_of_ble_eq_true rfl) (nD rfl rfl hp.pid hp.pid) ?_
 (refine gO (ai @aC (@EntD.dv.eq_1)) ?_)
 refine Wp.reg (fun K hK=>?_)
 (refine rO (ai @aC (@EntD.dv.eq_1)) ?_)
 refine fQ c1 rfl (iK hp (by (refine rO (ai @aC (ai @aJ.eq_1 (@aJ.eq_2))) ?_;try with_reducible exact tt))) ?_
 (refine rO (@aC) ?_)
 refine hK _ ?_
 clear hK K
 (refine gO (ai @aC (ai @EntD.dv.eq_1 (hbb))) ?_)
 refine aO.ret ?_
 (refine rO (ai @aC (ai @aJ.eq_1 (ai @aJ.eq_2 (ai @aXn.eq_1 (ai @aEo (ai @RowD.dv.eq_1 (ai @List.map_cons.{0,0} (ai @List.map_nil.{0,0} (ai @List.flatten_cons.{0} (ai @List.flatten_nil.{0} (@List.append_nil.{0}))))))))))) ?_;try with_reducible exact tt)
end Go.Proofs.YtpklhnpchhaccaaGreatDoor
namespace Go.Proofs.YtpklhnpchhaccaaGreatDoor
open Go Go.RowKit Go.Lib
set_option maxHeartbeats 4000000
set_option maxRecDepth 100000
set_option linter.unusedVariables false
set_option linter.unusedSimpArgs false
end Go.Proofs.YtpklhnpchhaccaaGreatDoor
namespace Go.Proofs.YtpklhnpchhaccaaGreatDoor
open Go Go.RowKit
set_option maxHeartbeats 4000000
set_option maxRecDepth 100000
set_option linter.unusedVariables false
set_option linter.unusedSimpArgs false
theorem bK.take {g:G} {H:Hp} {cs:List CV} {vs:List Value} (h:bK g H cs vs) (n:Nat):bK g H (cs.take n) (vs.take n) :=
 ⟨by simp[h.1],fun j x v hx hv=>by
  rw[List.getElem?_take] at hx hv
  split at hx
  ·rename_i hlt;rw[if_pos hlt] at hv;exact h.2 j x v hx hv
  ·cases hx⟩
theorem bK.drop {g:G} {H:Hp} {cs:List CV} {vs:List Value} (h:bK g H cs vs) (n:Nat):bK g H (cs.drop n) (vs.drop n) :=
 ⟨by simp[h.1],fun j x v hx hv=>by
  rw[List.getElem?_drop] at hx hv
  exact h.2 _ x v hx hv⟩
theorem mQ.erase {l:List OpenD} (h:mQ l) (i:Nat):mQ (l.take i++l.drop (i+1)):=fun o ho=>h o ((List.mem_append.1 ho).elim List.mem_of_mem_take List.mem_of_mem_drop)
end Go.Proofs.YtpklhnpchhaccaaGreatDoor
namespace Go.Proofs.YtpklhnpchhaccaaGreatDoor
open Go Go.RowKit Go.Lib
set_option maxHeartbeats 4000000
set_option maxRecDepth 100000
set_option linter.unusedVariables false
set_option linter.unusedSimpArgs false
end Go.Proofs.YtpklhnpchhaccaaGreatDoor
namespace Go.Proofs.YtpklhnpchhaccaaGreatDoor
open Go Go.RowKit Go.Lib
set_option maxHeartbeats 4000000
set_option maxRecDepth 100000
set_option linter.unusedVariables false
set_option linter.unusedSimpArgs false
end Go.Proofs.YtpklhnpchhaccaaGreatDoor
namespace Go.Proofs.YtpklhnpchhaccaaGreatDoor
open Go Go.RowKit Go.Lib
set_option maxHeartbeats 4000000
set_option maxRecDepth 100000
set_option linter.unusedVariables false
set_option linter.unusedSimpArgs false
end Go.Proofs.YtpklhnpchhaccaaGreatDoor
namespace Go.Proofs.YtpklhnpchhaccaaGreatDoor
open Go Go.RowKit
set_option maxHeartbeats 4000000
set_option maxRecDepth 100000
set_option linter.unusedVariables false
set_option linter.unusedSimpArgs false
theorem RelH.mreset {W0:Fr} {K0:aQ} {g:G} {H:Hp} {w:World} {τ e sz n:Nat} {cs:List CV} (hh:RelH W0 K0 g H w) (hτ:H τ=some (.mrow e sz n cs)) (n' : Nat) (hn:n<n') :
  RelH W0 K0 ⟨g.K,upd g.β τ none,upd g.cap τ (g.cap τ)⟩ (upd H τ (some (.mrow e sz n' []))) w∧dL g H ⟨g.K,upd g.β τ none,upd g.cap τ (g.cap τ)⟩ (upd H τ (some (.mrow e sz n' []))):=by
 obtain⟨hs0,_,_⟩:=hh.holds τ _ hτ
 exact hh.mchg (w':=w) hτ e sz n' [] hn none (g.cap τ) hh.below hh.kw (fun _ _ _ _=>rfl) (fun b hb=>by cases hb) (fun i b hne hi q=>by cases q) (fun b hb=>by cases hb) (Nat.le_refl _) (fun hle=>⟨hs0,Nat.zero_mod _,.inl ⟨aB _ _ _,rfl⟩⟩)
def FoldS.ins (s:FoldS) (i:Nat) (pid epoch:Int):FoldS :=
 { s with p:={ s.p with opens:=s.p.opens.take i++⟨pid,epoch,[]⟩::s.p.opens.drop i },vo:=s.vo+1,vt:=fun q=>if q=pid.toNat then s.vt q+1 else s.vt q }
theorem mQ.ins {l:List OpenD} (h:mQ l) (i:Nat) {o:OpenD} (ho:1≤o.pid∧o.pid≤8):mQ (l.take i++o::l.drop i):=fun x hx=>by
 rcases List.mem_append.1 hx with hx|hx
 ·exact h x (List.mem_of_mem_take hx)
 ·rcases List.mem_cons.1 hx with rfl|hx
  ·exact ho
  ·exact h x (List.mem_of_mem_drop hx)

end Go.Proofs.YtpklhnpchhaccaaGreatDoor
