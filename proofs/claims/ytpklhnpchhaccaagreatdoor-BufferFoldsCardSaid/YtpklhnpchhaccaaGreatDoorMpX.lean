/- The abstract machine (MpT, MpU). -/
import Derived.Test.YtpklhnpchhaccaaGreatDoorMpW
namespace Go.Proofs.YtpklhnpchhaccaaGreatDoor
open Go Go.RowKit
set_option linter.unusedVariables false
set_option linter.unusedSimpArgs false
theorem aH3 {α:Type} {k:Int}:∀ {ks:List Int} {i:Nat},ks[i]? = some k→(∀ j,j<i→ks[j]?≠some k)→∀ {vs:List Value},vs.length=ks.length →
  xV k (ks.zip vs)=vs[i]?∧(∀ v,qV k v (ks.zip vs)=ks.zip (vs.set i v))∧tA k (ks.zip vs)=(ks.eraseIdx i).zip (vs.eraseIdx i)
 | [],i,h,_,_,_=>by simp at h
 | q::ks,0,h,_,v::vs,hl=>by
  simp at h;subst h
  refine⟨?_,fun u=>?_,?_⟩
  ·show (if q=q then _ else _)=_;rw[if_pos rfl];rfl
  ·show (if q=q then _ else _)=_;rw[if_pos rfl];rfl
  ·show (if q=q then _ else _)=_;rw[if_pos rfl];rfl
 | q::ks,i+1,h,hn,v::vs,hl=>by
  have hq:¬ k=q:=fun e=>hn 0 (by omega) (by simp[e])
  obtain⟨h1,h2,h3⟩:=aH3 (α:=α) (i:=i) (by simpa using h) (fun j hj=>by have:=hn (j+1) (by omega);simpa using this) (vs:=vs) (by simpa using hl)
  refine⟨?_,fun u=>?_,?_⟩
  ·show (if k=q then _ else _)=_;rw[if_neg hq];exact h1.trans rfl
  ·show (if k=q then _ else _)=_;rw[if_neg hq];exact congrArg _ (h2 u)
  ·show (if k=q then _ else _)=_;rw[if_neg hq];exact congrArg _ h3
 | q::ks,_,h,_,[],hl=>by simp at hl
theorem aCl {k:Int}:∀ {ks:List Int},k ∉ ks→∀ {vs:List Value},vs.length=ks.length →
  xV k (ks.zip vs)=none∧(∀ v,qV k v (ks.zip vs)=(ks++[k]).zip (vs++[v]))∧tA k (ks.zip vs)=ks.zip vs
 | [],_,[],_=>⟨rfl,fun _=>rfl,rfl⟩
 | q::ks,hn,v::vs,hl=>by
  have hq:¬ k=q:=fun e=>hn (by simp[e])
  obtain⟨h1,h2,h3⟩:=aCl (ks:=ks) (fun h=>hn (List.mem_cons_of_mem _ h)) (vs:=vs) (by simpa using hl)
  refine⟨?_,fun u=>?_,?_⟩
  ·show (if k=q then _ else _)=_;rw[if_neg hq];exact h1
  ·show (if k=q then _ else _)=_;rw[if_neg hq];exact congrArg _ (h2 u)
  ·show (if k=q then _ else _)=_;rw[if_neg hq];exact congrArg _ h3
 | [],_,v::vs,hl=>by simp at hl
 | q::ks,_,[],hl=>by simp at hl
theorem bK.takeI {g:G} {H:Hp} {cs:List CV} {vs:List Value} (h:bK g H cs vs) (i:Nat):bK g H (cs.take i) (vs.take i):=by
 refine⟨by simp[h.1],fun j x v hx hv=>?_⟩
 rw[List.getElem?_take] at hx hv
 split at hx
 ·rename_i hj;rw[if_pos hj] at hv;exact h.2 j x v hx hv
 ·cases hx
theorem bK.dropI {g:G} {H:Hp} {cs:List CV} {vs:List Value} (h:bK g H cs vs) (i:Nat):bK g H (cs.drop i) (vs.drop i):=by
 refine⟨by simp[h.1],fun j x v hx hv=>?_⟩
 rw[List.getElem?_drop] at hx hv
 exact h.2 _ x v hx hv
theorem bK.eraseI {g:G} {H:Hp} {cs:List CV} {vs:List Value} (h:bK g H cs vs) (i:Nat):bK g H (cs.eraseIdx i) (vs.eraseIdx i):=by
 rw[List.eraseIdx_eq_take_drop_succ,List.eraseIdx_eq_take_drop_succ]
 exact (h.takeI i).app (h.dropI (i+1))
theorem bK.setI {g:G} {H:Hp} {cs:List CV} {vs:List Value} (h:bK g H cs vs) (i:Nat) {c:CV} {u:Value} (hc:bD g H c u):bK g H (cs.set i c) (vs.set i u):=by
 refine⟨by simp[h.1],fun j x v hx hv=>?_⟩
 rw[List.getElem?_set] at hx hv
 by_cases hij:i=j
 ·rw[if_pos hij] at hx hv
  split at hx
  ·split at hv
   ·cases hx;cases hv;exact hc
   ·cases hv
  ·cases hx
 ·rw[if_neg hij] at hx hv;exact h.2 j x v hx hv
theorem bK.oneI {g:G} {H:Hp} {c:CV} {u:Value} (hc:bD g H c u):bK g H [c] [u]:=by
 refine⟨rfl,fun j x v hx hv=>?_⟩
 cases j with
 | zero=>simp at hx hv;subst hx hv;exact hc
 | succ j=>simp at hx
def HE.imap (ks:List Int) (cs:List CV):HE:=.ob cs (fun vs o=>vs.length=ks.length∧oH o (ks.zip vs))
theorem RelH.newIMap {W0:Fr} {K0:aQ} {g:G} {H:Hp} {w:World} {id:Nat} {ob:Obj} (hL:oH ob []) (hh:RelH W0 K0 g H w) (hid:H id=none) :
  RelH W0 K0 { g with β:=upd g.β id (some w.heap.size) } (upd H id (some (.imap [] []))) (w.alloc ob)∧dL g H { g with β:=upd g.β id (some w.heap.size) } (upd H id (some (.imap [] []))):=by
 obtain⟨h1,l1⟩:=hh.newObj ob hid
 obtain⟨b,hb,hheap,hn⟩:=h1.holds id _ (aB _ _ _)
 obtain⟨h2,l2⟩:=h1.reh (he0:=.obj ob) (.imap [] []) (aB _ _ _) rfl rfl (fun _=>⟨b,[],ob,hb,hheap,⟨rfl,fun j x v hx=>by simp at hx⟩,⟨rfl,hL⟩,hn⟩)
 rw[wE] at h2 l2
 exact⟨h2,l1.trans l2⟩
theorem RelH.setIMap {W0:Fr} {K0:aQ} {g:G} {H:Hp} {w:World} {id b:Nat} {ob' : Obj} {ks ks' : List Int} {cs cs' : List CV} {vs' : List Value} (hL:oH ob' (ks'.zip vs')) (hl:vs'.length=ks'.length) (hh:RelH W0 K0 g H w) (hr' : bK g H cs' vs') (hid:H id=some (.imap ks cs)) (hβ:g.β id=some b) :
  RelH W0 K0 g (upd H id (some (.imap ks' cs'))) (w.putObj b ob')∧dL g H g (upd H id (some (.imap ks' cs'))):=by
 obtain⟨b0,vs,o,hb0,hheap,hr,hp,hn⟩:=hh.holds id _ hid
 rw[hβ] at hb0;cases hb0
 obtain⟨h1,l1⟩:=hh.reh (.obj o) hid rfl rfl (fun _=>⟨b,hβ,hheap,hn⟩)
 obtain⟨h2,l2⟩:=h1.setObj ob' (aB _ _ _) hβ
 obtain⟨b2,hb2,hheap2,hn2⟩:=h2.holds id _ (aB _ _ _)
 obtain⟨h3,l3⟩:=h2.reh (he0:=.obj ob') (.imap ks' cs') (aB _ _ _) rfl rfl (fun l3=>⟨b2,vs',ob',hb2,hheap2,hr'.mono ((l1.trans l2).trans l3),⟨hl,hL⟩,hn2⟩)
 simp only[wE] at h3 l3 l2 h2
 exact⟨h3,(l1.trans l2).trans l3⟩
def iC (σ:St) (m:Operand) (id:Nat) (ks:List Int) (cs:List CV):Prop:=aK σ.env m = .c (.mp id)∧σ.H id=some (.imap ks cs)
theorem gI {F:Fr} {K0:aQ} {g:G} {σ:St} {a:Act} {w:World} {m:Operand} {id:Nat} {ks:List Int} {cs:List CV} (hr:Rel F K0 g σ a w) (h:iC σ m id ks cs):∃ b ob vs,g.β id=some b∧a.eval m = .map (some b)∧w.heap[b]? = some ob∧bK g σ.H cs vs∧vs.length=ks.length∧oH ob (ks.zip vs):=by
 have hv:=bM hr m
 rw[h.1] at hv
 obtain⟨b,hb,hv,_⟩:=hv
 obtain⟨b',vs,ob,hb',hh,hrr,hL,_⟩:=hr.mem.holds id _ h.2
 rw[hb] at hb';cases hb'
 exact⟨b,ob,vs,hb,hv,hh,hrr,hL.1,hL.2⟩
theorem aH.imapNew {P:Program} {all:List Oper} {o:Oper} {os:List Oper} {σ:St} {k:St→Prop} {t:TypeId} (hop:o.op = .makeMap t none) (hg:bQ all σ.env o=some true) (hd:gN σ o=true) (hn:σ.H σ.nx=none) (hdf:σ.fx.dfs.contains σ.nx=false)
  (h:aH P all os ⟨dE σ.env o.dst (.c (.mp σ.nx)),upd σ.H σ.nx (some (.imap [] [])),σ.nx+1,σ.sz,σ.fx⟩ k):aH P all (o::os) σ k:=by
 refine aH.opr hg hd (by rw[hop];intro c hc;cases hc) fun F K0 g a w hr=>?_
 obtain⟨hm,hle⟩:=hr.mem.newIMap oH.nil hn
 refine⟨_,.map (some w.heap.size),_,_,_,_,σ.nx+1,?_,.inl rfl,hm,hle,?_,?_,h⟩
 ·unfold execOp;rw[hop];simp[Instr.makeMap,newObj,Sem.run,Result.andThen]
 ·exact⟨_,aB _ _ _,rfl,by rw[aB];rfl⟩
 ·intro i hi
  rw[aA]
  rintro rfl
  rw[show σ.fx.dfs.contains σ.nx=true by simpa using hi] at hdf;cases hdf
theorem aH.imapAdd {P:Program} {all:List Oper} {o:Oper} {os:List Oper} {σ:St} {k:St→Prop} {t kt et:TypeId} {q:IntKind} {m kx vx:Operand} (hop:o.op = .mapUpdate t m kx vx) (id:Nat) (ks:List Int) (cs:List CV) (key:Int) (c:CV)
  (ht:P.underlying t=some (.map kt et)) (hkt:P.underlying kt=some (.int q)) (hno:key ∉ ks)
  (hc:bQ all σ.env o=some true∧gN σ o=true∧iC σ m id ks cs∧iU (aK σ.env kx)=some (.int .i64 key)∧aK σ.env vx = .c c∧σ.fx.dfs.contains id=false)
  (h:aH P all os ⟨dE σ.env o.dst (.c (.d (.val undef))),upd σ.H id (some (.imap (ks++[key]) (cs++[c]))),σ.nx,σ.sz,σ.fx⟩ k):aH P all (o::os) σ k:=by
 obtain⟨hg,hd,hm,hk,hv,hdf⟩:=hc
 refine aH.opr hg hd (by rw[hop];intro c hc;cases hc) fun F K0 g a w hr=>?_
 obtain⟨b,ob,vs,hb,hev,hh,hrr,hl,hL⟩:=gI hr hm
 have hvx:=bM hr vx
 rw[hv] at hvx
 obtain⟨ob',hL',hrun⟩:=nG (P:=P) ht hkt hh hL key (a.eval vx)
 rw[(aCl hno hl).2.1] at hL'
 obtain⟨hm2,hle⟩:=hr.mem.setIMap hL' (by simp[hl]) (hrr.app (bK.oneI hvx)) hm.2 hb
 refine⟨_,undef,_,_,_,.c (.d (.val undef)),σ.nx,?_,.inr ⟨rfl,rfl⟩,hm2,hle,(Rep.val undef),aG0 (F:=F) (K0:=K0) (g:=g) (a:=a) (w:=w) hdf,h⟩
 unfold execOp;rw[hop]
 simp only[hev,kY hk (bM hr kx)]
 simp[hrun,Result.andThen]
theorem aH.imapPut {P:Program} {all:List Oper} {o:Oper} {os:List Oper} {σ:St} {k:St→Prop} {t kt et:TypeId} {q:IntKind} {m kx vx:Operand} (hop:o.op = .mapUpdate t m kx vx) (id:Nat) (ks:List Int) (cs:List CV) (i:Nat) (key:Int) (c:CV)
  (ht:P.underlying t=some (.map kt et)) (hkt:P.underlying kt=some (.int q)) (hi:ks[i]? = some key) (hfst:∀ j,j<i→ks[j]?≠some key)
  (hc:bQ all σ.env o=some true∧gN σ o=true∧iC σ m id ks cs∧iU (aK σ.env kx)=some (.int .i64 key)∧aK σ.env vx = .c c∧σ.fx.dfs.contains id=false)
  (h:aH P all os ⟨dE σ.env o.dst (.c (.d (.val undef))),upd σ.H id (some (.imap ks (cs.set i c))),σ.nx,σ.sz,σ.fx⟩ k):aH P all (o::os) σ k:=by
 obtain⟨hg,hd,hm,hk,hv,hdf⟩:=hc
 refine aH.opr hg hd (by rw[hop];intro c hc;cases hc) fun F K0 g a w hr=>?_
 obtain⟨b,ob,vs,hb,hev,hh,hrr,hl,hL⟩:=gI hr hm
 have hvx:=bM hr vx
 rw[hv] at hvx
 obtain⟨ob',hL',hrun⟩:=nG (P:=P) ht hkt hh hL key (a.eval vx)
 rw[(aH3 (α:=Nat) hi hfst hl).2.1] at hL'
 obtain⟨hm2,hle⟩:=hr.mem.setIMap hL' (by simp[hl]) (hrr.setI i hvx) hm.2 hb
 refine⟨_,undef,_,_,_,.c (.d (.val undef)),σ.nx,?_,.inr ⟨rfl,rfl⟩,hm2,hle,(Rep.val undef),aG0 (F:=F) (K0:=K0) (g:=g) (a:=a) (w:=w) hdf,h⟩
 unfold execOp;rw[hop]
 simp only[hev,kY hk (bM hr kx)]
 simp[hrun,Result.andThen]
theorem aH.imapHas {P:Program} {all:List Oper} {o:Oper} {os:List Oper} {σ:St} {k:St→Prop} {t kt et:TypeId} {q:IntKind} {m kx:Operand} (hop:o.op = .lookup t m kx false) (id:Nat) (ks:List Int) (cs:List CV) (i:Nat) (key:Int) (z:Value) (c:CV)
  (ht:P.underlying t=some (.map kt et)) (hkt:P.underlying kt=some (.int q)) (hz:aX P (zeroValue et)=some z) (hi:ks[i]? = some key) (hfst:∀ j,j<i→ks[j]?≠some key) (hci:cs[i]? = some c)
  (hc:bQ all σ.env o=some true∧gN σ o=true∧iC σ m id ks cs∧iU (aK σ.env kx)=some (.int .i64 key))
  (h:aH P all os ⟨dE σ.env o.dst (.c c),σ.H,σ.nx,σ.sz,σ.fx⟩ k):aH P all (o::os) σ k:=by
 obtain⟨hg,hd,hm,hk⟩:=hc
 refine aH.opr hg hd (by rw[hop];intro c hc;cases hc) fun F K0 g a w hr=>?_
 obtain⟨b,ob,vs,hb,hev,hh,hrr,hl,hL⟩:=gI hr hm
 have hrun:=lS (P:=P) ht hkt hh hL key z (jL P w _ hz) false
 have hlt:i<vs.length:=by rw[← hrr.1];exact (List.getElem?_eq_some_iff.1 hci).1
 have hvi:vs[i]? = some vs[i]:=List.getElem?_eq_getElem hlt
 rw[(aH3 (α:=Nat) hi hfst hl).1,hvi] at hrun
 refine⟨_,vs[i],w,g,σ.H,.c c,σ.nx,?_,.inl rfl,hr.mem,dL.refl _ _,hrr.2 i c _ hci hvi,fun _ _=>rfl,h⟩
 unfold execOp;rw[hop]
 simp only[hev,kY hk (bM hr kx)]
 simp[hrun,Result.andThen]
theorem aH.imapNone {P:Program} {all:List Oper} {o:Oper} {os:List Oper} {σ:St} {k:St→Prop} {t kt et:TypeId} {q:IntKind} {m kx:Operand} (hop:o.op = .lookup t m kx false) (id:Nat) (ks:List Int) (cs:List CV) (key:Int) (z:Value)
  (ht:P.underlying t=some (.map kt et)) (hkt:P.underlying kt=some (.int q)) (hz:aX P (zeroValue et)=some z) (hno:key ∉ ks)
  (hc:bQ all σ.env o=some true∧gN σ o=true∧iC σ m id ks cs∧iU (aK σ.env kx)=some (.int .i64 key))
  (h:aH P all os ⟨dE σ.env o.dst (.c (.d (.val z))),σ.H,σ.nx,σ.sz,σ.fx⟩ k):aH P all (o::os) σ k:=by
 obtain⟨hg,hd,hm,hk⟩:=hc
 refine aH.opr hg hd (by rw[hop];intro c hc;cases hc) fun F K0 g a w hr=>?_
 obtain⟨b,ob,vs,hb,hev,hh,hrr,hl,hL⟩:=gI hr hm
 have hrun:=lS (P:=P) ht hkt hh hL key z (jL P w _ hz) false
 rw[(aCl hno hl).1] at hrun
 refine⟨_,z,w,g,σ.H,.c (.d (.val z)),σ.nx,?_,.inl rfl,hr.mem,dL.refl _ _,Rep.val _,fun _ _=>rfl,h⟩
 unfold execOp;rw[hop]
 simp only[hev,kY hk (bM hr kx)]
 simp[hrun,Result.andThen]
theorem aH.imapLen {P:Program} {all:List Oper} {o:Oper} {os:List Oper} {σ:St} {k:St→Prop} {t kt et:TypeId} {m:Operand} (hop:o.op = .call { callee:=.builtin .len,args:=#[m],argTypes:=#[t] }) (id:Nat) (ks:List Int) (cs:List CV)
  (ht:P.underlying t=some (.map kt et))
  (hc:bQ all σ.env o=some true∧gN σ o=true∧iC σ m id ks cs)
  (h:aH P all os ⟨dE σ.env o.dst (.c (.d (.val (goInt ks.length)))),σ.H,σ.nx,σ.sz,σ.fx⟩ k):aH P all (o::os) σ k:=by
 obtain⟨hg,hd,hm⟩:=hc
 refine aH.opr hg hd (by rw[hop];intro c hc;cases hc) fun F K0 g a w hr=>?_
 obtain⟨b,ob,vs,hb,hev,hh,hrr,hl,hL⟩:=gI hr hm
 have hrun:=aGp (P:=P) ht hh hL o.type
 rw[List.length_zip,hl,Nat.min_self] at hrun
 refine⟨_,goInt ks.length,w,g,σ.H,.c (.d (.val _)),σ.nx,?_,.inl rfl,hr.mem,dL.refl _ _,Rep.val _,fun _ _=>rfl,h⟩
 unfold execOp;rw[hop]
 simp[resolve,invoke,builtin,hev,hrun,Result.andThen]
theorem aH.imapDel {P:Program} {all:List Oper} {o:Oper} {os:List Oper} {σ:St} {k:St→Prop} {t kt et tk:TypeId} {q:IntKind} {m kx:Operand} (hop:o.op = .call { callee:=.builtin .delete,args:=#[m,kx],argTypes:=#[t,tk] }) (id:Nat) (ks:List Int) (cs:List CV) (i:Nat) (key:Int)
  (ht:P.underlying t=some (.map kt et)) (hkt:P.underlying kt=some (.int q)) (hi:ks[i]? = some key) (hfst:∀ j,j<i→ks[j]?≠some key)
  (hc:bQ all σ.env o=some true∧gN σ o=true∧iC σ m id ks cs∧iU (aK σ.env kx)=some (.int .i64 key)∧σ.fx.dfs.contains id=false)
  (h:aH P all os ⟨dE σ.env o.dst (.c (.d (.val (.tuple #[])))),upd σ.H id (some (.imap (ks.eraseIdx i) (cs.eraseIdx i))),σ.nx,σ.sz,σ.fx⟩ k):aH P all (o::os) σ k:=by
 obtain⟨hg,hd,hm,hk,hdf⟩:=hc
 refine aH.opr hg hd (by rw[hop];intro c hc;cases hc) fun F K0 g a w hr=>?_
 obtain⟨b,ob,vs,hb,hev,hh,hrr,hl,hL⟩:=gI hr hm
 obtain⟨ob',hL',hrun⟩:=qO (P:=P) ht hkt hh hL key o.type tk
 rw[(aH3 (α:=Nat) hi hfst hl).2.2] at hL'
 have hle2:(vs.eraseIdx i).length=(ks.eraseIdx i).length:=by rw[List.length_eraseIdx,List.length_eraseIdx,hl]
 obtain⟨hm2,hle⟩:=hr.mem.setIMap hL' hle2 (hrr.eraseI i) hm.2 hb
 refine⟨_,.tuple #[],_,_,_,.c (.d (.val _)),σ.nx,?_,.inl rfl,hm2,hle,Rep.val _,aG0 (F:=F) (K0:=K0) (g:=g) (a:=a) (w:=w) hdf,h⟩
 unfold execOp;rw[hop]
 simp[resolve,invoke,builtin,hev,kY hk (bM hr kx),hrun,Result.andThen]
theorem aH.imapDelNo {P:Program} {all:List Oper} {o:Oper} {os:List Oper} {σ:St} {k:St→Prop} {t kt et tk:TypeId} {q:IntKind} {m kx:Operand} (hop:o.op = .call { callee:=.builtin .delete,args:=#[m,kx],argTypes:=#[t,tk] }) (id:Nat) (ks:List Int) (cs:List CV) (key:Int)
  (ht:P.underlying t=some (.map kt et)) (hkt:P.underlying kt=some (.int q)) (hno:key ∉ ks)
  (hc:bQ all σ.env o=some true∧gN σ o=true∧iC σ m id ks cs∧iU (aK σ.env kx)=some (.int .i64 key)∧σ.fx.dfs.contains id=false)
  (h:aH P all os ⟨dE σ.env o.dst (.c (.d (.val (.tuple #[])))),upd σ.H id (some (.imap ks cs)),σ.nx,σ.sz,σ.fx⟩ k):aH P all (o::os) σ k:=by
 obtain⟨hg,hd,hm,hk,hdf⟩:=hc
 refine aH.opr hg hd (by rw[hop];intro c hc;cases hc) fun F K0 g a w hr=>?_
 obtain⟨b,ob,vs,hb,hev,hh,hrr,hl,hL⟩:=gI hr hm
 obtain⟨ob',hL',hrun⟩:=qO (P:=P) ht hkt hh hL key o.type tk
 rw[(aCl hno hl).2.2] at hL'
 obtain⟨hm2,hle⟩:=hr.mem.setIMap hL' hl hrr hm.2 hb
 refine⟨_,.tuple #[],_,_,_,.c (.d (.val _)),σ.nx,?_,.inl rfl,hm2,hle,Rep.val _,aG0 (F:=F) (K0:=K0) (g:=g) (a:=a) (w:=w) hdf,h⟩
 unfold execOp;rw[hop]
 simp[resolve,invoke,builtin,hev,kY hk (bM hr kx),hrun,Result.andThen]
set_option maxHeartbeats 2000000
theorem oX {H H2:Hp} {id:Nat} {x:Option HE}:upd H id x=over [id] H (upd H2 id x):=by
 funext i
 by_cases e:i=id
 ·subst e;rw[aB,eJ (by simp),aB]
 ·rw[aA _ _ e,cM (by simpa using e)]
theorem cR.rotApp {P:Program} {all:List Oper} {o:Oper} {os:List Oper} {σ:St} {tm:List FootM} {k:St→List FootM→Prop} {t e sz bb τ n:Nat} {zs:List Value} {x y:Operand} {cy:CV} {xs ys:List (List D)}
  (hop:o.op = .call { callee:=.builtin .append,args:=#[x,y],argTypes:=#[t,t] })
  (hes:dT P t=some (e,sz,bb,zs)) (hsz:zs.length=sz∧0<sz∧0<bb)
  (hc:bQ all σ.env o=some true∧gN σ o=true∧aK σ.env x = .c (.apt τ sz xs n)∧aK σ.env y = .c cy∧cy.lstOf sz=some ys∧σ.H τ=some (.rot e sz n)∧(xs.length+ys.length)*bb≤140737488355328∧σ.fx.dfs.contains τ=false)
  (h:cR P all os ⟨dE σ.env o.dst (.c (.apt τ sz (xs++ys) (n+1))),upd σ.H τ (some (.rot e sz (n+1))),σ.nx,σ.sz,σ.fx⟩ (⟨[τ],[τ]⟩::tm) k):cR P all (o::os) σ tm k:=by
 refine cR.rule (σ2:=⟨dE σ.env o.dst (.c (.apt τ sz (xs++ys) (n+1))),upd σ.H τ (some (.rot e sz (n+1))),σ.nx,σ.sz,σ.fx⟩) [τ] [τ] (fun _ h=>h) _ rfl rfl rfl (fun i hi=>aA _ _ (by simpa using hi)) (fun E H hE hH=>?_) h
 obtain⟨hg,hd,hx,hy,hys,hτ,htot,hdf⟩:=hc
 have e1:aK E x=aK σ.env x:=bY hE (by rw[hop];simp[Op.operands,Call.operands])
 have e2:aK E y=aK σ.env y:=bY hE (by rw[hop];simp[Op.operands,Call.operands])
 exact aH.rotApp hop hes hsz ⟨(bZ hE).trans hg,hd,e1.trans hx,e2.trans hy,hys,(hH τ (by simp)).trans hτ,htot,hdf⟩ (aH.ret ⟨rfl,oX,rfl,rfl⟩)
theorem cR.rotTail {P:Program} {all:List Oper} {o:Oper} {os:List Oper} {σ:St} {tm:List FootM} {k:St→List FootM→Prop} {t e sz bb τ n:Nat} {zs:List Value} {x lo:Operand} {x0:List D} {xs:List (List D)}
  (hop:o.op = .slice t x (some lo) none none) (hes:dT P t=some (e,sz,bb,zs))
  (hc:bQ all σ.env o=some true∧gN σ o=true∧aK σ.env x = .c (.apt τ sz (x0::xs) n)∧(aK σ.env lo).nat=some 1)
  (h:cR P all os ⟨dE σ.env o.dst (.c (.apt τ sz xs n)),σ.H,σ.nx,σ.sz,σ.fx⟩ (⟨[],[]⟩::tm) k):cR P all (o::os) σ tm k:=by
 refine cR.rule (σ2:=⟨dE σ.env o.dst (.c (.apt τ sz xs n)),σ.H,σ.nx,σ.sz,σ.fx⟩) [] [] (fun _ h=>h) _ rfl rfl rfl (fun i hi=>rfl) (fun E H hE hH=>?_) h
 obtain⟨hg,hd,hx,hlo⟩:=hc
 have e1:aK E x=aK σ.env x:=bY hE (by rw[hop];simp[Op.operands])
 have e2:aK E lo=aK σ.env lo:=bY hE (by rw[hop];simp[Op.operands])
 exact aH.rotTail hop hes ⟨(bZ hE).trans hg,hd,e1.trans hx,by rw[e2];exact hlo⟩ (aH.ret ⟨rfl,(oW _ _).symm,rfl,rfl⟩)
theorem cR.imapHas {P:Program} {all:List Oper} {o:Oper} {os:List Oper} {σ:St} {tm:List FootM} {k:St→List FootM→Prop} {t kt et:TypeId} {q:IntKind} {m kx:Operand} (hop:o.op = .lookup t m kx false) (id:Nat) (ks:List Int) (cs:List CV) (i:Nat) (key:Int) (z:Value) (c:CV)
  (ht:P.underlying t=some (.map kt et)) (hkt:P.underlying kt=some (.int q)) (hz:aX P (zeroValue et)=some z) (hi:ks[i]? = some key) (hfst:∀ j,j<i→ks[j]?≠some key) (hci:cs[i]? = some c)
  (hc:bQ all σ.env o=some true∧gN σ o=true∧iC σ m id ks cs∧iU (aK σ.env kx)=some (.int .i64 key))
  (h:cR P all os ⟨dE σ.env o.dst (.c c),σ.H,σ.nx,σ.sz,σ.fx⟩ (⟨[id],[]⟩::tm) k):cR P all (o::os) σ tm k:=by
 refine cR.rule (σ2:=⟨dE σ.env o.dst (.c c),σ.H,σ.nx,σ.sz,σ.fx⟩) [id] [] (fun _ h=>by simp at h) _ rfl rfl rfl (fun i hi=>rfl) (fun E H hE hH=>?_) h
 obtain⟨hg,hd,⟨hm,hL⟩,hk⟩:=hc
 have e2:aK E kx=aK σ.env kx:=bY hE (by rw[hop];simp[Op.operands])
 exact aH.imapHas hop id ks cs i key z c ht hkt hz hi hfst hci ⟨(bZ hE).trans hg,hd,⟨(bY hE (by rw[hop];simp[Op.operands])).trans hm,(hH id (by simp)).trans hL⟩,by show iU (aK E kx)=_;rw[e2];exact hk⟩ (aH.ret ⟨rfl,(oW _ _).symm,rfl,rfl⟩)
theorem cR.imapNone {P:Program} {all:List Oper} {o:Oper} {os:List Oper} {σ:St} {tm:List FootM} {k:St→List FootM→Prop} {t kt et:TypeId} {q:IntKind} {m kx:Operand} (hop:o.op = .lookup t m kx false) (id:Nat) (ks:List Int) (cs:List CV) (key:Int) (z:Value)
  (ht:P.underlying t=some (.map kt et)) (hkt:P.underlying kt=some (.int q)) (hz:aX P (zeroValue et)=some z) (hno:key ∉ ks)
  (hc:bQ all σ.env o=some true∧gN σ o=true∧iC σ m id ks cs∧iU (aK σ.env kx)=some (.int .i64 key))
  (h:cR P all os ⟨dE σ.env o.dst (.c (.d (.val z))),σ.H,σ.nx,σ.sz,σ.fx⟩ (⟨[id],[]⟩::tm) k):cR P all (o::os) σ tm k:=by
 refine cR.rule (σ2:=⟨dE σ.env o.dst (.c (.d (.val z))),σ.H,σ.nx,σ.sz,σ.fx⟩) [id] [] (fun _ h=>by simp at h) _ rfl rfl rfl (fun i hi=>rfl) (fun E H hE hH=>?_) h
 obtain⟨hg,hd,⟨hm,hL⟩,hk⟩:=hc
 have e2:aK E kx=aK σ.env kx:=bY hE (by rw[hop];simp[Op.operands])
 exact aH.imapNone hop id ks cs key z ht hkt hz hno ⟨(bZ hE).trans hg,hd,⟨(bY hE (by rw[hop];simp[Op.operands])).trans hm,(hH id (by simp)).trans hL⟩,by show iU (aK E kx)=_;rw[e2];exact hk⟩ (aH.ret ⟨rfl,(oW _ _).symm,rfl,rfl⟩)
theorem aH.imapFresh {P:Program} {all:List Oper} {o:Oper} {os:List Oper} {σ:St} {k:St→Prop} {t kt et:TypeId} {q:IntKind} {m kx:Operand} (hop:o.op = .lookup t m kx false) (id:Nat) (ks:List Int) (cs:List CV) (key:Int) (τ e sz n:Nat)
  (ht:P.underlying t=some (.map kt et)) (hkt:P.underlying kt=some (.int q)) (hz:aX P (zeroValue et)=some (.slice none 0 0)) (hno:key ∉ ks) (hτ:σ.H τ=some (.rot e sz n)) (hdf:σ.fx.dfs.contains τ=false)
  (hc:bQ all σ.env o=some true∧gN σ o=true∧iC σ m id ks cs∧iU (aK σ.env kx)=some (.int .i64 key))
  (h:aH P all os ⟨dE σ.env o.dst (.c (.apt τ sz [] (n+1))),upd σ.H τ (some (.rot e sz (n+1))),σ.nx,σ.sz,σ.fx⟩ k):aH P all (o::os) σ k:=by
 obtain⟨hg,hd,hm,hk⟩:=hc
 refine aH.opr hg hd (by rw[hop];intro c hc;cases hc) fun F K0 g a w hr=>?_
 obtain⟨b,ob,vs,hb,hev,hh,hrr,hl,hL⟩:=gI hr hm
 have hrun:=lS (P:=P) ht hkt hh hL key _ (jL P w _ hz) false
 rw[(aCl hno hl).1] at hrun
 obtain⟨h5,h6⟩:=hr.mem.rchg hτ e (n+1) (gL.refl g.K) (by omega) none 0 hr.mem.below hr.mem.ext hr.mem.kw (fun _ _ _ _=>rfl) (fun _ _ _ _ _=>rfl) (fun b hb=>by cases hb) (fun i b hne hib q=>by cases q) (fun b hb=>by cases hb) (Nat.le_refl _) (fun b hb=>by
  have hb:upd g.β τ none τ=some b:=hb
  rw[aB] at hb;cases hb)
 refine⟨_,.slice none 0 0,w,_,_,.c (.apt τ sz [] (n+1)),σ.nx,?_,.inl rfl,h5,h6,⟨vW _ _,e,n+1,aB _ _ _,Nat.le_refl _,fun _=>.inl ⟨none,rfl⟩⟩,aNl hdf,h⟩
 unfold execOp;rw[hop]
 simp only[hev,kY hk (bM hr kx)]
 simp[hrun,Result.andThen]
theorem cR.imapFresh {P:Program} {all:List Oper} {o:Oper} {os:List Oper} {σ:St} {tm:List FootM} {k:St→List FootM→Prop} {t kt et:TypeId} {q:IntKind} {m kx:Operand} (hop:o.op = .lookup t m kx false) (id:Nat) (ks:List Int) (cs:List CV) (key:Int) (τ e sz n:Nat)
  (ht:P.underlying t=some (.map kt et)) (hkt:P.underlying kt=some (.int q)) (hz:aX P (zeroValue et)=some (.slice none 0 0)) (hno:key ∉ ks) (hτ:σ.H τ=some (.rot e sz n)) (hdf:σ.fx.dfs.contains τ=false)
  (hc:bQ all σ.env o=some true∧gN σ o=true∧iC σ m id ks cs∧iU (aK σ.env kx)=some (.int .i64 key))
  (h:cR P all os ⟨dE σ.env o.dst (.c (.apt τ sz [] (n+1))),upd σ.H τ (some (.rot e sz (n+1))),σ.nx,σ.sz,σ.fx⟩ (⟨[id,τ],[τ]⟩::tm) k):cR P all (o::os) σ tm k:=by
 refine cR.rule (σ2:=⟨dE σ.env o.dst (.c (.apt τ sz [] (n+1))),upd σ.H τ (some (.rot e sz (n+1))),σ.nx,σ.sz,σ.fx⟩) [id,τ] [τ] (fun i h=>by simp at h;simp[h]) _ rfl rfl rfl (fun i hi=>aA _ _ (by simpa using hi)) (fun E H hE hH=>?_) h
 obtain⟨hg,hd,⟨hm,hL⟩,hk⟩:=hc
 have e2:aK E kx=aK σ.env kx:=bY hE (by rw[hop];simp[Op.operands])
 exact aH.imapFresh hop id ks cs key τ e sz n ht hkt hz hno ((hH τ (by simp)).trans hτ) hdf ⟨(bZ hE).trans hg,hd,⟨(bY hE (by rw[hop];simp[Op.operands])).trans hm,(hH id (by simp)).trans hL⟩,by show iU (aK E kx)=_;rw[e2];exact hk⟩ (aH.ret ⟨rfl,oX,rfl,rfl⟩)
theorem cR.imapAdd {P:Program} {all:List Oper} {o:Oper} {os:List Oper} {σ:St} {tm:List FootM} {k:St→List FootM→Prop} {t kt et:TypeId} {q:IntKind} {m kx vx:Operand} (hop:o.op = .mapUpdate t m kx vx) (id:Nat) (ks:List Int) (cs:List CV) (key:Int) (c:CV)
  (ht:P.underlying t=some (.map kt et)) (hkt:P.underlying kt=some (.int q)) (hno:key ∉ ks)
  (hc:bQ all σ.env o=some true∧gN σ o=true∧iC σ m id ks cs∧iU (aK σ.env kx)=some (.int .i64 key)∧aK σ.env vx = .c c∧σ.fx.dfs.contains id=false)
  (h:cR P all os ⟨dE σ.env o.dst (.c (.d (.val undef))),upd σ.H id (some (.imap (ks++[key]) (cs++[c]))),σ.nx,σ.sz,σ.fx⟩ (⟨[id],[id]⟩::tm) k):cR P all (o::os) σ tm k:=by
 refine cR.rule (σ2:=⟨dE σ.env o.dst (.c (.d (.val undef))),upd σ.H id (some (.imap (ks++[key]) (cs++[c]))),σ.nx,σ.sz,σ.fx⟩) [id] [id] (fun _ h=>h) _ rfl rfl rfl (fun i hi=>aA _ _ (by simpa using hi)) (fun E H hE hH=>?_) h
 obtain⟨hg,hd,⟨hm,hL⟩,hk,hv,hdf⟩:=hc
 have e2:aK E kx=aK σ.env kx:=bY hE (by rw[hop];simp[Op.operands])
 have e3:aK E vx=aK σ.env vx:=bY hE (by rw[hop];simp[Op.operands])
 exact aH.imapAdd hop id ks cs key c ht hkt hno ⟨(bZ hE).trans hg,hd,⟨(bY hE (by rw[hop];simp[Op.operands])).trans hm,(hH id (by simp)).trans hL⟩,by show iU (aK E kx)=_;rw[e2];exact hk,e3.trans hv,hdf⟩ (aH.ret ⟨rfl,oX,rfl,rfl⟩)
theorem cR.imapPut {P:Program} {all:List Oper} {o:Oper} {os:List Oper} {σ:St} {tm:List FootM} {k:St→List FootM→Prop} {t kt et:TypeId} {q:IntKind} {m kx vx:Operand} (hop:o.op = .mapUpdate t m kx vx) (id:Nat) (ks:List Int) (cs:List CV) (i:Nat) (key:Int) (c:CV)
  (ht:P.underlying t=some (.map kt et)) (hkt:P.underlying kt=some (.int q)) (hi:ks[i]? = some key) (hfst:∀ j,j<i→ks[j]?≠some key)
  (hc:bQ all σ.env o=some true∧gN σ o=true∧iC σ m id ks cs∧iU (aK σ.env kx)=some (.int .i64 key)∧aK σ.env vx = .c c∧σ.fx.dfs.contains id=false)
  (h:cR P all os ⟨dE σ.env o.dst (.c (.d (.val undef))),upd σ.H id (some (.imap ks (cs.set i c))),σ.nx,σ.sz,σ.fx⟩ (⟨[id],[id]⟩::tm) k):cR P all (o::os) σ tm k:=by
 refine cR.rule (σ2:=⟨dE σ.env o.dst (.c (.d (.val undef))),upd σ.H id (some (.imap ks (cs.set i c))),σ.nx,σ.sz,σ.fx⟩) [id] [id] (fun _ h=>h) _ rfl rfl rfl (fun i hi=>aA _ _ (by simpa using hi)) (fun E H hE hH=>?_) h
 obtain⟨hg,hd,⟨hm,hL⟩,hk,hv,hdf⟩:=hc
 have e2:aK E kx=aK σ.env kx:=bY hE (by rw[hop];simp[Op.operands])
 have e3:aK E vx=aK σ.env vx:=bY hE (by rw[hop];simp[Op.operands])
 exact aH.imapPut hop id ks cs i key c ht hkt hi hfst ⟨(bZ hE).trans hg,hd,⟨(bY hE (by rw[hop];simp[Op.operands])).trans hm,(hH id (by simp)).trans hL⟩,by show iU (aK E kx)=_;rw[e2];exact hk,e3.trans hv,hdf⟩ (aH.ret ⟨rfl,oX,rfl,rfl⟩)
theorem cR.imapDel {P:Program} {all:List Oper} {o:Oper} {os:List Oper} {σ:St} {tm:List FootM} {k:St→List FootM→Prop} {t kt et tk:TypeId} {q:IntKind} {m kx:Operand} (hop:o.op = .call { callee:=.builtin .delete,args:=#[m,kx],argTypes:=#[t,tk] }) (id:Nat) (ks:List Int) (cs:List CV) (i:Nat) (key:Int)
  (ht:P.underlying t=some (.map kt et)) (hkt:P.underlying kt=some (.int q)) (hi:ks[i]? = some key) (hfst:∀ j,j<i→ks[j]?≠some key)
  (hc:bQ all σ.env o=some true∧gN σ o=true∧iC σ m id ks cs∧iU (aK σ.env kx)=some (.int .i64 key)∧σ.fx.dfs.contains id=false)
  (h:cR P all os ⟨dE σ.env o.dst (.c (.d (.val (.tuple #[])))),upd σ.H id (some (.imap (ks.eraseIdx i) (cs.eraseIdx i))),σ.nx,σ.sz,σ.fx⟩ (⟨[id],[id]⟩::tm) k):cR P all (o::os) σ tm k:=by
 refine cR.rule (σ2:=⟨dE σ.env o.dst (.c (.d (.val (.tuple #[])))),upd σ.H id (some (.imap (ks.eraseIdx i) (cs.eraseIdx i))),σ.nx,σ.sz,σ.fx⟩) [id] [id] (fun _ h=>h) _ rfl rfl rfl (fun i hi=>aA _ _ (by simpa using hi)) (fun E H hE hH=>?_) h
 obtain⟨hg,hd,⟨hm,hL⟩,hk,hdf⟩:=hc
 have e2:aK E kx=aK σ.env kx:=bY hE (by rw[hop];simp[Op.operands,Call.operands])
 exact aH.imapDel hop id ks cs i key ht hkt hi hfst ⟨(bZ hE).trans hg,hd,⟨(bY hE (by rw[hop];simp[Op.operands,Call.operands])).trans hm,(hH id (by simp)).trans hL⟩,by show iU (aK E kx)=_;rw[e2];exact hk,hdf⟩ (aH.ret ⟨rfl,oX,rfl,rfl⟩)
theorem cR.imapDelNo {P:Program} {all:List Oper} {o:Oper} {os:List Oper} {σ:St} {tm:List FootM} {k:St→List FootM→Prop} {t kt et tk:TypeId} {q:IntKind} {m kx:Operand} (hop:o.op = .call { callee:=.builtin .delete,args:=#[m,kx],argTypes:=#[t,tk] }) (id:Nat) (ks:List Int) (cs:List CV) (key:Int)
  (ht:P.underlying t=some (.map kt et)) (hkt:P.underlying kt=some (.int q)) (hno:key ∉ ks)
  (hc:bQ all σ.env o=some true∧gN σ o=true∧iC σ m id ks cs∧iU (aK σ.env kx)=some (.int .i64 key)∧σ.fx.dfs.contains id=false)
  (h:cR P all os ⟨dE σ.env o.dst (.c (.d (.val (.tuple #[])))),upd σ.H id (some (.imap ks cs)),σ.nx,σ.sz,σ.fx⟩ (⟨[id],[id]⟩::tm) k):cR P all (o::os) σ tm k:=by
 refine cR.rule (σ2:=⟨dE σ.env o.dst (.c (.d (.val (.tuple #[])))),upd σ.H id (some (.imap ks cs)),σ.nx,σ.sz,σ.fx⟩) [id] [id] (fun _ h=>h) _ rfl rfl rfl (fun i hi=>aA _ _ (by simpa using hi)) (fun E H hE hH=>?_) h
 obtain⟨hg,hd,⟨hm,hL⟩,hk,hdf⟩:=hc
 have e2:aK E kx=aK σ.env kx:=bY hE (by rw[hop];simp[Op.operands,Call.operands])
 exact aH.imapDelNo hop id ks cs key ht hkt hno ⟨(bZ hE).trans hg,hd,⟨(bY hE (by rw[hop];simp[Op.operands,Call.operands])).trans hm,(hH id (by simp)).trans hL⟩,by show iU (aK E kx)=_;rw[e2];exact hk,hdf⟩ (aH.ret ⟨rfl,oX,rfl,rfl⟩)
end Go.Proofs.YtpklhnpchhaccaaGreatDoor
