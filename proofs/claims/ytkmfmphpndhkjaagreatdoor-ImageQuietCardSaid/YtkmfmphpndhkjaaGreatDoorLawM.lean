/- The abstract machine (OpenS, LawA, OpenG, OpenT, OpenE, OpenI). -/
import Derived.Test.YtkmfmphpndhkjaaGreatDoorProg
import Derived.Test.YtkmfmphpndhkjaaGreatDoorMem
import Derived.ProofKit
import Derived.OpenShut
import Derived.Deep.Slices
import Derived.Deep.Fields
import Derived.ChangeSame
import Derived.Lib.SmallJoins
import Derived.Test.YtkmfmphpndhkjaaGreatDoorMacB
import Derived.Test.YtkmfmphpndhkjaaGreatDoorLawKit
import Derived.Test.YtkmfmphpndhkjaaGreatDoorTie
import Derived.Lib.LaidTab
import Derived.Test.YtkmfmphpndhkjaaGreatDoorApA
import Derived.Test.YtkmfmphpndhkjaaGreatDoorImA
namespace Go.Proofs.YtkmfmphpndhkjaaGreatDoor
open Go.ChangeShapes Go.WideShapes Go.Deep
section
variable {H:Type} {enc:TypeId × Value→H} {P:Program} {w:World} {base:Nat} {spare:Nat→Bool} {held:Bool}
theorem vP {t e:TypeId} {fs:Array Field} {fuel:Nat} {cs:List Value} {x:DataW H × List MemPlace} (ht:P.underlying t=some (.slice e)) (he:P.underlying e=some (.struct fs))
  (hone:oneCellFields P fs=true) (hC:P.cellsOf e=fs.size) (h:DataW.trod enc P w base spare held fuel t cs=some x) :
  (cs=[.slice none 0 0]∧x=(.nil,[])) ∨
  ∃ (a:Addr) (len cap m:Nat) (D:Nat→DataW H) (Pl:Nat→List MemPlace),cs=[.slice (some a) len cap]∧base≤a.block∧len≤cap∧cap≤maxLen∧m=(if spare a.block then cap else len) ∧
   x=(.slice ((List.range len).map D) ((List.range (m - len)).map fun j=>D (len+j)),MemPlace.row a (m*fs.size)++(List.range m).flatMap Pl) ∧
   ∀ i,i<m→∃ (ys:List (DataW H × List MemPlace)) (n:Nat),D i = .agg (ys.map (·.1))∧Pl i=ys.flatMap (·.2)∧ys.length=fs.size ∧
    ∀ (j:Nat) (f:Field),fs[j]? = some f→∃ (v:Value) (y:DataW H × List MemPlace),w.cell? (a.add (i*fs.size+j))=some v∧ys[j]? = some y∧DataW.trod enc P w base spare held n f.type [v]=some y:=by
 rcases open_slice ht h with h0|⟨a,len,cap,m,n,D,Pl,hcs,hb,hl,hm,hmm,hx,hi⟩
 ·exact .inl h0
 ·refine .inr ⟨a,len,cap,m,D,Pl,hcs,hb,hl,hm,hmm,by rw[hC] at hx;exact hx,fun i him=>?_⟩
  obtain⟨cs',hc,ht'⟩:=hi i him
  rw[hC] at hc
  obtain⟨ys,n',hn',hy,hlen,hyl,hf⟩:=DataW.trod_struct he ht'
  obtain⟨_,hcl,hat⟩:=World.cells?_some hc
  simp only[Prod.mk.injEq] at hy
  refine⟨ys,n',hy.1,hy.2,hyl,fun j f hj=>?_⟩
  obtain⟨ho,hk⟩:=hone_of hone j f hj
  have hjl:j<fs.size:=(Array.getElem?_eq_some_iff.1 hj).1
  have hcell:=hat j hjl
  have hv:cs'[j]? = some (cs'[j]'(by omega)):=List.getElem?_eq_getElem (by omega)
  have h1:=hf j f hj
  rw[ho,hk] at h1
  have hone' : (cs'.drop j).take 1=[cs'[j]'(by omega)]:=by
   rw[List.drop_eq_getElem_cons (by omega)]
   rfl
  rw[hone'] at h1
  have hys:ys[j]? = some (ys[j]'(by omega)):=List.getElem?_eq_getElem (by omega)
  refine⟨_,_,?_,hys,h1.trans hys⟩
  rw[← Go.Deep.add_add,hcell,hv]
end
theorem mF {α:Type} {p:Nat→α→Prop}:∀ (n:Nat),(∀ i,i<n→∃ x,p i x)→∃ l:List α,l.length=n∧∀ i (h:i<l.length),p i l[i]
 | 0,_=>⟨[],rfl,fun i h=>absurd h (by simp)⟩
 | n+1,h=>by
  obtain⟨l,hl,hp⟩:=mF n (fun i hi=>h i (by omega))
  obtain⟨x,hx⟩:=h n (by omega)
  refine⟨l++[x],by simp[hl],fun i hi=>?_⟩
  by_cases e:i<l.length
  ·rw[List.getElem_append_left e];exact hp i e
  ·have:i=n:=by simp at hi;omega
   subst this
   rw[List.getElem_append_right (by omega)]
   simpa [hl] using hx
theorem aG7 (b off k:Nat):(⟨b,off,none⟩:Addr).add k=⟨b,off+k,none⟩:=by unfold Addr.add;split<;>simp_all
theorem aRk {H:Type} {enc:TypeId × Value→H} {P:Program} {w:World} {spare:Nat→Bool} {held:Bool} {α:Type} {R:List Value→α→Prop} {t e:TypeId} {fs:Array Field} {fuel:Nat} {v:Value} {x:DataW H × List MemPlace} (ht:P.underlying t=some (.slice e)) (he:P.underlying e=some (.struct fs))
  (hone:oneCellFields P fs=true) (hC:P.cellsOf e=fs.size) (hpos:0<fs.size) (h:DataW.trod enc P w 0 spare held fuel t [v]=some x)
  (hel:∀ (cs:List Value) (n:Nat),cs.length=fs.size→(∀ (j:Nat) (f:Field),fs[j]? = some f→∃ v y,cs[j]? = some v∧DataW.trod enc P w 0 spare held n f.type [v]=some y)→∃ x,R cs x) :
  ∃ xs:List α,gF w.heap.size w fs.size R v xs∧xs.length≤maxLen:=by
 rcases vP ht he hone hC h with ⟨h0,_⟩|⟨a,len,cap,m,D,Pl,hcs,hb,hl,hm,hmm,hx,hi⟩
 ·cases h0;exact⟨[],gF.nil _ _ _ _ _ _,Nat.zero_le _⟩
 ·cases hcs
  have hml:len≤m:=by rw[hmm];split<;>omega
  have hc:∀ i,i<len→∃ xc:α × List Value,xc.2.length=fs.size∧R xc.2 xc.1∧∀ j,j<fs.size→w.cell? (a.add (i*fs.size+j))=xc.2[j]?:=fun i hil=>by
   obtain⟨ys,n,_,_,hyl,hf⟩:=hi i (by omega)
   obtain⟨cs,hcl,hcs⟩:=mF (p:=fun j v=>∃ y f,fs[j]? = some f∧w.cell? (a.add (i*fs.size+j))=some v∧DataW.trod enc P w 0 spare held n f.type [v]=some y) fs.size (fun j hj=>by
    obtain⟨v,y,h1,h2,h3⟩:=hf j fs[j] (Array.getElem?_eq_getElem hj)
    exact⟨v,y,fs[j],Array.getElem?_eq_getElem hj,h1,h3⟩)
   obtain⟨x,hx⟩:=hel cs n hcl (fun j f hj=>by
    have hjl:j<fs.size:=(Array.getElem?_eq_some_iff.1 hj).1
    obtain⟨y,f',h1,h2,h3⟩:=hcs j (by omega)
    rw[hj] at h1;cases h1
    exact⟨cs[j]'(by omega),y,List.getElem?_eq_getElem (by omega),h3⟩)
   refine⟨(x,cs),hcl,hx,fun j hj=>?_⟩
   obtain⟨y,f',h1,h2,h3⟩:=hcs j (by omega)
   rw[h2];exact (List.getElem?_eq_getElem (l:=cs) (by omega)).symm
  obtain⟨xs,hxl,hxs⟩:=mF len hc
  refine⟨xs.map (·.1),?_,by simp;omega⟩
  refine⟨some a,cap,by simp[hxl],by simp;omega,fun hne=>?_⟩
  have h0:0<xs.length:=by
   rcases xs with _|⟨y,ys⟩
   ·exact absurd rfl hne
   ·simp
  have hfirst:=(hxs 0 h0).2.2 0 hpos
  rw[List.getElem?_eq_getElem (by have:=(hxs 0 h0).1;omega)] at hfirst
  obtain⟨b,off,sp⟩:=a
  have hsp:sp=none:=by simpa [Addr.add] using World.cell?_spot hfirst
  subst hsp
  refine⟨b,off,rfl,by have:=World.block_lt_of_cell? w _ hfirst;simpa [Addr.add] using this,fun i hil=>?_⟩
  have hil' : i<xs.length:=by simpa using hil
  obtain⟨h1,h2,h3⟩:=hxs i hil'
  refine⟨xs[i].2,h1,by simpa using h2,fun j hj=>?_⟩
  have:=h3 j hj
  rw[← this,aG7,Nat.add_assoc]
end Go.Proofs.YtkmfmphpndhkjaaGreatDoor
namespace Go.Proofs.YtkmfmphpndhkjaaGreatDoor
open Go Go.RowKit Go.ChangeShapes Go.WideShapes Go.Deep Go.Joins
set_option linter.unusedVariables false
set_option linter.unusedSimpArgs false
def sY (W:World):aW:=fun b o=>W.cell? ⟨b,o,none⟩
theorem aJ.law {P:Program} {f:FuncId} {ds:List D} (h:aJ P f ds (dC true)) {W:World} {vs:List Value} (hB:jO uJ (sY W)) (hL:gK (sY W) ds vs):Calls P f vs.toArray W fun e w'=>e = .returned (.bool true)∧Below W.heap.size W w' :=
 (h.2 (sY W) W vs hB (fun b o v hv=>hv) hL).mono (fun e w' ⟨v,K',h1,_,_,h4,h5⟩=>⟨by rw[h1];cases h4;rfl,h5⟩)
theorem gF.rep {α:Type} {W:World} {B sz:Nat} {R:List Value→α→Prop} {v:Value} {xs:List α} (dv:α→List D) (h:gF B W sz R v xs) (hR:∀ cs x,cs.length=sz→R cs x→gK (sY W) (dv x) cs∧∀ u ∈ cs,u.oneCell' = true):Rep (sY W) (.lst sz (xs.map dv)) v:=by
 obtain⟨a,c,rfl,hc,hx⟩:=h
 by_cases hne:xs=[]
 ·subst hne
  exact Rep.lst (vs:=[]) (by simp) (by simp) rfl (by simp) (by simp) (by simp)
 ·obtain⟨b,off,rfl,hb,hel⟩:=hx hne
  obtain⟨css,hl,hp⟩:=mF (p:=fun i cs=>cs.length=sz∧(∃ h:i<xs.length,R cs xs[i])∧∀ j,j<sz→W.cell? ⟨b,off+i*sz+j,none⟩=cs[j]?) xs.length (fun i hi=>by
   obtain⟨cs,h1,h2,h3⟩:=hel i hi
   exact⟨cs,h1,⟨hi,h2⟩,h3⟩)
  have hlen:∀ cs ∈ css,cs.length=sz:=fun cs hcs=>by
   obtain⟨i,hi,rfl⟩:=List.getElem_of_mem hcs
   exact (hp i hi).1
  have hrep:∀ i (hi:i<css.length) (hi' : i<xs.length),gK (sY W) (dv xs[i]) css[i]∧∀ u ∈ css[i],u.oneCell' = true:=fun i hi hi'=>by
   obtain⟨_,h2⟩:=(hp i hi).2.1
   exact hR _ _ (hp i hi).1 h2
  have hdl:∀ x ∈ xs.map dv,x.length=sz:=fun x hx=>by
   obtain⟨y,hy,rfl⟩:=List.mem_map.1 hx
   obtain⟨i,hi,rfl⟩:=List.getElem_of_mem hy
   have:=(hrep i (by omega) hi).1.1
   rw[this];exact (hp i (by omega)).1
  have f1:=dV hdl
  have f2:=dV hlen
  have key:=Rep.lst (K:=sY W) (sz:=sz) (xs:=xs.map dv) (vs:=css.flatten) (a:=some ⟨b,off,none⟩) (c:=c) hdl (by simpa using hc) (by rw[f1,f2];simp[hl])
   (fun j x u hx hu=>by
    have hj:j<xs.length*sz:=by have:=(List.getElem?_eq_some_iff.1 hx).1;rw[f1] at this;simpa using this
    have hsz:0<sz:=by rcases Nat.eq_zero_or_pos sz with h|h;(subst h;simp at hj);exact h
    have hi:j / sz<xs.length:=Nat.div_lt_of_lt_mul (by rw[Nat.mul_comm];exact hj)
    have hm:j % sz<sz:=Nat.mod_lt _ hsz
    have e:j=(j / sz)*sz+j % sz:=by rw[Nat.mul_comm];exact (Nat.div_add_mod j sz).symm
    rw[e,vA hdl (j / sz) (dv xs[j / sz]) (by simp[hi]) _ hm] at hx
    rw[e,vA hlen (j / sz) (css[j / sz]'(by omega)) (List.getElem?_eq_getElem (by omega)) _ hm] at hu
    exact (hrep (j / sz) (by omega) hi).1.2 _ x u hx hu)
   (fun u hu=>by
    obtain⟨cs,hcs,hu⟩:=List.mem_flatten.1 hu
    obtain⟨i,hi,rfl⟩:=List.getElem_of_mem hcs
    exact (hrep i hi (by omega)).2 u hu)
   (fun _=>⟨b,off,rfl,fun j u hu=>by
    have hj:j<xs.length*sz:=by have:=(List.getElem?_eq_some_iff.1 hu).1;rw[f2,hl] at this;exact this
    have hsz:0<sz:=by rcases Nat.eq_zero_or_pos sz with h|h;(subst h;simp at hj);exact h
    have hi:j / sz<xs.length:=Nat.div_lt_of_lt_mul (by rw[Nat.mul_comm];exact hj)
    have hm:j % sz<sz:=Nat.mod_lt _ hsz
    have e:j=(j / sz)*sz+j % sz:=by rw[Nat.mul_comm];exact (Nat.div_add_mod j sz).symm
    rw[e,vA hlen (j / sz) (css[j / sz]'(by omega)) (List.getElem?_eq_getElem (by omega)) _ hm] at hu
    show W.cell? ⟨b,off+j,none⟩=some u
    rw[e,← Nat.add_assoc,(hp (j / sz) (by omega)).2.2 _ hm];exact hu⟩)
  rw[List.length_map] at key
  exact key
theorem gK.two {K:aW} {a b:D} {u v:Value} (h1:Rep K a u) (h2:Rep K b v):gK K [a,b] [u,v]:=⟨rfl,fun j x y hx hy=>by
 match j,hx,hy with
 | 0,hx,hy=>simp at hx hy;subst hx hy;exact h1
 | 1,hx,hy=>simp at hx hy;subst hx hy;exact h2⟩
theorem gK.nil {K:aW}:gK K [] []:=⟨rfl,fun j x y hx=>by simp at hx⟩
theorem gK.cons {K:aW} {a:D} {u:Value} {ds:List D} {us:List Value} (h1:Rep K a u) (h2:gK K ds us):gK K (a::ds) (u::us):=⟨by simp[h2.1],fun j x y hx hy=>by
 cases j with
 | zero=>simp at hx hy;subst hx hy;exact h1
 | succ j=>exact h2.2 j x y (by simpa using hx) (by simpa using hy)⟩
theorem nN {l : List (String × DataW Unit)} {W : World} (h0 : laidMetH Tryz.prog l W) (hl : (l.filter fun x => x.2.handleName?.isSome) = [("errors.errorType", Rows.laid_errors_errorType)] := by kernel_rfl) : jO uJ (sY W) := by
 have et : Tryz.prog.globalNamed "errors.errorType" = some 0 := by kernel_rfl
 have rt : (Tryz.prog.cutTypes.find? (·.1 == "internal/reflectlite.rtype")).map (·.2) = some 190 := by kernel_rfl
 have oneRow:((List.range 306).filter fun t=>Tryz.prog.rowNamed t [101,114,114,111,114])=[77]:=by kernel_rfl
 have size:Tryz.prog.types.size=306:=by kernel_rfl
 have h' : handlesMet Tryz.prog [("errors.errorType", Rows.laid_errors_errorType)] W := by
  unfold laidMetH at h0
  rw[hl] at h0
  exact h0.2
 obtain⟨name,u,ty,e1,e2,e3,e4,e5⟩:=h' _ (List.mem_singleton.2 rfl)
 have en:name=[101,114,114,111,114]:=(Option.some.inj e1).symm
 subst en
 obtain rfl:=Option.some.inj (rt.symm.trans e2)
 have hm:ty ∈ (List.range 306).filter fun t=>Tryz.prog.rowNamed t [101,114,114,111,114]:=List.mem_filter.2 ⟨List.mem_range.2 (by rw[← size];exact e3),e4⟩
 rw[oneRow] at hm
 obtain rfl:=List.mem_singleton.1 hm
 have hh:typeHandle Tryz.prog 77 = .pointer (some ⟨1,77,none⟩):=by kernel_rfl
 rw[hh] at e5
 have hc:W.cell? ⟨0,0,none⟩=some (.iface 190 (.agg #[.pointer (some ⟨1,77,none⟩)])):=by simpa using World.var?_cell et e5 0
 intro b o v hv
 unfold uJ at hv
 split at hv
 ·rename_i hbo;obtain⟨rfl,rfl⟩:=hbo;cases hv;exact hc
 ·cases hv
theorem aYm {n:Int} (h:(Lit.int .i64 n).wf=true):n≤9223372036854775807:=by
 have h' : (decide (IntKind.i64.min≤n) && decide (n≤IntKind.i64.max))=true:=h
 have e:IntKind.i64.max=9223372036854775807:=by decide +kernel
 rw[e,Bool.and_eq_true] at h'
 exact of_decide_eq_true h'.2
theorem aYl {n:Int} (h:(Lit.int .i64 n).wf=true) : -9223372036854775808≤n:=by
 have h' : (decide (IntKind.i64.min≤n) && decide (n≤IntKind.i64.max))=true:=h
 have e:IntKind.i64.min = -9223372036854775808:=by decide +kernel
 rw[e,Bool.and_eq_true] at h'
 exact of_decide_eq_true h'.1
end Go.Proofs.YtkmfmphpndhkjaaGreatDoor
namespace Go.Proofs.YtkmfmphpndhkjaaGreatDoor
open Go Go.RowKit Go.ChangeShapes Go.WideShapes Go.Deep Go.Joins
set_option linter.unusedVariables false
set_option linter.unusedSimpArgs false
inductive Sh where
 | int (k:IntKind)
 | str
 | bool
 | slice (s:Sh)
 | cat (a b:Sh)
def Sh.size:Sh→Nat
 | .cat a b=>a.size+b.size
 | _=>1
def zF:Sh→List D→Prop
 | .int k,ds=>∃ n,ds=[.val (.int k n)]∧(Lit.int k n).wf=true
 | .str,ds=>∃ l:List UInt8,ds=[.val (.string ⟨l.toArray⟩)]∧l.length≤maxLen
 | .bool,ds=>∃ b,ds=[.val (.bool b)]
 | .slice s,ds=>∃ xs,ds=[.lst s.size xs]∧xs.length≤maxLen∧∀ x ∈ xs,zF s x
 | .cat a b,ds=>∃ d1 d2,ds=d1++d2∧zF a d1∧zF b d2
def xY (P:Program) (rec:TypeId→Sh→Bool):List Field→Nat→Sh→Bool
 | [],_,_=>false
 | [f],o,s=>f.offset == o && P.cellsOf f.type == s.size && rec f.type s
 | f::fs,o,.cat a b=>f.offset == o && P.cellsOf f.type == a.size && rec f.type a && xY P rec fs (o+a.size) b
 | _,_,_=>false
def aTu (P:Program) (n:Nat) (e:TypeId):List Field:=(List.range n).map fun i=>{ (default:Field) with type:=e,offset:=i*P.cellsOf e }
def chk (P:Program):Nat→TypeId→Sh→Bool
 | 0,_,_=>false
 | n+1,t,sh=>match P.underlying t with
  | some (.int k)=>match sh with
   | .int k'=>decide (k=k')
   | _=>false
  | some .string=>match sh with
   | .str=>true
   | _=>false
  | some .bool=>match sh with
   | .bool=>true
   | _=>false
  | some (.slice e)=>match sh with
   | .slice s=>P.cellsOf e == s.size && decide (0<s.size) && chk P n e s
   | _=>false
  | some (.struct fs)=>P.cellsOf t == sh.size && xY P (chk P n) fs.toList 0 sh
  | some (.array k e)=>P.cellsOf t == sh.size && xY P (chk P n) (aTu P k e) 0 sh
  | _=>false
section
variable {H:Type} {enc:TypeId × Value→H} {P:Program} {w:World} {spare:Nat→Bool} {held:Bool}
def aTs (enc:TypeId × Value→H) (P:Program) (w:World) (spare:Nat→Bool) (held:Bool) (t:TypeId) (sh:Sh):Prop :=
 ∀ fuel cs x,DataW.trod enc P w 0 spare held fuel t cs=some x→∃ ds,zF sh ds∧gK (sY w) ds cs∧(∀ u ∈ cs,u.oneCell' = true)∧ds.length=sh.size
theorem qA {rec:TypeId→Sh→Bool} (hrec:∀ t sh,rec t sh=true→aTs enc P w spare held t sh) {fuel:Nat} {cs:List Value} :
  ∀ (fs:List Field) (o:Nat) (sh:Sh),xY P rec fs o sh=true→o+sh.size≤cs.length→(∀ f ∈ fs,∃ y,DataW.trod enc P w 0 spare held fuel f.type ((cs.drop f.offset).take (P.cellsOf f.type))=some y) →
   ∃ ds,zF sh ds∧gK (sY w) ds ((cs.drop o).take sh.size)∧(∀ u ∈ (cs.drop o).take sh.size,u.oneCell' = true)∧ds.length=sh.size
 | [],o,sh,h,_,_=>by simp[xY] at h
 | [f],o,sh,h,hl,hf=>by
  simp only[xY,Bool.and_eq_true,beq_iff_eq] at h
  obtain⟨⟨h1,h2⟩,h3⟩:=h
  obtain⟨y,hy⟩:=hf f (by simp)
  rw[h1,h2] at hy
  exact hrec _ _ h3 _ _ _ hy
 | f::g::fs,o,sh,h,hl,hf=>by
  cases sh with
  | cat a b =>
   simp only[xY,Bool.and_eq_true,beq_iff_eq] at h
   obtain⟨⟨⟨h1,h2⟩,h3⟩,h4⟩:=h
   simp only[Sh.size] at hl
   obtain⟨y,hy⟩:=hf f (by simp)
   rw[h1,h2] at hy
   obtain⟨d1,i1,r1,o1,l1⟩:=hrec _ _ h3 _ _ _ hy
   obtain⟨d2,i2,r2,o2,l2⟩:=qA hrec (g::fs) (o+a.size) b h4 (by omega) (fun f hfm=>hf f (by simp[hfm]))
   have hsplit:(cs.drop o).take (a.size+b.size)=(cs.drop o).take a.size++(cs.drop (o+a.size)).take b.size:=by
    rw[List.take_add,List.drop_drop]
   refine⟨d1++d2,⟨d1,d2,rfl,i1,i2⟩,?_,?_,by simp[Sh.size,l1,l2]⟩
   ·simp only[Sh.size];rw[hsplit];exact r1.append r2
   ·simp only[Sh.size];rw[hsplit]
    intro u hu
    rcases List.mem_append.1 hu with h|h
    ·exact o1 u h
    ·exact o2 u h
  | _=>simp[xY] at h
theorem rQ:∀ (n:Nat) (t:TypeId) (sh:Sh),chk P n t sh=true→aTs enc P w spare held t sh
 | 0,t,sh,h=>by simp[chk] at h
 | n+1,t,sh,h=>by
  intro fuel cs x hx
  simp only[chk] at h
  split at h
  ·rename_i k hu
   cases sh with
   | int k' =>
    simp only[decide_eq_true_eq] at h
    subst h
    obtain⟨m,rfl,_,hw⟩:=DataW.trod_int hu hx
    exact⟨_,⟨m,rfl,hw⟩,.cons (.val _) .nil,by simp[Value.oneCell'],rfl⟩
   | _=>simp at h
  ·rename_i hu
   cases sh with
   | str =>
    obtain⟨s,rfl,_,hw⟩:=DataW.trod_string hu hx
    refine⟨_,⟨s.data.toList,rfl,?_⟩,.cons (.val _) .nil,by simp[Value.oneCell'],rfl⟩
    have:s.data.toList.length=s.size:=by cases s;simp[ByteArray.size]
    omega
   | _=>simp at h
  ·rename_i hu
   cases sh with
   | bool =>
    obtain⟨b,rfl,_⟩:=DataW.trod_bool hu hx
    exact⟨_,⟨b,rfl⟩,.cons (.val _) .nil,by simp[Value.oneCell'],rfl⟩
   | _=>simp at h
  ·rename_i e hu
   cases sh with
   | slice s =>
    simp only[Bool.and_eq_true,beq_iff_eq,decide_eq_true_eq] at h
    obtain⟨⟨hsz,hpos⟩,hch⟩:=h
    have ih:=rQ n e s hch
    have key:∃ xs:List (List D),gF w.heap.size w s.size (fun vs ds=>zF s ds∧gK (sY w) ds vs∧∀ u ∈ vs,u.oneCell' = true) (cs.head?.getD .nilIface) xs∧xs.length≤maxLen∧(∀ x ∈ xs,zF s x)∧∃ a l c,cs=[.slice a l c]:=by
     rcases open_slice hu hx with ⟨rfl,_⟩|⟨a,len,cap,m,n',D',Pl,rfl,hb,hl,hm,hmm,hx',hi⟩
     ·exact⟨[],gF.nil _ _ _ _ _ _,Nat.zero_le _,by simp,none,0,0,rfl⟩
     ·have hml:len≤m:=by rw[hmm];split<;>omega
      have hc:∀ i,i<len→∃ xc:List D × List Value,zF s xc.1∧gK (sY w) xc.1 xc.2∧(∀ u ∈ xc.2,u.oneCell' = true)∧xc.2.length=s.size∧∀ j,j<s.size→w.cell? (a.add (i*s.size+j))=xc.2[j]?:=fun i hil=>by
       obtain⟨cs',hc,ht'⟩:=hi i (by omega)
       rw[hsz] at hc
       obtain⟨_,hcl,hat⟩:=World.cells?_some hc
       obtain⟨ds,q1,q2,q3,q4⟩:=ih _ _ _ ht'
       refine⟨(ds,cs'),q1,q2,q3,hcl,fun j hj=>?_⟩
       rw[← Go.Deep.add_add];exact hat j hj
      obtain⟨xs,hxl,hxs⟩:=mF len hc
      refine⟨xs.map (·.1),?_,by simp;omega,?_,some a,len,cap,rfl⟩
      ·refine⟨some a,cap,by simp[hxl],by simp;omega,fun hne=>?_⟩
       have h0:0<xs.length:=by
        rcases xs with _|⟨y,ys⟩
        ·exact absurd rfl hne
        ·simp
       obtain⟨_,_,_,hlen0,hfirst⟩:=hxs 0 h0
       have hfirst:=hfirst 0 hpos
       rw[List.getElem?_eq_getElem (by omega)] at hfirst
       obtain⟨b,off,sp⟩:=a
       have hsp:sp=none:=by simpa [Addr.add] using World.cell?_spot hfirst
       subst hsp
       refine⟨b,off,rfl,by have:=World.block_lt_of_cell? w _ hfirst;simpa [Addr.add] using this,fun i hil=>?_⟩
       have hil' : i<xs.length:=by simpa using hil
       obtain⟨p1,p2,p3,p4,p5⟩:=hxs i hil'
       refine⟨xs[i].2,p4,by simpa using ⟨p1,p2,p3⟩,fun j hj=>?_⟩
       have:=p5 j hj
       rw[← this,aG7,Nat.add_assoc]
      ·intro x hx
       obtain⟨y,hy,rfl⟩:=List.mem_map.1 hx
       obtain⟨i,hi',rfl⟩:=List.getElem_of_mem hy
       exact (hxs i hi').1
    obtain⟨xs,hS,hlx,hall,a,l,c,rfl⟩:=key
    have hr:=hS.rep (fun x=>x) (fun vs ds _ hq=>⟨hq.2.1,hq.2.2⟩)
    simp only[List.map_id'] at hr
    exact⟨_,⟨xs,rfl,hlx,hall⟩,.cons hr .nil,by simp[Value.oneCell'],rfl⟩
   | _=>simp at h
  ·rename_i fs hu
   simp only[Bool.and_eq_true,beq_iff_eq] at h
   obtain⟨ys,n',_,_,hcl,hyl,hf⟩:=DataW.trod_struct hu hx
   have:=qA (fuel:=n') (cs:=cs) (fun t sh=>rQ n t sh) fs.toList 0 sh h.2 (by omega) (fun f hfm=>by
    obtain⟨i,hi,rfl⟩:=List.getElem_of_mem hfm
    have hi' : i<fs.size:=by simpa using hi
    have h1:=hf i fs[i] (Array.getElem?_eq_getElem hi')
    exact⟨ys[i]'(by omega),by simpa [List.getElem?_eq_getElem (show i<ys.length by omega)] using h1⟩)
   rw[List.drop_zero,List.take_of_length_le (by omega)] at this
   exact this
  ·rename_i k e hu
   simp only[Bool.and_eq_true,beq_iff_eq] at h
   obtain⟨ys,n',_,_,hcl,hyl,hf⟩:=DataW.trod_array hu hx
   have:=qA (fuel:=n') (cs:=cs) (fun t sh=>rQ n t sh) (aTu P k e) 0 sh h.2 (by omega) (fun f hfm=>by
    obtain⟨i,hi,rfl⟩:=List.mem_map.1 hfm
    have hik:i<k:=by simpa using hi
    have h1:=hf i hik
    exact⟨ys[i]'(by omega),by simpa [List.getElem?_eq_getElem (show i<ys.length by omega)] using h1⟩)
   rw[List.drop_zero,List.take_of_length_le (by omega)] at this
   exact this
  ·simp at h
theorem rM {r:Reach} {b0:Nat} {t:TypeId} {fs:Array Field} {sh:Sh} {v:Value} {d:DataW H} {p:List MemPlace} (hu:P.underlying t=some (.struct fs)) (hc:chk P 12 t sh=true) (hv:Value.okWide P w r b0 t v) (h:DataW.Trod enc P w 0 spare held t v d p) :
  ∃ ds,zF sh ds∧Rep (sY w) (.agg ds) v:=by
 obtain⟨cs,rfl,hsz⟩:=okWide_struct hu hv
 obtain⟨fuel,hf⟩:=h
 obtain⟨ds,q1,q2,q3,q4⟩:=rQ 12 t sh hc _ _ _ hf
 refine⟨ds,q1,?_⟩
 have:=Rep.agg (K:=sY w) q2.1 q2.2 q3
 simpa [Value.cells] using this
theorem aW4 {r:Reach} {b0:Nat} {t e:TypeId} {s:Sh} {v:Value} {d:DataW H} {p:List MemPlace} (hu:P.underlying t=some (.slice e)) (hc:chk P 12 t (.slice s)=true) (hv:Value.okWide P w r b0 t v) (h:DataW.Trod enc P w 0 spare held t v d p) :
  ∃ xs,(∀ x ∈ xs,zF s x)∧xs.length≤maxLen∧Rep (sY w) (.lst s.size xs) v:=by
 obtain⟨a,len,cap,rfl⟩:=okWide_slice hu hv
 obtain⟨fuel,hf⟩:=h
 obtain⟨ds,q1,q2,q3,q4⟩:=rQ 12 t (.slice s) hc _ _ _ hf
 obtain⟨xs,rfl,hl,hx⟩:=q1
 exact⟨xs,hx,hl,q2.2 0 _ _ rfl rfl⟩
end
theorem pG {α:Type} {dv:α→List D} {Q:α→Prop} {s:Sh} (h:∀ ds,zF s ds→∃ x,ds=dv x∧Q x):∀ (xs:List (List D)),(∀ x ∈ xs,zF s x)→∃ l:List α,xs=l.map dv∧∀ x ∈ l,Q x
 | [],_=>⟨[],rfl,by simp⟩
 | x::xs,hx=>by
  obtain⟨y,rfl,hq⟩:=h x (hx x (by simp))
  obtain⟨l,rfl,hl⟩:=pG h xs (fun x h'=>hx x (by simp[h']))
  exact⟨y::l,rfl,fun z hz=>by
   rcases List.mem_cons.1 hz with rfl|hz
   ·exact hq
   ·exact hl z hz⟩
end Go.Proofs.YtkmfmphpndhkjaaGreatDoor
namespace Go.Proofs.YtkmfmphpndhkjaaGreatDoor
open Go Go.RowKit Go.ChangeShapes Go.WideShapes Go.Deep Go.Joins
set_option linter.unusedVariables false
set_option linter.unusedSimpArgs false
def I64 (n:Int):Prop:=-9223372036854775808≤n∧n≤9223372036854775807
theorem I64.of {n:Int} (h:(Lit.int .i64 n).wf=true):I64 n:=by
 have h:decide (-9223372036854775808≤n) && decide (n≤9223372036854775807):=h
 simp at h;exact h
abbrev sP:Sh:=.int .i64
abbrev aU7:Sh:=.cat .str .str
abbrev aU8:Sh:=.cat sP (.cat sP (.cat sP (.cat .str .str)))
abbrev aU6:Sh:=.cat sP (.cat sP (.cat sP (.cat .bool (.slice aU7))))
abbrev aR3:Sh:=.cat sP (.cat sP sP)
abbrev aR2:Sh:=.cat sP (.cat sP (.cat sP (.slice aR3)))
abbrev aR0:Sh:=.cat sP (.cat sP (.slice aU6))
abbrev aFt:Sh:=.cat sP (.cat sP (.cat (.slice aU8) (.cat (.slice aR0) (.slice aR2))))
def RecD.Ok (r:RecD):Prop:=r.key.length≤maxLen∧r.value.length≤maxLen
structure RowD.Ok (r:RowD):Prop where
 off:I64 r.off
 pid:I64 r.pid
 seq:I64 r.seq
 key:r.key.length≤maxLen
 value:r.value.length≤maxLen
structure BatD.Ok (b:BatD):Prop where
 pid:I64 b.pid
 epoch:I64 b.epoch
 seq:I64 b.seq
 len:b.recs.length≤maxLen
 recs:∀ r ∈ b.recs,r.Ok
structure SeenD.Ok (s:SeenD):Prop where
 seq:I64 s.seq
 count:I64 s.count
 base:I64 s.base
structure ProdD.Ok (p:ProdD):Prop where
 pid:I64 p.pid
 epoch:I64 p.epoch
 next:I64 p.next
 len:p.seen.length≤maxLen
 seen:∀ s ∈ p.seen,s.Ok
structure OpenD.Ok (o:OpenD):Prop where
 pid:I64 o.pid
 epoch:I64 o.epoch
 len:o.bats.length≤maxLen
 bats:∀ b ∈ o.bats,b.Ok
structure PartD.Ok (p:PartD):Prop where
 start:I64 p.start
 fin:I64 p.fin
 rlen:p.rows.length≤maxLen
 rows:∀ r ∈ p.rows,r.Ok
 olen:p.opens.length≤maxLen
 opens:∀ o ∈ p.opens,o.Ok
 plen:p.prods.length≤maxLen
 prods:∀ q ∈ p.prods,q.Ok
theorem aV3 {ds:List D} (h:zF aU7 ds):∃ r:RecD,ds=r.dv∧r.Ok:=by
 obtain⟨_,_,rfl,⟨l1,rfl,b1⟩,⟨l2,rfl,b2⟩⟩:=h
 exact⟨⟨l1,l2⟩,rfl,b1,b2⟩
theorem aVa {ds:List D} (h:zF aU8 ds):∃ r:RowD,ds=r.dv∧r.Ok:=by
 obtain⟨_,_,rfl,⟨n1,rfl,w1⟩,_,_,rfl,⟨n2,rfl,w2⟩,_,_,rfl,⟨n3,rfl,w3⟩,_,_,rfl,⟨l1,rfl,b1⟩,⟨l2,rfl,b2⟩⟩:=h
 exact⟨⟨n1,n2,n3,l1,l2⟩,rfl,.of w1,.of w2,.of w3,b1,b2⟩
theorem aUe {ds:List D} (h:zF aU6 ds):∃ b:BatD,ds=b.dv∧b.Ok:=by
 obtain⟨_,_,rfl,⟨n1,rfl,w1⟩,_,_,rfl,⟨n2,rfl,w2⟩,_,_,rfl,⟨n3,rfl,w3⟩,_,_,rfl,⟨b,rfl⟩,xs,rfl,hl,hx⟩:=h
 obtain⟨l,rfl,hq⟩:=pG (fun ds h=>aV3 h) xs hx
 exact⟨⟨n1,n2,n3,b,l⟩,rfl,.of w1,.of w2,.of w3,by simpa using hl,hq⟩
theorem aTl {ds:List D} (h:zF aR3 ds):∃ s:SeenD,ds=s.dv∧s.Ok:=by
 obtain⟨_,_,rfl,⟨n1,rfl,w1⟩,_,_,rfl,⟨n2,rfl,w2⟩,⟨n3,rfl,w3⟩⟩:=h
 exact⟨⟨n1,n2,n3⟩,rfl,.of w1,.of w2,.of w3⟩
theorem aTh {ds:List D} (h:zF aR2 ds):∃ p:ProdD,ds=p.dv∧p.Ok:=by
 obtain⟨_,_,rfl,⟨n1,rfl,w1⟩,_,_,rfl,⟨n2,rfl,w2⟩,_,_,rfl,⟨n3,rfl,w3⟩,xs,rfl,hl,hx⟩:=h
 obtain⟨l,rfl,hq⟩:=pG (fun ds h=>aTl h) xs hx
 exact⟨⟨n1,n2,n3,l⟩,rfl,.of w1,.of w2,.of w3,by simpa using hl,hq⟩
theorem aTb {ds:List D} (h:zF aR0 ds):∃ o:OpenD,ds=o.dv∧o.Ok:=by
 obtain⟨_,_,rfl,⟨n1,rfl,w1⟩,_,_,rfl,⟨n2,rfl,w2⟩,xs,rfl,hl,hx⟩:=h
 obtain⟨l,rfl,hq⟩:=pG (fun ds h=>aUe h) xs hx
 exact⟨⟨n1,n2,l⟩,rfl,.of w1,.of w2,by simpa using hl,hq⟩
theorem aFj {ds:List D} (h:zF aFt ds):∃ p:PartD,ds=p.dv∧p.Ok:=by
 obtain⟨_,_,rfl,⟨n1,rfl,w1⟩,_,_,rfl,⟨n2,rfl,w2⟩,_,_,rfl,⟨xs,rfl,hl,hx⟩,_,_,rfl,⟨ys,rfl,hl2,hx2⟩,zs,rfl,hl3,hx3⟩:=h
 obtain⟨l,rfl,hq⟩:=pG (fun ds h=>aVa h) xs hx
 obtain⟨l2,rfl,hq2⟩:=pG (fun ds h=>aTb h) ys hx2
 obtain⟨l3,rfl,hq3⟩:=pG (fun ds h=>aTh h) zs hx3
 exact⟨⟨n1,n2,l,l2,l3⟩,rfl,.of w1,.of w2,by simpa using hl,hq,by simpa using hl2,hq2,by simpa using hl3,hq3⟩
theorem aUi {ds:List D} (h:zF sP ds):∃ n:Int,ds=[int n]∧I64 n:=by
 obtain⟨n,rfl,w⟩:=h
 exact⟨n,rfl,.of w⟩
end Go.Proofs.YtkmfmphpndhkjaaGreatDoor
namespace Go.Proofs.YtkmfmphpndhkjaaGreatDoor
open Go Go.RowKit Go.ChangeShapes Go.WideShapes Go.Deep Go.Joins
set_option linter.unusedVariables false
set_option linter.unusedSimpArgs false
theorem aPh {n:Int} (h:(Lit.int .i8 n).wf=true) : -128≤n∧n≤127:=by
 have h' : (decide (IntKind.i8.min≤n) && decide (n≤IntKind.i8.max))=true:=h
 have e1:IntKind.i8.max=127:=by decide +kernel
 have e2:IntKind.i8.min = -128:=by decide +kernel
 rw[e1,e2,Bool.and_eq_true,decide_eq_true_eq,decide_eq_true_eq] at h'
 exact h'
end Go.Proofs.YtkmfmphpndhkjaaGreatDoor
namespace Go.Proofs.YtkmfmphpndhkjaaGreatDoor
open Go Go.RowKit Go.ChangeShapes Go.WideShapes Go.Deep Go.Joins
set_option linter.unusedVariables false
set_option linter.unusedSimpArgs false
abbrev aR1:Sh:=.cat sP (.cat sP sP)
abbrev zD:Sh:=.cat (.int .i8) (.cat sP (.cat sP (.cat sP (.cat sP (.cat (.slice sP) (.cat (.slice aR1) sP))))))
abbrev aYs:Sh:=.cat (.cat sP (.cat sP sP)) (.cat sP (.cat sP sP))
abbrev aTn:Sh:=.cat sP (.cat (.cat zD (.cat zD zD)) aYs)
abbrev aLz:Sh:=.cat (.int .i8) (.cat (.cat aFt (.cat aFt aFt)) aTn)
theorem aTf {ds:List D} (h:zF aR1 ds):∃ x:PendD,ds=x.dv∧True:=by
 obtain⟨_,_,rfl,⟨n1,rfl,_⟩,_,_,rfl,⟨n2,rfl,_⟩,⟨n3,rfl,_⟩⟩:=h
 exact⟨⟨n1,n2,n3⟩,rfl,trivial⟩
theorem zY {ds:List D} (h:zF zD ds):∃ c:CoordD,ds=c.dv∧(-128≤c.st∧c.st≤127):=by
 obtain⟨_,_,rfl,⟨n1,rfl,w1⟩,_,_,rfl,⟨n2,rfl,_⟩,_,_,rfl,⟨n3,rfl,_⟩,_,_,rfl,⟨n4,rfl,_⟩,_,_,rfl,⟨n5,rfl,_⟩,_,_,rfl,⟨xs,rfl,hl,hx⟩,_,_,rfl,⟨ys,rfl,hm,hy⟩,⟨n6,rfl,_⟩⟩:=h
 obtain⟨l,rfl,_⟩:=pG (dv:=fun n=>[int n]) (fun ds h=>aUi h) xs hx
 obtain⟨m,rfl,_⟩:=pG (fun ds h=>aTf h) ys hy
 exact⟨⟨n1,n2,n3,n4,n5,l,m,n6⟩,rfl,aPh w1⟩
def I8 (n:Int):Prop:=-128≤n∧n≤127
theorem aK6 {ds:List D} (h:zF aLz ds):∃ i:ImgD,ds=i.dv∧(I8 i.tag∧I8 i.m.c0.st∧I8 i.m.c1.st∧I8 i.m.c2.st):=by
 obtain⟨_,_,rfl,⟨n1,rfl,w1⟩,_,_,rfl,⟨_,_,rfl,h0,_,_,rfl,h1,h2⟩,_,_,rfl,⟨n2,rfl,_⟩,_,_,rfl,⟨_,_,rfl,k0,_,_,rfl,k1,k2⟩,⟨_,_,rfl,⟨_,_,rfl,⟨a0,rfl,_⟩,_,_,rfl,⟨a1,rfl,_⟩,⟨a2,rfl,_⟩⟩,⟨_,_,rfl,⟨b0,rfl,_⟩,_,_,rfl,⟨b1,rfl,_⟩,⟨b2,rfl,_⟩⟩⟩⟩:=h
 obtain⟨p0,rfl,_⟩:=aFj h0
 obtain⟨p1,rfl,_⟩:=aFj h1
 obtain⟨p2,rfl,_⟩:=aFj h2
 obtain⟨c0,rfl,q0⟩:=zY k0
 obtain⟨c1,rfl,q1⟩:=zY k1
 obtain⟨c2,rfl,q2⟩:=zY k2
 exact⟨⟨n1,p0,p1,p2,⟨n2,c0,c1,c2,⟨a0,a1,a2,b0,b1,b2⟩⟩⟩,rfl,aPh w1,q0,q1,q2⟩
end Go.Proofs.YtkmfmphpndhkjaaGreatDoor
