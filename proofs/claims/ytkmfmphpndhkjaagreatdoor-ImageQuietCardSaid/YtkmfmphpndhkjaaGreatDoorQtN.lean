/- The abstract machine (QtC, QtD). -/
import Derived.Test.YtkmfmphpndhkjaaGreatDoorQtM
import Derived.Shelf.Sort.Plain
import Derived.Shelf.Slices.CompactI
import Derived.Shelf.Slices.In.SortNone
import Derived.Test.YtkmfmphpndhkjaaGreatDoorMpQ
import Derived.Test.YtkmfmphpndhkjaaGreatDoorMacB
namespace Go.Proofs.YtkmfmphpndhkjaaGreatDoor
open Go Go.RowKit Go.Sort
set_option maxHeartbeats 4000000
set_option maxRecDepth 100000
set_option linter.unusedVariables false
set_option linter.unusedSimpArgs false
def laysSortI_ren : Go.Shelf.Ren := ⟨fun | 189 => 30 | 125 => 64 | 257 => 63 | 128 => 111 | 129 => 112 | 294 => 102 | 295 => 103 | 296 => 104 | 297 => 105 | 298 => 106 | 299 => 107 | 216 => 108 | 300 => 109 | 301 => 110 | 328 => 134 | 329 => 135 | 330 => 136 | 331 => 137 | 332 => 138 | 215 => 139 | 343 => 163 | n => n, fun | 28 => 29 | 3 => 3 | 46 => 127 | 0 => 0 | 51 => 182 | 53 => 184 | 4 => 4 | 183 => 175 | 182 => 174 | 131 => 59 | 5 => 5 | 9 => 9 | 218 => 220 | 222 => 224 | 228 => 244 | 229 => 56 | n => n, fun | n => n⟩
theorem laysSortI : Go.Proofs.Lays.n189 Tryz.prog laysSortI_ren := {
  mixed := by kernel_rfl
  f125 := Tryz.func64.trans (congrArg some (by kernel_rfl))
  f128 := Tryz.func111.trans (congrArg some (by kernel_rfl))
  f129 := Tryz.func112.trans (congrArg some (by kernel_rfl))
  f189 := Tryz.func30.trans (congrArg some (by kernel_rfl))
  f215 := Tryz.func139.trans (congrArg some (by kernel_rfl))
  f216 := Tryz.func108.trans (congrArg some (by kernel_rfl))
  f257 := Tryz.func63.trans (congrArg some (by kernel_rfl))
  f294 := Tryz.func102.trans (congrArg some (by kernel_rfl))
  f295 := Tryz.func103.trans (congrArg some (by kernel_rfl))
  f296 := Tryz.func104.trans (congrArg some (by kernel_rfl))
  f297 := Tryz.func105.trans (congrArg some (by kernel_rfl))
  f298 := Tryz.func106.trans (congrArg some (by kernel_rfl))
  f299 := Tryz.func107.trans (congrArg some (by kernel_rfl))
  f300 := Tryz.func109.trans (congrArg some (by kernel_rfl))
  f301 := Tryz.func110.trans (congrArg some (by kernel_rfl))
  f328 := Tryz.func134.trans (congrArg some (by kernel_rfl))
  f329 := Tryz.func135.trans (congrArg some (by kernel_rfl))
  f330 := Tryz.func136.trans (congrArg some (by kernel_rfl))
  f331 := Tryz.func137.trans (congrArg some (by kernel_rfl))
  f332 := Tryz.func138.trans (congrArg some (by kernel_rfl))
  f343 := Tryz.func163.trans (congrArg some (by kernel_rfl))
  t0 := Tryz.underlying0
  a0 := Tryz.isAgg0
  z0 := Tryz.sizeOf0
  v0 := Tryz.zeroValue0
  t3 := Tryz.underlying3
  a3 := Tryz.isAgg3
  z3 := Tryz.sizeOf3
  v3 := Tryz.zeroValue3
  t4 := Tryz.underlying4
  a4 := Tryz.isAgg4
  z4 := Tryz.sizeOf4
  v4 := Tryz.zeroValue4
  t5 := Tryz.underlying5
  a5 := Tryz.isAgg5
  z5 := Tryz.sizeOf5
  v5 := Tryz.zeroValue5
  t9 := Tryz.underlying9
  a9 := Tryz.isAgg9
  z9 := Tryz.sizeOf9
  v9 := Tryz.zeroValue9
  t28 := Tryz.underlying29
  a28 := Tryz.isAgg29
  z28 := Tryz.sizeOf29
  v28 := Tryz.zeroValue29
  t46 := Tryz.underlying127
  a46 := Tryz.isAgg127
  z46 := Tryz.sizeOf127
  v46 := Tryz.zeroValue127
  t51 := Tryz.underlying182
  a51 := Tryz.isAgg182
  z51 := Tryz.sizeOf182
  v51 := Tryz.zeroValue182
  t53 := Tryz.underlying184
  a53 := Tryz.isAgg184
  z53 := Tryz.sizeOf184
  v53 := Tryz.zeroValue184
  t131 := Tryz.underlying59
  a131 := Tryz.isAgg59
  z131 := Tryz.sizeOf59
  v131 := Tryz.zeroValue59
  t182 := Tryz.underlying174
  a182 := Tryz.isAgg174
  z182 := Tryz.sizeOf174
  v182 := Tryz.zeroValue174
  t183 := Tryz.underlying175
  a183 := Tryz.isAgg175
  z183 := Tryz.sizeOf175
  v183 := Tryz.zeroValue175
  t218 := Tryz.underlying220
  a218 := Tryz.isAgg220
  z218 := Tryz.sizeOf220
  v218 := Tryz.zeroValue220
  t222 := Tryz.underlying224
  a222 := Tryz.isAgg224
  z222 := Tryz.sizeOf224
  v222 := Tryz.zeroValue224
  t228 := Tryz.underlying244
  a228 := Tryz.isAgg244
  z228 := Tryz.sizeOf244
  v228 := Tryz.zeroValue244
  t229 := Tryz.underlying56
  a229 := Tryz.isAgg56
  z229 := Tryz.sizeOf56
  v229 := Tryz.zeroValue56 }
def laysCompI_ren : Go.Shelf.Ren := ⟨fun | 20 => 31 | n => n, fun | 22 => 29 | 3 => 3 | 4 => 4 | 0 => 0 | n => n, fun | n => n⟩
theorem laysCompI : Go.Proofs.Lays2.n20 Tryz.prog laysCompI_ren := {
  mixed := by kernel_rfl
  f20 := Tryz.func31.trans (congrArg some (by kernel_rfl))
  t0 := Tryz.underlying0
  a0 := Tryz.isAgg0
  z0 := Tryz.sizeOf0
  v0 := Tryz.zeroValue0
  t3 := Tryz.underlying3
  a3 := Tryz.isAgg3
  z3 := Tryz.sizeOf3
  v3 := Tryz.zeroValue3
  t4 := Tryz.underlying4
  a4 := Tryz.isAgg4
  z4 := Tryz.sizeOf4
  v4 := Tryz.zeroValue4
  t22 := Tryz.underlying29
  a22 := Tryz.isAgg29
  z22 := Tryz.sizeOf29
  v22 := Tryz.zeroValue29
  i3 := by kernel_rfl }
theorem FunG.of_callsQ {P:Program} {f:FuncId} {args:List SV} {ks ks' : List Nat} {M M' : List (Nat × HE)} {r:SV} (hbody:iT P f=true) (hks:M.map (·.1)=ks) (hks' : M'.map (·.1)=ks') (hok:okG args r M M' = true)
  (h:∀ (g:G) (w:World) (vs:List Value),RelH (mR w g ks g (bJ M)) g.K g (bJ M) w→jC g (bJ M) args vs →
   Calls P f vs.toArray w fun e w'=>∃ v g',e = .returned v∧bH g' (bJ M') r v∧RelH (mR w g ks g (bJ M)) g.K g' (bJ M') w'):FunG P f args ks (bJ M) r ks' (bJ M'):=by
 subst hks hks'
 simp only[okG,Bool.and_eq_true] at hok
 obtain⟨h1,h2,h3,h4,h5⟩:=hok
 exact⟨hbody,vC M,vC M',fun i hi=>rX h3 i (by simpa using hi),tH h1,fun a ha=>rX (List.all_eq_true.1 h4 a ha),h⟩
theorem qH (w:World) (b:Nat) (cur:Array Value) (e:TypeId) (fr:Nat × Nat) (f:Array Value→Array Value) (hheap:w.heap[b]? = some (.cells cur e fr)):mapBlock w b f=w.setRow b (f cur):=by
 unfold mapBlock World.setRow
 congr 1
 apply Array.ext_getElem?
 intro k
 rw[Array.getElem?_modify,Array.getElem?_modify]
 split
 ·rename_i h
  subst h
  rw[hheap];rfl
 ·rfl
theorem sV {α:Type} [Inhabited α] (enc:α→Value) (d:List α) (cur:Array Value) (vs rest:List Value) (hcur:cur.toList=vs++rest) (hl:vs.length=d.length):(putCells enc 0 d.toArray cur).toList=d.map enc++rest∧(putCells enc 0 d.toArray cur).size=cur.size:=by
 refine⟨?_,by simp[putCells]⟩
 have hcl:cur.size=d.length+rest.length:=by rw[← Array.length_toList,hcur,List.length_append,hl]
 apply List.ext_getElem?
 intro k
 simp only[putCells,Array.toList_mapIdx,List.getElem?_mapIdx,Nat.zero_le,true_and,Nat.zero_add,Nat.sub_zero,List.size_toArray]
 rw[hcur]
 by_cases h:k<d.length
 ·rw[List.getElem?_append_left (by omega),List.getElem?_append_left (by simpa using h),List.getElem?_eq_getElem (by omega),List.getElem?_map,List.getElem?_eq_getElem h]
  simp[h]
 ·rw[List.getElem?_append_right (by omega),List.getElem?_append_right (by simpa using Nat.le_of_not_lt h),hl,List.length_map]
  cases hr:rest[k - d.length]? with
  | none=>simp
  | some x=>simp[h]
def iV (l:List Int):List CV:=l.map fun n=>.d (int n)
def rZ (l:List Int):List Value:=l.map (Value.int .i64)
theorem kA (l:List Int):(iV l).length=l.length:=by simp[iV]
theorem kX (l:List Int):(iV l).flatMap CV.ids=[]:=by
 induction l with
 | nil=>rfl
 | cons a l ih=>unfold iV at ih ⊢;rw[List.map_cons,List.flatMap_cons,ih];rfl
theorem aHm (g:G) (H:Hp) (l:List Int):dJ g H (iV l) (rZ l) :=
 ⟨by simp[iV,rZ],fun j x v hx hv=>by
  simp only[iV,rZ,List.getElem?_map] at hx hv
  cases hj:l[j]? with
  | none=>rw[hj] at hx;cases hx
  | some n=>rw[hj] at hx hv;cases hx;cases hv;exact Rep.val _⟩
theorem aDf {g:G} {H:Hp} {l:List Int} {vs:List Value} (h:dJ g H (iV l) vs):vs=rZ l:=by
 apply List.ext_getElem?
 intro j
 have hl:l.length=vs.length:=by rw[← kA];exact h.1
 by_cases hj:j<l.length
 ·have h1:(iV l)[j]? = some (.d (int l[j])):=by simp[iV,List.getElem?_map,List.getElem?_eq_getElem hj]
  have h2:vs[j]? = some vs[j]:=List.getElem?_eq_getElem (by omega)
  have h3:Rep g.K (int l[j]) vs[j]:=h.2 j _ _ h1 h2
  rw[h2]
  generalize vs[j]=v at *
  cases h3
  simp[rZ,List.getElem?_map,List.getElem?_eq_getElem hj]
 ·rw[List.getElem?_eq_none (by omega),List.getElem?_eq_none (by simp[rZ];omega)]
theorem aJ4 (l:List Int):∀ u ∈ rZ l,u.oneCell' = true:=fun u hu=>by
 obtain⟨n,_,rfl⟩:=List.mem_map.1 hu;rfl
theorem vB (v:Nat) (l:List Int):okB [9] [(9,HE.mrow 3 1 v (iV l))]=true:=by
 simp only[okB,List.all_cons,List.all_nil,HE.ids,kX,Bool.and_true]
theorem aFx (id:Nat) (x y:HE):upd (bJ [(id,x)]) id (some y)=bJ [(id,y)]:=by
 funext k
 unfold upd bJ
 by_cases h:k=id
 ·subst h;simp
 ·have e:(k == id)=false:=by simpa using h
  simp[h,List.lookup_cons,e]
theorem aBg {F:Fr} {K0:aW} {g:G} {H:Hp} {w:World} (hh:RelH F K0 g H w) (k:Nat):RelH F K0 g H (Sort.ahead w k):=⟨⟨hh.below.os,hh.below.tape,hh.below.output,hh.below.size,hh.below.block⟩,hh.ext,hh.kw,hh.holds,hh.base,hh.dom,hh.sep,hh.frozlt,hh.glob,hh.lent⟩
theorem zR (w:World) (os:Array Obj):Below w.heap.size w (Sort.grow w os) :=
 ⟨rfl,rfl,rfl,by simp[Sort.grow],fun k hk=>by simp[Sort.grow,Array.getElem?_append_left hk]⟩
theorem aO5 {F:Fr} {K0:aW} {g:G} {H:Hp} {w:World} (hh:RelH F K0 g H w) (os:Array Obj):RelH F K0 g H (Sort.grow w os) :=
 hh.grow (zR w os) (Ext.refl _ _) (aAg hh.kw (zR w os))
theorem aDe (w:World) (b:Nat) (cur:Array Value) (e:TypeId) (l:List Int) (rest:List Value) (hheap:w.heap[b]? = some (.cells cur e (0,0))) (hcur:cur.toList=rZ l++rest):Holds (Value.int .i64) w b 0 l.toArray:=by
 intro j hj
 have hj:j<l.length:=by simpa using hj
 have h1:cur[j]? = some (.int .i64 l[j]):=by
  rw[← Array.getElem?_toList,hcur,List.getElem?_append_left (by simpa [rZ] using hj)]
  simp[rZ,List.getElem?_map,List.getElem?_eq_getElem hj]
 refine⟨?_,?_⟩
 ·simp[World.cell?,hheap,h1,getElem!_pos,hj]
 ·simp[World.frozen?,hheap]
theorem aR6 (l:List Int) (v:Nat) (hl:l.length≤100000000):FunG Tryz.prog 30 [.c (.mt 9 v)] [9] (bJ [(9,.mrow 3 1 v (iV l))]) (.c (.d (.tup []))) [9] (bJ [(9,.mrow 3 1 v (iV (gN l)))]):=by
 have hsl:(gN l).length=l.length:=List.length_mergeSort _
 refine FunG.of_callsQ (by kernel_rfl) rfl rfl (by
  unfold okG
  show (okB [9] _ && (okB [9] _ && _))=true
  rw[vB,vB];rfl) fun g w vs hh hL=>?_
 obtain⟨v0,rfl⟩:∃ v0,vs=[v0]:=by
  have:=hL.1
  match vs,this with
  | [a],_=>exact⟨a,rfl⟩
 have r0:bG g (bJ [(9,.mrow 3 1 v (iV l))]) (.mt 9 v) v0:=hL.2 0 _ _ rfl rfl
 have hτ:bJ [(9,.mrow 3 1 v (iV l))] 9=some (.mrow 3 1 v (iV l)):=rfl
 obtain⟨_,_,hcase⟩:=hh.holds 9 _ hτ
 obtain⟨_,e2,s2,n2,c2,h2,_,h4⟩:=r0
 rw[hτ] at h2;cases h2
 have hnil:∀ a c,l=[]→v0 = .slice a 0 c→Calls Tryz.prog 30 [v0].toArray w fun e w'=>∃ v1 g',e = .returned v1∧bH g' (bJ [(9,.mrow 3 1 v (iV (gN l)))]) (.c (.d (.tup []))) v1∧RelH (mR w g [9] g (bJ [(9,.mrow 3 1 v (iV l))])) g.K g' (bJ [(9,.mrow 3 1 v (iV (gN l)))]) w':=by
  intro a c hz hv
  subst hz hv
  have e:gN []=[]:=List.eq_nil_of_length_eq_zero hsl
  rw[e]
  refine (Any.slices_Sort_int_none laysSortI a c w).mono ?_
  rintro e w' ⟨rfl,rfl⟩
  exact⟨_,g,rfl,Rep.tup (vs:=[]) rfl (by simp),hh⟩
 rcases hcase with ⟨hb,hcs⟩|⟨b,cur,us,rest,hb,hheap,hcur,hcsz,hr,h1,hkn⟩
 ·have hz:l=[]:=List.eq_nil_of_length_eq_zero (by rw[← kA,hcs];rfl)
  rcases h4 rfl with ⟨b2,hb2,_⟩|⟨_,_,a,rfl⟩
  ·rw[hb] at hb2;cases hb2
  ·exact hnil a 0 hz rfl
 rcases h4 rfl with ⟨b2,hb2,rfl⟩|⟨hb2,_⟩
 rotate_left
 ·rw[hb] at hb2;cases hb2
 rw[hb] at hb2;cases hb2
 rw[kA,Nat.div_one] at hnil ⊢
 have hus:=aDf hr
 subst hus
 refine (Any.slices_Sort_int laysSortI b 0 (g.cap 9) l w (aDe w b cur _ l rest hheap hcur) (aV hheap) (by omega)).mono ?_
 rintro e w' ⟨rfl,n,os,rfl⟩
 have hh1:=aBg hh n
 have hheap1:(Sort.ahead w n).heap[b]? = some (.cells cur 3 (0,0)):=hheap
 obtain⟨hp1,hp2⟩:=sV (Value.int .i64) (gN l) cur (rZ l) rest hcur (by rw[hsl];simp[rZ])
 obtain⟨h5,h6⟩:=RelH.mwr (cs':=iV (gN l)) (vs:=rZ (gN l)) (cur':=putCells (Value.int .i64) 0 (gN l).toArray cur) (rest:=rest) hh1 hτ hb hheap1 (by rw[kA,kA,hsl]) hp1 hp2 (aHm _ _ _) (aJ4 _)
 rw[aFx] at h5 h6
 have hw:putRow (Value.int .i64) (Sort.ahead w n) b 0 (l.mergeSort fun x y=>decide (x≤y)).toArray=(Sort.ahead w n).setRow b (putCells (Value.int .i64) 0 (gN l).toArray cur):=qH _ _ _ _ _ _ hheap1
 rw[hw]
 exact⟨_,g,rfl,Rep.tup (vs:=[]) rfl (by simp),aO5 h5 os⟩
theorem aDp (l:List Int):(Lib.compact l).length≤l.length:=by
 unfold Lib.compact Lib.compactUpTo
 rw[List.length_map]
 exact Nat.le_trans (List.length_filter_le _ _) (by simp)
theorem aGv (l:List Int) (v:Nat) (hl:l.length≤100000000):FunG Tryz.prog 31 [.c (.mt 9 v)] [9] (bJ [(9,.mrow 3 1 v (iV l))]) (.c (.mt 9 (v+1))) [9] (bJ [(9,.mrow 3 1 (v+1) (iV (Lib.compact l)))]):=by
 have hsl:=aDp l
 refine FunG.of_callsQ (by kernel_rfl) rfl rfl (by
  unfold okG
  show (okB [9] _ && (okB [9] _ && _))=true
  rw[vB,vB];rfl) fun g w vs hh hL=>?_
 obtain⟨v0,rfl⟩:∃ v0,vs=[v0]:=by
  have:=hL.1
  match vs,this with
  | [a],_=>exact⟨a,rfl⟩
 have r0:bG g (bJ [(9,.mrow 3 1 v (iV l))]) (.mt 9 v) v0:=hL.2 0 _ _ rfl rfl
 have hτ:bJ [(9,.mrow 3 1 v (iV l))] 9=some (.mrow 3 1 v (iV l)):=rfl
 obtain⟨_,_,hcase⟩:=hh.holds 9 _ hτ
 obtain⟨_,e2,s2,n2,c2,h2,_,h4⟩:=r0
 rw[hτ] at h2;cases h2
 rcases hcase with ⟨hb,hcs⟩|⟨b,cur,us,rest,hb,hheap,hcur,hcsz,hr,h1,hkn⟩
 ·have hz:l=[]:=List.eq_nil_of_length_eq_zero (by rw[← kA,hcs];rfl)
  rcases h4 rfl with ⟨b2,hb2,_⟩|⟨_,_,a,rfl⟩
  ·rw[hb] at hb2;cases hb2
  ·subst hz
   refine (Any.slices_Compact_int_empty laysCompI a 0 w).mono ?_
   rintro e w' ⟨rfl,rfl⟩
   obtain⟨h5,h6⟩:=hh.mbump hτ (v+1) (Nat.lt_succ_self v)
   rw[aFx] at h5 h6
   exact⟨_,g,rfl,⟨⟨_,_,_,rfl⟩,3,1,v+1,[],rfl,Nat.le_refl _,fun _=>.inr ⟨hb,rfl,a,rfl⟩⟩,h5⟩
 rcases h4 rfl with ⟨b2,hb2,rfl⟩|⟨hb2,_⟩
 rotate_left
 ·rw[hb] at hb2;cases hb2
 rw[hb] at hb2;cases hb2
 rw[kA,Nat.div_one]
 have hus:=aDf hr
 subst hus
 have hcap:l.length≤g.cap 9:=by
  have h7:cur.size=l.length+rest.length:=by rw[← Array.length_toList,hcur,List.length_append];simp[rZ]
  omega
 refine (Any.slices_Compact_int laysCompI b 0 (g.cap 9) l w (aDe w b cur _ l rest hheap hcur) (by omega) hcap).mono ?_
 rintro e w' ⟨rfl,n,rfl⟩
 have hh1:=aBg hh n
 have hheap1:(Sort.ahead w n).heap[b]? = some (.cells cur 3 (0,0)):=hheap
 obtain⟨hp1,hp2⟩:=sV (Value.int .i64) (Lib.compact l++List.replicate (l.length - (Lib.compact l).length) 0) cur (rZ l) rest hcur (by simp[rZ];omega)
 rw[List.map_append,List.append_assoc] at hp1
 obtain⟨h5,h6⟩:=RelH.mset (n':=v+1) (cs':=iV (Lib.compact l)) (vs:=rZ (Lib.compact l)) (cur':=putCells (Value.int .i64) 0 (Lib.compact l++List.replicate (l.length - (Lib.compact l).length) 0).toArray cur) hh1 hτ hb hheap1 (Nat.lt_succ_self v) (Nat.mod_one _) hp1 hp2 (aHm _ _ _) (aJ4 _)
 rw[aFx] at h5 h6
 have hw:putRow (Value.int .i64) (Sort.ahead w n) b 0 (Lib.compact l++List.replicate (l.length - (Lib.compact l).length) 0).toArray=(Sort.ahead w n).setRow b (putCells (Value.int .i64) 0 (Lib.compact l++List.replicate (l.length - (Lib.compact l).length) 0).toArray cur):=qH _ _ _ _ _ _ hheap1
 rw[hw]
 refine⟨_,_,rfl,⟨⟨_,_,_,rfl⟩,3,1,v+1,_,rfl,Nat.le_refl _,fun _=>.inl ⟨b,(by show upd g.β 9 (some b) 9=_;exact aC _ _ _),?_⟩⟩,h5⟩
 show _=Value.slice _ _ (upd g.cap 9 (g.cap 9) 9)
 rw[aC,kA,Nat.div_one]
end Go.Proofs.YtkmfmphpndhkjaaGreatDoor
namespace Go.Proofs.YtkmfmphpndhkjaaGreatDoor
open Go Go.RowKit
set_option maxHeartbeats 8000000
set_option maxRecDepth 100000
set_option linter.unusedVariables false
set_option linter.unusedSimpArgs false
theorem aD.mtSlot0 {σ:St} {t τ:Nat} (e sz:Nat) (hsz:0<sz) (hτ:σ.H τ=none) (ht:σ.env t = .c (.d (.val (.slice none 0 0)))):aD σ { σ with env:=upd σ.env t (.c (.mt τ 0)),H:=upd σ.H τ (some (.mrow e sz 0 [])) }:=by
 intro W0 K0 g a w r
 have hβ:g.β τ=none:=r.mem.dom τ hτ
 obtain⟨h5,h6⟩:=r.mem.mtok e sz hτ hsz
 have hv:bG g σ.H (.d (.val (.slice none 0 0))) (a.tmps.getD t undef):=by have:=r.env t;rw[ht] at this;exact this
 refine⟨g,h5,fun u=>?_,r.size,r.defers.mono h6 (fun i o hi=>by rw[show (upd σ.H τ (some (HE.mrow e sz 0 []))) i=σ.H i from aB _ _ (fun e=>by subst e;rw[hτ] at hi;cases hi)];exact hi),r.ln,r.rd,r.nodup,r.lt⟩
 show bH g _ (upd σ.env t _ u) _
 by_cases h:u=t
 ·subst h;rw[aC];exact aUq (W0:=W0) (K0:=K0) (w:=w) hβ (aC _ _ _) hv
 ·rw[aB _ _ h];exact (r.env u).mono h6
theorem aPi (l:List Int) (n:Int):iV (l++[n])=iV l++[.d (int n)]:=by simp[iV]
theorem aPj:iV []=[]:=rfl
theorem aPk (l:List Int):bZ CV.toD0 (iV l)=some (l.map fun n=>int n):=by
 have:=aAq CV.toD0 (fun d=>rfl) (l.map fun n=>int n)
 rw[List.map_map] at this
 exact this
theorem aOm (i:ImgD) (hs:SmallI i):aJ Tryz.prog 16 [.agg i.dv] (.lst 1 ((oV (iY i)).map fun n=>[int n])):=by
 have bL:=tV 100000 i (fun q=>(qD hs q).opens)
 (refine aJ.of_body Tryz.func16 rfl rfl Tryz.ntmps16 Tryz.results16 (by simp) ?_)
 (refine gO (ai @ImgD.dv.eq_1 (ai @PartD.dv.eq_1 (ai @StateD.dv.eq_1 (ai @CoordD.dv.eq_1 (@GrpD.dv.eq_1))))) ?_;try with_reducible exact tt)
 refine Wp.weak (aD.mtSlot0 (t:=3) (τ:=9) 3 1 (by decide) (by (refine rO (@bA) ?_;try with_reducible exact tt)) (by (refine rO (@bA) ?_;try with_reducible exact tt))) ?_
 refine Wp.loop (fun q:Nat=>⟨dI [(3,.c (.mt 9 ((fY i q).length))),(9,.agg ((i.p0.dv++(i.p1.dv++i.p2.dv)).map .d)),(10,vi .i64 q)],bJ [(9,.mrow 3 1 ((fY i q).length) (iV (fY i q)))],20,31,0⟩) (fun q=>q≤3) (fun q=>3 - q) 0 (by decide) ?_ ?_
 ·refine aD.keep rfl (by simp[aO,SV.ids,HE.ids,CV.ids,kX,ImgD.dv,PartD.dv,StateD.dv,CoordD.dv,GrpD.dv];rfl) ?_
  simp (maxSteps:=2000000) (disch:=omega) only[bF,TY,aL,bQ,cD,SV.ofD,bW,cF,bX,fB,bK,fC,eQ,cQ,cL,dO,eZ,eY,fA,CV.exact,CV.lstOf,CV.lenOf,CV.one,D.one,Value.oneCell',CV.toD0,fS,cC,dU,eV,rD0,eS,eO,fT,reduceCtorEq,reduceIte,Nat.reduceBEq,Nat.reduceEqDiff,Nat.reduceAdd,Nat.reduceMul,Nat.reduceSub,Nat.reduceLT,Nat.reduceLeDiff,Nat.reduceBNe,Int.reduceLE,Int.reduceLT,Int.reduceBEq,Int.reduceBNe,Int.reduceEq,Int.reduceNeg,Int.reduceAdd,Int.reduceSub,Int.reduceToNat,forall_const,bA,fY,aPj,List.length_nil,ImgD.dv,PartD.dv,StateD.dv,CoordD.dv,GrpD.dv,List.map_append,List.map_cons,List.map_nil]
 intro q hq
 by_cases hlt:q<3
 ·have dq:decide ((q:Int)<3)=true:=decide_eq_true (by omega)
  have hwq:IntKind.i64.wrap ((q:Int)+1)=((q+1:Nat):Int):=by rw[aG (by omega)];rfl
  (refine gO (ai @bA (dq)) ?_;try with_reducible exact tt)
  (first|refine Wp.meet (⟨dI [(3,.c (.mt 9 ((fY i q).length))),(5,.c (.own 20 0)),(9,.agg ((i.p0.dv++(i.p1.dv++i.p2.dv)).map .d)),(10,vi .i64 q)],bJ [(9,.mrow 3 1 ((fY i q).length) (iV (fY i q))),(20,.cells ((i.p q).dv.map .d))],21,31,0⟩) ?_ ?_|refine Wp.meetT (⟨dI [(3,.c (.mt 9 ((fY i q).length))),(5,.c (.own 20 0)),(9,.agg ((i.p0.dv++(i.p1.dv++i.p2.dv)).map .d)),(10,vi .i64 q)],bJ [(9,.mrow 3 1 ((fY i q).length) (iV (fY i q))),(20,.cells ((i.p q).dv.map .d))],21,31,0⟩) ?_ ?_|(refine Wp.seq ?_;refine Wp.meetT (⟨dI [(3,.c (.mt 9 ((fY i q).length))),(5,.c (.own 20 0)),(9,.agg ((i.p0.dv++(i.p1.dv++i.p2.dv)).map .d)),(10,vi .i64 q)],bJ [(9,.mrow 3 1 ((fY i q).length) (iV (fY i q))),(20,.cells ((i.p q).dv.map .d))],21,31,0⟩) ?_ ?_))
  ·rcases (show q=0∨q=1∨q=2 by omega) with rfl|rfl|rfl<;>((refine gO (ai @bA (ai @ImgD.dv.eq_1 (ai @PartD.dv.eq_1 (ai @StateD.dv.eq_1 (ai @CoordD.dv.eq_1 (ai @GrpD.dv.eq_1 (ai @List.map_append.{0,0} (ai @List.map_cons.{0,0} (@List.map_nil.{0,0}))))))))) ?_;try with_reducible exact tt);refine aD.keep rfl (by simp[aO,SV.ids,HE.ids,CV.ids,kX,ImgD.p,ImgD.dv,PartD.dv,StateD.dv,CoordD.dv,GrpD.dv];rfl) ?_;simp (maxSteps:=2000000) (disch:=omega) only[bF,TY,aL,bQ,cD,SV.ofD,bW,cF,bX,fB,bK,fC,eQ,cQ,cL,dO,eZ,eY,fA,CV.exact,CV.lstOf,CV.lenOf,CV.one,D.one,Value.oneCell',CV.toD0,fS,cC,dU,eV,rD0,eS,eO,fT,reduceCtorEq,reduceIte,Nat.reduceBEq,Nat.reduceEqDiff,Nat.reduceAdd,Nat.reduceMul,Nat.reduceSub,Nat.reduceLT,Nat.reduceLeDiff,Nat.reduceBNe,Int.reduceLE,Int.reduceLT,Int.reduceBEq,Int.reduceBNe,Int.reduceEq,Int.reduceNeg,Int.reduceAdd,Int.reduceSub,Int.reduceToNat,forall_const,bA,ImgD.p,ImgD.dv,PartD.dv,StateD.dv,CoordD.dv,GrpD.dv,List.map_append,List.map_cons,List.map_nil])
  have bL1:=bL (q+1)
  have e1:fY i (q+1)=fY i q++(i.p q).opens.map (·.pid):=rfl
  rw[e1] at bL1
  have hsp:=qD hs q
  clear bL
  generalize fY i q=L at *
  generalize i.p q=p at *
  rw[List.length_append,List.length_map] at bL1
  (refine gO (ai @bA (@PartD.dv.eq_1)) ?_;try with_reducible exact tt)
  refine Wp.loop (fun k:Nat=>⟨dI [(3,.c (.mt 9 (L++(p.opens.take k).map (·.pid)).length)),(9,.agg ((i.p0.dv++(i.p1.dv++i.p2.dv)).map .d)),(10,vi .i64 q),(14,.c (.d (.lst 3 (p.opens.map OpenD.dv)))),(15,vi .i64 p.opens.length),(16,vi .i64 k)],bJ [(9,.mrow 3 1 (L++(p.opens.take k).map (·.pid)).length (iV (L++(p.opens.take k).map (·.pid))))],21,31,0⟩) (fun k=>k≤p.opens.length) (fun k=>p.opens.length - k) 0 (Nat.zero_le _) ?_ ?_
  ·refine aD.keep rfl (by simp[aO,SV.ids,HE.ids,CV.ids,kX,ImgD.dv,PartD.dv,StateD.dv,CoordD.dv,GrpD.dv];rfl) ?_
   (refine rO (ai @bA (ai @PartD.dv.eq_1 (ai @List.take_zero.{0} (ai @List.map_nil.{0,0} (ai @List.append_nil.{0} (ai @List.map_append.{0,0} (ai @List.map_cons.{0,0} (@List.map_nil.{0,0})))))))) ?_;try with_reducible exact tt)
  intro k hk
  by_cases hlk:k<p.opens.length
  ·have dk:decide ((k:Int)<(p.opens.length:Int))=true:=decide_eq_true (by omega)
   have g1:p.opens[k]? = some p.opens[k]:=List.getElem?_eq_getElem hlk
   have hwk:IntKind.i64.wrap ((k:Int)+1)=((k+1:Nat):Int):=by rw[aG (by omega)];rfl
   have hnx:L++(p.opens.take (k+1)).map (·.pid)=(L++(p.opens.take k).map (·.pid))++[p.opens[k].pid]:=by rw[aF _ k hlk,List.map_append,List.append_assoc];rfl
   have hM:(L++(p.opens.take k).map (·.pid)).length≤300000:=by rw[List.length_append,List.length_map,List.length_take];omega
   generalize p.opens[k]=o at *
   generalize L++(p.opens.take k).map (·.pid)=M at *
   have hbM:(M.length+1)*8≤140737488355328:=by omega
   have hv:(M++[o.pid]).length=M.length+1:=by rw[List.length_append];rfl
   (repeat (first|apply Wp.skip|apply Wp.exit|apply Wp.ret|apply Wp.block|apply Wp.label|((first|refine Wp.sreg (fun K hK=>?_)|refine Wp.reg (fun K hK=>?_)|refine Wp.sdrw aA (fun K hK=>?_)|refine Wp.drw aA (fun K hK=>?_)|refine Wp.condG (fun K hK hF=>?_));(repeat (revert hK;intro hK;simp (maxSteps:=2000000) (disch:=omega) only[bF,TY,aL,bQ,cD,SV.ofD,bW,cF,bX,fB,bK,fC,eQ,cQ,cL,dO,eZ,eY,fA,CV.exact,CV.lstOf,CV.lenOf,CV.one,D.one,Value.oneCell',CV.toD0,fS,cC,dU,eV,rD0,eS,eO,fT,reduceCtorEq,reduceIte,Nat.reduceBEq,Nat.reduceEqDiff,Nat.reduceAdd,Nat.reduceMul,Nat.reduceSub,Nat.reduceLT,Nat.reduceLeDiff,Nat.reduceBNe,Int.reduceLE,Int.reduceLT,Int.reduceBEq,Int.reduceBNe,Int.reduceEq,Int.reduceNeg,Int.reduceAdd,Int.reduceSub,Int.reduceToNat,forall_const,bA,dk,g1,OpenD.dv,kA,hbM];(first|(refine hK _ ?_;clear hK K)|(refine⟨by kernel_rfl,hK _ ?_⟩;clear hK K)|(refine hK ?_;clear hK hF K)|(refine hF ?_;clear hK hF K)|refine aQ (by assumption) ?_|refine gJ (by assumption) ?_)));fail_if_success (revert hK;intro hK))|apply Wp.seq))
   refine⟨k+1,by omega,by omega,aD.keep rfl (by simp[aO,SV.ids,HE.ids,CV.ids,kX,ImgD.dv,PartD.dv,StateD.dv,CoordD.dv,GrpD.dv];rfl) ?_⟩
   simp (maxSteps:=2000000) (disch:=omega) only[bF,TY,aL,bQ,cD,SV.ofD,bW,cF,bX,fB,bK,fC,eQ,cQ,cL,dO,eZ,eY,fA,CV.exact,CV.lstOf,CV.lenOf,CV.one,D.one,Value.oneCell',CV.toD0,fS,cC,dU,eV,rD0,eS,eO,fT,reduceCtorEq,reduceIte,Nat.reduceBEq,Nat.reduceEqDiff,Nat.reduceAdd,Nat.reduceMul,Nat.reduceSub,Nat.reduceLT,Nat.reduceLeDiff,Nat.reduceBNe,Int.reduceLE,Int.reduceLT,Int.reduceBEq,Int.reduceBNe,Int.reduceEq,Int.reduceNeg,Int.reduceAdd,Int.reduceSub,Int.reduceToNat,forall_const,bA,hwk,hnx,hv,aPi,List.flatten_cons,List.flatten_nil,List.append_nil,List.map_append,List.map_cons,List.map_nil]
  have hk2:k=p.opens.length:=by omega
  subst hk2
  have dk:decide ((p.opens.length:Int)<(p.opens.length:Int))=false:=decide_eq_false (by omega)
  rw[List.take_length]
  (refine gO (ai @bA (dk)) ?_;try with_reducible exact tt)
  refine⟨q+1,by omega,by omega,aD.keep rfl (by simp[aO,SV.ids,HE.ids,CV.ids,kX,ImgD.dv,PartD.dv,StateD.dv,CoordD.dv,GrpD.dv];rfl) ?_⟩
  (refine rO (ai @bA (ai hwq (ai e1 (ai @List.map_append.{0,0} (ai @List.map_cons.{0,0} (@List.map_nil.{0,0})))))) ?_;try with_reducible exact tt)
 have hq3:q=3:=by omega
 subst hq3
 have b3:=bL 3
 have e3:fY i 3=iY i:=rfl
 rw[e3] at b3 ⊢
 have d3:decide (((3:Nat):Int)<3)=false:=rfl
 have e4:Lib.compact (gN (iY i))=oV (iY i):=rfl
 have hsl:(gN (iY i)).length=(iY i).length:=List.length_mergeSort _
 generalize iY i=L at *
 have c1:=aR6 L (L.length) (by omega)
 have c2:=aGv (gN L) (L.length) (by omega)
 rw[e4] at c2
 generalize gN L=M at *
 generalize oV L=Z at *
 (refine gO (ai @bA (d3)) ?_;try with_reducible exact tt)
 (first|refine Wp.sregG ?_|refine Wp.regG ?_|(refine Wp.seq ?_;first|refine Wp.sregG ?_|refine Wp.regG ?_))
 (refine cU.at 1 (fun K hK=>?_);(refine rO (@bA) ?_;try with_reducible exact tt);refine hK _ ?_;clear hK K)
 (refine cU.call (c1) [] 30 rfl rfl ?_ ?_;(focus ((refine rOs (ai @nI (ai @bA (@nA))) ?_;try with_reducible exact tt);done)))
 (refine cU.done (fun K hK=>?_);(refine rOt (ai @bA (ai @jR.eq_1 (ai @jR.eq_2 (ai @nA (@sA))))) ?_;try with_reducible exact tt);refine hK _ ?_;clear hK K)
 (first|refine Wp.sregG ?_|refine Wp.regG ?_|(refine Wp.seq ?_;first|refine Wp.sregG ?_|refine Wp.regG ?_))
 (refine cU.at 1 (fun K hK=>?_);(refine rO (@bA) ?_;try with_reducible exact tt);refine hK _ ?_;clear hK K)
 (refine cU.call (c2) [] 40 rfl rfl ?_ ?_;(focus ((refine rOs (ai @nI (ai @bA (@nA))) ?_;try with_reducible exact tt);done)))
 refine cU.weak (aD.pubSlot (t:=30) (τ:=9) (e:=3) (sz:=1) (n:=L.length+1) (cs:=iV Z) (ds:=Z.map fun n=>int n) (by (refine rOt (ai @bA (ai @jR.eq_1 (ai @jR.eq_2 (ai @nA (@sA))))) ?_;try with_reducible exact tt)) (aPk Z) (by (refine rOt (ai @bA (ai @jR.eq_1 (ai @jR.eq_2 (ai @nA (@sA))))) ?_;try with_reducible exact tt)) rfl) ?_
 rw[kA,Nat.div_one,wV _ _ (by rw[List.length_map]),List.map_map,show ((fun d=>[d]) ∘ fun n:Int=>int n)=fun n=>[int n] from rfl]
 (refine cU.done (fun K hK=>?_);(refine rOt (ai @bA (ai @jR.eq_1 (ai @jR.eq_2 (ai @nA (@sA))))) ?_;try with_reducible exact tt);refine hK _ ?_;clear hK K)
 (refine gO (@bA) ?_;try with_reducible exact tt)
 (refine rO (@bA) ?_;try with_reducible exact tt)
end Go.Proofs.YtkmfmphpndhkjaaGreatDoor
