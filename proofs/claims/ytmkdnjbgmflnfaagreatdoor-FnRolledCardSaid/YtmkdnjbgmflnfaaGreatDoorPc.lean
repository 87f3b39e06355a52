/- A part of the proof that FnRolled returns true; no condition. -/
import Derived.Test.YtmkdnjbgmflnfaaGreatDoorPb
import Derived.Laws.StructEq
import Derived.Lib.UnsafeStr
import Derived.Lib.Builder
import Derived.Test.YtmkdnjbgmflnfaaGreatDoorPa
import Derived.Lib.ConvBytes
set_option linter.all false
set_option maxRecDepth 100000
open List renaming length→U
open Int renaming ofNat→J,toNat→Jn
noncomputable section
namespace Go.Ev
section
variable {P:Program}{G:Gs}{o:Oper}{e:Env}{a:Act}{fr:T AV}{call:CallF}{id:Nat}{ao:AOp}{v:AV}{h':H}
theorem sound_store {t:TypeId}{x y:Operand} (hs:St e) (hf:FrRel e fr a.tmps) (hg:GRel G e) (ho:o.op=.store t x y)
 (hc:compOp P G (.store t x y)=some ao) (hr:evOp call ao fr e.h id=.ok v h'):OpS P o e a v h':=by
 simp only[compOp] at hc
 obtain⟨n,hn,hc⟩:=bind_inv hc
 obtain⟨x',hx,hc⟩:=bind_inv hc
 obtain⟨y',hy,hc⟩:=bind_inv hc
 split at hc
 ·cases hc
 rename_i hn0
 obtain rfl:=Oi hc
 have hr:(Option.rec .no (fun cs=>cd (Nat.beq (len cs) n) (Option.rec .no (fun h'=>.ok undefA h') (storeAt (ev x' fr) cs e.h)) .no) (ev y' fr).cells:R)=.ok v h':=hr
 have rx:=od_rel hf hg hx
 have ry:=od_rel hf hg hy
 cases hcs:(ev y' fr).cells with
 |none=>rw[hcs] at hr;cases hr
 |some cs=>
  rw[hcs] at hr
  have hr:cd (Nat.beq (len cs) n) (Option.rec .no (fun h'=>.ok undefA h') (storeAt (ev x' fr) cs e.h):R) .no=.ok v h':=hr
  rw[cd_eq,beq_nat,len_eq] at hr
  by_cases hln:cs.length=n
  case neg=>rw[Df hln] at hr;cases hr
  rw[Dt hln] at hr
  cases hst:storeAt (ev x' fr) cs e.h with
  |none=>rw[hst] at hr;cases hr
  |some h2=>
   rw[hst] at hr
   have hr:R.ok undefA h2=.ok v h':=hr
   injection hr with h1 h3;subst h1 h3
   obtain⟨hrel,hone⟩:=cells_rel ry hcs
   have hcl:(a.eval y).cells.size=n:=by
    have:=hrel.len;simp at this;omega
   have hne:cs≠[]:=by
    intro h;subst h;exact hn0 hln.symm
   obtain⟨ad,w',hcv,hrun,hst',hx'⟩:=store_both (P:=P) hs rx hrel hone hst hne
   refine OpS.skip (w':=w') ?_ e.ρ hst' hx' (rel_undef _)
   simp[execOp,ho,Instr.storeAt,hcv,Instr.sureAddr,storeVar,run_size hn,hcl,hrun]
theorem putNew_inv {n:Nat}{b:Blk}{f:Id→AV}{h:H} (hr:putNew n b f h=.ok v h'):n<h.next∧h.get (path n)=none∧v=f (path n)∧h'=h.put (path n) b:=by
 have hr:cd (Nat.blt n h.next) (Option.rec (.ok (f (path n)) (h.put (path n) b)) (fun _=>.no) (h.get (path n)):R) .no=.ok v h':=hr
 rw[cd_eq,blt_nat] at hr
 by_cases hn:n<h.next
 case neg=>rw[Df hn] at hr;cases hr
 rw[Dt hn] at hr
 cases hg:h.get (path n) with
 |some _=>rw[hg] at hr;cases hr
 |none=>
  rw[hg] at hr
  have hr:R.ok (f (path n)) (h.put (path n) b)=.ok v h':=hr
  injection hr with h1 h2
  exact⟨hn,rfl,h1.symm,h2.symm⟩
theorem alloc_known (e:Env) (n:Nat) (ob:Obj) (b:Blk):known (e.alloc n ob b) (path n):=by
 show(if path n=path n then(e.w.heap.size,0) else e.ρ (path n)).2=0
 rw[if_pos rfl]
theorem alloc_rel_p (e:Env) (n:Nat) (ob:Obj) (b:Blk):Rel (e.alloc n ob b) (.p (path n) 0) (.pointer (some ⟨e.w.heap.size,0,none⟩)):=by
 simp only[Rel]
 refine⟨alloc_known e n ob b,?_⟩
 have hr:(e.alloc n ob b).ρ (path n)=(e.w.heap.size,0):=if_pos rfl
 rw[hr]
theorem sound_new {t:TypeId} (hs:St e) (hlo:e.F.lo≤id) (ho:o.op=.alloc t)
 (hc:compOp P G (.alloc t)=some ao) (hr:evOp call ao fr e.h id=.ok v h'):OpS P o e a v h':=by
 simp only[compOp] at hc
 obtain⟨z,hz,rfl⟩:=map_inv hc
 obtain⟨hn,hf0,rfl,rfl⟩:=putNew_inv (show putNew id (.cs t z false) (fun id=>.p id 0) e.h=.ok v h' from hr)
 have hf:=aside_none hs hlo hf0
 obtain⟨zv,hrun,hzs⟩:=run_zero hz e.w
 obtain⟨hrel,hone⟩:=rel_avOfs (e:=e) hzs
 have hb:=alloc_cells hs hf t hrel hone zv.cells (by have:=hrel.len;simp at this;omega) (fun j u hu=>by simpa using hu)
 refine OpS.value (cv:=.pointer (some ⟨e.w.heap.size,0,none⟩)) (w':=e.w.alloc (.cells zv.cells t)) ?_ _ (alloc_st hs hn hf _ _ hb) (alloc_ext hs hf _ _) (alloc_rel_p e id _ _)
 simp[execOp,ho,Instr.alloc,hrun,newVar,newRow]
theorem sound_box {t:TypeId}{x:Operand} (hs:St e) (hlo:e.F.lo≤id) (hf:FrRel e fr a.tmps) (hg:GRel G e) (ho:o.op=.box t x)
 (hc:compOp P G (.box t x)=some ao) (hr:evOp call ao fr e.h id=.ok v h'):OpS P o e a v h':=by
 simp only[compOp] at hc
 obtain⟨n,hn,hc⟩:=bind_inv hc
 obtain⟨x',hx,rfl⟩:=map_inv hc
 have rx:=od_rel hf hg hx
 have hr:(Option.rec .no (fun cs=>cd (Nat.beq (len cs) n) (putNew id (.cs t cs false) (fun id=>.p id 0) e.h) .no) (ev x' fr).cells:R)=.ok v h':=hr
 cases hcs:(ev x' fr).cells with
 |none=>rw[hcs] at hr;cases hr
 |some cs=>
  rw[hcs] at hr
  have hr:cd (Nat.beq (len cs) n) (putNew id (.cs t cs false) (fun id=>.p id 0) e.h) .no=.ok v h':=hr
  rw[cd_eq,beq_nat,len_eq] at hr
  by_cases hln:cs.length=n
  case neg=>rw[Df hln] at hr;cases hr
  rw[Dt hln,if_pos rfl] at hr
  obtain⟨hn',hf0,rfl,rfl⟩:=putNew_inv hr
  have hf':=aside_none hs hlo hf0
  obtain⟨hrel,hone⟩:=cells_rel rx hcs
  have hb:=alloc_cells hs hf' t hrel hone (a.eval x).cells (by have:=hrel.len;simp at this;omega) (fun j u hu=>by simpa using hu)
  refine OpS.value (cv:=.pointer (some ⟨e.w.heap.size,0,none⟩)) (w':=e.w.alloc (.cells (a.eval x).cells t)) ?_ _ (alloc_st hs hn' hf' _ _ hb) (alloc_ext hs hf' _ _) (alloc_rel_p e id _ _)
  simp[execOp,ho,Instr.box,newVar,newRow]
end
end Go.Ev
namespace Go.Ev
theorem zip_lay (off:Nat):∀(vs:List Value) (k:Nat) (c:Array Value),(vs.zipIdx k).foldl (fun cs (x:Value×Nat)=>cs.setIfInBounds (off+x.2) x.1) c=layA c (off+k) vs
 |[],_,_=>rfl
 |v::vs,k,c=>by
  simp only[List.zipIdx_cons,List.foldl_cons,layA]
  rw[zip_lay off vs (k+1)]
  rfl
section
variable {P:Program}{G:Gs}{o:Oper}{e:Env}{a:Act}{fr:T AV}{call:CallF}{id:Nat}{ao:AOp}{v:AV}{h':H}
theorem lay_rel {l l' new:List AV}{c:Array Value}{vs:List Value}{off:Nat} (hl:RelL e l c.toList) (hn:RelL e new vs) (h:lay l off new=some l') (hle:off+new.length≤l.length):RelL e l' (layA c off vs).toList:=by
 obtain⟨h1,h2,h3⟩:=lay_some _ _ _ _ h
 have hlen:=hl.len
 have hnl:=hn.len
 simp only[Array.length_toList] at hlen
 obtain⟨us,r1,r2,r3⟩:=relL_of (e:=e) l' (fun j=>(layA c off vs)[j]?) (fun j y hy=>by
  rw[h3 j] at hy
  show∃u,(layA c off vs)[j]? =some u∧Rel e y u
  rw[layA_get vs c off j om]
  by_cases hin:off≤j∧j<off+new.length
  ·rw[if_pos hin] at hy
   rw[if_pos om]
   exact hn.get hy
  ·rw[if_neg hin] at hy
   rw[if_neg om]
   simpa using hl.get hy)
 have:us=(layA c off vs).toList:=by
  apply List.ext_getElem?
  intro j
  by_cases hj:j<us.length
  ·rw[Lq hj]
   have:=r3 j _ (Lq hj)
   simpa using this.symm
  ·rw[Lz om,Lz]
   simp only[Array.length_toList,layA_size];omega
 rw[←this];exact r1
theorem lay_one {l l' new:List AV}{off:Nat} (h:lay l off new=some l') (h1:∀x∈l,one x=true) (h2:∀x∈new,one x=true):∀x∈l',one x=true:=by
 obtain⟨_,_,h3⟩:=lay_some _ _ _ _ h
 intro x hx
 obtain⟨j,hj⟩:=List.mem_iff_getElem?.1 hx
 rw[h3 j] at hj
 split at hj
 ·exact h2 x (List.mem_of_getElem? hj)
 ·exact h1 x (List.mem_of_getElem? hj)
theorem lay_nil {l l':List AV}{off:Nat} (h:lay l off []=some l'):l'=l:=by
 obtain⟨_,_,h3⟩:=lay_some _ _ _ _ h
 apply List.ext_getElem?
 intro j
 rw[h3 j,if_neg (by simp)]
theorem fill_rel (hf:FrRel e fr a.tmps) (hg:GRel G e) (place:Nat→Option (Nat×Nat)):∀(ps:List (Nat×Operand)) (ps':List (Nat×Nat×Od)),partsOf G place ps=some ps'→
 ∀(l l':List AV) (c:Array Value),RelL e l c.toList→(∀x∈l,one x=true)→fillA ps' fr l=some l'→
 ∃c',Instr.fill place c (ps.map fun(i,x)=>(i,a.eval x))=some c'∧RelL e l' c'.toList∧c'.size=c.size∧∀x∈l',one x=true
 |[],ps',hp,l,l',c,hl,ho,h=>by
  simp only[partsOf,Oj] at hp;subst hp
  obtain rfl:=Oi (show some l=some l' from h)
  exact⟨c,rfl,hl,rfl,ho⟩
 |(i,x)::ps,ps',hp,l,l',c,hl,ho,h=>by
  simp only[partsOf] at hp
  split at hp
  ·rename_i off n y ys hpl hy hys
   split at hp
   ·cases hp
   rename_i hn0
   simp only[Oj] at hp;subst hp
   have ry:=od_rel hf hg hy
   have h:(Option.rec none (fun cs=>cd (Nat.beq (len cs) n) (Option.rec none (fun l'=>fillA ys fr l') (lay l off cs)) none) (ev y fr).cells:Option (List AV))=some l':=h
   cases hcs:(ev y fr).cells with
   |none=>rw[hcs] at h;cases h
   |some cs=>
    rw[hcs] at h
    obtain⟨h1,h⟩:=cd_some (show cd (Nat.beq (len cs) n) _ none=some l' from h)
    have h1:=beq_true h1
    rw[len_eq] at h1
    cases hlay:lay l off cs with
    |none=>rw[hlay] at h;cases h
    |some l1=>
     rw[hlay] at h
     have h:fillA ys fr l1=some l':=h
     obtain⟨hcr,hco⟩:=cells_rel ry hcs
     have hcl:(a.eval x).cells.size=n:=by have:=hcr.len;simp at this;omega
     have hsz:c.size=l.length:=by have:=hl.len;simpa using this
     have hfit:off+n≤c.size∨n=0:=by
      obtain⟨_,hh,_⟩:=lay_some _ _ _ _ hlay
      rcases Nat.eq_zero_or_pos n with h0|h0
      ·exact .inr h0
      ·exact .inl (by have:=hh om;omega)
     have hfold:(a.eval x).cells.zipIdx.foldl (fun cs (q:Value×Nat)=>cs.setIfInBounds (off+q.2) q.1) c=layA c off (a.eval x).cells.toList:=by
      rw[←Array.foldl_toList,Array.toList_zipIdx,zip_lay]
      rfl
     by_cases hle:off+n≤c.size
     ·have hrel1:=lay_rel hl hcr hlay om
      obtain⟨c',hc',hr',hs',ho'⟩:=fill_rel hf hg place ps ys hys l1 l' _ hrel1 (lay_one hlay ho hco) h
      refine⟨c',?_,hr',by rw[hs',layA_size],ho'⟩
      simp only[List.map_cons,Instr.fill,hpl]
      have hcond:((decide ((a.eval x).cells.size≠n))||decide (off+(a.eval x).cells.size>c.size))=false:=by
       rw[hcl];simp;omega
      rw[hcond]
      simp only[Bool.false_eq_true,if_false]
      rw[←hc']
      exact congrArg (fun z=>Instr.fill place z _) hfold
     ·exact absurd (hfit.resolve_right hn0) hle
  ·cases hp
theorem zero_inv {t:TypeId}{z:List AV} (h:zeroOf P t=some z):∃i zv,P.info? t=some i∧i.zero=some zv∧avOfs zv.cells.toList=some z:=by
 unfold zeroOf at h
 obtain⟨i,hi,h⟩:=bind_inv h
 obtain⟨zv,hz,h⟩:=bind_inv h
 exact⟨i,zv,hi,hz,h⟩
theorem sound_bld {t:TypeId}{ps:Array (Nat×Operand)}{z:List AV}{ps':List (Nat×Nat×Od)}{place:Nat→Option (Nat×Nat)} (hs:St e) (hf:FrRel e fr a.tmps) (hg:GRel G e) (ho:o.op=.build t ps)
 (hz:zeroOf P t=some z) (hp:partsOf G place ps.toList=some ps')
 (hb:∀zv:Value,(∃i,P.info? t=some i∧i.zero=some zv)→∀l,P.built t l=Instr.fill place zv.cells l)
 (hr:evOp call (.bld z ps') fr e.h id=.ok v h'):OpS P o e a v h':=by
 have hr:(Option.rec .no (fun l=>.ok (.ag l) e.h) (fillA ps' fr z):R)=.ok v h':=hr
 cases hfl:fillA ps' fr z with
 |none=>rw[hfl] at hr;cases hr
 |some l=>
  rw[hfl] at hr
  have hr:R.ok (.ag l) e.h=.ok v h':=hr
  injection hr with h1 h2;subst h1 h2
  obtain⟨i,zv,hi,hzv,hzs⟩:=zero_inv hz
  obtain⟨hzr,hzo⟩:=rel_avOfs (e:=e) hzs
  obtain⟨c',hc',hr',_,ho'⟩:=fill_rel hf hg place _ _ hp z l zv.cells hzr hzo hfl
  refine OpS.same hs (cv:=.agg c') ?_ (by simp only[Rel];exact⟨ho',c',rfl,hr'⟩)
  have hrun:=run_build (P:=P) e.w t (ps.map fun(i,x)=>(i,a.eval x)) c' (by rw[hb zv ⟨i,hi,hzv⟩,Array.toList_map];exact hc')
  simp[execOp,ho,hrun]
theorem sound_build {t:TypeId}{ps:Array (Nat×Operand)} (hs:St e) (hf:FrRel e fr a.tmps) (hg:GRel G e) (ho:o.op=.build t ps)
 (hc:compOp P G (.build t ps)=some ao) (hr:evOp call ao fr e.h id=.ok v h'):OpS P o e a v h':=by
 simp only[compOp] at hc
 obtain⟨z,hz,hc⟩:=bind_inv hc
 obtain⟨d,hd,hc⟩:=bind_inv hc
 split at hc
 ·rename_i fs
  obtain⟨places,hpl,hc⟩:=bind_inv hc
  obtain⟨ps',hp,rfl⟩:=map_inv hc
  refine sound_bld hs hf hg ho hz hp (fun zv ⟨i,hi,hzv⟩ l=>?_) hr
  simp only[Program.built,hi,hd,hzv,hpl]
 ·rename_i n el
  obtain⟨sz,hsz,hc⟩:=bind_inv hc
  obtain⟨ps',hp,rfl⟩:=map_inv hc
  obtain⟨ie,hie,rfl⟩:=map_inv hsz
  refine sound_bld hs hf hg ho hz hp (fun zv ⟨i,hi,hzv⟩ l=>?_) hr
  simp only[Program.built,hi,hd,hzv,hie]
 ·cases hc
theorem repl_len (z:List AV):∀n,(repl n z).length=n*z.length
 |0=>by show([]:List AV).length=_;simp
 |n+1=>by
  show(cat z (repl n z)).length=_
  rw[cat_eq,La,repl_len z n,Nat.add_mul];omega
theorem repl_mem (z:List AV):∀n x,x∈repl n z→x∈z
 |0,x,h=>by have h:x∈([]:List AV):=h;simp at h
 |n+1,x,h=>by
  have h:x∈cat z (repl n z):=h
  rw[cat_eq,List.mem_append] at h
  exact h.elim id (repl_mem z n x)
theorem RelL.append:∀{xs ys:List AV}{vs ws:List Value},RelL e xs vs→RelL e ys ws→RelL e (xs++ys) (vs++ws)
 |[],ys,[],ws,_,h=>h
 |[],_,_::_,_,h,_=>by simp[RelL] at h
 |_::_,_,[],_,h,_=>by simp[RelL] at h
 |x::xs,ys,v::vs,ws,h,h'=>by
  simp only[RelL,List.cons_append] at h⊢
  exact⟨h.1,RelL.append h.2 h'⟩
def rep (n:Nat) (vs:List Value):List Value:=match n with
 |0=>[]
 |n+1=>vs++rep n vs
theorem rep_len (z:List Value):∀n,(rep n z).length=n*z.length
 |0=>by simp[rep]
 |n+1=>by rw[rep,La,rep_len z n,Nat.add_mul];omega
theorem rep_get (z:List Value) (hz:0<z.length):∀n j,j<n*z.length→(rep n z)[j]? =z[j % z.length]?
 |0,j,h=>by simp at h
 |n+1,j,h=>by
  rw[rep]
  by_cases hj:j<z.length
  ·rw[List.getElem?_append_left hj,Nat.mod_eq_of_lt hj]
  ·rw[List.getElem?_append_right om,rep_get z hz n _ (by rw[Nat.add_mul] at h;omega),←Nat.mod_eq_sub_mod om]
theorem repl_rel {z:List AV}{zs:List Value} (h:RelL e z zs):∀n,RelL e (repl n z) (rep n zs)
 |0=>by show RelL e [] [];simp[RelL]
 |n+1=>by
  show RelL e (cat z (repl n z)) _
  rw[cat_eq];exact RelL.append h (repl_rel h n)
theorem rep_array (z:Array Value) (n k:Nat) (hz:0<z.size) (hk:k=n*z.size):((Array.range k).map (fun i=>z[i % z.size]!)).toList=rep n z.toList:=by
 apply List.ext_getElem?
 intro j
 by_cases hj:j<k
 ·rw[rep_get z.toList (by simpa using hz) n j (by simpa using hk▸hj)]
  have:j % z.size<z.size:=Nat.mod_lt _ hz
  simp[hj,this]
 ·rw[Lz (by simpa using hj),Lz (by rw[rep_len];simp;omega)]
theorem alloc_rel_sl (e:Env) (n:Nat) (c:Array Value) (el:TypeId) (b:Blk) (sz len cap:Nat) (ex:Bool) (h1:len≤cap) (lo:Nat) (hlo:len≤lo) (hlo2:lo≤cap) (hex:ex=true→cap=lo) (h2:cap*sz≤c.size):
 Rel (e.alloc n (.cells c el) b) (.sl (path n) 0 sz len lo ex) (.slice (some ⟨e.w.heap.size,0,none⟩) len cap):=by
 have hr:(e.alloc n (.cells c el) b).ρ (path n)=(e.w.heap.size,0):=if_pos rfl
 simp only[Rel]
 refine⟨alloc_known e n _ b,_,_,rfl,hlo,hlo2,hex,.inr ?_⟩
 rw[hr]
 refine⟨rfl,?_⟩
 have:bsize (e.alloc n (.cells c el) b).w e.w.heap.size=c.size:=by
  show bsize (e.w.alloc (.cells c el)) e.w.heap.size=_
  unfold bsize
  rw[heap_alloc_new]
 simp only[this];omega
theorem elem_inv {t el:TypeId} (h:elemOf? P t=some el):P.underlying t=some (.slice el):=by
 unfold elemOf? at h
 obtain⟨d,hd,h⟩:=bind_inv h
 split at h
 ·cases h;exact hd
 ·cases h
theorem drop_ext (e:Env) (ob:Obj):Ext e ⟨e.ρ,e.h,e.w.alloc ob,e.F⟩:=
 ⟨Nr _,fun _ h=>h,fun _ _=>rfl,rfl,by simp,fun b hb _=>heap_alloc_old _ _ _ hb,fun b hb=>bsize_congr (heap_alloc_old _ _ _ hb),fun _ _ h=>h,fun _ b h=>⟨b,h⟩,fun _ h=>.inl h,⟨rfl,rfl,rfl⟩⟩
theorem drop_st {e:Env} (hs:St e) (ob:Obj):St ⟨e.ρ,e.h,e.w.alloc ob,e.F⟩ where
 kn:=hs.kn
 dk:=hs.dk
 lo:=hs.lo
 blk:=fun id b hb=>by
  by_cases hd:b=.dead
  ·subst hd;trivial
  ·exact BlkRel.ext (drop_ext e ob) (hs.dk id b hb) (heap_alloc_old _ _ _ (hs.lt ⟨b,hb,hd⟩)) b (hs.blk id b hb)
 inj:=hs.inj
 fr:=fun b hb=>⟨by have:=(hs.fr b hb).1;simp;omega,(hs.fr b hb).2⟩
theorem sound_bsl {t:TypeId}{n:Nat}{ps:Array (Nat×Operand)} (hs:St e) (hlo:e.F.lo≤id) (hf:FrRel e fr a.tmps) (hg:GRel G e) (ho:o.op=.buildSlice t n ps)
 (hc:compOp P G (.buildSlice t n ps)=some ao) (hr:evOp call ao fr e.h id=.ok v h'):OpS P o e a v h':=by
 simp only[compOp] at hc
 obtain⟨el,hel,hc⟩:=bind_inv hc
 obtain⟨sz,hsz,hc⟩:=bind_inv hc
 obtain⟨z,hz,hc⟩:=bind_inv hc
 split at hc
 ·cases hc
 rename_i hn
 obtain⟨ps',hp,rfl⟩:=map_inv hc
 have hu:=elem_inv hel
 obtain⟨i,zv,hi,hzv,hzs⟩:=zero_inv hz
 obtain⟨hzr,hzo⟩:=rel_avOfs (e:=e) hzs
 have hzl:zv.cells.size=sz:=by have:=hzr.len;simp at this;omega
 have hr:(match fillA ps' fr (repl n z) with
  |some cs=>cd (Nat.beq n 0) (.ok .em e.h) (putNew id (.cs el cs false) (fun id=>.sl id 0 sz n n true) e.h)
  |none=>.no:R)=.ok v h':=hr
 split at hr
 ·rename_i cs hfl
  obtain⟨c',hc',hr',hcs',ho'⟩:=fill_rel hf hg (fun i=>some (i*sz,sz)) _ _ hp (repl n z) cs ((Array.range (n*sz)).map (fun i=>zv.cells[i % zv.cells.size]!))
   (by rw[rep_array zv.cells n _ om (by rw[hzl])];exact repl_rel hzr n) (fun x hx=>hzo x (repl_mem z n x hx)) hfl
  have hlim:¬(n*sz>16777216):=om
  have hinfo:∀w,(typeInfo el).run P w=.ok i w:=fun w=>run_info hi w
  have hne:n*sz=0↔n=0:=by
   constructor
   ·intro h;rcases Nat.mul_eq_zero.1 h with h|h
    ·exact h
    ·omega
   ·intro h;subst h;simp
  have hrun:(execOp a.eval o).run P e.w=.ok (.value (.slice (some ⟨e.w.heap.size,0,none⟩) n n)) (e.w.alloc (.cells c' el)):=by
   by_cases h0:n=0
   ·subst h0
    have hc0:Instr.fill (fun i=>some (i*sz,sz)) #[] (ps.map fun(i,x)=>(i,a.eval x)).toList=some c':=by
     rw[Array.toList_map]
     have hz0:(Array.range (0*sz)).map (fun i=>zv.cells[i % zv.cells.size]!)=#[]:=by rw[Nat.zero_mul,show Array.range 0=#[] from rfl];simp
     rw[hz0] at hc'
     exact hc'
    have h00:Array.range 0=#[]:=rfl
    simp[execOp,ho,Instr.buildSlice,run_underlying hu,run_size hsz,newRow,h00]
    rw[Array.toList_map] at hc0
    rw[hc0]
    simp
   ·have hc0:Instr.fill (fun i=>some (i*sz,sz)) ((Array.range (n*sz)).map (fun i=>zv.cells[i % zv.cells.size]!)) (ps.map fun(i,x)=>(i,a.eval x)).toList=some c':=by
     rw[Array.toList_map];exact hc'
    have hn0:¬(n*sz=0):=fun h=>h0 (hne.1 h)
    simp only[execOp,ho,Instr.buildSlice,Sem.run_bind,run_underlying hu,run_size hsz,Result.andThen_ok,if_neg hlim,if_neg hn0,zeroValue,hinfo,hzv,newRow]
    have hc2:Instr.fill (fun i=>some (i*sz,sz)) (Array.map (fun x=>zv.cells[x % zv.cells.size]!) (Array.range (n*sz))) (List.map (fun x=>(x.fst,a.eval x.snd)) ps.toList)=some c':=hc'
    simp[hlim,hn0,hinfo,hzv]
    rw[hc2]
    simp
  rw[cd_eq,beq_nat] at hr
  by_cases h0:n=0
  ·rw[Dt h0,if_pos rfl] at hr
   injection hr with h1 h2;subst h1 h2
   refine OpS.value hrun e.ρ (drop_st hs _) (drop_ext e _) ?_
   simp only[Rel];exact⟨_,by rw[h0]⟩
  ·rw[Df h0] at hr
   obtain⟨hn',hf0,rfl,rfl⟩:=putNew_inv (by simpa using hr)
   have hf':=aside_none hs hlo hf0
   have hcl:cs.length=c'.size:=by have:=hr'.len;simpa using this.symm
   have hsz':c'.size=n*sz:=by rw[hcs'];simp
   have hb:=alloc_cells hs hf' el hr' ho' c' om (fun j u hu=>by simpa using hu)
   exact OpS.value hrun _ (alloc_st hs hn' hf' _ _ hb) (alloc_ext hs hf' _ _) (alloc_rel_sl e id c' el _ sz n n true (Nr _) n (Nr _) (Nr _) (fun _=>rfl) om)
 ·cases hr
end
end Go.Ev
namespace Go.Ev
section
variable {P:Program}{G:Gs}{o:Oper}{e:Env}{a:Act}{fr:T AV}{call:CallF}{id:Nat}{ao:AOp}{v:AV}{h':H}
theorem run_exec_builtin {c:Call}{b:Builtin} (ho:o.op=.call c) (hb:c.callee=.builtin b) (w:World):
 (execOp a.eval o).run P w=(builtin b c.argTypes o.type (c.args.map fun|.const _=>true|_=>false) (c.args.map a.eval)).run P w:=by
 simp[execOp,ho,resolve,hb,invoke]
 rfl
theorem ods_one {xs:Array Operand}{x':Od} (h:ods G xs.toList=some [x']):∃x,xs=#[x]∧od G x=some x':=by
 obtain⟨l⟩:=xs
 cases l with
 |nil=>simp[ods] at h
 |cons x l=>
  simp only[ods] at h
  split at h
  ·rename_i y ys hy hys
   simp only[Oj,List.cons.injEq] at h
   obtain⟨rfl,rfl⟩:=h
   cases l with
   |nil=>exact⟨x,rfl,hy⟩
   |cons z l=>
    simp only[ods] at hys
    split at hys
    ·simp at hys
    ·cases hys
  ·cases h
theorem ods_two {xs:Array Operand}{x' y':Od} (h:ods G xs.toList=some [x',y']):∃x y,xs=#[x,y]∧od G x=some x'∧od G y=some y':=by
 obtain⟨l⟩:=xs
 cases l with
 |nil=>simp[ods] at h
 |cons x l=>
  simp only[ods] at h
  split at h
  ·rename_i y ys hy hys
   simp only[Oj,List.cons.injEq] at h
   obtain⟨rfl,rfl⟩:=h
   obtain⟨z,hz,hz'⟩:=ods_one (xs:=l.toArray) (by simpa using hys)
   have hz:l=[z]:=by have:=congrArg Array.toList hz;simpa using this
   subst hz
   exact⟨x,z,rfl,hy,hz'⟩
  ·cases h
theorem run_getObj' {w:World}{r:Nat}{ms:Array MapEntry}{clock:Nat} (h:w.heap[r]? =some (.map ms clock)):(getObj r).run P w=.ok (.map ms clock) w:=by
 simp[getObj,Sem.run,h]
theorem EntRel.len:∀{es:List (AV×AV)}{ms:List MapEntry},EntRel e es ms→ms.length=es.length
 |[],[],_=>rfl
 |[],_::_,h=>h.elim
 |(_,_)::_,[],h=>h.elim
 |(_,_)::_,_::_,h=>by simp[EntRel.len h.2.2]
def LKOf:LK→TypeDesc→Prop
 |.str,d=>d=.string
 |.sli,d=>∃el,d=.slice el
 |.map,d=>∃k el,d=.map k el
theorem lenOf_run {k:LK}{u:AV}{cv:Value}{n:Nat} (hs:St e) (hr:Rel e u cv) (h:lenOf k u e.h=some n){t:TypeId}{d:TypeDesc} (hd:P.underlying t=some d)
 (hk:LKOf k d) (ty:TypeId){ts:Array TypeId} (hts:ts[0]? =some t):
 (Builtin.len_ ts ty #[cv]).run P e.w=.ok (goInt n) e.w:=by
 unfold lenOf at h
 split at h
 ·cases h
  simp only[Rel] at hr
  obtain⟨_,ad,cap,rfl,_⟩:=hr
  obtain⟨el,rfl⟩:=hk
  simp[Builtin.len_,hts,run_underlying hd]
 ·cases h
  simp only[Rel] at hr
  obtain⟨ad,rfl⟩:=hr
  obtain⟨el,rfl⟩:=hk
  simp[Builtin.len_,hts,run_underlying hd]
 ·cases h
  simp only[Rel] at hr
  obtain⟨rfl,_⟩:=hr
  obtain⟨el,rfl⟩:=hk
  simp[Builtin.len_,hts,run_underlying hd]
 ·cases h
  simp only[Rel] at hr
  obtain⟨rfl,_⟩:=hr
  obtain⟨el,rfl⟩:=hk
  simp[Builtin.len_,hts,run_underlying hd]
 ·cases h
  obtain⟨el,rfl⟩:=hk
  rcases rel_isl.1 hr with ⟨rfl,rfl⟩|⟨ad,cap,rfl,_⟩
  ·simp[Builtin.len_,hts,run_underlying hd]
  ·simp[Builtin.len_,hts,run_underlying hd]
 ·cases h
  simp only[Rel] at hr
  obtain⟨rfl,_⟩:=hr
  obtain⟨k,el,rfl⟩:=hk
  simp[Builtin.len_,hts,run_underlying hd]
 ·cases h
  rename_i l
  obtain⟨hn,_,rfl⟩:=rel_s hr
  obtain rfl:=hk
  simp[Builtin.len_,hts,run_underlying hd,strOf_size,hn]
 ·split at h
  ·rename_i i es hg
   cases h
   simp only[Rel] at hr
   obtain⟨_,rfl⟩:=hr
   obtain⟨k,el,rfl⟩:=hk
   obtain⟨ms,clock,hm,hent⟩:=hs.blk _ _ hg
   have hl:ms.size=es.length:=by simpa using hent.len
   have hget:=run_getObj' (P:=P) hm
   simp[Builtin.len_,hts,run_underlying hd,hget,hl]
  ·cases h
 ·cases h
theorem sound_len {c:Call}{k:LK}{x':Od}{t:TypeId}{d:TypeDesc} (hs:St e) (hf:FrRel e fr a.tmps) (hg:GRel G e) (ho:o.op=.call c) (hb:c.callee=.builtin .len)
 (hx:ods G c.args.toList=some [x']) (ht:c.argTypes[0]? =some t) (hd:P.underlying t=some d) (hk:LKOf k d) (hr:evOp call (.len k x') fr e.h id=.ok v h'):OpS P o e a v h':=by
 obtain⟨x,hxs,hx⟩:=ods_one hx
 have rx:=od_rel hf hg hx
 have hr:(Option.rec .no (fun n=>.ok (.i .i64 (.ofNat n)) e.h) (lenOf k (ev x' fr) e.h):R)=.ok v h':=hr
 cases hl:lenOf k (ev x' fr) e.h with
 |none=>rw[hl] at hr;cases hr
 |some n=>
  rw[hl] at hr
  have hr:R.ok (.i .i64 (.ofNat n)) e.h=.ok v h':=hr
  injection hr with h1 h2;subst h1 h2
  have hrun:=lenOf_run (P:=P) hs rx hl hd hk o.type ht
  refine OpS.same hs (cv:=goInt n) ?_ (by simp[Rel,goInt])
  rw[run_exec_builtin ho hb,hxs]
  simp[builtin,hrun]
theorem sound_cap {c:Call}{x':Od}{t el:TypeId} (hs:St e) (hf:FrRel e fr a.tmps) (hg:GRel G e) (ho:o.op=.call c) (hb:c.callee=.builtin .cap)
 (hx:ods G c.args.toList=some [x']) (ht:c.argTypes[0]? =some t) (hd:elemOf? P t=some el) (hr:evOp call (.o2 (.cap x')) fr e.h id=.ok v h'):OpS P o e a v h':=by
 obtain⟨x,hxs,hx⟩:=ods_one hx
 have rx:=od_rel hf hg hx
 have hu:=elem_inv hd
 have key:∀b n m,a.eval x=.slice b n m→v=.i .i64 (.ofNat m)→OpS P o e a v e.h:=by
  intro b n m hv hv'
  subst hv'
  refine OpS.same hs (cv:=goInt m) ?_ (by simp[Rel,goInt])
  rw[run_exec_builtin ho hb,hxs]
  simp[builtin,Builtin.cap_,ht,run_underlying hu,hv]
 have hr:(match ev x' fr with
  |.sl _ _ _ _ lo true=>.ok (.i .i64 (.ofNat lo)) e.h
  |.em=>.ok (.i .i64 (J 0)) e.h
  |.v (.slice none 0 0)=>.ok (.i .i64 (J 0)) e.h
  |_=>.no:R)=.ok v h':=hr
 generalize ev x' fr=u at hr rx
 split at hr
 ·injection hr with h1 h2;subst h1 h2
  simp only[Rel] at rx
  obtain⟨_,ad,cap,hv,_,_,h3,_⟩:=rx
  obtain rfl:=h3 trivial
  exact key _ _ _ hv rfl
 ·injection hr with h1 h2;subst h1 h2
  simp only[Rel] at rx
  obtain⟨ad,hv⟩:=rx
  exact key _ _ _ hv rfl
 ·injection hr with h1 h2;subst h1 h2
  simp only[Rel] at rx
  exact key _ _ _ rx.1 rfl
 ·cases hr
theorem fold_max:∀{r:List AV}{vs:List Value}{x:AV}{cx:Value}{y:AV},RelL e r vs→Rel e x cx→
 (List.rec (motive:=fun _=>AV→Option AV) (fun a=>some a) (fun y _ ih a=>Option.rec none ih (mxA a y)) r x)=some y→
 ∃cy,(vs.foldlM Builtin.max2 cx).run P e.w=.ok cy e.w∧Rel e y cy
 |[],[],x,cx,y,_,hx,h=>by
  obtain rfl:=Oi (show some x=some y from h)
  exact⟨cx,by simp,hx⟩
 |[],_::_,_,_,_,h,_,_=>by simp[RelL] at h
 |_::_,[],_,_,_,h,_,_=>by simp[RelL] at h
 |z::r,w::vs,x,cx,y,hr,hx,h=>by
  simp only[RelL] at hr
  have h:(Option.rec none (fun a=>List.rec (motive:=fun _=>AV→Option AV) (fun a=>some a) (fun y _ ih a=>Option.rec none ih (mxA a y)) r a) (mxA x z):Option AV)=some y:=h
  cases hm:mxA x z with
  |none=>rw[hm] at h;cases h
  |some u=>
   rw[hm] at h
   unfold mxA at hm
   split at hm
   ·rename_i k p k' q
    obtain rfl:=Oi hm
    have hx:=rel_i hx
    have hz:=rel_i hr.1
    subst hx hz
    obtain⟨cy,h1,h2⟩:=fold_max (x:=.i k (cd (iLe q p) p q)) (cx:=.int k (if q>p then q else p)) hr.2 (by
     simp only[Rel]
     rw[cd_eq,iLe_eq]
     by_cases hq:q≤p
     ·rw[Dt hq,if_pos rfl,if_neg om]
     ·rw[Df hq,if_pos om];simp) h
    refine⟨cy,?_,h2⟩
    rw[List.foldlM_cons]
    simp only[Builtin.max2,pure_bind]
    exact h1
   ·cases hm
theorem fold_min:∀{r:List AV}{vs:List Value}{x:AV}{cx:Value}{y:AV},RelL e r vs→Rel e x cx→
 (List.rec (motive:=fun _=>AV→Option AV) (fun a=>some a) (fun y _ ih a=>Option.rec none ih (mnA a y)) r x)=some y→
 ∃cy,(vs.foldlM Builtin.min2 cx).run P e.w=.ok cy e.w∧Rel e y cy
 |[],[],x,cx,y,_,hx,h=>by
  obtain rfl:=Oi (show some x=some y from h)
  exact⟨cx,by simp,hx⟩
 |[],_::_,_,_,_,h,_,_=>by simp[RelL] at h
 |_::_,[],_,_,_,h,_,_=>by simp[RelL] at h
 |z::r,w::vs,x,cx,y,hr,hx,h=>by
  simp only[RelL] at hr
  have h:(Option.rec none (fun a=>List.rec (motive:=fun _=>AV→Option AV) (fun a=>some a) (fun y _ ih a=>Option.rec none ih (mnA a y)) r a) (mnA x z):Option AV)=some y:=h
  cases hm:mnA x z with
  |none=>rw[hm] at h;cases h
  |some u=>
   rw[hm] at h
   unfold mnA at hm
   split at hm
   ·rename_i k p k' q
    obtain rfl:=Oi hm
    have hx:=rel_i hx
    have hz:=rel_i hr.1
    subst hx hz
    obtain⟨cy,h1,h2⟩:=fold_min (x:=.i k (cd (iLe p q) p q)) (cx:=.int k (if q<p then q else p)) hr.2 (by
     simp only[Rel]
     rw[cd_eq,iLe_eq]
     by_cases hq:p≤q
     ·rw[Dt hq,if_pos rfl,if_neg om]
     ·rw[Df hq,if_pos om];simp) h
    refine⟨cy,?_,h2⟩
    rw[List.foldlM_cons]
    simp only[Builtin.min2,pure_bind]
    exact h1
   ·cases hm
theorem sound_mx {c:Call}{xs:List Od} (hs:St e) (hf:FrRel e fr a.tmps) (hg:GRel G e) (ho:o.op=.call c) (hb:c.callee=.builtin .max)
 (hx:ods G c.args.toList=some xs) (hr:evOp call (.o2 (.mx xs)) fr e.h id=.ok v h'):OpS P o e a v h':=by
 have rx:=ods_rel hf hg hx
 obtain⟨hq,rfl⟩:=okV_inv (show okV e.h (fold1 mxA (evs xs fr))=.ok v h' from hr)
 generalize evs xs fr=us at hq rx
 cases us with
 |nil=>cases hq
 |cons u us=>
  cases hl:c.args.toList with
  |nil=>rw[hl] at rx;simp[RelL] at rx
  |cons y ys=>
   rw[hl,List.map_cons] at rx
   simp only[RelL] at rx
   obtain⟨cy,h1,h2⟩:=fold_max (P:=P) rx.2 rx.1 hq
   refine OpS.same hs (cv:=cy) ?_ h2
   rw[run_exec_builtin ho hb]
   have:(c.args.map a.eval).toList=a.eval y::ys.map a.eval:=by rw[Array.toList_map,hl];rfl
   simp[builtin,Builtin.max_,hl,h1]
theorem sound_mn {c:Call}{xs:List Od} (hs:St e) (hf:FrRel e fr a.tmps) (hg:GRel G e) (ho:o.op=.call c) (hb:c.callee=.builtin .min)
 (hx:ods G c.args.toList=some xs) (hr:evOp call (.o2 (.mn xs)) fr e.h id=.ok v h'):OpS P o e a v h':=by
 have rx:=ods_rel hf hg hx
 obtain⟨hq,rfl⟩:=okV_inv (show okV e.h (fold1 mnA (evs xs fr))=.ok v h' from hr)
 generalize evs xs fr=us at hq rx
 cases us with
 |nil=>cases hq
 |cons u us=>
  cases hl:c.args.toList with
  |nil=>rw[hl] at rx;simp[RelL] at rx
  |cons y ys=>
   rw[hl,List.map_cons] at rx
   simp only[RelL] at rx
   obtain⟨cy,h1,h2⟩:=fold_min (P:=P) rx.2 rx.1 hq
   refine OpS.same hs (cv:=cy) ?_ h2
   rw[run_exec_builtin ho hb]
   have:(c.args.map a.eval).toList=a.eval y::ys.map a.eval:=by rw[Array.toList_map,hl];rfl
   simp[builtin,Builtin.min_,hl,h1]
theorem sound_fld {t:TypeId}{x:Operand}{f:Nat} (hs:St e) (hf:FrRel e fr a.tmps) (hg:GRel G e) (ho:o.op=.field t x f)
 (hc:compOp P G (.field t x f)=some ao) (hr:evOp call ao fr e.h id=.ok v h'):OpS P o e a v h':=by
 simp only[compOp] at hc
 obtain⟨d,hd,hc⟩:=bind_inv hc
 split at hc
 ·rename_i fs
  obtain⟨fl,hfl,hc⟩:=bind_inv hc
  obtain⟨n,hn,hc⟩:=bind_inv hc
  obtain⟨ag,hag,hc⟩:=bind_inv hc
  obtain⟨x',hx,rfl⟩:=map_inv hc
  have rx:=od_rel hf hg hx
  have hq2:(match ev x' fr,(if ag=true then some n else none) with
   |.ag cs,some n=>Option.rec .no (fun l=>.ok (.ag l) e.h) (cut cs fl.offset n)
   |.ag cs,none=>okV e.h (nth cs fl.offset)
   |_,_=>.no:R)=.ok v h':=hr
  clear hr hc
  generalize ev x' fr=u at hq2 rx
  split at hq2
  ·rename_i cs m hm
   cases ag with
   |false=>cases hm
   |true=>
   obtain rfl:=Oi (show some n=some m from hm)
   simp only[Rel] at rx
   obtain⟨h1,vs,hv,h2⟩:=rx
   cases hcut:cut cs fl.offset n with
   |none=>rw[hcut] at hq2;cases hq2
   |some l=>
    rw[hcut] at hq2
    have hq2:R.ok (.ag l) e.h=.ok v h':=hq2
    injection hq2 with h3 h4;subst h3 h4
    have hcr:=RelL.cut _ _ h2 hcut
    refine OpS.same hs (cv:=.agg (vs.extract fl.offset (fl.offset+n))) ?_ ?_
    ·simp[execOp,ho,Instr.field,run_underlying hd,hfl,hv,asAgg,part,run_isAgg hag,run_size hn]
    ·simp only[Rel]
     refine⟨fun c hc=>?_,_,rfl,?_⟩
     ·rcases cut_some _ _ _ _ hcut with ⟨h,_⟩|⟨_,h⟩
      ·rw[h] at hc;exact h1 c (List.mem_of_mem_drop (List.mem_of_mem_take hc))
      ·rw[h] at hc;simp at hc
     ·rw[Array.toList_extract,List.extract_eq_take_drop]
      simpa using hcr
  ·rename_i cs hm
   cases ag with
   |true=>cases hm
   |false=>
   obtain⟨hq,rfl⟩:=okV_inv hq2
   rw[nth_eq] at hq
   simp only[Rel] at rx
   obtain⟨h1,vs,hv,h2⟩:=rx
   obtain⟨u,hu,hru⟩:=h2.get hq
   refine OpS.same hs (cv:=u) ?_ hru
   have hu:vs[fl.offset]? =some u:=by simpa using hu
   simp[execOp,ho,Instr.field,run_underlying hd,hfl,hv,asAgg,part,run_isAgg hag,hu]
  ·cases hq2
 ·cases hc
theorem eqC_i {x y:AV}{r:Bool} (h:eqC 1 x y=some r):∃k a b,x=.i k a∧y=.i k b∧r=decide (a=b):=by
 replace h:(match(generalizing:=false) x,y with
  |.i k a,.i k' b=>cd (kEq k k') (some (iEq a b)) none
  |_,_=>none:Option Bool)=some r:=h
 cases x<;>cases y<;>try (cases h;done)
 rename_i k a k' b
 replace h:cd (kEq k k') (some (iEq a b)) none=some r:=h
 rw[kEq_eq,cd_eq] at h
 split at h
 ·rename_i hk
  obtain rfl:k=k':=by simpa using hk
  obtain rfl:=Oi h
  exact⟨k,a,b,rfl,rfl,iEq_eq a b⟩
 ·cases h
theorem eqC_b {x y:AV}{r:Bool} (h:eqC 2 x y=some r):∃a b,x=.b a∧y=.b b∧r=(a==b):=by
 replace h:(match(generalizing:=false) x,y with
  |.b x,.b y=>some (cd x y (!y))
  |_,_=>none:Option Bool)=some r:=h
 cases x<;>cases y<;>try (cases h;done)
 rename_i a b
 replace h:some (cd a b (!b))=some r:=h
 obtain rfl:=Oi h
 exact⟨a,b,rfl,rfl,by cases a<;>cases b<;>rfl⟩
theorem eqC_s {x y:AV}{r:Bool} (h:eqC 3 x y=some r):∃n a m b,x=.s n a∧y=.s m b∧r=sEq a b:=by
 replace h:(match(generalizing:=false) x,y with
  |.s _ x,.s _ y=>some (sEq x y)
  |_,_=>none:Option Bool)=some r:=h
 cases x<;>cases y<;>try (cases h;done)
 rename_i n a m b
 replace h:some (sEq a b)=some r:=h
 exact⟨n,a,m,b,rfl,rfl,(Oi h).symm⟩
theorem run_eqFields (d:Nat){cx cy:Array Value} (w:World):∀(fs:List Field) (i:Nat) (ks:List Nat) (xs ys:List AV) (b:Bool),flatKs P fs i=some ks→
 (∀(j:Nat) (x:AV),xs[j]? =some x→∃u,cx[i+j]? =some u∧Rel e x u)→(∀(j:Nat) (y:AV),ys[j]? =some y→∃u,cy[i+j]? =some u∧Rel e y u)→eqL ks xs ys=some b→
 (Op.eqFields (d+1) cx cy fs).run P w=.ok b w
 |[],i,ks,xs,ys,b,hf,_,_,h=>by
  cases hf
  have h:(match(generalizing:=false) xs,ys with
   |[],[]=>some true
   |_,_=>none:Option Bool)=some b:=h
  cases xs<;>cases ys<;>simp at h
  subst h;rfl
 |f::fs,i,ks,xs,ys,b,hf,hx,hy,h=>by
  unfold flatKs at hf
  split at hf
  case isFalse=>cases hf
  case isTrue hc=>
  rw[Bool.and_eq_true] at hc
  have hname:f.name≠ "_" :=by simpa using hc.1
  have hoff:f.offset=i:=Nq hc.2
  have key:∀(k:Nat) (ks':List Nat),ks=k::ks'→flatKs P fs (i+1)=some ks'→isAgg? P f.type=some false→
   (∀(x y:AV) (u v:Value) (r:Bool),Rel e x u→Rel e y v→eqC k x y=some r→(Op.equalIn (d+1) f.type u v).run P w=.ok r w)→(Op.eqFields (d+1) cx cy (f::fs)).run P w=.ok b w:=by
   intro k ks' hk hfs hag heq
   subst hk
   have h:(match(generalizing:=false) xs,ys with
    |x::xs,y::ys=>match(generalizing:=false) eqC k x y,eqL ks' xs ys with
     |some a,some b=>some (cd a b false)
     |_,_=>none
    |_,_=>none:Option Bool)=some b:=h
   cases xs with
   |nil=>cases h
   |cons x xs=>
   cases ys with
   |nil=>cases h
   |cons y ys=>
   have h:(match(generalizing:=false) eqC k x y,eqL ks' xs ys with
    |some a,some b=>some (cd a b false)
    |_,_=>none:Option Bool)=some b:=h
   split at h
   case h_2=>cases h
   case h_1 a b' ha hb=>
   obtain rfl:=Oi h
   obtain⟨u,hu,ru⟩:=hx 0 x rfl
   obtain⟨v,hv,rv⟩:=hy 0 y rfl
   have hu:cx[i]? =some u:=hu
   have hv:cy[i]? =some v:=hv
   have ih:=run_eqFields d w fs (i+1) ks' xs ys b' hfs (fun j z hz=>by rw[Nat.add_assoc,Nat.add_comm 1 j];exact hx (j+1) z hz) (fun j z hz=>by rw[Nat.add_assoc,Nat.add_comm 1 j];exact hy (j+1) z hz) hb
   have p1:(part f.type cx f.offset).run P w=.ok u w:=by simp[part,run_isAgg hag,hoff,hu]
   have p2:(part f.type cy f.offset).run P w=.ok v w:=by simp[part,run_isAgg hag,hoff,hv]
   simp only[Op.eqFields,if_pos hname,Sem.run_bind,p1,p2,Result.andThen_ok,heq x y u v a ru rv ha]
   cases a with
   |false=>rfl
   |true=>simpa[cd] using ih
  split at hf
  ·rename_i k0 hd
   obtain⟨ks',hfs,rfl⟩:=map_inv hf
   refine key 1 ks' rfl hfs (by simp[isAgg?,hd,isAggD]) (fun x y u v r rx ry hr=>?_)
   obtain⟨k1,a1,b1,rfl,rfl,rfl⟩:=eqC_i hr
   rw[rel_i rx,rel_i ry,run_equalIn_int w d f.type k1 k0 a1 b1 hd];rfl
  ·rename_i hd
   obtain⟨ks',hfs,rfl⟩:=map_inv hf
   refine key 2 ks' rfl hfs (by simp[isAgg?,hd,isAggD]) (fun x y u v r rx ry hr=>?_)
   obtain⟨a1,b1,rfl,rfl,rfl⟩:=eqC_b hr
   rw[rel_b rx,rel_b ry,run_equalIn_bool' w d f.type a1 b1 hd]
  ·rename_i hd
   obtain⟨ks',hfs,rfl⟩:=map_inv hf
   refine key 3 ks' rfl hfs (by simp[isAgg?,hd,isAggD]) (fun x y u v r rx ry hr=>?_)
   obtain⟨n1,a1,m1,b1,rfl,rfl,rfl⟩:=eqC_s hr
   obtain⟨_,g1,e1⟩:=rel_s rx
   obtain⟨_,g2,e2⟩:=rel_s ry
   rw[e1,e2,run_equalIn_string w d f.type _ _ hd,strOf_eq_iff g1 g2,sEq_eq]
  ·cases hf
theorem sound_eqs {op:BinOp}{t t':TypeId}{x y:Operand}{x' y':Od}{neg:Bool}{ks:List Nat}{fs:Array Field} (hs:St e) (hf:FrRel e fr a.tmps) (hg:GRel G e) (ho:o.op=.binOp op t x y t')
 (hx:od G x=some x') (hy:od G y=some y') (hn:isEq op=some neg) (hd:P.underlying t=some (.struct fs)) (hks:flatKs P fs.toList 0=some ks) (hst:P.stoodInHeld t=false) (heg:P.eqGuardType P.depth t=false)
 (hr:evOp call (.o2 (.eqs neg ks x' y')) fr e.h id=.ok v h'):OpS P o e a v h':=by
 have hr:(match ev x' fr,ev y' fr with
  |.ag xs,.ag ys=>Option.rec .no (fun b=>.ok (.b (cd neg (!b) b)) e.h) (eqL ks xs ys)
  |_,_=>.no:R)=.ok v h':=hr
 have rx:=od_rel hf hg hx
 have ry:=od_rel hf hg hy
 split at hr
 case h_2=>cases hr
 case h_1 xs ys hxs hys=>
 rw[hxs] at rx;rw[hys] at ry
 simp only[Rel] at rx ry
 obtain⟨_,vx,hvx,rx⟩:=rx
 obtain⟨_,vy,hvy,ry⟩:=ry
 cases hq:eqL ks xs ys with
 |none=>rw[hq] at hr;cases hr
 |some b=>
 rw[hq] at hr
 have hr:R.ok (.b (cd neg (!b) b)) e.h=.ok v h':=hr
 injection hr with h1 h2;subst h1 h2
 have hfo:P.fieldsOf t=fs:=by simp[Program.fieldsOf,hd]
 have hrun:(Op.equalIn 10000 t (.agg vx) (.agg vy)).run P e.w=.ok b e.w:=by
  rw[run_equalIn_agg e.w 9999 t vx vy (by rw[hfo];exact hd) hst,hfo]
  exact run_eqFields 9998 e.w fs.toList 0 ks xs ys b hks (fun j z hz=>by obtain⟨u,h1,h2⟩:=rx.get hz;exact⟨u,by simpa using h1,h2⟩) (fun j z hz=>by obtain⟨u,h1,h2⟩:=ry.get hz;exact⟨u,by simpa using h1,h2⟩) hq
 refine OpS.same hs (cv:=.bool (cd neg (!b) b)) ?_ (by simp[Rel])
 rcases isEq_inv hn with ⟨rfl,rfl⟩|⟨rfl,rfl⟩
 ·simp only[execOp,ho,hvx,hvy,Sem.run_bind,run_eqGuard_agg e.w _ t x y vx vy heg,Result.andThen_ok,run_eql_struct,hrun,Sem.run_pure];rfl
 ·simp only[execOp,ho,hvx,hvy,Sem.run_bind,run_eqGuard_agg e.w _ t x y vx vy heg,Result.andThen_ok,run_neq_struct,hrun,Sem.run_pure];rfl
end
end Go.Ev
end
noncomputable section
namespace Go.Ev
theorem heap_ext {e:Env}{w':World} (h:w'.heap=e.w.heap) (q:Qt e.w w'):Ext e ⟨e.ρ,e.h,w',e.F⟩:=
 ⟨Nr _,fun _ h=>h,fun _ _=>rfl,rfl,by show _≤w'.heap.size;rw[h];exact Nr _,fun b _ _=>by show w'.heap[b]? =_;rw[h],fun b _=>bsize_congr (by rw[h]),fun _ _ h=>h,fun _ b h=>⟨b,h⟩,fun _ h=>.inl h,q⟩
theorem heap_st {e:Env} (hs:St e){w':World} (h:w'.heap=e.w.heap) (q:Qt e.w w'):St ⟨e.ρ,e.h,w',e.F⟩ where
 kn:=hs.kn
 dk:=hs.dk
 lo:=hs.lo
 blk:=fun id b hb=>BlkRel.ext (heap_ext h q) (hs.dk id b hb) (by show w'.heap[_]? =_;rw[h]) b (hs.blk id b hb)
 inj:=hs.inj
 fr:=fun b hb=>⟨by have:=(hs.fr b hb).1;show b<w'.heap.size;rw[h];exact this,(hs.fr b hb).2⟩
section
variable {P:Program}{G:Gs}{o:Oper}{e:Env}{a:Act}{fr:T AV}{call:CallF}{id:Nat}{ao:AOp}{v:AV}{h':H}
theorem sound_mkmap {t:TypeId}{r:Option Operand} (hs:St e) (hlo:e.F.lo≤id) (ho:o.op=.makeMap t r)
 (hc:compOp P G (.makeMap t r)=some ao) (hr:evOp call ao fr e.h id=.ok v h'):OpS P o e a v h':=by
 cases r with
 |some _=>simp[compOp] at hc
 |none=>
  simp only[compOp] at hc
  obtain⟨d,hd,hc⟩:=bind_inv hc
  split at hc
  ·cases hc
   obtain⟨hn,hf0,rfl,rfl⟩:=putNew_inv (show putNew id (.mp []) (fun id=>.m id) e.h=.ok v h' from hr)
   have hf:=aside_none hs hlo hf0
   have hρ:(e.alloc id (.map #[] 0) (.mp [])).ρ (path id)=(e.w.heap.size,0):=if_pos rfl
   have hb:BlkRel (e.alloc id (.map #[] 0) (.mp [])) (path id) (.mp []):=by
    simp only[BlkRel,hρ]
    exact⟨#[],0,heap_alloc_new _ _,trivial⟩
   refine OpS.value (cv:=.map (some e.w.heap.size)) (w':=e.w.alloc (.map #[] 0)) ?_ _ (alloc_st hs hn hf _ _ hb) (alloc_ext hs hf _ _) ?_
   ·simp[execOp,ho,Instr.makeMap]
   ·have:Rel (e.alloc id (.map #[] 0) (.mp [])) (.m (path id)) (.map (some e.w.heap.size)):=by
     simp only[Rel,hρ,and_true]
     exact alloc_known e id _ _
    exact this
  ·cases hc
theorem sound_mksl {t:TypeId}{l c:Operand} (hs:St e) (hlo:e.F.lo≤id) (hf:FrRel e fr a.tmps) (hg:GRel G e) (ho:o.op=.makeSlice t l c)
 (hc:compOp P G (.makeSlice t l c)=some ao) (hr:evOp call ao fr e.h id=.ok v h'):OpS P o e a v h':=by
 simp only[compOp] at hc
 obtain⟨el,hel,hc⟩:=bind_inv hc
 obtain⟨sz,hsz,hc⟩:=bind_inv hc
 obtain⟨by_,hby,hc⟩:=bind_inv hc
 obtain⟨z,hz,hc⟩:=bind_inv hc
 split at hc
 ·cases hc
 rename_i hn
 obtain⟨l',hl,hc⟩:=bind_inv hc
 obtain⟨c',hc',rfl⟩:=map_inv hc
 have rl:=od_rel hf hg hl
 have rc:=od_rel hf hg hc'
 have hu:=elem_inv hel
 obtain⟨i,zv,hi,hzv,hzs⟩:=zero_inv hz
 obtain⟨hzr,hzo⟩:=rel_avOfs (e:=e) hzs
 have hzl:zv.cells.size=sz:=by have:=hzr.len;simp at this;omega
 have hib:i.bytes=by_:=by
  obtain⟨i2,hi2,h2⟩:=map_inv hby
  rw[hi] at hi2;cases hi2;exact h2
 have hr:(match asN (ev l' fr),asN (ev c' fr) with
  |some l,some c=>cd (Nat.ble l c) (cd (roomy c by_) (cd (Nat.beq c 0) (.ok .em e.h) (putNew id (.cs el (repl c z) false) (fun id=>.sl id 0 sz l c true) e.h)) .no) .no
  |_,_=>.no:R)=.ok v h':=hr
 split at hr
 ·rename_i n m hnl hnm
  obtain⟨k1,h1⟩:=asN_inv hnl
  obtain⟨k2,h2⟩:=asN_inv hnm
  rw[h1] at rl
  rw[h2] at rc
  have rl:=rel_i rl
  have rc:=rel_i rc
  rw[cd_eq,ble_nat] at hr
  by_cases hnm':n≤m
  case neg=>rw[Df hnm'] at hr;cases hr
  rw[Dt hnm',if_pos rfl,cd_eq] at hr
  unfold roomy at hr
  rw[ble_nat] at hr
  by_cases hroom:Nat.mul m by_≤1099511627776
  case neg=>rw[Df hroom] at hr;cases hr
  rw[Dt hroom,if_pos rfl,cd_eq,beq_nat] at hr
  have hroom:m*by_≤1099511627776:=hroom
  have hm40:m≤1099511627776:=Nt (Nat.le_mul_of_pos_right m om) hroom
  have hw:∀j:Nat,j≤m→IntKind.i64.wrap (j:Int)=(j:Int):=fun j hj=>wrap_in _ _ ⟨by show(-9223372036854775808:Int)≤j;omega,by show(j:Int)≤9223372036854775807;omega⟩
  have hrun:(execOp a.eval o).run P e.w=.ok (.value (.slice (some ⟨e.w.heap.size,0,none⟩) n m)) (e.w.alloc (.cells ((Array.range (m*sz)).map (fun j=>zv.cells[j % zv.cells.size]!)) el)):=by
   have hlarge:∀j:Nat,j≤m→¬((by_:Int)*(j:Int)>281474976710656):=fun j hj=>by
    have:j*by_≤m*by_:=Nat.mul_le_mul_right _ hj
    have:((j*by_:Nat):Int)≤1099511627776:=om
    rw[Int.natCast_mul] at this
    have hcomm:(by_:Int)*(j:Int)=(j:Int)*(by_:Int):=Int.mul_comm _ _
    omega
   have e1:a.eval l=.int k1 (n:Int):=rl
   have e2:a.eval c=.int k2 (m:Int):=rc
   have hA:¬((n:Int)>(m:Int)):=om
   by_cases h0:m*sz=0
   ·have h00:Array.range 0=#[]:=rfl
    simp only[execOp,ho,Instr.makeSlice,Sem.run_bind,run_underlying hu,Result.andThen_ok,e1,e2]
    simp[asInt,asIntOf,run_info hi,hib,hw n hnm',hw m (Nr _),hlarge m (Nr _),run_size hsz,h0,newRow,hnm',h00]
    intro h;omega
   ·have hm0:¬(m=0∨sz=0):=by
     intro h;rcases h with h|h<;>subst h<;>simp at h0
    simp only[execOp,ho,Instr.makeSlice,Sem.run_bind,run_underlying hu,Result.andThen_ok,e1,e2]
    simp[asInt,asIntOf,run_info hi,hib,hw n hnm',hw m (Nr _),hlarge m (Nr _),run_size hsz,hm0,newRow,hnm',zeroValue,hzv]
    rw[if_neg om]
    simp[run_info hi,hzv]
    intro h;exact absurd h h0
  by_cases h0:m=0
  ·subst h0
   rw[Dt rfl,if_pos rfl] at hr
   injection hr with h1 h2;subst h1 h2
   refine OpS.value hrun e.ρ (drop_st hs _) (drop_ext e _) ?_
   simp only[Rel]
   exact⟨_,by rw[show n=0 by omega]⟩
  ·rw[Df h0] at hr
   obtain⟨hn',hf0,rfl,rfl⟩:=putNew_inv (by simpa using hr)
   have hf':=aside_none hs hlo hf0
   have hrl:RelL e (repl m z) ((Array.range (m*sz)).map (fun j=>zv.cells[j % zv.cells.size]!)).toList:=by
    rw[rep_array zv.cells m _ om (by rw[hzl])];exact repl_rel hzr m
   have hzz:z.length=sz:=om
   have hb:=alloc_cells hs hf' el hrl (fun x hx=>hzo x (repl_mem z m x hx)) ((Array.range (m*sz)).map (fun j=>zv.cells[j % zv.cells.size]!)) (by rw[repl_len,hzz,Array.size_map,Array.size_range];exact Nr _) (fun j u hu=>by rw[←Array.getElem?_toList];exact hu)
   refine OpS.value hrun _ (alloc_st hs hn' hf' _ _ hb) (alloc_ext hs hf' _ _) (alloc_rel_sl e id _ el _ sz n m true hnm' m hnm' (Nr _) (fun _=>rfl) ?_)
   simp
 ·cases hr
theorem bytes_rel:∀(l:List Nat),(∀c∈l,c<256)→RelL e (l.map fun c=>.i .u8 (.ofNat c)) ((l.map UInt8.ofNat).map fun b=>Value.int .u8 b.toNat)
 |[],_=>by simp[RelL]
 |c::l,h=>by
  simp only[List.map_cons,RelL]
  refine⟨?_,bytes_rel l (fun d hd=>h d (Loz _ hd))⟩
  simp only[Rel]
  rw[toNat_ofNat (h c (Mc ..))]
  rfl
theorem sound_cvsb {s d:TypeId}{el:TypeId}{ds:TypeDesc}{x:Operand}{x':Od} (hs:St e) (hlo:e.F.lo≤id) (hf:FrRel e fr a.tmps) (hg:GRel G e) (ho:o.op=.convert s d x)
 (hx:od G x=some x') (hds:P.underlying s=some ds) (hdd:P.underlying d=some (.slice el)) (hu8:isU8 P el=true)
 (hr:evOp call (.o2 (.cvsb el x')) fr e.h id=.ok v h'):OpS P o e a v h':=by
 have rx:=od_rel hf hg hx
 have hel:P.underlying el=some (.int .u8):=by
  unfold isU8 at hu8
  split at hu8
  ·assumption
  ·cases hu8
 have hr:(match ev x' fr with
  |.s n l=>cd (Nat.beq n 0) .no (putNew id (.cs el (l.map fun c=>.i .u8 (.ofNat c)) false) (fun id=>.sl id 0 1 n n false) e.h)
  |_=>.no:R)=.ok v h':=hr
 generalize ev x' fr=u at hr rx
 split at hr
 ·rename_i n l
  rw[cd_eq,beq_nat] at hr
  by_cases h0:n=0
  ·rw[Dt h0] at hr;cases hr
  rw[Df h0] at hr
  obtain⟨hn,hf0,rfl,rfl⟩:=putNew_inv (by simpa using hr)
  have hfn:=aside_none hs hlo hf0
  obtain⟨hnl,h256,hv⟩:=rel_s rx
  have hrun:=Lib.run_convert_string_bytes (P:=P) e.w s d el (strOf l) hds hdd hel
  let c:=Lib.bytesCells e.w el (strOf l)
  have hsz:(strOf l).size=n:=by rw[strOf_size,hnl]
  have hge:=grownCap_ge e.w (strOf l).size 0 el
  have hcsz:c.size=grownCap e.w (strOf l).size 0 el:=by
   show(Lib.bytesCells e.w el (strOf l)).size=_
   unfold Lib.bytesCells
   have:(strOf l).data.size=(strOf l).size:=rfl
   rw[Array.size_append,Array.size_map,Array.size_replicate,this];omega
  have hheap:(Lib.bytesWorld e.w el (strOf l)).heap=(e.w.alloc (.cells c el (c.size,c.size+1))).heap:=by
   apply Array.ext_getElem?
   intro j
   by_cases hj:j<e.w.heap.size
   ·rw[Lib.bytesWorld_at_old _ _ _ _ hj,heap_alloc_old _ _ _ hj]
   ·by_cases hj2:j=e.w.heap.size
    ·rw[hj2,Lib.bytesWorld_at_new,heap_alloc_new]
    ·rw[Array.getElem?_eq_none (by rw[Lib.bytesWorld_size];omega),Array.getElem?_eq_none (by simp;omega)]
  have hrl:=bytes_rel (e:=e) l h256
  have hb:=alloc_cells' hs hfn el hrl (fun y hy=>by
   obtain⟨k,_,rfl⟩:=List.mem_map.1 hy
   rfl) c (c.size,c.size+1) (fun o' h1 _=>h1) (by rw[Lm,hcsz];omega) (fun j u hu=>by
    have hj:j<l.length:=by have:=(List.getElem?_eq_some_iff.1 hu).1;simpa using this
    show(Lib.bytesCells e.w el (strOf l))[j]? =some u
    unfold Lib.bytesCells
    rw[Array.getElem?_append_left (by rw[Array.size_map];show j<(strOf l).size;omega),←Array.getElem?_toList,Array.toList_map]
    exact hu)
  have st1:=alloc_st hs hn hfn _ _ hb
  have ex1:=alloc_ext hs hfn (.cells c el (c.size,c.size+1)) (.cs el (l.map fun c=>.i .u8 (.ofNat c)) false)
  have rel1:Rel (e.alloc id (.cells c el (c.size,c.size+1)) (.cs el (l.map fun c=>.i .u8 (.ofNat c)) false)) (.sl (path id) 0 1 n n false) (.slice (some ⟨e.w.heap.size,0,none⟩) n (grownCap e.w (strOf l).size 0 el)):=by
   have hρ:(e.alloc id (.cells c el (c.size,c.size+1)) (.cs el (l.map fun c=>.i .u8 (.ofNat c)) false)).ρ (path id)=(e.w.heap.size,0):=if_pos rfl
   simp only[Rel]
   refine⟨alloc_known e id _ _,_,_,rfl,Nr _,om,(fun h=>absurd h (by simp)),.inr ?_⟩
   rw[hρ]
   refine⟨rfl,?_⟩
   have:bsize (e.alloc id (.cells c el (c.size,c.size+1)) (.cs el (l.map fun c=>.i .u8 (.ofNat c)) false)).w e.w.heap.size=c.size:=by
    show bsize (e.w.alloc (.cells c el (c.size,c.size+1))) e.w.heap.size=_
    unfold bsize
    rw[heap_alloc_new]
   simp only[this];omega
  have hq:Qt (e.alloc id (.cells c el (c.size,c.size+1)) (.cs el (l.map fun c=>.i .u8 (.ofNat c)) false)).w (Lib.bytesWorld e.w el (strOf l)):=⟨rfl,rfl,rfl⟩
  refine OpS.value (cv:=.slice (some ⟨e.w.heap.size,0,none⟩) n (grownCap e.w (strOf l).size 0 el)) (w':=Lib.bytesWorld e.w el (strOf l)) ?_ _ (heap_st st1 hheap hq) (ex1.trans (heap_ext hheap hq)) (Rel.ext (heap_ext hheap hq) _ _ rel1)
  simp[execOp,ho,hv,hrun,hsz]
 ·cases hr
theorem sound_cvp1 {s d t:TypeId}{n:Nat}{x:Operand}{x':Od} (hs:St e) (hf:FrRel e fr a.tmps) (hg:GRel G e) (ho:o.op=.convert s d x)
 (hx:od G x=some x') (hds:P.underlying s=some (.pointer t)) (hdd:P.underlying d=some .unsafePointer) (hn:sizeOf? P t=some n) (hn0:n≠0)
 (hr:evOp call (.o2 (.cvp1 x')) fr e.h id=.ok v h'):OpS P o e a v h':=by
 have rx:=od_rel hf hg hx
 obtain⟨i,hi,hin⟩:=map_inv hn
 have hr:(match ev x' fr with
  |.p id off=>match e.h.get id with
   |some (.cs _ l _)=>cd (Nat.blt off (len l)) (.ok (.p id off) e.h) .no
   |_=>.no
  |_=>.no:R)=.ok v h':=hr
 generalize ev x' fr=u at hr rx
 split at hr
 ·rename_i j off
  split at hr
  ·rename_i el l fz hget
   rw[cd_eq,blt_nat,len_eq] at hr
   by_cases hlt:off<l.length
   case neg=>rw[Df hlt] at hr;cases hr
   rw[Dt hlt] at hr
   injection(show R.ok (.p j off) e.h=.ok v h' from hr) with h1 h2;subst h1 h2
   obtain⟨kn,hv⟩:=rel_p rx
   obtain⟨c,frz,hc1,hc2,_⟩:=hs.blk j _ hget
   have hsh:e.w.shape? (e.ρ j).1=some (el,c.size):=by simp[World.shape?,hc1]
   have hrun:=Lib.run_to_unsafe (P:=P) e.w ⟨(e.ρ j).1,(e.ρ j).2+off,none⟩ hds hdd hi (by rw[hin];exact hn0) hsh (by show(e.ρ j).2+off<c.size;omega)
   refine OpS.same hs (cv:=a.eval x) ?_ rx
   simp[execOp,ho,hv,hrun]
  ·cases hr
 ·cases hr
theorem sound_cvp2 {s d t:TypeId}{n:Nat}{x:Operand}{x':Od} (hs:St e) (hf:FrRel e fr a.tmps) (hg:GRel G e) (ho:o.op=.convert s d x)
 (hx:od G x=some x') (hds:P.underlying s=some .unsafePointer) (hdd:P.underlying d=some (.pointer t)) (hn:sizeOf? P t=some n) (hn0:n≠0)
 (hr:evOp call (.o2 (.cvp2 t n x')) fr e.h id=.ok v h'):OpS P o e a v h':=by
 have rx:=od_rel hf hg hx
 obtain⟨i,hi,hin⟩:=map_inv hn
 have hr:(match ev x' fr with
  |.p id off=>match e.h.get id with
   |some (.cs el l _)=>cd (Nat.beq el t) (cd (Nat.beq (Nat.mod off n) 0) (cd (Nat.ble (Nat.add off n) (len l)) (.ok (.p id off) e.h) .no) .no) .no
   |_=>.no
  |_=>.no:R)=.ok v h':=hr
 generalize ev x' fr=u at hr rx
 split at hr
 ·rename_i j off
  split at hr
  ·rename_i el l fz hget
   rw[cd_eq,beq_nat] at hr
   by_cases he:el=t
   case neg=>rw[Df he] at hr;cases hr
   rw[Dt he,if_pos rfl,cd_eq,beq_nat] at hr
   by_cases hm:Nat.mod off n=0
   case neg=>rw[Df hm] at hr;cases hr
   rw[Dt hm,if_pos rfl,cd_eq,ble_nat,len_eq] at hr
   by_cases hle:Nat.add off n≤l.length
   case neg=>rw[Df hle] at hr;cases hr
   rw[Dt hle] at hr
   injection(show R.ok (.p j off) e.h=.ok v h' from hr) with h1 h2;subst h1 h2
   subst he
   have hm:off % n=0:=hm
   have hle:off+n≤l.length:=hle
   obtain⟨kn,hv⟩:=rel_p rx
   obtain⟨c,frz,hc1,hc2,_,_,hz⟩:=hs.blk j _ hget
   have hsh:e.w.shape? (e.ρ j).1=some (el,c.size):=by simp[World.shape?,hc1]
   have hcel:P.cellsOf el=n:=by simp[Program.cellsOf,hi,hin]
   have hlies:liesAt P P.depth el (c.size / P.cellsOf el) off el 1=true:=by
    have hd:P.depth=(2*(P.types.size+Made.depth)+1)+1:=rfl
    rw[hd]
    simp only[liesAt,Bool.or_eq_true]
    left
    rw[hd]
    have h3:off / n+1≤c.size / n:=by
     rw[←Nat.add_div_right off om]
     exact Nat.div_le_div_right om
    simp[rowAt,hcel,hn0,hm,h3,sameLayout]
   have hrun:=Lib.run_from_unsafe (P:=P) e.w ⟨(e.ρ j).1,(e.ρ j).2+off,none⟩ hds hdd hi hsh (by show liesAt P P.depth el (c.size / P.cellsOf el) ((e.ρ j).2+off) el 1=true;rw[hz,Nat.zero_add];exact hlies)
   refine OpS.same hs (cv:=a.eval x) ?_ rx
   simp[execOp,ho,hv,hrun]
  ·cases hr
 ·cases hr
end
end Go.Ev
namespace Go.Ev
theorem freeze_qt (w:World) (a:Addr) (n:Nat):Qt w (w.freeze a n):=by
 unfold World.freeze
 refine⟨?_,?_,?_⟩<;>(first|rfl|(split<;>rfl))
theorem turn_ext {e:Env}{id:Id}{b:Blk} (hid:e.h.get id=some b) (hd:b≠.dead){b':Blk} (hd':b'≠.dead){w':World} (hsz:w'.heap.size=e.w.heap.size)
 (hother:∀k,k≠(e.ρ id).1→w'.heap[k]? =e.w.heap[k]?) (hb:bsize w' (e.ρ id).1=bsize e.w (e.ρ id).1) (q:Qt e.w w'):Ext e ⟨e.ρ,e.h.put id b',w',e.F⟩ where
 qt:=q
 next:=Nr _
 kn:=fun _ h=>h
 ren:=fun _ _=>rfl
 fr:=rfl
 heap:=by show _≤w'.heap.size;omega
 keep:=fun k _ ho=>hother k (fun h=>ho ⟨id,⟨b,hid,hd⟩,h.symm⟩)
 size:=fun k _=>by
  by_cases h:k=(e.ρ id).1
  ·rw[h];exact hb
  ·exact bsize_congr (hother k h)
 own:=fun k _ ⟨j,⟨c,hc',hd''⟩,hj⟩=>by
  have hc':(e.h.put id b').get j=some c:=hc'
  rw[H.get_put] at hc'
  by_cases h:j=id
  ·subst h;exact⟨j,⟨_,hid,hd⟩,hj⟩
  ·rw[if_neg h] at hc'
   exact⟨j,⟨c,hc',hd''⟩,hj⟩
 pres:=put_pres _ _ _
 newk:=fun _ h=>.inl h
theorem turn_st {e:Env} (hs:St e){id:Id}{b:Blk} (hid:e.h.get id=some b) (hd:b≠.dead){b':Blk} (hd':b'≠.dead){w':World} (hsz:w'.heap.size=e.w.heap.size)
 (hother:∀k,k≠(e.ρ id).1→w'.heap[k]? =e.w.heap[k]?) (hb:bsize w' (e.ρ id).1=bsize e.w (e.ρ id).1) (q:Qt e.w w')
 (hrel:BlkRel ⟨e.ρ,e.h.put id b',w',e.F⟩ id b'):St ⟨e.ρ,e.h.put id b',w',e.F⟩:=by
 refine St.next hs (turn_ext hid hd hd' hsz hother hb q) id ?_ ?_ (fun _ _=>rfl) ⟨hs.dk id _ hid,hs.num hid,⟨b',?_⟩⟩ ?_ ?_
 ·intro b2 hb'
  have hb':(e.h.put id b').get id=some b2:=hb'
  rw[H.get_put,if_pos rfl] at hb'
  obtain rfl:=Oi hb'
  exact hrel
 ·intro j h
  show(e.h.put id _).get j=_
  rw[H.get_put,if_neg h]
 ·show(e.h.put id _).get id=_
  rw[H.get_put,if_pos rfl]
 ·intro j hj l2
  apply hother
  intro h
  exact hj (hs.inj j id l2 ⟨_,hid,hd⟩ h)
 ·intro _ j hj l2 h
  exact hj (hs.inj j id l2 ⟨_,hid,hd⟩ h)
section
variable {P:Program}{G:Gs}{o:Oper}{e:Env}{a:Act}{fr:T AV}{call:CallF}{id:Nat}{ao:AOp}{v:AV}{h':H}
theorem sound_usd {c:Call}{x':Od} (hs:St e) (hf:FrRel e fr a.tmps) (hg:GRel G e) (ho:o.op=.call c) (hb:c.callee=.builtin .unsafeSliceData)
 (hx:ods G c.args.toList=some [x']) (hr:evOp call (.o2 (.usd x')) fr e.h id=.ok v h'):OpS P o e a v h':=by
 obtain⟨x,hxs,hx⟩:=ods_one hx
 have rx:=od_rel hf hg hx
 have hr:(match ev x' fr with
  |.v (.slice none 0 0)=>.ok (.v (.pointer none)) e.h
  |.sl id off _ n _ _=>cd (Nat.beq n 0) .no (.ok (.p id off) e.h)
  |_=>.no:R)=.ok v h':=hr
 generalize ev x' fr=u at hr rx
 split at hr
 ·injection hr with h1 h2;subst h1 h2
  simp only[Rel] at rx
  have hrun:=Lib.run_unsafeSliceData_nil (P:=P) e.w c.argTypes o.type 0 0
  refine OpS.same hs (cv:=.pointer none) ?_ (by simp[Rel,nilish])
  rw[run_exec_builtin ho hb,hxs]
  simp[builtin,rx.1,hrun]
 ·rename_i j off sz n lo ex
  rw[cd_eq,beq_nat] at hr
  by_cases h0:n=0
  ·rw[Dt h0] at hr;cases hr
  rw[Df h0] at hr
  injection(show R.ok (.p j off) e.h=.ok v h' from hr) with h1 h2;subst h1 h2
  simp only[Rel] at rx
  obtain⟨kn,ad,cap,hv,h1,h2,h3,h4⟩:=rx
  have hcap:cap≠0:=om
  obtain⟨rfl,_⟩:=h4.resolve_left hcap
  have hrun:=Lib.run_unsafeSliceData_row (P:=P) e.w c.argTypes o.type ⟨(e.ρ j).1,(e.ρ j).2+off,none⟩ n cap hcap
  refine OpS.same hs (cv:=.pointer (some ⟨(e.ρ j).1,(e.ρ j).2+off,none⟩)) ?_ (by simp[Rel,kn])
  rw[run_exec_builtin ho hb,hxs]
  simp[builtin,hv,hrun]
 ·cases hr
theorem bytesOfCells_inv:∀{cs:List AV}{bs:List Nat},bytesOfCells cs=some bs→cs=bs.map (fun c=>.i .u8 (.ofNat c))∧∀c∈bs,c<256
 |[],bs,h=>by
  have h:bs=[]:=(Oi (show some []=some bs from h)).symm
  subst h;exact⟨rfl,by simp⟩
 |x::cs,bs,h=>by
  have h:(match(generalizing:=false) x with
   |.i .u8 (.ofNat n)=>cd (Nat.blt n 256) (Option.rec none (fun r=>some (n::r)) (bytesOfCells cs)) none
   |_=>none:Option (List Nat))=some bs:=h
  split at h
  ·rename_i n _
   obtain⟨h1,h⟩:=cd_some h
   rw[blt_nat] at h1
   have h1:n<256:=of_decide_eq_true h1
   cases hb:bytesOfCells cs with
   |none=>rw[hb] at h;cases h
   |some r=>
    rw[hb] at h
    obtain rfl:=Oi (show some (n::r)=some bs from h)
    obtain⟨h2,h3⟩:=bytesOfCells_inv hb
    rw[h2]
    refine⟨rfl,fun c hc=>?_⟩
    rcases List.mem_cons.1 hc with rfl|hc
    ·exact h1
    ·exact h3 c hc
  ·cases h
theorem freeze_at {w:World}{g n:Nat}{c:Array Value}{el:TypeId}{frz:Nat×Nat} (hg:w.heap[g]? =some (.cells c el frz)):
 (w.freeze ⟨g,0,none⟩ n).heap.size=w.heap.size∧(∀k,k≠g→(w.freeze ⟨g,0,none⟩ n).heap[k]? =w.heap[k]?)∧∃frz',(w.freeze ⟨g,0,none⟩ n).heap[g]? =some (.cells c el frz'):=by
 unfold World.freeze
 split
 ·exact⟨rfl,fun _ _=>rfl,frz,hg⟩
 ·refine⟨by simp,fun k hk=>by simp[Array.getElem?_modify,Ne.symm hk],?_⟩
  obtain⟨lo,hi⟩:=frz
  simp[Array.getElem?_modify,hg]
theorem sound_ust {c:Call}{x' y':Od}{t el:TypeId} (hs:St e) (hf:FrRel e fr a.tmps) (hg:GRel G e) (ho:o.op=.call c) (hb:c.callee=.builtin .unsafeString)
 (hx:ods G c.args.toList=some [x',y']) (ht:c.argTypes[0]? =some t) (hts:c.argTypes.size=2) (hd:P.underlying t=some (.pointer el)) (hsz:sizeOf? P el=some 1)
 (hr:evOp call (.o2 (.ust el x' y')) fr e.h id=.ok v h'):OpS P o e a v h':=by
 obtain⟨x,y,hxs,hx,hy⟩:=ods_two hx
 have rx:=od_rel hf hg hx
 have ry:=od_rel hf hg hy
 obtain⟨it,hit⟩:∃it,c.argTypes=#[t,it]:=by
  generalize c.argTypes=ts at ht hts
  obtain⟨l⟩:=ts
  match l,ht,hts with
  |[p,q],ht,_=>simp at ht;exact⟨q,by rw[ht]⟩
 have hr:(match ev y' fr with
  |.i .i64 (.ofNat 0)=>match ev x' fr with
   |.p _ _=>.ok (.s 0 []) e.h
   |.v (.pointer none)=>.ok (.s 0 []) e.h
   |_=>.no
  |.i .i64 (.ofNat n)=>match ev x' fr with
   |.p id 0=>match e.h.get id with
    |some (.cs el' l _)=>cd (Nat.beq el' el) (match cut l 0 n with
     |some cs=>match bytesOfCells cs with
      |some bs=>cd (Nat.ble n 1099511627776) (.ok (.s n bs) (e.h.put id (.cs el' l true))) .no
      |none=>.no
     |none=>.no) .no
    |_=>.no
   |_=>.no
  |_=>.no:R)=.ok v h':=hr
 generalize ev y' fr=uy at hr ry
 generalize ev x' fr=ux at hr rx
 have hnone:∀p,a.eval x=.pointer p→a.eval y=.int .i64 0→OpS P o e a (.s 0 []) e.h:=by
  intro p hp hy0
  have hrun:=Lib.run_unsafeString_none (P:=P) e.w t it o.type p
  refine OpS.same hs (cv:=.string .empty) ?_ (by simp only[Rel];exact⟨⟨rfl,om⟩,by simp,rfl⟩)
  rw[run_exec_builtin ho hb,hxs,hit]
  simp[builtin,hp,hy0,hrun]
 split at hr
 ·have ry:=rel_i ry
  split at hr
  ·injection hr with h1 h2;subst h1 h2
   exact hnone _ (rel_p rx).2 ry
  ·injection hr with h1 h2;subst h1 h2
   simp only[Rel] at rx
   exact hnone _ rx.1 ry
  ·cases hr
 ·rename_i n hn0
  have ry:=rel_i ry
  split at hr
  ·rename_i j
   split at hr
   ·rename_i el' l fz hget
    rw[cd_eq,beq_nat] at hr
    by_cases he:el'=el
    case neg=>rw[Df he] at hr;cases hr
    rw[Dt he,if_pos rfl] at hr
    split at hr
    ·rename_i cs hcut
     split at hr
     ·rename_i bs hbs
      rw[cd_eq,ble_nat] at hr
      by_cases hle:n≤1099511627776
      case neg=>rw[Df hle] at hr;cases hr
      rw[Dt hle] at hr
      injection(show R.ok (.s n bs) (e.h.put j (.cs el' l true))=.ok v h' from hr) with h1 h2;subst h1 h2
      subst he
      obtain⟨kn,hv⟩:=rel_p rx
      obtain⟨cc,frz,hc1,hc2,hc3,_,hz⟩:=hs.blk j _ hget
      obtain⟨hcl,hcg⟩:=cut_get hcut
      obtain⟨hcs,h256⟩:=bytesOfCells_inv hbs
      have hbl:bs.length=n:=by rw[←hcl,hcs];simp
      have hn':n≠0:=fun h=>hn0 (by rw[h])
      have hlen:n≤l.length:=by have:=cut_le hcut om;omega
      have hcell:∀(k b:Nat),bs[k]? =some b→cc[k]? =some (Value.int .u8 (b:Int)):=by
       intro k b hk
       have hkn:k<n:=by rw[←hbl];exact(List.getElem?_eq_some_iff.1 hk).1
       have h1:cs[k]? =some (.i .u8 (.ofNat b)):=by rw[hcs,List.getElem?_map,hk];rfl
       rw[hcg k hkn,Nat.zero_add] at h1
       obtain⟨_,u,hu,hru⟩:=hc3 k _ h1
       rw[hz,Nat.zero_add] at hu
       rw[hu,rel_i hru];rfl
      have hsh:e.w.shape? (e.ρ j).1=some (el',cc.size):=by simp[World.shape?,hc1]
      have hcel:P.cellsOf el'=1:=by
       obtain⟨i,hi,hin⟩:=map_inv hsz
       simp[Program.cellsOf,hi,hin]
      have hrun:=Lib.run_unsafeString_row (P:=P) e.w t it o.type el' hd hcel (e.ρ j).1 cc.size hsh (bs.map UInt8.ofNat) (by intro h;apply hn';rw[←hbl];simpa using h)
       (by simp;omega) (by simp;omega) (fun k u hk=>by
        rw[Addr.add_none,Nat.zero_add,cell_of_row _ _ _ _ _ _ hc1]
        rw[List.getElem?_map] at hk
        cases hb:bs[k]? with
        |none=>rw[hb] at hk;cases hk
        |some b=>
         rw[hb] at hk
         obtain rfl:=Oi (show some (UInt8.ofNat b)=some u from hk)
         rw[toNat_ofNat (h256 b (List.mem_of_getElem? hb))]
         exact hcell k b hb)
      obtain⟨f1,f2,frz',f3⟩:=freeze_at (n:=(bs.map UInt8.ofNat).length) hc1
      have hbs':bsize (e.w.freeze ⟨(e.ρ j).1,0,none⟩ (bs.map UInt8.ofNat).length) (e.ρ j).1=bsize e.w (e.ρ j).1:=by
       unfold bsize;rw[f3,hc1]
      have hx':=turn_ext (b':=.cs el' l true) hget (by simp) (by simp) f1 f2 hbs' (freeze_qt _ _ _)
      have hst':=turn_st (b':=.cs el' l true) hs hget (by simp) (by simp) f1 f2 hbs' (freeze_qt _ _ _) ⟨cc,frz',f3,hc2,fun k y hy=>by
       obtain⟨h1,u,hu,hru⟩:=hc3 k y hy
       exact⟨h1,u,hu,Rel.ext hx' _ _ hru⟩,fun h=>absurd h (by simp),hz⟩
      refine OpS.value (cv:=.string (strOf bs)) ?_ _ hst' hx' (by simp only[Rel];exact⟨⟨hbl.symm,om⟩,h256,trivial⟩)
      have hzv:a.eval x=.pointer (some ⟨(e.ρ j).1,0,none⟩):=by rw[hv,hz]
      have hyv:a.eval y=.int .i64 (((bs.map UInt8.ofNat).length:Nat):Int):=by rw[ry,Lm,hbl];rfl
      rw[run_exec_builtin ho hb,hxs,hit]
      have harr:(#[x,y]:Array Operand).map a.eval=#[.pointer (some ⟨(e.ρ j).1,0,none⟩),Value.int .i64 (((bs.map UInt8.ofNat).length:Nat):Int)]:=by
       rw[←hzv,←hyv];simp
      rw[harr]
      simp only[builtin,Sem.run_bind,hrun]
      rfl
     ·cases hr
    ·cases hr
   ·cases hr
  ·cases hr
 ·cases hr
end
end Go.Ev
namespace Go.Ev
section
variable {P:Program}{G:Gs}{o:Oper}{e:Env}{a:Act}{fr:T AV}{call:CallF}{id:Nat}{ao:AOp}{v:AV}{h':H}
theorem sound_clr {c:Call}{x':Od}{t el:TypeId}{sz:Nat}{z:List AV} (hs:St e) (hf:FrRel e fr a.tmps) (hg:GRel G e) (ho:o.op=.call c) (hb:c.callee=.builtin .clear)
 (hx:ods G c.args.toList=some [x']) (ht:c.argTypes[0]? =some t) (hd:elemOf? P t=some el) (hz:zeroOf P el=some z) (hzl:z.length=sz) (hsz0:sz≠0)
 (hr:evOp call (.o2 (.clr sz z x')) fr e.h id=.ok v h'):OpS P o e a v h':=by
 obtain⟨x,hxs,hx⟩:=ods_one hx
 have rx:=od_rel hf hg hx
 have hu:=elem_inv hd
 have none0:∀b m,a.eval x=.slice b 0 m→OpS P o e a undefA e.h:=by
  intro b m hv
  refine OpS.same hs (cv:=.tuple #[]) ?_ (rel_undef e)
  rw[run_exec_builtin ho hb,hxs]
  cases b<;>simp[builtin,Builtin.clear_,ht,run_underlying hu,hv]
 have hr:(match ev x' fr with
  |.sl id off _ n _ _=>cd (Nat.beq n 0) (.ok undefA e.h) (Option.rec .no (fun h'=>.ok undefA h') (storeAt (.p id off) (repl n z) e.h))
  |.em=>.ok undefA e.h
  |.v (.slice none 0 0)=>.ok undefA e.h
  |_=>.no:R)=.ok v h':=hr
 generalize ev x' fr=u at hr rx
 split at hr
 ·rename_i j off sz' n lo ex
  rw[cd_eq,beq_nat] at hr
  simp only[Rel] at rx
  obtain⟨kn,ad,cap,hv,h1,h2,h3,h4⟩:=rx
  by_cases h0:n=0
  ·rw[Dt h0] at hr
   injection(show R.ok undefA e.h=.ok v h' from hr) with h1 h2;subst h1 h2
   subst h0
   exact none0 _ _ hv
  ·rw[Df h0] at hr
   have hr:(Option.rec .no (fun h'=>.ok undefA h') (storeAt (.p j off) (repl n z) e.h):R)=.ok v h':=by simpa using hr
   cases hst:storeAt (.p j off) (repl n z) e.h with
   |none=>rw[hst] at hr;cases hr
   |some h2=>
    rw[hst] at hr
    injection(show R.ok undefA h2=.ok v h' from hr) with h1 h3;subst h1 h3
    have hcap:cap≠0:=om
    obtain⟨rfl,_⟩:=h4.resolve_left hcap
    obtain⟨i,zv,hi,hzv,hzs⟩:=zero_inv hz
    obtain⟨hzr,hzo⟩:=rel_avOfs (e:=e) hzs
    have hzl2:zv.cells.size=sz:=by have:=hzr.len;simp at this;omega
    have hne:repl n z≠[]:=by
     intro h
     have:=repl_len z n
     rw[h,hzl,Ln] at this
     have:=Nat.mul_pos (show 0<n by omega) (show 0<sz by omega)
     omega
    have hp:Rel e (.p j off) (.pointer (some ⟨(e.ρ j).1,(e.ρ j).2+off,none⟩)):=by simp[Rel,kn]
    obtain⟨ad,w',hcv,hrun,hst',hx'⟩:=store_both (P:=P) hs hp (repl_rel hzr n) (fun y hy=>hzo y (repl_mem z n y hy)) hst hne
    injection hcv with hcv
    injection hcv with hcv
    subst hcv
    refine OpS.value (cv:=.tuple #[]) (w':=w') ?_ e.ρ hst' hx' (rel_undef _)
    rw[run_exec_builtin ho hb,hxs]
    have hzc:(Builtin.zeroCells zv.cells n).toList=rep n zv.cells.toList:=by
     unfold Builtin.zeroCells
     exact rep_array zv.cells n _ om rfl
    obtain⟨n',rfl⟩:∃n',n=n'+1:=⟨n - 1,om⟩
    simp[builtin,Builtin.clear_,ht,run_underlying hu,hv,zeroValue,run_info hi,hzv,hzc,hrun]
 ·injection hr with h1 h2;subst h1 h2
  simp only[Rel] at rx
  obtain⟨ad,hv⟩:=rx
  exact none0 _ _ hv
 ·injection hr with h1 h2;subst h1 h2
  simp only[Rel] at rx
  exact none0 _ _ rx.1
 ·cases hr
theorem keyKind_inv {t:TypeId}{kd:Nat} (h:keyKind P t=some kd):(∃k,P.underlying t=some (.int k)∧kd=0)∨(P.underlying t=some .string∧kd=1)∨(∃fs,P.underlying t=some (.struct fs)∧kd=2∧flatKs P fs.toList 0=some [3,3]∧P.stoodInHeld t=false):=by
 unfold keyKind at h
 obtain⟨d,hd,h⟩:=bind_inv h
 split at h
 ·cases h;exact .inl ⟨_,hd,rfl⟩
 ·cases h;exact .inr (.inl ⟨hd,rfl⟩)
 ·rename_i fs
  by_cases hc:flatKs P fs.toList 0=some [3,3]∧P.stoodInHeld t=false
  ·rw[if_pos hc] at h;cases h;exact .inr (.inr ⟨fs,hd,rfl,hc.1,hc.2⟩)
  ·rw[if_neg hc] at h;cases h
 ·cases h
theorem flat33 {fs:List Field} (h:flatKs P fs 0=some [3,3]):∃f g,fs=[f,g]∧f.name≠ "_" ∧g.name≠ "_" ∧f.offset=0∧g.offset=1∧P.underlying f.type=some .string∧P.underlying g.type=some .string:=by
 have key:∀(fs:List Field) (i:Nat) (ks:List Nat),flatKs P fs i=some (3::ks)→∃f r,fs=f::r∧f.name≠ "_" ∧f.offset=i∧P.underlying f.type=some .string∧flatKs P r (i+1)=some ks:=by
  intro fs i ks h
  cases fs with
  |nil=>cases h
  |cons f r=>
   unfold flatKs at h
   split at h
   case isFalse=>cases h
   case isTrue hc=>
    rw[Bool.and_eq_true] at hc
    split at h
    ·obtain⟨_,_,h⟩:=map_inv h;cases h
    ·obtain⟨_,_,h⟩:=map_inv h;cases h
    ·rename_i hu
     obtain⟨ks',h1,h2⟩:=map_inv h
     injection h2 with _ h2
     subst h2
     exact⟨f,r,rfl,by simpa using hc.1,Nq hc.2,hu,h1⟩
    ·cases h
 obtain⟨f,r,rfl,h1,h2,h3,h4⟩:=key fs 0 [3] h
 obtain⟨g,r',rfl,h5,h6,h7,h8⟩:=key r 1 [] h4
 cases r' with
 |nil=>exact⟨f,g,rfl,h1,h5,h2,h6,h3,h7⟩
 |cons x r'=>
  unfold flatKs at h8
  split at h8
  ·split at h8<;>first|(obtain⟨_,_,h⟩:=map_inv h8;cases h;done)|(cases h8;done)
  ·cases h8
def isAg2:Value→Prop
 |.agg cs=>∃u v,cs[0]? =some u∧cs[1]? =some v
 |_=>False
theorem run_checkKey {t:TypeId}{kd:Nat} (h:keyKind P t=some kd) (b:Bool) (n:Nat) (v:Value) (hv:kd=2→isAg2 v) (w:World):(Instr.checkKey b (n+2) t v).run P w=.ok () w:=by
 rcases keyKind_inv h with ⟨k,h,_⟩|⟨h,_⟩|⟨fs,h,hk,hfl,_⟩
 ·simp[Instr.checkKey,run_underlying h]
 ·simp[Instr.checkKey,run_underlying h]
 ·have hv:=hv hk
  cases v<;>try exact hv.elim
  rename_i cs _
  obtain⟨u,v,h1,h2⟩:=hv
  obtain⟨f,g,e1,n1,n2,o1,o2,u1,u2⟩:=flat33 hfl
  have hfs:fs=#[f,g]:=by rw[←Array.toArray_toList (xs:=fs),e1]
  have a1:isAgg? P f.type=some false:=by simp[isAgg?,u1,isAggD]
  have a2:isAgg? P g.type=some false:=by simp[isAgg?,u2,isAggD]
  have p1:(part f.type cs f.offset).run P w=.ok u w:=by simp[part,run_isAgg a1,o1,h1]
  have p2:(part g.type cs g.offset).run P w=.ok v w:=by simp[part,run_isAgg a2,o2,h2]
  subst hfs
  simp[Instr.checkKey,run_underlying h,n1,n2,p1,p2,run_underlying u1,run_underlying u2]
def KD (kd:Nat) (d:TypeDesc):Prop:=(kd=0∧∃k,d=.int k)∨(kd=1∧d=.string)
theorem eqK_same {kd:Nat}{d:TypeDesc} (hk:KD kd d){x y:AV}{cx cy:Value}{b:Bool} (hx:Rel e x cx) (hy:Rel e y cy) (h:eqK kd x y=some b):
 Instr.sameNow d cx cy=some b∧(b=true→Instr.sameBits 10000 cy cx=true):=by
 unfold eqK at h
 split at h
 ·rename_i k m k' n
  obtain⟨h1,h⟩:=cd_some h
  obtain⟨h2,h⟩:=cd_some h
  obtain rfl:=Oi h
  have h1:=beq_true h1
  rw[kEq_eq] at h2
  have h2:k=k':=of_decide_eq_true h2
  subst h1 h2
  rcases hk with ⟨_,k2,rfl⟩|⟨h,_⟩
  ·rw[rel_i hx,rel_i hy,iEq_eq]
   refine⟨by simp[Instr.sameNow];rfl,fun h=>?_⟩
   have h:m=n:=of_decide_eq_true h
   subst h;simp[Instr.sameBits]
  ·cases h
 ·rename_i n l m l'
  obtain⟨h1,h⟩:=cd_some h
  obtain rfl:=Oi h
  have h1:=beq_true h1
  subst h1
  rcases hk with ⟨h,_⟩|⟨_,rfl⟩
  ·cases h
  ·obtain⟨_,hb1,rfl⟩:=rel_s hx
   obtain⟨_,hb2,rfl⟩:=rel_s hy
   rw[sEq_eq]
   have key:(strOf l==strOf l')=decide (l=l'):=by
    rw[beq_toListBytes];exact strOf_eq_iff hb1 hb2
   refine⟨by simp only[Instr.sameNow,key],fun h=>?_⟩
   have h:l=l':=of_decide_eq_true h
   subst h
   rw[Dt rfl] at key
   simp only[Instr.sameBits,key]
 ·obtain⟨h1,h⟩:=cd_some h
  have h1:=beq_true h1
  subst h1
  rcases hk with ⟨h,_⟩|⟨h,_⟩<;>cases h
 ·cases h
theorem mfind_cons (kd:Nat) (k:AV) (p:AV×AV) (r:List (AV×AV)):mfind kd k (p::r)=(match eqK kd k p.1 with
 |some true=>some (some p.2)
 |some false=>mfind kd k r
 |none=>none):=rfl
theorem mset_cons (kd:Nat) (k v:AV) (p:AV×AV) (r:List (AV×AV)):mset kd k v (p::r)=(match eqK kd k p.1 with
 |some true=>(k,v)::r
 |_=>p::mset kd k v r):=rfl
theorem mfind_rel {kd:Nat}{d:TypeDesc} (hk:KD kd d){k:AV}{ck:Value} (hrk:Rel e k ck) (nv:AV):∀{es:List (AV×AV)}{ms:List MapEntry}{r:Option AV} (i:Nat),EntRel e es ms→mfind kd k es=some r→
 (r=none∧Instr.findNow d ck ms i=some none∧mset kd k nv es=es++[(k,nv)])∨
 (∃x j m,r=some x∧ms[j]? =some m∧Rel e x m.val∧Instr.findNow d ck ms i=some (some (i+j,m.val))∧Instr.sameBits 10000 m.key ck=true∧mset kd k nv es=es.set j (k,nv)∧j<es.length)
 |[],[],r,i,_,h=>by
  obtain rfl:none=r:=Oi (show some none=some r from h)
  exact .inl ⟨rfl,rfl,rfl⟩
 |[],_::_,_,_,h,_=>h.elim
 |(_,_)::_,[],_,_,h,_=>h.elim
 |(pk,pv)::es,m::ms,r,i,he,h=>by
  rw[mfind_cons] at h
  rw[mset_cons]
  cases hq:eqK kd k pk with
  |none=>simp only[hq] at h;cases h
  |some b=>
   obtain⟨h1,h2⟩:=eqK_same hk hrk he.1 hq
   cases b with
   |true=>
    simp only[hq] at h
    obtain rfl:=Oi h
    refine .inr ⟨pv,0,m,rfl,rfl,he.2.1,by simp[Instr.findNow,h1],h2 rfl,by simp,by simp⟩
   |false=>
    simp only[hq] at h
    rcases mfind_rel hk hrk nv (i+1) he.2.2 h with ⟨h3,h4,h5⟩|⟨x,j,m',h3,h4,h5,h6,h7,h8,h9⟩
    ·exact .inl ⟨h3,by simp[Instr.findNow,h1,h4],by simp[h5]⟩
    ·refine .inr ⟨x,j+1,m',h3,by simpa using h4,h5,?_,h7,by simp[h8],by simp;omega⟩
     simp only[Instr.findNow,h1,h6]
     rw[show i+1+j=i+(j+1) by omega]
theorem keyKind_KD {t:TypeId}{kd:Nat} (h:keyKind P t=some kd) (hn2:kd≠2):∃d,P.underlying t=some d∧KD kd d:=by
 rcases keyKind_inv h with ⟨k,h2,rfl⟩|⟨h2,rfl⟩|⟨fs,_,rfl,_⟩
 ·exact⟨_,h2,by unfold KD;exact .inl ⟨rfl,k,rfl⟩⟩
 ·exact⟨_,h2,by unfold KD;exact .inr ⟨rfl,rfl⟩⟩
 ·exact absurd rfl hn2
theorem eqK_ag {x y:AV}{b:Bool} (h:eqK 2 x y=some b):∃xs ys,x=.ag xs∧y=.ag ys∧eqL [3,3] xs ys=some b:=by
 unfold eqK at h
 split at h
 ·obtain⟨h1,_⟩:=cd_some h;cases h1
 ·obtain⟨h1,_⟩:=cd_some h;cases h1
 ·obtain⟨_,h⟩:=cd_some h;exact⟨_,_,rfl,rfl,h⟩
 ·cases h
theorem eqK_run {t:TypeId} (h0:keyKind P t=some 2){x y:AV}{cx cy:Value}{b:Bool} (hx:Rel e x cx) (hy:Rel e y cy) (h:eqK 2 x y=some b) (w:World):(Op.equal t cx cy).run P w=.ok b w:=by
 rcases keyKind_inv h0 with ⟨_,_,h⟩|⟨_,h⟩|⟨fs,hd,_,hfl,hst⟩
 ·cases h
 ·cases h
 ·obtain⟨xs,ys,rfl,rfl,hq⟩:=eqK_ag h
  simp only[Rel] at hx hy
  obtain⟨_,vx,rfl,rx⟩:=hx
  obtain⟨_,vy,rfl,ry⟩:=hy
  have hfo:P.fieldsOf t=fs:=by simp[Program.fieldsOf,hd]
  show(Op.equalIn 10000 t (.agg vx) (.agg vy)).run P w=.ok b w
  rw[run_equalIn_agg w 9999 t vx vy (by rw[hfo];exact hd) hst,hfo]
  exact run_eqFields 9998 w fs.toList 0 [3,3] xs ys b hfl (fun j z hz=>by obtain⟨u,h1,h2⟩:=rx.get hz;exact⟨u,by simpa using h1,h2⟩) (fun j z hz=>by obtain⟨u,h1,h2⟩:=ry.get hz;exact⟨u,by simpa using h1,h2⟩) hq
theorem asking_rel {t:TypeId} (h0:keyKind P t=some 2){k:AV}{ck:Value} (hrk:Rel e k ck) (nv:AV) (w:World):∀{es:List (AV×AV)}{ms:List MapEntry}{r:Option AV} (i:Nat),EntRel e es ms→mfind 2 k es=some r→
 (r=none∧(Instr.findAsking t ck ms i).run P w=.ok none w∧mset 2 k nv es=es++[(k,nv)])∨
 (∃x j m,r=some x∧ms[j]? =some m∧Rel e x m.val∧(Instr.findAsking t ck ms i).run P w=.ok (some (i+j,m.val)) w)
 |[],[],r,i,_,h=>by
  obtain rfl:none=r:=Oi (show some none=some r from h)
  exact .inl ⟨rfl,rfl,rfl⟩
 |[],_::_,_,_,h,_=>h.elim
 |(_,_)::_,[],_,_,h,_=>h.elim
 |(pk,pv)::es,m::ms,r,i,he,h=>by
  rw[mfind_cons] at h
  rw[mset_cons]
  cases hq:eqK 2 k pk with
  |none=>simp only[hq] at h;cases h
  |some b=>
   have h1:=eqK_run h0 hrk he.1 hq w
   cases b with
   |true=>
    simp only[hq] at h
    obtain rfl:=Oi h
    exact .inr ⟨pv,0,m,rfl,rfl,he.2.1,by simp[Instr.findAsking,h1]⟩
   |false=>
    simp only[hq] at h
    rcases asking_rel h0 hrk nv w (i+1) he.2.2 h with ⟨h3,h4,h5⟩|⟨x,j,m',h3,h4,h5,h6⟩
    ·exact .inl ⟨h3,by simp[Instr.findAsking,h1,h4],by simp[h5]⟩
    ·refine .inr ⟨x,j+1,m',h3,by simpa using h4,h5,?_⟩
     simp only[Instr.findAsking,Sem.run_bind,h1,Result.andThen_ok,Bool.false_eq_true,if_false,h6]
     rw[show i+1+j=i+(j+1) by omega]
theorem find_rel {t:TypeId}{kd:Nat} (h0:keyKind P t=some kd){k:AV}{ck:Value} (hrk:Rel e k ck) (nv:AV) (w:World){es:List (AV×AV)}{ms:List MapEntry}{r:Option AV} (he:EntRel e es ms) (h:mfind kd k es=some r):
 (r=none∧(Instr.findKey t ck ms).run P w=.ok none w∧mset kd k nv es=es++[(k,nv)])∨
 (∃x j m,r=some x∧ms[j]? =some m∧Rel e x m.val∧(Instr.findKey t ck ms).run P w=.ok (some (j,m.val)) w∧(kd=2∨(Instr.sameBits 10000 m.key ck=true∧mset kd k nv es=es.set j (k,nv)∧j<es.length))):=by
 by_cases h2:kd=2
 ·subst h2
  have hu:∃fs,P.underlying t=some (.struct fs):=by
   rcases keyKind_inv h0 with ⟨_,_,h⟩|⟨_,h⟩|⟨fs,hd,_⟩
   ·cases h
   ·cases h
   ·exact⟨fs,hd⟩
  obtain⟨fs,hd⟩:=hu
  have hfk:∀rr,(Instr.findAsking t ck ms 0).run P w=.ok rr w→(Instr.findKey t ck ms).run P w=.ok rr w:=fun rr hrr=>by
   cases ms with
   |nil=>
    have:rr=none:=by
     have h1:(Instr.findAsking t ck [] 0).run P w=.ok none w:=rfl
     rw[h1] at hrr;injection hrr with h2 _;exact h2.symm
    subst this
    simp[Instr.findKey,run_underlying hd,Instr.findNow]
   |cons m ms=>
    have:Instr.findNow (.struct fs) ck (m::ms) 0=none:=by simp[Instr.findNow,Instr.sameNow]
    simp[Instr.findKey,run_underlying hd,this,hrr]
  rcases asking_rel h0 hrk nv w 0 he h with ⟨h3,h4,h5⟩|⟨x,j,m,h3,h4,h5,h6⟩
  ·exact .inl ⟨h3,hfk _ h4,h5⟩
  ·exact .inr ⟨x,j,m,h3,h4,h5,by rw[Nat.zero_add] at h6;exact hfk _ h6,.inl rfl⟩
 ·obtain⟨dk,hdk,hKD⟩:=keyKind_KD h0 h2
  rcases mfind_rel hKD hrk nv 0 he h with ⟨h3,h4,h5⟩|⟨x,j,m,h3,h4,h5,h6,h7,h8,h9⟩
  ·exact .inl ⟨h3,by simp[Instr.findKey,run_underlying hdk,h4],h5⟩
  ·rw[Nat.zero_add] at h6
   exact .inr ⟨x,j,m,h3,h4,h5,by simp[Instr.findKey,run_underlying hdk,h6],.inr ⟨h7,h8,h9⟩⟩
theorem mfindK_inv {kd:Nat}{k:AV}{es:List (AV×AV)}{r:Option AV} (h:mfindK kd k es=some r):mfind kd k es=some r∧(kd=2→∃a b,k=.ag [a,b]):=by
 obtain⟨h1,h2⟩:=cd_some h
 refine⟨h2,fun hk=>?_⟩
 subst hk
 clear h h2
 unfold okKey at h1
 split at h1
 ·exact⟨_,_,rfl⟩
 ·cases h1
theorem key_ag2 {k:AV}{ck:Value} (hrk:Rel e k ck) (h:∃a b,k=.ag [a,b]):isAg2 ck:=by
 obtain⟨a,b,rfl⟩:=h
 simp only[Rel] at hrk
 obtain⟨_,vs,rfl,hr⟩:=hrk
 obtain⟨u,h1,_⟩:=hr.get (j:=0) rfl
 obtain⟨v,h2,_⟩:=hr.get (j:=1) rfl
 exact⟨u,v,by simpa using h1,by simpa using h2⟩
theorem sound_lk {t:TypeId}{x ix:Operand}{ok:Bool} (hs:St e) (hf:FrRel e fr a.tmps) (hg:GRel G e) (ho:o.op=.lookup t x ix ok)
 (hc:compOp P G (.lookup t x ix ok)=some ao) (hr:evOp call ao fr e.h id=.ok v h'):OpS P o e a v h':=by
 simp only[compOp] at hc
 obtain⟨d,hd,hc⟩:=bind_inv hc
 split at hc
 ·rename_i kt et
  obtain⟨kd,hkd,hc⟩:=bind_inv hc
  obtain⟨z,hz,hc⟩:=bind_inv hc
  obtain⟨x',hx,hc⟩:=bind_inv hc
  obtain⟨i',hi,rfl⟩:=map_inv hc
  have rx:=od_rel hf hg hx
  have ri:=od_rel hf hg hi
  have hr:(match(match ev x' fr with
   |.v (.map none)=>some []
   |.m id=>match e.h.get id with
    |some (.mp es)=>some es
    |_=>none
   |_=>none) with
   |some es=>match mfindK kd (ev i' fr) es with
    |some r=>match Option.rec z (fun x=>x) r with
     |v=>.ok (cd ok (.tu [v,.b r.isSome]) v) e.h
    |none=>.no
   |none=>.no:R)=.ok v h':=hr
  split at hr
  ·rename_i es hes
   split at hr
   ·rename_i r hfind
    injection(show R.ok (cd ok (.tu [Option.rec z (fun x=>x) r,.b r.isSome]) (Option.rec z (fun x=>x) r)) e.h=.ok v h' from hr) with h1 h2;subst h2
    obtain⟨hfind,hk2⟩:=mfindK_inv hfind
    have hkv:kd=2→isAg2 (a.eval ix):=fun h=>key_ag2 ri (hk2 h)
    have hzv:∃inf zv,P.info? et=some inf∧inf.zero=some zv∧avOfAny zv=some z:=by
     unfold zeroAny at hz
     obtain⟨inf,hinf,hz⟩:=bind_inv hz
     obtain⟨zv,hzv,hz⟩:=bind_inv hz
     exact⟨inf,zv,hinf,hzv,hz⟩
    obtain⟨inf,zv,hinf,hzv,hza⟩:=hzv
    have relz:=rel_avOfAny (e:=e) hza
    have hents:∃ms:Array MapEntry,EntRel e es ms.toList∧((a.eval x=.map none∧ms=#[])∨∃r clock,a.eval x=.map (some r)∧e.w.heap[r]? =some (.map ms clock)):=by
     generalize ev x' fr=u at hes rx
     split at hes
     ·cases hes
      simp only[Rel] at rx
      exact⟨#[],trivial,.inl ⟨rx.1,rfl⟩⟩
     ·rename_i j
      split at hes
      ·rename_i es' hget
       cases hes
       simp only[Rel] at rx
       obtain⟨ms,clock,hm,hent⟩:=hs.blk _ _ hget
       exact⟨ms,hent,.inr ⟨_,clock,rx.2,hm⟩⟩
      ·cases hes
     ·cases hes
    obtain⟨ms,hent,hk⟩:=hents
    rcases find_rel hkd ri (.tu []) e.w hent hfind with ⟨rfl,h4,_⟩|⟨y,j,m,rfl,h3,h4,h5,_⟩
    ·have hrun:(Instr.lookup t (a.eval x) (a.eval ix) ok).run P e.w=.ok (if ok then .tuple #[zv,.bool false] else zv) e.w:=by
      rcases hk with ⟨hk,rfl⟩|⟨r,clock,hk,hm⟩
      ·have h4:(Instr.findKey kt (a.eval ix) []).run P e.w=.ok none e.w:=h4
       simp[Instr.lookup,run_underlying hd,hk,run_checkKey hkd _ 9998 _ hkv,h4,zeroValue,run_info hinf,hzv]
      ·simp[Instr.lookup,run_underlying hd,hk,run_getObj' (P:=P) hm,run_checkKey hkd _ 9998 _ hkv,h4,zeroValue,run_info hinf,hzv]
     refine OpS.same hs (cv:=if ok then .tuple #[zv,.bool false] else zv) (by simp[execOp,ho,hrun]) ?_
     rw[←h1]
     cases ok with
     |true=>exact(show Rel e (.tu [z,.b false]) _ by simp only[Rel];exact⟨#[zv,.bool false],rfl,by simp only[RelL];exact⟨relz,rfl,trivial⟩⟩)
     |false=>exact relz
    ·have hrun:(Instr.lookup t (a.eval x) (a.eval ix) ok).run P e.w=.ok (if ok then .tuple #[m.val,.bool true] else m.val) e.w:=by
      rcases hk with ⟨hk,rfl⟩|⟨r,clock,hk,hm⟩
      ·simp at h3
      ·simp[Instr.lookup,run_underlying hd,hk,run_getObj' (P:=P) hm,run_checkKey hkd _ 9998 _ hkv,h5]
     refine OpS.same hs (cv:=if ok then .tuple #[m.val,.bool true] else m.val) (by simp[execOp,ho,hrun]) ?_
     rw[←h1]
     cases ok with
     |true=>exact(show Rel e (.tu [y,.b true]) _ by simp only[Rel];exact⟨#[m.val,.bool true],rfl,by simp only[RelL];exact⟨h4,rfl,trivial⟩⟩)
     |false=>exact h4
   ·cases hr
  ·cases hr
 ·cases hc
theorem EntRel.set {k v:AV}{ck cv:Value} (hk:Rel e k ck) (hv:Rel e v cv):∀{es:List (AV×AV)}{ms:List MapEntry} (j:Nat),EntRel e es ms→
 EntRel e (es.set j (k,v)) (ms.modify j fun m=>{m with key:=ck,val:=cv})
 |[],[],_,_=>by simp[EntRel]
 |[],_::_,_,h=>h.elim
 |(_,_)::_,[],_,h=>h.elim
 |(_,_)::es,m::ms,0,h=>by simp[EntRel];exact⟨hk,hv,h.2.2⟩
 |(_,_)::es,m::ms,j+1,h=>by simp[EntRel];exact⟨h.1,h.2.1,EntRel.set hk hv j h.2.2⟩
theorem EntRel.push {k v:AV}{m:MapEntry} (hk:Rel e k m.key) (hv:Rel e v m.val):∀{es:List (AV×AV)}{ms:List MapEntry},EntRel e es ms→EntRel e (es++[(k,v)]) (ms++[m])
 |[],[],_=>by simp[EntRel];exact⟨hk,hv⟩
 |[],_::_,h=>h.elim
 |(_,_)::_,[],h=>h.elim
 |(_,_)::es,_::ms,h=>by simp[EntRel];exact⟨h.1,h.2.1,EntRel.push hk hv h.2.2⟩
theorem setObj_at {w:World}{r:Nat}{ms:Array MapEntry}{clock:Nat} (hm:w.heap[r]? =some (.map ms clock)) (ms':Array MapEntry) (c':Nat):
 ∃w',(setObj r (.map ms' c')).run P w=.ok () w'∧w'.heap.size=w.heap.size∧(∀k,k≠r→w'.heap[k]? =w.heap[k]?)∧w'.heap[r]? =some (.map ms' c')∧Qt w w':=by
 have hlt:r<w.heap.size:=(Array.getElem?_eq_some_iff.1 hm).1
 refine⟨{w with heap:=w.heap.setIfInBounds r (.map ms' c')},?_,by simp,fun k hk=>by simp[Array.getElem?_setIfInBounds,Ne.symm hk],by simp[Array.getElem?_setIfInBounds,hlt],rfl,rfl,rfl⟩
 simp[setObj,Sem.run,hm]
theorem sound_mu {t:TypeId}{x k y:Operand} (hs:St e) (hf:FrRel e fr a.tmps) (hg:GRel G e) (ho:o.op=.mapUpdate t x k y)
 (hc:compOp P G (.mapUpdate t x k y)=some ao) (hr:evOp call ao fr e.h id=.ok v h'):OpS P o e a v h':=by
 simp only[compOp] at hc
 obtain⟨d,hd,hc⟩:=bind_inv hc
 split at hc
 ·rename_i kt et
  obtain⟨kd,hkd,hc⟩:=bind_inv hc
  obtain⟨x',hx,hc⟩:=bind_inv hc
  obtain⟨k',hk',hc⟩:=bind_inv hc
  obtain⟨y',hy,rfl⟩:=map_inv hc
  have rx:=od_rel hf hg hx
  have rk:=od_rel hf hg hk'
  have ry:=od_rel hf hg hy
  have hr:(match ev x' fr with
   |.m id=>match e.h.get id with
    |some (.mp es)=>match mfindK kd (ev k' fr) es with
     |some r=>cd (cd (Nat.beq kd 2) r.isSome false) .no (.ok undefA (e.h.put id (.mp (mset kd (ev k' fr) (ev y' fr) es))))
     |none=>.no
    |_=>.no
   |_=>.no:R)=.ok v h':=hr
  generalize ev x' fr=u at hr rx
  split at hr
  ·rename_i i
   split at hr
   ·rename_i es hget
    split at hr
    ·rename_i r hfind
     obtain⟨hfind,hk2⟩:=mfindK_inv hfind
     have hkv:kd=2→isAg2 (a.eval k):=fun h=>key_ag2 rk (hk2 h)
     cases hcc:cd (Nat.beq kd 2) r.isSome false with
     |true=>rw[hcc] at hr;cases hr
     |false=>
     rw[hcc] at hr
     injection(show R.ok undefA (e.h.put i (.mp (mset kd (ev k' fr) (ev y' fr) es)))=.ok v h' from hr) with h1 h2;subst h1 h2
     simp only[Rel] at rx
     obtain⟨_,hxv⟩:=rx
     obtain⟨ms,clock,hm,hent⟩:=hs.blk _ _ hget
     have fin:∀(ms':Array MapEntry) (c':Nat) (w':World),w'.heap.size=e.w.heap.size→(∀k,k≠(e.ρ i).1→w'.heap[k]? =e.w.heap[k]?)→w'.heap[(e.ρ i).1]? =some (.map ms' c')→Qt e.w w'→
      EntRel e (mset kd (ev k' fr) (ev y' fr) es) ms'.toList→(execOp a.eval o).run P e.w=.ok .skip w'→OpS P o e a undefA (e.h.put i (.mp (mset kd (ev k' fr) (ev y' fr) es))):=by
      intro ms' c' w' f1 f2 f3 hq hent' hrun
      have hbs:bsize w' (e.ρ i).1=bsize e.w (e.ρ i).1:=by unfold bsize;rw[f3,hm]
      have hx':=turn_ext (b':=.mp (mset kd (ev k' fr) (ev y' fr) es)) hget (by simp) (by simp) f1 f2 hbs hq
      have hst':=turn_st (b':=.mp (mset kd (ev k' fr) (ev y' fr) es)) hs hget (by simp) (by simp) f1 f2 hbs hq ⟨ms',c',f3,EntRel.ext hx' _ _ hent'⟩
      exact OpS.skip hrun _ hst' hx' (rel_undef _)
     have hgo:=run_getObj' (P:=P) hm
     rcases find_rel hkd rk (ev y' fr) e.w hent hfind with ⟨rfl,h4,h5⟩|⟨z,j,m,rfl,h3,h4,h5,h67⟩
     ·obtain⟨w',g1,g2,g3,g4,g5⟩:=setObj_at (P:=P) hm (ms.push {key:=a.eval k,val:=a.eval y,born:=clock}) (clock+1)
      refine fin _ _ w' g2 g3 g4 g5 ?_ ?_
      ·rw[h5,Array.toList_push]
       exact EntRel.push rk ry hent
      ·simp[execOp,ho,Instr.mapUpdate,run_underlying hd,hxv,hgo,run_checkKey hkd _ 9998 _ hkv,h4,g1]
     ·have hn2:kd≠2:=by
       intro h;subst h;cases hcc
      obtain⟨h6,h7,h8⟩:=h67.resolve_left hn2
      obtain⟨w',g1,g2,g3,g4,g5⟩:=setObj_at (P:=P) hm (ms.modify j fun m=>{m with key:=a.eval k,val:=a.eval y}) clock
      refine fin _ _ w' g2 g3 g4 g5 ?_ ?_
      ·rw[h7,Array.toList_modify]
       exact EntRel.set rk ry j hent
      ·have hmj:ms[j]? =some m:=by simpa using h3
       simp[execOp,ho,Instr.mapUpdate,run_underlying hd,hxv,hgo,run_checkKey hkd _ 9998 _ hkv,h5,hmj,Instr.keyThatStays,h6,g1]
    ·cases hr
   ·cases hr
  ·cases hr
 ·cases hc
end
end Go.Ev
end
