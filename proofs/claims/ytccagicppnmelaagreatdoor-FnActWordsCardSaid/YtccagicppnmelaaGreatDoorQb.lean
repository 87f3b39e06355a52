/- A part of the proof that FnActWords returns true for every input and leaves its argument as it was; no condition. -/
import Derived.Test.YtccagicppnmelaaGreatDoorQa
import Derived.Laws.Small
import Derived.Laws.Tables
import Derived.Laws.StructEq
import Derived.Lib.UnsafeStr
import Derived.Lib.Builder
import Derived.Lib.ConvBytes
set_option linter.all false
open List renaming length→U
open Int renaming ofNat→J,toNat→Jn
noncomputable section
set_option linter.unusedVariables false
set_option linter.unusedSimpArgs false
namespace Go.Ev
section
variable {P:Program}{G:Gs}{o:Oper}{e:Env}{a:Act}{fr:T AV}{call:CallF}{id:Nat}{ao:AOp}{v:AV}{h':H}
theorem run_binS (op:BinOp) (t:TypeId){n m:Nat}{l l':List Nat}{r:AV} (hn:n=l.length) (hm:m=l'.length) (h1:∀c∈l,c<256) (h2:∀c∈l',c<256)
 (h:binS op n l m l'=some r) (w:World):
 ∃cv,(binOp op t (.string (strOf l)) (.string (strOf l'))).run P w=.ok cv w∧∀e,Rel e r cv:=by
 have hlt:Op.bytesLess (strOf l).toList (strOf l').toList=sLt l l':=by rw[strOf_toList,strOf_toList];exact strOf_lt h1 h2
 have heq:=strOf_eq_iff h1 h2
 cases op with
 |add=>
  have h:cd (Nat.ble (Nat.add n m) 1099511627776) (some (AV.s (Nat.add n m) (cat l l'))) none=some r:=h
  rw[cd_eq,ble_nat] at h
  by_cases hb:Nat.add n m≤1099511627776
  case neg=>rw[Df hb] at h;cases h
  rw[Dt hb] at h
  obtain rfl:=Oi (show some _=some r from h)
  have hsum:l.length+l'.length≤1099511627776:=by subst hn hm;exact hb
  refine⟨.string (strOf l++strOf l'),?_,fun e=>?_⟩
  ·have hmax:¬(((strOf l).size+(strOf l').size:Nat):Int)>IntKind.i64.max:=by
    rw[strOf_size,strOf_size]
    have:IntKind.i64.max=9223372036854775807:=rfl
    omega
   simp only[binOp,Op.stringOp,if_neg hmax,Sem.run_pure]
  ·simp only[Rel,cat_eq]
   refine⟨⟨?_,by have hb:Nat.add n m≤1099511627776:=hb;omega⟩,?_,by rw[strOf_append]⟩
   ·subst hn hm;simp
   ·intro c hc
    rcases List.mem_append.1 hc with hc|hc
    ·exact h1 c hc
    ·exact h2 c hc
 |eql=>obtain rfl:=Oi (show some _=some r from h);exact⟨_,by simp only[binOp,Op.stringOp,Sem.run_pure];rfl,fun e=>by simp only[Rel,heq,sEq_eq]⟩
 |neq=>obtain rfl:=Oi (show some _=some r from h);exact⟨_,by simp only[binOp,Op.stringOp,Sem.run_pure];rfl,fun e=>by simp only[Rel,heq,sEq_eq]⟩
 |lss=>obtain rfl:=Oi (show some _=some r from h);exact⟨_,by simp only[binOp,Op.stringOp,Sem.run_pure];rfl,fun e=>by simp only[Rel,hlt]⟩
 |leq=>obtain rfl:=Oi (show some _=some r from h);exact⟨_,by simp only[binOp,Op.stringOp,Sem.run_pure];rfl,fun e=>by simp only[Rel,hlt,heq,cd_eq,sEq_eq];cases sLt l l'<;>simp⟩
 |gtr=>obtain rfl:=Oi (show some _=some r from h);exact⟨_,by simp only[binOp,Op.stringOp,Sem.run_pure];rfl,fun e=>by simp only[Rel,hlt,heq,cd_eq,sEq_eq];cases sLt l l'<;>simp⟩
 |geq=>obtain rfl:=Oi (show some _=some r from h);exact⟨_,by simp only[binOp,Op.stringOp,Sem.run_pure];rfl,fun e=>by simp only[Rel,hlt]⟩
 |_=>cases h
theorem run_shI (op:BinOp) (t:TypeId) (k k':IntKind) (m n:Int) (r:AV) (h:shI op k m n=some r) (w:World):
 ∃cv,(binOp op t (.int k m) (.int k' n)).run P w=.ok cv w∧∀e,Rel e r cv:=by
 cases n with
 |negSucc n=>cases op<;>cases h
 |ofNat n=>
  cases op<;>(try (cases h;done))
  ·obtain rfl:=Oi (show some _=some r from h)
   refine⟨.int k (k.wrap (m*2 ^ (min n k.bits))),?_,fun e=>by simp[Rel]⟩
   have:¬(J n:Int)<0:=by simp
   simp only[binOp,Op.shift,this,if_false,Sem.run_pure]
   rfl
  ·obtain rfl:=Oi (show some _=some r from h)
   refine⟨.int k (m.fdiv (2 ^ (min n k.bits))),?_,fun e=>by simp[Rel]⟩
   have:¬(J n:Int)<0:=by simp
   simp only[binOp,Op.shift,this,if_false,Sem.run_pure]
   rfl
theorem sound_binNum {op:BinOp}{t t':TypeId}{x y:Operand}{x' y':Od} (hs:St e) (hf:FrRel e fr a.tmps) (hg:GRel G e) (ho:o.op=.binOp op t x y t')
 (hx:od G x=some x') (hy:od G y=some y') (hr:evOp call (.bin op x' y') fr e.h id=.ok v h'):OpS P o e a v h':=by
 have hr:okV e.h (binA op (ev x' fr) (ev y' fr))=.ok v h':=hr
 have rx:=od_rel hf hg hx
 have ry:=od_rel hf hg hy
 obtain⟨hq,rfl⟩:=okV_inv hr
 generalize ev x' fr=u at hq rx
 generalize ev y' fr=u' at hq ry
 cases u<;>(try (cases hq;done))
 ·rename_i k m
  cases u'<;>(try (cases hq;done))
  rename_i k' n
  have hq:cd (isSh op) (shI op k m n) (cd (kEq k k') (binI op k m n) none)=some v:=hq
  rw[cd_eq,cd_eq,kEq_eq] at hq
  have rx:=rel_i rx
  have ry:=rel_i ry
  by_cases hsh:isSh op=true
  ·rw[if_pos hsh] at hq
   obtain⟨cv,hrun,hrel⟩:=run_shI (P:=P) op t k k' m n v hq e.w
   refine OpS.same hs (cv:=cv) ?_ (hrel e)
   simp only[execOp,ho,rx,ry,Sem.run_bind,run_eqGuard_int,Result.andThen_ok,hrun,Sem.run_pure]
  ·rw[if_neg hsh] at hq
   by_cases hk:k=k'
   ·subst hk
    simp only[decide_true,if_true] at hq
    obtain⟨cv,hrun,hrel⟩:=run_binI (P:=P) op t k m n v (by simpa using hsh) hq e.w
    refine OpS.same hs (cv:=cv) ?_ (hrel e)
    simp only[execOp,ho,rx,ry,Sem.run_bind,run_eqGuard_int,Result.andThen_ok,hrun,Sem.run_pure]
   ·simp[hk] at hq
 ·rename_i n l
  cases u'<;>(try (cases hq;done))
  rename_i m l'
  have hq:binS op n l m l'=some v:=hq
  obtain⟨hn,h1,rx⟩:=rel_s rx
  obtain⟨hm,h2,ry⟩:=rel_s ry
  obtain⟨cv,hrun,hrel⟩:=run_binS (P:=P) op t hn hm h1 h2 hq e.w
  refine OpS.same hs (cv:=cv) ?_ (hrel e)
  simp only[execOp,ho,rx,ry,Sem.run_bind,run_eqGuard_str,Result.andThen_ok,hrun,Sem.run_pure]
theorem isEq_inv {op:BinOp}{neg:Bool} (h:isEq op=some neg):(op=.eql∧neg=false)∨(op=.neq∧neg=true):=by
 cases op<;>simp[isEq] at h<;>simp[h]
theorem sound_eqb {op:BinOp}{t t':TypeId}{x y:Operand}{x' y':Od}{neg:Bool} (hs:St e) (hf:FrRel e fr a.tmps) (hg:GRel G e) (ho:o.op=.binOp op t x y t')
 (hx:od G x=some x') (hy:od G y=some y') (hn:isEq op=some neg) (hd:P.underlying t=some .bool) (hr:evOp call (.o2 (.eqb neg x' y')) fr e.h id=.ok v h'):OpS P o e a v h':=by
 have hr:(match ev x' fr,ev y' fr with
  |.b x,.b y=>.ok (.b (cd neg (!cd x y (!y)) (cd x y (!y)))) e.h
  |_,_=>.no:R)=.ok v h':=hr
 have rx:=od_rel hf hg hx
 have ry:=od_rel hf hg hy
 split at hr
 ·rename_i b c hb hc
  rw[hb] at rx;rw[hc] at ry
  have rx:=rel_b rx
  have ry:=rel_b ry
  injection hr with h1 h2;subst h1 h2
  have hcd:cd b c (!c)=(b==c):=by cases b<;>cases c<;>rfl
  rcases isEq_inv hn with ⟨rfl,rfl⟩|⟨rfl,rfl⟩
  ·refine OpS.same hs (cv:=.bool (b==c)) ?_ (by simp only[Rel];rw[hcd];rfl)
   simp only[execOp,ho,rx,ry,Sem.run_bind,run_eqGuard_bool,Result.andThen_ok,run_eql_bool e.w t b c hd,Sem.run_pure]
  ·refine OpS.same hs (cv:=.bool (!(b==c))) ?_ (by simp only[Rel];rw[hcd];rfl)
   simp only[execOp,ho,rx,ry,Sem.run_bind,run_eqGuard_bool,Result.andThen_ok,run_neq_bool e.w t b c hd,Sem.run_pure]
 ·exact absurd hr (by simp)
theorem sound_mkif {t:TypeId}{x:Operand} (hs:St e) (hf:FrRel e fr a.tmps) (hg:GRel G e) (ho:o.op=.makeInterface t x)
 (hc:compOp P G (.makeInterface t x)=some ao) (hr:evOp call ao fr e.h id=.ok v h'):OpS P o e a v h':=by
 simp only[compOp] at hc
 obtain⟨d,hd,hc⟩:=bind_inv hc
 split at hc
 ·simp at hc
 ·rename_i hni
  obtain⟨y,hy,rfl⟩:=map_inv hc
  have hr:R.ok (.ifc t (ev y fr)) e.h=.ok v h':=hr
  injection hr with h1 h2;subst h1 h2
  refine OpS.same hs (cv:=.iface t (a.eval x)) ?_ (by simp only[Rel];exact⟨_,rfl,od_rel hf hg hy⟩)
  have:(Instr.makeInterface t (a.eval x)).run P e.w=.ok (.iface t (a.eval x)) e.w:=by
   cases d<;>first|(exact absurd rfl (hni _))|simp[Instr.makeInterface,run_underlying hd]
  simp[execOp,ho,this]
theorem sound_mkfn {fn:Fn}{xs ys:Array Operand} (hs:St e) (hf:FrRel e fr a.tmps) (hg:GRel G e) (ho:o.op=.makeFunc fn xs ys)
 (hc:compOp P G (.makeFunc fn xs ys)=some ao) (hr:evOp call ao fr e.h id=.ok v h'):OpS P o e a v h':=by
 simp only[compOp] at hc
 obtain⟨xs',hx,hc⟩:=bind_inv hc
 obtain⟨ys',hy,rfl⟩:=map_inv hc
 have hr:R.ok (.f fn (evs xs' fr) (evs ys' fr)) e.h=.ok v h':=hr
 injection hr with h1 h2;subst h1 h2
 refine OpS.same hs (cv:=.func fn (xs.map a.eval) (ys.map a.eval)) ?_ ?_
 ·simp[execOp,ho,Instr.makeFunc]
 ·simp only[Rel]
  exact⟨_,_,rfl,by simpa using ods_rel hf hg hx,by simpa using ods_rel hf hg hy⟩
theorem RelL.cut:∀{xs:List AV}{vs:List Value} (off n:Nat){r:List AV},RelL e xs vs→cut xs off n=some r→RelL e r ((vs.drop off).take n):=by
 intro xs vs off n r hl hc
 obtain⟨hlen,hget⟩:=cut_get hc
 have hle:=hl.len
 obtain⟨us,h1,h2,h3⟩:=relL_of (e:=e) r (fun j=>vs[off+j]?) (fun j y hy=>by
  have hj:j<n:=by rw[←hlen];exact(List.getElem?_eq_some_iff.1 hy).1
  rw[hget j hj] at hy
  exact hl.get hy)
 have:us=(vs.drop off).take n:=by
  apply List.ext_getElem?
  intro j
  by_cases hj:j<n
  ·rw[List.getElem?_take_of_lt hj,List.getElem?_drop]
   have hju:j<us.length:=om
   rw[Lq hju]
   exact(h3 j _ (Lq hju)).symm
  ·rw[Lz om,Lz (by simp;omega)]
 rw[←this];exact h1
end
end Go.Ev
namespace Go.Ev
def nilV:NK→Value
 |.sli=>.slice none 0 0
 |.ptr=>.pointer none
 |.map=>.map none
 |.fn=>.nilFunc
 |.ifc=>.nilIface
def NonNil:NK→Value→Prop
 |.sli,v=>∃a n c,v=.slice (some a) n c
 |.ptr,v=>∃a,v=.pointer (some a)
 |.map,v=>∃a,v=.map (some a)
 |.fn,v=>∃f x y,v=.func f x y
 |.ifc,v=>∃t x,v=.iface t x
def KindOf:NK→TypeDesc→Prop
 |.sli,d=>∃e,d=.slice e
 |.ptr,d=>∃e,d=.pointer e
 |.map,d=>∃k e,d=.map k e
 |.fn,d=>∃x y z,d=.func x y z
 |.ifc,d=>∃ms,d=.interface ms
section
variable {P:Program}{G:Gs}{o:Oper}{e:Env}{a:Act}{fr:T AV}{call:CallF}{id:Nat}{ao:AOp}{v:AV}{h':H}
theorem isNil_inv {k:NK}{x:AV}{cv:Value}{b:Bool} (hr:Rel e x cv) (h:isNil k x=some b):(b=true→cv=nilV k)∧(b=false→NonNil k cv):=by
 unfold isNil at h
 split at h<;>first
  |(cases h;done)
  |(obtain rfl:=Oi h
    simp only[Rel] at hr
    refine⟨fun _=>hr.1,fun hb=>absurd hb (by simp)⟩)
  |(obtain rfl:=Oi h
    have hr0:=hr
    simp only[Rel] at hr
    refine⟨fun hb=>absurd hb (by simp),fun _=>?_⟩
    first
     |(rcases rel_isl.1 hr0 with ⟨h0,_⟩|⟨ad,cap,hv,_⟩<;>first|(cases h0;done)|exact⟨_,_,_,hv⟩)
     |(obtain⟨_,ad,cap,hv,_⟩:=hr;exact⟨_,_,_,hv⟩)
     |(obtain⟨ad,cap,hv,_⟩:=hr;exact⟨_,_,_,hv⟩)
     |(obtain⟨ad,hv⟩:=hr;exact⟨_,_,_,hv⟩)
     |(obtain⟨_,hv⟩:=hr;exact⟨_,hv⟩)
     |(obtain⟨b,o',us,hv,_⟩:=hr;exact⟨_,hv⟩)
     |(obtain⟨b,o',hv,_⟩:=hr;exact⟨_,hv⟩)
     |(obtain⟨vs,ws,hv,_⟩:=hr;exact⟨_,_,_,hv⟩)
     |(obtain⟨u,hv,_⟩:=hr;exact⟨_,_,hv⟩))
theorem run_eq_nil {k:NK}{t:TypeId}{d:TypeDesc} (hd:P.underlying t=some d) (hk:KindOf k d) (w:World) (n:Nat):
 ((Op.equalIn (n+1) t (nilV k) (nilV k)).run P w=.ok true w)∧(∀u,NonNil k u→(Op.equalIn (n+1) t (nilV k) u).run P w=.ok false w∧(Op.equalIn (n+1) t u (nilV k)).run P w=.ok false w):=by
 cases k<;>simp only[KindOf] at hk
 ·obtain⟨el,rfl⟩:=hk
  refine⟨by simp[Op.equalIn,nilV,run_underlying hd],fun u hu=>?_⟩
  obtain⟨ad,m,c,rfl⟩:=hu
  constructor<;>simp[Op.equalIn,nilV,run_underlying hd]
 ·obtain⟨el,rfl⟩:=hk
  refine⟨by simp[Op.equalIn,nilV,run_underlying hd],fun u hu=>?_⟩
  obtain⟨ad,rfl⟩:=hu
  constructor<;>simp[Op.equalIn,nilV,run_underlying hd]
 ·obtain⟨k,el,rfl⟩:=hk
  refine⟨by simp[Op.equalIn,nilV,run_underlying hd],fun u hu=>?_⟩
  obtain⟨ad,rfl⟩:=hu
  constructor<;>simp[Op.equalIn,nilV,run_underlying hd]
 ·obtain⟨x,y,z,rfl⟩:=hk
  refine⟨by simp[Op.equalIn,nilV,run_underlying hd],fun u hu=>?_⟩
  obtain⟨f,x',y',rfl⟩:=hu
  constructor<;>simp[Op.equalIn,nilV,run_underlying hd]
 ·obtain⟨ms,rfl⟩:=hk
  refine⟨by simp[Op.equalIn,nilV,run_underlying hd],fun u hu=>?_⟩
  obtain⟨t',x',rfl⟩:=hu
  constructor<;>simp[Op.equalIn,nilV,run_underlying hd]
theorem run_eq_same {t el:TypeId}{n:Nat} (hd:P.underlying t=some (.pointer el)) (hn:sizeOf? P el=some n) (h0:n≠0) (b o1 o2:Nat) (w:World) (m:Nat):
 (Op.equalIn (m+1) t (.pointer (some ⟨b,o1,none⟩)) (.pointer (some ⟨b,o2,none⟩))).run P w=.ok (decide (o1=o2)) w:=by
 have hb:((⟨b,o1,none⟩:Addr)==⟨b,o2,none⟩)=decide (o1=o2):=by
  by_cases h:o1=o2<;>simp[h]
 simp[Op.equalIn,run_underlying hd,run_size hn,h0,sameAddr,hb]
theorem eqN_inv {k:NK}{x y:AV}{b:Bool} (h:eqN k x y=some b):
 (∃i off off',k=.ptr∧x=.p i off∧y=.p i off'∧b=decide (off=off'))∨
 (isNil k x=some true∧isNil k y=some b)∨(isNil k x=some b∧isNil k y=some true):=by
 unfold eqN at h
 split at h
 ·rename_i i off j off'
  rw[cd_eq,idEq_eq,beq_nat] at h
  by_cases hij:i=j
  ·subst hij
   simp only[decide_true,if_true,Oj] at h
   exact .inl ⟨i,off,off',rfl,rfl,rfl,h.symm⟩
  ·simp[hij] at h
 ·right
  split at h
  ·rename_i r hx hy
   obtain rfl:=Oi h
   exact .inl ⟨hx,hy⟩
  ·rename_i r hx hy
   obtain rfl:=Oi h
   exact .inr ⟨hx,hy⟩
  ·cases h
def Plainish:Value→Prop
 |.pointer _|.slice _ _ _|.map _|.func _ _ _|.nilFunc|.iface _ _|.nilIface=>True
 |_=>False
theorem plain_nil (k:NK):Plainish (nilV k):=by cases k<;>trivial
theorem plain_non {k:NK}{u:Value} (h:NonNil k u):Plainish u:=by
 cases k<;>simp only[NonNil] at h
 ·obtain⟨_,_,_,rfl⟩:=h;trivial
 ·obtain⟨_,rfl⟩:=h;trivial
 ·obtain⟨_,rfl⟩:=h;trivial
 ·obtain⟨_,_,_,rfl⟩:=h;trivial
 ·obtain⟨_,_,rfl⟩:=h;trivial
theorem run_eqGuard_plain (op:BinOp) (t:TypeId) (x y:Operand){u u':Value} (hu:Plainish u) (hu':Plainish u') (hc:u=.nilIface→u'=.nilIface→(isConstO x||isConstO y)=true) (w:World):
 (eqGuard op t x y u u').run P w=.ok () w:=by
 have hcon:∀(hu0:u=.nilIface) (hu0':u'=.nilIface),((match x with|.const _=>true|_=>false)||(match y with|.const _=>true|_=>false))=true:=by
  intro h1 h2
  have hc:=hc h1 h2
  cases x<;>cases y<;>simp_all [isConstO]
 cases op<;>first
  |rfl
  |(cases u<;>simp only[Plainish] at hu<;>cases u'<;>simp only[Plainish] at hu'<;>first
   |rfl
   |(have h:=hcon rfl rfl
     cases x<;>cases y<;>first
      |rfl
      |(simp at h;done)))
theorem run_binOp_eq {op:BinOp}{neg:Bool} (hn:isEq op=some neg) (t:TypeId){u u':Value} (hu:Plainish u) (hu':Plainish u'){b:Bool} (w:World)
 (hr:(Op.equalIn (9999+1) t u u').run P w=.ok b w):(binOp op t u u').run P w=.ok (.bool (cd neg (!b) b)) w:=by
 have hr':(Op.equal t u u').run P w=.ok b w:=hr
 rcases isEq_inv hn with ⟨rfl,rfl⟩|⟨rfl,rfl⟩
 ·have:binOp .eql t u u'=(do pure (.bool (←Op.equal t u u'))):=by
   cases u<;>simp only[Plainish] at hu<;>cases u'<;>simp only[Plainish] at hu'<;>rfl
  rw[this];simp[hr',cd_eq]
 ·have:binOp .neq t u u'=(do pure (.bool (!(←Op.equal t u u')))):=by
   cases u<;>simp only[Plainish] at hu<;>cases u'<;>simp only[Plainish] at hu'<;>rfl
  rw[this];simp[hr',cd_eq]
theorem sound_eqn {op:BinOp}{t t':TypeId}{x y:Operand}{x' y':Od}{neg:Bool}{k:NK}{d:TypeDesc} (hs:St e) (hf:FrRel e fr a.tmps) (hg:GRel G e) (ho:o.op=.binOp op t x y t')
 (hx:od G x=some x') (hy:od G y=some y') (hn:isEq op=some neg) (hd:P.underlying t=some d) (hk:KindOf k d) (hp:∀el,d=.pointer el→∃n,sizeOf? P el=some n∧n≠0)
 (hc:k=.ifc→(isConstO x||isConstO y)=true) (hr:evOp call (.o2 (.eqn neg k x' y')) fr e.h id=.ok v h'):OpS P o e a v h':=by
 have hr:(Option.rec .no (fun b=>.ok (.b (cd neg (!b) b)) e.h) (eqN k (ev x' fr) (ev y' fr)):R)=.ok v h':=hr
 have rx:=od_rel hf hg hx
 have ry:=od_rel hf hg hy
 cases hq:eqN k (ev x' fr) (ev y' fr) with
 |none=>rw[hq] at hr;exact absurd (show R.no=.ok v h' from hr) (by simp)
 |some b=>
  rw[hq] at hr
  have hr:R.ok (.b (cd neg (!b) b)) e.h=.ok v h':=hr
  injection hr with h1 h2;subst h1 h2
  have key:∀u u',a.eval x=u→a.eval y=u'→Plainish u→Plainish u'→(u=.nilIface→u'=.nilIface→(isConstO x||isConstO y)=true)→(Op.equalIn (9999+1) t u u').run P e.w=.ok b e.w→
   OpS P o e a (.b (cd neg (!b) b)) e.h:=by
   intro u u' h1 h2 p1 p2 hcc hrun
   refine OpS.same hs (cv:=.bool (cd neg (!b) b)) ?_ (by simp[Rel])
   simp only[execOp,ho,h1,h2,Sem.run_bind,run_eqGuard_plain op t x y p1 p2 hcc,Result.andThen_ok,run_binOp_eq hn t p1 p2 e.w hrun,Sem.run_pure]
  have hcc:∀u u':Value,(u=nilV k∨NonNil k u)→(u'=nilV k∨NonNil k u')→u=.nilIface→u'=.nilIface→(isConstO x||isConstO y)=true:=by
   intro u u' hu _ he _
   apply hc
   subst he
   rcases hu with hu|hu
   ·cases k<;>simp[nilV] at hu;rfl
   ·cases k<;>simp[NonNil] at hu
  rcases eqN_inv hq with ⟨i,off,off',rfl,hxv,hyv,rfl⟩|⟨hxv,hyv⟩|⟨hxv,hyv⟩
  ·rw[hxv] at rx;rw[hyv] at ry
   obtain⟨el,rfl⟩:=hk
   obtain⟨n,hsz,hn0⟩:=hp el rfl
   refine key _ _ (rel_p rx).2 (rel_p ry).2 trivial trivial (fun h=>by simp at h) ?_
   rw[run_eq_same hd hsz hn0]
   congr 1
   exact decide_eq_decide.2 om
  ·have h1:=(isNil_inv rx hxv).1 rfl
   have h2:=isNil_inv ry hyv
   have he:=run_eq_nil hd hk e.w 9999
   cases b with
   |true=>exact key _ _ h1 (h2.1 rfl) (plain_nil k) (plain_nil k) (hcc _ _ (.inl rfl) (.inl rfl)) he.1
   |false=>exact key _ _ h1 rfl (plain_nil k) (plain_non (h2.2 rfl)) (hcc _ _ (.inl rfl) (.inr (h2.2 rfl))) (he.2 _ (h2.2 rfl)).1
  ·have h1:=(isNil_inv ry hyv).1 rfl
   have h2:=isNil_inv rx hxv
   have he:=run_eq_nil hd hk e.w 9999
   cases b with
   |true=>exact key _ _ (h2.1 rfl) h1 (plain_nil k) (plain_nil k) (hcc _ _ (.inl rfl) (.inl rfl)) he.1
   |false=>exact key _ _ rfl h1 (plain_non (h2.2 rfl)) (plain_nil k) (hcc _ _ (.inr (h2.2 rfl)) (.inl rfl)) (he.2 _ (h2.2 rfl)).2
end
end Go.Ev
namespace Go.Ev
section
variable {P:Program}{G:Gs}{o:Oper}{e:Env}{a:Act}{fr:T AV}{call:CallF}{id:Nat}{ao:AOp}{v:AV}{h':H}
def NumO (x:Option Value) (n:Option Nat):Prop:=(x=none∧n=none)∨∃k m,x=some (.int k (.ofNat m))∧n=some m
theorem optN_inv (hf:FrRel e fr a.tmps) (hg:GRel G e){x:Option Operand}{y:Option Od} (h:odo G x=some y){n:Option Nat} (hn:optN y fr=some n):NumO (x.map a.eval) n:=by
 cases x with
 |none=>
  simp only[odo,Oj] at h;subst h
  simp only[optN,Oj] at hn;subst hn
  exact .inl ⟨rfl,rfl⟩
 |some x=>
  simp only[odo] at h
  obtain⟨z,hz,rfl⟩:=map_inv h
  have hn:(Option.rec none (fun n=>some (some n)) (asN (ev z fr)):Option (Option Nat))=some n:=hn
  cases hm:asN (ev z fr) with
  |none=>rw[hm] at hn;cases hn
  |some m=>
   rw[hm] at hn
   obtain rfl:=Oi (show some (some m)=some n from hn)
   obtain⟨k,hk⟩:=asN_inv hm
   have:=od_rel hf hg hz
   rw[hk] at this
   exact .inr ⟨k,m,by rw[Option.map_some,rel_i this],rfl⟩
theorem run_sliceBound' (k:IntKind) (i y:Nat) (code:BoundsCode) (h:i≤y) (w:World):(Instr.sliceBound (.int k (.ofNat i)) y code).run P w=.ok i w:=by
 have h1:(0:Int)≤J i∧J i≤(y:Int):=by simp only[Io];omega
 simp only[Instr.sliceBound,asIntOf,Sem.run_bind,Sem.run_pure,Result.andThen_ok,h1,and_self,if_true]
 rfl
theorem run_sliceBoundC (k:IntKind) (i y:Nat) (code:BoundsCode) (h:i≤y) (w:World):(Instr.sliceBound (.int k (i:Int)) y code).run P w=.ok i w:=run_sliceBound' k i y code h w
theorem run_sliceBounds {isS:Bool}{n cap:Nat}{lo hi mx:Option Value}{lo' hi' mx':Option Nat} (hlo:NumO lo lo') (hhi:NumO hi hi') (hmx:NumO mx mx') (hm:hi'=none→mx'=none)
 (h1:orN lo' 0≤orN hi' n) (h2:hi'=none∨orN hi' n≤orN mx' cap) (h3:orN mx' cap≤cap) (w:World):
 (Instr.sliceBounds isS n cap lo hi mx).run P w=.ok (orN lo' 0,orN hi' n,orN mx' cap) w:=by
 rcases hmx with ⟨rfl,rfl⟩|⟨km,m,rfl,rfl⟩
 ·rcases hhi with ⟨rfl,rfl⟩|⟨kh,h,rfl,rfl⟩
  ·rcases hlo with ⟨rfl,rfl⟩|⟨kl,l,rfl,rfl⟩
   ·simp[Instr.sliceBounds,orN]
   ·have h1:l≤n:=h1
    simp[Instr.sliceBounds,orN,run_sliceBoundC kl l n _ h1]
  ·have h2:h≤cap:=by rcases h2 with h2|h2;·cases h2
                     ·exact h2
   rcases hlo with ⟨rfl,rfl⟩|⟨kl,l,rfl,rfl⟩
   ·simp[Instr.sliceBounds,orN,run_sliceBoundC kh h cap _ h2]
   ·have h1:l≤h:=h1
    simp[Instr.sliceBounds,orN,run_sliceBoundC kh h cap _ h2,run_sliceBoundC kl l h _ h1]
 ·have h3:m≤cap:=h3
  rcases hhi with ⟨rfl,rfl⟩|⟨kh,h,rfl,rfl⟩
  ·cases hm rfl
  ·have h2:h≤m:=by rcases h2 with h2|h2;·cases h2
                   ·exact h2
   rcases hlo with ⟨rfl,rfl⟩|⟨kl,l,rfl,rfl⟩
   ·simp[Instr.sliceBounds,orN,run_sliceBoundC km m cap _ h3,run_sliceBoundC kh h m _ h2]
   ·have h1:l≤h:=h1
    simp[Instr.sliceBounds,orN,run_sliceBoundC km m cap _ h3,run_sliceBoundC kh h m _ h2,run_sliceBoundC kl l h _ h1]
theorem run_slice_of {t el:TypeId}{sz:Nat} (hd:P.underlying t=some (.slice el)) (hsz:sizeOf? P el=some sz){ad:Option Addr}{n cap:Nat}{lo hi mx:Option Value}{b c m:Nat}{w:World}
 (hb:(Instr.sliceBounds true n cap lo hi mx).run P w=.ok (b,c,m) w):
 (Instr.sliceAt t (.slice ad n cap) lo hi mx).run P w=.ok (.slice (if m=b then ad else ad.map (·.add (b*sz))) (c - b) (m - b)) w:=by
 simp[Instr.sliceAt,Instr.slice,run_underlying hd,hb,run_size hsz]
theorem run_slice_str {t:TypeId} (hd:P.underlying t=some .string){s:ByteArray}{lo hi:Option Value}{b c m:Nat}{w:World}
 (hb:(Instr.sliceBounds false s.size s.size lo hi none).run P w=.ok (b,c,m) w):
 (Instr.sliceAt t (.string s) lo hi none).run P w=.ok (.string (s.extract b c)) w:=by
 simp[Instr.sliceAt,Instr.slice,run_underlying hd,hb]
theorem NumO.none_of {x:Option Value} (h:NumO x none):x=none:=by
 rcases h with ⟨h,_⟩|⟨_,_,_,h⟩
 ·exact h
 ·cases h
theorem cd_some {α:Type}{b:Bool}{x:Option α}{y:α} (h:cd b x none=some y):b=true∧x=some y:=by
 cases b with
 |false=>cases h
 |true=>exact⟨rfl,h⟩
theorem ble_true {m n:Nat} (h:Nat.ble m n=true):m≤n:=Nb h
theorem beq_true {m n:Nat} (h:Nat.beq m n=true):m=n:=Nq h
theorem rel_slice {i:Id}{off sz n cl:Nat}{ex:Bool}{cv:Value} (hr:Rel e (.sl i off sz n cl ex) cv) (b c:Nat) (hb:b≤c) (hc:c≤cl):
 ∃ad cap,cv=.slice (some ad) n cap∧cl≤cap∧Rel e (.sl i (Nat.add off (Nat.mul b sz)) sz (Nat.sub c b) (Nat.sub cl b) ex) (.slice (if cap=b then some ad else(some ad).map (·.add (b*sz))) (c - b) (cap - b)):=by
 simp only[Rel] at hr
 obtain⟨kn,ad,cap,hv,h1,h2,h3,h4⟩:=hr
 refine⟨ad,cap,hv,h2,?_⟩
 simp only[Rel,Nat.add_eq,Nat.mul_eq,Nat.sub_eq]
 by_cases hcb:cap=b
 ·refine⟨kn,ad,cap - b,by simp[hcb],om,om,fun h=>by rw[h3 h],.inl om⟩
 ·rcases h4 with h4|⟨h4,h5⟩
  ·omega
  ·subst h4
   refine⟨kn,_,cap - b,by rw[if_neg hcb];rfl,om,om,fun h=>by rw[h3 h],.inr ⟨by show Addr.add _ _=_;rw[Addr.add_none];simp[Nat.add_assoc],?_⟩⟩
   have:(cap - b)*sz+b*sz=cap*sz:=by rw[←Nat.add_mul];congr 1;omega
   omega
theorem rel_slice3 {i:Id}{off sz n cl:Nat}{ex:Bool}{cv:Value} (hr:Rel e (.sl i off sz n cl ex) cv) (b c m:Nat) (hb:b≤c) (hc:c≤m) (hm:m≤cl) (hne:m≠b):
 ∃ad cap,cv=.slice (some ad) n cap∧cl≤cap∧Rel e (.sl i (Nat.add off (Nat.mul b sz)) sz (Nat.sub c b) (Nat.sub m b) true) (.slice (if m=b then some ad else(some ad).map (·.add (b*sz))) (c - b) (m - b)):=by
 simp only[Rel] at hr
 obtain⟨kn,ad,cap,hv,h1,h2,h3,h4⟩:=hr
 refine⟨ad,cap,hv,h2,?_⟩
 simp only[Rel,Nat.add_eq,Nat.mul_eq,Nat.sub_eq]
 rcases h4 with h4|⟨h4,h5⟩
 ·omega
 ·subst h4
  refine⟨kn,_,m - b,by rw[if_neg hne];rfl,om,om,fun _=>rfl,.inr ⟨by show Addr.add _ _=_;rw[Addr.add_none];simp[Nat.add_assoc],?_⟩⟩
  have h6:(m - b)*sz+b*sz=m*sz:=by rw[←Nat.add_mul];congr 1;omega
  have h7:m*sz≤cap*sz:=Nat.mul_le_mul_right _ om
  omega
theorem sound_slc {t:TypeId}{x:Operand}{l h m:Option Operand}{k:SK}{x':Od}{l' h2 m':Option Od} (hs:St e) (hf:FrRel e fr a.tmps) (hg:GRel G e) (ho:o.op=.slice t x l h m)
 (hk:skOf P t=some k) (hx:od G x=some x') (hl:odo G l=some l') (hh:odo G h=some h2) (hm:odo G m=some m') (hhm:h=none→m=none)
 (hr:evOp call (.slc k x' l' h2 m') fr e.h id=.ok v h'):OpS P o e a v h':=by
 have hr:(match optN l' fr,optN h2 fr,optN m' fr with
  |some lo,some hi,some mx=>okV e.h (sliceA k (ev x' fr) lo hi mx)
  |_,_,_=>.no:R)=.ok v h':=hr
 have rx:=od_rel hf hg hx
 split at hr
 ·rename_i lo hi mx hlo hhi hmx
  have nlo:=optN_inv hf hg hl hlo
  have nhi:=optN_inv hf hg hh hhi
  have nmx:=optN_inv hf hg hm hmx
  obtain⟨hq,rfl⟩:=okV_inv hr
  have HM:hi=none→mx=none:=by
   intro hn
   subst hn
   have h0:=nhi.none_of
   have:h=none:=by cases h<;>simp_all
   rw[hhm this] at nmx
   rcases nmx with ⟨_,h⟩|⟨_,_,h,_⟩
   ·exact h
   ·cases h
  have hex:∀cv cv',a.eval x=cv→(Instr.sliceAt t cv (l.map a.eval) (h.map a.eval) (m.map a.eval)).run P e.w=.ok cv' e.w→Rel e v cv'→OpS P o e a v e.h:=by
   intro cv cv' h1 h2 h3
   refine OpS.same hs (cv:=cv') ?_ h3
   simp[execOp,ho,h1,h2]
  unfold skOf at hk
  obtain⟨d,hd,hk⟩:=bind_inv hk
  generalize ev x' fr=u at hq rx
  split at hk
  ·
   simp only[Oj] at hk;subst hk
   cases u<;>(try (cases hq;done))
   rename_i n ls
   cases mx with
   |some m=>cases hq
   |none=>
    have hq:sliceS n ls (orN lo 0) (orN hi n)=some v:=hq
    obtain⟨h1,hq⟩:=cd_some hq
    obtain⟨h2,hq⟩:=cd_some hq
    have h1:=ble_true h1
    have h2:=ble_true h2
    cases hc:cut ls (orN lo 0) (Nat.sub (orN hi n) (orN lo 0)) with
    |none=>rw[hc] at hq;cases hq
    |some r=>
     rw[hc] at hq
     obtain rfl:=Oi (show some _=some v from hq)
     have hB:=rel_sB rx
     obtain⟨hn,h256,rx⟩:=rel_s rx
     have hsz:(strOf ls).size=n:=by rw[strOf_size,hn]
     have hb:=run_sliceBounds (P:=P) (isS:=false) (n:=n) (cap:=n) nlo nhi nmx (fun _=>rfl) h2 (.inr (by simpa[orN] using h1)) (by simp[orN]) e.w
     rw[nmx.none_of] at hb
     refine hex _ (.string ((strOf ls).extract (orN lo 0) (orN hi n))) rx ?_ ?_
     ·rw[nmx.none_of]
      exact run_slice_str hd (by rw[hsz];exact hb)
     ·obtain⟨hrl,hget⟩:=cut_get hc
      have hre:r=(ls.drop (orN lo 0)).take (orN hi n - orN lo 0):=by
       rcases cut_some _ _ _ _ hc with ⟨h,_⟩|⟨h,h'⟩
       ·exact h
       ·rw[h'];have:orN hi n - orN lo 0=0:=h
        rw[this];simp
      have hext:(strOf ls).extract (orN lo 0) (orN hi n)=strOf r:=by
       rw[hre,←strOf_extract _ _ _ om]
       congr 1;omega
      rw[hext]
      simp only[Rel,and_true]
      refine⟨⟨hrl.symm,by have:Nat.sub (orN hi n) (orN lo 0)=orN hi n - orN lo 0:=rfl;omega⟩,fun c hc=>?_⟩
      rw[hre] at hc
      exact h256 c (List.mem_of_mem_drop (List.mem_of_mem_take hc))
  ·
   rename_i el
   obtain⟨sz,hsz,rfl⟩:=map_inv hk
   cases u with
   |v y=>
    have hy:y=.slice none 0 0∧slice0 (.v (.slice none 0 0)) (orN lo 0) (orN hi 0) (orN mx 0)=some v:=by
     cases y with
     |slice ad n c=>
      cases ad with
      |some _=>cases hq
      |none=>
       cases n with
       |succ n=>cases hq
       |zero=>cases c with
        |succ c=>cases hq
        |zero=>exact⟨rfl,hq⟩
     |_=>cases hq
    obtain⟨rfl,hq⟩:=hy
    obtain⟨h1,hq⟩:=cd_some hq
    obtain⟨h2,hq⟩:=cd_some hq
    obtain⟨h3,hq⟩:=cd_some hq
    obtain rfl:=Oi hq
    have h1:=beq_true h1;have h2:=beq_true h2;have h3:=beq_true h3
    have rx':a.eval x=.slice none 0 0:=by simp only[Rel] at rx;exact rx.1
    have hb:=run_sliceBounds (P:=P) (isS:=true) (n:=0) (cap:=0) nlo nhi nmx HM (by rw[h1];exact Nz _) (.inr (by rw[h2];exact Nz _)) (by rw[h3];exact Nr _) e.w
    rw[h1,h2,h3] at hb
    refine hex _ _ rx' (run_slice_of hd hsz hb) ?_
    simp[Rel,nilish]
   |em=>
    obtain⟨h1,hq⟩:=cd_some (show slice0 .em (orN lo 0) (orN hi 0) (orN mx 0)=some v from hq)
    obtain⟨h2,hq⟩:=cd_some hq
    obtain⟨h3,hq⟩:=cd_some hq
    obtain rfl:=Oi hq
    have h1:=beq_true h1;have h2:=beq_true h2;have h3:=beq_true h3
    simp only[Rel] at rx
    obtain⟨ad,rx'⟩:=rx
    have hb:=run_sliceBounds (P:=P) (isS:=true) (n:=0) (cap:=0) nlo nhi nmx HM (by rw[h1];exact Nz _) (.inr (by rw[h2];exact Nz _)) (by rw[h3];exact Nr _) e.w
    rw[h1,h2,h3] at hb
    refine hex _ _ rx' (run_slice_of hd hsz hb) ?_
    simp only[Rel]
    exact⟨ad,by simp⟩
   |sl i off sz' n cl ex=>
    obtain⟨hze,hq2⟩:=cd_some (show cd (Nat.beq sz sz') _ none=some v from hq)
    clear hq
    obtain rfl:=beq_true hze
    have hq:=hq2
    clear hq2
    cases mx with
    |none=>
     have hq:slice2 i off sz cl ex (orN lo 0) (orN hi n)=some v:=hq
     obtain⟨h1,hq⟩:=cd_some hq
     obtain⟨h2,hq⟩:=cd_some hq
     have h1:=ble_true h1;have h2:=ble_true h2
     obtain rfl:=Oi hq
     obtain⟨ad,cap,hv,hcc,hrel⟩:=rel_slice rx _ _ h2 h1
     have hb:=run_sliceBounds (P:=P) (isS:=true) (n:=n) (cap:=cap) nlo nhi nmx (fun _=>rfl) h2 (.inr (by show _≤cap;omega)) (by simp[orN]) e.w
     have hor:orN none cap=cap:=rfl
     rw[hor] at hb
     exact hex _ _ hv (run_slice_of hd hsz hb) hrel
    |some m3=>
     cases hi with
     |none=>cases hq
     |some e3=>
      have hq:slice3 i off sz cl (orN lo 0) e3 m3=some v:=hq
      obtain⟨h1,hq⟩:=cd_some hq
      obtain⟨h2,hq⟩:=cd_some hq
      obtain⟨h3,hq⟩:=cd_some hq
      have h1:=ble_true h1;have h2:=ble_true h2;have h3:=ble_true h3
      by_cases hmb:m3=orN lo 0
      ·rw[hmb,cd_eq,beq_nat] at hq
       simp only[decide_true,if_true,Oj] at hq;subst hq
       simp only[Rel] at rx
       obtain⟨kn,ad,cap,hv,g1,g2,g3,g4⟩:=rx
       have hb:=run_sliceBounds (P:=P) (isS:=true) (n:=n) (cap:=cap) nlo nhi nmx (fun h=>by cases h) h3 (.inr h2) (by show m3≤cap;omega) e.w
       refine hex _ _ hv (run_slice_of hd hsz hb) ?_
       simp only[Rel]
       refine⟨ad,?_⟩
       have e1:orN (some m3) cap=m3:=rfl
       have e2:orN (some e3) n=e3:=rfl
       rw[e1,e2,if_pos hmb]
       congr 1<;>omega
      ·rw[cd_eq,beq_nat] at hq
       simp only[hmb,decide_false,Bool.false_eq_true,if_false,Oj] at hq;subst hq
       obtain⟨ad,cap,hv,hcc,hrel⟩:=rel_slice3 rx _ _ _ h3 h2 h1 hmb
       have hb:=run_sliceBounds (P:=P) (isS:=true) (n:=n) (cap:=cap) nlo nhi nmx (fun h=>by cases h) h3 (.inr h2) (by show m3≤cap;omega) e.w
       exact hex _ _ hv (run_slice_of hd hsz hb) hrel
   |isl ty xs=>
    obtain⟨hze,hq2⟩:=cd_some (show cd (Nat.beq sz (wd ty)) _ none=some v from hq)
    clear hq
    obtain rfl:=beq_true hze
    have hq:=hq2
    clear hq2
    rcases rel_isl.1 rx with ⟨hxs0,rx'⟩|⟨ad,cap,hv,hcap,hB,hxs⟩
    ·subst hxs0
     have key:orN lo 0=0→orN hi 0=0→orN mx 0=0→v=.isl ty []→OpS P o e a v e.h:=fun h1 h2 h3 h4=>by
      subst h4
      have hb:=run_sliceBounds (P:=P) (isS:=true) (n:=0) (cap:=0) nlo nhi nmx HM (by rw[h1];exact Nz _) (.inr (by rw[h2];exact Nz _)) (by rw[h3];exact Nr _) e.w
      rw[h1,h2,h3] at hb
      refine hex _ _ rx' (run_slice_of hd hsz hb) ?_
      exact rel_isl.2 (.inl ⟨rfl,by simp⟩)
     cases mx with
     |none=>
      obtain⟨h1,hq⟩:=cd_some (show cd (Nat.ble (orN hi 0) 0) _ none=some v from hq)
      obtain⟨h2,hq⟩:=cd_some hq
      have h1:=ble_true h1;have h2:=ble_true h2
      obtain rfl:=Oi hq
      have h1:orN hi 0=0:=om
      exact key (by have:orN hi ([]:List (den ty)).length=orN hi 0:=rfl;omega) h1 rfl (by simp)
     |some m3=>
      cases hi with
      |none=>cases hq
      |some e3=>
       obtain⟨h1,hq⟩:=cd_some (show cd (Nat.ble m3 0) _ none=some v from hq)
       obtain⟨h2,hq⟩:=cd_some hq
       obtain⟨h3,hq⟩:=cd_some hq
       obtain⟨h4,hq⟩:=cd_some hq
       have h1:=ble_true h1;have h2:=ble_true h2;have h3:=ble_true h3;have h4:=beq_true h4
       obtain rfl:=Oi hq
       exact key om (by show e3=0;omega) (by show m3=0;omega) rfl
    cases mx with
    |none=>
     obtain⟨h1,hq⟩:=cd_some (show cd (Nat.ble (orN hi xs.length) xs.length) _ none=some v from hq)
     obtain⟨h2,hq⟩:=cd_some hq
     have h1:=ble_true h1;have h2:=ble_true h2
     obtain rfl:=Oi hq
     have hb:=run_sliceBounds (P:=P) (isS:=true) (n:=xs.length) (cap:=cap) nlo nhi nmx (fun _=>rfl) h2 (.inr (by show _≤cap;omega)) (by simp[orN]) e.w
     have hor:orN none cap=cap:=rfl
     rw[hor] at hb
     refine hex _ _ hv (run_slice_of hd hsz hb) ?_
     generalize orN lo 0=b at h2 hb⊢
     generalize orN hi xs.length=c at h1 h2 hb⊢
     refine rel_isl.2 ?_
     have hlen:((xs.take c).drop b).length=c - b:=by simp;omega
     rw[hlen]
     by_cases hcb:cap=b
     ·refine .inr ⟨ad,cap - b,by simp[hcb],om,om,.inl ?_⟩
      apply List.eq_nil_of_length_eq_zero;omega
     ·refine .inr ⟨ad.add (b*wd ty),cap - b,by rw[if_neg hcb];rfl,om,om,?_⟩
      rcases hxs with hxs|⟨hsp,hi2,hrw⟩
      ·left;subst hxs;simp
      ·right
       have had:ad=⟨ad.block,ad.off,none⟩:=by cases ad;simp_all
       rw[had,Addr.add_none]
       refine⟨rfl,hi2,fun i x hx=>?_⟩
       rw[List.getElem?_drop,List.getElem?_take] at hx
       split at hx
       ·obtain⟨us,g1,g2⟩:=hrw _ _ hx
        refine⟨us,?_,g2⟩
        rw[show ad.off+b*wd ty+i*wd ty=ad.off+(b+i)*wd ty by rw[Nat.add_mul];omega];exact g1
       ·cases hx
    |some m3=>
     cases hi with
     |none=>cases hq
     |some e3=>
      obtain⟨h1,hq⟩:=cd_some (show cd (Nat.ble m3 xs.length) _ none=some v from hq)
      obtain⟨h2,hq⟩:=cd_some hq
      obtain⟨h3,hq⟩:=cd_some hq
      obtain⟨h4,hq⟩:=cd_some hq
      have h1:=ble_true h1;have h2:=ble_true h2;have h3:=ble_true h3;have h4:=beq_true h4
      obtain rfl:=Oi hq
      have hb:=run_sliceBounds (P:=P) (isS:=true) (n:=xs.length) (cap:=cap) nlo nhi nmx (fun h=>by cases h) h3 (.inr h2) (by show m3≤cap;omega) e.w
      refine hex _ _ hv (run_slice_of hd hsz hb) ?_
      refine rel_isl.2 (.inr ⟨ad,0,?_,by simp,by simp,.inl (by simp)⟩)
      have e1:orN (some m3) cap=m3:=rfl
      have e2:orN (some e3) xs.length=e3:=rfl
      rw[e1,e2,if_pos h4]
      congr 1<;>first|omega|(simp;omega)
   |_=>cases hq
  ·obtain⟨sz,hsz,rfl⟩:=map_inv hk
   cases u<;>cases hq
  ·cases hk
 ·exact absurd hr (by simp)
end
end Go.Ev
namespace Go.Ev
theorem live_known {e:Env} (hs:St e){id:Id} (l:live e.h id):known e id:=let⟨b,hb,_⟩:=l;hs.dk id b hb
theorem bsize_congr {w w':World}{b:Nat} (h:w'.heap[b]? =w.heap[b]?):bsize w' b=bsize w b:=by unfold bsize;rw[h]
theorem St.next {e e':Env} (hs:St e) (x:Ext e e') (i:Id) (hi:∀b,e'.h.get i=some b→BlkRel e' i b)
 (hother:∀id,id≠i→e'.h.get id=e.h.get id) (hρ:∀id,id≠i→e'.ρ id=e.ρ id) (hkn:known e' i∧(∃k,k<e'.h.next∧i=path k)∧∃b,e'.h.get i=some b)
 (hheap:∀id,id≠i→live e.h id→e'.w.heap[(e.ρ id).1]? =e.w.heap[(e.ρ id).1]?)
 (hinj:live e'.h i→∀id,id≠i→live e.h id→(e.ρ id).1≠(e'.ρ i).1):St e' where
 kn:=fun id hk=>by
  by_cases h:id=i
  ·subst h
   obtain⟨k,hk,he⟩:=hkn.2.1
   exact⟨k,hk,he,fun _=>hkn.2.2⟩
  ·have hk:known e id:=by unfold known at hk⊢;rw[←hρ id h];exact hk
   obtain⟨k,hk,he,hp⟩:=hs.kn id hk
   exact⟨k,Nl hk x.next,he,fun hl=>by rw[hother id h];rw[x.fr] at hl;exact hp hl⟩
 dk:=fun id b hb=>by
  by_cases h:id=i
  ·subst h;exact hkn.1
  ·rw[hother id h] at hb
   exact x.kn id (hs.dk id b hb)
 lo:=by rw[x.fr];exact Nt hs.lo x.next
 blk:=fun id b hb=>by
  by_cases h:id=i
  ·subst h;exact hi b hb
  ·rw[hother id h] at hb
   by_cases hd:b=.dead
   ·subst hd;trivial
   ·exact BlkRel.ext x (hs.dk id b hb) (hheap id h ⟨b,hb,hd⟩) b (hs.blk id b hb)
 inj:=fun id id' l l' he=>by
  have lv:∀j,j≠i→live e'.h j→live e.h j:=fun j hj ⟨b,hb,hd⟩=>⟨b,by rw[hother j hj] at hb;exact hb,hd⟩
  by_cases h:id=i
  ·by_cases h':id'=i
   ·rw[h,h']
   ·subst h
    have l2:=lv id' h' l'
    rw[x.ren id' (live_known hs l2)] at he
    exact absurd he.symm (hinj l id' h' l2)
  ·by_cases h':id'=i
   ·subst h'
    have l2:=lv id h l
    rw[x.ren id (live_known hs l2)] at he
    exact absurd he (hinj l' id h l2)
   ·have l2:=lv id h l
    have l2':=lv id' h' l'
    rw[x.ren id (live_known hs l2),x.ren id' (live_known hs l2')] at he
    exact hs.inj id id' l2 l2' he
 fr:=fun b hb=>by
  rw[x.fr] at hb
  obtain⟨h1,h2⟩:=hs.fr b hb
  exact⟨Nl h1 x.heap,fun h=>h2 (x.own b h1 h)⟩
theorem put_pres (h:H) (i:Id) (c:Blk) (id:Id) (b:Blk) (hb:h.get id=some b):∃b',(h.put i c).get id=some b':=by
 rw[H.get_put]
 by_cases hi:id=i
 ·exact⟨c,if_pos hi⟩
 ·exact⟨b,by rw[if_neg hi];exact hb⟩
def Env.alloc (e:Env) (n:Nat) (o:Obj) (b:Blk):Env:=
 ⟨fun id=>if id=path n then(e.w.heap.size,0) else e.ρ id,e.h.put (path n) b,e.w.alloc o,e.F⟩
theorem alloc_ext {e:Env} (hs:St e){n:Nat} (hf:¬known e (path n)) (o:Obj) (b:Blk):Ext e (e.alloc n o b) where
 next:=Nr _
 kn:=fun id hk=>by
  show(if id=path n then(e.w.heap.size,0) else e.ρ id).2=0
  by_cases h:id=path n
  ·rw[if_pos h]
  ·rw[if_neg h];exact hk
 ren:=fun id hk=>by
  show(if id=path n then _ else _)=_
  rw[if_neg]
  intro h;subst h;exact hf hk
 fr:=rfl
 qt:=⟨rfl,rfl,rfl⟩
 heap:=by show _≤(e.w.alloc o).heap.size;simp
 keep:=fun b' hb' _=>heap_alloc_old _ _ _ hb'
 size:=fun b' hb'=>bsize_congr (heap_alloc_old _ _ _ hb')
 own:=fun b' hb' ⟨id,⟨c,hc,hd⟩,hid⟩=>by
  have hc:(e.h.put (path n) b).get id=some c:=hc
  rw[H.get_put] at hc
  have hid:(if id=path n then(e.w.heap.size,0) else e.ρ id).1=b':=hid
  by_cases h:id=path n
  ·rw[if_pos h] at hid;simp at hid;omega
  ·rw[if_neg h] at hc hid
   exact⟨id,⟨c,hc,hd⟩,hid⟩
 pres:=put_pres _ _ _
 newk:=fun id hk=>by
  have hk:(if id=path n then(e.w.heap.size,0) else e.ρ id).2=0:=hk
  by_cases h:id=path n
  ·exact .inr ⟨b,by show(e.h.put (path n) b).get id=_;rw[H.get_put,if_pos h]⟩
  ·rw[if_neg h] at hk;exact .inl hk
theorem alloc_st {e:Env} (hs:St e){n:Nat} (hn:n<e.h.next) (hf:¬known e (path n)) (o:Obj) (b:Blk) (hb:BlkRel (e.alloc n o b) (path n) b):St (e.alloc n o b):=by
 refine St.next hs (alloc_ext hs hf o b) (path n) ?_ ?_ (fun id h=>if_neg h) ⟨?_,⟨n,hn,rfl⟩,⟨b,?_⟩⟩ ?_ ?_
 ·intro b' hb'
  have hb':(e.h.put (path n) b).get (path n)=some b':=hb'
  rw[H.get_put,if_pos rfl] at hb'
  obtain rfl:=Oi hb'
  exact hb
 ·intro id h
  show(e.h.put (path n) b).get id=_
  rw[H.get_put,if_neg h]
 ·show(if path n=path n then(e.w.heap.size,0) else e.ρ (path n)).2=0
  rw[if_pos rfl]
 ·show(e.h.put (path n) b).get (path n)=_
  rw[H.get_put,if_pos rfl]
 ·intro id _ l
  exact heap_alloc_old _ _ _ (hs.lt l)
 ·intro _ id _ l
  have:=hs.lt l
  show _≠(if path n=path n then(e.w.heap.size,0) else e.ρ (path n)).1
  rw[if_pos rfl]
  simp only;omega
theorem alloc_cells' {e:Env} (hs:St e){n:Nat} (hf:¬known e (path n)) (el:TypeId){l:List AV}{vs:List Value} (hl:RelL e l vs) (ho:∀x∈l,one x=true)
 (c:Array Value) (frz:Nat×Nat) (hfr:∀o,frz.1≤o→o<frz.2→c.size≤o) (hc:l.length≤c.size) (hcv:∀(j:Nat) (v:Value),vs[j]? =some v→c[j]? =some v):BlkRel (e.alloc n (.cells c el frz) (.cs el l false)) (path n) (.cs el l false):=by
 have x:=alloc_ext hs hf (.cells c el frz) (.cs el l false)
 have hr:(e.alloc n (.cells c el frz) (.cs el l false)).ρ (path n)=(e.w.heap.size,0):=if_pos rfl
 simp only[BlkRel,hr]
 refine⟨c,frz,heap_alloc_new _ _,by simpa using hc,fun j y hy=>⟨ho y (List.mem_of_getElem? hy),?_⟩,fun _=>hfr,trivial⟩
 obtain⟨v,hv,hrv⟩:=hl.get hy
 exact⟨v,by simpa using hcv j v hv,Rel.ext x _ _ hrv⟩
theorem alloc_cells {e:Env} (hs:St e){n:Nat} (hf:¬known e (path n)) (el:TypeId){l:List AV}{vs:List Value} (hl:RelL e l vs) (ho:∀x∈l,one x=true)
 (c:Array Value) (hc:l.length≤c.size) (hcv:∀(j:Nat) (v:Value),vs[j]? =some v→c[j]? =some v):BlkRel (e.alloc n (.cells c el) (.cs el l false)) (path n) (.cs el l false):=
 alloc_cells' hs hf el hl ho c (0,0) (fun o h1 h2=>absurd h2 (Nn _)) hc hcv
def Env.bump (e:Env) (k:Nat):Env:=⟨e.ρ,⟨e.h.next+k,e.h.t⟩,e.w,e.F⟩
theorem bump_ext (e:Env) (k:Nat):Ext e (e.bump k):=
 ⟨Nat.le_add_right _ _,fun _ h=>h,fun _ _=>rfl,rfl,Nr _,fun _ _ _=>rfl,fun _ _=>rfl,fun _ _ h=>h,fun _ b h=>⟨b,h⟩,fun _ h=>.inl h,⟨rfl,rfl,rfl⟩⟩
theorem bump_st {e:Env} (hs:St e) (k:Nat):St (e.bump k) where
 kn:=fun id hk=>let⟨j,hj,he,hp⟩:=hs.kn id hk;⟨j,Nl hj (Nat.le_add_right _ _),he,hp⟩
 dk:=hs.dk
 lo:=Nt hs.lo (Nat.le_add_right _ _)
 blk:=fun id b hb=>BlkRel.ext (bump_ext e k) (hs.dk id b hb) rfl b (hs.blk id b hb)
 inj:=hs.inj
 fr:=hs.fr
theorem fresh_none {e:Env} (hs:St e):¬known e (path e.h.next):=by
 intro h
 obtain⟨k,hk,he,_⟩:=hs.kn _ h
 have:=path_inj he
 omega
theorem aside_none {e:Env} (hs:St e){n:Nat} (hlo:e.F.lo≤n) (hf:e.h.get (path n)=none):¬known e (path n):=by
 intro h
 obtain⟨k,hk,he,hp⟩:=hs.kn _ h
 have:=path_inj he
 subst this
 obtain⟨b,hb⟩:=hp hlo
 rw[hf] at hb;cases hb
theorem setRow_bsize (w:World) (g:Nat) (old cs:Array Value) (t:TypeId) (fr:Nat×Nat) (hg:w.heap[g]? =some (.cells old t fr)) (hc:cs.size=old.size) (b:Nat):bsize (w.setRow g cs) b=bsize w b:=by
 by_cases h:b=g
 ·subst h;unfold bsize;rw[setRow_heap w b old cs t fr hg,hg];exact hc
 ·exact bsize_congr (setRow_other w g b cs h)
def Env.write (e:Env) (id:Id) (b:Blk) (cs:Array Value):Env:=⟨e.ρ,e.h.put id b,e.w.setRow (e.ρ id).1 cs,e.F⟩
theorem write_ext {e:Env}{id:Id}{el:TypeId}{l:List AV}{fz:Bool} (hid:e.h.get id=some (.cs el l fz)){old cs:Array Value}{fr:Nat×Nat}
 (hg:e.w.heap[(e.ρ id).1]? =some (.cells old el fr)) (hc:cs.size=old.size){el':TypeId}{l':List AV}{fz':Bool}:Ext e (e.write id (.cs el' l' fz') cs) where
 next:=Nr _
 kn:=fun _ h=>h
 ren:=fun _ _=>rfl
 fr:=rfl
 qt:=⟨rfl,rfl,rfl⟩
 heap:=by show _≤(e.w.setRow _ _).heap.size;simp
 keep:=fun b hb ho=>by
  apply setRow_other
  intro h
  exact ho ⟨id,⟨_,hid,by simp⟩,h.symm⟩
 size:=fun b _=>setRow_bsize _ _ _ _ _ _ hg hc b
 own:=fun b _ ⟨j,⟨c,hc',hd⟩,hj⟩=>by
  have hc':(e.h.put id (.cs el' l' fz')).get j=some c:=hc'
  rw[H.get_put] at hc'
  by_cases h:j=id
  ·subst h;exact⟨j,⟨_,hid,by simp⟩,hj⟩
  ·rw[if_neg h] at hc'
   exact⟨j,⟨c,hc',hd⟩,hj⟩
 pres:=put_pres _ _ _
 newk:=fun _ h=>.inl h
theorem write_st {e:Env} (hs:St e){id:Id}{el:TypeId}{l:List AV}{fz:Bool} (hid:e.h.get id=some (.cs el l fz)){old cs:Array Value}{fr:Nat×Nat}
 (hg:e.w.heap[(e.ρ id).1]? =some (.cells old el fr)) (hc:cs.size=old.size){el':TypeId}{l':List AV}{fz':Bool}
 (hb:BlkRel (e.write id (.cs el' l' fz') cs) id (.cs el' l' fz')):St (e.write id (.cs el' l' fz') cs):=by
 refine St.next hs (write_ext hid hg hc) id ?_ ?_ (fun _ _=>rfl) ⟨hs.dk id _ hid,hs.num hid,⟨.cs el' l' fz',?_⟩⟩ ?_ ?_
 ·intro b' hb'
  have hb':(e.h.put id (.cs el' l' fz')).get id=some b':=hb'
  rw[H.get_put,if_pos rfl] at hb'
  obtain rfl:=Oi hb'
  exact hb
 ·intro j h
  show(e.h.put id _).get j=_
  rw[H.get_put,if_neg h]
 ·show(e.h.put id _).get id=_
  rw[H.get_put,if_pos rfl]
 ·intro j hj l2
  apply setRow_other
  intro h
  exact hj (hs.inj j id l2 ⟨_,hid,by simp⟩ h)
 ·intro _ j hj l2 h
  exact hj (hs.inj j id l2 ⟨_,hid,by simp⟩ h)
def layA (c:Array Value) (o:Nat):List Value→Array Value
 |[]=>c
 |v::vs=>layA (c.setIfInBounds o v) (o+1) vs
theorem layA_size:∀(vs:List Value) (c:Array Value) (o:Nat),(layA c o vs).size=c.size
 |[],_,_=>rfl
 |v::vs,c,o=>by rw[layA,layA_size vs];simp
theorem layA_get:∀(vs:List Value) (c:Array Value) (o j:Nat),o+vs.length≤c.size→(layA c o vs)[j]? =if o≤j∧j<o+vs.length then vs[j - o]? else c[j]?
 |[],c,o,j,_=>by rw[if_neg (by simp)];rfl
 |v::vs,c,o,j,h=>by
  simp only[Lc] at h
  rw[layA,layA_get vs _ _ _ (by simp;omega)]
  by_cases h1:o+1≤j∧j<o+1+vs.length
  ·rw[if_pos h1,if_pos (by simp;omega)]
   have:j - o=(j - (o+1))+1:=om
   rw[this];simp
  ·rw[if_neg h1]
   by_cases h2:j=o
   ·subst h2
    rw[if_pos (by simp),Array.getElem?_setIfInBounds_self_of_lt om]
    simp
   ·rw[if_neg (by simp;omega),Array.getElem?_setIfInBounds_ne om]
theorem setRow_id {w:World}{g:Nat}{c:Array Value}{t:TypeId}{fr:Nat×Nat} (hg:w.heap[g]? =some (.cells c t fr)):w.setRow g c=w:=by
 have hlt:g<w.heap.size:=(Array.getElem?_eq_some_iff.1 hg).1
 have hv:w.heap[g]=.cells c t fr:=(Array.getElem?_eq_some_iff.1 hg).2
 unfold World.setRow
 cases w with
 |mk heap tape drawn os output=>
  congr 1
  apply Array.ext
  ·simp
  ·intro k h1 h2
   simp only[Array.getElem_modify]
   split
   ·rename_i hk;subst hk;simp at hv;simp[hv]
   ·rfl
theorem run_storeCells_lay {P:Program} (g:Nat) (t:TypeId) (fr:Nat×Nat):∀(vs:List Value) (o i:Nat) (c:Array Value) (w:World),w.heap[g]? =some (.cells c t fr)→o+i+vs.length≤c.size→
 (∀v∈vs,v.oneCell'=true)→(∀j,j<vs.length→¬(fr.1≤o+i+j∧o+i+j<fr.2))→
 (storeCells ⟨g,o,none⟩ vs i).run P w=.ok () (w.setRow g (layA c (o+i) vs))
 |[],o,i,c,w,hg,_,_,_=>by
  simp only[storeCells,layA,setRow_id hg];rfl
 |v::vs,o,i,c,w,hg,hle,h1,hf=>by
  simp only[Lc] at hle
  have hcell:w.cell? ⟨g,o+i,none⟩=some (c[o+i]'(by omega)):=by
   rw[cell_of_row _ _ _ _ _ _ hg];exact Aq om
  have hfz:w.frozen? ⟨g,o+i,none⟩=false:=by
   have:=hf 0 (by simp)
   simp only[Nat.add_zero] at this
   simp only[World.frozen?,hg]
   by_cases ha:fr.1≤o+i
   ·by_cases hb:o+i<fr.2
    ·exact absurd ⟨ha,hb⟩ this
    ·simp[hb]
   ·simp[ha]
  have hst:(store ((⟨g,o,none⟩:Addr).add i) v).run P w=.ok () (w.setRow g (c.setIfInBounds (o+i) v)):=by
   rw[Addr.add_none,run_store P w _ v _ (h1 v (by simp)),hcell]
   simp[hfz,setCell_eq_setRow w g (o+i) c t fr v hg]
  have ih:=run_storeCells_lay (P:=P) g t fr vs o (i+1) (c.setIfInBounds (o+i) v) (w.setRow g (c.setIfInBounds (o+i) v)) (setRow_heap w g c _ t _ hg) (by simp;omega) (fun x hx=>h1 x (by simp[hx])) (fun j hj=>by
   have:=hf (j+1) (by simp;omega)
   rw[show o+(i+1)+j=o+i+(j+1) by omega];exact this)
  simp only[storeCells,Sem.run_bind,hst,Result.andThen_ok,ih,setRow_setRow]
  rw[layA,Nat.add_assoc]
theorem cells_rel {e:Env}{x:AV}{cv:Value} (hr:Rel e x cv){cs:List AV} (h:x.cells=some cs):RelL e cs cv.cells.toList∧∀c∈cs,one c=true:=by
 have single:∀(y:AV),one y=true→Rel e y cv→cs=[y]→RelL e cs cv.cells.toList∧∀c∈cs,one c=true:=by
  intro y ho hr hcs
  have h1:=hr.one_cell ho
  subst hcs
  have:cv.cells=#[cv]:=by cases cv<;>simp[Value.oneCell'] at h1<;>rfl
  rw[this]
  refine⟨by simp only[RelL];exact⟨hr,trivial⟩,fun c hc=>?_⟩
  rw[List.mem_singleton.1 hc];exact ho
 cases x with
 |ag cs'=>
  obtain rfl:=Oi (show some cs'=some cs from h)
  simp only[Rel] at hr
  obtain⟨h1,vs,rfl,h2⟩:=hr
  exact⟨h2,h1⟩
 |tu _=>cases h
 |j=>cases h
 |_=>exact single _ rfl hr (Oi (show some _=some cs from h)).symm
theorem storeAt_inv {x:AV}{new:List AV}{h h':H} (hr:storeAt x new h=some h'):
 ∃i off el l fz l',x=.p i off∧h.get i=some (.cs el l fz)∧fz=false∧lay l off new=some l'∧h'=h.put i (.cs el l' fz):=by
 cases x with
 |p i off=>
  have hr:blkLay (h.get i) i off new h=some h':=hr
  cases hb:h.get i with
  |none=>rw[hb] at hr;cases hr
  |some b=>
   rw[hb] at hr
   cases b with
   |cs el l fz=>
    cases fz with
    |true=>cases hr
    |false=>
    have hr:(Option.rec none (fun l'=>some (h.put i (.cs el l' false))) (lay l off new):Option H)=some h':=hr
    cases hl:lay l off new with
    |none=>rw[hl] at hr;cases hr
    |some l'=>
     rw[hl] at hr
     exact⟨i,off,el,l,false,l',rfl,hb,rfl,hl,(Oi (show some _=some h' from hr)).symm⟩
   |mp es=>cases hr
   |it s p=>cases hr
   |dead=>cases hr
 |_=>cases hr
theorem store_both {P:Program}{e:Env} (hs:St e){x:AV}{cv:Value} (hx:Rel e x cv){new:List AV}{vs:List Value} (hn:RelL e new vs) (ho:∀c∈new,one c=true){h':H} (hr:storeAt x new e.h=some h') (hne:new≠[]):
 ∃ad w',cv=.pointer (some ad)∧(storeCells ad vs).run P e.w=.ok () w'∧St ⟨e.ρ,h',w',e.F⟩∧Ext e ⟨e.ρ,h',w',e.F⟩:=by
 obtain⟨i,off,el,l,fz,l',rfl,hg,hfz,hl,rfl⟩:=storeAt_inv hr
 obtain⟨kn,rfl⟩:=rel_p hx
 obtain⟨hl1,hl2,hl3⟩:=lay_some _ _ _ _ hl
 have hlen:=hn.len
 have hpos:0<new.length:=by cases new with
  |nil=>exact absurd rfl hne
  |cons _ _=>simp
 have hl2:=hl2 hpos
 obtain⟨c,fr,hc1,hc2,hc3,hc4,hc5⟩:=hs.blk i _ hg
 have hvone:∀v∈vs,v.oneCell'=true:=fun v hv=>by
  obtain⟨j,hj⟩:=List.mem_iff_getElem?.1 hv
  have hjl:j<new.length:=by have:=(List.getElem?_eq_some_iff.1 hj).1;omega
  obtain⟨u,hu,hru⟩:=hn.get (Lq hjl)
  rw[hj] at hu
  obtain rfl:=Oi hu
  exact hru.one_cell (ho _ (List.getElem_mem hjl))
 have hrun:=run_storeCells_lay (P:=P) (e.ρ i).1 el fr vs ((e.ρ i).2+off) 0 c e.w hc1 om hvone (fun j hj hh=>by
  have:=hc4 hfz _ hh.1 hh.2
  omega)
 have hsz:=layA_size vs c ((e.ρ i).2+off+0)
 have x:=write_ext (el':=el) (l':=l') (fz':=fz) hg hc1 hsz
 refine⟨_,_,rfl,hrun,?_,x⟩
 refine write_st hs hg hc1 hsz ?_
 refine⟨layA c ((e.ρ i).2+off+0) vs,fr,setRow_heap _ _ _ _ _ _ hc1,?_,fun j y hy=>?_,fun h o h1 h2=>by rw[hsz];exact hc4 h o h1 h2,hc5⟩
 ·rw[hsz,hl1];exact hc2
 ·have hget:=layA_get vs c ((e.ρ i).2+off+0) ((e.ρ i).2+j) om
  rw[hl3 j] at hy
  show one y=true∧∃v,(layA c _ vs)[(e.ρ i).2+j]? =some v∧_
  rw[hget]
  by_cases hin:off≤j∧j<off+new.length
  ·rw[if_pos hin] at hy
   rw[if_pos om]
   obtain⟨u,hu,hru⟩:=hn.get hy
   refine⟨ho y (List.mem_of_getElem? hy),u,?_,Rel.ext x _ _ hru⟩
   rw[←hu];congr 1;omega
  ·rw[if_neg hin] at hy
   rw[if_neg om]
   obtain⟨h1,u,hu,hru⟩:=hc3 j y hy
   exact⟨h1,u,hu,Rel.ext x _ _ hru⟩
end Go.Ev
end
noncomputable section
set_option linter.unusedVariables false
set_option linter.unusedSimpArgs false
namespace Go.Ev
section
variable {P:Program}{G:Gs}{o:Oper}{e:Env}{a:Act}{fr:T AV}{call:CallF}{id:Nat}{ao:AOp}{v:AV}{h':H}
theorem sound_store {t:TypeId}{x y:Operand} (hs:St e) (hf:FrRel e fr a.tmps) (hg:GRel G e) (ho:o.op=.store t x y)
 (hc:compOp P G (.store t x y)=some ao) (hr:evOp call ao fr e.h id=.ok v h'):OpS P o e a v h':=by
 simp only[compOp] at hc
 obtain⟨n,hn,hc⟩:=bind_inv hc
 obtain⟨x',hx,hc⟩:=bind_inv hc
 obtain⟨y',hy,hc⟩:=bind_inv hc
 split at hc
 ·cases hc
 rename_i hn0
 obtain rfl:=Oi hc
 have hr:(Option.rec .no (fun cs=>cd (Nat.beq (len cs) n) (Option.rec .no (fun h'=>.ok undefA h') (storeAt (ev x' fr) cs e.h)) .no) (ev y' fr).cells:R)=.ok v h':=hr
 have rx:=od_rel hf hg hx
 have ry:=od_rel hf hg hy
 cases hcs:(ev y' fr).cells with
 |none=>rw[hcs] at hr;cases hr
 |some cs=>
  rw[hcs] at hr
  have hr:cd (Nat.beq (len cs) n) (Option.rec .no (fun h'=>.ok undefA h') (storeAt (ev x' fr) cs e.h):R) .no=.ok v h':=hr
  rw[cd_eq,beq_nat,len_eq] at hr
  by_cases hln:cs.length=n
  case neg=>rw[Df hln] at hr;cases hr
  rw[Dt hln] at hr
  cases hst:storeAt (ev x' fr) cs e.h with
  |none=>rw[hst] at hr;cases hr
  |some h2=>
   rw[hst] at hr
   have hr:R.ok undefA h2=.ok v h':=hr
   injection hr with h1 h3;subst h1 h3
   obtain⟨hrel,hone⟩:=cells_rel ry hcs
   have hcl:(a.eval y).cells.size=n:=by
    have:=hrel.len;simp at this;omega
   have hne:cs≠[]:=by
    intro h;subst h;exact hn0 hln.symm
   obtain⟨ad,w',hcv,hrun,hst',hx'⟩:=store_both (P:=P) hs rx hrel hone hst hne
   refine OpS.skip (w':=w') ?_ e.ρ hst' hx' (rel_undef _)
   simp[execOp,ho,Instr.storeAt,hcv,Instr.sureAddr,storeVar,run_size hn,hcl,hrun]
theorem putNew_inv {n:Nat}{b:Blk}{f:Id→AV}{h:H} (hr:putNew n b f h=.ok v h'):n<h.next∧h.get (path n)=none∧v=f (path n)∧h'=h.put (path n) b:=by
 have hr:cd (Nat.blt n h.next) (Option.rec (.ok (f (path n)) (h.put (path n) b)) (fun _=>.no) (h.get (path n)):R) .no=.ok v h':=hr
 rw[cd_eq,blt_nat] at hr
 by_cases hn:n<h.next
 case neg=>rw[Df hn] at hr;cases hr
 rw[Dt hn] at hr
 cases hg:h.get (path n) with
 |some _=>rw[hg] at hr;cases hr
 |none=>
  rw[hg] at hr
  have hr:R.ok (f (path n)) (h.put (path n) b)=.ok v h':=hr
  injection hr with h1 h2
  exact⟨hn,rfl,h1.symm,h2.symm⟩
theorem alloc_known (e:Env) (n:Nat) (ob:Obj) (b:Blk):known (e.alloc n ob b) (path n):=by
 show(if path n=path n then(e.w.heap.size,0) else e.ρ (path n)).2=0
 rw[if_pos rfl]
theorem alloc_rel_p (e:Env) (n:Nat) (ob:Obj) (b:Blk):Rel (e.alloc n ob b) (.p (path n) 0) (.pointer (some ⟨e.w.heap.size,0,none⟩)):=by
 simp only[Rel]
 refine⟨alloc_known e n ob b,?_⟩
 have hr:(e.alloc n ob b).ρ (path n)=(e.w.heap.size,0):=if_pos rfl
 rw[hr]
theorem sound_new {t:TypeId} (hs:St e) (hlo:e.F.lo≤id) (ho:o.op=.alloc t)
 (hc:compOp P G (.alloc t)=some ao) (hr:evOp call ao fr e.h id=.ok v h'):OpS P o e a v h':=by
 simp only[compOp] at hc
 obtain⟨z,hz,rfl⟩:=map_inv hc
 obtain⟨hn,hf0,rfl,rfl⟩:=putNew_inv (show putNew id (.cs t z false) (fun id=>.p id 0) e.h=.ok v h' from hr)
 have hf:=aside_none hs hlo hf0
 obtain⟨zv,hrun,hzs⟩:=run_zero hz e.w
 obtain⟨hrel,hone⟩:=rel_avOfs (e:=e) hzs
 have hb:=alloc_cells hs hf t hrel hone zv.cells (by have:=hrel.len;simp at this;omega) (fun j u hu=>by simpa using hu)
 refine OpS.value (cv:=.pointer (some ⟨e.w.heap.size,0,none⟩)) (w':=e.w.alloc (.cells zv.cells t)) ?_ _ (alloc_st hs hn hf _ _ hb) (alloc_ext hs hf _ _) (alloc_rel_p e id _ _)
 simp[execOp,ho,Instr.alloc,hrun,newVar,newRow]
theorem sound_box {t:TypeId}{x:Operand} (hs:St e) (hlo:e.F.lo≤id) (hf:FrRel e fr a.tmps) (hg:GRel G e) (ho:o.op=.box t x)
 (hc:compOp P G (.box t x)=some ao) (hr:evOp call ao fr e.h id=.ok v h'):OpS P o e a v h':=by
 simp only[compOp] at hc
 obtain⟨n,hn,hc⟩:=bind_inv hc
 obtain⟨x',hx,rfl⟩:=map_inv hc
 have rx:=od_rel hf hg hx
 have hr:(Option.rec .no (fun cs=>cd (Nat.beq (len cs) n) (putNew id (.cs t cs false) (fun id=>.p id 0) e.h) .no) (ev x' fr).cells:R)=.ok v h':=hr
 cases hcs:(ev x' fr).cells with
 |none=>rw[hcs] at hr;cases hr
 |some cs=>
  rw[hcs] at hr
  have hr:cd (Nat.beq (len cs) n) (putNew id (.cs t cs false) (fun id=>.p id 0) e.h) .no=.ok v h':=hr
  rw[cd_eq,beq_nat,len_eq] at hr
  by_cases hln:cs.length=n
  case neg=>rw[Df hln] at hr;cases hr
  rw[Dt hln,if_pos rfl] at hr
  obtain⟨hn',hf0,rfl,rfl⟩:=putNew_inv hr
  have hf':=aside_none hs hlo hf0
  obtain⟨hrel,hone⟩:=cells_rel rx hcs
  have hb:=alloc_cells hs hf' t hrel hone (a.eval x).cells (by have:=hrel.len;simp at this;omega) (fun j u hu=>by simpa using hu)
  refine OpS.value (cv:=.pointer (some ⟨e.w.heap.size,0,none⟩)) (w':=e.w.alloc (.cells (a.eval x).cells t)) ?_ _ (alloc_st hs hn' hf' _ _ hb) (alloc_ext hs hf' _ _) (alloc_rel_p e id _ _)
  simp[execOp,ho,Instr.box,newVar,newRow]
end
end Go.Ev
namespace Go.Ev
theorem zip_lay (off:Nat):∀(vs:List Value) (k:Nat) (c:Array Value),(vs.zipIdx k).foldl (fun cs (x:Value×Nat)=>cs.setIfInBounds (off+x.2) x.1) c=layA c (off+k) vs
 |[],_,_=>rfl
 |v::vs,k,c=>by
  simp only[List.zipIdx_cons,List.foldl_cons,layA]
  rw[zip_lay off vs (k+1)]
  rfl
section
variable {P:Program}{G:Gs}{o:Oper}{e:Env}{a:Act}{fr:T AV}{call:CallF}{id:Nat}{ao:AOp}{v:AV}{h':H}
theorem lay_rel {l l' new:List AV}{c:Array Value}{vs:List Value}{off:Nat} (hl:RelL e l c.toList) (hn:RelL e new vs) (h:lay l off new=some l') (hle:off+new.length≤l.length):RelL e l' (layA c off vs).toList:=by
 obtain⟨h1,h2,h3⟩:=lay_some _ _ _ _ h
 have hlen:=hl.len
 have hnl:=hn.len
 simp only[Array.length_toList] at hlen
 obtain⟨us,r1,r2,r3⟩:=relL_of (e:=e) l' (fun j=>(layA c off vs)[j]?) (fun j y hy=>by
  rw[h3 j] at hy
  show∃u,(layA c off vs)[j]? =some u∧Rel e y u
  rw[layA_get vs c off j om]
  by_cases hin:off≤j∧j<off+new.length
  ·rw[if_pos hin] at hy
   rw[if_pos om]
   exact hn.get hy
  ·rw[if_neg hin] at hy
   rw[if_neg om]
   simpa using hl.get hy)
 have:us=(layA c off vs).toList:=by
  apply List.ext_getElem?
  intro j
  by_cases hj:j<us.length
  ·rw[Lq hj]
   have:=r3 j _ (Lq hj)
   simpa using this.symm
  ·rw[Lz om,Lz]
   simp only[Array.length_toList,layA_size];omega
 rw[←this];exact r1
theorem lay_one {l l' new:List AV}{off:Nat} (h:lay l off new=some l') (h1:∀x∈l,one x=true) (h2:∀x∈new,one x=true):∀x∈l',one x=true:=by
 obtain⟨_,_,h3⟩:=lay_some _ _ _ _ h
 intro x hx
 obtain⟨j,hj⟩:=List.mem_iff_getElem?.1 hx
 rw[h3 j] at hj
 split at hj
 ·exact h2 x (List.mem_of_getElem? hj)
 ·exact h1 x (List.mem_of_getElem? hj)
theorem lay_nil {l l':List AV}{off:Nat} (h:lay l off []=some l'):l'=l:=by
 obtain⟨_,_,h3⟩:=lay_some _ _ _ _ h
 apply List.ext_getElem?
 intro j
 rw[h3 j,if_neg (by simp)]
theorem fill_rel (hf:FrRel e fr a.tmps) (hg:GRel G e) (place:Nat→Option (Nat×Nat)):∀(ps:List (Nat×Operand)) (ps':List (Nat×Nat×Od)),partsOf G place ps=some ps'→
 ∀(l l':List AV) (c:Array Value),RelL e l c.toList→(∀x∈l,one x=true)→fillA ps' fr l=some l'→
 ∃c',Instr.fill place c (ps.map fun(i,x)=>(i,a.eval x))=some c'∧RelL e l' c'.toList∧c'.size=c.size∧∀x∈l',one x=true
 |[],ps',hp,l,l',c,hl,ho,h=>by
  simp only[partsOf,Oj] at hp;subst hp
  obtain rfl:=Oi (show some l=some l' from h)
  exact⟨c,rfl,hl,rfl,ho⟩
 |(i,x)::ps,ps',hp,l,l',c,hl,ho,h=>by
  simp only[partsOf] at hp
  split at hp
  ·rename_i off n y ys hpl hy hys
   split at hp
   ·cases hp
   rename_i hn0
   simp only[Oj] at hp;subst hp
   have ry:=od_rel hf hg hy
   have h:(Option.rec none (fun cs=>cd (Nat.beq (len cs) n) (Option.rec none (fun l'=>fillA ys fr l') (lay l off cs)) none) (ev y fr).cells:Option (List AV))=some l':=h
   cases hcs:(ev y fr).cells with
   |none=>rw[hcs] at h;cases h
   |some cs=>
    rw[hcs] at h
    obtain⟨h1,h⟩:=cd_some (show cd (Nat.beq (len cs) n) _ none=some l' from h)
    have h1:=beq_true h1
    rw[len_eq] at h1
    cases hlay:lay l off cs with
    |none=>rw[hlay] at h;cases h
    |some l1=>
     rw[hlay] at h
     have h:fillA ys fr l1=some l':=h
     obtain⟨hcr,hco⟩:=cells_rel ry hcs
     have hcl:(a.eval x).cells.size=n:=by have:=hcr.len;simp at this;omega
     have hsz:c.size=l.length:=by have:=hl.len;simpa using this
     have hfit:off+n≤c.size∨n=0:=by
      obtain⟨_,hh,_⟩:=lay_some _ _ _ _ hlay
      rcases Nat.eq_zero_or_pos n with h0|h0
      ·exact .inr h0
      ·exact .inl (by have:=hh om;omega)
     have hfold:(a.eval x).cells.zipIdx.foldl (fun cs (q:Value×Nat)=>cs.setIfInBounds (off+q.2) q.1) c=layA c off (a.eval x).cells.toList:=by
      rw[←Array.foldl_toList,Array.toList_zipIdx,zip_lay]
      rfl
     by_cases hle:off+n≤c.size
     ·have hrel1:=lay_rel hl hcr hlay om
      obtain⟨c',hc',hr',hs',ho'⟩:=fill_rel hf hg place ps ys hys l1 l' _ hrel1 (lay_one hlay ho hco) h
      refine⟨c',?_,hr',by rw[hs',layA_size],ho'⟩
      simp only[List.map_cons,Instr.fill,hpl]
      have hcond:((decide ((a.eval x).cells.size≠n))||decide (off+(a.eval x).cells.size>c.size))=false:=by
       rw[hcl];simp;omega
      rw[hcond]
      simp only[Bool.false_eq_true,if_false]
      rw[←hc']
      exact congrArg (fun z=>Instr.fill place z _) hfold
     ·exact absurd (hfit.resolve_right hn0) hle
  ·cases hp
theorem zero_inv {t:TypeId}{z:List AV} (h:zeroOf P t=some z):∃i zv,P.info? t=some i∧i.zero=some zv∧avOfs zv.cells.toList=some z:=by
 unfold zeroOf at h
 obtain⟨i,hi,h⟩:=bind_inv h
 obtain⟨zv,hz,h⟩:=bind_inv h
 exact⟨i,zv,hi,hz,h⟩
theorem sound_bld {t:TypeId}{ps:Array (Nat×Operand)}{z:List AV}{ps':List (Nat×Nat×Od)}{place:Nat→Option (Nat×Nat)} (hs:St e) (hf:FrRel e fr a.tmps) (hg:GRel G e) (ho:o.op=.build t ps)
 (hz:zeroOf P t=some z) (hp:partsOf G place ps.toList=some ps')
 (hb:∀zv:Value,(∃i,P.info? t=some i∧i.zero=some zv)→∀l,P.built t l=Instr.fill place zv.cells l)
 (hr:evOp call (.bld z ps') fr e.h id=.ok v h'):OpS P o e a v h':=by
 have hr:(Option.rec .no (fun l=>.ok (.ag l) e.h) (fillA ps' fr z):R)=.ok v h':=hr
 cases hfl:fillA ps' fr z with
 |none=>rw[hfl] at hr;cases hr
 |some l=>
  rw[hfl] at hr
  have hr:R.ok (.ag l) e.h=.ok v h':=hr
  injection hr with h1 h2;subst h1 h2
  obtain⟨i,zv,hi,hzv,hzs⟩:=zero_inv hz
  obtain⟨hzr,hzo⟩:=rel_avOfs (e:=e) hzs
  obtain⟨c',hc',hr',_,ho'⟩:=fill_rel hf hg place _ _ hp z l zv.cells hzr hzo hfl
  refine OpS.same hs (cv:=.agg c') ?_ (by simp only[Rel];exact⟨ho',c',rfl,hr'⟩)
  have hrun:=run_build (P:=P) e.w t (ps.map fun(i,x)=>(i,a.eval x)) c' (by rw[hb zv ⟨i,hi,hzv⟩,Array.toList_map];exact hc')
  simp[execOp,ho,hrun]
theorem sound_build {t:TypeId}{ps:Array (Nat×Operand)} (hs:St e) (hf:FrRel e fr a.tmps) (hg:GRel G e) (ho:o.op=.build t ps)
 (hc:compOp P G (.build t ps)=some ao) (hr:evOp call ao fr e.h id=.ok v h'):OpS P o e a v h':=by
 simp only[compOp] at hc
 obtain⟨z,hz,hc⟩:=bind_inv hc
 obtain⟨d,hd,hc⟩:=bind_inv hc
 split at hc
 ·rename_i fs
  obtain⟨places,hpl,hc⟩:=bind_inv hc
  obtain⟨ps',hp,rfl⟩:=map_inv hc
  refine sound_bld hs hf hg ho hz hp (fun zv ⟨i,hi,hzv⟩ l=>?_) hr
  simp only[Program.built,hi,hd,hzv,hpl]
 ·rename_i n el
  obtain⟨sz,hsz,hc⟩:=bind_inv hc
  obtain⟨ps',hp,rfl⟩:=map_inv hc
  obtain⟨ie,hie,rfl⟩:=map_inv hsz
  refine sound_bld hs hf hg ho hz hp (fun zv ⟨i,hi,hzv⟩ l=>?_) hr
  simp only[Program.built,hi,hd,hzv,hie]
 ·cases hc
theorem repl_len (z:List AV):∀n,(repl n z).length=n*z.length
 |0=>by show([]:List AV).length=_;simp
 |n+1=>by
  show(cat z (repl n z)).length=_
  rw[cat_eq,La,repl_len z n,Nat.add_mul];omega
theorem repl_mem (z:List AV):∀n x,x∈repl n z→x∈z
 |0,x,h=>by have h:x∈([]:List AV):=h;simp at h
 |n+1,x,h=>by
  have h:x∈cat z (repl n z):=h
  rw[cat_eq,List.mem_append] at h
  exact h.elim id (repl_mem z n x)
theorem RelL.append:∀{xs ys:List AV}{vs ws:List Value},RelL e xs vs→RelL e ys ws→RelL e (xs++ys) (vs++ws)
 |[],ys,[],ws,_,h=>h
 |[],_,_::_,_,h,_=>by simp[RelL] at h
 |_::_,_,[],_,h,_=>by simp[RelL] at h
 |x::xs,ys,v::vs,ws,h,h'=>by
  simp only[RelL,List.cons_append] at h⊢
  exact⟨h.1,RelL.append h.2 h'⟩
def rep (n:Nat) (vs:List Value):List Value:=match n with
 |0=>[]
 |n+1=>vs++rep n vs
theorem rep_len (z:List Value):∀n,(rep n z).length=n*z.length
 |0=>by simp[rep]
 |n+1=>by rw[rep,La,rep_len z n,Nat.add_mul];omega
theorem rep_get (z:List Value) (hz:0<z.length):∀n j,j<n*z.length→(rep n z)[j]? =z[j % z.length]?
 |0,j,h=>by simp at h
 |n+1,j,h=>by
  rw[rep]
  by_cases hj:j<z.length
  ·rw[List.getElem?_append_left hj,Nat.mod_eq_of_lt hj]
  ·rw[List.getElem?_append_right om,rep_get z hz n _ (by rw[Nat.add_mul] at h;omega),←Nat.mod_eq_sub_mod om]
theorem repl_rel {z:List AV}{zs:List Value} (h:RelL e z zs):∀n,RelL e (repl n z) (rep n zs)
 |0=>by show RelL e [] [];simp[RelL]
 |n+1=>by
  show RelL e (cat z (repl n z)) _
  rw[cat_eq];exact RelL.append h (repl_rel h n)
theorem rep_array (z:Array Value) (n k:Nat) (hz:0<z.size) (hk:k=n*z.size):((Array.range k).map (fun i=>z[i % z.size]!)).toList=rep n z.toList:=by
 apply List.ext_getElem?
 intro j
 by_cases hj:j<k
 ·rw[rep_get z.toList (by simpa using hz) n j (by simpa using hk▸hj)]
  have:j % z.size<z.size:=Nat.mod_lt _ hz
  simp[hj,this]
 ·rw[Lz (by simpa using hj),Lz (by rw[rep_len];simp;omega)]
theorem alloc_rel_sl (e:Env) (n:Nat) (c:Array Value) (el:TypeId) (b:Blk) (sz len cap:Nat) (ex:Bool) (h1:len≤cap) (lo:Nat) (hlo:len≤lo) (hlo2:lo≤cap) (hex:ex=true→cap=lo) (h2:cap*sz≤c.size):
 Rel (e.alloc n (.cells c el) b) (.sl (path n) 0 sz len lo ex) (.slice (some ⟨e.w.heap.size,0,none⟩) len cap):=by
 have hr:(e.alloc n (.cells c el) b).ρ (path n)=(e.w.heap.size,0):=if_pos rfl
 simp only[Rel]
 refine⟨alloc_known e n _ b,_,_,rfl,hlo,hlo2,hex,.inr ?_⟩
 rw[hr]
 refine⟨rfl,?_⟩
 have:bsize (e.alloc n (.cells c el) b).w e.w.heap.size=c.size:=by
  show bsize (e.w.alloc (.cells c el)) e.w.heap.size=_
  unfold bsize
  rw[heap_alloc_new]
 simp only[this];omega
theorem elem_inv {t el:TypeId} (h:elemOf? P t=some el):P.underlying t=some (.slice el):=by
 unfold elemOf? at h
 obtain⟨d,hd,h⟩:=bind_inv h
 split at h
 ·cases h;exact hd
 ·cases h
theorem drop_ext (e:Env) (ob:Obj):Ext e ⟨e.ρ,e.h,e.w.alloc ob,e.F⟩:=
 ⟨Nr _,fun _ h=>h,fun _ _=>rfl,rfl,by simp,fun b hb _=>heap_alloc_old _ _ _ hb,fun b hb=>bsize_congr (heap_alloc_old _ _ _ hb),fun _ _ h=>h,fun _ b h=>⟨b,h⟩,fun _ h=>.inl h,⟨rfl,rfl,rfl⟩⟩
theorem drop_st {e:Env} (hs:St e) (ob:Obj):St ⟨e.ρ,e.h,e.w.alloc ob,e.F⟩ where
 kn:=hs.kn
 dk:=hs.dk
 lo:=hs.lo
 blk:=fun id b hb=>by
  by_cases hd:b=.dead
  ·subst hd;trivial
  ·exact BlkRel.ext (drop_ext e ob) (hs.dk id b hb) (heap_alloc_old _ _ _ (hs.lt ⟨b,hb,hd⟩)) b (hs.blk id b hb)
 inj:=hs.inj
 fr:=fun b hb=>⟨by have:=(hs.fr b hb).1;simp;omega,(hs.fr b hb).2⟩
theorem sound_bsl {t:TypeId}{n:Nat}{ps:Array (Nat×Operand)} (hs:St e) (hlo:e.F.lo≤id) (hf:FrRel e fr a.tmps) (hg:GRel G e) (ho:o.op=.buildSlice t n ps)
 (hc:compOp P G (.buildSlice t n ps)=some ao) (hr:evOp call ao fr e.h id=.ok v h'):OpS P o e a v h':=by
 simp only[compOp] at hc
 obtain⟨el,hel,hc⟩:=bind_inv hc
 obtain⟨sz,hsz,hc⟩:=bind_inv hc
 obtain⟨z,hz,hc⟩:=bind_inv hc
 split at hc
 ·cases hc
 rename_i hn
 obtain⟨ps',hp,rfl⟩:=map_inv hc
 have hu:=elem_inv hel
 obtain⟨i,zv,hi,hzv,hzs⟩:=zero_inv hz
 obtain⟨hzr,hzo⟩:=rel_avOfs (e:=e) hzs
 have hzl:zv.cells.size=sz:=by have:=hzr.len;simp at this;omega
 have hr:(match fillA ps' fr (repl n z) with
  |some cs=>cd (Nat.beq n 0) (.ok .em e.h) (putNew id (.cs el cs false) (fun id=>.sl id 0 sz n n true) e.h)
  |none=>.no:R)=.ok v h':=hr
 split at hr
 ·rename_i cs hfl
  obtain⟨c',hc',hr',hcs',ho'⟩:=fill_rel hf hg (fun i=>some (i*sz,sz)) _ _ hp (repl n z) cs ((Array.range (n*sz)).map (fun i=>zv.cells[i % zv.cells.size]!))
   (by rw[rep_array zv.cells n _ om (by rw[hzl])];exact repl_rel hzr n) (fun x hx=>hzo x (repl_mem z n x hx)) hfl
  have hlim:¬(n*sz>16777216):=om
  have hinfo:∀w,(typeInfo el).run P w=.ok i w:=fun w=>run_info hi w
  have hne:n*sz=0↔n=0:=by
   constructor
   ·intro h;rcases Nat.mul_eq_zero.1 h with h|h
    ·exact h
    ·omega
   ·intro h;subst h;simp
  have hrun:(execOp a.eval o).run P e.w=.ok (.value (.slice (some ⟨e.w.heap.size,0,none⟩) n n)) (e.w.alloc (.cells c' el)):=by
   by_cases h0:n=0
   ·subst h0
    have hc0:Instr.fill (fun i=>some (i*sz,sz)) #[] (ps.map fun(i,x)=>(i,a.eval x)).toList=some c':=by
     rw[Array.toList_map]
     have hz0:(Array.range (0*sz)).map (fun i=>zv.cells[i % zv.cells.size]!)=#[]:=by rw[Nat.zero_mul,show Array.range 0=#[] from rfl];simp
     rw[hz0] at hc'
     exact hc'
    have h00:Array.range 0=#[]:=rfl
    simp[execOp,ho,Instr.buildSlice,run_underlying hu,run_size hsz,newRow,h00]
    rw[Array.toList_map] at hc0
    rw[hc0]
    simp
   ·have hc0:Instr.fill (fun i=>some (i*sz,sz)) ((Array.range (n*sz)).map (fun i=>zv.cells[i % zv.cells.size]!)) (ps.map fun(i,x)=>(i,a.eval x)).toList=some c':=by
     rw[Array.toList_map];exact hc'
    have hn0:¬(n*sz=0):=fun h=>h0 (hne.1 h)
    simp only[execOp,ho,Instr.buildSlice,Sem.run_bind,run_underlying hu,run_size hsz,Result.andThen_ok,if_neg hlim,if_neg hn0,zeroValue,hinfo,hzv,newRow]
    have hc2:Instr.fill (fun i=>some (i*sz,sz)) (Array.map (fun x=>zv.cells[x % zv.cells.size]!) (Array.range (n*sz))) (List.map (fun x=>(x.fst,a.eval x.snd)) ps.toList)=some c':=hc'
    simp[hlim,hn0,hinfo,hzv]
    rw[hc2]
    simp
  rw[cd_eq,beq_nat] at hr
  by_cases h0:n=0
  ·rw[Dt h0,if_pos rfl] at hr
   injection hr with h1 h2;subst h1 h2
   refine OpS.value hrun e.ρ (drop_st hs _) (drop_ext e _) ?_
   simp only[Rel];exact⟨_,by rw[h0]⟩
  ·rw[Df h0] at hr
   obtain⟨hn',hf0,rfl,rfl⟩:=putNew_inv (by simpa using hr)
   have hf':=aside_none hs hlo hf0
   have hcl:cs.length=c'.size:=by have:=hr'.len;simpa using this.symm
   have hsz':c'.size=n*sz:=by rw[hcs'];simp
   have hb:=alloc_cells hs hf' el hr' ho' c' om (fun j u hu=>by simpa using hu)
   exact OpS.value hrun _ (alloc_st hs hn' hf' _ _ hb) (alloc_ext hs hf' _ _) (alloc_rel_sl e id c' el _ sz n n true (Nr _) n (Nr _) (Nr _) (fun _=>rfl) om)
 ·cases hr
end
end Go.Ev
namespace Go.Ev
section
variable {P:Program}{G:Gs}{o:Oper}{e:Env}{a:Act}{fr:T AV}{call:CallF}{id:Nat}{ao:AOp}{v:AV}{h':H}
theorem run_exec_builtin {c:Call}{b:Builtin} (ho:o.op=.call c) (hb:c.callee=.builtin b) (w:World):
 (execOp a.eval o).run P w=(builtin b c.argTypes o.type (c.args.map fun|.const _=>true|_=>false) (c.args.map a.eval)).run P w:=by
 simp[execOp,ho,resolve,hb,invoke]
 rfl
theorem ods_one {xs:Array Operand}{x':Od} (h:ods G xs.toList=some [x']):∃x,xs=#[x]∧od G x=some x':=by
 obtain⟨l⟩:=xs
 cases l with
 |nil=>simp[ods] at h
 |cons x l=>
  simp only[ods] at h
  split at h
  ·rename_i y ys hy hys
   simp only[Oj,List.cons.injEq] at h
   obtain⟨rfl,rfl⟩:=h
   cases l with
   |nil=>exact⟨x,rfl,hy⟩
   |cons z l=>
    simp only[ods] at hys
    split at hys
    ·simp at hys
    ·cases hys
  ·cases h
theorem ods_two {xs:Array Operand}{x' y':Od} (h:ods G xs.toList=some [x',y']):∃x y,xs=#[x,y]∧od G x=some x'∧od G y=some y':=by
 obtain⟨l⟩:=xs
 cases l with
 |nil=>simp[ods] at h
 |cons x l=>
  simp only[ods] at h
  split at h
  ·rename_i y ys hy hys
   simp only[Oj,List.cons.injEq] at h
   obtain⟨rfl,rfl⟩:=h
   obtain⟨z,hz,hz'⟩:=ods_one (xs:=l.toArray) (by simpa using hys)
   have hz:l=[z]:=by have:=congrArg Array.toList hz;simpa using this
   subst hz
   exact⟨x,z,rfl,hy,hz'⟩
  ·cases h
theorem run_getObj' {w:World}{r:Nat}{ms:Array MapEntry}{clock:Nat} (h:w.heap[r]? =some (.map ms clock)):(getObj r).run P w=.ok (.map ms clock) w:=by
 simp[getObj,Sem.run,h]
theorem EntRel.len:∀{es:List (AV×AV)}{ms:List MapEntry},EntRel e es ms→ms.length=es.length
 |[],[],_=>rfl
 |[],_::_,h=>h.elim
 |(_,_)::_,[],h=>h.elim
 |(_,_)::_,_::_,h=>by simp[EntRel.len h.2.2]
def LKOf:LK→TypeDesc→Prop
 |.str,d=>d=.string
 |.sli,d=>∃el,d=.slice el
 |.map,d=>∃k el,d=.map k el
theorem lenOf_run {k:LK}{u:AV}{cv:Value}{n:Nat} (hs:St e) (hr:Rel e u cv) (h:lenOf k u e.h=some n){t:TypeId}{d:TypeDesc} (hd:P.underlying t=some d)
 (hk:LKOf k d) (ty:TypeId){ts:Array TypeId} (hts:ts[0]? =some t):
 (Builtin.len_ ts ty #[cv]).run P e.w=.ok (goInt n) e.w:=by
 unfold lenOf at h
 split at h
 ·cases h
  simp only[Rel] at hr
  obtain⟨_,ad,cap,rfl,_⟩:=hr
  obtain⟨el,rfl⟩:=hk
  simp[Builtin.len_,hts,run_underlying hd]
 ·cases h
  simp only[Rel] at hr
  obtain⟨ad,rfl⟩:=hr
  obtain⟨el,rfl⟩:=hk
  simp[Builtin.len_,hts,run_underlying hd]
 ·cases h
  simp only[Rel] at hr
  obtain⟨rfl,_⟩:=hr
  obtain⟨el,rfl⟩:=hk
  simp[Builtin.len_,hts,run_underlying hd]
 ·cases h
  obtain⟨el,rfl⟩:=hk
  rcases rel_isl.1 hr with ⟨rfl,rfl⟩|⟨ad,cap,rfl,_⟩
  ·simp[Builtin.len_,hts,run_underlying hd]
  ·simp[Builtin.len_,hts,run_underlying hd]
 ·cases h
  simp only[Rel] at hr
  obtain⟨rfl,_⟩:=hr
  obtain⟨k,el,rfl⟩:=hk
  simp[Builtin.len_,hts,run_underlying hd]
 ·cases h
  rename_i l
  obtain⟨hn,_,rfl⟩:=rel_s hr
  obtain rfl:=hk
  simp[Builtin.len_,hts,run_underlying hd,strOf_size,hn]
 ·split at h
  ·rename_i i es hg
   cases h
   simp only[Rel] at hr
   obtain⟨_,rfl⟩:=hr
   obtain⟨k,el,rfl⟩:=hk
   obtain⟨ms,clock,hm,hent⟩:=hs.blk _ _ hg
   have hl:ms.size=es.length:=by simpa using hent.len
   have hget:=run_getObj' (P:=P) hm
   simp[Builtin.len_,hts,run_underlying hd,hget,hl]
  ·cases h
 ·cases h
theorem sound_len {c:Call}{k:LK}{x':Od}{t:TypeId}{d:TypeDesc} (hs:St e) (hf:FrRel e fr a.tmps) (hg:GRel G e) (ho:o.op=.call c) (hb:c.callee=.builtin .len)
 (hx:ods G c.args.toList=some [x']) (ht:c.argTypes[0]? =some t) (hd:P.underlying t=some d) (hk:LKOf k d) (hr:evOp call (.len k x') fr e.h id=.ok v h'):OpS P o e a v h':=by
 obtain⟨x,hxs,hx⟩:=ods_one hx
 have rx:=od_rel hf hg hx
 have hr:(Option.rec .no (fun n=>.ok (.i .i64 (.ofNat n)) e.h) (lenOf k (ev x' fr) e.h):R)=.ok v h':=hr
 cases hl:lenOf k (ev x' fr) e.h with
 |none=>rw[hl] at hr;cases hr
 |some n=>
  rw[hl] at hr
  have hr:R.ok (.i .i64 (.ofNat n)) e.h=.ok v h':=hr
  injection hr with h1 h2;subst h1 h2
  have hrun:=lenOf_run (P:=P) hs rx hl hd hk o.type ht
  refine OpS.same hs (cv:=goInt n) ?_ (by simp[Rel,goInt])
  rw[run_exec_builtin ho hb,hxs]
  simp[builtin,hrun]
theorem sound_cap {c:Call}{x':Od}{t el:TypeId} (hs:St e) (hf:FrRel e fr a.tmps) (hg:GRel G e) (ho:o.op=.call c) (hb:c.callee=.builtin .cap)
 (hx:ods G c.args.toList=some [x']) (ht:c.argTypes[0]? =some t) (hd:elemOf? P t=some el) (hr:evOp call (.o2 (.cap x')) fr e.h id=.ok v h'):OpS P o e a v h':=by
 obtain⟨x,hxs,hx⟩:=ods_one hx
 have rx:=od_rel hf hg hx
 have hu:=elem_inv hd
 have key:∀b n m,a.eval x=.slice b n m→v=.i .i64 (.ofNat m)→OpS P o e a v e.h:=by
  intro b n m hv hv'
  subst hv'
  refine OpS.same hs (cv:=goInt m) ?_ (by simp[Rel,goInt])
  rw[run_exec_builtin ho hb,hxs]
  simp[builtin,Builtin.cap_,ht,run_underlying hu,hv]
 have hr:(match ev x' fr with
  |.sl _ _ _ _ lo true=>.ok (.i .i64 (.ofNat lo)) e.h
  |.em=>.ok (.i .i64 (J 0)) e.h
  |.v (.slice none 0 0)=>.ok (.i .i64 (J 0)) e.h
  |_=>.no:R)=.ok v h':=hr
 generalize ev x' fr=u at hr rx
 split at hr
 ·injection hr with h1 h2;subst h1 h2
  simp only[Rel] at rx
  obtain⟨_,ad,cap,hv,_,_,h3,_⟩:=rx
  obtain rfl:=h3 trivial
  exact key _ _ _ hv rfl
 ·injection hr with h1 h2;subst h1 h2
  simp only[Rel] at rx
  obtain⟨ad,hv⟩:=rx
  exact key _ _ _ hv rfl
 ·injection hr with h1 h2;subst h1 h2
  simp only[Rel] at rx
  exact key _ _ _ rx.1 rfl
 ·cases hr
theorem fold_max:∀{r:List AV}{vs:List Value}{x:AV}{cx:Value}{y:AV},RelL e r vs→Rel e x cx→
 (List.rec (motive:=fun _=>AV→Option AV) (fun a=>some a) (fun y _ ih a=>Option.rec none ih (mxA a y)) r x)=some y→
 ∃cy,(vs.foldlM Builtin.max2 cx).run P e.w=.ok cy e.w∧Rel e y cy
 |[],[],x,cx,y,_,hx,h=>by
  obtain rfl:=Oi (show some x=some y from h)
  exact⟨cx,by simp,hx⟩
 |[],_::_,_,_,_,h,_,_=>by simp[RelL] at h
 |_::_,[],_,_,_,h,_,_=>by simp[RelL] at h
 |z::r,w::vs,x,cx,y,hr,hx,h=>by
  simp only[RelL] at hr
  have h:(Option.rec none (fun a=>List.rec (motive:=fun _=>AV→Option AV) (fun a=>some a) (fun y _ ih a=>Option.rec none ih (mxA a y)) r a) (mxA x z):Option AV)=some y:=h
  cases hm:mxA x z with
  |none=>rw[hm] at h;cases h
  |some u=>
   rw[hm] at h
   unfold mxA at hm
   split at hm
   ·rename_i k p k' q
    obtain rfl:=Oi hm
    have hx:=rel_i hx
    have hz:=rel_i hr.1
    subst hx hz
    obtain⟨cy,h1,h2⟩:=fold_max (x:=.i k (cd (iLe q p) p q)) (cx:=.int k (if q>p then q else p)) hr.2 (by
     simp only[Rel]
     rw[cd_eq,iLe_eq]
     by_cases hq:q≤p
     ·rw[Dt hq,if_pos rfl,if_neg om]
     ·rw[Df hq,if_pos om];simp) h
    refine⟨cy,?_,h2⟩
    rw[List.foldlM_cons]
    simp only[Builtin.max2,pure_bind]
    exact h1
   ·cases hm
theorem fold_min:∀{r:List AV}{vs:List Value}{x:AV}{cx:Value}{y:AV},RelL e r vs→Rel e x cx→
 (List.rec (motive:=fun _=>AV→Option AV) (fun a=>some a) (fun y _ ih a=>Option.rec none ih (mnA a y)) r x)=some y→
 ∃cy,(vs.foldlM Builtin.min2 cx).run P e.w=.ok cy e.w∧Rel e y cy
 |[],[],x,cx,y,_,hx,h=>by
  obtain rfl:=Oi (show some x=some y from h)
  exact⟨cx,by simp,hx⟩
 |[],_::_,_,_,_,h,_,_=>by simp[RelL] at h
 |_::_,[],_,_,_,h,_,_=>by simp[RelL] at h
 |z::r,w::vs,x,cx,y,hr,hx,h=>by
  simp only[RelL] at hr
  have h:(Option.rec none (fun a=>List.rec (motive:=fun _=>AV→Option AV) (fun a=>some a) (fun y _ ih a=>Option.rec none ih (mnA a y)) r a) (mnA x z):Option AV)=some y:=h
  cases hm:mnA x z with
  |none=>rw[hm] at h;cases h
  |some u=>
   rw[hm] at h
   unfold mnA at hm
   split at hm
   ·rename_i k p k' q
    obtain rfl:=Oi hm
    have hx:=rel_i hx
    have hz:=rel_i hr.1
    subst hx hz
    obtain⟨cy,h1,h2⟩:=fold_min (x:=.i k (cd (iLe p q) p q)) (cx:=.int k (if q<p then q else p)) hr.2 (by
     simp only[Rel]
     rw[cd_eq,iLe_eq]
     by_cases hq:p≤q
     ·rw[Dt hq,if_pos rfl,if_neg om]
     ·rw[Df hq,if_pos om];simp) h
    refine⟨cy,?_,h2⟩
    rw[List.foldlM_cons]
    simp only[Builtin.min2,pure_bind]
    exact h1
   ·cases hm
theorem sound_mx {c:Call}{xs:List Od} (hs:St e) (hf:FrRel e fr a.tmps) (hg:GRel G e) (ho:o.op=.call c) (hb:c.callee=.builtin .max)
 (hx:ods G c.args.toList=some xs) (hr:evOp call (.o2 (.mx xs)) fr e.h id=.ok v h'):OpS P o e a v h':=by
 have rx:=ods_rel hf hg hx
 obtain⟨hq,rfl⟩:=okV_inv (show okV e.h (fold1 mxA (evs xs fr))=.ok v h' from hr)
 generalize evs xs fr=us at hq rx
 cases us with
 |nil=>cases hq
 |cons u us=>
  cases hl:c.args.toList with
  |nil=>rw[hl] at rx;simp[RelL] at rx
  |cons y ys=>
   rw[hl,List.map_cons] at rx
   simp only[RelL] at rx
   obtain⟨cy,h1,h2⟩:=fold_max (P:=P) rx.2 rx.1 hq
   refine OpS.same hs (cv:=cy) ?_ h2
   rw[run_exec_builtin ho hb]
   have:(c.args.map a.eval).toList=a.eval y::ys.map a.eval:=by rw[Array.toList_map,hl];rfl
   simp[builtin,Builtin.max_,hl,h1]
theorem sound_mn {c:Call}{xs:List Od} (hs:St e) (hf:FrRel e fr a.tmps) (hg:GRel G e) (ho:o.op=.call c) (hb:c.callee=.builtin .min)
 (hx:ods G c.args.toList=some xs) (hr:evOp call (.o2 (.mn xs)) fr e.h id=.ok v h'):OpS P o e a v h':=by
 have rx:=ods_rel hf hg hx
 obtain⟨hq,rfl⟩:=okV_inv (show okV e.h (fold1 mnA (evs xs fr))=.ok v h' from hr)
 generalize evs xs fr=us at hq rx
 cases us with
 |nil=>cases hq
 |cons u us=>
  cases hl:c.args.toList with
  |nil=>rw[hl] at rx;simp[RelL] at rx
  |cons y ys=>
   rw[hl,List.map_cons] at rx
   simp only[RelL] at rx
   obtain⟨cy,h1,h2⟩:=fold_min (P:=P) rx.2 rx.1 hq
   refine OpS.same hs (cv:=cy) ?_ h2
   rw[run_exec_builtin ho hb]
   have:(c.args.map a.eval).toList=a.eval y::ys.map a.eval:=by rw[Array.toList_map,hl];rfl
   simp[builtin,Builtin.min_,hl,h1]
theorem sound_fld {t:TypeId}{x:Operand}{f:Nat} (hs:St e) (hf:FrRel e fr a.tmps) (hg:GRel G e) (ho:o.op=.field t x f)
 (hc:compOp P G (.field t x f)=some ao) (hr:evOp call ao fr e.h id=.ok v h'):OpS P o e a v h':=by
 simp only[compOp] at hc
 obtain⟨d,hd,hc⟩:=bind_inv hc
 split at hc
 ·rename_i fs
  obtain⟨fl,hfl,hc⟩:=bind_inv hc
  obtain⟨n,hn,hc⟩:=bind_inv hc
  obtain⟨ag,hag,hc⟩:=bind_inv hc
  obtain⟨x',hx,rfl⟩:=map_inv hc
  have rx:=od_rel hf hg hx
  have hq2:(match ev x' fr,(if ag=true then some n else none) with
   |.ag cs,some n=>Option.rec .no (fun l=>.ok (.ag l) e.h) (cut cs fl.offset n)
   |.ag cs,none=>okV e.h (nth cs fl.offset)
   |_,_=>.no:R)=.ok v h':=hr
  clear hr hc
  generalize ev x' fr=u at hq2 rx
  split at hq2
  ·rename_i cs m hm
   cases ag with
   |false=>cases hm
   |true=>
   obtain rfl:=Oi (show some n=some m from hm)
   simp only[Rel] at rx
   obtain⟨h1,vs,hv,h2⟩:=rx
   cases hcut:cut cs fl.offset n with
   |none=>rw[hcut] at hq2;cases hq2
   |some l=>
    rw[hcut] at hq2
    have hq2:R.ok (.ag l) e.h=.ok v h':=hq2
    injection hq2 with h3 h4;subst h3 h4
    have hcr:=RelL.cut _ _ h2 hcut
    refine OpS.same hs (cv:=.agg (vs.extract fl.offset (fl.offset+n))) ?_ ?_
    ·simp[execOp,ho,Instr.field,run_underlying hd,hfl,hv,asAgg,part,run_isAgg hag,run_size hn]
    ·simp only[Rel]
     refine⟨fun c hc=>?_,_,rfl,?_⟩
     ·rcases cut_some _ _ _ _ hcut with ⟨h,_⟩|⟨_,h⟩
      ·rw[h] at hc;exact h1 c (List.mem_of_mem_drop (List.mem_of_mem_take hc))
      ·rw[h] at hc;simp at hc
     ·rw[Array.toList_extract,List.extract_eq_take_drop]
      simpa using hcr
  ·rename_i cs hm
   cases ag with
   |true=>cases hm
   |false=>
   obtain⟨hq,rfl⟩:=okV_inv hq2
   rw[nth_eq] at hq
   simp only[Rel] at rx
   obtain⟨h1,vs,hv,h2⟩:=rx
   obtain⟨u,hu,hru⟩:=h2.get hq
   refine OpS.same hs (cv:=u) ?_ hru
   have hu:vs[fl.offset]? =some u:=by simpa using hu
   simp[execOp,ho,Instr.field,run_underlying hd,hfl,hv,asAgg,part,run_isAgg hag,hu]
  ·cases hq2
 ·cases hc
theorem eqC_i {x y:AV}{r:Bool} (h:eqC 1 x y=some r):∃k a b,x=.i k a∧y=.i k b∧r=decide (a=b):=by
 replace h:(match(generalizing:=false) x,y with
  |.i k a,.i k' b=>cd (kEq k k') (some (iEq a b)) none
  |_,_=>none:Option Bool)=some r:=h
 cases x<;>cases y<;>try (cases h;done)
 rename_i k a k' b
 replace h:cd (kEq k k') (some (iEq a b)) none=some r:=h
 rw[kEq_eq,cd_eq] at h
 split at h
 ·rename_i hk
  obtain rfl:k=k':=by simpa using hk
  obtain rfl:=Oi h
  exact⟨k,a,b,rfl,rfl,iEq_eq a b⟩
 ·cases h
theorem eqC_b {x y:AV}{r:Bool} (h:eqC 2 x y=some r):∃a b,x=.b a∧y=.b b∧r=(a==b):=by
 replace h:(match(generalizing:=false) x,y with
  |.b x,.b y=>some (cd x y (!y))
  |_,_=>none:Option Bool)=some r:=h
 cases x<;>cases y<;>try (cases h;done)
 rename_i a b
 replace h:some (cd a b (!b))=some r:=h
 obtain rfl:=Oi h
 exact⟨a,b,rfl,rfl,by cases a<;>cases b<;>rfl⟩
theorem eqC_s {x y:AV}{r:Bool} (h:eqC 3 x y=some r):∃n a m b,x=.s n a∧y=.s m b∧r=sEq a b:=by
 replace h:(match(generalizing:=false) x,y with
  |.s _ x,.s _ y=>some (sEq x y)
  |_,_=>none:Option Bool)=some r:=h
 cases x<;>cases y<;>try (cases h;done)
 rename_i n a m b
 replace h:some (sEq a b)=some r:=h
 exact⟨n,a,m,b,rfl,rfl,(Oi h).symm⟩
theorem run_eqFields (d:Nat){cx cy:Array Value} (w:World):∀(fs:List Field) (i:Nat) (ks:List Nat) (xs ys:List AV) (b:Bool),flatKs P fs i=some ks→
 (∀(j:Nat) (x:AV),xs[j]? =some x→∃u,cx[i+j]? =some u∧Rel e x u)→(∀(j:Nat) (y:AV),ys[j]? =some y→∃u,cy[i+j]? =some u∧Rel e y u)→eqL ks xs ys=some b→
 (Op.eqFields (d+1) cx cy fs).run P w=.ok b w
 |[],i,ks,xs,ys,b,hf,_,_,h=>by
  cases hf
  have h:(match(generalizing:=false) xs,ys with
   |[],[]=>some true
   |_,_=>none:Option Bool)=some b:=h
  cases xs<;>cases ys<;>simp at h
  subst h;rfl
 |f::fs,i,ks,xs,ys,b,hf,hx,hy,h=>by
  unfold flatKs at hf
  split at hf
  case isFalse=>cases hf
  case isTrue hc=>
  rw[Bool.and_eq_true] at hc
  have hname:f.name≠ "_" :=by simpa using hc.1
  have hoff:f.offset=i:=Nq hc.2
  have key:∀(k:Nat) (ks':List Nat),ks=k::ks'→flatKs P fs (i+1)=some ks'→isAgg? P f.type=some false→
   (∀(x y:AV) (u v:Value) (r:Bool),Rel e x u→Rel e y v→eqC k x y=some r→(Op.equalIn (d+1) f.type u v).run P w=.ok r w)→(Op.eqFields (d+1) cx cy (f::fs)).run P w=.ok b w:=by
   intro k ks' hk hfs hag heq
   subst hk
   have h:(match(generalizing:=false) xs,ys with
    |x::xs,y::ys=>match(generalizing:=false) eqC k x y,eqL ks' xs ys with
     |some a,some b=>some (cd a b false)
     |_,_=>none
    |_,_=>none:Option Bool)=some b:=h
   cases xs with
   |nil=>cases h
   |cons x xs=>
   cases ys with
   |nil=>cases h
   |cons y ys=>
   have h:(match(generalizing:=false) eqC k x y,eqL ks' xs ys with
    |some a,some b=>some (cd a b false)
    |_,_=>none:Option Bool)=some b:=h
   split at h
   case h_2=>cases h
   case h_1 a b' ha hb=>
   obtain rfl:=Oi h
   obtain⟨u,hu,ru⟩:=hx 0 x rfl
   obtain⟨v,hv,rv⟩:=hy 0 y rfl
   have hu:cx[i]? =some u:=hu
   have hv:cy[i]? =some v:=hv
   have ih:=run_eqFields d w fs (i+1) ks' xs ys b' hfs (fun j z hz=>by rw[Nat.add_assoc,Nat.add_comm 1 j];exact hx (j+1) z hz) (fun j z hz=>by rw[Nat.add_assoc,Nat.add_comm 1 j];exact hy (j+1) z hz) hb
   have p1:(part f.type cx f.offset).run P w=.ok u w:=by simp[part,run_isAgg hag,hoff,hu]
   have p2:(part f.type cy f.offset).run P w=.ok v w:=by simp[part,run_isAgg hag,hoff,hv]
   simp only[Op.eqFields,if_pos hname,Sem.run_bind,p1,p2,Result.andThen_ok,heq x y u v a ru rv ha]
   cases a with
   |false=>rfl
   |true=>simpa[cd] using ih
  split at hf
  ·rename_i k0 hd
   obtain⟨ks',hfs,rfl⟩:=map_inv hf
   refine key 1 ks' rfl hfs (by simp[isAgg?,hd,isAggD]) (fun x y u v r rx ry hr=>?_)
   obtain⟨k1,a1,b1,rfl,rfl,rfl⟩:=eqC_i hr
   rw[rel_i rx,rel_i ry,run_equalIn_int w d f.type k1 k0 a1 b1 hd];rfl
  ·rename_i hd
   obtain⟨ks',hfs,rfl⟩:=map_inv hf
   refine key 2 ks' rfl hfs (by simp[isAgg?,hd,isAggD]) (fun x y u v r rx ry hr=>?_)
   obtain⟨a1,b1,rfl,rfl,rfl⟩:=eqC_b hr
   rw[rel_b rx,rel_b ry,run_equalIn_bool' w d f.type a1 b1 hd]
  ·rename_i hd
   obtain⟨ks',hfs,rfl⟩:=map_inv hf
   refine key 3 ks' rfl hfs (by simp[isAgg?,hd,isAggD]) (fun x y u v r rx ry hr=>?_)
   obtain⟨n1,a1,m1,b1,rfl,rfl,rfl⟩:=eqC_s hr
   obtain⟨_,g1,e1⟩:=rel_s rx
   obtain⟨_,g2,e2⟩:=rel_s ry
   rw[e1,e2,run_equalIn_string w d f.type _ _ hd,strOf_eq_iff g1 g2,sEq_eq]
  ·cases hf
theorem sound_eqs {op:BinOp}{t t':TypeId}{x y:Operand}{x' y':Od}{neg:Bool}{ks:List Nat}{fs:Array Field} (hs:St e) (hf:FrRel e fr a.tmps) (hg:GRel G e) (ho:o.op=.binOp op t x y t')
 (hx:od G x=some x') (hy:od G y=some y') (hn:isEq op=some neg) (hd:P.underlying t=some (.struct fs)) (hks:flatKs P fs.toList 0=some ks) (hst:P.stoodInHeld t=false) (heg:P.eqGuardType P.depth t=false)
 (hr:evOp call (.o2 (.eqs neg ks x' y')) fr e.h id=.ok v h'):OpS P o e a v h':=by
 have hr:(match ev x' fr,ev y' fr with
  |.ag xs,.ag ys=>Option.rec .no (fun b=>.ok (.b (cd neg (!b) b)) e.h) (eqL ks xs ys)
  |_,_=>.no:R)=.ok v h':=hr
 have rx:=od_rel hf hg hx
 have ry:=od_rel hf hg hy
 split at hr
 case h_2=>cases hr
 case h_1 xs ys hxs hys=>
 rw[hxs] at rx;rw[hys] at ry
 simp only[Rel] at rx ry
 obtain⟨_,vx,hvx,rx⟩:=rx
 obtain⟨_,vy,hvy,ry⟩:=ry
 cases hq:eqL ks xs ys with
 |none=>rw[hq] at hr;cases hr
 |some b=>
 rw[hq] at hr
 have hr:R.ok (.b (cd neg (!b) b)) e.h=.ok v h':=hr
 injection hr with h1 h2;subst h1 h2
 have hfo:P.fieldsOf t=fs:=by simp[Program.fieldsOf,hd]
 have hrun:(Op.equalIn 10000 t (.agg vx) (.agg vy)).run P e.w=.ok b e.w:=by
  rw[run_equalIn_agg e.w 9999 t vx vy (by rw[hfo];exact hd) hst,hfo]
  exact run_eqFields 9998 e.w fs.toList 0 ks xs ys b hks (fun j z hz=>by obtain⟨u,h1,h2⟩:=rx.get hz;exact⟨u,by simpa using h1,h2⟩) (fun j z hz=>by obtain⟨u,h1,h2⟩:=ry.get hz;exact⟨u,by simpa using h1,h2⟩) hq
 refine OpS.same hs (cv:=.bool (cd neg (!b) b)) ?_ (by simp[Rel])
 rcases isEq_inv hn with ⟨rfl,rfl⟩|⟨rfl,rfl⟩
 ·simp only[execOp,ho,hvx,hvy,Sem.run_bind,run_eqGuard_agg e.w _ t x y vx vy heg,Result.andThen_ok,run_eql_struct,hrun,Sem.run_pure];rfl
 ·simp only[execOp,ho,hvx,hvy,Sem.run_bind,run_eqGuard_agg e.w _ t x y vx vy heg,Result.andThen_ok,run_neq_struct,hrun,Sem.run_pure];rfl
end
end Go.Ev
end
noncomputable section
set_option linter.unusedVariables false
set_option linter.unusedSimpArgs false
namespace Go.Ev
theorem heap_ext {e:Env}{w':World} (h:w'.heap=e.w.heap) (q:Qt e.w w'):Ext e ⟨e.ρ,e.h,w',e.F⟩:=
 ⟨Nr _,fun _ h=>h,fun _ _=>rfl,rfl,by show _≤w'.heap.size;rw[h];exact Nr _,fun b _ _=>by show w'.heap[b]? =_;rw[h],fun b _=>bsize_congr (by rw[h]),fun _ _ h=>h,fun _ b h=>⟨b,h⟩,fun _ h=>.inl h,q⟩
theorem heap_st {e:Env} (hs:St e){w':World} (h:w'.heap=e.w.heap) (q:Qt e.w w'):St ⟨e.ρ,e.h,w',e.F⟩ where
 kn:=hs.kn
 dk:=hs.dk
 lo:=hs.lo
 blk:=fun id b hb=>BlkRel.ext (heap_ext h q) (hs.dk id b hb) (by show w'.heap[_]? =_;rw[h]) b (hs.blk id b hb)
 inj:=hs.inj
 fr:=fun b hb=>⟨by have:=(hs.fr b hb).1;show b<w'.heap.size;rw[h];exact this,(hs.fr b hb).2⟩
section
variable {P:Program}{G:Gs}{o:Oper}{e:Env}{a:Act}{fr:T AV}{call:CallF}{id:Nat}{ao:AOp}{v:AV}{h':H}
theorem sound_mkmap {t:TypeId}{r:Option Operand} (hs:St e) (hlo:e.F.lo≤id) (ho:o.op=.makeMap t r)
 (hc:compOp P G (.makeMap t r)=some ao) (hr:evOp call ao fr e.h id=.ok v h'):OpS P o e a v h':=by
 cases r with
 |some _=>simp[compOp] at hc
 |none=>
  simp only[compOp] at hc
  obtain⟨d,hd,hc⟩:=bind_inv hc
  split at hc
  ·cases hc
   obtain⟨hn,hf0,rfl,rfl⟩:=putNew_inv (show putNew id (.mp []) (fun id=>.m id) e.h=.ok v h' from hr)
   have hf:=aside_none hs hlo hf0
   have hρ:(e.alloc id (.map #[] 0) (.mp [])).ρ (path id)=(e.w.heap.size,0):=if_pos rfl
   have hb:BlkRel (e.alloc id (.map #[] 0) (.mp [])) (path id) (.mp []):=by
    simp only[BlkRel,hρ]
    exact⟨#[],0,heap_alloc_new _ _,trivial⟩
   refine OpS.value (cv:=.map (some e.w.heap.size)) (w':=e.w.alloc (.map #[] 0)) ?_ _ (alloc_st hs hn hf _ _ hb) (alloc_ext hs hf _ _) ?_
   ·simp[execOp,ho,Instr.makeMap]
   ·have:Rel (e.alloc id (.map #[] 0) (.mp [])) (.m (path id)) (.map (some e.w.heap.size)):=by
     simp only[Rel,hρ,and_true]
     exact alloc_known e id _ _
    exact this
  ·cases hc
theorem sound_mksl {t:TypeId}{l c:Operand} (hs:St e) (hlo:e.F.lo≤id) (hf:FrRel e fr a.tmps) (hg:GRel G e) (ho:o.op=.makeSlice t l c)
 (hc:compOp P G (.makeSlice t l c)=some ao) (hr:evOp call ao fr e.h id=.ok v h'):OpS P o e a v h':=by
 simp only[compOp] at hc
 obtain⟨el,hel,hc⟩:=bind_inv hc
 obtain⟨sz,hsz,hc⟩:=bind_inv hc
 obtain⟨by_,hby,hc⟩:=bind_inv hc
 obtain⟨z,hz,hc⟩:=bind_inv hc
 split at hc
 ·cases hc
 rename_i hn
 obtain⟨l',hl,hc⟩:=bind_inv hc
 obtain⟨c',hc',rfl⟩:=map_inv hc
 have rl:=od_rel hf hg hl
 have rc:=od_rel hf hg hc'
 have hu:=elem_inv hel
 obtain⟨i,zv,hi,hzv,hzs⟩:=zero_inv hz
 obtain⟨hzr,hzo⟩:=rel_avOfs (e:=e) hzs
 have hzl:zv.cells.size=sz:=by have:=hzr.len;simp at this;omega
 have hib:i.bytes=by_:=by
  obtain⟨i2,hi2,h2⟩:=map_inv hby
  rw[hi] at hi2;cases hi2;exact h2
 have hr:(match asN (ev l' fr),asN (ev c' fr) with
  |some l,some c=>cd (Nat.ble l c) (cd (roomy c by_) (cd (Nat.beq c 0) (.ok .em e.h) (putNew id (.cs el (repl c z) false) (fun id=>.sl id 0 sz l c true) e.h)) .no) .no
  |_,_=>.no:R)=.ok v h':=hr
 split at hr
 ·rename_i n m hnl hnm
  obtain⟨k1,h1⟩:=asN_inv hnl
  obtain⟨k2,h2⟩:=asN_inv hnm
  rw[h1] at rl
  rw[h2] at rc
  have rl:=rel_i rl
  have rc:=rel_i rc
  rw[cd_eq,ble_nat] at hr
  by_cases hnm':n≤m
  case neg=>rw[Df hnm'] at hr;cases hr
  rw[Dt hnm',if_pos rfl,cd_eq] at hr
  unfold roomy at hr
  rw[ble_nat] at hr
  by_cases hroom:Nat.mul m by_≤1099511627776
  case neg=>rw[Df hroom] at hr;cases hr
  rw[Dt hroom,if_pos rfl,cd_eq,beq_nat] at hr
  have hroom:m*by_≤1099511627776:=hroom
  have hm40:m≤1099511627776:=Nt (Nat.le_mul_of_pos_right m om) hroom
  have hw:∀j:Nat,j≤m→IntKind.i64.wrap (j:Int)=(j:Int):=fun j hj=>wrap_in _ _ ⟨by show(-9223372036854775808:Int)≤j;omega,by show(j:Int)≤9223372036854775807;omega⟩
  have hrun:(execOp a.eval o).run P e.w=.ok (.value (.slice (some ⟨e.w.heap.size,0,none⟩) n m)) (e.w.alloc (.cells ((Array.range (m*sz)).map (fun j=>zv.cells[j % zv.cells.size]!)) el)):=by
   have hlarge:∀j:Nat,j≤m→¬((by_:Int)*(j:Int)>281474976710656):=fun j hj=>by
    have:j*by_≤m*by_:=Nat.mul_le_mul_right _ hj
    have:((j*by_:Nat):Int)≤1099511627776:=om
    rw[Int.natCast_mul] at this
    have hcomm:(by_:Int)*(j:Int)=(j:Int)*(by_:Int):=Int.mul_comm _ _
    omega
   have e1:a.eval l=.int k1 (n:Int):=rl
   have e2:a.eval c=.int k2 (m:Int):=rc
   have hA:¬((n:Int)>(m:Int)):=om
   by_cases h0:m*sz=0
   ·have h00:Array.range 0=#[]:=rfl
    simp only[execOp,ho,Instr.makeSlice,Sem.run_bind,run_underlying hu,Result.andThen_ok,e1,e2]
    simp[asInt,asIntOf,run_info hi,hib,hw n hnm',hw m (Nr _),hlarge m (Nr _),run_size hsz,h0,newRow,hnm',h00]
    intro h;omega
   ·have hm0:¬(m=0∨sz=0):=by
     intro h;rcases h with h|h<;>subst h<;>simp at h0
    simp only[execOp,ho,Instr.makeSlice,Sem.run_bind,run_underlying hu,Result.andThen_ok,e1,e2]
    simp[asInt,asIntOf,run_info hi,hib,hw n hnm',hw m (Nr _),hlarge m (Nr _),run_size hsz,hm0,newRow,hnm',zeroValue,hzv]
    rw[if_neg om]
    simp[run_info hi,hzv]
    intro h;exact absurd h h0
  by_cases h0:m=0
  ·subst h0
   rw[Dt rfl,if_pos rfl] at hr
   injection hr with h1 h2;subst h1 h2
   refine OpS.value hrun e.ρ (drop_st hs _) (drop_ext e _) ?_
   simp only[Rel]
   exact⟨_,by rw[show n=0 by omega]⟩
  ·rw[Df h0] at hr
   obtain⟨hn',hf0,rfl,rfl⟩:=putNew_inv (by simpa using hr)
   have hf':=aside_none hs hlo hf0
   have hrl:RelL e (repl m z) ((Array.range (m*sz)).map (fun j=>zv.cells[j % zv.cells.size]!)).toList:=by
    rw[rep_array zv.cells m _ om (by rw[hzl])];exact repl_rel hzr m
   have hzz:z.length=sz:=om
   have hb:=alloc_cells hs hf' el hrl (fun x hx=>hzo x (repl_mem z m x hx)) ((Array.range (m*sz)).map (fun j=>zv.cells[j % zv.cells.size]!)) (by rw[repl_len,hzz,Array.size_map,Array.size_range];exact Nr _) (fun j u hu=>by rw[←Array.getElem?_toList];exact hu)
   refine OpS.value hrun _ (alloc_st hs hn' hf' _ _ hb) (alloc_ext hs hf' _ _) (alloc_rel_sl e id _ el _ sz n m true hnm' m hnm' (Nr _) (fun _=>rfl) ?_)
   simp
 ·cases hr
theorem bytes_rel:∀(l:List Nat),(∀c∈l,c<256)→RelL e (l.map fun c=>.i .u8 (.ofNat c)) ((l.map UInt8.ofNat).map fun b=>Value.int .u8 b.toNat)
 |[],_=>by simp[RelL]
 |c::l,h=>by
  simp only[List.map_cons,RelL]
  refine⟨?_,bytes_rel l (fun d hd=>h d (Lo _ hd))⟩
  simp only[Rel]
  rw[toNat_ofNat (h c (Mc ..))]
  rfl
theorem sound_cvsb {s d:TypeId}{el:TypeId}{ds:TypeDesc}{x:Operand}{x':Od} (hs:St e) (hlo:e.F.lo≤id) (hf:FrRel e fr a.tmps) (hg:GRel G e) (ho:o.op=.convert s d x)
 (hx:od G x=some x') (hds:P.underlying s=some ds) (hdd:P.underlying d=some (.slice el)) (hu8:isU8 P el=true)
 (hr:evOp call (.o2 (.cvsb el x')) fr e.h id=.ok v h'):OpS P o e a v h':=by
 have rx:=od_rel hf hg hx
 have hel:P.underlying el=some (.int .u8):=by
  unfold isU8 at hu8
  split at hu8
  ·assumption
  ·cases hu8
 have hr:(match ev x' fr with
  |.s n l=>cd (Nat.beq n 0) .no (putNew id (.cs el (l.map fun c=>.i .u8 (.ofNat c)) false) (fun id=>.sl id 0 1 n n false) e.h)
  |_=>.no:R)=.ok v h':=hr
 generalize ev x' fr=u at hr rx
 split at hr
 ·rename_i n l
  rw[cd_eq,beq_nat] at hr
  by_cases h0:n=0
  ·rw[Dt h0] at hr;cases hr
  rw[Df h0] at hr
  obtain⟨hn,hf0,rfl,rfl⟩:=putNew_inv (by simpa using hr)
  have hfn:=aside_none hs hlo hf0
  obtain⟨hnl,h256,hv⟩:=rel_s rx
  have hrun:=Lib.run_convert_string_bytes (P:=P) e.w s d el (strOf l) hds hdd hel
  let c:=Lib.bytesCells e.w el (strOf l)
  have hsz:(strOf l).size=n:=by rw[strOf_size,hnl]
  have hge:=grownCap_ge e.w (strOf l).size 0 el
  have hcsz:c.size=grownCap e.w (strOf l).size 0 el:=by
   show(Lib.bytesCells e.w el (strOf l)).size=_
   unfold Lib.bytesCells
   have:(strOf l).data.size=(strOf l).size:=rfl
   rw[Array.size_append,Array.size_map,Array.size_replicate,this];omega
  have hheap:(Lib.bytesWorld e.w el (strOf l)).heap=(e.w.alloc (.cells c el (c.size,c.size+1))).heap:=by
   apply Array.ext_getElem?
   intro j
   by_cases hj:j<e.w.heap.size
   ·rw[Lib.bytesWorld_at_old _ _ _ _ hj,heap_alloc_old _ _ _ hj]
   ·by_cases hj2:j=e.w.heap.size
    ·rw[hj2,Lib.bytesWorld_at_new,heap_alloc_new]
    ·rw[Array.getElem?_eq_none (by rw[Lib.bytesWorld_size];omega),Array.getElem?_eq_none (by simp;omega)]
  have hrl:=bytes_rel (e:=e) l h256
  have hb:=alloc_cells' hs hfn el hrl (fun y hy=>by
   obtain⟨k,_,rfl⟩:=List.mem_map.1 hy
   rfl) c (c.size,c.size+1) (fun o' h1 _=>h1) (by rw[Lm,hcsz];omega) (fun j u hu=>by
    have hj:j<l.length:=by have:=(List.getElem?_eq_some_iff.1 hu).1;simpa using this
    show(Lib.bytesCells e.w el (strOf l))[j]? =some u
    unfold Lib.bytesCells
    rw[Array.getElem?_append_left (by rw[Array.size_map];show j<(strOf l).size;omega),←Array.getElem?_toList,Array.toList_map]
    exact hu)
  have st1:=alloc_st hs hn hfn _ _ hb
  have ex1:=alloc_ext hs hfn (.cells c el (c.size,c.size+1)) (.cs el (l.map fun c=>.i .u8 (.ofNat c)) false)
  have rel1:Rel (e.alloc id (.cells c el (c.size,c.size+1)) (.cs el (l.map fun c=>.i .u8 (.ofNat c)) false)) (.sl (path id) 0 1 n n false) (.slice (some ⟨e.w.heap.size,0,none⟩) n (grownCap e.w (strOf l).size 0 el)):=by
   have hρ:(e.alloc id (.cells c el (c.size,c.size+1)) (.cs el (l.map fun c=>.i .u8 (.ofNat c)) false)).ρ (path id)=(e.w.heap.size,0):=if_pos rfl
   simp only[Rel]
   refine⟨alloc_known e id _ _,_,_,rfl,Nr _,om,(fun h=>absurd h (by simp)),.inr ?_⟩
   rw[hρ]
   refine⟨rfl,?_⟩
   have:bsize (e.alloc id (.cells c el (c.size,c.size+1)) (.cs el (l.map fun c=>.i .u8 (.ofNat c)) false)).w e.w.heap.size=c.size:=by
    show bsize (e.w.alloc (.cells c el (c.size,c.size+1))) e.w.heap.size=_
    unfold bsize
    rw[heap_alloc_new]
   simp only[this];omega
  have hq:Qt (e.alloc id (.cells c el (c.size,c.size+1)) (.cs el (l.map fun c=>.i .u8 (.ofNat c)) false)).w (Lib.bytesWorld e.w el (strOf l)):=⟨rfl,rfl,rfl⟩
  refine OpS.value (cv:=.slice (some ⟨e.w.heap.size,0,none⟩) n (grownCap e.w (strOf l).size 0 el)) (w':=Lib.bytesWorld e.w el (strOf l)) ?_ _ (heap_st st1 hheap hq) (ex1.trans (heap_ext hheap hq)) (Rel.ext (heap_ext hheap hq) _ _ rel1)
  simp[execOp,ho,hv,hrun,hsz]
 ·cases hr
theorem sound_cvp1 {s d t:TypeId}{n:Nat}{x:Operand}{x':Od} (hs:St e) (hf:FrRel e fr a.tmps) (hg:GRel G e) (ho:o.op=.convert s d x)
 (hx:od G x=some x') (hds:P.underlying s=some (.pointer t)) (hdd:P.underlying d=some .unsafePointer) (hn:sizeOf? P t=some n) (hn0:n≠0)
 (hr:evOp call (.o2 (.cvp1 x')) fr e.h id=.ok v h'):OpS P o e a v h':=by
 have rx:=od_rel hf hg hx
 obtain⟨i,hi,hin⟩:=map_inv hn
 have hr:(match ev x' fr with
  |.p id off=>match e.h.get id with
   |some (.cs _ l _)=>cd (Nat.blt off (len l)) (.ok (.p id off) e.h) .no
   |_=>.no
  |_=>.no:R)=.ok v h':=hr
 generalize ev x' fr=u at hr rx
 split at hr
 ·rename_i j off
  split at hr
  ·rename_i el l fz hget
   rw[cd_eq,blt_nat,len_eq] at hr
   by_cases hlt:off<l.length
   case neg=>rw[Df hlt] at hr;cases hr
   rw[Dt hlt] at hr
   injection(show R.ok (.p j off) e.h=.ok v h' from hr) with h1 h2;subst h1 h2
   obtain⟨kn,hv⟩:=rel_p rx
   obtain⟨c,frz,hc1,hc2,_⟩:=hs.blk j _ hget
   have hsh:e.w.shape? (e.ρ j).1=some (el,c.size):=by simp[World.shape?,hc1]
   have hrun:=Lib.run_to_unsafe (P:=P) e.w ⟨(e.ρ j).1,(e.ρ j).2+off,none⟩ hds hdd hi (by rw[hin];exact hn0) hsh (by show(e.ρ j).2+off<c.size;omega)
   refine OpS.same hs (cv:=a.eval x) ?_ rx
   simp[execOp,ho,hv,hrun]
  ·cases hr
 ·cases hr
theorem sound_cvp2 {s d t:TypeId}{n:Nat}{x:Operand}{x':Od} (hs:St e) (hf:FrRel e fr a.tmps) (hg:GRel G e) (ho:o.op=.convert s d x)
 (hx:od G x=some x') (hds:P.underlying s=some .unsafePointer) (hdd:P.underlying d=some (.pointer t)) (hn:sizeOf? P t=some n) (hn0:n≠0)
 (hr:evOp call (.o2 (.cvp2 t n x')) fr e.h id=.ok v h'):OpS P o e a v h':=by
 have rx:=od_rel hf hg hx
 obtain⟨i,hi,hin⟩:=map_inv hn
 have hr:(match ev x' fr with
  |.p id off=>match e.h.get id with
   |some (.cs el l _)=>cd (Nat.beq el t) (cd (Nat.beq (Nat.mod off n) 0) (cd (Nat.ble (Nat.add off n) (len l)) (.ok (.p id off) e.h) .no) .no) .no
   |_=>.no
  |_=>.no:R)=.ok v h':=hr
 generalize ev x' fr=u at hr rx
 split at hr
 ·rename_i j off
  split at hr
  ·rename_i el l fz hget
   rw[cd_eq,beq_nat] at hr
   by_cases he:el=t
   case neg=>rw[Df he] at hr;cases hr
   rw[Dt he,if_pos rfl,cd_eq,beq_nat] at hr
   by_cases hm:Nat.mod off n=0
   case neg=>rw[Df hm] at hr;cases hr
   rw[Dt hm,if_pos rfl,cd_eq,ble_nat,len_eq] at hr
   by_cases hle:Nat.add off n≤l.length
   case neg=>rw[Df hle] at hr;cases hr
   rw[Dt hle] at hr
   injection(show R.ok (.p j off) e.h=.ok v h' from hr) with h1 h2;subst h1 h2
   subst he
   have hm:off % n=0:=hm
   have hle:off+n≤l.length:=hle
   obtain⟨kn,hv⟩:=rel_p rx
   obtain⟨c,frz,hc1,hc2,_,_,hz⟩:=hs.blk j _ hget
   have hsh:e.w.shape? (e.ρ j).1=some (el,c.size):=by simp[World.shape?,hc1]
   have hcel:P.cellsOf el=n:=by simp[Program.cellsOf,hi,hin]
   have hlies:liesAt P P.depth el (c.size / P.cellsOf el) off el 1=true:=by
    have hd:P.depth=(2*(P.types.size+Made.depth)+1)+1:=rfl
    rw[hd]
    simp only[liesAt,Bool.or_eq_true]
    left
    rw[hd]
    have h3:off / n+1≤c.size / n:=by
     rw[←Nat.add_div_right off om]
     exact Nat.div_le_div_right om
    simp[rowAt,hcel,hn0,hm,h3,sameLayout]
   have hrun:=Lib.run_from_unsafe (P:=P) e.w ⟨(e.ρ j).1,(e.ρ j).2+off,none⟩ hds hdd hi hsh (by show liesAt P P.depth el (c.size / P.cellsOf el) ((e.ρ j).2+off) el 1=true;rw[hz,Nat.zero_add];exact hlies)
   refine OpS.same hs (cv:=a.eval x) ?_ rx
   simp[execOp,ho,hv,hrun]
  ·cases hr
 ·cases hr
end
end Go.Ev
namespace Go.Ev
theorem freeze_qt (w:World) (a:Addr) (n:Nat):Qt w (w.freeze a n):=by
 unfold World.freeze
 refine⟨?_,?_,?_⟩<;>(first|rfl|(split<;>rfl))
theorem turn_ext {e:Env}{id:Id}{b:Blk} (hid:e.h.get id=some b) (hd:b≠.dead){b':Blk} (hd':b'≠.dead){w':World} (hsz:w'.heap.size=e.w.heap.size)
 (hother:∀k,k≠(e.ρ id).1→w'.heap[k]? =e.w.heap[k]?) (hb:bsize w' (e.ρ id).1=bsize e.w (e.ρ id).1) (q:Qt e.w w'):Ext e ⟨e.ρ,e.h.put id b',w',e.F⟩ where
 qt:=q
 next:=Nr _
 kn:=fun _ h=>h
 ren:=fun _ _=>rfl
 fr:=rfl
 heap:=by show _≤w'.heap.size;omega
 keep:=fun k _ ho=>hother k (fun h=>ho ⟨id,⟨b,hid,hd⟩,h.symm⟩)
 size:=fun k _=>by
  by_cases h:k=(e.ρ id).1
  ·rw[h];exact hb
  ·exact bsize_congr (hother k h)
 own:=fun k _ ⟨j,⟨c,hc',hd''⟩,hj⟩=>by
  have hc':(e.h.put id b').get j=some c:=hc'
  rw[H.get_put] at hc'
  by_cases h:j=id
  ·subst h;exact⟨j,⟨_,hid,hd⟩,hj⟩
  ·rw[if_neg h] at hc'
   exact⟨j,⟨c,hc',hd''⟩,hj⟩
 pres:=put_pres _ _ _
 newk:=fun _ h=>.inl h
theorem turn_st {e:Env} (hs:St e){id:Id}{b:Blk} (hid:e.h.get id=some b) (hd:b≠.dead){b':Blk} (hd':b'≠.dead){w':World} (hsz:w'.heap.size=e.w.heap.size)
 (hother:∀k,k≠(e.ρ id).1→w'.heap[k]? =e.w.heap[k]?) (hb:bsize w' (e.ρ id).1=bsize e.w (e.ρ id).1) (q:Qt e.w w')
 (hrel:BlkRel ⟨e.ρ,e.h.put id b',w',e.F⟩ id b'):St ⟨e.ρ,e.h.put id b',w',e.F⟩:=by
 refine St.next hs (turn_ext hid hd hd' hsz hother hb q) id ?_ ?_ (fun _ _=>rfl) ⟨hs.dk id _ hid,hs.num hid,⟨b',?_⟩⟩ ?_ ?_
 ·intro b2 hb'
  have hb':(e.h.put id b').get id=some b2:=hb'
  rw[H.get_put,if_pos rfl] at hb'
  obtain rfl:=Oi hb'
  exact hrel
 ·intro j h
  show(e.h.put id _).get j=_
  rw[H.get_put,if_neg h]
 ·show(e.h.put id _).get id=_
  rw[H.get_put,if_pos rfl]
 ·intro j hj l2
  apply hother
  intro h
  exact hj (hs.inj j id l2 ⟨_,hid,hd⟩ h)
 ·intro _ j hj l2 h
  exact hj (hs.inj j id l2 ⟨_,hid,hd⟩ h)
section
variable {P:Program}{G:Gs}{o:Oper}{e:Env}{a:Act}{fr:T AV}{call:CallF}{id:Nat}{ao:AOp}{v:AV}{h':H}
theorem sound_usd {c:Call}{x':Od} (hs:St e) (hf:FrRel e fr a.tmps) (hg:GRel G e) (ho:o.op=.call c) (hb:c.callee=.builtin .unsafeSliceData)
 (hx:ods G c.args.toList=some [x']) (hr:evOp call (.o2 (.usd x')) fr e.h id=.ok v h'):OpS P o e a v h':=by
 obtain⟨x,hxs,hx⟩:=ods_one hx
 have rx:=od_rel hf hg hx
 have hr:(match ev x' fr with
  |.v (.slice none 0 0)=>.ok (.v (.pointer none)) e.h
  |.sl id off _ n _ _=>cd (Nat.beq n 0) .no (.ok (.p id off) e.h)
  |_=>.no:R)=.ok v h':=hr
 generalize ev x' fr=u at hr rx
 split at hr
 ·injection hr with h1 h2;subst h1 h2
  simp only[Rel] at rx
  have hrun:=Lib.run_unsafeSliceData_nil (P:=P) e.w c.argTypes o.type 0 0
  refine OpS.same hs (cv:=.pointer none) ?_ (by simp[Rel,nilish])
  rw[run_exec_builtin ho hb,hxs]
  simp[builtin,rx.1,hrun]
 ·rename_i j off sz n lo ex
  rw[cd_eq,beq_nat] at hr
  by_cases h0:n=0
  ·rw[Dt h0] at hr;cases hr
  rw[Df h0] at hr
  injection(show R.ok (.p j off) e.h=.ok v h' from hr) with h1 h2;subst h1 h2
  simp only[Rel] at rx
  obtain⟨kn,ad,cap,hv,h1,h2,h3,h4⟩:=rx
  have hcap:cap≠0:=om
  obtain⟨rfl,_⟩:=h4.resolve_left hcap
  have hrun:=Lib.run_unsafeSliceData_row (P:=P) e.w c.argTypes o.type ⟨(e.ρ j).1,(e.ρ j).2+off,none⟩ n cap hcap
  refine OpS.same hs (cv:=.pointer (some ⟨(e.ρ j).1,(e.ρ j).2+off,none⟩)) ?_ (by simp[Rel,kn])
  rw[run_exec_builtin ho hb,hxs]
  simp[builtin,hv,hrun]
 ·cases hr
theorem bytesOfCells_inv:∀{cs:List AV}{bs:List Nat},bytesOfCells cs=some bs→cs=bs.map (fun c=>.i .u8 (.ofNat c))∧∀c∈bs,c<256
 |[],bs,h=>by
  have h:bs=[]:=(Oi (show some []=some bs from h)).symm
  subst h;exact⟨rfl,by simp⟩
 |x::cs,bs,h=>by
  have h:(match(generalizing:=false) x with
   |.i .u8 (.ofNat n)=>cd (Nat.blt n 256) (Option.rec none (fun r=>some (n::r)) (bytesOfCells cs)) none
   |_=>none:Option (List Nat))=some bs:=h
  split at h
  ·rename_i n _
   obtain⟨h1,h⟩:=cd_some h
   rw[blt_nat] at h1
   have h1:n<256:=of_decide_eq_true h1
   cases hb:bytesOfCells cs with
   |none=>rw[hb] at h;cases h
   |some r=>
    rw[hb] at h
    obtain rfl:=Oi (show some (n::r)=some bs from h)
    obtain⟨h2,h3⟩:=bytesOfCells_inv hb
    rw[h2]
    refine⟨rfl,fun c hc=>?_⟩
    rcases List.mem_cons.1 hc with rfl|hc
    ·exact h1
    ·exact h3 c hc
  ·cases h
theorem freeze_at {w:World}{g n:Nat}{c:Array Value}{el:TypeId}{frz:Nat×Nat} (hg:w.heap[g]? =some (.cells c el frz)):
 (w.freeze ⟨g,0,none⟩ n).heap.size=w.heap.size∧(∀k,k≠g→(w.freeze ⟨g,0,none⟩ n).heap[k]? =w.heap[k]?)∧∃frz',(w.freeze ⟨g,0,none⟩ n).heap[g]? =some (.cells c el frz'):=by
 unfold World.freeze
 split
 ·exact⟨rfl,fun _ _=>rfl,frz,hg⟩
 ·refine⟨by simp,fun k hk=>by simp[Array.getElem?_modify,Ne.symm hk],?_⟩
  obtain⟨lo,hi⟩:=frz
  simp[Array.getElem?_modify,hg]
theorem sound_ust {c:Call}{x' y':Od}{t el:TypeId} (hs:St e) (hf:FrRel e fr a.tmps) (hg:GRel G e) (ho:o.op=.call c) (hb:c.callee=.builtin .unsafeString)
 (hx:ods G c.args.toList=some [x',y']) (ht:c.argTypes[0]? =some t) (hts:c.argTypes.size=2) (hd:P.underlying t=some (.pointer el)) (hsz:sizeOf? P el=some 1)
 (hr:evOp call (.o2 (.ust el x' y')) fr e.h id=.ok v h'):OpS P o e a v h':=by
 obtain⟨x,y,hxs,hx,hy⟩:=ods_two hx
 have rx:=od_rel hf hg hx
 have ry:=od_rel hf hg hy
 obtain⟨it,hit⟩:∃it,c.argTypes=#[t,it]:=by
  generalize c.argTypes=ts at ht hts
  obtain⟨l⟩:=ts
  match l,ht,hts with
  |[p,q],ht,_=>simp at ht;exact⟨q,by rw[ht]⟩
 have hr:(match ev y' fr with
  |.i .i64 (.ofNat 0)=>match ev x' fr with
   |.p _ _=>.ok (.s 0 []) e.h
   |.v (.pointer none)=>.ok (.s 0 []) e.h
   |_=>.no
  |.i .i64 (.ofNat n)=>match ev x' fr with
   |.p id 0=>match e.h.get id with
    |some (.cs el' l _)=>cd (Nat.beq el' el) (match cut l 0 n with
     |some cs=>match bytesOfCells cs with
      |some bs=>cd (Nat.ble n 1099511627776) (.ok (.s n bs) (e.h.put id (.cs el' l true))) .no
      |none=>.no
     |none=>.no) .no
    |_=>.no
   |_=>.no
  |_=>.no:R)=.ok v h':=hr
 generalize ev y' fr=uy at hr ry
 generalize ev x' fr=ux at hr rx
 have hnone:∀p,a.eval x=.pointer p→a.eval y=.int .i64 0→OpS P o e a (.s 0 []) e.h:=by
  intro p hp hy0
  have hrun:=Lib.run_unsafeString_none (P:=P) e.w t it o.type p
  refine OpS.same hs (cv:=.string .empty) ?_ (by simp only[Rel];exact⟨⟨rfl,om⟩,by simp,rfl⟩)
  rw[run_exec_builtin ho hb,hxs,hit]
  simp[builtin,hp,hy0,hrun]
 split at hr
 ·have ry:=rel_i ry
  split at hr
  ·injection hr with h1 h2;subst h1 h2
   exact hnone _ (rel_p rx).2 ry
  ·injection hr with h1 h2;subst h1 h2
   simp only[Rel] at rx
   exact hnone _ rx.1 ry
  ·cases hr
 ·rename_i n hn0
  have ry:=rel_i ry
  split at hr
  ·rename_i j
   split at hr
   ·rename_i el' l fz hget
    rw[cd_eq,beq_nat] at hr
    by_cases he:el'=el
    case neg=>rw[Df he] at hr;cases hr
    rw[Dt he,if_pos rfl] at hr
    split at hr
    ·rename_i cs hcut
     split at hr
     ·rename_i bs hbs
      rw[cd_eq,ble_nat] at hr
      by_cases hle:n≤1099511627776
      case neg=>rw[Df hle] at hr;cases hr
      rw[Dt hle] at hr
      injection(show R.ok (.s n bs) (e.h.put j (.cs el' l true))=.ok v h' from hr) with h1 h2;subst h1 h2
      subst he
      obtain⟨kn,hv⟩:=rel_p rx
      obtain⟨cc,frz,hc1,hc2,hc3,_,hz⟩:=hs.blk j _ hget
      obtain⟨hcl,hcg⟩:=cut_get hcut
      obtain⟨hcs,h256⟩:=bytesOfCells_inv hbs
      have hbl:bs.length=n:=by rw[←hcl,hcs];simp
      have hn':n≠0:=fun h=>hn0 (by rw[h])
      have hlen:n≤l.length:=by have:=cut_le hcut om;omega
      have hcell:∀(k b:Nat),bs[k]? =some b→cc[k]? =some (Value.int .u8 (b:Int)):=by
       intro k b hk
       have hkn:k<n:=by rw[←hbl];exact(List.getElem?_eq_some_iff.1 hk).1
       have h1:cs[k]? =some (.i .u8 (.ofNat b)):=by rw[hcs,List.getElem?_map,hk];rfl
       rw[hcg k hkn,Nat.zero_add] at h1
       obtain⟨_,u,hu,hru⟩:=hc3 k _ h1
       rw[hz,Nat.zero_add] at hu
       rw[hu,rel_i hru];rfl
      have hsh:e.w.shape? (e.ρ j).1=some (el',cc.size):=by simp[World.shape?,hc1]
      have hcel:P.cellsOf el'=1:=by
       obtain⟨i,hi,hin⟩:=map_inv hsz
       simp[Program.cellsOf,hi,hin]
      have hrun:=Lib.run_unsafeString_row (P:=P) e.w t it o.type el' hd hcel (e.ρ j).1 cc.size hsh (bs.map UInt8.ofNat) (by intro h;apply hn';rw[←hbl];simpa using h)
       (by simp;omega) (by simp;omega) (fun k u hk=>by
        rw[Addr.add_none,Nat.zero_add,cell_of_row _ _ _ _ _ _ hc1]
        rw[List.getElem?_map] at hk
        cases hb:bs[k]? with
        |none=>rw[hb] at hk;cases hk
        |some b=>
         rw[hb] at hk
         obtain rfl:=Oi (show some (UInt8.ofNat b)=some u from hk)
         rw[toNat_ofNat (h256 b (List.mem_of_getElem? hb))]
         exact hcell k b hb)
      obtain⟨f1,f2,frz',f3⟩:=freeze_at (n:=(bs.map UInt8.ofNat).length) hc1
      have hbs':bsize (e.w.freeze ⟨(e.ρ j).1,0,none⟩ (bs.map UInt8.ofNat).length) (e.ρ j).1=bsize e.w (e.ρ j).1:=by
       unfold bsize;rw[f3,hc1]
      have hx':=turn_ext (b':=.cs el' l true) hget (by simp) (by simp) f1 f2 hbs' (freeze_qt _ _ _)
      have hst':=turn_st (b':=.cs el' l true) hs hget (by simp) (by simp) f1 f2 hbs' (freeze_qt _ _ _) ⟨cc,frz',f3,hc2,fun k y hy=>by
       obtain⟨h1,u,hu,hru⟩:=hc3 k y hy
       exact⟨h1,u,hu,Rel.ext hx' _ _ hru⟩,fun h=>absurd h (by simp),hz⟩
      refine OpS.value (cv:=.string (strOf bs)) ?_ _ hst' hx' (by simp only[Rel];exact⟨⟨hbl.symm,om⟩,h256,trivial⟩)
      have hzv:a.eval x=.pointer (some ⟨(e.ρ j).1,0,none⟩):=by rw[hv,hz]
      have hyv:a.eval y=.int .i64 (((bs.map UInt8.ofNat).length:Nat):Int):=by rw[ry,Lm,hbl];rfl
      rw[run_exec_builtin ho hb,hxs,hit]
      have harr:(#[x,y]:Array Operand).map a.eval=#[.pointer (some ⟨(e.ρ j).1,0,none⟩),Value.int .i64 (((bs.map UInt8.ofNat).length:Nat):Int)]:=by
       rw[←hzv,←hyv];simp
      rw[harr]
      simp only[builtin,Sem.run_bind,hrun]
      rfl
     ·cases hr
    ·cases hr
   ·cases hr
  ·cases hr
 ·cases hr
end
end Go.Ev
namespace Go.Ev
section
variable {P:Program}{G:Gs}{o:Oper}{e:Env}{a:Act}{fr:T AV}{call:CallF}{id:Nat}{ao:AOp}{v:AV}{h':H}
theorem sound_clr {c:Call}{x':Od}{t el:TypeId}{sz:Nat}{z:List AV} (hs:St e) (hf:FrRel e fr a.tmps) (hg:GRel G e) (ho:o.op=.call c) (hb:c.callee=.builtin .clear)
 (hx:ods G c.args.toList=some [x']) (ht:c.argTypes[0]? =some t) (hd:elemOf? P t=some el) (hz:zeroOf P el=some z) (hzl:z.length=sz) (hsz0:sz≠0)
 (hr:evOp call (.o2 (.clr sz z x')) fr e.h id=.ok v h'):OpS P o e a v h':=by
 obtain⟨x,hxs,hx⟩:=ods_one hx
 have rx:=od_rel hf hg hx
 have hu:=elem_inv hd
 have none0:∀b m,a.eval x=.slice b 0 m→OpS P o e a undefA e.h:=by
  intro b m hv
  refine OpS.same hs (cv:=.tuple #[]) ?_ (rel_undef e)
  rw[run_exec_builtin ho hb,hxs]
  cases b<;>simp[builtin,Builtin.clear_,ht,run_underlying hu,hv]
 have hr:(match ev x' fr with
  |.sl id off _ n _ _=>cd (Nat.beq n 0) (.ok undefA e.h) (Option.rec .no (fun h'=>.ok undefA h') (storeAt (.p id off) (repl n z) e.h))
  |.em=>.ok undefA e.h
  |.v (.slice none 0 0)=>.ok undefA e.h
  |_=>.no:R)=.ok v h':=hr
 generalize ev x' fr=u at hr rx
 split at hr
 ·rename_i j off sz' n lo ex
  rw[cd_eq,beq_nat] at hr
  simp only[Rel] at rx
  obtain⟨kn,ad,cap,hv,h1,h2,h3,h4⟩:=rx
  by_cases h0:n=0
  ·rw[Dt h0] at hr
   injection(show R.ok undefA e.h=.ok v h' from hr) with h1 h2;subst h1 h2
   subst h0
   exact none0 _ _ hv
  ·rw[Df h0] at hr
   have hr:(Option.rec .no (fun h'=>.ok undefA h') (storeAt (.p j off) (repl n z) e.h):R)=.ok v h':=by simpa using hr
   cases hst:storeAt (.p j off) (repl n z) e.h with
   |none=>rw[hst] at hr;cases hr
   |some h2=>
    rw[hst] at hr
    injection(show R.ok undefA h2=.ok v h' from hr) with h1 h3;subst h1 h3
    have hcap:cap≠0:=om
    obtain⟨rfl,_⟩:=h4.resolve_left hcap
    obtain⟨i,zv,hi,hzv,hzs⟩:=zero_inv hz
    obtain⟨hzr,hzo⟩:=rel_avOfs (e:=e) hzs
    have hzl2:zv.cells.size=sz:=by have:=hzr.len;simp at this;omega
    have hne:repl n z≠[]:=by
     intro h
     have:=repl_len z n
     rw[h,hzl,Ln] at this
     have:=Nat.mul_pos (show 0<n by omega) (show 0<sz by omega)
     omega
    have hp:Rel e (.p j off) (.pointer (some ⟨(e.ρ j).1,(e.ρ j).2+off,none⟩)):=by simp[Rel,kn]
    obtain⟨ad,w',hcv,hrun,hst',hx'⟩:=store_both (P:=P) hs hp (repl_rel hzr n) (fun y hy=>hzo y (repl_mem z n y hy)) hst hne
    injection hcv with hcv
    injection hcv with hcv
    subst hcv
    refine OpS.value (cv:=.tuple #[]) (w':=w') ?_ e.ρ hst' hx' (rel_undef _)
    rw[run_exec_builtin ho hb,hxs]
    have hzc:(Builtin.zeroCells zv.cells n).toList=rep n zv.cells.toList:=by
     unfold Builtin.zeroCells
     exact rep_array zv.cells n _ om rfl
    obtain⟨n',rfl⟩:∃n',n=n'+1:=⟨n - 1,om⟩
    simp[builtin,Builtin.clear_,ht,run_underlying hu,hv,zeroValue,run_info hi,hzv,hzc,hrun]
 ·injection hr with h1 h2;subst h1 h2
  simp only[Rel] at rx
  obtain⟨ad,hv⟩:=rx
  exact none0 _ _ hv
 ·injection hr with h1 h2;subst h1 h2
  simp only[Rel] at rx
  exact none0 _ _ rx.1
 ·cases hr
theorem keyKind_inv {t:TypeId}{kd:Nat} (h:keyKind P t=some kd):(∃k,P.underlying t=some (.int k)∧kd=0)∨(P.underlying t=some .string∧kd=1):=by
 unfold keyKind at h
 obtain⟨d,hd,h⟩:=bind_inv h
 split at h
 ·cases h;exact .inl ⟨_,hd,rfl⟩
 ·cases h;exact .inr ⟨hd,rfl⟩
 ·cases h
theorem run_checkKey {t:TypeId}{kd:Nat} (h:keyKind P t=some kd) (b:Bool) (n:Nat) (v:Value) (w:World):(Instr.checkKey b (n+1) t v).run P w=.ok () w:=by
 rcases keyKind_inv h with ⟨k,h,_⟩|⟨h,_⟩<;>simp[Instr.checkKey,run_underlying h]
def KD (kd:Nat) (d:TypeDesc):Prop:=(kd=0∧∃k,d=.int k)∨(kd=1∧d=.string)
theorem eqK_same {kd:Nat}{d:TypeDesc} (hk:KD kd d){x y:AV}{cx cy:Value}{b:Bool} (hx:Rel e x cx) (hy:Rel e y cy) (h:eqK kd x y=some b):
 Instr.sameNow d cx cy=some b∧(b=true→Instr.sameBits 10000 cy cx=true):=by
 unfold eqK at h
 split at h
 ·rename_i k m k' n
  obtain⟨h1,h⟩:=cd_some h
  obtain⟨h2,h⟩:=cd_some h
  obtain rfl:=Oi h
  have h1:=beq_true h1
  rw[kEq_eq] at h2
  have h2:k=k':=of_decide_eq_true h2
  subst h1 h2
  rcases hk with ⟨_,k2,rfl⟩|⟨h,_⟩
  ·rw[rel_i hx,rel_i hy,iEq_eq]
   refine⟨by simp[Instr.sameNow];rfl,fun h=>?_⟩
   have h:m=n:=of_decide_eq_true h
   subst h;simp[Instr.sameBits]
  ·cases h
 ·rename_i n l m l'
  obtain⟨h1,h⟩:=cd_some h
  obtain rfl:=Oi h
  have h1:=beq_true h1
  subst h1
  rcases hk with ⟨h,_⟩|⟨_,rfl⟩
  ·cases h
  ·obtain⟨_,hb1,rfl⟩:=rel_s hx
   obtain⟨_,hb2,rfl⟩:=rel_s hy
   rw[sEq_eq]
   have key:(strOf l==strOf l')=decide (l=l'):=by
    rw[beq_toListBytes];exact strOf_eq_iff hb1 hb2
   refine⟨by simp only[Instr.sameNow,key],fun h=>?_⟩
   have h:l=l':=of_decide_eq_true h
   subst h
   rw[Dt rfl] at key
   simp only[Instr.sameBits,key]
 ·cases h
theorem mfind_cons (kd:Nat) (k:AV) (p:AV×AV) (r:List (AV×AV)):mfind kd k (p::r)=(match eqK kd k p.1 with
 |some true=>some (some p.2)
 |some false=>mfind kd k r
 |none=>none):=rfl
theorem mset_cons (kd:Nat) (k v:AV) (p:AV×AV) (r:List (AV×AV)):mset kd k v (p::r)=(match eqK kd k p.1 with
 |some true=>(k,v)::r
 |_=>p::mset kd k v r):=rfl
theorem mfind_rel {kd:Nat}{d:TypeDesc} (hk:KD kd d){k:AV}{ck:Value} (hrk:Rel e k ck) (nv:AV):∀{es:List (AV×AV)}{ms:List MapEntry}{r:Option AV} (i:Nat),EntRel e es ms→mfind kd k es=some r→
 (r=none∧Instr.findNow d ck ms i=some none∧mset kd k nv es=es++[(k,nv)])∨
 (∃x j m,r=some x∧ms[j]? =some m∧Rel e x m.val∧Instr.findNow d ck ms i=some (some (i+j,m.val))∧Instr.sameBits 10000 m.key ck=true∧mset kd k nv es=es.set j (k,nv)∧j<es.length)
 |[],[],r,i,_,h=>by
  obtain rfl:none=r:=Oi (show some none=some r from h)
  exact .inl ⟨rfl,rfl,rfl⟩
 |[],_::_,_,_,h,_=>h.elim
 |(_,_)::_,[],_,_,h,_=>h.elim
 |(pk,pv)::es,m::ms,r,i,he,h=>by
  rw[mfind_cons] at h
  rw[mset_cons]
  cases hq:eqK kd k pk with
  |none=>simp only[hq] at h;cases h
  |some b=>
   obtain⟨h1,h2⟩:=eqK_same hk hrk he.1 hq
   cases b with
   |true=>
    simp only[hq] at h
    obtain rfl:=Oi h
    refine .inr ⟨pv,0,m,rfl,rfl,he.2.1,by simp[Instr.findNow,h1],h2 rfl,by simp,by simp⟩
   |false=>
    simp only[hq] at h
    rcases mfind_rel hk hrk nv (i+1) he.2.2 h with ⟨h3,h4,h5⟩|⟨x,j,m',h3,h4,h5,h6,h7,h8,h9⟩
    ·exact .inl ⟨h3,by simp[Instr.findNow,h1,h4],by simp[h5]⟩
    ·refine .inr ⟨x,j+1,m',h3,by simpa using h4,h5,?_,h7,by simp[h8],by simp;omega⟩
     simp only[Instr.findNow,h1,h6]
     rw[show i+1+j=i+(j+1) by omega]
theorem keyKind_KD {t:TypeId}{kd:Nat} (h:keyKind P t=some kd):∃d,P.underlying t=some d∧KD kd d:=by
 rcases keyKind_inv h with ⟨k,h2,rfl⟩|⟨h2,rfl⟩
 ·exact⟨_,h2,by unfold KD;exact .inl ⟨rfl,k,rfl⟩⟩
 ·exact⟨_,h2,by unfold KD;exact .inr ⟨rfl,rfl⟩⟩
theorem sound_lk {t:TypeId}{x ix:Operand}{ok:Bool} (hs:St e) (hf:FrRel e fr a.tmps) (hg:GRel G e) (ho:o.op=.lookup t x ix ok)
 (hc:compOp P G (.lookup t x ix ok)=some ao) (hr:evOp call ao fr e.h id=.ok v h'):OpS P o e a v h':=by
 simp only[compOp] at hc
 obtain⟨d,hd,hc⟩:=bind_inv hc
 split at hc
 ·rename_i kt et
  obtain⟨kd,hkd,hc⟩:=bind_inv hc
  obtain⟨z,hz,hc⟩:=bind_inv hc
  obtain⟨x',hx,hc⟩:=bind_inv hc
  obtain⟨i',hi,rfl⟩:=map_inv hc
  have rx:=od_rel hf hg hx
  have ri:=od_rel hf hg hi
  obtain⟨dk,hdk,hKD⟩:=keyKind_KD hkd
  have hr:(match(match ev x' fr with
   |.v (.map none)=>some []
   |.m id=>match e.h.get id with
    |some (.mp es)=>some es
    |_=>none
   |_=>none) with
   |some es=>match mfind kd (ev i' fr) es with
    |some r=>match Option.rec z (fun x=>x) r with
     |v=>.ok (cd ok (.tu [v,.b r.isSome]) v) e.h
    |none=>.no
   |none=>.no:R)=.ok v h':=hr
  split at hr
  ·rename_i es hes
   split at hr
   ·rename_i r hfind
    injection(show R.ok (cd ok (.tu [Option.rec z (fun x=>x) r,.b r.isSome]) (Option.rec z (fun x=>x) r)) e.h=.ok v h' from hr) with h1 h2;subst h2
    have hzv:∃inf zv,P.info? et=some inf∧inf.zero=some zv∧avOfAny zv=some z:=by
     unfold zeroAny at hz
     obtain⟨inf,hinf,hz⟩:=bind_inv hz
     obtain⟨zv,hzv,hz⟩:=bind_inv hz
     exact⟨inf,zv,hinf,hzv,hz⟩
    obtain⟨inf,zv,hinf,hzv,hza⟩:=hzv
    have relz:=rel_avOfAny (e:=e) hza
    have hents:∃ms:Array MapEntry,EntRel e es ms.toList∧((a.eval x=.map none∧ms=#[])∨∃r clock,a.eval x=.map (some r)∧e.w.heap[r]? =some (.map ms clock)):=by
     generalize ev x' fr=u at hes rx
     split at hes
     ·cases hes
      simp only[Rel] at rx
      exact⟨#[],trivial,.inl ⟨rx.1,rfl⟩⟩
     ·rename_i j
      split at hes
      ·rename_i es' hget
       cases hes
       simp only[Rel] at rx
       obtain⟨ms,clock,hm,hent⟩:=hs.blk _ _ hget
       exact⟨ms,hent,.inr ⟨_,clock,rx.2,hm⟩⟩
      ·cases hes
     ·cases hes
    obtain⟨ms,hent,hk⟩:=hents
    rcases mfind_rel hKD ri (.tu []) 0 hent hfind with ⟨rfl,h4,_⟩|⟨y,j,m,rfl,h3,h4,h5,_⟩
    ·have hrun:(Instr.lookup t (a.eval x) (a.eval ix) ok).run P e.w=.ok (if ok then .tuple #[zv,.bool false] else zv) e.w:=by
      rcases hk with ⟨hk,rfl⟩|⟨r,clock,hk,hm⟩
      ·have h4:Instr.findNow dk (a.eval ix) [] 0=some none:=h4
       simp[Instr.lookup,run_underlying hd,hk,run_checkKey hkd,Instr.findKey,run_underlying hdk,h4,zeroValue,run_info hinf,hzv]
      ·simp[Instr.lookup,run_underlying hd,hk,run_getObj' (P:=P) hm,run_checkKey hkd,Instr.findKey,run_underlying hdk,h4,zeroValue,run_info hinf,hzv]
     refine OpS.same hs (cv:=if ok then .tuple #[zv,.bool false] else zv) (by simp[execOp,ho,hrun]) ?_
     rw[←h1]
     cases ok with
     |true=>exact(show Rel e (.tu [z,.b false]) _ by simp only[Rel];exact⟨#[zv,.bool false],rfl,by simp only[RelL];exact⟨relz,rfl,trivial⟩⟩)
     |false=>exact relz
    ·have hrun:(Instr.lookup t (a.eval x) (a.eval ix) ok).run P e.w=.ok (if ok then .tuple #[m.val,.bool true] else m.val) e.w:=by
      rcases hk with ⟨hk,rfl⟩|⟨r,clock,hk,hm⟩
      ·simp at h3
      ·simp[Instr.lookup,run_underlying hd,hk,run_getObj' (P:=P) hm,run_checkKey hkd,Instr.findKey,run_underlying hdk,h5]
     refine OpS.same hs (cv:=if ok then .tuple #[m.val,.bool true] else m.val) (by simp[execOp,ho,hrun]) ?_
     rw[←h1]
     cases ok with
     |true=>exact(show Rel e (.tu [y,.b true]) _ by simp only[Rel];exact⟨#[m.val,.bool true],rfl,by simp only[RelL];exact⟨h4,rfl,trivial⟩⟩)
     |false=>exact h4
   ·cases hr
  ·cases hr
 ·cases hc
theorem EntRel.set {k v:AV}{ck cv:Value} (hk:Rel e k ck) (hv:Rel e v cv):∀{es:List (AV×AV)}{ms:List MapEntry} (j:Nat),EntRel e es ms→
 EntRel e (es.set j (k,v)) (ms.modify j fun m=>{m with key:=ck,val:=cv})
 |[],[],_,_=>by simp[EntRel]
 |[],_::_,_,h=>h.elim
 |(_,_)::_,[],_,h=>h.elim
 |(_,_)::es,m::ms,0,h=>by simp[EntRel];exact⟨hk,hv,h.2.2⟩
 |(_,_)::es,m::ms,j+1,h=>by simp[EntRel];exact⟨h.1,h.2.1,EntRel.set hk hv j h.2.2⟩
theorem EntRel.push {k v:AV}{m:MapEntry} (hk:Rel e k m.key) (hv:Rel e v m.val):∀{es:List (AV×AV)}{ms:List MapEntry},EntRel e es ms→EntRel e (es++[(k,v)]) (ms++[m])
 |[],[],_=>by simp[EntRel];exact⟨hk,hv⟩
 |[],_::_,h=>h.elim
 |(_,_)::_,[],h=>h.elim
 |(_,_)::es,_::ms,h=>by simp[EntRel];exact⟨h.1,h.2.1,EntRel.push hk hv h.2.2⟩
theorem setObj_at {w:World}{r:Nat}{ms:Array MapEntry}{clock:Nat} (hm:w.heap[r]? =some (.map ms clock)) (ms':Array MapEntry) (c':Nat):
 ∃w',(setObj r (.map ms' c')).run P w=.ok () w'∧w'.heap.size=w.heap.size∧(∀k,k≠r→w'.heap[k]? =w.heap[k]?)∧w'.heap[r]? =some (.map ms' c')∧Qt w w':=by
 have hlt:r<w.heap.size:=(Array.getElem?_eq_some_iff.1 hm).1
 refine⟨{w with heap:=w.heap.setIfInBounds r (.map ms' c')},?_,by simp,fun k hk=>by simp[Array.getElem?_setIfInBounds,Ne.symm hk],by simp[Array.getElem?_setIfInBounds,hlt],rfl,rfl,rfl⟩
 simp[setObj,Sem.run,hm]
theorem sound_mu {t:TypeId}{x k y:Operand} (hs:St e) (hf:FrRel e fr a.tmps) (hg:GRel G e) (ho:o.op=.mapUpdate t x k y)
 (hc:compOp P G (.mapUpdate t x k y)=some ao) (hr:evOp call ao fr e.h id=.ok v h'):OpS P o e a v h':=by
 simp only[compOp] at hc
 obtain⟨d,hd,hc⟩:=bind_inv hc
 split at hc
 ·rename_i kt et
  obtain⟨kd,hkd,hc⟩:=bind_inv hc
  obtain⟨x',hx,hc⟩:=bind_inv hc
  obtain⟨k',hk',hc⟩:=bind_inv hc
  obtain⟨y',hy,rfl⟩:=map_inv hc
  have rx:=od_rel hf hg hx
  have rk:=od_rel hf hg hk'
  have ry:=od_rel hf hg hy
  obtain⟨dk,hdk,hKD⟩:=keyKind_KD hkd
  have hr:(match ev x' fr with
   |.m id=>match e.h.get id with
    |some (.mp es)=>match mfind kd (ev k' fr) es with
     |some _=>.ok undefA (e.h.put id (.mp (mset kd (ev k' fr) (ev y' fr) es)))
     |none=>.no
    |_=>.no
   |_=>.no:R)=.ok v h':=hr
  generalize ev x' fr=u at hr rx
  split at hr
  ·rename_i i
   split at hr
   ·rename_i es hget
    split at hr
    ·rename_i r hfind
     injection hr with h1 h2;subst h1 h2
     simp only[Rel] at rx
     obtain⟨_,hxv⟩:=rx
     obtain⟨ms,clock,hm,hent⟩:=hs.blk _ _ hget
     have fin:∀(ms':Array MapEntry) (c':Nat) (w':World),w'.heap.size=e.w.heap.size→(∀k,k≠(e.ρ i).1→w'.heap[k]? =e.w.heap[k]?)→w'.heap[(e.ρ i).1]? =some (.map ms' c')→Qt e.w w'→
      EntRel e (mset kd (ev k' fr) (ev y' fr) es) ms'.toList→(execOp a.eval o).run P e.w=.ok .skip w'→OpS P o e a undefA (e.h.put i (.mp (mset kd (ev k' fr) (ev y' fr) es))):=by
      intro ms' c' w' f1 f2 f3 hq hent' hrun
      have hbs:bsize w' (e.ρ i).1=bsize e.w (e.ρ i).1:=by unfold bsize;rw[f3,hm]
      have hx':=turn_ext (b':=.mp (mset kd (ev k' fr) (ev y' fr) es)) hget (by simp) (by simp) f1 f2 hbs hq
      have hst':=turn_st (b':=.mp (mset kd (ev k' fr) (ev y' fr) es)) hs hget (by simp) (by simp) f1 f2 hbs hq ⟨ms',c',f3,EntRel.ext hx' _ _ hent'⟩
      exact OpS.skip hrun _ hst' hx' (rel_undef _)
     have hgo:=run_getObj' (P:=P) hm
     rcases mfind_rel hKD rk (ev y' fr) 0 hent hfind with ⟨rfl,h4,h5⟩|⟨z,j,m,rfl,h3,h4,h5,h6,h7,h8⟩
     ·obtain⟨w',g1,g2,g3,g4,g5⟩:=setObj_at (P:=P) hm (ms.push {key:=a.eval k,val:=a.eval y,born:=clock}) (clock+1)
      refine fin _ _ w' g2 g3 g4 g5 ?_ ?_
      ·rw[h5,Array.toList_push]
       exact EntRel.push rk ry hent
      ·simp[execOp,ho,Instr.mapUpdate,run_underlying hd,hxv,hgo,run_checkKey hkd,Instr.findKey,run_underlying hdk,h4,g1]
     ·obtain⟨w',g1,g2,g3,g4,g5⟩:=setObj_at (P:=P) hm (ms.modify j fun m=>{m with key:=a.eval k,val:=a.eval y}) clock
      refine fin _ _ w' g2 g3 g4 g5 ?_ ?_
      ·rw[h7,Array.toList_modify]
       exact EntRel.set rk ry j hent
      ·have hmj:ms[j]? =some m:=by simpa using h3
       rw[Nat.zero_add] at h5
       simp[execOp,ho,Instr.mapUpdate,run_underlying hd,hxv,hgo,run_checkKey hkd,Instr.findKey,run_underlying hdk,h5,hmj,Instr.keyThatStays,h6,g1]
    ·cases hr
   ·cases hr
  ·cases hr
 ·cases hc
end
end Go.Ev
end
