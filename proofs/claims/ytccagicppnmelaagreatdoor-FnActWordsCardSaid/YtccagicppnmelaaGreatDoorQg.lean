/- A part of the proof that FnActWords returns true for every input and leaves its argument as it was; no condition. -/
import Derived.Test.YtccagicppnmelaaGreatDoorQf
import Derived.Test.YtccagicppnmelaaGreatDoorQa
set_option linter.all false
open List renaming length→U
open Int renaming ofNat→J,toNat→Jn
noncomputable section
namespace Go.Ev
open Go.Proofs
structure Us (Bn:Nat) where
 C:CJ
 ok:CallOK PP (GG Bn) C.call
 P:CJ
 okP:CallOK PP (GG Bn) P.call
 hp:CallPure P.call
def cjL (L:List Con):CJ:=⟨callOf L,fun _=>true,true,fun _ _ _ _ _ _ hr=>callOf_pure L _ _ _ _ _ hr,fun _ _ _ _ _ _ hr=>callOf_pure L _ _ _ _ _ hr⟩
def uL {Bn:Nat} [BOk Bn] (L:List Con) (h:Okl Bn L):Us Bn:=
 ⟨cjL L,callOf_ok (G:=GG Bn) (BOk.lo (B:=Bn)) h,cjL L,callOf_ok (G:=GG Bn) (BOk.lo (B:=Bn)) h,callOf_pure L⟩
def notM (M:List ConM) (f:Nat):Bool:=List.rec true (fun c _ ih=>cd (Nat.beq c.f f) false ih) M
theorem callM_pure {call:CallF}:∀{M:List ConM}{f:Nat}{args:List AV}{h:H},notM M f=true→callOfM M call f args h=call f args h
 |[],_,_,_,_=>rfl
 |c::M,f,args,h,hn=>by
  have hn:cd (Nat.beq c.f f) false (notM M f)=true:=hn
  show cd (Nat.beq c.f f) (callM c args h) (callOfM M call f args h)=_
  cases hb:Nat.beq c.f f with
  |true=>rw[hb] at hn;cases hn
  |false=>rw[hb] at hn;exact callM_pure hn
def uM {Bn:Nat} [BOk Bn] (M:List ConM) (L:List Con) (hM:OklM Bn M) (h:Okl Bn L):Us Bn:=
 ⟨⟨callOfM M (callOf L),notM M,false,fun f args h r h' hn hr=>by rw[callM_pure hn] at hr;exact callOf_pure L _ _ _ _ _ hr,fun h=>by cases h⟩,
   callOfM_ok (G:=GG Bn) (BOk.lo (B:=Bn)) (callOf_ok (G:=GG Bn) (BOk.lo (B:=Bn)) h) hM,cjL L,callOf_ok (G:=GG Bn) (BOk.lo (B:=Bn)) h,callOf_pure L⟩
inductive K where
 |th (c:Code)
 |bk (id:Nat)
 |un (b:Code) (r:Nat)
def kQ (Bn nt:Nat) (Q:Ex→T AV→H→Prop):List K→Ex→T AV→H→Prop
 |[]=>Q
 |.th c::ks=>thenQ (fun fr h=>S Bn nt c fr h (kQ Bn nt Q ks)) (kQ Bn nt Q ks)
 |.bk id::ks=>blkQ id (kQ Bn nt Q ks)
 |.un b r::ks=>thenQ (SatN PP (GG Bn) nt b (kQ Bn nt Q ks) r) (kQ Bn nt Q ks)
structure Cf where
 c:Code
 ks:List K
 fr:T AV
 h:H
def GC (Bn nt:Nat) (_:Us Bn){τ:Type} (E:τ→Ex→T AV→H→Prop) (q:Cf) (y:τ):Prop:=match q.c with
 |.skip=>kQ Bn nt (E y) q.ks .normal q.fr q.h
 |.exit id=>kQ Bn nt (E y) q.ks (.exit id) q.fr q.h
 |.ret=>kQ Bn nt (E y) q.ks .ret q.fr q.h
 |c=>S Bn nt c q.fr q.h (kQ Bn nt (E y) q.ks)
def popN (ks:List K) (fr:T AV) (h:H):Option Cf:=match ks with
 |.th c::ks=>some ⟨c,ks,fr,h⟩
 |.bk _::ks=>some ⟨.skip,ks,fr,h⟩
 |.un b (r+1)::ks=>some ⟨b,.un b r::ks,fr,h⟩
 |_=>none
def popX (id:Nat) (ks:List K) (fr:T AV) (h:H):Option Cf:=match ks with
 |.th _::ks=>some ⟨.exit id,ks,fr,h⟩
 |.un _ _::ks=>some ⟨.exit id,ks,fr,h⟩
 |.bk j::ks=>cd (Nat.beq id j) (some ⟨.skip,ks,fr,h⟩) (some ⟨.exit id,ks,fr,h⟩)
 |[]=>none
def popR (ks:List K) (fr:T AV) (h:H):Option Cf:=match ks with
 |_::ks=>some ⟨.ret,ks,fr,h⟩
 |[]=>none
def jrC (ks:List K) (x:JR):Option Cf:=Option.rec none (fun q=>some ⟨.skip,ks,q.1,q.2.1⟩) x
def rsOf (Bn nt:Nat) (ops:Array Oper) (fr:T AV) (h:H):RS:=⟨regL PP (GG Bn) nt ops,fr,⟨Nat.add h.next (regN PP (GG Bn) nt ops),h.t⟩,.e,.e⟩
def rdOf (Bn nt:Nat) (ops:Array Oper) (fr:T AV) (h:H):RS:=⟨regL PP (GG Bn) nt ops,fr,h,.e,.e⟩
def condC (Bn:Nat) (c:Operand) (x y:Code) (ks:List K) (fr:T AV) (h:H):Option Cf:=Option.rec none (fun b=>cd b (some ⟨x,ks,fr,h⟩) (some ⟨y,ks,fr,h⟩)) (bOf (evO (GG Bn) c fr))
def stp {Bn:Nat} (u:Us Bn) (nt:Nat) (q:Cf):Option Cf:=match q.c with
 |.seq x y=>some ⟨x,.th y::q.ks,q.fr,q.h⟩
 |.block id b=>some ⟨b,.bk id::q.ks,q.fr,q.h⟩
 |.skip=>popN q.ks q.fr q.h
 |.exit id=>popX id q.ks q.fr q.h
 |.ret=>popR q.ks q.fr q.h
 |.region _ ops false=>jrC q.ks ((rsOf Bn nt ops q.fr q.h).all u.C q.h.next)
 |.region _ ops true=>cd (dregOk PP (GG Bn) nt ops) (jrC q.ks ((rdOf Bn nt ops q.fr q.h).all u.P q.h.next)) none
 |.cond c x y=>condC Bn c x y q.ks q.fr q.h
 |_=>none
def runC {Bn:Nat} (u:Us Bn) (nt n:Nat):Cf→Option Cf:=Nat.rec (motive:=fun _=>Cf→Option Cf) (fun q=>some q) (fun _ ih q=>Option.rec none ih (stp u nt q)) n
def cfD (x:Option Cf):Cf:=Option.rec ⟨.skip,[],.e,H0⟩ (fun q=>q) x
def cfS (x:Option Cf):Bool:=Option.rec false (fun _=>true) x
def cAt {Bn:Nat} (u:Us Bn) (nt n:Nat) (q:Cf):Cf:=cfD (runC u nt n q)
def cOn {Bn:Nat} (u:Us Bn) (nt n:Nat) (q:Cf):Bool:=cfS (runC u nt n q)
theorem cdN {α:Type}{b:Bool}{x:Option α}{z:α} (h:cd b x none=some z):b=true∧x=some z:=by
 cases b with
 |true=>exact⟨rfl,h⟩
 |false=>cases h
section
variable {Bn nt:Nat}{u:Us Bn}{τ:Type}{E:τ→Ex→T AV→H→Prop}{y:τ}
theorem jrC_inv {ks:List K}{x:JR}{q':Cf} (h:jrC ks x=some q'):jrS x=true∧q'=⟨.skip,ks,jrF x,jrH x⟩:=by
 cases x with
 |none=>cases h
 |some r=>injection(show some (⟨.skip,ks,r.1,r.2.1⟩:Cf)=some q' from h) with h;exact⟨rfl,h.symm⟩
theorem GC.S {q:Cf} (hg:GC Bn nt u E q y):S Bn nt q.c q.fr q.h (kQ Bn nt (E y) q.ks):=by
 obtain⟨c,ks,fr,h⟩:=q
 cases c<;>first
  |exact Sat.skip hg
  |exact Sat.exit hg
  |exact Sat.ret hg
  |exact hg
theorem reg_of {rid:Nat}{ops:Array Oper}{fr:T AV}{h:H}{Q:Ex→T AV→H→Prop} (hr:RJ u.C h.next (rsOf Bn nt ops fr h) (Q .normal)):S Bn nt (.region rid ops false) fr h Q:=Sat.regJ hmix u.ok hr
theorem dreg_of {rid:Nat}{ops:Array Oper}{fr:T AV}{h:H}{Q:Ex→T AV→H→Prop} (hd:dregOk PP (GG Bn) nt ops=true) (hr:RJ u.P h.next (rdOf Bn nt ops fr h) (Q .normal)):S Bn nt (.region rid ops true) fr h Q:=Sat.dregJ hmix u.okP u.hp hd hr
theorem stp_ok {q q':Cf} (h:stp u nt q=some q') (hg:GC Bn nt u E q' y):GC Bn nt u E q y:=by
 obtain⟨c,ks,fr,hh⟩:=q
 unfold stp at h
 split at h
 ·rename_i x y' hc
  replace hc:c=.seq x y':=hc
  subst hc
  injection h with h;subst h
  exact Sat.seq hg.S
 ·rename_i id b hc
  replace hc:c=.block id b:=hc
  subst hc
  injection h with h;subst h
  exact Sat.block hg.S
 ·rename_i hc
  replace hc:c=.skip:=hc
  subst hc
  replace h:popN ks fr hh=some q':=h
  show kQ Bn nt (E y) ks .normal fr hh
  unfold popN at h
  split at h
  ·injection h with h;subst h;exact hg.S
  ·injection h with h;subst h;exact hg
  ·injection h with h;subst h;exact zu1 hg.S
  ·cases h
 ·rename_i id hc
  replace hc:c=.exit id:=hc
  subst hc
  replace h:popX id ks fr hh=some q':=h
  show kQ Bn nt (E y) ks (.exit id) fr hh
  unfold popX at h
  split at h
  ·injection h with h;subst h;exact hg
  ·injection h with h;subst h;exact hg
  ·rename_i j ks'
   show(if id=j then kQ Bn nt (E y) ks' .normal fr hh else kQ Bn nt (E y) ks' (.exit id) fr hh)
   cases hb:Nat.beq id j with
   |true=>rw[hb] at h;injection h with h;subst h;rw[if_pos (Nq hb)];exact hg
   |false=>rw[hb] at h;injection h with h;subst h;rw[if_neg (fun he=>by rw[he,Nat.beq_refl] at hb;cases hb)];exact hg
  ·cases h
 ·rename_i hc
  replace hc:c=.ret:=hc
  subst hc
  replace h:popR ks fr hh=some q':=h
  show kQ Bn nt (E y) ks .ret fr hh
  unfold popR at h
  split at h
  ·rename_i k ks'
   injection h with h;subst h
   cases k with
   |th c=>exact hg
   |bk id=>exact hg
   |un b r=>exact hg
  ·cases h
 ·rename_i rid ops hc
  replace hc:c=.region rid ops false:=hc
  subst hc
  obtain⟨h1,h2⟩:=jrC_inv h
  subst h2
  exact reg_of (RJ.fin h1 hg)
 ·rename_i rid ops hc
  replace hc:c=.region rid ops true:=hc
  subst hc
  obtain⟨g2,h⟩:=cdN h
  obtain⟨h1,h2⟩:=jrC_inv h
  subst h2
  exact dreg_of g2 (RJ.fin h1 hg)
 ·rename_i c' x y' hc
  replace hc:c=.cond c' x y':=hc
  subst hc
  replace h:condC Bn c' x y' ks fr hh=some q':=h
  unfold condC at h
  show S Bn nt (.cond c' x y') fr hh _
  cases hb:bOf (evO (GG Bn) c' fr) with
  |none=>rw[hb] at h;cases h
  |some b=>
   rw[hb] at h
   refine Sat.cond b (bOf_eq hb) (fun hbt=>?_) (fun hbf=>?_)
   ·subst hbt;injection(show some (⟨x,ks,fr,hh⟩:Cf)=some q' from h) with h;subst h;exact hg.S
   ·subst hbf;injection(show some (⟨y',ks,fr,hh⟩:Cf)=some q' from h) with h;subst h;exact hg.S
 ·cases h
theorem run_ok:∀(n:Nat){q:Cf},cOn u nt n q=true→GC Bn nt u E (cAt u nt n q) y→GC Bn nt u E q y
 |0,_,_,hg=>hg
 |n+1,q,ho,hg=>by
  unfold cOn at ho
  unfold cAt at hg
  have e:runC u nt (n+1) q=Option.rec none (runC u nt n) (stp u nt q):=rfl
  rw[e] at ho hg
  cases hs:stp u nt q with
  |none=>rw[hs] at ho;cases ho
  |some q'=>
   rw[hs] at ho hg
   exact stp_ok hs (run_ok n ho hg)
end
end Go.Ev
end
noncomputable section
namespace Go.Ev
open Go.Proofs
def bodyC (q:Cf):Code:=match q.c with|.loop b=>b|_=>.skip
def loopC (q:Cf):Bool:=match q.c with|.loop _=>true|_=>false
def cvC (Bn:Nat) (q:Cf):Option Bool:=match q.c with|.cond c _ _=>bOf (evO (GG Bn) c q.fr)|_=>none
def setO (c:Operand) (b:Bool) (fr:T AV):T AV:=match c with|.tmp p=>T.set (path p) (.b b) fr|_=>fr
def brC (b:Bool) (q:Cf):Cf:=match q.c with|.cond c x y=>⟨cd b x y,q.ks,setO c b q.fr,q.h⟩|_=>q
def opsC (q:Cf):Array Oper:=match q.c with|.region _ ops _=>ops|_=>#[]
def regC (d:Bool) (q:Cf):Bool:=match q.c with|.region _ _ d'=>cd d d' (cd d' false true)|_=>false
def rsC (Bn nt:Nat) (q:Cf):RS:=rsOf Bn nt (opsC q) q.fr q.h
def rdC (Bn nt:Nat) (q:Cf):RS:=rdOf Bn nt (opsC q) q.fr q.h
def nilK (ks:List K):Bool:=List.rec true (fun _ _ _=>false) ks
def retC (q:Cf):Bool:=match q.c with|.ret=>nilK q.ks|_=>false
def skpC (q:Cf):Bool:=match q.c with|.skip=>nilK q.ks|_=>false
def extC (q:Cf):Bool:=match q.c with|.exit _=>nilK q.ks|_=>false
def endC (q:Cf):Bool:=match q.c with|.ret=>nilK q.ks|.skip=>nilK q.ks|_=>false
theorem nilK_eq {ks:List K} (h:nilK ks=true):ks=[]:=by
 cases ks with
 |nil=>rfl
 |cons=>cases h
section
variable {Bn nt:Nat}{u:Us Bn}{τ:Type}{E:τ→Ex→T AV→H→Prop}{y:τ}{q:Cf}
theorem xc (n:Nat){b:Bool}{X Y:τ} (ht:b=true→GC Bn nt u E (brC true (cAt u nt n q)) X) (hf:b=false→GC Bn nt u E (brC false (cAt u nt n q)) Y)
 (ho:cOn u nt n q=true:=by kernel_rfl) (hv:cvC Bn (cAt u nt n q)=some b:=by kernel_rfl):GC Bn nt u E q (cd b X Y):=by
 refine run_ok n ho ?_
 generalize cAt u nt n q=p at*
 obtain⟨c,ks,fr,h⟩:=p
 unfold cvC at hv
 split at hv
 ·rename_i c' x y' hc
  replace hc:c=.cond c' x y':=hc
  subst hc
  have hv:=bOf_eq (show bOf (evO (GG Bn) c' fr)=some b from hv)
  have hset:setO c' b fr=fr:=by
   cases c' with
   |tmp p=>
    have:getV fr (path p)=.b b:=by
     have h0:evO (GG Bn) (.tmp p) fr=getV fr (mkPath p):=rfl
     rw[h0,mkPath_eq] at hv;exact hv
    unfold getV at this
    show T.set (path p) (.b b) fr=fr
    cases hg:T.get (path p) fr with
    |none=>rw[hg] at this;cases this
    |some v=>rw[hg] at this;have this:v=.b b:=this;rw[this] at hg;exact T.set_self _ _ _ hg
   |_=>rfl
  show S Bn nt (.cond c' x y') fr h _
  refine Sat.cond b hv (fun hb=>?_) (fun hb=>?_)
  ·subst hb
   have:=(ht rfl).S
   rw[show(brC true (⟨.cond c' x y',ks,fr,h⟩:Cf))=⟨x,ks,setO c' true fr,h⟩ from rfl,hset] at this
   exact this
  ·subst hb
   have:=(hf rfl).S
   rw[show(brC false (⟨.cond c' x y',ks,fr,h⟩:Cf))=⟨y',ks,setO c' false fr,h⟩ from rfl,hset] at this
   exact this
 ·cases hv
theorem xs (n:Nat) (hg:GC Bn nt u E (cAt u nt n q) y) (ho:cOn u nt n q=true:=by kernel_rfl):GC Bn nt u E q y:=run_ok n ho hg
theorem xr (n:Nat) (hr:RJ u.C (cAt u nt n q).h.next (rsC Bn nt (cAt u nt n q)) (fun fr h=>GC Bn nt u E ⟨.skip,(cAt u nt n q).ks,fr,h⟩ y)) (ho:cd (cOn u nt n q) (regC false (cAt u nt n q)) false=true:=by kernel_rfl):GC Bn nt u E q y:=by
 obtain⟨h1,h2⟩:=cd_true ho
 refine run_ok n h1 ?_
 generalize cAt u nt n q=p at*
 obtain⟨c,ks,fr,h⟩:=p
 unfold regC at h2
 split at h2
 ·rename_i rid ops d hc
  replace hc:c=.region rid ops d:=hc
  subst hc
  have:d=false:=by cases d<;>first|rfl|cases h2
  subst this
  exact reg_of hr
 ·cases h2
theorem xd (n:Nat) (hr:RJ u.P (cAt u nt n q).h.next (rdC Bn nt (cAt u nt n q)) (fun fr h=>GC Bn nt u E ⟨.skip,(cAt u nt n q).ks,fr,h⟩ y))
 (ho:cd (cOn u nt n q) (cd (regC true (cAt u nt n q)) (dregOk PP (GG Bn) nt (opsC (cAt u nt n q))) false) false=true:=by kernel_rfl):GC Bn nt u E q y:=by
 obtain⟨h1,h2⟩:=cd_true ho
 obtain⟨h2,h3⟩:=cd_true h2
 refine run_ok n h1 ?_
 generalize cAt u nt n q=p at*
 obtain⟨c,ks,fr,h⟩:=p
 unfold regC at h2
 split at h2
 ·rename_i rid ops d hc
  replace hc:c=.region rid ops d:=hc
  subst hc
  have:d=true:=by cases d<;>first|rfl|cases h2
  subst this
  exact dreg_of h3 hr
 ·cases h2
theorem xv (n:Nat) (hg:GC Bn nt u E ⟨.skip,(cAt u nt n q).ks,frD (evDr PP (GG Bn) nt u.C.call (opsC (cAt u nt n q)) (cAt u nt n q).fr (cAt u nt n q).h),hD (evDr PP (GG Bn) nt u.C.call (opsC (cAt u nt n q)) (cAt u nt n q).fr (cAt u nt n q).h)⟩ y)
 (ho:cd (cOn u nt n q) (cd (regC true (cAt u nt n q)) (cd (chkD (regN PP (GG Bn) nt (opsC (cAt u nt n q))) (opsC (cAt u nt n q)).toList (predsGo (opsC (cAt u nt n q)).toList []) (regL PP (GG Bn) nt (opsC (cAt u nt n q))))
  (isSomeD (evDr PP (GG Bn) nt u.C.call (opsC (cAt u nt n q)) (cAt u nt n q).fr (cAt u nt n q).h)) false) false) false=true:=by kernel_rfl)
 (hc:gotD (evDr PP (GG Bn) nt u.C.call (opsC (cAt u nt n q)) (cAt u nt n q).fr (cAt u nt n q).h)=wantD (evDr PP (GG Bn) nt u.C.call (opsC (cAt u nt n q)) (cAt u nt n q).fr (cAt u nt n q).h):=by kernel_rfl):GC Bn nt u E q y:=by
 obtain⟨h1,h2⟩:=cd_true ho
 obtain⟨h2,h3⟩:=cd_true h2
 obtain⟨h3,h4⟩:=cd_true h3
 refine run_ok n h1 ?_
 generalize cAt u nt n q=p at*
 obtain⟨c,ks,fr,h⟩:=p
 unfold regC at h2
 split at h2
 ·rename_i rid ops d hc'
  replace hc':c=.region rid ops d:=hc'
  subst hc'
  have:d=true:=by cases d<;>first|rfl|cases h2
  subst this
  exact Sat.dregV hmix u.ok h3 h4 hc hg
 ·cases h2
theorem xw (n:Nat) (hr:RunD u.C.call (cAt u nt n q).h.next (regN PP (GG Bn) nt (opsC (cAt u nt n q))) (drawOf (predsGo (opsC (cAt u nt n q)).toList []) (regL PP (GG Bn) nt (opsC (cAt u nt n q)))) ⟨(cAt u nt n q).fr,⟨⟨Nat.add (cAt u nt n q).h.next (regN PP (GG Bn) nt (opsC (cAt u nt n q))),(cAt u nt n q).h.t⟩,[]⟩,[],[],[]⟩
 (DQ (fun fr h=>GC Bn nt u E ⟨.skip,(cAt u nt n q).ks,fr,h⟩ y)))
 (ho:cd (cOn u nt n q) (cd (regC true (cAt u nt n q)) (chkD (regN PP (GG Bn) nt (opsC (cAt u nt n q))) (opsC (cAt u nt n q)).toList (predsGo (opsC (cAt u nt n q)).toList []) (regL PP (GG Bn) nt (opsC (cAt u nt n q)))) false) false=true:=by kernel_rfl):GC Bn nt u E q y:=by
 obtain⟨h1,h2⟩:=cd_true ho
 obtain⟨h2,h3⟩:=cd_true h2
 refine run_ok n h1 ?_
 generalize cAt u nt n q=p at*
 obtain⟨c,ks,fr,h⟩:=p
 unfold regC at h2
 split at h2
 ·rename_i rid ops d hc'
  replace hc':c=.region rid ops d:=hc'
  subst hc'
  have:d=true:=by cases d<;>first|rfl|cases h2
  subst this
  exact Sat.dregS hmix u.ok h3 hr
 ·cases h2
theorem xsv (n p:Nat) (v v':AV) (he:v=v') (hg:GC Bn nt u E ⟨(cAt u nt n q).c,(cAt u nt n q).ks,T.set (path p) v' (cAt u nt n q).fr,(cAt u nt n q).h⟩ y)
 (ho:cOn u nt n q=true:=by kernel_rfl) (hv:T.get (path p) (cAt u nt n q).fr=some v:=by kernel_rfl):GC Bn nt u E q y:=by
 subst he
 refine run_ok n ho ?_
 rw[T.set_self _ _ _ hv] at hg;exact hg
theorem kQ_ret {Q:Ex→T AV→H→Prop}{fr:T AV}{h:H}:∀(ks:List K),kQ Bn nt Q ks .ret fr h=Q .ret fr h
 |[]=>rfl
 |.th c::ks=>kQ_ret ks
 |.bk id::ks=>kQ_ret ks
 |.un b r::ks=>kQ_ret ks
theorem endC_of {q:Cf} (h:endC q=true) (hy:∀ex,ex=.normal∨ex=.ret→E y ex q.fr q.h):GC Bn nt u E q y:=by
 obtain⟨c,ks,fr,hh⟩:=q
 unfold endC at h
 split at h
 ·rename_i hc
  replace hc:c=.ret:=hc
  subst hc
  replace h:nilK ks=true:=h
  rw[nilK_eq h]
  exact hy .ret (.inr rfl)
 ·rename_i hc
  replace hc:c=.skip:=hc
  subst hc
  replace h:nilK ks=true:=h
  rw[nilK_eq h]
  exact hy .normal (.inl rfl)
 ·cases h
theorem xe {res:List (List Bool×Option (Option Nat))}{rs:List Par}{y:denL rs} (n:Nat) (ho:cd (cOn u nt n q) (endC (cAt u nt n q)) false=true:=by kernel_rfl)
 (he:endV res rs (cAt u nt n q).fr (cAt u nt n q).h=some y:=by kernel_rfl):GC Bn nt u (EndQ res rs) q y:=by
 obtain⟨h1,h2⟩:=cd_true ho
 refine run_ok n h1 (endC_of h2 ?_)
 rintro ex hex
 refine⟨hex,?_⟩
 unfold endV at he
 cases hr:resOf res (cAt u nt n q).fr (cAt u nt n q).h with
 |none=>rw[hr] at he;cases he
 |some us=>rw[hr] at he;exact⟨us,rfl,he⟩
theorem xem {res:List (List Bool×Option (Option Nat))}{el:TypeId}{t:Ty}{rs:List Par}{y:den t×denL rs} (n:Nat) (ho:cd (cOn u nt n q) (endC (cAt u nt n q)) false=true:=by kernel_rfl)
 (he:endVM res el t rs (cAt u nt n q).fr (cAt u nt n q).h=some y:=by kernel_rfl):GC Bn nt u (EndQM res el t rs) q y:=by
 obtain⟨h1,h2⟩:=cd_true ho
 exact run_ok n h1 (endC_of h2 (fun ex hex=>⟨hex,he⟩))
def gets (fr:T AV) (L:List (List Bool×AV)):List AV:=List.rec [] (fun q _ ih=>getV fr q.1::ih) L
def vals (L:List (List Bool×AV)):List AV:=List.rec [] (fun q _ ih=>q.2::ih) L
def putAt (l:List AV):Nat→AV→List AV:=List.rec (motive:=fun _=>Nat→AV→List AV) (fun _ _=>[]) (fun x xs ih k v=>Nat.rec (motive:=fun _=>List AV) (v::xs) (fun k _=>x::ih k v) k) l
theorem hA {fr:T AV}:∀{L:List (List Bool×AV)},gets fr L=vals L→Holds fr L
 |[],_=>trivial
 |q::L,h=>by
  injection(show getV fr q.1::gets fr L=q.2::vals L from h) with h1 h2
  exact⟨h1,hA h2⟩
theorem putAt_same:∀{l:List AV}{k:Nat}{v:AV},nth l k=some v→putAt l k v=l
 |[],_,_,h=>by cases h
 |x::l,0,v,h=>by injection(show some x=some v from h) with h;rw[h];rfl
 |x::l,k+1,v,h=>by
  show x::putAt l k v=x::l
  rw[putAt_same (show nth l k=some v from h)]
theorem hK {fr:T AV}{L:List (List Bool×AV)} (h:gets fr L=vals L:=by kernel_rfl):Holds fr L:=hA h
theorem hV {fr:T AV}{L:List (List Bool×AV)} (k:Nat) (v v':AV) (he:v=v') (h:gets fr L=putAt (vals L) k v:=by kernel_rfl) (hn:nth (vals L) k=some v':=by kernel_rfl):Holds fr L:=by
 subst he
 exact hA (h.trans (putAt_same hn))
theorem hN {fr:T AV}{L:List (List Bool×AV)} (k i:Nat) (hi:i<9223372036854775807) (h:gets fr L=putAt (vals L) k (.i .i64 (wr .i64 (J i+J 1))):=by kernel_rfl) (hn:nth (vals L) k=some (.i .i64 (J (i+1))):=by kernel_rfl):Holds fr L:=
 hV k _ _ (wr_inc hi) h hn
def RoundE (Bn nt:Nat){σ β:Type} (E:τ→Ex→T AV→H→Prop) (ks:List K) (bX:σ→τ) (rX:β→τ) (Inv:σ→Prop) (m:σ→Nat) (n:Nat) (L:σ→List (List Bool×AV)) (B:σ→List (Option Blk)) (s:σ) (o:Out σ β):Ex→T AV→H→Prop:=fun ex fr h=>match ex with
 |.normal=>∃s',o=.go s'∧(Inv s'∧m s'<m s)∧Holds fr (L s')∧LOk n (L s')∧heapL h n=B s'∧blksOk n (B s')
 |.exit id=>∃s',o=.brk s'∧kQ Bn nt (E (bX s')) ks (.exit id) fr h
 |.ret=>∃r,o=.ret r∧E (rX r) .ret fr h
theorem xl {σ β:Type}{P:σ→Out σ β}{s0:σ}{f:Nat}{g:τ}{bX:σ→τ}{rX:β→τ} (k n:Nat) (L:σ→List (List Bool×AV)) (B:σ→List (Option Blk)) (Inv:σ→Prop) (m:σ→Nat) (hI:Inv s0) (hm:m s0<4611686018427387904) (hl:Holds (cAt u nt k q).fr (L s0))
 (step:∀s,Inv s→GC Bn nt u (RoundE Bn nt E (cAt u nt k q).ks bX rX Inv m n L B s) ⟨bodyC (cAt u nt k q),[],mkFr (L s),hpH n (B s)⟩ (P s))
 (ho:cd (cOn u nt k q) (cd (loopC (cAt u nt k q)) (Nat.beq (cAt u nt k q).h.next n) false) false=true:=by kernel_rfl) (hh:heapL (cAt u nt k q).h n=B s0:=by kernel_rfl) (hf:f=m s0+1:=by kernel_rfl):
 GC Bn nt u E q (outE g bX rX (scan P f s0)):=by
 subst hf
 obtain⟨h1,h2⟩:=cd_true ho
 obtain⟨h2,h3⟩:=cd_true h2
 refine run_ok k h1 ?_
 generalize cAt u nt k q=p at*
 obtain⟨c,ks,fr,h⟩:=p
 unfold loopC at h2
 split at h2
 ·rename_i b hc
  replace hc:c=.loop b:=hc
  subst hc
  show S Bn nt (.loop b) fr h (kQ Bn nt (E (outE g bX rX (scan P (m s0+1) s0))) ks)
  refine loop_scan P n L B Inv m s0 hI hm hl (Nq h3) hh (fun s hs=>Sat.mono (step s hs).S (fun ex fr' h' hq=>?_))
  cases ex with
  |normal=>exact hq
  |exit id=>
   obtain⟨s',g1,g2⟩:=hq
   exact⟨s',g1,fun hr=>by rw[outB hr];exact g2⟩
  |ret=>
   obtain⟨r,g1,g2⟩:=hq
   exact⟨r,g1,fun hr=>by rw[kQ_ret,outR hr];exact g2⟩
 ·cases h2
theorem xlc {σ β:Type}{P:σ→Out σ β}{s0:σ}{f:Nat}{g:τ}{bX:σ→τ}{rX:β→τ} (k n:Nat) (L:σ→List (List Bool×AV)) (B:σ→List (Option Blk)) (c:σ→Nat) (N:Nat) (hm:N<4611686018427387904)
 (step:∀s,c s≤N→GC Bn nt u (RoundE Bn nt E (cAt u nt k q).ks bX rX (fun s=>c s≤N) (fun s=>N - c s) n L B s) ⟨bodyC (cAt u nt k q),[],mkFr (L s),hpH n (B s)⟩ (P s))
 (h0:c s0=0:=by kernel_rfl) (hf:f=N - c s0+1:=by kernel_rfl) (hl:gets (cAt u nt k q).fr (L s0)=vals (L s0):=by kernel_rfl)
 (ho:cd (cOn u nt k q) (cd (loopC (cAt u nt k q)) (Nat.beq (cAt u nt k q).h.next n) false) false=true:=by kernel_rfl) (hh:heapL (cAt u nt k q).h n=B s0:=by kernel_rfl):
 GC Bn nt u E q (outE g bX rX (scan P f s0)):=
 xl k n L B (fun s=>c s≤N) (fun s=>N - c s) (by show c s0≤N;rw[h0];exact Nz _) (by show N - c s0<_;omega) (hA hl) step ho hh hf
theorem gI {i N:Nat} (h:i<N):i+1≤N∧N - (i+1)<N - i:=om
section
variable {σ β:Type}{ks:List K}{bX:σ→τ}{rX:β→τ}{Inv:σ→Prop}{m:σ→Nat}{n:Nat}{L:σ→List (List Bool×AV)}{B:σ→List (Option Blk)}{s:σ}
theorem skpC_of {q:Cf} (h:skpC q=true) (hy:E y .normal q.fr q.h):GC Bn nt u E q y:=by
 obtain⟨c,ks,fr,hh⟩:=q
 unfold skpC at h
 split at h
 ·rename_i hc
  replace hc:c=.skip:=hc
  subst hc
  replace h:nilK ks=true:=h
  rw[nilK_eq h];exact hy
 ·cases h
theorem xg {s':σ} (k:Nat) (hd:Inv s'∧m s'<m s) (hH:Holds (cAt u nt k q).fr (L s')) (ho:cd (cOn u nt k q) (cd (skpC (cAt u nt k q)) (cd (lokB n (L s')) (blksB n (B s')) false) false) false=true:=by kernel_rfl)
 (hh:heapL (cAt u nt k q).h n=B s':=by kernel_rfl):GC Bn nt u (RoundE Bn nt E ks bX rX Inv m n L B s) q (.go s'):=by
 obtain⟨h1,h2⟩:=cd_true ho
 obtain⟨h2,h3⟩:=cd_true h2
 obtain⟨h3,h4⟩:=cd_true h3
 exact run_ok k h1 (skpC_of h2 ⟨s',rfl,hd,hH,lok_of h3,hh,blks_of h4⟩)
theorem xgb {s':σ} (k:Nat) (hd:Inv s'∧m s'<m s) (hH:Holds (cAt u nt k q).fr (L s')) (hb:blksOk n (B s')) (ho:cd (cOn u nt k q) (cd (skpC (cAt u nt k q)) (lokB n (L s')) false) false=true:=by kernel_rfl)
 (hh:heapL (cAt u nt k q).h n=B s':=by kernel_rfl):GC Bn nt u (RoundE Bn nt E ks bX rX Inv m n L B s) q (.go s'):=by
 obtain⟨h1,h2⟩:=cd_true ho
 obtain⟨h2,h3⟩:=cd_true h2
 exact run_ok k h1 (skpC_of h2 ⟨s',rfl,hd,hH,lok_of h3,hh,hb⟩)
theorem xb {s':σ} (k:Nat) (hg:GC Bn nt u E ⟨(cAt u nt k q).c,ks,(cAt u nt k q).fr,(cAt u nt k q).h⟩ (bX s')) (ho:cd (cOn u nt k q) (extC (cAt u nt k q)) false=true:=by kernel_rfl):
 GC Bn nt u (RoundE Bn nt E ks bX rX Inv m n L B s) q (.brk s'):=by
 obtain⟨h1,h2⟩:=cd_true ho
 refine run_ok k h1 ?_
 generalize cAt u nt k q=p at*
 obtain⟨c,ks',fr,h⟩:=p
 unfold extC at h2
 split at h2
 ·rename_i id hc
  replace hc:c=.exit id:=hc
  subst hc
  replace h2:nilK ks'=true:=h2
  rw[nilK_eq h2]
  exact⟨s',rfl,hg⟩
 ·cases h2
theorem retC_of {q:Cf} (h:retC q=true) (hy:E y .ret q.fr q.h):GC Bn nt u E q y:=by
 obtain⟨c,ks,fr,hh⟩:=q
 unfold retC at h
 split at h
 ·rename_i hc
  replace hc:c=.ret:=hc
  subst hc
  replace h:nilK ks=true:=h
  rw[nilK_eq h];exact hy
 ·cases h
theorem xt {r:β} (k:Nat) (hg:GC Bn nt u E ⟨.ret,[],(cAt u nt k q).fr,(cAt u nt k q).h⟩ (rX r)) (ho:cd (cOn u nt k q) (retC (cAt u nt k q)) false=true:=by kernel_rfl):
 GC Bn nt u (RoundE Bn nt E ks bX rX Inv m n L B s) q (.ret r):=by
 obtain⟨h1,h2⟩:=cd_true ho
 exact run_ok k h1 (retC_of h2 ⟨r,rfl,hg⟩)
end
def bodyF (fn:Func):Code:=Option.rec .skip (fun c=>c) fn.body
def resF (fn:Func):List (List Bool×Option (Option Nat)):=Option.rec [] (fun x=>x) (compResL PP fn.results.toList)
def isSm {α:Type} (x:Option α):Bool:=Option.rec false (fun _=>true) x
def fOk (ps:List Par) (fn:Func) (k:Nat):Bool:=cd (isSm fn.body) (cd (isSm (compResL PP fn.results.toList)) (cd (Nat.ble (Nat.add ps.length k) fn.ntmps) (cd (wfR ps) (fn.name != "runtime.NumGoroutine") false) false) false) false
def KC (Bn:Nat) (c:Con) (x:denL c.ps) (y:denL c.rs):Prop:=KOk PP (GG Bn) c.f c.ps c.rs x y
def KM (Bn:Nat) (c:ConM) (x0:den c.t) (x:denL c.ps) (y:den c.t×denL c.rs):Prop:=KOkM PP (GG Bn) c.f c.fs c.el c.t c.ps c.rs x0 x y.1 y.2
abbrev OK (Bn:Nat) (c:Con):Prop:=ConOk PP (GG Bn) c
abbrev OM (Bn:Nat) (c:ConM):Prop:=ConMOk PP (GG Bn) c
theorem isSm_eq {α:Type}{x:Option α} (h:isSm x=true):∃v,x=some v:=by
 cases x with
 |none=>cases h
 |some v=>exact⟨v,rfl⟩
theorem xI [BOk Bn] (u:Us Bn){c:Con}{x:denL c.ps}{y:denL c.rs}{fn:Func} (hf:PP.funcs[c.f]? =some fn)
 (hsat:BdL Bn c.ps x→Bn≤1152921504606846976→GC Bn fn.ntmps u (EndQ (resF fn) c.rs) ⟨bodyF fn,[],argsFrom (encL c.ps x) 0 .e,H0⟩ y) (hok:fOk c.ps fn 0=true:=by kernel_rfl):KC Bn c x y:=by
 obtain⟨h1,h2⟩:=cd_true hok
 obtain⟨h2,h3⟩:=cd_true h2
 obtain⟨h3,h4⟩:=cd_true h3
 obtain⟨h4,h5⟩:=cd_true h4
 obtain⟨b,hb⟩:=isSm_eq h1
 obtain⟨res,hr⟩:=isSm_eq h2
 have e1:bodyF fn=b:=by unfold bodyF;rw[hb]
 have e2:resF fn=res:=by unfold resF;rw[hr]
 rw[e1,e2] at hsat
 exact fn_intro hmix hf (by simpa using h5) hb hr h3 h4 (BOk.lo (B:=Bn)) (fun hbd=>(hsat hbd (BOk.hi (B:=Bn))).S)
theorem xIM [BOk Bn] (u:Us Bn){c:ConM}{x0:den c.t}{x:denL c.ps}{y:den c.t×denL c.rs}{fn:Func} (hf:PP.funcs[c.f]? =some fn)
 (hsat:Bd Bn c.t x0→BdL Bn c.ps x→Bn≤1152921504606846976→GC Bn fn.ntmps u (EndQM (resF fn) c.el c.t c.rs) ⟨bodyF fn,[],argsFrom (fstA c.fs (path 0)::encL c.ps x) 0 .e,hpH 1 [some (.cs c.el (tc c.t x0) false)]⟩ y) (hok:fOk c.ps fn 1=true:=by kernel_rfl):KM Bn c x0 x y:=by
 obtain⟨h1,h2⟩:=cd_true hok
 obtain⟨h2,h3⟩:=cd_true h2
 obtain⟨h3,h4⟩:=cd_true h3
 obtain⟨h4,h5⟩:=cd_true h4
 obtain⟨b,hb⟩:=isSm_eq h1
 obtain⟨res,hr⟩:=isSm_eq h2
 have e1:bodyF fn=b:=by unfold bodyF;rw[hb]
 have e2:resF fn=res:=by unfold resF;rw[hr]
 rw[e1,e2] at hsat
 exact fn_introM hmix hf (by simpa using h5) hb hr h3 h4 (BOk.lo (B:=Bn)) (fun h0 hbd=>(hsat h0 hbd (BOk.hi (B:=Bn))).S)
theorem xO {f:Nat}{ps rs:List Par}{F:denL ps→denL rs} (h:∀x,KC Bn ⟨f,ps,rs,fun x=>some (F x)⟩ x (F x)) (hw:wfR rs=true:=by kernel_rfl):OK Bn ⟨f,ps,rs,fun x=>some (F x)⟩:=
 ⟨hw,fun x y hy=>by injection(show some (F x)=some y from hy) with hy;subst hy;exact h x⟩
theorem xOp {f:Nat}{ps rs:List Par}{p:denL ps→Prop}{inst:∀x,Decidable (p x)}{F:denL ps→denL rs} (h:∀x,p x→KC Bn ⟨f,ps,rs,fun x=>if p x then some (F x) else none⟩ x (F x)) (hw:wfR rs=true:=by kernel_rfl):OK Bn ⟨f,ps,rs,fun x=>if p x then some (F x) else none⟩:=
 ⟨hw,fun x y hy=>by
  by_cases hp:p x
  ·injection((if_pos hp).symm.trans hy) with hy;subst hy;exact h x hp
  ·exact absurd ((if_neg hp).symm.trans hy) (by simp)⟩
theorem xOMp {f:Nat}{t:Ty}{el:Nat}{ps rs:List Par}{fs:Fs0}{p:den t→denL ps→Prop}{inst:∀x0 x,Decidable (p x0 x)}{F:den t→denL ps→den t×denL rs} (h:∀x0 x,p x0 x→KM Bn ⟨f,t,el,ps,rs,fun x0 x=>if p x0 x then some (F x0 x) else none,fs⟩ x0 x (F x0 x)) (hw:wfR rs=true:=by kernel_rfl):
 OM Bn ⟨f,t,el,ps,rs,fun x0 x=>if p x0 x then some (F x0 x) else none,fs⟩:=
 ⟨hw,fun x0 x x1 y hy=>by
  by_cases hp:p x0 x
  ·injection((if_pos hp).symm.trans hy) with hy
   have:=h x0 x hp
   unfold KM at this
   rw[hy] at this;exact this
  ·exact absurd ((if_neg hp).symm.trans hy) (by simp)⟩
end
end Go.Ev
end
noncomputable section
namespace Go.Ev
open Go.Proofs
def goC (q:Cf):Bool:=match q.c with|.skip=>false|.exit _=>false|.ret=>false|_=>true
section
variable {Bn nt:Nat}{u:Us Bn}{τ:Type}{E:τ→Ex→T AV→H→Prop}{y:τ}{q:Cf}
theorem goC_of {q:Cf} (h:goC q=true) (hs:S Bn nt q.c q.fr q.h (kQ Bn nt (E y) q.ks)):GC Bn nt u E q y:=by
 obtain⟨c,ks,fr,hh⟩:=q
 cases c<;>first|exact hs|cases h
theorem xgv [BOk Bn] (n gs p el lo:Nat) (ex:Bool) (t:Ty) (xs:List (den t)) (hn:xs.length≤1073741824) (hg:GC Bn nt u E ⟨(cAt u nt n q).c,(cAt u nt n q).ks,T.set (path gs) (.isl t xs) (cAt u nt n q).fr,(cAt u nt n q).h.put (path p) .dead⟩ y)
 (ho:cd (cOn u nt n q) (goC (cAt u nt n q)) false=true:=by kernel_rfl) (hv:getV (cAt u nt n q).fr (path gs)=.sl (path p) 0 (wd t) xs.length lo ex:=by kernel_rfl) (hb:(cAt u nt n q).h.get (path p)=some (.cs el (flatT t xs) false):=by kernel_rfl):GC Bn nt u E q y:=by
 obtain⟨h1,h2⟩:=cd_true ho
 exact run_ok n h1 (goC_of h2 (Sat.give (BOk.lo (B:=Bn)) (path gs) (path p) el lo ex t xs hn hv hb hg.S))
theorem xga [BOk Bn] (n gs:Nat) (iv:AV) (hiv:isIv iv) (p el:Nat) (t:Ty) (xs:List (den t)) (hn:xs.length≤1073741824) (hg:GC Bn nt u E ⟨(cAt u nt n q).c,(cAt u nt n q).ks,T.set (path gs) (.isl t xs) (cAt u nt n q).fr,(cAt u nt n q).h.put (path p) .dead⟩ y)
 (ho:cd (cOn u nt n q) (goC (cAt u nt n q)) false=true:=by kernel_rfl) (hv:getV (cAt u nt n q).fr (path gs)=apv iv (path p) t xs:=by kernel_rfl) (hb:(cAt u nt n q).h.get (path p)=some (apb el t xs):=by kernel_rfl):GC Bn nt u E q y:=by
 obtain⟨h1,h2⟩:=cd_true ho
 exact run_ok n h1 (goC_of h2 (Sat.giveA (BOk.lo (B:=Bn)) (path gs) iv hiv (path p) el t xs hn hv hb hg.S))
section
variable {σ β:Type}{P:σ→Out σ β}{s0:σ}{f:Nat}{g:τ}{bX:σ→τ}{rX:β→τ}
end
section
variable {σ β:Type}{ks:List K}{bX:σ→τ}{rX:β→τ}{Inv:σ→Prop}{m:σ→Nat}{n:Nat}{gs:List Bool}{iv:AV}{el:TypeId}{t:Ty}{X:σ→List (den t)}{L:σ→List (List Bool×AV)}{B:σ→List (Option Blk)}{s:σ}
end
def calB (f:Nat) (o:Option Oper):Bool:=match o with
 |some o=>match o.op with
  |.call c=>match c.callee with
   |.value (.func g)=>Nat.beq g f
   |_=>false
  |_=>false
 |none=>false
theorem calB_inv {f:Nat}{o:Option Oper} (h:calB f o=true):∃o',o=some o'∧∃c,o'.op=.call c∧c.callee=.value (.func f):=by
 unfold calB at h
 split at h
 ·rename_i o'
  split at h
  ·rename_i c hc
   split at h
   ·rename_i g hg
    exact⟨o',rfl,c,hc,by rw[hg,Nq h]⟩
   ·cases h
  ·cases h
 ·cases h
theorem xun (n r:Nat) (hg:GC Bn nt u E ⟨bodyC (cAt u nt n q),.un (bodyC (cAt u nt n q)) r::(cAt u nt n q).ks,(cAt u nt n q).fr,(cAt u nt n q).h⟩ y) (ho:cd (cOn u nt n q) (loopC (cAt u nt n q)) false=true:=by kernel_rfl):GC Bn nt u E q y:=by
 obtain⟨h1,h2⟩:=cd_true ho
 refine run_ok n h1 ?_
 generalize cAt u nt n q=p at*
 obtain⟨c,ks,fr,h⟩:=p
 unfold loopC at h2
 split at h2
 ·rename_i b hc
  replace hc:c=.loop b:=hc
  subst hc
  exact zun (r+1) (zu1 hg.S)
 ·cases h2
theorem KC.k {c:Con}{x:denL c.ps}{y:denL c.rs} (h:KC Bn c x y):KOk PP (GG Bn) c.f c.ps c.rs x y:=h
theorem aT {a b:Bool} (h:cd a b false=true):a=true∧b=true:=cd_true h
theorem oF {a b:Bool} (h:cd a true b=false):a=false∧b=false:=by
 cases a with
 |true=>cases h
 |false=>exact⟨rfl,h⟩
end
end Go.Ev
end
noncomputable section
namespace Go.Ev
open Go.Proofs
def Cv (n:Nat) (src tv x x':AV):Prop:=(x'=x∧avOk n x)∨(x=src∧x'=tv)
def CvL (n:Nat) (src tv:AV):List AV→List AV→Prop
 |[],[]=>True
 |x::xs,y::ys=>Cv n src tv x y∧CvL n src tv xs ys
 |_,_=>False
def BCv (n:Nat) (src tv:AV) (o o':Option Blk):Prop:=
 (o'=o∧blkOk n o)∨((∃b,o=some b)∧o'=some .dead)∨∃el l l' fz,o=some (.cs el l fz)∧o'=some (.cs el l' fz)∧CvL n src tv l l'
def GBlk (n:Nat) (h:H) (q:Id) (src tv:AV) (tb:Blk):Prop:=
 ∃el l1 l2 sz k lo ex,h.get q=some (.cs el (l1++l2) false)∧avOkL n l1∧src=.sl q 0 sz k lo ex∧k≤lo∧tv=.sl (path n) 0 sz k k false∧tb=.cs el l1 false
def REnd (n:Nat) (Lt:List (List Bool×AV)) (Bt:List (Option Blk)) (tb:Blk) (fr:T AV) (h:H):Prop:=
 ∃q src tv,(tb=.dead∨GBlk n h q src tv tb)∧(tb=.dead→tv=src∧avOk n src)∧(∀p∈Lt,Cv n src tv (getV fr p.1) p.2)∧Bt.length=n∧
  ∀k,k<n→BCv n src tv (h.get (path k)) (Bt[k]?).join∧(tb=.dead∨path k≠q∨(Bt[k]?).join=some .dead)
theorem CvL.len {n:Nat}{src tv:AV}:∀{l l':List AV},CvL n src tv l l'→l'.length=l.length
 |[],[],_=>rfl
 |_::_,_::_,h=>by simp only[Lc,CvL.len h.2]
 |[],_::_,h=>h.elim
 |_::_,[],h=>h.elim
theorem CvL.get {n:Nat}{src tv:AV}:∀{l l':List AV}{j:Nat}{x:AV},CvL n src tv l l'→l'[j]? =some x→∃y,l[j]? =some y∧Cv n src tv y x
 |[],[],_,_,_,h=>by simp at h
 |y::_,z::_,0,x,h,hx=>⟨y,rfl,by simp at hx;subst hx;exact h.1⟩
 |_::_,_::_,j+1,x,h,hx=>CvL.get (j:=j) h.2 (by simpa using hx)
 |[],_::_,_,_,h,_=>h.elim
 |_::_,[],_,_,h,_=>h.elim
theorem getV_mkFr2:∀(L:List (List Bool×AV)) (id:List Bool),getV (mkFr L) id=.j∨∃p∈L,p.1=id∧getV (mkFr L) id=p.2
 |[],id=>.inl (by show getV (.e:T AV) id=.j;rw[getV_e])
 |q::L,id=>by
  show getV (T.set q.1 q.2 (mkFr L)) id=.j∨∃p∈q::L,p.1=id∧getV (T.set q.1 q.2 (mkFr L)) id=p.2
  rw[getV_set]
  by_cases h:id=q.1
  ·rw[if_pos h];exact .inr ⟨q,by simp,h.symm,rfl⟩
  ·rw[if_neg h]
   rcases getV_mkFr2 L id with h1|⟨p,h1,h2,h3⟩
   ·exact .inl h1
   ·exact .inr ⟨p,by simp[h1],h2,h3⟩
theorem BlkRel.pre {e:Env}{id:Id}{el:TypeId}{l1 l2:List AV}{fz:Bool} (h:BlkRel e id (.cs el (l1++l2) fz)):BlkRel e id (.cs el l1 fz):=by
 obtain⟨c,fr,g1,g2,g3,g4⟩:=h
 refine⟨c,fr,g1,by simp at g2;omega,fun j x hx=>g3 j x ?_,g4⟩
 rw[List.getElem?_append_left (List.getElem?_eq_some_iff.1 hx).1];exact hx
theorem one_sl {id:Id}{off sz len lo:Nat}{ex:Bool}:one (.sl id off sz len lo ex)=true:=rfl
theorem regrowC {e0 e2:Env}{fr2:T AV}{tmps:Array Value}{n:Nat}{Lt:List (List Bool×AV)}{Bt:List (Option Blk)}{tb:Blk}
 (hs0:St e0) (hs2:St e2) (hx:Ext e0 e2) (hn:e0.h.next=n) (hf:FrRel e2 fr2 tmps) (hg:REnd n Lt Bt tb fr2 e2.h):
 ∃e3:Env,e3.w=e2.w∧e3.h=hpH (n+1) (Bt++[some tb])∧St e3∧Ext e0 e3∧FrRel e3 (mkFr Lt) tmps:=by
 obtain⟨q,src,tv,hgb,hdd,hLt,hBl,hB⟩:=hg
 obtain⟨r,hr2,hcase⟩:∃r:Nat×Nat,r.2=0∧(tb=.dead∨(tb≠.dead∧GBlk n e2.h q src tv tb∧r=e2.ρ q)):=by
  by_cases hd:tb=.dead
  ·exact⟨(0,0),rfl,.inl hd⟩
  ·rcases hgb with h|h
   ·exact absurd h hd
   ·have h':=h
    obtain⟨el,l1,l2,sz,k,lo,ex,h1,_⟩:=h'
    exact⟨e2.ρ q,hs2.dk q _ h1,.inr ⟨hd,h,rfl⟩⟩
 let e3:Env:=⟨fun id=>if unpath id<n then e2.ρ id else if id=path n then r else(0,1),hpH (n+1) (Bt++[some tb]),e2.w,e2.F⟩
 have hget:∀id,e3.h.get id=if unpath id<n then(Bt[unpath id]?).join else if id=path n then some tb else none:=fun id=>snoc_get n Bt hBl _ id
 have hlow:∀id,unpath id<n→e3.ρ id=e2.ρ id:=fun id h=>if_pos h
 have hnot:¬unpath (path n)<n:=by rw[unpath_path];omega
 have htop:e3.ρ (path n)=r:=by
  show(if unpath (path n)<n then e2.ρ (path n) else if path n=path n then r else(0,1))=r
  rw[if_neg hnot,if_pos rfl]
 have hoth:∀id,¬unpath id<n→id≠path n→e3.ρ id=(0,1):=fun id h1 h2=>by
  show(if unpath id<n then e2.ρ id else if id=path n then r else(0,1))=_
  rw[if_neg h1,if_neg h2]
 have hgetlow:∀id,unpath id<n→e3.h.get id=(Bt[unpath id]?).join:=fun id h=>by rw[hget,if_pos h]
 have hgettop:e3.h.get (path n)=some tb:=by rw[hget,if_neg hnot,if_pos rfl]
 have hBid:∀id,unpath id<n→BCv n src tv (e2.h.get id) (Bt[unpath id]?).join∧(tb=.dead∨id≠q∨(Bt[unpath id]?).join=some .dead):=fun id h=>by
  have:=hB (unpath id) h
  rw[unpath_bij] at this;exact this
 have hlive:∀id,live e3.h id→(unpath id<n∧live e2.h id∧(tb=.dead∨id≠q))∨(id=path n∧tb≠.dead∧GBlk n e2.h q src tv tb∧r=e2.ρ q):=fun id ⟨b,hb,hd⟩=>by
  by_cases h:unpath id<n
  ·rw[hgetlow id h] at hb
   obtain⟨h1,h2⟩:=hBid id h
   refine .inl ⟨h,?_,?_⟩
   ·rcases h1 with ⟨h3,_⟩|⟨_,h3⟩|⟨el,l,l',fz,h3,h4,_⟩
    ·exact⟨b,by rw[←h3];exact hb,hd⟩
    ·rw[h3] at hb;injection hb with hb;exact absurd hb.symm hd
    ·exact⟨_,h3,by simp⟩
   ·rcases h2 with h2|h2|h2
    ·exact .inl h2
    ·exact .inr h2
    ·rw[h2] at hb;injection hb with hb;exact absurd hb.symm hd
  ·rw[hget,if_neg h] at hb
   by_cases h2:id=path n
   ·rw[if_pos h2] at hb
    injection hb with hb
    rcases hcase with h3|h3
    ·exact absurd (hb.symm.trans h3) hd
    ·exact .inr ⟨h2,h3⟩
   ·rw[if_neg h2] at hb;cases hb
 have hqlive:GBlk n e2.h q src tv tb→live e2.h q:=fun⟨el,l1,l2,_,_,_,_,h1,_⟩=>⟨_,h1,by simp⟩
 have hown:∀b,Own e3 b→Own e2 b:=fun b ⟨id,h1,h2⟩=>by
  rcases hlive id h1 with ⟨h3,h4,_⟩|⟨h3,_,h4,h5⟩
  ·exact⟨id,h4,by rw[←hlow id h3];exact h2⟩
  ·exact⟨q,hqlive h4,by rw[←h5,←htop,←h3];exact h2⟩
 have himm:∀b,Imm e2 b→Imm e3 b:=fun b hb=>⟨hb.1,hb.2.1,fun h=>hb.2.2 (hown b h)⟩
 have hkn:∀id,known e0 id→unpath id<n:=fun id hk=>by
  obtain⟨k,h1,h2,_⟩:=hs0.kn id hk
  rw[h2,unpath_path];omega
 have hsome:∀id,unpath id<n→(∃b,e2.h.get id=some b)→∃b,e3.h.get id=some b:=fun id h ⟨b,hb⟩=>by
  rw[hgetlow id h]
  rcases(hBid id h).1 with ⟨h3,_⟩|⟨_,h3⟩|⟨el,l,l',fz,h3,h4,_⟩
  ·exact⟨b,by rw[h3];exact hb⟩
  ·exact⟨_,h3⟩
  ·exact⟨_,h4⟩
 have hCv:∀x x' v,Cv n src tv x x'→Rel e2 x v→Rel e3 x' v:=fun x x' v hc hr=>by
  have base:∀x,avOk n x→Rel e2 x v→Rel e3 x v:=fun x ho hr=>Rel.conv (n:=n) hlow himm rfl rfl _ _ ho hr
  rcases hc with ⟨h1,h2⟩|⟨h1,h2⟩
  ·rw[h1];exact base x h2 hr
  ·by_cases hd:tb=.dead
   ·obtain⟨h3,h4⟩:=hdd hd
    rw[h2,h3];rw[h1] at hr;exact base src h4 hr
   ·rcases hcase with h3|⟨_,⟨el,l1,l2,sz,k,lo,ex,g1,_,g2,glo,g3,_⟩,g5⟩
    ·exact absurd h3 hd
    ·rw[h1,g2] at hr
     rw[h2,g3]
     simp only[Rel] at hr⊢
     obtain⟨_,a,cap,hv,k1,k2,_,k4⟩:=hr
     refine⟨by unfold known;rw[htop];exact hr2,a,cap,hv,Nr _,Nt k1 k2,fun h=>Bool.noConfusion h,?_⟩
     rw[htop,g5];exact k4
 have hx3:Ext e0 e3:={
  next:=by show e0.h.next≤n+1;omega
  kn:=fun id hk=>by unfold known;rw[hlow id (hkn id hk)];exact hx.kn id hk
  ren:=fun id hk=>by rw[hlow id (hkn id hk)];exact hx.ren id hk
  fr:=hx.fr
  heap:=hx.heap
  keep:=hx.keep
  size:=hx.size
  own:=fun b hb ho=>hx.own b hb (hown b ho)
  pres:=fun id b hb=>hsome id (hkn id (hs0.dk id b hb)) (hx.pres id b hb)
  newk:=fun id hk=>by
   by_cases h:unpath id<n
   ·have hk':known e2 id:=by unfold known at hk;rw[hlow id h] at hk;exact hk
    rcases hx.newk id hk' with h1|h1
    ·exact .inl h1
    ·exact .inr (hsome id h h1)
   ·by_cases h2:id=path n
    ·exact .inr ⟨_,by rw[h2];exact hgettop⟩
    ·unfold known at hk;rw[hoth id h h2] at hk;cases hk
  qt:=hx.qt}
 have hs3:St e3:={
  kn:=fun id hk=>by
   by_cases h:unpath id<n
   ·have hk':known e2 id:=by unfold known at hk;rw[hlow id h] at hk;exact hk
    obtain⟨k,h1,h2,h3⟩:=hs2.kn id hk'
    exact⟨k,by show k<n+1;rw[h2,unpath_path] at h;omega,h2,fun hl=>hsome id h (h3 hl)⟩
   ·by_cases h2:id=path n
    ·exact⟨n,Nat.lt_succ_self n,h2,fun _=>⟨_,by rw[h2];exact hgettop⟩⟩
    ·unfold known at hk;rw[hoth id h h2] at hk;cases hk
  dk:=fun id b hb=>by
   by_cases h:unpath id<n
   ·rw[hgetlow id h] at hb
    unfold known;rw[hlow id h]
    rcases(hBid id h).1 with ⟨h3,_⟩|⟨⟨b',h3⟩,_⟩|⟨el,l,l',fz,h3,h4,_⟩
    ·exact hs2.dk id b (by rw[←h3];exact hb)
    ·exact hs2.dk id _ h3
    ·exact hs2.dk id _ h3
   ·rw[hget,if_neg h] at hb
    by_cases h2:id=path n
    ·unfold known;rw[h2,htop];exact hr2
    ·rw[if_neg h2] at hb;cases hb
  lo:=by
   show e2.F.lo≤n+1
   rw[hx.fr]
   have:=hs0.lo
   omega
  blk:=fun id b hb=>by
   by_cases h:unpath id<n
   ·rw[hgetlow id h] at hb
    rcases(hBid id h).1 with ⟨h3,h4⟩|⟨_,h3⟩|⟨el,l,l',fz,h3,h4,h5⟩
    ·have hb2:e2.h.get id=some b:=by rw[←h3];exact hb
     rw[hb2] at h4
     exact BlkRel.conv (n:=n) hlow himm rfl rfl (hlow id h) b h4 (hs2.blk id b hb2)
    ·rw[h3] at hb;injection hb with hb;subst hb;trivial
    ·rw[h4] at hb;injection hb with hb;subst hb
     obtain⟨c,fr,g1,g2,g3,g4⟩:=hs2.blk id _ h3
     simp only[BlkRel,hlow id h]
     refine⟨c,fr,g1,by rw[h5.len];exact g2,fun j x hx=>?_,g4⟩
     obtain⟨y,hy,hc⟩:=h5.get hx
     obtain⟨ho,v,hv,hr⟩:=g3 j y hy
     refine⟨?_,v,hv,hCv _ _ _ hc hr⟩
     rcases hc with ⟨h6,_⟩|⟨h6,h7⟩
     ·rw[h6];exact ho
     ·by_cases hd:tb=.dead
      ·rw[h7,(hdd hd).1,←h6];exact ho
      ·rcases hcase with h8|⟨_,⟨_,_,_,sz,k,lo,ex,_,_,_,_,g3',_⟩,_⟩
       ·exact absurd h8 hd
       ·rw[h7,g3'];exact one_sl
   ·rw[hget,if_neg h] at hb
    by_cases h2:id=path n
    ·rw[if_pos h2] at hb
     injection hb with hb;subst hb;subst h2
     rcases hcase with h3|⟨_,⟨el,l1,l2,_,_,_,_,g1,g2,_,_,_,g5⟩,g6⟩
     ·rw[h3];trivial
     ·rw[g5]
      exact BlkRel.conv (n:=n) hlow himm rfl rfl (by rw[htop,g6]) _ g2 (hs2.blk q _ g1).pre
    ·rw[if_neg h2] at hb;cases hb
  inj:=fun id id' h1 h2 he=>by
   rcases hlive id h1 with ⟨h3,h4,h5⟩|⟨h3,hd,h4,h5⟩
   ·rcases hlive id' h2 with ⟨h6,h7,_⟩|⟨h6,hd,h7,h8⟩
    ·rw[hlow id h3,hlow id' h6] at he;exact hs2.inj id id' h4 h7 he
    ·rw[hlow id h3,h6,htop,h8] at he
     have:=hs2.inj id q h4 (hqlive h7) he
     rcases h5 with h5|h5
     ·exact absurd h5 hd
     ·exact absurd this h5
   ·rcases hlive id' h2 with ⟨h6,h7,h8⟩|⟨h6,_⟩
    ·rw[hlow id' h6,h3,htop,h5] at he
     have:=hs2.inj q id' (hqlive h4) h7 he
     rcases h8 with h8|h8
     ·exact absurd h8 hd
     ·exact absurd this.symm h8
    ·rw[h3,h6]
  fr:=fun b hb=>⟨(hs2.fr b hb).1,fun ho=>(hs2.fr b hb).2 (hown b ho)⟩}
 refine⟨e3,rfl,rfl,hs3,hx3,?_⟩
 intro k
 rcases getV_mkFr2 Lt (path k) with h|⟨p,h1,h2,h3⟩
 ·rw[h];simp[Rel]
 ·rw[h3]
  have:=hLt p h1
  rw[h2] at this
  exact hCv _ _ _ this (hf k)
section
variable {P:Program}{G:Gs}{nt:Nat}{fr:T AV}{h:H}{Q:Ex→T AV→H→Prop}
theorem Sat.loopC {b:Code}{α:Type} (n:Nat) (L:α→List (List Bool×AV)) (B:α→List (Option Blk)) (tb:α→Blk) (m:α→Nat) (I:α→Prop)
 (step:∀a,I a→Sat P G nt b (mkFr (L a)) (hpH (n+1) (B a++[some (tb a)])) (thenQ (fun fr' h'=>∃a',I a'∧m a'<m a∧REnd n (L a') (B a') (tb a') fr' h') Q))
 (a0:α) (hI:I a0) (hm:m a0<4611686018427387904) (hn:h.next=n) (hr0:REnd n (L a0) (B a0) (tb a0) fr h):Sat P G nt (.loop b) fr h Q:=by
 intro K e a he hs hf hg hsz hp
 subst he
 refine wp_loop_rounds 4611686018427387904 ?_
 have key:∀(r:Nat) (s:α),m s<r→I s→∀(e1:Env) (a1:Act),e1.h=hpH (n+1) (B s++[some (tb s)])→St e1→Ext e e1→FrRel e1 (mkFr (L s)) a1.tmps→a1.tmps.size=nt→a1.defers=a.defers→
  Code.rounds P b K r a1 e1.w:=by
  intro r
  induction r with
  |zero=>intro s hlt;omega
  |succ r ih=>
   intro s hlt hIs e1 a1 he1 hs1 hx1 hf1 hsz1 hd1
   rw[rounds_succ]
   refine step s hIs _ e1 a1 he1 hs1 hf1 (hg.ext hx1) hsz1 (fun ex fr2 h2 hq=>?_)
   intro a2 e2 he2 hs2 hx2 hf2 hsz2 hd2
   cases ex with
   |normal=>
    obtain⟨s',hI',hlt',hge⟩:=hq
    subst he2
    obtain⟨e3,g1,g2,g3,g4,g5⟩:=regrowC hs hs2 (hx1.trans hx2) hn hf2 hge
    have:=ih s' om hI' e3 a2 g2 g3 g4 g5 hsz2 (hd2.trans hd1)
    rw[g1] at this;exact this
   |exit id=>exact((hp (.exit id) fr2 h2 hq).ext hx1 hd1) a2 e2 he2 hs2 hx2 hf2 hsz2 hd2
   |ret=>exact((hp .ret fr2 h2 hq).ext hx1 hd1) a2 e2 he2 hs2 hx2 hf2 hsz2 hd2
 obtain⟨e3,g1,g2,g3,g4,g5⟩:=regrowC hs hs (Ext.refl e) hn hf hr0
 have:=key _ a0 hm hI e3 a g2 g3 g4 g5 hsz rfl
 rw[g1] at this;exact this
end
end Go.Ev
end
noncomputable section
namespace Go.Ev
open Go.Proofs
def srcL (fl:List Bool) (src:AV) (L:List (List Bool×AV)):List (List Bool×AV):=
 List.rec (motive:=fun _=>List Bool→List (List Bool×AV)) (fun _=>[]) (fun q _ ih fl=>List.rec (q::ih []) (fun b fl' _=>(q.1,cd b src q.2)::ih fl') fl) L fl
def okF (n:Nat) (fl:List Bool) (L:List (List Bool×AV)):Bool:=
 List.rec (motive:=fun _=>List Bool→Bool) (fun _=>true) (fun q _ ih fl=>List.rec (cd (avOkB n q.2) (ih []) false) (fun b fl' _=>cd (cd b true (avOkB n q.2)) (ih fl') false) fl) L fl
theorem LCv_of {n:Nat}{src tv:AV}{fr:T AV}:∀{L L':List (List Bool×AV)}{fl:List Bool},okF n fl L=true→srcL fl tv L=L'→gets fr L=vals L→srcL fl src L=L→∀p∈L',Cv n src tv (getV fr p.1) p.2
 |[],_,fl,_,h2,_,_,p,hp=>by
  have h2:([]:List (List Bool×AV))=_:=h2
  rw[←h2] at hp;cases hp
 |q::L,L',[],h1,h2,h3,h4,p,hp=>by
  obtain⟨g1,g2⟩:=cd_true (show cd (avOkB n q.2) (okF n [] L) false=true from h1)
  have h2:q::srcL [] tv L=L':=h2
  injection(show getV fr q.1::gets fr L=q.2::vals L from h3) with g3 g4
  injection(show q::srcL [] src L=q::L from h4) with _ g5
  subst h2
  rcases List.mem_cons.1 hp with rfl|hp
  ·exact .inl ⟨g3.symm,by rw[g3];exact avOk_of p.2 g1⟩
  ·exact LCv_of g2 rfl g4 g5 p hp
 |q::L,L',b::fl,h1,h2,h3,h4,p,hp=>by
  obtain⟨g1,g2⟩:=cd_true (show cd (cd b true (avOkB n q.2)) (okF n fl L) false=true from h1)
  have h2:(q.1,cd b tv q.2)::srcL fl tv L=L':=h2
  injection(show getV fr q.1::gets fr L=q.2::vals L from h3) with g3 g4
  injection(show(q.1,cd b src q.2)::srcL fl src L=q::L from h4) with g6 g5
  subst h2
  rcases List.mem_cons.1 hp with rfl|hp
  ·cases b with
   |true=>exact .inr ⟨by rw[g3];exact(congrArg Prod.snd g6).symm,rfl⟩
   |false=>exact .inl ⟨g3.symm,by show avOk n (getV fr q.1);rw[g3];exact avOk_of q.2 g1⟩
  ·exact LCv_of g2 rfl g4 g5 p hp
def BsCv (n:Nat) (src tv:AV):List (Option Blk)→List (Option Blk)→Prop
 |[],[]=>True
 |b::bs,c::cs=>BCv n src tv b c∧BsCv n src tv bs cs
 |_,_=>False
theorem BsCv.get {n:Nat}{src tv:AV}:∀{bs cs:List (Option Blk)},BsCv n src tv bs cs→cs.length=bs.length∧∀k,k<bs.length→BCv n src tv (bs[k]?).join (cs[k]?).join
 |[],[],_=>⟨rfl,fun k h=>absurd h (Nn _)⟩
 |b::bs,c::cs,h=>by
  obtain⟨g1,g2⟩:=BsCv.get h.2
  refine⟨by simp[g1],fun k hk=>?_⟩
  cases k with
  |zero=>simpa using h.1
  |succ k=>simpa using g2 k (by simpa using hk)
 |[],_::_,h=>h.elim
 |_::_,[],h=>h.elim
theorem bS {n:Nat}{src tv:AV}{b:Option Blk} (h:blkOk n b):BCv n src tv b b:=.inl ⟨rfl,h⟩
theorem bC {n:Nat}{src tv:AV}{el:TypeId}{l l':List AV}{fz:Bool} (h:CvL n src tv l l'):BCv n src tv (some (.cs el l fz)) (some (.cs el l' fz)):=.inr (.inr ⟨el,l,l',fz,rfl,rfl,h⟩)
theorem vS {n:Nat}{src tv x:AV} (h:avOkB n x=true:=by kernel_rfl):Cv n src tv x x:=.inl ⟨rfl,avOk_of x h⟩
theorem vC {n:Nat}{src tv:AV}:Cv n src tv src tv:=.inr ⟨rfl,rfl⟩
theorem bF {n:Nat}{el:TypeId}{y:Ty}{xs:List (den y)}{fz:Bool}:blkOk n (some (.cs el (flatT y xs) fz)):=flatT_ok n y xs
theorem heapL_len (h:H) (n:Nat):(heapL h n).length=n:=by
 have:∀n k,(Nat.rec (motive:=fun _=>Nat→List (Option Blk)) (fun _=>[]) (fun _ ih k=>h.get (path k)::ih (Nat.succ k)) n k:List (Option Blk)).length=n:=by
  intro n
  induction n with
  |zero=>intro k;rfl
  |succ n ih=>intro k;simp only[Lc,ih]
 exact this n 0
theorem heapL_join {h:H}{n k:Nat} (hk:k<n):((heapL h n)[k]?).join=h.get (path k):=by rw[heapL_get,if_pos hk];rfl
def isSomeB (o:Option Blk):Bool:=Option.rec false (fun _=>true) o
theorem isSomeB_of {o:Option Blk} (h:isSomeB o=true):∃b,o=some b:=by
 cases o with
 |none=>cases h
 |some b=>exact⟨b,rfl⟩
def Gv (n:Nat) (h:H) (q:Id) (src tv:AV) (tb:Blk):Prop:=(tb=.dead∨GBlk n h q src tv tb)∧(tb=.dead→tv=src∧avOk n src)
theorem gN {n:Nat}{h:H}{q:Id}{el:TypeId}{y:Ty}{xs:List (den y)}{ex:Bool}{k:Nat} (hg:h.get q=some (.cs el (flatT y xs) false)):Gv n h q (.sl q 0 (wd y) k k ex) (.sl (path n) 0 (wd y) k k false) (.cs el (flatT y xs) false):=
 ⟨.inr ⟨el,flatT y xs,[],wd y,k,k,ex,by rw[List.append_nil];exact hg,flatT_ok n y xs,rfl,Nr _,rfl,rfl⟩,fun h=>by cases h⟩
theorem gA {n:Nat}{h:H}{iv:AV} (hiv:isIv iv){el:TypeId}{y:Ty}{xs:List (den y)}{q:Nat} (hg:h.get (path q)=some (apb el y xs)):Gv n h (path q) (apv iv (path q) y xs) (apv iv (path n) y xs) (apb el y xs):=by
 cases xs with
 |nil=>exact⟨.inl rfl,fun _=>⟨rfl,by rcases hiv with rfl|rfl<;>simp[apv,avOk]⟩⟩
 |cons x t=>exact gN (y:=y) (xs:=x::t) hg
theorem gAn {n:Nat}{h:H}{iv:AV}{el:TypeId}{y:Ty}{xs:List (den y)}{x:den y}{q:Nat} (hg:h.get (path q)=some (.cs el (flatT y (xs++[x])) false)):Gv n h (path q) (.sl (path q) 0 (wd y) (xs++[x]).length (xs++[x]).length false) (apv iv (path n) y (xs++[x])) (apb el y (xs++[x])):=by
 have e1:apv iv (path n) y (xs++[x])=.sl (path n) 0 (wd y) (xs++[x]).length (xs++[x]).length false:=by cases xs<;>rfl
 have e2:apb el y (xs++[x])=.cs el (flatT y (xs++[x])) false:=by cases xs<;>rfl
 rw[e1,e2];exact gN hg
theorem rendR {n q:Nat}{src tv:AV}{tb:Blk}{Ls Lt:List (List Bool×AV)}{Bs Bt:List (Option Blk)}{fr:T AV}{h:H} (fl:List Bool) (hq:n≤q) (hg:Gv n h (path q) src tv tb) (hB:BsCv n src tv Bs Bt)
 (h1:okF n fl Ls=true) (h2:srcL fl tv Ls=Lt) (h3:gets fr Ls=vals Ls) (h4:srcL fl src Ls=Ls) (h5:heapL h n=Bs):REnd n Lt Bt tb fr h:=by
 subst h5
 obtain⟨g1,g2⟩:=hB.get
 rw[heapL_len] at g1 g2
 refine⟨path q,src,tv,hg.1,hg.2,LCv_of h1 h2 h3 h4,g1,fun k hk=>⟨by rw[←heapL_join hk];exact g2 k hk,.inr (.inl fun he=>?_)⟩⟩
 have:=congrArg unpath he
 rw[unpath_path,unpath_path] at this;omega
theorem rendI {n q:Nat}{src tv:AV}{tb:Blk}{Ls Lt:List (List Bool×AV)}{Bs Bt:List (Option Blk)}{fr:T AV}{h:H} (fl:List Bool) (hg:Gv n h (path q) src tv tb) (hB:BsCv n src tv Bs Bt)
 (h1:okF n fl Ls=true) (h2:srcL fl tv Ls=Lt) (h3:gets fr Ls=vals Ls) (h4:srcL fl src Ls=Ls) (h5:heapL (h.put (path q) .dead) n=Bs) (h6:∃b,h.get (path q)=some b) (h7:Bt[q]? =some (some .dead)):REnd n Lt Bt tb fr h:=by
 subst h5
 obtain⟨g1,g2⟩:=hB.get
 rw[heapL_len] at g1 g2
 refine⟨path q,src,tv,hg.1,hg.2,LCv_of h1 h2 h3 h4,g1,fun k hk=>?_⟩
 by_cases he:k=q
 ·subst he
  exact⟨.inr (.inl ⟨h6,by rw[h7];rfl⟩),.inr (.inr (by rw[h7];rfl))⟩
 ·have hne:path k≠path q:=fun h0=>he (by have:=congrArg unpath h0;rwa [unpath_path,unpath_path] at this)
  refine⟨?_,.inr (.inl hne)⟩
  have:=g2 k hk
  rw[heapL_join hk] at this
  rw[show(h.put (path q) .dead).get (path k)=h.get (path k) from by
   show T.get (path k) (T.set (path q) _ h.t)=_
   rw[T.get_set,if_neg hne];rfl] at this
  exact this
theorem rendD {n:Nat}{Ls:List (List Bool×AV)}{Bs:List (Option Blk)}{fr:T AV}{h:H} (hB:blksOk n Bs) (h1:okF n [] Ls=true) (h3:gets fr Ls=vals Ls) (h5:heapL h n=Bs):REnd n Ls Bs .dead fr h:=by
 subst h5
 have e:srcL [] (AV.j) Ls=Ls:=by
  clear h1 h3
  induction Ls with
  |nil=>rfl
  |cons q L ih=>exact congrArg (q::·) ih
 refine⟨[],.j,.j,.inl rfl,fun _=>⟨rfl,by simp[avOk]⟩,LCv_of h1 e h3 e,heapL_len h n,fun k hk=>⟨.inl ⟨by rw[heapL_join hk],?_⟩,.inl rfl⟩⟩
 cases hb:h.get (path k) with
 |none=>trivial
 |some b=>exact blksOk_get hB k b (by rw[heapL_join hk];exact hb)
section
variable {Bn nt:Nat}{u:Us Bn}{τ:Type}{E:τ→Ex→T AV→H→Prop}{y:τ}{q:Cf}
def RoundC (Bn nt:Nat){σ β:Type} (E:τ→Ex→T AV→H→Prop) (ks:List K) (bX:σ→τ) (rX:β→τ) (Inv:σ→Prop) (m:σ→Nat) (n:Nat) (L:AV→σ→List (List Bool×AV)) (B:AV→σ→List (Option Blk)) (tv:σ→AV) (tb:σ→Blk) (s:σ) (o:Out σ β):Ex→T AV→H→Prop:=fun ex fr h=>match ex with
 |.normal=>∃s',o=.go s'∧(Inv s'∧m s'<m s)∧REnd n (L (tv s') s') (B (tv s') s') (tb s') fr h
 |.exit id=>∃s',o=.brk s'∧kQ Bn nt (E (bX s')) ks (.exit id) fr h
 |.ret=>∃r,o=.ret r∧E (rX r) .ret fr h
theorem xlC {σ β:Type}{P:σ→Out σ β}{s0:σ}{f:Nat}{g:τ}{bX:σ→τ}{rX:β→τ} (k n:Nat) (L:AV→σ→List (List Bool×AV)) (B:AV→σ→List (Option Blk)) (tv:σ→AV) (tb:σ→Blk) (Inv:σ→Prop) (m:σ→Nat) (hI:Inv s0) (hm:m s0<4611686018427387904)
 (hr:REnd n (L (tv s0) s0) (B (tv s0) s0) (tb s0) (cAt u nt k q).fr (cAt u nt k q).h)
 (step:∀s,Inv s→GC Bn nt u (RoundC Bn nt E (cAt u nt k q).ks bX rX Inv m n L B tv tb s) ⟨bodyC (cAt u nt k q),[],mkFr (L (tv s) s),hpH (n+1) (B (tv s) s++[some (tb s)])⟩ (P s))
 (ho:cd (cOn u nt k q) (cd (loopC (cAt u nt k q)) (Nat.beq (cAt u nt k q).h.next n) false) false=true:=by kernel_rfl) (hf:f=m s0+1:=by kernel_rfl):
 GC Bn nt u E q (outE g bX rX (scan P f s0)):=by
 subst hf
 obtain⟨h1,h2⟩:=cd_true ho
 obtain⟨h2,h3⟩:=cd_true h2
 refine run_ok k h1 ?_
 generalize cAt u nt k q=p at*
 obtain⟨c,ks,fr,h⟩:=p
 unfold loopC at h2
 split at h2
 ·rename_i b hc
  replace hc:c=.loop b:=hc
  subst hc
  unfold GC
  show S Bn nt (.loop b) fr h (kQ Bn nt (E _) ks)
  refine Sat.loopC n (fun s=>L (tv s) s) (fun s=>B (tv s) s) tb m (fun s=>Inv s∧∃f,m s<f∧scan P (m s0+1) s0=scan P f s) (fun s ⟨hI,f,hf,he⟩=>?_) s0 ⟨hI,m s0+1,om,rfl⟩ hm (Nq h3) hr
  refine Sat.mono (step s hI).S (fun ex fr' h' hq=>?_)
  obtain⟨f,rfl⟩:∃f',f=f'+1:=⟨f - 1,om⟩
  cases ex with
  |normal=>
   obtain⟨s',h1,⟨g1,g2⟩,h2⟩:=hq
   refine⟨s',⟨g1,f,om,?_⟩,g2,h2⟩
   rw[he];simp only[scan,h1]
  |exit id=>
   obtain⟨s',h1,h2⟩:=hq
   have:scan P (m s0+1) s0=.brk s':=by rw[he];simp only[scan,h1]
   show kQ Bn nt (E (outE g bX rX (scan P (m s0+1) s0))) ks (.exit id) fr' h'
   rw[outB this];exact h2
  |ret=>
   obtain⟨r,h1,h2⟩:=hq
   have:scan P (m s0+1) s0=.ret r:=by rw[he];simp only[scan,h1]
   show kQ Bn nt (E (outE g bX rX (scan P (m s0+1) s0))) ks .ret fr' h'
   rw[kQ_ret,outR this];exact h2
 ·cases h2
section
variable {σ β:Type}{ks:List K}{bX:σ→τ}{rX:β→τ}{Inv:σ→Prop}{m:σ→Nat}{n:Nat}{L:AV→σ→List (List Bool×AV)}{B:AV→σ→List (Option Blk)}{tv:σ→AV}{tb:σ→Blk}{s:σ}
theorem xgC {s':σ} (k qn:Nat) (src:AV) (fl:List Bool) (hd:Inv s'∧m s'<m s) (hg:Gv n (cAt u nt k q).h (path qn) src (tv s') (tb s')) (hB:BsCv n src (tv s') (B src s') (B (tv s') s')) (hq:Nat.ble n qn=true:=by kernel_rfl)
 (ho:cd (cOn u nt k q) (cd (skpC (cAt u nt k q)) (okF n fl (L src s')) false) false=true:=by kernel_rfl) (h2:srcL fl (tv s') (L src s')=L (tv s') s':=by kernel_rfl) (h3:gets (cAt u nt k q).fr (L src s')=vals (L src s'):=by kernel_rfl)
 (h4:srcL fl src (L src s')=L src s':=by kernel_rfl) (h5:heapL (cAt u nt k q).h n=B src s':=by kernel_rfl):GC Bn nt u (RoundC Bn nt E ks bX rX Inv m n L B tv tb s) q (.go s'):=by
 obtain⟨g1,g2⟩:=cd_true ho
 obtain⟨g2,g3⟩:=cd_true g2
 exact run_ok k g1 (skpC_of g2 ⟨s',rfl,hd,rendR fl (Nb hq) hg hB g3 h2 h3 h4 h5⟩)
theorem xbC {s':σ} (k:Nat) (hg:GC Bn nt u E ⟨(cAt u nt k q).c,ks,(cAt u nt k q).fr,(cAt u nt k q).h⟩ (bX s')) (ho:cd (cOn u nt k q) (extC (cAt u nt k q)) false=true:=by kernel_rfl):
 GC Bn nt u (RoundC Bn nt E ks bX rX Inv m n L B tv tb s) q (.brk s'):=by
 obtain⟨h1,h2⟩:=cd_true ho
 refine run_ok k h1 ?_
 unfold GC at*
 generalize cAt u nt k q=p at*
 obtain⟨c,ks',fr,h⟩:=p
 unfold extC at h2
 split at h2
 ·rename_i id hc
  replace hc:c=.exit id:=hc
  subst hc
  replace h2:nilK ks'=true:=h2
  rw[nilK_eq h2]
  exact⟨s',rfl,hg⟩
 ·cases h2
theorem xtC {r:β} (k:Nat) (hg:GC Bn nt u E ⟨.ret,[],(cAt u nt k q).fr,(cAt u nt k q).h⟩ (rX r)) (ho:cd (cOn u nt k q) (retC (cAt u nt k q)) false=true:=by kernel_rfl):
 GC Bn nt u (RoundC Bn nt E ks bX rX Inv m n L B tv tb s) q (.ret r):=by
 obtain⟨h1,h2⟩:=cd_true ho
 unfold GC at hg
 exact run_ok k h1 (retC_of h2 ⟨r,rfl,hg⟩)
end
end
theorem flatT_cut {y:Ty}{X:List (den y)}{i f n:Nat}{l:List AV} (hi:i<X.length) (hn:0<n) (hc:cut (tc y (gt y X i)) f n=some l):cut (flatT y X) (Nat.add (Nat.add 0 (Nat.mul i (wd y))) f) n=some l:=by
 have hle:=cut_le hc hn
 rw[tc_len] at hle
 obtain⟨h1,h2⟩:=cut_get hc
 have e:flatT y X=flatT y (X.take i)++(tc y (gt y X i)++flatT y (X.drop (i+1))):=by
  have h3:X=X.take i++gt y X i::X.drop (i+1):=by
   have h4:=gt_some (t:=y) hi
   rw[Lq hi] at h4
   rw[←Oi h4,←List.drop_eq_getElem_cons hi,Ly]
  conv=>lhs;rw[h3]
  simp[flatT]
 have hl:(flatT y (X.take i)).length=i*wd y:=by
  show((((X.take i).map (tc y)).flatten).length)=_
  rw[flat_len,Tk,Nat.min_eq_left om]
 have hlen:Nat.add (Nat.add 0 (Nat.mul i (wd y))) f+n≤(flatT y X).length:=by
  show 0+i*wd y+f+n≤(((X.map (tc y)).flatten).length)
  rw[flat_len]
  have:(i+1)*wd y≤X.length*wd y:=Nat.mul_le_mul_right _ hi
  rw[Nat.add_mul] at this;omega
 have key:∀(l:List AV) (off n:Nat),off+n≤l.length→∃r,cut l off n=some r:=by
  intro l
  induction l with
  |nil=>
   intro off n h
   simp only[Ln] at h
   have:n=0:=om
   subst this;exact⟨[],rfl⟩
  |cons x l ih=>
   intro off n h
   simp only[Lc] at h
   cases off with
   |zero=>
    cases n with
    |zero=>exact⟨[],rfl⟩
    |succ n=>
     obtain⟨r,hr⟩:=ih 0 n om
     exact⟨x::r,by show(Option.rec none (fun r=>some (x::r)) (cut l 0 n):Option (List AV))=_;rw[hr]⟩
   |succ o=>
    obtain⟨r,hr⟩:=ih o n om
    exact⟨r,hr⟩
 obtain⟨r,hr⟩:=key _ _ _ hlen
 rw[hr]
 obtain⟨g1,g2⟩:=cut_get hr
 congr 1
 apply List.ext_getElem?;intro j
 by_cases hj:j<n
 ·rw[g2 j hj,h2 j hj,e]
  show(flatT y (X.take i)++(tc y (gt y X i)++flatT y (X.drop (i+1))))[0+i*wd y+f+j]? =_
  rw[List.getElem?_append_right om,hl,show 0+i*wd y+f+j - i*wd y=f+j by omega,List.getElem?_append_left (by rw[tc_len];omega)]
 ·rw[Lz om,Lz om]
theorem cut_nth {l:List AV}{off:Nat}{v:AV} (h:cut l off 1=some [v]):nth l off=some v:=by
 obtain⟨_,h2⟩:=cut_get h
 have:=h2 0 om
 rw[nth_eq];simpa using this.symm
theorem nth_cut:∀{l:List AV}{off:Nat}{v:AV},nth l off=some v→cut l off 1=some [v]
 |[],_,_,h=>by cases h
 |x::l,0,v,h=>by
  injection(show some x=some v from h) with h;subst h
  show(Option.rec none (fun r=>some (x::r)) (cut l 0 0):Option (List AV))=_
  cases l<;>rfl
 |x::l,o+1,v,h=>nth_cut (l:=l) (off:=o) h
theorem flatT_nth {y:Ty}{X:List (den y)}{i f:Nat}{v:AV} (hi:i<X.length) (hc:nth (tc y (gt y X i)) f=some v):nth (flatT y X) (Nat.add (Nat.add 0 (Nat.mul i (wd y))) f)=some v:=
 cut_nth (flatT_cut hi om (nth_cut hc))
theorem flatT_lay {y:Ty}{X:List (den y)}{i:Nat}{x:den y} (hi:i<X.length):lay (flatT y X) (Nat.add 0 (Nat.mul i (wd y))) (tc y x)=some (flatT y (X.set i x)):=by
 have h4:=gt_some (t:=y) hi
 rw[Lq hi] at h4
 have h3:X=X.take i++gt y X i::X.drop (i+1):=by
  rw[←Oi h4,←List.drop_eq_getElem_cons hi,Ly]
 have e:flatT y X=flatT y (X.take i)++(tc y (gt y X i)++flatT y (X.drop (i+1))):=by
  conv=>lhs;rw[h3]
  simp[flatT]
 have e2:flatT y (X.set i x)=flatT y (X.take i)++(tc y x++flatT y (X.drop (i+1))):=by
  rw[List.set_eq_take_append_cons_drop,if_pos hi];simp[flatT]
 have hl:(flatT y (X.take i)).length=Nat.add 0 (Nat.mul i (wd y)):=by
  show((((X.take i).map (tc y)).flatten).length)=0+i*wd y
  rw[flat_len,Tk,Nat.min_eq_left om,Nat.zero_add]
 rw[e,e2,←hl]
 exact lay_app _ _ _ _ (by rw[tc_len,tc_len])
theorem flatT_app2 (y:Ty) (X:List (den y)) (m:Nat):flatT y X=flatT y (X.take m)++flatT y (X.drop m):=by
 rw[←flatT_app,Ly]
theorem repl_flat {y:Ty}{d:den y}:∀n,repl n (tc y d)=flatT y (List.replicate n d)
 |0=>rfl
 |n+1=>by
  show cat (tc y d) (repl n (tc y d))=_
  rw[cat_eq,repl_flat n];simp[flatT,List.replicate_succ]
def viewLd (o:AOp) (fr:T AV):Option (Option Nat×AV):=match o with
 |.ld1 a=>some (none,ev a fr)
 |.ldn n a=>some (some n,ev a fr)
 |_=>none
def blkC (o:Option Blk):Option (List AV):=match o with
 |some (.cs _ l _)=>some l
 |_=>none
theorem blkC_inv {o:Option Blk}{l:List AV} (h:blkC o=some l):∃el fz,o=some (.cs el l fz):=by
 unfold blkC at h
 split at h
 ·injection h with h;subst h;exact⟨_,_,rfl⟩
 ·cases h
theorem ev_ld1 {o:AOp}{fr:T AV}{call:CallF}{h:H}{id:Nat}{b:Id}{y:Ty}{X:List (den y)}{i f:Nat}{v:AV} (hi:i<X.length) (hv:viewLd o fr=some (none,.p b (Nat.add (Nat.add 0 (Nat.mul i (wd y))) f))) (hg:blkC (h.get b)=some (flatT y X)) (hc:nth (tc y (gt y X i)) f=some v):evOp call o fr h id=.ok v h:=by
 obtain⟨el,fz,hg⟩:=blkC_inv hg
 unfold viewLd at hv
 split at hv
 ·rename_i a
  injection hv with hv;injection hv with _ hv
  show okV _ (cellAt (ev a fr) h)=_
  rw[hv]
  show okV _ (blkNth (h.get b) _)=_
  rw[hg]
  show okV _ (nth (flatT y X) _)=_
  rw[flatT_nth hi hc];rfl
 ·cases hv
 ·cases hv
theorem ev_ldn {o:AOp}{fr:T AV}{call:CallF}{h:H}{id:Nat}{b:Id}{y:Ty}{X:List (den y)}{i f n:Nat}{l:List AV} (hi:i<X.length) (hn:0<n) (hv:viewLd o fr=some (some n,.p b (Nat.add (Nat.add 0 (Nat.mul i (wd y))) f))) (hg:blkC (h.get b)=some (flatT y X)) (hc:cut (tc y (gt y X i)) f n=some l):evOp call o fr h id=.ok (.ag l) h:=by
 obtain⟨el,fz,hg⟩:=blkC_inv hg
 unfold viewLd at hv
 split at hv
 ·cases hv
 ·rename_i n' a
  injection hv with hv;injection hv with h1 hv
  injection h1 with h1;subst h1
  show(Option.rec .no (fun l=>.ok (.ag l) h) (cellsAt (ev a fr) n' h):R)=_
  rw[hv]
  show(Option.rec .no (fun l=>.ok (.ag l) h) (blkCut (h.get b) _ n'):R)=_
  rw[hg]
  show(Option.rec .no (fun l=>.ok (.ag l) h) (cut (flatT y X) _ n'):R)=_
  rw[flatT_cut hi hn hc]
 ·cases hv
theorem ev_iaS {o:AOp}{fr:T AV}{call:CallF}{h:H}{id:Nat}{b:Id}{off sz n lo i:Nat}{ex:Bool} (hi:i<n) (hv:viewIa o fr=some (sz,.sl b off sz n lo ex,i)):evOp call o fr h id=.ok (.p b (Nat.add off (Nat.mul i sz))) h:=by
 unfold viewIa at hv
 split at hv
 ·rename_i sz' x' ix
  show(match asN (ev ix fr) with
   |some i=>okV _ (indexA (.sli sz') (ev x' fr) i)
   |none=>.no:R)=_
  cases hj:asN (ev ix fr) with
  |none=>rw[hj] at hv;cases hv
  |some j=>
   rw[hj] at hv
   have hv:some (sz',ev x' fr,j)=some (sz,AV.sl b off sz n lo ex,i):=hv
   simp only[Oj,Prod.mk.injEq] at hv
   obtain⟨h1,h2,h3⟩:=hv
   rw[h1,h2,h3]
   show okV _ (cd (Nat.blt i n) (some (AV.p b (Nat.add off (Nat.mul i sz)))) none)=_
   rw[blt_nat,Dt hi];rfl
 ·cases hv
section
variable {C:CJ}{base:Nat}{s:RS}{Q:T AV→H→Prop}
theorem yie (k:Nat) (b:Nat) (sz n lo:Nat) (ex:Bool) (i:Nat) (hi:i<n) (hr:RJ C base ((s.at C base k).put (.p (path b) (Nat.add 0 (Nat.mul i sz))) (s.at C base k).h) Q)
 (hok:s.okS C base k=true:=by kernel_rfl) (hv:viewIa (s.at C base k).op.op (s.at C base k).fr=some (sz,.sl (path b) 0 sz n lo ex,i):=by kernel_rfl):RJ C base s Q:=RJ.step k _ _ (ev_iaS hi hv) hr hok
theorem yl1 (k:Nat) (b:Nat) (y:Ty) (X:List (den y)) (i f:Nat) (v:AV) (hi:i<X.length) (hr:RJ C base ((s.at C base k).put v (s.at C base k).h) Q)
 (hok:s.okS C base k=true:=by kernel_rfl) (hv:viewLd (s.at C base k).op.op (s.at C base k).fr=some (none,.p (path b) (Nat.add (Nat.add 0 (Nat.mul i (wd y))) f)):=by kernel_rfl)
 (hg:blkC ((s.at C base k).h.get (path b))=some (flatT y X):=by kernel_rfl) (hc:nth (tc y (gt y X i)) f=some v:=by kernel_rfl):RJ C base s Q:=RJ.step k _ _ (ev_ld1 hi hv hg hc) hr hok
theorem yln (k:Nat) (b:Nat) (y:Ty) (X:List (den y)) (i f n:Nat) (l:List AV) (hi:i<X.length) (hr:RJ C base ((s.at C base k).put (.ag l) (s.at C base k).h) Q)
 (hok:s.okS C base k=true:=by kernel_rfl) (hv:viewLd (s.at C base k).op.op (s.at C base k).fr=some (some n,.p (path b) (Nat.add (Nat.add 0 (Nat.mul i (wd y))) f)):=by kernel_rfl)
 (hg:blkC ((s.at C base k).h.get (path b))=some (flatT y X):=by kernel_rfl) (hc:cut (tc y (gt y X i)) f n=some l:=by kernel_rfl) (hn:Nat.blt 0 n=true:=by kernel_rfl):RJ C base s Q:=RJ.step k _ _ (ev_ldn hi (Nat.lt_of_succ_le (Nb hn)) hv hg hc) hr hok
theorem yst (k:Nat) (b el:Nat) (y:Ty) (X:List (den y)) (i:Nat) (x:den y) (hi:i<X.length) (hr:RJ C base ((s.at C base k).put undefA ((s.at C base k).h.put (path b) (.cs el (flatT y (X.set i x)) false))) Q)
 (hok:s.okS C base k=true:=by kernel_rfl) (hv:viewSt (s.at C base k).op.op (s.at C base k).fr=some (len (tc y x),.p (path b) (Nat.add 0 (Nat.mul i (wd y))),some (tc y x)):=by kernel_rfl)
 (hg:(s.at C base k).h.get (path b)=some (.cs el (flatT y X) false):=by kernel_rfl):RJ C base s Q:=RJ.step k _ _ (ev_st (flatT_lay hi) hv hg) hr hok
theorem ypo (k:Nat) (b sz n lo:Nat) (ex:Bool) (m:Nat) (hm:m≤lo) (hr:RJ C base ((s.at C base k).put (.sl (path b) 0 sz m lo ex) (s.at C base k).h) Q)
 (hok:s.okS C base k=true:=by kernel_rfl) (hv:viewSlc (s.at C base k).op.op (s.at C base k).fr=some (.sli sz,.sl (path b) 0 sz n lo ex,none,some m,none):=by kernel_rfl):RJ C base s Q:=
 RJ.step k _ _ (ev_slc (by
   show cd (Nat.beq sz sz) (cd (Nat.ble m lo) (cd (Nat.ble 0 m) (some (AV.sl (path b) (Nat.add 0 (Nat.mul 0 sz)) sz (Nat.sub m 0) (Nat.sub lo 0) ex)) none) none) none=_
   rw[Nat.beq_refl,Nc hm,Nc (Nz m)]
   show some (AV.sl (path b) (0+0*sz) sz (m - 0) (lo - 0) ex)=_
   rw[Nat.zero_mul,Nat.sub_zero,Nat.sub_zero]) hv) hr hok
theorem ymk (k b el by_:Nat) (y:Ty) (d:den y) (n:Nat) (hn:0<n) (hby:n*by_≤1099511627776)
 (hr:RJ C base ((s.at C base k).put (.sl (path b) 0 (wd y) n n true) ((s.at C base k).h.put (path b) (.cs el (flatT y (List.replicate n d)) false))) Q)
 (hok:s.okS C base k=true:=by kernel_rfl) (hid:Nat.add base (s.at C base k).op.k=b:=by kernel_rfl) (hv:viewMk (s.at C base k).op.op (s.at C base k).fr=some (el,wd y,by_,tc y d,n,n):=by kernel_rfl)
 (hlt:Nat.blt b (s.at C base k).h.next=true:=by kernel_rfl) (hfr:(s.at C base k).h.get (path b)=none:=by kernel_rfl):RJ C base s Q:=by
 subst hid
 refine RJ.step k _ _ (ev_mksl hn hby hv hlt hfr) ?_ hok
 rw[repl_flat];exact hr
end
def Wk1 (x x':AV):Prop:=x'=x∨∃id off sz n lo ex,x=.sl id off sz n lo ex∧x'=.sl id off sz n n false
def Wks (l l':List AV):Prop:=l'.length=l.length∧∀(j:Nat) (x:AV),l'[j]? =some x→∃z,l[j]? =some z∧Wk1 z x
def WkB (o o':Option Blk):Prop:=o'=o∨∃el,∃l l' r:List AV,∃fz,o=some (.cs el (l++r) fz)∧o'=some (.cs el l' fz)∧Wks l l'
theorem Wk1.rel {e:Env}{x x':AV}{v:Value} (h:Wk1 x x') (hr:Rel e x v):Rel e x' v:=by
 rcases h with rfl|⟨id,off,sz,n,lo,ex,rfl,rfl⟩
 ·exact hr
 ·simp only[Rel] at hr⊢
  obtain⟨hk,a,cap,hv,h1,h2,_,h4⟩:=hr
  exact⟨hk,a,cap,hv,Nr _,Nt h1 h2,fun h=>Bool.noConfusion h,h4⟩
theorem Wk1.one {x x':AV} (h:Wk1 x x') (ho:one x=true):one x'=true:=by
 rcases h with rfl|⟨id,off,sz,n,lo,ex,rfl,rfl⟩
 ·exact ho
 ·rfl
section
variable {P:Program}{G:Gs}{nt:Nat}{fr fr':T AV}{h h':H}{Q:Ex→T AV→H→Prop}
theorem Sat.weakW {c:Code} (hf':∀id,Wk1 (getV fr id) (getV fr' id)) (hn:h'.next=h.next) (hb':∀id,WkB (h.get id) (h'.get id)) (hc:Sat P G nt c fr' h' Q):Sat P G nt c fr h Q:=by
 intro K e a he hs hf hgr hsz hp
 subst he
 let e2:Env:=⟨e.ρ,h',e.w,e.F⟩
 have hlv:∀id,live e2.h id→live e.h id:=fun id ⟨b,hb,hd⟩=>by
  rcases hb' id with h1|⟨el,l,l',r,fz,h1,h2,_⟩
  ·exact⟨b,by rw[←h1];exact hb,hd⟩
  ·exact⟨_,h1,by simp⟩
 have hown:∀b,Own e2 b→Own e b:=fun b ⟨id,h1,h2⟩=>⟨id,hlv id h1,h2⟩
 have hx:Ext e e2:={
  next:=Nat.le_of_eq hn.symm
  kn:=fun _ h=>h
  ren:=fun _ _=>rfl
  fr:=rfl
  qt:=⟨rfl,rfl,rfl⟩
  heap:=Nr _
  keep:=fun _ _ _=>rfl
  size:=fun _ _=>rfl
  own:=fun b _ h=>hown b h
  pres:=fun id b hb=>by
   rcases hb' id with h1|⟨el,l,l',r,fz,h1,h2,_⟩
   ·exact⟨b,by rw[←hb];exact h1⟩
   ·exact⟨_,h2⟩
  newk:=fun _ h=>.inl h}
 have hs2:St e2:={
  kn:=fun id hk=>by
   obtain⟨k,h1,h2,h3⟩:=hs.kn id hk
   exact⟨k,by show k<h'.next;rw[hn];exact h1,h2,fun hl=>by obtain⟨b,hb⟩:=h3 hl;exact hx.pres id b hb⟩
  dk:=fun id b hb=>by
   rcases hb' id with h1|⟨el,l,l',r,fz,h1,h2,_⟩
   ·exact hs.dk id b (by rw[←h1];exact hb)
   ·exact hs.dk id _ h1
  lo:=by show e.F.lo≤h'.next;rw[hn];exact hs.lo
  blk:=fun id b hb=>by
   rcases hb' id with h1|⟨el,l,l',r,fz,h1,h2,h3,h4⟩
   ·have hb2:e.h.get id=some b:=by rw[←h1];exact hb
    exact BlkRel.ext hx (hs.dk id b hb2) rfl b (hs.blk id b hb2)
   ·have hb:h'.get id=some b:=hb
    rw[h2] at hb;injection hb with hb;subst hb
    obtain⟨c,fr,g1,g2,g3,g4⟩:=BlkRel.ext hx (hs.dk id _ h1) rfl _ ((hs.blk id _ h1).pre)
    refine⟨c,fr,g1,by rw[h3];exact g2,fun j x hj=>?_,g4⟩
    obtain⟨z,hz,hw⟩:=h4 j x hj
    obtain⟨ho,v,hv,hr⟩:=g3 j z hz
    exact⟨hw.one ho,v,hv,hw.rel hr⟩
  inj:=fun id id' h1 h2 he=>hs.inj id id' (hlv id h1) (hlv id' h2) he
  fr:=fun b hb=>⟨(hs.fr b hb).1,fun h=>(hs.fr b hb).2 (hown b h)⟩}
 exact hc K e2 a rfl hs2 (fun k=>(hf' (path k)).rel (Rel.ext hx _ _ (hf k))) (hgr.ext hx) hsz (fun ex fr' h' hq=>(hp ex fr' h' hq).ext hx rfl)
end
section
variable {Bn nt:Nat}{u:Us Bn}{τ:Type}{E:τ→Ex→T AV→H→Prop}{z:τ}{q:Cf}
theorem xpS (n p b el m lo:Nat) (ex:Bool) (y:Ty) (X:List (den y)) (hm:m≤X.length) (hg:GC Bn nt u E ⟨(cAt u nt n q).c,(cAt u nt n q).ks,T.set (path p) (.sl (path b) 0 (wd y) (List.take m X).length (List.take m X).length false) (cAt u nt n q).fr,(cAt u nt n q).h.put (path b) (.cs el (flatT y (List.take m X)) false)⟩ z)
 (ho:cd (cOn u nt n q) (goC (cAt u nt n q)) false=true:=by kernel_rfl) (hv:getV (cAt u nt n q).fr (path p)=.sl (path b) 0 (wd y) m lo ex:=by kernel_rfl) (hb:(cAt u nt n q).h.get (path b)=some (.cs el (flatT y X) false):=by kernel_rfl):GC Bn nt u E q z:=by
 rw[show(List.take m X).length=m by rw[Tk];omega] at hg
 obtain⟨h1,h2⟩:=cd_true ho
 refine run_ok n h1 (goC_of h2 (Sat.weakW (fun id=>?_) (by rfl) (fun id=>?_) hg.S))
 ·rw[getV_set]
  by_cases h:id=path p
  ·rw[if_pos h,h,hv];exact .inr ⟨_,_,_,_,_,_,rfl,rfl⟩
  ·rw[if_neg h];exact .inl rfl
 ·rw[put_get]
  by_cases h:id=path b
  ·rw[if_pos h,h,hb]
   exact .inr ⟨el,flatT y (X.take m),_,flatT y (X.drop m),false,by rw[←flatT_app2],rfl,rfl,fun j x hx=>⟨x,hx,.inl rfl⟩⟩
  ·rw[if_neg h];exact .inl rfl
theorem xhv (n b:Nat) (v v':Blk) (he:v=v') (hg:GC Bn nt u E ⟨(cAt u nt n q).c,(cAt u nt n q).ks,(cAt u nt n q).fr,(cAt u nt n q).h.put (path b) v'⟩ z)
 (ho:cd (cOn u nt n q) (goC (cAt u nt n q)) false=true:=by kernel_rfl) (hv:(cAt u nt n q).h.get (path b)=some v:=by kernel_rfl):GC Bn nt u E q z:=by
 subst he
 obtain⟨h1,h2⟩:=cd_true ho
 refine run_ok n h1 (goC_of h2 (Sat.weakW (fun id=>.inl rfl) (by rfl) (fun id=>?_) hg.S))
 rw[put_get]
 by_cases h:id=path b
 ·rw[if_pos h,h,hv];exact .inl rfl
 ·rw[if_neg h];exact .inl rfl
end
theorem apv_ne {iv:AV}{p:Id}{y:Ty}{xs:List (den y)} (h:xs≠[]):apv iv p y xs=.sl p 0 (wd y) xs.length xs.length false:=by
 cases xs with
 |nil=>exact absurd rfl h
 |cons x t=>rfl
theorem apb_ne {el:TypeId}{y:Ty}{xs:List (den y)} (h:xs≠[]):apb el y xs=.cs el (flatT y xs) false:=by
 cases xs with
 |nil=>exact absurd rfl h
 |cons x t=>rfl
structure Sp where
 b:Id
 y:Ty
 X:List (den y)
 i:Nat
 f:Nat
 n:Nat
 l:List AV
def Sp.ok (s:Sp):Prop:=s.i<s.X.length∧0<s.n∧cut (tc s.y (gt s.y s.X s.i)) s.f s.n=some s.l
section
variable {call:CallF}{base na:Nat}{ops:List DO}{s:DS}
theorem RunD.stepRd {Q:DS→Prop} (k:Nat) (v:AV) (hok:isSomeD (stDk call base na ops s k)=true) (hk:Nat.blt k ops.length=true) (hw:wanted (opD ops k).o.g (dsOf (stDk call base na ops s k)).fr=some true)
 (hc:(opD ops k).o.op.cls=.R){h':H}
 (hv:evOp call (opD ops k).o.op (dsOf (stDk call base na ops s k)).fr (heapAt (dsOf (stDk call base na ops s k)).cur (opD ops k).ks (dsOf (stDk call base na ops s k)).mks) (Nat.add base (opD ops k).o.k)=.ok v h')
 (hr:RunD call base na (ops.drop (k+1)) (Ev.stepR (opD ops k) (dsOf (stDk call base na ops s k)) v) Q):RunD call base na ops s Q:=by
 refine RunD.upto k hok ?_
 obtain⟨s',h1,h2⟩:=hr
 refine⟨s',?_,h2⟩
 rw[opD_drop hk]
 show(Option.rec none (evD call base na (ops.drop (k+1))) (stepD call base na (opD ops k) (dsOf (stDk call base na ops s k))):Option DS)=some s'
 have:stepD call base na (opD ops k) (dsOf (stDk call base na ops s k))=some (Ev.stepR (opD ops k) (dsOf (stDk call base na ops s k)) v):=by
  unfold stepD
  rw[hw,hc,hv];rfl
 rw[this];exact h1
variable {Q:T AV→H→Prop}
theorem zdi (k:Nat) (t:Ty) (xs:List (den t)) (i:Nat) (hx:i<xs.length) (hr:RunD call base na (ops.drop (k+1)) (Ev.stepV (opD ops k) (dsOf (stDk call base na ops s k)) (.ip t (gt t xs i) 0)) (DQ Q))
 (hok:isSomeD (stDk call base na ops s k)=true:=by kernel_rfl) (hk:Nat.blt k ops.length=true:=by kernel_rfl) (hw:wanted (opD ops k).o.g (dsOf (stDk call base na ops s k)).fr=some true:=by kernel_rfl) (hc:(opD ops k).o.op.cls=.N:=by kernel_rfl)
 (hv:viewIa (opD ops k).o.op (dsOf (stDk call base na ops s k)).fr=some (wd t,.isl t xs,i):=by kernel_rfl):RunD call base na ops s (DQ Q):=RunD.stepN k _ hok hk hw hc (ev_ia hx hv) hr
theorem zde (k b sz n lo:Nat) (ex:Bool) (i:Nat) (hi:i<n) (hr:RunD call base na (ops.drop (k+1)) (Ev.stepV (opD ops k) (dsOf (stDk call base na ops s k)) (.p (path b) (Nat.add 0 (Nat.mul i sz)))) (DQ Q))
 (hok:isSomeD (stDk call base na ops s k)=true:=by kernel_rfl) (hk:Nat.blt k ops.length=true:=by kernel_rfl) (hw:wanted (opD ops k).o.g (dsOf (stDk call base na ops s k)).fr=some true:=by kernel_rfl) (hc:(opD ops k).o.op.cls=.N:=by kernel_rfl)
 (hv:viewIa (opD ops k).o.op (dsOf (stDk call base na ops s k)).fr=some (sz,.sl (path b) 0 sz n lo ex,i):=by kernel_rfl):RunD call base na ops s (DQ Q):=RunD.stepN k _ hok hk hw hc (ev_iaS hi hv) hr
theorem zdl (k b:Nat) (y:Ty) (X:List (den y)) (i f n:Nat) (l:List AV) (hi:i<X.length) (hr:RunD call base na (ops.drop (k+1)) (Ev.stepR (opD ops k) (dsOf (stDk call base na ops s k)) (.ag l)) (DQ Q))
 (hok:isSomeD (stDk call base na ops s k)=true:=by kernel_rfl) (hk:Nat.blt k ops.length=true:=by kernel_rfl) (hw:wanted (opD ops k).o.g (dsOf (stDk call base na ops s k)).fr=some true:=by kernel_rfl) (hc:(opD ops k).o.op.cls=.R:=by kernel_rfl)
 (hv:viewLd (opD ops k).o.op (dsOf (stDk call base na ops s k)).fr=some (some n,.p (path b) (Nat.add (Nat.add 0 (Nat.mul i (wd y))) f)):=by kernel_rfl)
 (hg:blkC ((heapAt (dsOf (stDk call base na ops s k)).cur (opD ops k).ks (dsOf (stDk call base na ops s k)).mks).get (path b))=some (flatT y X):=by kernel_rfl) (hcu:cut (tc y (gt y X i)) f n=some l:=by kernel_rfl) (hn:Nat.blt 0 n=true:=by kernel_rfl):RunD call base na ops s (DQ Q):=
 RunD.stepRd k _ hok hk hw hc (ev_ldn hi (Nat.lt_of_succ_le (Nb hn)) hv hg hcu) hr
theorem zds (k b el:Nat) (y:Ty) (X:List (den y)) (i:Nat) (x:den y) (hi:i<X.length)
 (hr:RunD call base na (ops.drop (k+1)) (Ev.stepX (opD ops k) (dsOf (stDk call base na ops s k)) undefA ((heapAt (dsOf (stDk call base na ops s k)).cur (opD ops k).ks (dsOf (stDk call base na ops s k)).mks).put (path b) (.cs el (flatT y (X.set i x)) false))) (DQ Q))
 (hok:isSomeD (stDk call base na ops s k)=true:=by kernel_rfl) (hk:Nat.blt k ops.length=true:=by kernel_rfl) (hw:wanted (opD ops k).o.g (dsOf (stDk call base na ops s k)).fr=some true:=by kernel_rfl) (hc:(opD ops k).o.op.cls=.X:=by kernel_rfl)
 (hv:viewSt (opD ops k).o.op (dsOf (stDk call base na ops s k)).fr=some (len (tc y x),.p (path b) (Nat.add 0 (Nat.mul i (wd y))),some (tc y x)):=by kernel_rfl)
 (hg:(heapAt (dsOf (stDk call base na ops s k)).cur (opD ops k).ks (dsOf (stDk call base na ops s k)).mks).get (path b)=some (.cs el (flatT y X) false):=by kernel_rfl)
 (hf:freeOf ((heapAt (dsOf (stDk call base na ops s k)).cur (opD ops k).ks (dsOf (stDk call base na ops s k)).mks).put (path b) (.cs el (flatT y (X.set i x)) false)) base (cat (opD ops k).ks (dsOf (stDk call base na ops s k)).cur.cons) na=true:=by kernel_rfl):RunD call base na ops s (DQ Q):=
 RunD.stepX k _ _ hok hk hw hc (ev_st (flatT_lay hi) hv hg) hf hr
end
section
variable {P:Program}{G:Gs}{nt:Nat}{fr:T AV}{h:H}{Q:Ex→T AV→H→Prop}
end
section
variable {Bn nt:Nat}{u:Us Bn}{τ:Type}{E:τ→Ex→T AV→H→Prop}{z:τ}{q:Cf}
end
section
variable {call:CallF}{base na:Nat}{ops:List DO}{s:DS}{Q:T AV→H→Prop}
def setFr (s:DS) (fr:T AV):DS:=⟨fr,s.cur,s.old,s.mks,s.rs⟩
theorem zdw (k p:Nat) (v v':AV) (he:v=v') (hr:RunD call base na (ops.drop k) (setFr (dsOf (stDk call base na ops s k)) (T.set (path p) v' (dsOf (stDk call base na ops s k)).fr)) (DQ Q))
 (hok:isSomeD (stDk call base na ops s k)=true:=by kernel_rfl) (hv:T.get (path p) (dsOf (stDk call base na ops s k)).fr=some v:=by kernel_rfl):RunD call base na ops s (DQ Q):=by
 subst he
 refine RunD.upto k hok ?_
 rw[T.set_self _ _ _ hv] at hr
 exact hr
end
theorem gt_get {t:Ty}{xs:List (den t)}{i:Nat} (h:i<xs.length):gt t xs i=xs[i]:=by
 have:=gt_some (t:=t) h
 rw[Lq h] at this
 exact(Oi this).symm
def unk {α:Type} (f:α→Bool) (H:List α):Nat:=H.countP (fun h=> !f h)
theorem unk_le {α:Type} (f:α→Bool) (H:List α):unk f H≤H.length:=List.countP_le_length
theorem unk_set {y:Ty} (f:den y→Bool){H:List (den y)}{i:Nat}{x:den y} (hi:i<H.length) (h0:f (gt y H i)=false) (h1:f x=true):unk f (H.set i x)+1=unk f H:=by
 have h3:H=H.take i++gt y H i::H.drop (i+1):=by
  rw[gt_get hi,←List.drop_eq_getElem_cons hi,Ly]
 have e2:H.set i x=H.take i++x::H.drop (i+1):=by
  rw[List.set_eq_take_append_cons_drop,if_pos hi]
 unfold unk
 rw[e2]
 conv=>rhs;rw[h3]
 simp[List.countP_append,List.countP_cons,h0,h1]
 omega
theorem xnl {Bn nt:Nat}{u:Us Bn}{τ:Type}{E:τ→Ex→T AV→H→Prop}{q:Cf}{σ β:Type}{P:σ→Out σ β}{s0 s':σ}{f:Nat}{g:τ}{bX:σ→τ}{rX:β→τ} (hP:P s0=.brk s') (hg:GC Bn nt u E q (bX s')):GC Bn nt u E q (outE g bX rX (scan P (f+1) s0)):=by
 have:scan P (f+1) s0=.brk s':=by simp only[scan,hP]
 rw[outB this];exact hg
section
variable {Bn nt:Nat}{u:Us Bn}{τ:Type}{E:τ→Ex→T AV→H→Prop}{y:τ}{q:Cf}
theorem xlCi {σ β:Type}{P:σ→Out σ β}{s0:σ}{f:Nat}{g:τ}{bX:σ→τ}{rX:β→τ} (k n:Nat) (L:AV→σ→List (List Bool×AV)) (B:AV→σ→List (Option Blk)) (tv:σ→AV) (tb:σ→Blk) (Inv:σ→Prop) (m:σ→Nat) (hI:Inv s0) (hm:m s0<4611686018427387904)
 (qn:Nat) (src:AV) (fl:List Bool) (hg:Gv n (cAt u nt k q).h (path qn) src (tv s0) (tb s0)) (hB:BsCv n src (tv s0) (B src s0) (B (tv s0) s0))
 (step:∀s,Inv s→GC Bn nt u (RoundC Bn nt E (cAt u nt k q).ks bX rX Inv m n L B tv tb s) ⟨bodyC (cAt u nt k q),[],mkFr (L (tv s) s),hpH (n+1) (B (tv s) s++[some (tb s)])⟩ (P s))
 (h1:okF n fl (L src s0)=true:=by kernel_rfl) (h2:srcL fl (tv s0) (L src s0)=L (tv s0) s0:=by kernel_rfl) (h3:gets (cAt u nt k q).fr (L src s0)=vals (L src s0):=by kernel_rfl) (h4:srcL fl src (L src s0)=L src s0:=by kernel_rfl)
 (h5:heapL ((cAt u nt k q).h.put (path qn) .dead) n=B src s0:=by kernel_rfl) (h6:isSomeB ((cAt u nt k q).h.get (path qn))=true:=by kernel_rfl) (h7:(B (tv s0) s0)[qn]? =some (some .dead):=by kernel_rfl)
 (ho:cd (cOn u nt k q) (cd (loopC (cAt u nt k q)) (Nat.beq (cAt u nt k q).h.next n) false) false=true:=by kernel_rfl) (hf:f=m s0+1:=by kernel_rfl):
 GC Bn nt u E q (outE g bX rX (scan P f s0)):=
 xlC k n L B tv tb Inv m hI hm (rendI fl hg hB h1 h2 h3 h4 h5 (isSomeB_of h6) h7) step ho hf
end
def AllW {y:Ty} (n:Nat) (f:den y→Bool) (H:List (den y)) (W:List (den (.int .i64))):Prop:=∀i,i<W.length→(@LE.le Int _ 0 (gt (.int .i64) W i)∧@LT.lt Int _ (gt (.int .i64) W i) ((n:Nat):Int))∧f (gt y H (Jn (gt (.int .i64) W i)))=true
theorem allw_nil {y:Ty}{n:Nat}{f:den y→Bool}{H:List (den y)}:AllW n f H []:=fun i h=>absurd h (Nn _)
theorem allw_take {y:Ty}{n m:Nat}{f:den y→Bool}{H:List (den y)}{W:List (den (.int .i64))} (h:AllW n f H W):AllW n f H (List.take m W):=fun i hi=>by
 have h2:i<W.length:=by rw[Tk] at hi;omega
 have:=h i h2
 rw[gt_get h2] at this
 rw[gt_get hi,List.getElem_take];exact this
theorem gt_set {y:Ty}{f:den y→Bool}{H:List (den y)}{i j:Nat}{x:den y} (hj:j<H.length) (h0:f (gt y H j)=true) (h1:f x=true):f (gt y (H.set i x) j)=true:=by
 rw[gt_get (by rw[List.length_set];exact hj),List.getElem_set]
 split
 ·exact h1
 ·rw[←gt_get hj];exact h0
theorem gt_set_self {y:Ty}{H:List (den y)}{i:Nat}{x:den y} (hi:i<H.length):gt y (H.set i x) i=x:=by
 rw[gt_get (by rw[List.length_set];exact hi),List.getElem_set_self]
theorem allw_push {y:Ty}{n:Nat}{f:den y→Bool}{H:List (den y)}{W:List (den (.int .i64))}{v:Int}{x:den y} (h:AllW n f H W) (hl:H.length=n) (h0:@LE.le Int _ 0 v) (h1:@LT.lt Int _ v ((n:Nat):Int)) (hx:f x=true):AllW n f (H.set (Jn v) x) (W++[v]):=fun i hi=>by
 rw[gt_get hi]
 by_cases hw:i<W.length
 ·have:=h i hw
  rw[gt_get hw] at this
  rw[List.getElem_append_left hw]
  exact⟨this.1,gt_set (by rw[hl];have:=this.1;omega) this.2 hx⟩
 ·rw[List.getElem_append_right om]
  have:i - W.length=0:=by simp at hi;omega
  simp only[this,List.getElem_cons_zero]
  exact⟨⟨h0,h1⟩,by rw[gt_set_self (by rw[hl];omega)];exact hx⟩
end Go.Ev
end
noncomputable section
namespace Go.Ev
open Go.Proofs
section
variable {P:Program}{G:Gs}
end
section
variable {Bn nt:Nat}{u:Us Bn}{τ:Type}{E:τ→Ex→T AV→H→Prop}{y:τ}{q:Cf}
end
section
variable {σ β:Type}{Inv B:σ→Prop}{R:β→Prop}{m:σ→Nat}{s:σ}
end
end Go.Ev
end
noncomputable section
namespace Go.Ev
open Go.Proofs
section
variable {Bn nt:Nat}{u:Us Bn}{τ:Type}{E:τ→Ex→T AV→H→Prop}{z:τ}{q:Cf}
end
def cArg (o:AOp) (fr:T AV):List AV:=match o with
 |.call _ as_=>evs as_ fr
 |_=>[]
section
variable {C:CJ}{base:Nat}{s:RS}{Q:T AV→H→Prop}
end
section
variable {call:CallF}{base na:Nat}{ops:List DO}{s:DS}{Q:T AV→H→Prop}
end
section
variable {σ β τ:Type}{Po:τ→Prop}{P:σ→Out σ β}{s0:σ}{f:Nat}{g:τ}{bX:σ→τ}{rX:β→τ}{Inv:σ→Prop}{m:σ→Nat}{s:σ}
end
end Go.Ev
end
noncomputable section
namespace Go.Ev
open Go.Proofs
theorem ev_rem {call:CallF}{o:AOp}{fr:T AV}{h:H}{k:IntKind}{a b:Int} (hb:@Ne Int b 0) (hv:viewBin o fr=some (.rem,.i k a,.i k b)) (id:Nat):evOp call o fr h id=.ok (.i k (Int.tmod a b)) h:=by
 unfold viewBin at hv
 split at hv
 ·simp only[Oj,Prod.mk.injEq] at hv
  obtain⟨h1,h2,h3⟩:=hv
  rename_i op x' y'
  show okV _ (binA op (ev x' _) (ev y' _))=_
  rw[h1,h2,h3]
  have:binA .rem (.i k a) (.i k b)=some (.i k (Int.tmod a b)):=by
   show cd (kEq k k) (cd (iEq b (J 0)) none (some (AV.i k (Int.tmod a b)))) none=_
   have h0:iEq b (J 0)=false:=by
    cases h0:iEq b (J 0) with
    |false=>rfl
    |true=>exact absurd (ieq_t h0) hb
   rw[h0]
   cases k<;>rfl
  rw[this];rfl
 ·cases hv
section
variable {C:CJ}{base:Nat}{s:RS}{Q:T AV→H→Prop}
theorem yrm (k:Nat) (kd:IntKind) (a b:Int) (hb:@Ne Int b 0) (hr:RJ C base ((s.at C base k).put (.i kd (Int.tmod a b)) (s.at C base k).h) Q)
 (hok:s.okS C base k=true:=by kernel_rfl) (hv:viewBin (s.at C base k).op.op (s.at C base k).fr=some (.rem,.i kd a,.i kd b):=by kernel_rfl):RJ C base s Q:=RJ.step k _ _ (ev_rem hb hv _) hr hok
end
theorem ev_apX {el by_:Nat}{p:Id}{y:Ty}{xs zs:List (den y)}{h:H}{fz:Bool} (hz:0<zs.length) (hby:(xs.length+zs.length)*by_≤1099511627776) (hg:h.get p=some (.cs el (flatT y xs) fz)):
 appendA el (wd y) by_ (.sl p 0 (wd y) xs.length xs.length true) (flatT y zs) zs.length h=.ok (.sl (path h.next) 0 (wd y) (xs++zs).length (xs++zs).length false) (fresh (.cs el (flatT y (xs++zs)) false) h):=by
 show cd (Nat.beq (wd y) (wd y)) (cd (Nat.ble (Nat.add xs.length zs.length) xs.length) _ (match h.get p with
         |some (.cs el' l fz)=>match cut l 0 (Nat.mul xs.length (wd y)) with
          |some old=>cd true (growA el (wd y) by_ (Nat.add xs.length zs.length) (cat old (flatT y zs)) h)
           (cd (Nat.beq el el') (cd (Nat.beq 0 0) (cd fz .no (growA el (wd y) by_ (Nat.add xs.length zs.length) (cat old (flatT y zs)) (h.put p .dead))) .no) .no)
          |none=>.no
         |_=>.no)) .no=_
 have hc:cut (flatT y xs) 0 (Nat.mul xs.length (wd y))=some (flatT y xs):=by
  show cut (flatT y xs) 0 (xs.length*wd y)=_
  rw[←flatT_len];exact cut_all _
 rw[Nat.beq_refl,show Nat.ble (Nat.add xs.length zs.length) xs.length=false by rw[ble_nat];exact Df (by show¬(xs.length+zs.length≤xs.length);omega),hg]
 show(match cut (flatT y xs) 0 (Nat.mul xs.length (wd y)) with
  |some old=>cd true (growA el (wd y) by_ (Nat.add xs.length zs.length) (cat old (flatT y zs)) h)
   (cd (Nat.beq el el) (cd (Nat.beq 0 0) (cd fz .no (growA el (wd y) by_ (Nat.add xs.length zs.length) (cat old (flatT y zs)) (h.put p .dead))) .no) .no)
  |none=>.no)=_
 rw[hc]
 show growA el (wd y) by_ (xs.length+zs.length) (cat (flatT y xs) (flatT y zs)) h=_
 rw[cat_eq,←flatT_app,←La,ev_grow (by rw[La];exact hby)]
section
variable {call:CallF}{base:Nat}{ops:List AO}{fr:T AV}{h:H}{Q:T AV→H→Prop}
theorem zapX (k q el by_:Nat) (p:Nat) (fz:Bool) (y:Ty) (xs zs:List (den y)) (hz:0<zs.length) (hby:(xs.length+zs.length)*by_≤1099511627776)
 (hr:RunOps call base (ops.drop (k+1)) (setD (opA ops k).dst (.sl (path q) 0 (wd y) (xs++zs).length (xs++zs).length false) (stF call base ops fr h k)) ⟨q+1,T.set (path q) (.cs el (flatT y (xs++zs)) false) (stH call base ops fr h k).t⟩ Q)
 (hok:stOk call base ops fr h k=true:=by kernel_rfl) (hk:Nat.blt k ops.length=true:=by kernel_rfl)
 (hw:wanted (opA ops k).g (stF call base ops fr h k)=some true:=by kernel_rfl) (hq:(stH call base ops fr h k).next=q:=by kernel_rfl)
 (hv:viewApp (opA ops k).op (stF call base ops fr h k) (stH call base ops fr h k)=some (el,wd y,by_,.sl (path p) 0 (wd y) xs.length xs.length true,some (flatT y zs,zs.length)):=by kernel_rfl)
 (hg:(stH call base ops fr h k).get (path p)=some (.cs el (flatT y xs) fz):=by kernel_rfl):RunOps call base ops fr h Q:=by
 refine RunOps.stepH k _ _ hok hk hw ((ev_app hv _).trans (ev_apX hz hby hg)) ?_
 subst hq;exact hr
end
def nilB {α:Type} (l:List α):Bool:=List.rec true (fun _ _ _=>false) l
theorem nilB_t {α:Type}{l:List α} (h:nilB l=true):l=[]:=by
 cases l with
 |nil=>rfl
 |cons=>cases h
theorem nilB_f {α:Type}{l:List α} (h:nilB l=false):0<l.length:=by
 cases l with
 |nil=>cases h
 |cons=>simp
section
variable {Bn nt:Nat}{u:Us Bn}{τ:Type}{E:τ→Ex→T AV→H→Prop}{q:Cf}
theorem xsp (b:Bool){X Y:τ} (ht:b=true→GC Bn nt u E q X) (hf:b=false→GC Bn nt u E q Y):GC Bn nt u E q (cd b X Y):=by
 cases b with
 |true=>exact ht rfl
 |false=>exact hf rfl
end
theorem decRows_flat (hd:H) (t:Ty):∀(xs:List (den t)),decRows (dec hd t) xs.length (flatT t xs)=some xs
 |[]=>rfl
 |x::xs=>by
  show decRows (dec hd t) (xs.length+1) (flatT t (x::xs))=_
  have:flatT t (x::xs)=tc t x++flatT t xs:=by simp[flatT]
  rw[decRows_succ,this,dec_tc]
  simp only
  rw[decRows_flat hd t xs]
theorem dec_own {hd:H}{t:Ty}{xs:List (den t)}{p:Id}{el lo:Nat}{ex fz:Bool} (hn:xs.length≤1073741824) (hg:hd.get p=some (.cs el (flatT t xs) fz)):
 dec hd (.sl t) [.sl p 0 (wd t) xs.length lo ex]=some (xs,[]):=by
 cases xs with
 |nil=>rfl
 |cons x xs=>
  show cd (cd (Nat.beq (wd t) (wd t)) (Nat.ble (xs.length+1) 1073741824) false) (match blkCut (hd.get p) 0 (Nat.mul (xs.length+1) (wd t)) with
   |some l=>match decRows (dec hd t) (xs.length+1) l with
    |some xs=>some (xs,[])
    |none=>none
   |none=>none) none=_
  rw[Nat.beq_refl,Nc (show xs.length+1≤1073741824 by simpa using hn),hg]
  show(match cut (flatT t (x::xs)) 0 (Nat.mul (xs.length+1) (wd t)) with
       |some l=>match decRows (dec hd t) (xs.length+1) l with
        |some xs=>some (xs,[])
        |none=>none
       |none=>none)=_
  have hc:cut (flatT t (x::xs)) 0 (Nat.mul (xs.length+1) (wd t))=some (flatT t (x::xs)):=by
   show cut (flatT t (x::xs)) 0 ((x::xs).length*wd t)=_
   rw[←flatT_len];exact cut_all _
  rw[hc]
  show(match decRows (dec hd t) (x::xs).length (flatT t (x::xs)) with
   |some xs=>some (xs,[])
   |none=>none)=_
  rw[decRows_flat]
theorem decL_own {hd:H}{t:Ty}{xs:List (den t)}{v:AV} (h:dec hd (.sl t) [v]=some (xs,[])):decL hd [⟨false,.sl t⟩] [v]=some (xs,()):=by
 rw[decL_cons]
 have:decP hd false (.sl t) v=some xs:=by
  unfold decP
  simp only[h]
 rw[this];rfl
section
variable {Bn nt:Nat}{u:Us Bn}{q:Cf}
theorem xeO {res:List (List Bool×Option (Option Nat))} (n p el lo:Nat) (ex fz:Bool) (t:Ty) (xs:List (den t)) (hn:xs.length≤1073741824) (ho:cd (cOn u nt n q) (endC (cAt u nt n q)) false=true:=by kernel_rfl)
 (he:resOf res (cAt u nt n q).fr (cAt u nt n q).h=some [.sl (path p) 0 (wd t) xs.length lo ex]:=by kernel_rfl) (hb:(cAt u nt n q).h.get (path p)=some (.cs el (flatT t xs) fz):=by kernel_rfl):GC Bn nt u (EndQ res [⟨false,.sl t⟩]) q (xs,()):=by
 obtain⟨h1,h2⟩:=cd_true ho
 exact run_ok n h1 (endC_of h2 (fun ex hex=>⟨hex,_,he,decL_own (dec_own hn hb)⟩))
theorem xeOA {res:List (List Bool×Option (Option Nat))} (n:Nat) (iv:AV) (hiv:isIv iv) (p el:Nat) (t:Ty) (xs:List (den t)) (hn:xs.length≤1073741824) (ho:cd (cOn u nt n q) (endC (cAt u nt n q)) false=true:=by kernel_rfl)
 (he:resOf res (cAt u nt n q).fr (cAt u nt n q).h=some [apv iv (path p) t xs]:=by kernel_rfl) (hb:(cAt u nt n q).h.get (path p)=some (apb el t xs):=by kernel_rfl):GC Bn nt u (EndQ res [⟨false,.sl t⟩]) q (xs,()):=by
 obtain⟨h1,h2⟩:=cd_true ho
 refine run_ok n h1 (endC_of h2 (fun ex hex=>⟨hex,_,he,decL_own ?_⟩))
 cases xs with
 |nil=>rcases hiv with rfl|rfl<;>rfl
 |cons x xs=>exact dec_own hn hb
end
section
variable {P:Program}{G:Gs}{nt:Nat}{fr:T AV}{h:H}{Q:Ex→T AV→H→Prop}
theorem Sat.cellG {c:Code} (cb p:Id) (hne:cb≠p) (elc:Nat) (l:List AV) (i:Nat) (v0 z:AV) (bp:Blk) (hone:one z=true)
 (hval:∀e:Env,e.h=h→St e→GRel G e→∀e2:Env,e2.w=e.w→e2.F=e.F→Mle (mm e) (mm e2)→(live e.h p→Imm e2 (e.ρ p).1)→∀v,Rel e v0 v→Rel e2 z v)
 (hi:l[i]? =some v0) (hv:h.get cb=some (.cs elc l false)) (hg:h.get p=some bp) (hc:Sat P G nt c fr ((h.put cb (.cs elc (l.set i z) false)).put p .dead) Q):Sat P G nt c fr h Q:=by
 intro K e a he hs hf hgr hsz hp
 have he0:=he
 subst he
 let e2:Env:=⟨e.ρ,(e.h.put cb (.cs elc (l.set i z) false)).put p .dead,e.w,e.F⟩
 have hget:∀id,e2.h.get id=if id=p then some .dead else if id=cb then some (.cs elc (l.set i z) false) else e.h.get id:=fun id=>by
  show((e.h.put cb (.cs elc (l.set i z) false)).put p .dead).get id=_
  rw[put_get,put_get]
 have hlv:∀id,live e2.h id→live e.h id∧id≠p:=fun id=>by
  rintro ⟨b,hb,hd⟩
  rw[hget] at hb
  by_cases hh:id=p
  ·rw[if_pos hh] at hb;injection hb with hb;exact absurd hb.symm hd
  ·rw[if_neg hh] at hb
   by_cases h2:id=cb
   ·exact⟨⟨_,by rw[h2];exact hv,by simp⟩,hh⟩
   ·rw[if_neg h2] at hb;exact⟨⟨b,hb,hd⟩,hh⟩
 have hown:∀b,Own e2 b→Own e b:=fun b ⟨id,h1,h2⟩=>⟨id,(hlv id h1).1,h2⟩
 have hi2:Mle (mm e) (mm e2):=⟨fun b (hb:Imm e b)=>⟨hb.1,hb.2.1,fun h=>hb.2.2 (hown b h)⟩,Nr _⟩
 have hx:Ext e e2:={
  next:=Nr _
  kn:=fun _ h=>h
  ren:=fun _ _=>rfl
  fr:=rfl
  qt:=⟨rfl,rfl,rfl⟩
  heap:=Nr _
  keep:=fun _ _ _=>rfl
  size:=fun _ _=>rfl
  own:=fun b _ h=>hown b h
  pres:=fun id b hb=>by
   rw[hget]
   by_cases hh:id=p
   ·rw[if_pos hh];exact⟨_,rfl⟩
   ·rw[if_neg hh]
    by_cases h2:id=cb
    ·rw[if_pos h2];exact⟨_,rfl⟩
    ·rw[if_neg h2];exact⟨b,hb⟩
  newk:=fun _ h=>.inl h}
 have himp:live e.h p→Imm e2 (e.ρ p).1:=fun hlp=>⟨hs.lt hlp,fun h=>(hs.fr _ h).2 ⟨p,hlp,rfl⟩,fun⟨id,h1,h2⟩=>(hlv id h1).2 (hs.inj id p (hlv id h1).1 hlp h2)⟩
 have hs2:St e2:={
  kn:=fun id hk=>by
   obtain⟨k,h1,h2,h3⟩:=hs.kn id hk
   exact⟨k,h1,h2,fun hl=>by obtain⟨b,hb⟩:=h3 hl;exact hx.pres id b hb⟩
  dk:=fun id b hb=>by
   rw[hget] at hb
   by_cases hh:id=p
   ·rw[hh];exact hs.dk p _ hg
   ·rw[if_neg hh] at hb
    by_cases h2:id=cb
    ·rw[h2];exact hs.dk cb _ hv
    ·rw[if_neg h2] at hb;exact hs.dk id b hb
  lo:=hs.lo
  blk:=fun id b hb=>by
   rw[hget] at hb
   by_cases hh:id=p
   ·rw[if_pos hh] at hb;injection hb with hb;subst hb;trivial
   ·rw[if_neg hh] at hb
    by_cases h2:id=cb
    ·rw[if_pos h2] at hb;injection hb with hb;subst hb
     obtain⟨c,fr,g1,g2,g3,g4⟩:=hs.blk cb _ hv
     rw[h2]
     refine⟨c,fr,g1,by rw[List.length_set];exact g2,fun j x hj=>?_,g4⟩
     rw[List.getElem?_set] at hj
     by_cases hij:i=j
     ·rw[if_pos hij] at hj
      subst hij
      have hlt:i<l.length:=(List.getElem?_eq_some_iff.1 hi).1
      rw[if_pos hlt] at hj
      obtain rfl:=Oi hj
      obtain⟨ho,v,g5,g6⟩:=g3 i _ hi
      exact⟨hone,v,g5,hval e rfl hs hgr e2 rfl rfl hi2 himp v g6⟩
     ·rw[if_neg hij] at hj
      obtain⟨ho,v,g5,g6⟩:=g3 j _ hj
      exact⟨ho,v,g5,Rel.ext hx _ _ g6⟩
    ·rw[if_neg h2] at hb
     exact BlkRel.ext hx (hs.dk id b hb) rfl b (hs.blk id b hb)
  inj:=fun id id' h1 h2 he=>hs.inj id id' (hlv id h1).1 (hlv id' h2).1 he
  fr:=fun b hb=>⟨(hs.fr b hb).1,fun h=>(hs.fr b hb).2 (hown b h)⟩}
 exact hc K e2 a rfl hs2 (fun k=>Rel.ext hx _ _ (hf k)) (hgr.ext hx) hsz (fun ex fr' h' hq=>(hp ex fr' h' hq).ext hx rfl)
theorem Sat.cellA {c:Code} (hlo:1073741824≤G.B) (cb p:Id) (hne:cb≠p) (elc el:Nat) (l:List AV) (i:Nat) (iv:AV) (hiv:isIv iv) (y:Ty) (xs:List (den y)) (hn:xs.length≤1073741824)
 (hi:l[i]? =some (apv iv p y xs)) (hv:h.get cb=some (.cs elc l false)) (hg:h.get p=some (apb el y xs)) (hc:Sat P G nt c fr ((h.put cb (.cs elc (l.set i (.isl y xs)) false)).put p .dead) Q):Sat P G nt c fr h Q:=by
 refine Sat.cellG cb p hne elc l i _ _ _ rfl (fun e he hs hgr e2 hw hF hle himp v hr=>?_) hi hv hg hc
 show relT (mm e2) e2.w (.sl y) xs [v]
 cases xs with
 |nil=>
  rcases hiv with rfl|rfl
  ·have hr:Rel e .em v:=hr
   simp only[Rel] at hr
   obtain⟨a,hu⟩:=hr
   exact⟨v,rfl,.inr ⟨a,0,hu,Nr _,Nz _,.inl rfl⟩⟩
  ·have hr:Rel e (.v (.slice none 0 0)) v:=hr
   simp only[Rel] at hr
   exact⟨v,rfl,.inl ⟨rfl,hr.1⟩⟩
 |cons x xs=>
  have hg:h.get p=some (.cs el (flatT y (x::xs)) false):=hg
  subst he
  have hlp:live e.h p:=⟨_,hg,by simp⟩
  let hd:H:=⟨0,T.set p (.cs el (flatT y (x::xs)) false) .e⟩
  have hhd:∀id,hd.get id=if id=p then some (.cs el (flatT y (x::xs)) false) else none:=fun id=>by
   show T.get id (T.set p _ .e)=_
   rw[T.get_set,T.get_e]
  have:=decP_rel (e2:=e2) (hd:=hd) hs hw hle (fun id b hb=>by
   rw[hhd] at hb
   by_cases hh:id=p
   ·rw[if_pos hh] at hb;rw[hh,hg];exact hb
   ·rw[if_neg hh] at hb;cases hb) (fun id ⟨b,hb,_⟩=>by
   rw[hhd] at hb
   by_cases hh:id=p
   ·rw[hh];exact himp hlp
   ·rw[if_neg hh] at hb;cases hb) (by rw[hF,hgr.1];exact hlo) (decP_tos (hd:=hd) (id:=p) (t:=y) (el:=el) (fz:=false) (ex:=false) (lo:=(x::xs).length) (xs:=x::xs) hn (by rw[hhd,if_pos rfl];rfl)) (v:=v) hr
  exact this
end
section
variable {Bn nt:Nat}{u:Us Bn}{τ:Type}{E:τ→Ex→T AV→H→Prop}{z:τ}{q:Cf}
theorem xgaC [BOk Bn] (n c elc p el i:Nat) (l:List AV) (iv:AV) (hiv:isIv iv) (t:Ty) (xs:List (den t)) (hn:xs.length≤1073741824) (hg:GC Bn nt u E ⟨(cAt u nt n q).c,(cAt u nt n q).ks,(cAt u nt n q).fr,((cAt u nt n q).h.put (path c) (.cs elc (l.set i (.isl t xs)) false)).put (path p) .dead⟩ z)
 (ho:cd (cOn u nt n q) (goC (cAt u nt n q)) false=true:=by kernel_rfl) (hne:Nat.beq c p=false:=by kernel_rfl) (hi:l[i]? =some (apv iv (path p) t xs):=by kernel_rfl) (hv:(cAt u nt n q).h.get (path c)=some (.cs elc l false):=by kernel_rfl) (hb:(cAt u nt n q).h.get (path p)=some (apb el t xs):=by kernel_rfl):GC Bn nt u E q z:=by
 obtain⟨h1,h2⟩:=cd_true ho
 exact run_ok n h1 (goC_of h2 (Sat.cellA (BOk.lo (B:=Bn)) (path c) (path p) (fun he=>by
  have:=congrArg unpath he
  rw[unpath_path,unpath_path] at this
  rw[this,Nat.beq_refl] at hne;cases hne) elc el l i iv hiv t xs hn hi hv hb hg.S))
end
def nilW (x x':AV):Prop:=x'=x∨x=.v (.slice none 0 0)∧∃t,x'=.isl t []
def NilL:List AV→List AV→Prop
 |[],[]=>True
 |x::l,x'::l'=>nilW x x'∧NilL l l'
 |_,_=>False
theorem NilL.get:∀{l l':List AV},NilL l l'→l'.length=l.length∧∀(j:Nat) (x:AV),l'[j]? =some x→∃z,l[j]? =some z∧nilW z x
 |[],[],_=>⟨rfl,fun j x h=>by simp at h⟩
 |x::l,x'::l',h=>by
  obtain⟨h1,h2⟩:=NilL.get h.2
  refine⟨by simp[h1],fun j y hj=>?_⟩
  cases j with
  |zero=>simp at hj;subst hj;exact⟨x,rfl,h.1⟩
  |succ j=>exact h2 j y (by simpa using hj)
 |[],_::_,h=>h.elim
 |_::_,[],h=>h.elim
section
variable {P:Program}{G:Gs}{nt:Nat}{fr:T AV}{h:H}{Q:Ex→T AV→H→Prop}
theorem Sat.cellN {c:Code} (cb:Id) (elc:Nat) (l l':List AV) (hl:NilL l l') (hv:h.get cb=some (.cs elc l false)) (hc:Sat P G nt c fr (h.put cb (.cs elc l' false)) Q):Sat P G nt c fr h Q:=by
 intro K e a he hs hf hgr hsz hp
 subst he
 obtain⟨hlen,hl⟩:=hl.get
 let e2:Env:=⟨e.ρ,e.h.put cb (.cs elc l' false),e.w,e.F⟩
 have hget:∀id,e2.h.get id=if id=cb then some (.cs elc l' false) else e.h.get id:=fun id=>by
  show(e.h.put cb (.cs elc l' false)).get id=_
  rw[put_get]
 have hlv:∀id,live e2.h id→live e.h id:=fun id=>by
  rintro ⟨b,hb,hd⟩
  rw[hget] at hb
  by_cases h2:id=cb
  ·exact⟨_,by rw[h2];exact hv,by simp⟩
  ·rw[if_neg h2] at hb;exact⟨b,hb,hd⟩
 have hown:∀b,Own e2 b→Own e b:=fun b ⟨id,h1,h2⟩=>⟨id,hlv id h1,h2⟩
 have hx:Ext e e2:={
  next:=Nr _
  kn:=fun _ h=>h
  ren:=fun _ _=>rfl
  fr:=rfl
  qt:=⟨rfl,rfl,rfl⟩
  heap:=Nr _
  keep:=fun _ _ _=>rfl
  size:=fun _ _=>rfl
  own:=fun b _ h=>hown b h
  pres:=fun id b hb=>by
   rw[hget]
   by_cases h2:id=cb
   ·rw[if_pos h2];exact⟨_,rfl⟩
   ·rw[if_neg h2];exact⟨b,hb⟩
  newk:=fun _ h=>.inl h}
 have hs2:St e2:={
  kn:=fun id hk=>by
   obtain⟨k,h1,h2,h3⟩:=hs.kn id hk
   exact⟨k,h1,h2,fun hl=>by obtain⟨b,hb⟩:=h3 hl;exact hx.pres id b hb⟩
  dk:=fun id b hb=>by
   rw[hget] at hb
   by_cases h2:id=cb
   ·rw[h2];exact hs.dk cb _ hv
   ·rw[if_neg h2] at hb;exact hs.dk id b hb
  lo:=hs.lo
  blk:=fun id b hb=>by
   rw[hget] at hb
   by_cases h2:id=cb
   ·rw[if_pos h2] at hb;injection hb with hb;subst hb
    obtain⟨c,fr,g1,g2,g3,g4⟩:=hs.blk cb _ hv
    rw[h2]
    refine⟨c,fr,g1,by rw[hlen];exact g2,fun j x hj=>?_,g4⟩
    obtain⟨z,hz,hw⟩:=hl j x hj
    obtain⟨ho,v,g5,g6⟩:=g3 j _ hz
    rcases hw with rfl|⟨rfl,t,rfl⟩
    ·exact⟨ho,v,g5,Rel.ext hx _ _ g6⟩
    ·refine⟨rfl,v,g5,?_⟩
     simp only[Rel] at g6
     show relT (mm e2) e2.w (.sl t) [] [v]
     exact⟨v,rfl,.inl ⟨rfl,g6.1⟩⟩
   ·rw[if_neg h2] at hb
    exact BlkRel.ext hx (hs.dk id b hb) rfl b (hs.blk id b hb)
  inj:=fun id id' h1 h2 he=>hs.inj id id' (hlv id h1) (hlv id' h2) he
  fr:=fun b hb=>⟨(hs.fr b hb).1,fun h=>(hs.fr b hb).2 (hown b h)⟩}
 exact hc K e2 a rfl hs2 (fun k=>Rel.ext hx _ _ (hf k)) (hgr.ext hx) hsz (fun ex fr' h' hq=>(hp ex fr' h' hq).ext hx rfl)
end
section
variable {Bn nt:Nat}{u:Us Bn}{τ:Type}{E:τ→Ex→T AV→H→Prop}{z:τ}{q:Cf}
theorem xnlB [BOk Bn] (n c elc:Nat) (l l':List AV) (hl:NilL l l') (hg:GC Bn nt u E ⟨(cAt u nt n q).c,(cAt u nt n q).ks,(cAt u nt n q).fr,(cAt u nt n q).h.put (path c) (.cs elc l' false)⟩ z)
 (ho:cd (cOn u nt n q) (goC (cAt u nt n q)) false=true:=by kernel_rfl) (hv:(cAt u nt n q).h.get (path c)=some (.cs elc l false):=by kernel_rfl):GC Bn nt u E q z:=by
 obtain⟨h1,h2⟩:=cd_true ho
 exact run_ok n h1 (goC_of h2 (Sat.cellN (path c) elc l l' hl hv hg.S))
end
section
variable {call:CallF}{base:Nat}{ops:List AO}{fr:T AV}{h:H}{Q:T AV→H→Prop}
theorem flat_str (l:List Nat):flatT (.int .u8) (List.map J l)=l.map fun c=>AV.i .u8 (.ofNat c):=by
 rw[flatT_u8,List.map_map];rfl
theorem zapS (k q el by_:Nat) (iv:AV) (hiv:isIv iv) (p:Nat) (xs:List Int) (l:List Nat) (hz:0<U (α:=Nat) l) (hby:(U (α:=Int) xs+U (α:=Nat) l)*by_≤1099511627776)
 (hr:RunOps call base (ops.drop (k+1)) (setD (opA ops k).dst (.sl (path q) 0 (wd (.int .u8)) (U (α:=Int) (xs++List.map J l)) (U (α:=Int) (xs++List.map J l)) false) (stF call base ops fr h k)) ⟨q+1,T.set (path q) (.cs el (flatT (.int .u8) (xs++List.map J l)) false) (T.set (path p) .dead (stH call base ops fr h k).t)⟩ Q)
 (hok:stOk call base ops fr h k=true:=by kernel_rfl) (hk:Nat.blt k ops.length=true:=by kernel_rfl)
 (hw:wanted (opA ops k).g (stF call base ops fr h k)=some true:=by kernel_rfl) (hq:(stH call base ops fr h k).next=q:=by kernel_rfl)
 (hv:viewApp (opA ops k).op (stF call base ops fr h k) (stH call base ops fr h k)=some (el,wd (.int .u8),by_,apv iv (path p) (.int .u8) xs,some (l.map fun c=>AV.i .u8 (.ofNat c),U (α:=Nat) l)):=by kernel_rfl)
 (hg:(stH call base ops fr h k).get (path p)=some (apb el (.int .u8) xs):=by kernel_rfl):RunOps call base ops fr h Q:=by
 have hv2:=hv
 rw[←flat_str] at hv2
 have hl:U (α:=Nat) l=(List.map J l).length:=(Lm ..).symm
 have hA:=ev_appL (el:=el) (by_:=by_) (y:=.int .u8) (zs:=List.map J l) hiv (by rw[←hl];exact hz) (by rw[←hl];exact hby) hg
 rw[←hl] at hA
 refine RunOps.stepH k _ _ hok hk hw ((ev_app hv2 _).trans hA) ?_
 subst hq;exact hr
theorem zapSn (k q el by_:Nat) (p:Nat) (xs:List Int) (l:List Nat) (hz:0<U (α:=Nat) l) (hby:(U (α:=Int) xs+U (α:=Nat) l)*by_≤1099511627776)
 (hr:RunOps call base (ops.drop (k+1)) (setD (opA ops k).dst (.sl (path q) 0 (wd (.int .u8)) (U (α:=Int) (xs++List.map J l)) (U (α:=Int) (xs++List.map J l)) false) (stF call base ops fr h k)) ⟨q+1,T.set (path q) (.cs el (flatT (.int .u8) (xs++List.map J l)) false) (T.set (path p) .dead (stH call base ops fr h k).t)⟩ Q)
 (hok:stOk call base ops fr h k=true:=by kernel_rfl) (hk:Nat.blt k ops.length=true:=by kernel_rfl)
 (hw:wanted (opA ops k).g (stF call base ops fr h k)=some true:=by kernel_rfl) (hq:(stH call base ops fr h k).next=q:=by kernel_rfl)
 (hv:viewApp (opA ops k).op (stF call base ops fr h k) (stH call base ops fr h k)=some (el,wd (.int .u8),by_,.sl (path p) 0 (wd (.int .u8)) (U (α:=Int) xs) (U (α:=Int) xs) false,some (l.map fun c=>AV.i .u8 (.ofNat c),U (α:=Nat) l)):=by kernel_rfl)
 (hg:(stH call base ops fr h k).get (path p)=some (.cs el (flatT (.int .u8) xs) false):=by kernel_rfl):RunOps call base ops fr h Q:=by
 have hv2:=hv
 rw[←flat_str] at hv2
 have hl:U (α:=Nat) l=(List.map J l).length:=(Lm ..).symm
 have hA:=ev_apnL (el:=el) (by_:=by_) (y:=.int .u8) (zs:=List.map J l) (by rw[←hl];exact hz) (by rw[←hl];exact hby) hg
 rw[←hl] at hA
 refine RunOps.stepH k _ _ hok hk hw ((ev_app hv2 _).trans hA) ?_
 subst hq;exact hr
end
theorem gAm {n:Nat}{h:H}{iv:AV}{el:TypeId}{y:Ty}{xs:List (den y)}{q:Nat} (hx:0<xs.length) (hg:h.get (path q)=some (.cs el (flatT y xs) false)):Gv n h (path q) (.sl (path q) 0 (wd y) xs.length xs.length false) (apv iv (path n) y xs) (apb el y xs):=by
 cases xs with
 |nil=>exact absurd hx (Nat.lt_irrefl _)
 |cons x t=>exact gN (y:=y) (xs:=x::t) hg
end Go.Ev
end
noncomputable section
namespace Go.Ev
end Go.Ev
end
