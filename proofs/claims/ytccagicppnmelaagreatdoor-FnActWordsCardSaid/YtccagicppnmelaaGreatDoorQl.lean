/- A part of the proof that FnActWords returns true for every input and leaves its argument as it was; no condition. -/
import Derived.Test.YtccagicppnmelaaGreatDoorQk
import Derived.Test.YtccagicppnmelaaGreatDoorQa
set_option linter.all false
open List renaming length→U
open Int renaming ofNat→J,toNat→Jn
noncomputable section
namespace Go.Ev
open Go.Proofs
set_option maxRecDepth 100000
abbrev qTx:List Par:=[⟨false,.str⟩]
abbrev qIn:List Par:=[⟨false,.int .i64⟩]
def addO (o:AOp):Option (Od×Od):=match o with
 |.bin .add x y=>some (x,y)
 |_=>none
def idxA (ops:List AO):Option (Nat×Od×Od):=List.rec none (fun o _ ih=>Option.rec (Option.rec none (fun w=>some (Nat.succ w.1,w.2)) ih) (fun p=>some (0,p)) (addO o.op)) ops
def sAV (v:AV):Option (Nat×List Nat):=match v with
 |.s n l=>some (n,l)
 |_=>none
theorem addO_eq {o:AOp}{p:Od×Od} (h:addO o=some p):o=.bin .add p.1 p.2:=by
 unfold addO at h
 split at h
 ·obtain rfl:=Oi h;rfl
 ·cases h
theorem sAV_eq {v:AV}{p:Nat×List Nat} (h:sAV v=some p):v=.s p.1 p.2:=by
 unfold sAV at h
 split at h
 ·obtain rfl:=Oi h;rfl
 ·cases h
theorem idxA_eq:∀{ops:List AO}{w:Nat×Od×Od},idxA ops=some w→(opA (ops.drop w.1) 0).op=.bin .add w.2.1 w.2.2
 |[],_,h=>by cases h
 |o::ops,w,h=>by
  replace h:(Option.rec (Option.rec none (fun w=>some (Nat.succ w.1,w.2)) (idxA ops)) (fun p=>some (0,p)) (addO o.op):Option (Nat×Od×Od))=some w:=h
  cases ha:addO o.op with
  |some p=>rw[ha] at h;obtain rfl:=Oi (show some (0,p)=some w from h);exact addO_eq ha
  |none=>
   rw[ha] at h
   replace h:(Option.rec none (fun w=>some (Nat.succ w.1,w.2)) (idxA ops):Option (Nat×Od×Od))=some w:=h
   cases hi:idxA ops with
   |none=>rw[hi] at h;cases h
   |some w'=>rw[hi] at h;obtain rfl:=Oi (show some (Nat.succ w'.1,w'.2)=some w from h);have g:=idxA_eq (ops:=ops) (w:=w') hi;exact g
def obN (p:List Nat×List Nat) (a b:Nat×List Nat) (l:List Ob):List Ob:=obL qTx (a.2,()) (p.1,())::obL qTx (b.2,()) (p.2,())::obL qIn (.ofNat a.1,()) (.ofNat (U p.1),())::obL qIn (.ofNat b.1,()) (.ofNat (U p.2),())::l
def addQ (C:CJ) (base:Nat) (K:T AV→H→den ySrc→Bg→W) (s:RS) (σ:den ySrc) (m:Bg) (k:Nat) (p:List Nat×List Nat) (a b:Nat×List Nat):W:=
 cd (s.okS C base k) (Option.rec none (fun q=>Option.rec none (fun l=>some (obN p a b l)) (K q.1 q.2.1 σ m)) (((s.at C base k).put (.s (Nat.add a.1 b.1) (cat a.2 b.2)) (s.at C base k).h).all C base)) none
def addR (C:CJ) (base:Nat) (K:T AV→H→den ySrc→Bg→W) (s:RS) (σ:den ySrc) (m:Bg) (p:List Nat×List Nat) (w:Nat×Od×Od):W:=
 Option.rec none (fun a=>Option.rec none (fun b=>addQ C base K s σ m w.1 p a b) (sAV (ev w.2.2 (s.at C base w.1).fr))) (sAV (ev w.2.1 (s.at C base w.1).fr))
def fin0 (C:CJ) (base:Nat) (K:T AV→H→den ySrc→Bg→W) (s:RS) (σ:den ySrc) (m:Bg):W:=Option.rec none (fun q=>K q.1 q.2.1 σ m) (s.all C base)
def fin2 (C:CJ) (base:Nat) (hk:List Zv→Option (List Nat×List Nat)) (K:T AV→H→den ySrc→Bg→W) (s:RS) (σ:den ySrc) (m:Bg):W:=
 Option.rec (fin0 C base K s σ m) (fun p=>Option.rec (fin0 C base K s σ m) (fun w=>addR C base K s σ m p w) (idxA s.ops)) (hk m.z)
def ndR2 (Bn:Nat) (Ds:List Cl) (C:CJ) (base:Nat) (hk:List Zv→Option (List Nat×List Nat)) (K:T AV→H→den ySrc→Bg→W) (n:Nat):RS→den ySrc→Bg→W:=
 Nat.rec (motive:=fun _=>RS→den ySrc→Bg→W) (fun _ _ _=>none) (fun _ ih s σ m=>
  Option.rec (fin2 C base hk K s σ m) (fun w=>ndW Bn C base w.1 w.2 s σ m ih) (idxD Ds s.ops)) n
section
variable {Bn:Nat}{Ds:List Cl}{C:CJ}{base:Nat}{B:Int}{τ:Type}{R:τ→Prop}{Q:T AV→H→τ→Prop}
theorem fin0_ok {K:T AV→H→den ySrc→Bg→W} (hK:∀fr h σ' m' e',K fr h σ' m'=some e'→Eqs e'→Src B m' σ'→∃y,R y∧Q fr h y){s:RS}{σ:den ySrc}{m:Bg}{eqs:List Ob}
 (h:fin0 C base K s σ m=some eqs) (he:Eqs eqs) (hs:Src B m σ):∃y,R y∧RJ C base s (fun fr h=>Q fr h y):=by
 unfold fin0 at h
 cases ha:s.all C base with
 |none=>rw[ha] at h;cases h
 |some q=>
  rw[ha] at h
  obtain⟨y,h1,h2⟩:=hK _ _ _ _ _ (show K q.1 q.2.1 σ m=some eqs from h) he hs
  refine⟨y,h1,RJ.fin (by rw[ha];rfl) ?_⟩
  rw[ha];exact h2
theorem addQ_ok {hk:List Zv→Option (List Nat×List Nat)} (hL:∀z,(∀v∈z,Zok v)→∀p,hk z=some p→Nat.ble (Nat.add (U p.1) (U p.2)) 1099511627776=true){K:T AV→H→den ySrc→Bg→W} (hK:∀fr h σ' m' e',K fr h σ' m'=some e'→Eqs e'→Src B m' σ'→∃y,R y∧Q fr h y){s:RS}{σ:den ySrc}{m:Bg}{eqs:List Ob}{p:List Nat×List Nat}{w:Nat×Od×Od}{a b:Nat×List Nat}
 (hp:hk m.z=some p) (hw:idxA s.ops=some w) (ha:sAV (ev w.2.1 (s.at C base w.1).fr)=some a) (hb:sAV (ev w.2.2 (s.at C base w.1).fr)=some b)
 (h:addQ C base K s σ m w.1 p a b=some eqs) (he:Eqs eqs) (hs:Src B m σ):∃y,R y∧RJ C base s (fun fr h=>Q fr h y):=by
 unfold addQ at h
 obtain⟨hok,h⟩:=cd_some h
 cases hq:((s.at C base w.1).put (.s (Nat.add a.1 b.1) (cat a.2 b.2)) (s.at C base w.1).h).all C base with
 |none=>rw[hq] at h;cases h
 |some q=>
  rw[hq] at h
  replace h:(Option.rec none (fun l=>some (obN p a b l)) (K q.1 q.2.1 σ m):W)=some eqs:=h
  cases hk2:K q.1 q.2.1 σ m with
  |none=>rw[hk2] at h;cases h
  |some l=>
   rw[hk2] at h
   obtain rfl:=Oi (show some (obN p a b l)=some eqs from h)
   have e3:((.ofNat a.1,()):denL qIn)=(.ofNat (U p.1),()):=he (obL qIn (.ofNat a.1,()) (.ofNat (U p.1),())) (by simp[obN])
   have e4:((.ofNat b.1,()):denL qIn)=(.ofNat (U p.2),()):=he (obL qIn (.ofNat b.1,()) (.ofNat (U p.2),())) (by simp[obN])
   have e3:a.1=U p.1:=J.inj (congrArg Prod.fst e3)
   have e4:b.1=U p.2:=J.inj (congrArg Prod.fst e4)
   have hble:Nat.ble (Nat.add a.1 b.1) 1099511627776=true:=by rw[e3,e4];exact hL m.z hs.2 p hp
   obtain⟨y,h1,h2⟩:=hK _ _ _ _ _ hk2 (fun x hx=>he x (by unfold obN;simp[hx])) hs
   refine⟨y,h1,RJ.step w.1 (.s (Nat.add a.1 b.1) (cat a.2 b.2)) (s.at C base w.1).h ?_ (RJ.fin (by rw[hq];rfl) (by rw[hq];exact h2)) hok⟩
   have hop:(s.at C base w.1).op.op=.bin .add w.2.1 w.2.2:=by
    have g:=idxA_eq hw
    unfold RS.op RS.at
    exact g
   rw[hop]
   show okV (s.at C base w.1).h (binA .add (ev w.2.1 (s.at C base w.1).fr) (ev w.2.2 (s.at C base w.1).fr))=_
   rw[sAV_eq ha,sAV_eq hb]
   show okV (s.at C base w.1).h (cd (Nat.ble (Nat.add a.1 b.1) 1099511627776) (some (.s (Nat.add a.1 b.1) (cat a.2 b.2))) none)=_
   rw[hble];rfl
theorem fin2_ok {hk:List Zv→Option (List Nat×List Nat)} (hL:∀z,(∀v∈z,Zok v)→∀p,hk z=some p→Nat.ble (Nat.add (U p.1) (U p.2)) 1099511627776=true){K:T AV→H→den ySrc→Bg→W} (hK:∀fr h σ' m' e',K fr h σ' m'=some e'→Eqs e'→Src B m' σ'→∃y,R y∧Q fr h y){s:RS}{σ:den ySrc}{m:Bg}{eqs:List Ob}
 (h:fin2 C base hk K s σ m=some eqs) (he:Eqs eqs) (hs:Src B m σ):∃y,R y∧RJ C base s (fun fr h=>Q fr h y):=by
 unfold fin2 at h
 cases hp:hk m.z with
 |none=>rw[hp] at h;exact fin0_ok hK h he hs
 |some p=>
  rw[hp] at h
  replace h:(Option.rec (fin0 C base K s σ m) (fun w=>addR C base K s σ m p w) (idxA s.ops):W)=some eqs:=h
  cases hw:idxA s.ops with
  |none=>rw[hw] at h;exact fin0_ok hK h he hs
  |some w=>
   rw[hw] at h
   replace h:addR C base K s σ m p w=some eqs:=h
   unfold addR at h
   cases ha:sAV (ev w.2.1 (s.at C base w.1).fr) with
   |none=>rw[ha] at h;cases h
   |some a=>
    rw[ha] at h
    replace h:(Option.rec none (fun b=>addQ C base K s σ m w.1 p a b) (sAV (ev w.2.2 (s.at C base w.1).fr)):W)=some eqs:=h
    cases hb:sAV (ev w.2.2 (s.at C base w.1).fr) with
    |none=>rw[hb] at h;cases h
    |some b=>rw[hb] at h;exact addQ_ok hL hK hp hw ha hb h he hs
theorem ndR2_ok {hk:List Zv→Option (List Nat×List Nat)} (hL:∀z,(∀v∈z,Zok v)→∀p,hk z=some p→Nat.ble (Nat.add (U p.1) (U p.2)) 1099511627776=true) (hB:B≤1000000000) (hC:∀f d args h,clOf Ds f=some d→C.call f args h=ansC Bn d args h) (hD:∀d∈Ds,ClOk Bn d){K:T AV→H→den ySrc→Bg→W}
 (hK:∀fr h σ' m' e',K fr h σ' m'=some e'→Eqs e'→Src B m' σ'→∃y,R y∧Q fr h y):∀(n:Nat){s:RS}{σ:den ySrc}{m:Bg}{eqs:List Ob},
 ndR2 Bn Ds C base hk K n s σ m=some eqs→Eqs eqs→Src B m σ→∃y,R y∧RJ C base s (fun fr h=>Q fr h y)
 |0,_,_,_,_,h,_,_=>by cases h
 |n+1,s,σ,m,eqs,h,he,hs=>by
  have h:(Option.rec (fin2 C base hk K s σ m) (fun w=>ndW Bn C base w.1 w.2 s σ m (ndR2 Bn Ds C base hk K n)) (idxD Ds s.ops):W)=some eqs:=h
  have ih:=fun{s σ m eqs}=>@ndR2_ok hk hL hB hC hD K hK n s σ m eqs
  cases hi:idxD Ds s.ops with
  |none=>
   rw[hi] at h
   exact fin2_ok hL hK h he hs
  |some w=>
   rw[hi] at h
   obtain⟨k,d⟩:=w
   replace h:ndW Bn C base k d s σ m (ndR2 Bn Ds C base hk K n)=some eqs:=h
   have hop:=idxD_eq hi
   have hcons:s.ops.drop k=opA (s.ops.drop k) 0::(s.ops.drop k).drop 1:=by
    cases hdr:s.ops.drop k with
    |nil=>rw[hdr] at hop;cases hop
    |cons o r=>rfl
   have hkk:ndK Bn C base k d s σ m (ndR2 Bn Ds C base hk K n)=some eqs→∃y,R y∧RJ C base s (fun fr h=>Q fr h y):=by
    intro h
    unfold ndK at h
    cases hf:s.fst C base k with
    |none=>rw[hf] at h;cases h
    |some q=>
     rw[hf] at h
     replace h:cd (isF (wanted (opA (s.ops.drop k) 0).g q.1)) (Option.rec none (fun q=>ndR2 Bn Ds C base hk K n ⟨s.ops.drop (Nat.succ k),q.1,q.2.1,s.Rs,q.2.2⟩ σ m) (s.fst C base (Nat.succ k)))
      (ndP Bn ⟨s.ops.drop k,q.1,q.2.1,s.Rs,q.2.2⟩ σ m d (ndR2 Bn Ds C base hk K n))=some eqs:=h
     cases hwf:isF (wanted (opA (s.ops.drop k) 0).g q.1) with
     |true=>
      rw[hwf] at h
      replace h:(Option.rec none (fun q=>ndR2 Bn Ds C base hk K n ⟨s.ops.drop (Nat.succ k),q.1,q.2.1,s.Rs,q.2.2⟩ σ m) (s.fst C base (Nat.succ k)):W)=some eqs:=h
      cases hf2:s.fst C base (Nat.succ k) with
      |none=>rw[hf2] at h;cases h
      |some q2=>
       rw[hf2] at h
       obtain⟨y,h1,h2⟩:=ih h he hs
       refine⟨y,h1,RJ.upto (Nat.succ k) (by rw[hf2];rfl) ?_⟩
       unfold RS.at
       rw[hf2];exact h2
     |false=>
      rw[hwf] at h
      obtain⟨y,h1,h2⟩:=ndP_ok (R:=R) (Q:=Q) (base:=base) hB hC hD h he hs hop hcons (fun s' σ' m' e' g1 g2 g3=>ih g1 g2 g3)
      refine⟨y,h1,RJ.upto k (by rw[hf];rfl) ?_⟩
      unfold RS.at
      rw[hf];exact h2
   unfold ndW at h
   cases hg:grdP (opA (s.ops.drop k) 0) with
   |none=>rw[hg] at h;exact hkk h
   |some p=>
    rw[hg] at h
    replace h:cd (freeP s.Rs p) (ndG C base (idxP p s.ops) p s σ m (ndR2 Bn Ds C base hk K n)) (ndK Bn C base k d s σ m (ndR2 Bn Ds C base hk K n))=some eqs:=h
    cases hfr:freeP s.Rs p with
    |false=>rw[hfr] at h;exact hkk h
    |true=>
     rw[hfr] at h
     replace h:ndG C base (idxP p s.ops) p s σ m (ndR2 Bn Ds C base hk K n)=some eqs:=h
     unfold ndG at h
     generalize idxP p s.ops=k0 at h
     cases hf:s.fst C base k0 with
     |none=>rw[hf] at h;cases h
     |some q=>
      rw[hf] at h
      obtain⟨h1,h2⟩:=cd_some h
      obtain⟨y,h3,h4⟩:=ih h2 he hs
      have hat:s.at C base k0=⟨s.ops.drop k0,q.1,q.2.1,s.Rs,q.2.2⟩:=by unfold RS.at;rw[hf];rfl
      cases hv:T.get p q.1 with
      |none=>rw[hv] at h1;cases h1
      |some v=>
       rw[hv] at h1
       replace h1:(Option.rec false (fun _=>true) (bOf v):Bool)=true:=h1
       cases hbv:bOf v with
       |none=>rw[hbv] at h1;cases h1
       |some bb=>
        have:=bOf_eq hbv
        subst this
        exact⟨y,h3,RJ.settle k0 p bb (by rw[hf];rfl) (by rw[hat];exact hv) (by rw[hat];exact h4)⟩
end
def ndS2 {Bn:Nat} (Ds:List Cl) (u:Us Bn) (nt:Nat) (hk:List Zv→Option (List Nat×List Nat)) (Fin:T AV→H→den ySrc→Bg→W) (ih:Cf→den ySrc→Bg→W) (q:Cf) (σ:den ySrc) (m:Bg):W:=match q.c with
 |.region _ ops false=>ndR2 Bn Ds u.C q.h.next hk (fun fr h σ m=>ih ⟨.skip,q.ks,fr,h⟩ σ m) 60 (rsOf Bn nt ops q.fr q.h) σ m
 |.region _ ops true=>cd (chkD (regN PP (GG Bn) nt ops) ops.toList (predsGo ops.toList []) (regL PP (GG Bn) nt ops))
  (ndV Bn Ds u.C.call q.h.next (regN PP (GG Bn) nt ops) (fun fr h σ m=>ih ⟨.skip,q.ks,fr,h⟩ σ m) 20 (drawOf (predsGo ops.toList []) (regL PP (GG Bn) nt ops)) ⟨q.fr,⟨⟨Nat.add q.h.next (regN PP (GG Bn) nt ops),q.h.t⟩,[]⟩,[],[],[]⟩ σ m) none
 |.loop b=>ih ⟨b,.un b 500::q.ks,q.fr,q.h⟩ σ m
 |_=>cd (endC q) (Fin q.fr q.h σ m) (Option.rec none (fun q'=>ih q' σ m) (stp u nt q))
def ndM2 {Bn:Nat} (Ds:List Cl) (u:Us Bn) (nt:Nat) (hk:List Zv→Option (List Nat×List Nat)) (Fin:T AV→H→den ySrc→Bg→W) (n:Nat):Cf→den ySrc→Bg→W:=
 Nat.rec (motive:=fun _=>Cf→den ySrc→Bg→W) (fun _ _ _=>none) (fun _ ih q σ m=>ndS2 Ds u nt hk Fin ih q σ m) n
section
variable {Bn nt:Nat}{u:Us Bn}{Ds:List Cl}{B:Int}{τ:Type}{R:τ→Prop}{E:τ→Ex→T AV→H→Prop}{Fin:T AV→H→den ySrc→Bg→W}
theorem ndM2_ok {hk:List Zv→Option (List Nat×List Nat)} (hL:∀z,(∀v∈z,Zok v)→∀p,hk z=some p→Nat.ble (Nat.add (U p.1) (U p.2)) 1099511627776=true) (hB:B≤1000000000) (hC:∀f d args h,clOf Ds f=some d→u.C.call f args h=ansC Bn d args h) (hD:∀d∈Ds,ClOk Bn d)
 (hF:∀fr h σ' m' e',Fin fr h σ' m'=some e'→Eqs e'→Src B m' σ'→∃y,R y∧∀ex,ex=.normal∨ex=.ret→E y ex fr h):∀(n:Nat){q:Cf}{σ:den ySrc}{m:Bg}{eqs:List Ob},
 ndM2 Ds u nt hk Fin n q σ m=some eqs→Eqs eqs→Src B m σ→∃y,R y∧GC Bn nt u E q y
 |0,_,_,_,_,h,_,_=>by cases h
 |n+1,q,σ,m,eqs,h,he,hs=>by
  obtain⟨c,ks,fr,hh⟩:=q
  have h0:ndS2 Ds u nt hk Fin (ndM2 Ds u nt hk Fin n) ⟨c,ks,fr,hh⟩ σ m=some eqs:=h
  have hrest:cd (endC ⟨c,ks,fr,hh⟩) (Fin fr hh σ m) (Option.rec none (fun q'=>ndM2 Ds u nt hk Fin n q' σ m) (stp u nt ⟨c,ks,fr,hh⟩))=some eqs→∃y,R y∧GC Bn nt u E ⟨c,ks,fr,hh⟩ y:=by
   intro h
   cases hend:endC ⟨c,ks,fr,hh⟩ with
   |true=>
    rw[hend] at h
    obtain⟨y,h1,h2⟩:=hF _ _ _ _ _ h he hs
    exact⟨y,h1,endC_of hend h2⟩
   |false=>
    rw[hend] at h
    replace h:(Option.rec none (fun q'=>ndM2 Ds u nt hk Fin n q' σ m) (stp u nt ⟨c,ks,fr,hh⟩):W)=some eqs:=h
    cases hst:stp u nt ⟨c,ks,fr,hh⟩ with
    |none=>rw[hst] at h;cases h
    |some q'=>
     rw[hst] at h
     obtain⟨y,h1,h2⟩:=ndM2_ok hL hB hC hD hF n (show ndM2 Ds u nt hk Fin n q' σ m=some eqs from h) he hs
     exact⟨y,h1,stp_ok hst h2⟩
  unfold ndS2 at h0
  split at h0
  ·rename_i rid ops hc
   replace hc:c=.region rid ops false:=hc
   subst hc
   obtain⟨y,h1,h2⟩:=ndR2_ok hL (R:=R) (Q:=fun fr h y=>GC Bn nt u E ⟨.skip,ks,fr,h⟩ y) hB hC hD (fun fr h σ' m' e' g1 g2 g3=>ndM2_ok hL hB hC hD hF n g1 g2 g3) 60 h0 he hs
   exact⟨y,h1,reg_of h2⟩
  ·rename_i rid ops hc
   replace hc:c=.region rid ops true:=hc
   subst hc
   obtain⟨g1,g2⟩:=cd_some h0
   obtain⟨y,h1,h2⟩:=ndV_ok (R:=R) (Q:=fun fr h y=>GC Bn nt u E ⟨.skip,ks,fr,h⟩ y) hB hC hD (fun fr h σ' m' e' g1 g2 g3=>ndM2_ok hL hB hC hD hF n g1 g2 g3) 20 g2 he hs
   exact⟨y,h1,Sat.dregS hmix u.ok g1 h2⟩
  ·rename_i b hc
   replace hc:c=.loop b:=hc
   subst hc
   obtain⟨y,h1,h2⟩:=ndM2_ok hL hB hC hD hF n h0 he hs
   exact⟨y,h1,zun (r:=501) (zu1 h2.S)⟩
  ·exact hrest h0
end
section
variable {Bn:Nat} [BOk Bn]
theorem ex12h {Ds:List Cl}{L:List Con}{hk:List Zv→Option (List Nat×List Nat)} (hK:∀z,(∀v∈z,Zok v)→∀p,hk z=some p→Nat.ble (Nat.add (U p.1) (U p.2)) 1099511627776=true) (hD:∀d∈Ds,ClOk Bn d) (hL:Okl Bn L) (f:Nat) (rs:List Par){code:den (.sl (.int .u8))} (hcode:allB code=true) (R:denL rs→Prop) (chk:denL rs→List Zv→Option (List Ob)) (hchk:∀y z l,chk y z=some l→Eqs l→(∀v∈z,Zok v)→R y)
 {fn:Func} (hf:PP.funcs[f]? =some fn) (m n:Nat)
 (hrun:∃eqs,(Option.rec none (fun q1=>ndM2 Ds (uX Ds L hD hL) fn.ntmps hk (finE (resF fn) rs chk) n q1 (code,J 0,J 0) ⟨1000,[]⟩) (detN (uX Ds L hD hL) fn.ntmps m ⟨bodyF fn,[],argsFrom (encL pCo (code,())) 0 .e,H0⟩):W)=some eqs∧Eqs eqs)
 (hcl:clWf Ds=true:=by kernel_rfl) (h12:clNo Ds 12=true:=by kernel_rfl) (hw:wfR rs=true:=by kernel_rfl) (hok:fOk pCo fn 0=true:=by kernel_rfl):∃y,R y∧KOk PP (GG Bn) f pCo rs (code,()) y:=by
 obtain⟨eqs,h4,h5⟩:=hrun
 cases hd:detN (uX Ds L hD hL) fn.ntmps m ⟨bodyF fn,[],argsFrom (encL pCo (code,())) 0 .e,H0⟩ with
 |none=>rw[hd] at h4;cases h4
 |some q1=>
  rw[hd] at h4
  obtain⟨y,hy1,hy⟩:=ndM2_ok hK (Bn:=Bn) (B:=1000) (R:=R) (E:=EndQ (resF fn) rs) (by decide)
   (fun f d args h hd=>by
    have hb:Nat.beq f 12=false:=by
     cases hb:Nat.beq f 12 with
     |false=>rfl
     |true=>obtain rfl:=Nq hb;exact(clNo_of h12 hd).elim
    exact(callX_no hb).trans (cl_call hcl hd)) hD (fun fr h σ' m' e' g1 g2 g3=>by
    unfold finE at g1
    cases hv:endV (resF fn) rs fr h with
    |none=>rw[hv] at g1;cases g1
    |some y=>
     rw[hv] at g1
     refine⟨y,hchk y m'.z e' g1 g2 g3.2,fun ex hex=>⟨hex,?_⟩⟩
     unfold endV at hv
     cases hr:resOf (resF fn) fr h with
     |none=>rw[hr] at hv;cases hv
     |some us=>rw[hr] at hv;exact⟨us,rfl,hv⟩) n (show ndM2 Ds (uX Ds L hD hL) fn.ntmps hk (finE (resF fn) rs chk) n q1 (code,J 0,J 0) ⟨1000,[]⟩=some eqs from h4) h5 ⟨⟨hcode,by show @LE.le Int _ 0 (J 0);decide,by show @LE.le Int _ ((0:Int)+((1000:Nat):Int)) 1000;omega⟩,fun v hv=>by cases hv⟩
  have hh:=xI (c:=⟨f,pCo,rs,fun _=>none⟩) (uX Ds L hD hL) hf (fun _ _=>detN_ok hy hd) hok
  unfold KC at hh
  exact⟨y,hy1,hh⟩
end
end Go.Ev
end
noncomputable section
namespace Go.Ev
open Go.Proofs
set_option maxRecDepth 100000
inductive CI where
 |c (d:Cl)
 |i (f:Nat)
def ciOf (Ds:List Cl) (In:List Nat) (f:Nat):Option CI:=Option.rec (cd (natIn f In) (some (.i f)) none) (fun d=>some (.c d)) (clOf Ds f)
def ciO (Ds:List Cl) (In:List Nat) (o:AO):Option CI:=Option.rec none (fun f=>ciOf Ds In f) (fnC o)
def idxC (Ds:List Cl) (In:List Nat) (l:List AO):Option (Nat×CI):=List.rec none (fun o _ ih=>Option.rec (Option.rec none (fun q=>some (Nat.succ q.1,q.2)) ih) (fun d=>some (0,d)) (ciO Ds In o)) l
def hasI (In:List Nat) (l:List AO):Bool:=List.rec false (fun o _ ih=>cd (Option.rec false (fun f=>natIn f In) (fnC o)) true ih) l
abbrev Walk:Type:=Nat→List AV→H→den ySrc→Bg→(AV→H→den ySrc→Bg→W)→W
def frR (x:FR) (K:T AV→H→W):W:=FR.rec none (fun fr h=>K fr h) x
def ciX (Bn:Nat) (wk:Walk) (ops:Array Oper) (s:Nat) (o:AO) (fr:T AV) (h:H) (σ:den ySrc) (m:Bg) (d:CI) (K:AV→H→den ySrc→Bg→W):W:=match d with
 |.c d=>clX Bn (cArg o.op fr) h σ m d K
 |.i f=>cd (calB f ops[s]?) (wk f (cArg o.op fr) h σ m K) none
def ndO (Bn:Nat) (Ds:List Cl) (In:List Nat) (call:CallF) (base:Nat) (ops:Array Oper) (wk:Walk) (K:T AV→H→den ySrc→Bg→W) (n:Nat):Nat→List AO→T AV→H→den ySrc→Bg→W:=
 Nat.rec (motive:=fun _=>Nat→List AO→T AV→H→den ySrc→Bg→W) (fun _ _ _ _ _ _=>none) (fun _ ih s l fr h σ m=>
  Option.rec (frR (evOps call base l fr h) (fun fr h=>K fr h σ m))
   (fun w=>cd (Nat.blt w.1 l.length) (frR (evOps call base (l.take w.1) fr h) (fun fr1 h1=>cd (isT (wanted (opA l w.1).g fr1))
    (ciX Bn wk ops (Nat.add s w.1) (opA l w.1) fr1 h1 σ m w.2 (fun v h2 σ m=>ih (Nat.add s (Nat.succ w.1)) (l.drop (w.1+1)) (setD (opA l w.1).dst v fr1) h2 σ m)) none)) none) (idxC Ds In l)) n
section
variable {Bn:Nat} [BOk Bn]{Ds:List Cl}{In:List Nat}{call:CallF}{base nt:Nat}{ops:Array Oper}{wk:Walk}{B:Int}{τ:Type}{R:τ→Prop}{Q:T AV→H→τ→Prop}{K:T AV→H→den ySrc→Bg→W}
theorem frR_some {x:FR}{K:T AV→H→W}{eqs:List Ob} (h:frR x K=some eqs):∃fr h',x=.ok fr h'∧K fr h'=some eqs:=by
 cases x with
 |no=>cases h
 |ok fr h'=>exact⟨fr,h',rfl,h⟩
theorem ciOf_c {f:Nat}{d:Cl} (h:ciOf Ds In f=some (.c d)):clOf Ds f=some d:=by
 unfold ciOf at h
 cases hc:clOf Ds f with
 |some d'=>rw[hc] at h;injection(Oi (show some (CI.c d')=some (.c d) from h)) with h;rw[h]
 |none=>
  rw[hc] at h
  replace h:cd (natIn f In) (some (CI.i f)) none=some (.c d):=h
  obtain⟨_,h⟩:=cd_some h
  cases h
theorem ciOf_i {f g:Nat} (h:ciOf Ds In f=some (.i g)):g=f:=by
 unfold ciOf at h
 cases hc:clOf Ds f with
 |some d'=>rw[hc] at h;cases(Oi (show some (CI.c d')=some (.i g) from h))
 |none=>
  rw[hc] at h
  replace h:cd (natIn f In) (some (CI.i f)) none=some (.i g):=h
  obtain⟨_,h⟩:=cd_some h
  injection(Oi h) with h
  exact h.symm
theorem idxC_eq:∀{l:List AO}{k:Nat}{d:CI},idxC Ds In l=some (k,d)→ciO Ds In (opA l k)=some d
 |[],_,_,h=>by cases h
 |o::l,k,d,h=>by
  have h:(Option.rec (Option.rec none (fun q=>some (Nat.succ q.1,q.2)) (idxC Ds In l)) (fun d=>some (0,d)) (ciO Ds In o):Option (Nat×CI))=some (k,d):=h
  cases hc:ciO Ds In o with
  |some c=>
   rw[hc] at h
   have h:=Oi h
   obtain⟨rfl,rfl⟩:=(by simpa using h:0=k∧c=d)
   exact hc
  |none=>
   rw[hc] at h
   cases hi:idxC Ds In l with
   |none=>rw[hi] at h;cases h
   |some q=>
    rw[hi] at h
    obtain⟨q1,q2⟩:=q
    have h:=Oi h
    obtain⟨rfl,rfl⟩:=(by simpa using h:q1+1=k∧q2=d)
    exact idxC_eq (l:=l) hi
theorem ciO_inv {o:AO}{d:CI} (h:ciO Ds In o=some d):∃f as_,o.op=.call f as_∧ciOf Ds In f=some d:=by
 unfold ciO fnC at h
 split at h
 ·rename_i f as_ ho
  exact⟨f,as_,ho,h⟩
 ·cases h
theorem evOps_one {o:AO}{f:Nat}{as_:List Od}{fr:T AV}{h h':H}{v:AV} (ho:o.op=.call f as_) (hw:wanted o.g fr=some true) (hv:call f (evs as_ fr) h=.ok v h'):evOps call base [o] fr h=.ok (setD o.dst v fr) h':=by
 show(Option.rec .no (fun b=>cd b (R.rec .no (fun v h'=>FR.ok (setD o.dst v fr) h') (evOp call o.op fr h (Nat.add base o.k))) (FR.ok (setD o.dst undefA fr) h)) (wanted o.g fr):FR)=_
 rw[hw,ho]
 show(R.rec .no (fun v h'=>FR.ok (setD o.dst v fr) h') (call f (evs as_ fr) h):FR)=_
 rw[hv]
def WkOk (Bn:Nat) (B:Int) (wk:Walk):Prop:=∀{τ:Type}{R:τ→Prop}{N:τ→AV→H→Prop}{f:Nat}{args:List AV}{h:H}{σ:den ySrc}{m:Bg}{K:AV→H→den ySrc→Bg→W}{eqs:List Ob},
 wk f args h σ m K=some eqs→Eqs eqs→Src B m σ→(∀v h' σ' m' e',K v h' σ' m'=some e'→Eqs e'→Src B m' σ'→∃y,R y∧N y v h')→
  ∃y,R y∧∃fn b res,PP.funcs[f]? =some fn∧(fn.name== "runtime.NumGoroutine")=false∧fn.body=some b∧compResL PP fn.results.toList=some res∧Nat.ble args.length fn.ntmps=true∧Sat PP (GG Bn) fn.ntmps b (argsFrom args 0 .e) h (EndI res (N y))
theorem ndO_ok (hB:B≤1000000000) (hk:CallOK PP (GG Bn) call) (hC:∀f d args h,clOf Ds f=some d→call f args h=ansC Bn d args h) (hD:∀d∈Ds,ClOk Bn d) (hW:WkOk Bn B wk)
 (hK:∀fr h σ' m' e',K fr h σ' m'=some e'→Eqs e'→Src B m' σ'→∃y,R y∧Q fr h y):∀(n:Nat){s:Nat}{l:List AO}{fr:T AV}{h:H}{σ:den ySrc}{m:Bg}{eqs:List Ob},
 ndO Bn Ds In call base ops wk K n s l fr h σ m=some eqs→Eqs eqs→Src B m σ→∃y,R y∧OpsW PP (GG Bn) nt ops base s l fr h (fun fr h=>Q fr h y)
 |0,_,_,_,_,_,_,_,h,_,_=>by cases h
 |n+1,s,l,fr,h,σ,m,eqs,hr,he,hs=>by
  have hr:(Option.rec (frR (evOps call base l fr h) (fun fr h=>K fr h σ m))
   (fun w=>cd (Nat.blt w.1 l.length) (frR (evOps call base (l.take w.1) fr h) (fun fr1 h1=>cd (isT (wanted (opA l w.1).g fr1))
    (ciX Bn wk ops (Nat.add s w.1) (opA l w.1) fr1 h1 σ m w.2 (fun v h2 σ m=>ndO Bn Ds In call base ops wk K n (Nat.add s (Nat.succ w.1)) (l.drop (w.1+1)) (setD (opA l w.1).dst v fr1) h2 σ m)) none)) none) (idxC Ds In l):W)=some eqs:=hr
  cases hi:idxC Ds In l with
  |none=>
   rw[hi] at hr
   obtain⟨fr1,h1,g1,g2⟩:=frR_some hr
   obtain⟨y,k1,k2⟩:=hK _ _ _ _ _ g2 he hs
   exact⟨y,k1,OpsW.run hk ⟨fr1,h1,g1,k2⟩ s⟩
  |some w=>
   obtain⟨k,d⟩:=w
   rw[hi] at hr
   obtain⟨hlt,hr⟩:=cd_some hr
   obtain⟨fr1,h1,g1,g2⟩:=frR_some hr
   obtain⟨hw,g2⟩:=cd_some g2
   have hci:=idxC_eq hi
   obtain⟨f,as_,hop,hcf⟩:=ciO_inv hci
   have hcar:cArg (opA l k).op fr1=evs as_ fr1:=by rw[hop];rfl
   have hsplit:l=l.take k++l.drop k:=(Ly k l).symm
   have hlen:(l.take k).length=k:=by rw[Tk,Nat.min_eq_left (Nat.le_of_lt (Nat.lt_of_succ_le (Nb hlt)))]
   have fin:∀{y:τ},OpsW PP (GG Bn) nt ops base (s+k) (l.drop k) fr1 h1 (fun fr h=>Q fr h y)→OpsW PP (GG Bn) nt ops base s l fr h (fun fr h=>Q fr h y):=fun{y} h2=>by
    rw[hsplit]
    exact OpsW.app hk h2 (l.take k) s fr h (by rw[hlen]) g1
   cases d with
   |c d=>
    replace g2:clX Bn (cArg (opA l k).op fr1) h1 σ m d (fun v h2 σ m=>ndO Bn Ds In call base ops wk K n (Nat.add s (Nat.succ k)) (l.drop (k+1)) (setD (opA l k).dst v fr1) h2 σ m)=some eqs:=g2
    have hdo:=ciOf_c hcf
    obtain⟨v,h',σ',m',e',a1,a2,a3,a4⟩:=clX_ok hB (hD _ (clOf_mem hdo).1) g2 he hs
    obtain⟨y,k1,k2⟩:=ndO_ok hB hk hC hD hW hK n a2 a3 a4
    refine⟨y,k1,fin ?_⟩
    rw[opA_drop hlt]
    have hv:call f (evs as_ fr1) h1=.ok v h':=by rw[hC f d _ _ hdo,←hcar];exact a1
    exact OpsW.app (l2:=l.drop (k+1)) hk k2 [opA l k] (s+k) fr1 h1 rfl (evOps_one hop (isT_eq hw) hv)
   |i f'=>
    obtain rfl:=ciOf_i hcf
    obtain⟨hcb,g2⟩:=cd_some (show cd (calB f' ops[Nat.add s k]?) (wk f' (cArg (opA l k).op fr1) h1 σ m (fun v h2 σ m=>ndO Bn Ds In call base ops wk K n (Nat.add s (Nat.succ k)) (l.drop (k+1)) (setD (opA l k).dst v fr1) h2 σ m)) none=some eqs from g2)
    obtain⟨o0,ho0,c,hop2,hcal⟩:=calB_inv hcb
    obtain⟨y,k1,fn,b,res,a1,a2,a3,a4,a5,a6⟩:=hW (R:=R) (N:=fun y v h'=>OpsW PP (GG Bn) nt ops base (s+k+1) (l.drop (k+1)) (setD (opA l k).dst v fr1) h' (fun fr h=>Q fr h y)) g2 he hs (fun v h' σ' m' e' b1 b2 b3=>ndO_ok hB hk hC hD hW hK n b1 b2 b3)
    refine⟨y,k1,fin ?_⟩
    rw[opA_drop hlt]
    rw[hcar] at a5 a6
    exact OpsW.inl hop ho0 hop2 hcal (isT_eq hw) rfl a1 a2 a3 a4 a5 a6
end
def wkG (go:Nat→(T AV→H→den ySrc→Bg→W)→Cf→den ySrc→Bg→W):Walk:=fun f args h σ m K=>
 Option.rec none (fun fn=>cd (cd (Nat.ble args.length fn.ntmps) (fOk [] fn 0) false) (go fn.ntmps (fun fr h σ m=>Option.rec none (fun us=>K (tupA us) h σ m) (resOf (resF fn) fr h)) ⟨bodyF fn,[],argsFrom args 0 .e,h⟩ σ m) none) (PP.funcs[f]?)
def ndIs {Bn:Nat} (Ds:List Cl) (In:List Nat) (u:Us Bn) (go:Nat→(T AV→H→den ySrc→Bg→W)→Cf→den ySrc→Bg→W) (nt:Nat) (Fin:T AV→H→den ySrc→Bg→W) (q:Cf) (σ:den ySrc) (m:Bg):W:=match q.c with
 |.region _ ops false=>cd (hasI In (regL PP (GG Bn) nt ops))
  (ndO Bn Ds In u.C.call q.h.next ops (wkG go) (fun fr h σ m=>go nt Fin ⟨.skip,q.ks,fr,h⟩ σ m) 20 0 (regL PP (GG Bn) nt ops) q.fr ⟨Nat.add q.h.next (regN PP (GG Bn) nt ops),q.h.t⟩ σ m)
  (ndR Bn Ds u.C q.h.next (fun fr h σ m=>go nt Fin ⟨.skip,q.ks,fr,h⟩ σ m) 60 (rsOf Bn nt ops q.fr q.h) σ m)
 |.region _ ops true=>cd (chkD (regN PP (GG Bn) nt ops) ops.toList (predsGo ops.toList []) (regL PP (GG Bn) nt ops))
  (ndV Bn Ds u.C.call q.h.next (regN PP (GG Bn) nt ops) (fun fr h σ m=>go nt Fin ⟨.skip,q.ks,fr,h⟩ σ m) 20 (drawOf (predsGo ops.toList []) (regL PP (GG Bn) nt ops)) ⟨q.fr,⟨⟨Nat.add q.h.next (regN PP (GG Bn) nt ops),q.h.t⟩,[]⟩,[],[],[]⟩ σ m) none
 |.loop b=>go nt Fin ⟨b,.un b 500::q.ks,q.fr,q.h⟩ σ m
 |_=>cd (endC q) (Fin q.fr q.h σ m) (Option.rec none (fun q'=>go nt Fin q' σ m) (stp u nt q))
def ndI {Bn:Nat} (Ds:List Cl) (In:List Nat) (u:Us Bn) (n:Nat):Nat→(T AV→H→den ySrc→Bg→W)→Cf→den ySrc→Bg→W:=
 Nat.rec (motive:=fun _=>Nat→(T AV→H→den ySrc→Bg→W)→Cf→den ySrc→Bg→W) (fun _ _ _ _ _=>none) (fun _ ih nt Fin q σ m=>ndIs Ds In u ih nt Fin q σ m) n
section
variable {Bn:Nat} [BOk Bn]{u:Us Bn}{Ds:List Cl}{In:List Nat}{B:Int}
def GoOk (Bn:Nat) (u:Us Bn) (B:Int) (go:Nat→(T AV→H→den ySrc→Bg→W)→Cf→den ySrc→Bg→W):Prop:=∀(nt:Nat) (τ:Type) (R:τ→Prop) (E:τ→Ex→T AV→H→Prop) (Fin:T AV→H→den ySrc→Bg→W)
    (_:∀fr h σ' m' e',Fin fr h σ' m'=some e'→Eqs e'→Src B m' σ'→∃y,R y∧∀ex,ex=.normal∨ex=.ret→E y ex fr h) (q:Cf) (σ:den ySrc) (m:Bg) (eqs:List Ob),
    go nt Fin q σ m=some eqs→Eqs eqs→Src B m σ→∃y,R y∧GC Bn nt u E q y
theorem wkG_ok {go:Nat→(T AV→H→den ySrc→Bg→W)→Cf→den ySrc→Bg→W} (hg:GoOk Bn u B go):WkOk Bn B (wkG go):=by
 intro τ R N f args h σ m K eqs hr he hs hK
 unfold wkG at hr
 cases hf:PP.funcs[f]? with
 |none=>rw[hf] at hr;cases hr
 |some fn=>
  rw[hf] at hr
  obtain⟨h1,hr⟩:=cd_some hr
  obtain⟨h7,h8⟩:=cd_true h1
  obtain⟨g1,g2⟩:=cd_true h8
  obtain⟨g2,g3⟩:=cd_true g2
  obtain⟨g3,g4⟩:=cd_true g3
  obtain⟨g4,g5⟩:=cd_true g4
  obtain⟨b,hb⟩:=isSm_eq g1
  obtain⟨res,hres⟩:=isSm_eq g2
  have e1:bodyF fn=b:=by unfold bodyF;rw[hb]
  have e2:resF fn=res:=by unfold resF;rw[hres]
  obtain⟨y,k1,k2⟩:=hg _ _ R (fun y=>EndI (resF fn) (N y)) _ (fun fr h σ' m' e' b1 b2 b3=>by
   cases hu:resOf (resF fn) fr h with
   |none=>rw[hu] at b1;cases b1
   |some us=>
    rw[hu] at b1
    obtain⟨y,c1,c2⟩:=hK _ _ _ _ _ (show K (tupA us) h σ' m'=some e' from b1) b2 b3
    exact⟨y,c1,fun ex hex=>⟨hex,us,hu,c2⟩⟩) _ _ _ _ hr he hs
  have hs2:=k2.S
  rw[e1] at hs2
  refine⟨y,k1,fn,b,res,rfl,by simpa using g5,hb,hres,h7,Sat.mono hs2 (fun ex fr' h' hq=>?_)⟩
  rw[e2] at hq
  exact hq
theorem cdW1 {a b:W}:cd true a b=a:=rfl
theorem cdW0 {a b:W}:cd false a b=b:=rfl
theorem ndI_ok (hB:B≤1000000000) (hC:∀f d args h,clOf Ds f=some d→u.C.call f args h=ansC Bn d args h) (hD:∀d∈Ds,ClOk Bn d):∀n:Nat,GoOk Bn u B (ndI Ds In u n)
 |0=>fun _ _ _ _ _ _ _ _ _ _ h _ _=>by cases h
 |n+1=>by
  intro nt τ R E Fin hF q σ m eqs h he hs
  have ih:=ndI_ok hB hC hD n
  obtain⟨c,ks,fr,hh⟩:=q
  have h0:ndIs Ds In u (ndI Ds In u n) nt Fin ⟨c,ks,fr,hh⟩ σ m=some eqs:=h
  have hrest:cd (endC ⟨c,ks,fr,hh⟩) (Fin fr hh σ m) (Option.rec none (fun q'=>ndI Ds In u n nt Fin q' σ m) (stp u nt ⟨c,ks,fr,hh⟩))=some eqs→∃y,R y∧GC Bn nt u E ⟨c,ks,fr,hh⟩ y:=by
   intro h
   cases hend:endC ⟨c,ks,fr,hh⟩ with
   |true=>
    rw[hend] at h
    obtain⟨y,h1,h2⟩:=hF _ _ _ _ _ h he hs
    exact⟨y,h1,endC_of hend h2⟩
   |false=>
    rw[hend] at h
    replace h:(Option.rec none (fun q'=>ndI Ds In u n nt Fin q' σ m) (stp u nt ⟨c,ks,fr,hh⟩):W)=some eqs:=h
    cases hst:stp u nt ⟨c,ks,fr,hh⟩ with
    |none=>rw[hst] at h;cases h
    |some q'=>
     rw[hst] at h
     obtain⟨y,h1,h2⟩:=ih _ _ R E _ hF _ _ _ _ (show ndI Ds In u n nt Fin q' σ m=some eqs from h) he hs
     exact⟨y,h1,stp_ok hst h2⟩
  unfold ndIs at h0
  split at h0
  ·rename_i rid ops hc
   replace hc:c=.region rid ops false:=hc
   subst hc
   cases hi:hasI In (regL PP (GG Bn) nt ops) with
   |true=>
    rw[hi] at h0
    replace h0:=cdW1.symm.trans h0
    obtain⟨y,h1,h2⟩:=ndO_ok (R:=R) (nt:=nt) (ops:=ops) (Q:=fun fr h y=>GC Bn nt u E ⟨.skip,ks,fr,h⟩ y) hB u.ok hC hD (wkG_ok ih) (fun fr h σ' m' e' g1 g2 g3=>ih _ _ R E _ hF _ _ _ _ g1 g2 g3) 20 h0 he hs
    exact⟨y,h1,Sat.regW (Q:=kQ Bn nt (E y) ks) hmix h2⟩
   |false=>
    rw[hi] at h0
    replace h0:=cdW0.symm.trans h0
    obtain⟨y,h1,h2⟩:=ndR_ok (R:=R) (Q:=fun fr h y=>GC Bn nt u E ⟨.skip,ks,fr,h⟩ y) hB hC hD (fun fr h σ' m' e' g1 g2 g3=>ih _ _ R E _ hF _ _ _ _ g1 g2 g3) 60 h0 he hs
    exact⟨y,h1,reg_of h2⟩
  ·rename_i rid ops hc
   replace hc:c=.region rid ops true:=hc
   subst hc
   obtain⟨g1,g2⟩:=cd_some h0
   obtain⟨y,h1,h2⟩:=ndV_ok (R:=R) (Q:=fun fr h y=>GC Bn nt u E ⟨.skip,ks,fr,h⟩ y) hB hC hD (fun fr h σ' m' e' g1 g2 g3=>ih _ _ R E _ hF _ _ _ _ g1 g2 g3) 20 g2 he hs
   exact⟨y,h1,Sat.dregS hmix u.ok g1 h2⟩
  ·rename_i b hc
   replace hc:c=.loop b:=hc
   subst hc
   obtain⟨y,h1,h2⟩:=ih _ _ R E _ hF _ _ _ _ h0 he hs
   exact⟨y,h1,zun (r:=501) (zu1 h2.S)⟩
  ·exact hrest h0
end
theorem ex12I {Bn:Nat} [BOk Bn]{Ds:List Cl}{L:List Con} (In:List Nat) (hD:∀d∈Ds,ClOk Bn d) (hL:Okl Bn L) (f:Nat) (rs:List Par){code:den (.sl (.int .u8))} (hcode:allB code=true) (R:denL rs→Prop) (chk:denL rs→List Zv→Option (List Ob)) (hchk:∀y z l,chk y z=some l→Eqs l→(∀v∈z,Zok v)→R y)
 {fn:Func} (hf:PP.funcs[f]? =some fn) (n:Nat)
 (hrun:∃eqs,ndI Ds In (uX Ds L hD hL) n fn.ntmps (finE (resF fn) rs chk) ⟨bodyF fn,[],argsFrom (encL pCo (code,())) 0 .e,H0⟩ (code,J 0,J 0) ⟨1000,[]⟩=some eqs∧Eqs eqs)
 (hcl:clWf Ds=true:=by kernel_rfl) (h12:clNo Ds 12=true:=by kernel_rfl) (hw:wfR rs=true:=by kernel_rfl) (hok:fOk pCo fn 0=true:=by kernel_rfl):∃y,R y∧KOk PP (GG Bn) f pCo rs (code,()) y:=by
 obtain⟨eqs,h4,h5⟩:=hrun
 obtain⟨y,hy1,hy⟩:=ndI_ok (Bn:=Bn) (B:=1000) (by decide)
  (fun f d args h hd=>by
   have hb:Nat.beq f 12=false:=by
    cases hb:Nat.beq f 12 with
    |false=>rfl
    |true=>obtain rfl:=Nq hb;exact(clNo_of h12 hd).elim
   exact(callX_no hb).trans (cl_call hcl hd)) hD n _ _ R (EndQ (resF fn) rs) _ (fun fr h σ' m' e' g1 g2 g3=>by
   unfold finE at g1
   cases hv:endV (resF fn) rs fr h with
   |none=>rw[hv] at g1;cases g1
   |some y=>
    rw[hv] at g1
    refine⟨y,hchk y m'.z e' g1 g2 g3.2,fun ex hex=>⟨hex,?_⟩⟩
    unfold endV at hv
    cases hr:resOf (resF fn) fr h with
    |none=>rw[hr] at hv;cases hv
    |some us=>rw[hr] at hv;exact⟨us,rfl,hv⟩) _ _ _ _ h4 h5 ⟨⟨hcode,by show @LE.le Int _ 0 (J 0);decide,by show @LE.le Int _ ((0:Int)+((1000:Nat):Int)) 1000;omega⟩,fun v hv=>by cases hv⟩
 have hh:=xI (c:=⟨f,pCo,rs,fun _=>none⟩) (uX Ds L hD hL) hf (fun _ _=>hy) hok
 unfold KC at hh
 exact⟨y,hy1,hh⟩
end Go.Ev
end
