/- A part of the proof that FnActWords returns true for every input and leaves its argument as it was; no condition. -/
import Derived.Test.YtccagicppnmelaaGreatDoorRg
import Derived.Test.YtccagicppnmelaaGreatDoorRh
import Derived.Test.YtccagicppnmelaaGreatDoorRi
import Derived.Test.YtccagicppnmelaaGreatDoorQa
set_option linter.all false
open List renaming length→U
open Int renaming ofNat→J,toNat→Jn
open Go.Ev
attribute [local irreducible] GC RJ KC KM cAt cOn runC stp brC bodyC cvC rsC rdC regC loopC endC skpC extC retC evJ RS.at RS.put RS.okS RS.okR RS.all RS.fst endV endVM grpA grpB grpR grpD grpO RunOps RunD bodyF resF argsFrom cArg
noncomputable section
namespace Go.Ev
open Go.Proofs
set_option maxRecDepth 100000
set_option maxHeartbeats 2000000
abbrev Bn:Nat:=1152921504606846976
instance bn_ok:BOk Bn:=⟨by decide,by decide⟩
open Classical in
def orc (f:Nat) (ps rs:List Par) (c:denL ps→denL rs):Con:=⟨f,ps,rs,fun x=>if KOk PP (GG Bn) f ps rs x (c x) then some (c x) else none⟩
theorem orc_ok {f:Nat}{ps rs:List Par}{c:denL ps→denL rs} (hw:wfR rs=true:=by kernel_rfl):OK Bn (orc f ps rs c):=⟨hw,fun x y hF=>by
 have hF:(open Classical in if KOk PP (GG Bn) f ps rs x (c x) then some (c x) else none)=some y:=hF
 by_cases h:KOk PP (GG Bn) f ps rs x (c x)
 ·rw[if_pos h] at hF;obtain rfl:=Oi hF;exact h
 ·rw[if_neg h] at hF;cases hF⟩
open Classical in
def c5 (a0:den (.sl (.int .u8))):denL pSites:=if h:∃y:denL pSites,Good1 Bn y.1∧KOk PP (GG Bn) 5 pCo pSites (a0,()) y then h.choose else dfR _
open Classical in
def c9 (a0:den (.sl (.int .u8))):denL pTx:=if h:∃y:denL pTx,Good2 Bn y.1∧KOk PP (GG Bn) 9 pCo pTx (a0,()) y then h.choose else dfR _
def KO5 (a0:den (.sl (.int .u8))):Prop:=KOk PP (GG Bn) 5 pCo pSites (a0,()) (c5 a0)
def KO9 (a0:den (.sl (.int .u8))):Prop:=KOk PP (GG Bn) 9 pCo pTx (a0,()) (c9 a0)
def KO6 (a:den y28):Prop:=KOk PP (GG Bn) 6 pSa pTx (a,()) (c6 a)
def KO7 (a:den y28):Prop:=KOk PP (GG Bn) 7 pSa pTx (a,()) (c7 a)
def KO8 (t:List Nat):Prop:=KOk PP (GG Bn) 8 pTx pRd (t,()) (c8 t)
def KO10 (t:List Nat):Prop:=KOk PP (GG Bn) 10 pTx pRd (t,()) (c10 t)
def k5:Con:=orc 5 pCo pSites fun x=>c5 x.1
theorem o5:OK Bn k5:=orc_ok
theorem p5 {a0:den (.sl (.int .u8))} (h:KO5 a0):k5.F (a0,())=some (c5 a0):=if_pos h
def k9:Con:=orc 9 pCo pTx fun x=>c9 x.1
theorem o9:OK Bn k9:=orc_ok
theorem p9 {a0:den (.sl (.int .u8))} (h:KO9 a0):k9.F (a0,())=some (c9 a0):=if_pos h
def k6o:Con:=orc 6 pSa pTx fun x=>c6 x.1
theorem o6o:OK Bn k6o:=orc_ok
theorem p6o {a0:den y28} (h:KO6 a0):k6o.F (a0,())=some (c6 a0):=if_pos h
def k7o:Con:=orc 7 pSa pTx fun x=>c7 x.1
theorem o7o:OK Bn k7o:=orc_ok
theorem p7o {a0:den y28} (h:KO7 a0):k7o.F (a0,())=some (c7 a0):=if_pos h
def k8o:Con:=orc 8 pTx pRd fun x=>c8 x.1
theorem o8o:OK Bn k8o:=orc_ok
theorem p8o {a0:List Nat} (h:KO8 a0):k8o.F (a0,())=some (c8 a0):=if_pos h
def k10o:Con:=orc 10 pTx pRd fun x=>c10 x.1
theorem o10o:OK Bn k10o:=orc_ok
theorem p10o {a0:List Nat} (h:KO10 a0):k10o.F (a0,())=some (c10 a0):=if_pos h
def c4 (a0:den (.sl (.int .u8))) (a1:den (.sl (.int .u8))):denL [⟨false,.bool⟩]:=((cd (!iLe (J (U a0)) (J 1048576)) true (!iLe (J (U a1)) (J 1048576))),())
def k4:Con:=⟨4,[⟨false,(.sl (.int .u8))⟩,⟨false,(.sl (.int .u8))⟩],[⟨false,.bool⟩],fun x=>some (c4 x.1 x.2.1)⟩
theorem t4 (a0:den (.sl (.int .u8))) (a1:den (.sl (.int .u8))):KC Bn k4 (a0,a1,()) (c4 a0 a1):=by
 refine xI (uL [] ok0) Tryz.func4 fun hbd hB=>?_
 exact xe 6
theorem o4:OK Bn k4:=xO fun x=>t4 _ _
def c3 (a0:den (.sl (.int .u8))):denL [⟨false,.bool⟩]:=(cd (c4 a0 []).1 (true,()) (cd (!sEq (c6 ((c5 a0).1)).1 (c7 ((c5 a0).1)).1) (false,()) (cd (cd (cd (!sEq (c6 ((c5 a0).1)).1 ([]:List Nat)) (cd (cd (!(c8 ((c6 ((c5 a0).1)).1)).2.1) true (!sEq (c6 ((c8 ((c6 ((c5 a0).1)).1)).1)).1 (c6 ((c5 a0).1)).1)) true (!iEq (c8 ((c6 ((c5 a0).1)).1)).1.1 (c5 a0).1.1)) false) true (cd (sEq (c6 ((c5 a0).1)).1 ([]:List Nat)) (c8 ((c6 ((c5 a0).1)).1)).2.1 false)) (false,()) ((cd (cd (c8 ((c9 a0).1)).2.1 (c10 ((c9 a0).1)).2.1 (!(c10 ((c9 a0).1)).2.1)) (cd (!(c8 ((c9 a0).1)).2.1) true (cd (sEq (c6 ((c8 ((c9 a0).1)).1)).1 (c9 a0).1) (c11 ((c8 ((c9 a0).1)).1)).1 false)) false),()))))
open Classical in
def k3:Con:=⟨3,[⟨false,(.sl (.int .u8))⟩],[⟨false,.bool⟩],fun x=>if KO5 x.1∧KO6 (c5 x.1).1∧KO7 (c5 x.1).1∧KO8 (c6 (c5 x.1).1).1∧((!(c8 (c6 (c5 x.1).1).1).2.1)=false→KO6 (c8 (c6 (c5 x.1).1).1).1)∧KO9 x.1∧KO8 (c9 x.1).1∧KO10 (c9 x.1).1∧((!(c8 (c9 x.1).1).2.1)=false→KO6 (c8 (c9 x.1).1).1) then some (c3 x.1) else none⟩
theorem t3 (a0:den (.sl (.int .u8))) (r0:KO5 a0) (r1:KO6 (c5 a0).1) (r2:KO7 (c5 a0).1) (r3:KO8 (c6 (c5 a0).1).1) (r4:((!(c8 (c6 (c5 a0).1).1).2.1)=false→KO6 (c8 (c6 (c5 a0).1).1).1)) (r5:KO9 a0) (r6:KO8 (c9 a0).1) (r7:KO10 (c9 a0).1) (r8:((!(c8 (c9 a0).1).2.1)=false→KO6 (c8 (c9 a0).1).1)):KC Bn k3 (a0,()) (c3 a0):=by
 refine xI (uL [k10o,k11,k4,k5,k6o,k7o,k8o,k9] (okC o10o (okC o11 (okC o4 (okC o5 (okC o6o (okC o7o (okC o8o (okC o9 ok0))))))))) Tryz.func3 fun hbd hB=>?_
 refine xc 7 (fun h1=>?_) fun h1=>?_
 exact xe 4
 refine xr 2 ?_
 have b2:U a0≤Bn:=hbd.1.1
 refine ycl 1 k5 (a0,()) (c5 a0) (p5 (by first|assumption|exact r4 (by assumption)|exact r8 (by assumption))) ?_
 refine yf ?_
 refine xr 2 ?_
 refine ycl 1 k6o ((c5 a0).1,()) (c6 ((c5 a0).1)) (p6o (by first|assumption|exact r4 (by assumption)|exact r8 (by assumption))) ?_
 refine yf ?_
 refine xr 3 ?_
 refine ycl 2 k7o ((c5 a0).1,()) (c7 ((c5 a0).1)) (p7o (by first|assumption|exact r4 (by assumption)|exact r8 (by assumption))) ?_
 refine yf ?_
 refine xc 1 (fun h3=>?_) fun h3=>?_
 exact xe 4
 refine xr 2 ?_
 refine ycl 1 k8o ((c6 ((c5 a0).1)).1,()) (c8 ((c6 ((c5 a0).1)).1)) (p8o (by first|assumption|exact r4 (by assumption)|exact r8 (by assumption))) ?_
 refine yf ?_
 refine xr 3 ?_
 refine yg 3 29 true (!sEq (c6 ((c5 a0).1)).1 ([]:List Nat)) (cd (cd (!(c8 ((c6 ((c5 a0).1)).1)).2.1) true (!sEq (c6 ((c8 ((c6 ((c5 a0).1)).1)).1)).1 (c6 ((c5 a0).1)).1)) true (!iEq (c8 ((c6 ((c5 a0).1)).1)).1.1 (c5 a0).1.1)) (fun h4=>?_) ?_
 refine yg 3 32 false (!(c8 ((c6 ((c5 a0).1)).1)).2.1) (!sEq (c6 ((c8 ((c6 ((c5 a0).1)).1)).1)).1 (c6 ((c5 a0).1)).1) (fun h5=>?_) ?_
 have g6:=len1_ofn h4
 refine ycl 1 k6o ((c8 ((c6 ((c5 a0).1)).1)).1,()) (c6 ((c8 ((c6 ((c5 a0).1)).1)).1)) (p6o (by first|assumption|exact r4 (by assumption)|exact r8 (by assumption))) ?_
 exact ya
 exact ya
 refine yf ?_
 refine xc 1 (fun h7=>?_) fun h7=>?_
 exact xe 4
 refine xr 2 ?_
 refine ycl 1 k9 (a0,()) (c9 a0) (p9 (by first|assumption|exact r4 (by assumption)|exact r8 (by assumption))) ?_
 refine yf ?_
 refine xr 2 ?_
 refine ycl 1 k8o ((c9 a0).1,()) (c8 ((c9 a0).1)) (p8o (by first|assumption|exact r4 (by assumption)|exact r8 (by assumption))) ?_
 refine yf ?_
 refine xr 2 ?_
 refine ycl 1 k10o ((c9 a0).1,()) (c10 ((c9 a0).1)) (p10o (by first|assumption|exact r4 (by assumption)|exact r8 (by assumption))) ?_
 refine yf ?_
 refine xr 2 ?_
 refine yg 4 68 true (cd (c8 ((c9 a0).1)).2.1 (c10 ((c9 a0).1)).2.1 (!(c10 ((c9 a0).1)).2.1)) (cd (!(c8 ((c9 a0).1)).2.1) true (cd (sEq (c6 ((c8 ((c9 a0).1)).1)).1 (c9 a0).1) (c11 ((c8 ((c9 a0).1)).1)).1 false)) (fun h8=>?_) ?_
 refine yg 3 71 false (!(c8 ((c9 a0).1)).2.1) (cd (sEq (c6 ((c8 ((c9 a0).1)).1)).1 (c9 a0).1) (c11 ((c8 ((c9 a0).1)).1)).1 false) (fun h9=>?_) ?_
 refine ycl 1 k6o ((c8 ((c9 a0).1)).1,()) (c6 ((c8 ((c9 a0).1)).1)) (p6o (by first|assumption|exact r4 (by assumption)|exact r8 (by assumption))) ?_
 exact ya
 exact ya
 refine yf ?_
 exact xe 1
theorem q5 {a0:den (.sl (.int .u8))} (h:∃y:denL pSites,Good1 Bn y.1∧KOk PP (GG Bn) 5 pCo pSites (a0,()) y):Good1 Bn (c5 a0).1∧KO5 a0:=by
 unfold KO5 c5
 rw[dif_pos h]
 exact h.choose_spec
theorem q9 {a0:den (.sl (.int .u8))} (h:∃y:denL pTx,Good2 Bn y.1∧KOk PP (GG Bn) 9 pCo pTx (a0,()) y):Good2 Bn (c9 a0).1∧KO9 a0:=by
 unfold KO9 c9
 rw[dif_pos h]
 exact h.choose_spec
theorem law_c3 {a0:den (.sl (.int .u8))} (h1:Good1 Bn (c5 a0).1) (h2:Good2 Bn (c9 a0).1):c3 a0=(true,()):=by
 obtain⟨_,_,e1,_,h1⟩:=h1
 obtain⟨_,_,e2,h2⟩:=h2
 have self:∀a:List Nat,sEq a a=true:=sEq_self
 have iself:∀a:Int,iEq a a=true:=fun a=>by rw[iEq_eq];simp
 unfold c3
 cases(c4 a0 []).1 with
 |true=>rfl
 |false=>
  rw[←e1,self]
  have hs:cd (cd (!sEq (c6 ((c5 a0).1)).1 ([]:List Nat)) (cd (cd (!(c8 ((c6 ((c5 a0).1)).1)).2.1) true (!sEq (c6 ((c8 ((c6 ((c5 a0).1)).1)).1)).1 (c6 ((c5 a0).1)).1)) true (!iEq (c8 ((c6 ((c5 a0).1)).1)).1.1 (c5 a0).1.1)) false) true (cd (sEq (c6 ((c5 a0).1)).1 ([]:List Nat)) (c8 ((c6 ((c5 a0).1)).1)).2.1 false)=false:=by
   rw[sEq_nil]
   rcases h1 with ⟨g1,g2⟩|⟨g1,g2,_,g3,g4⟩
   ·rw[g1,g2];rfl
   ·rw[g1,g2,g3,g4,self,iself];rfl
  have ht:cd (cd (c8 ((c9 a0).1)).2.1 (c10 ((c9 a0).1)).2.1 (!(c10 ((c9 a0).1)).2.1)) (cd (!(c8 ((c9 a0).1)).2.1) true (cd (sEq (c6 ((c8 ((c9 a0).1)).1)).1 (c9 a0).1) (c11 ((c8 ((c9 a0).1)).1)).1 false)) false=true:=by
   rw[←e2]
   cases hb:(c8 ((c9 a0).1)).2.1 with
   |false=>rfl
   |true=>
    obtain⟨_,g1,g2⟩:=h2 hb
    rw[g1,g2,self];rfl
  rw[hs,ht]
  rfl
theorem job_at:∀k:Nat,k<13→(Option.rec false (fun l=>allM (fun p=>cd (jobB1 l p) (jobB2 l p) false) argT) (nth l_lab k):Bool)=true
 |0,_=>job_0
 |1,_=>job_1
 |2,_=>job_2
 |3,_=>job_3
 |4,_=>job_4
 |5,_=>job_5
 |6,_=>job_6
 |7,_=>job_7
 |8,_=>job_8
 |9,_=>job_9
 |10,_=>job_10
 |11,_=>job_11
 |12,_=>job_12
 |k+13,h=>absurd h om
theorem nth_mem {α:Type}{x:α}:∀{l:List α},x∈l→∃k,k<l.length∧nth l k=some x
 |[],h=>by cases h
 |y::l,h=>by
  rcases List.mem_cons.1 h with rfl|h
  ·exact⟨0,Nat.succ_pos _,rfl⟩
  ·obtain⟨k,h1,h2⟩:=nth_mem h
   exact⟨k+1,Nat.succ_lt_succ h1,h2⟩
theorem job_all {l:List Nat} (hl:l∈l_lab){p:List Nat×List Nat} (hp:p∈argT):jobB1 l p=true∧jobB2 l p=true:=by
 obtain⟨k,h1,h2⟩:=nth_mem hl
 have h:=job_at k h1
 rw[h2] at h
 exact cd_true (allM_mem (p:=fun p=>cd (jobB1 l p) (jobB2 l p) false) h hp)
section
variable {B:Nat} [BOk B]
theorem jobA:JobA B:=fun l hl p hp=>by
 obtain⟨h1,h2⟩:=cd_true (show cd (gd1 (jobM l p.1 p.2 []).1) (allM (fun t=>gd1 (jobM l p.1 p.2 [t]).1) t3L) false=true from(job_all hl hp).1)
 exact⟨gd1_ok h1,fun t ht=>gd1_ok (allM_mem (p:=fun t=>gd1 (jobM l p.1 p.2 [t]).1) h2 ht)⟩
theorem crashA:CrashA B:=fun A hA K hK=>crash_good1 hA hK
theorem job_form {l:List Nat}{A:List (List Nat)} (hA:A∈l_arg):mainA (actO l A)=jobM l (arA A) (arB A) []:=by
 show mainA (actO l A)=mainA (actO l [arA A,arB A])
 rw[←(arg_ab hA).2]
theorem sitesA:SitesA B:=fun a ha=>by
 rcases sites_inv ha with h|⟨c,h1,h2⟩|⟨l,hl,A,hA,h2⟩
 ·have h3:=allM_mem oth_all h
  exact good1_of (cd_true (show cd (good1B a) (cd (good2B (c7 a).1) (allM (fun s=>good2B (cat (c7 a).1 s)) l_suf) false) false=true from h3)).1
 ·rcases crash_inv h1 with h|⟨n,g1,K,g2,g3⟩
  ·cases h
  ·obtain rfl:c=aCrash n K:=congrArg Prod.fst g3
   obtain rfl:a=(mainA (aCrash n K)).1:=congrArg Prod.fst h2
   exact crash_good1 g1 g2
 ·rw[job_form hA] at h2
  obtain rfl:a=(jobM l (arA A) (arB A) []).1:=congrArg Prod.fst h2
  exact(jobA l hl (arA A,arB A) (arg_ab hA).1).1
theorem sitesT:SitesT B:=fun a ha=>by
 rcases sites_inv ha with h|⟨c,h1,h2⟩|⟨l,hl,A,hA,h2⟩
 ·have h3:=allM_mem oth_all h
  obtain⟨_,h3⟩:=cd_true (show cd (good1B a) (cd (good2B (c7 a).1) (allM (fun s=>good2B (cat (c7 a).1 s)) l_suf) false) false=true from h3)
  obtain⟨h3,h4⟩:=cd_true h3
  exact⟨good2_of h3,fun s hs=>good2_of (allM_mem (p:=fun s=>good2B (cat (c7 a).1 s)) h4 hs)⟩
 ·rcases crash_inv h1 with h|⟨n,g1,K,g2,g3⟩
  ·cases h
  ·obtain rfl:c=aCrash n K:=congrArg Prod.fst g3
   obtain rfl:a=(mainA (aCrash n K)).1:=congrArg Prod.fst h2
   exact crash_texts g1 g2
 ·rw[job_form hA] at h2
  obtain rfl:a=(jobM l (arA A) (arB A) []).1:=congrArg Prod.fst h2
  have h3:=(job_all hl (arg_ab hA).1).2
  obtain⟨h3,h4⟩:=cd_true (show cd (good2B (c7 (jobM l (arA A) (arB A) []).1).1) (allM (fun s=>good2B (cat (c7 (jobM l (arA A) (arB A) []).1).1 s)) l_suf) false=true from h3)
  exact⟨good2_of h3,fun s hs=>good2_of (allM_mem (p:=fun s=>good2B (cat (c7 (jobM l (arA A) (arB A) []).1).1 s)) h4 hs)⟩
theorem lenG {t:List Nat} (h:good2B t=true):U (α:=Nat) t≤1000:=by
 obtain⟨_,h⟩:=andL_c h
 obtain⟨h2,_⟩:=andL_c h
 obtain⟨h3,_⟩:=andL_c (show andL (Nat.ble (U (α:=Nat) t) 1000::_)=true from h2)
 exact Nb h3
theorem sitesLen:SitesL B:=fun a ha=>by
 rcases sites_inv ha with h|⟨c,h1,h2⟩|⟨l,hl,A,hA,h2⟩
 ·have h3:=allM_mem oth_all h
  obtain⟨_,h3⟩:=cd_true (show cd (good1B a) (cd (good2B (c7 a).1) (allM (fun s=>good2B (cat (c7 a).1 s)) l_suf) false) false=true from h3)
  exact lenG (cd_true h3).1
 ·rcases crash_inv h1 with h|⟨n,g1,K,g2,g3⟩
  ·cases h
  ·obtain rfl:c=aCrash n K:=congrArg Prod.fst g3
   obtain rfl:a=(mainA (aCrash n K)).1:=congrArg Prod.fst h2
   have hA:=num_of g1
   obtain⟨hK,hl,_,_⟩:=keep_num g2
   have h3:=(asB_tC hA hK hl).2
   rw[←c7_keep hA g2] at h3
   exact Nt h3 (by decide)
 ·rw[job_form hA] at h2
  obtain rfl:a=(jobM l (arA A) (arB A) []).1:=congrArg Prod.fst h2
  have h3:=(job_all hl (arg_ab hA).1).2
  obtain⟨h3,h4⟩:=cd_true (show cd (good2B (c7 (jobM l (arA A) (arB A) []).1).1) (allM (fun s=>good2B (cat (c7 (jobM l (arA A) (arB A) []).1).1 s)) l_suf) false=true from h3)
  exact lenG h3
end
theorem law_true {code:den (.sl (.int .u8))} (h:allB code=true):KOk PP (GG Bn) 3 pCo pBl (code,()) (true,()):=by
 obtain⟨g1,k5⟩:=q5 (ex5 crashA jobA h)
 obtain⟨g2,k9⟩:=q9 (ex9 sitesA sitesT sitesLen h)
 have t:=t3 code k5 g1.1 g1.2.1 g1.2.2.2.1 (fun hb=>?_) k9 g2.1 g2.2.1 (fun hb=>(g2.2.2.2 (by simpa using hb)).1)
 ·unfold KC at t
  rw[law_c3 g1 g2] at t
  exact t
 ·rcases g1.2.2.2.2 with ⟨_,e⟩|⟨_,_,e,_⟩
  ·rw[e] at hb;cases hb
  ·exact e
end Go.Ev
end
