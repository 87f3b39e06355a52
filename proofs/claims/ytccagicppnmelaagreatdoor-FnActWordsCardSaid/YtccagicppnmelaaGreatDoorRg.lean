/- A part of the proof that FnActWords returns true for every input and leaves its argument as it was; no condition. -/
import Derived.Test.YtccagicppnmelaaGreatDoorRf
import Derived.Test.YtccagicppnmelaaGreatDoorQa
set_option linter.all false
open List renaming length→U
open Int renaming ofNat→J,toNat→Jn
open Go.Ev
attribute [local irreducible] GC RJ KC KM cAt cOn runC stp brC bodyC cvC rsC rdC regC loopC endC skpC extC retC evJ RS.at RS.put RS.okS RS.okR RS.all RS.fst endV endVM grpA grpB grpR grpD grpO RunOps RunD bodyF resF argsFrom cArg
noncomputable section
namespace Go.Ev
open Go.Proofs
set_option maxRecDepth 100000
section
variable {Bn:Nat} [BOk Bn]
def dF1 (w:den ySrc) (y:denL pSite):Dr:=⟨14,[],pSite,200,fun _=>[y],none,some w,fun _=>[y],fun _=>[]⟩
theorem dF1_ok {w:den ySrc}{y:denL pSite} (h:∃q:den ySrc×denL pSite,q.2=y∧Adv 200 w q.1∧KOkM PP (GG Bn) 14 none 99 ySrc [] pSite w () q.1 q.2):DrOk Bn (dF1 w y):=by
 refine⟨⟨kr,drEn0 fun _=>rfl⟩,fun x0 x _ _ _ _ _ hos=>?_⟩
 have e:x0=w:=hos w rfl
 subst e
 obtain⟨q,g1,g2,g3⟩:=h
 exact⟨q,List.mem_singleton.2 g1,g2,g3⟩
abbrev s0 (code:den (.sl (.int .u8))):den ySrc:=(code,J 0,J 0)
theorem fresh_at {code:den (.sl (.int .u8))} (h:allB code=true):∃y:denL pSite,(∃q:den ySrc×denL pSite,q.2=y∧Adv 200 (s0 code) q.1∧KOkM PP (GG Bn) 14 none 99 ySrc [] pSite (s0 code) () q.1 q.2)∧((∃l A,y=fr1 l A)∨∃p q,y=fr2 p q):=by
 obtain⟨q,g1,g2,g3⟩:=(dFresh_ok (Bn:=Bn)).2 (s0 code) () h (by show @LE.le Int _ 0 (J 0);decide) (by show @LE.le Int _ ((0:Int)+((200:Nat):Int)) 1000000000;omega) (fun h=>by
  have:([]:List (denL pSite))≠[]:=fun _=>by
   have hm:fr1 [65,68,68] [[49],[49]]∈freshL:=prd_mem (f:=fr1) (show[[49],[49]]∈l_arg from Mc ..) (show[65,68,68]∈l_lab from Mc ..)
   rw[show freshL=[] from h] at hm
   cases hm
  exact this rfl) (fun w hw=>by cases hw) (fun w hw=>by cases hw)
 refine⟨q.2,⟨q,rfl,g2,g3⟩,?_⟩
 rcases prd_inv (show q.2∈prd l_lab l_arg fr1 (prd l_la l_la fr2 []) from g1) with h|⟨l,_,A,_,e⟩
 ·rcases prd_inv h with h|⟨p,_,p',_,e⟩
  ·cases h
  ·exact .inr ⟨p,p',e⟩
 ·exact .inl ⟨l,A,e⟩
theorem ex5a (hc:CrashA Bn) (hj:JobA Bn){code:den (.sl (.int .u8))} (h:allB code=true){l:List Nat}{A:List (List Nat)} (hf:DrOk Bn (dF1 (s0 code) (fr1 l A))):∃y:denL pSites,Good1 Bn y.1∧KOk PP (GG Bn) 5 pCo pSites (code,()) y:=
 ex12I (Ds:=[.dr (dF1 (s0 code) (fr1 l A)),.dr dPickI,.dr dAmong,.dr dOne,.dr dLabelS,.dr dIdF,.dr dText]) [13,38,43,69] (clD hf (clD dPickI_ok (clD dAmong_ok (clD dOne_ok (clD dLabelS_ok (clD dIdF_ok (clD dText_ok cl0))))))) (okC o70 ok0) 5 pSites h (fun y=>Good1 Bn y.1) chk5 (fun y z l h he hz=>chk5_ok hc hj h he hz) Tryz.func5 400 (w_ok kr kr)
end
end Go.Ev
end
noncomputable section
namespace Go.Ev
open Go.Proofs
set_option maxRecDepth 100000
section
variable {Bn:Nat} [BOk Bn]
theorem ex5b (hc:CrashA Bn) (hj:JobA Bn){code:den (.sl (.int .u8))} (h:allB code=true){p q:List Nat×List (List Nat)} (hf:DrOk Bn (dF1 (s0 code) (fr2 p q))):∃y:denL pSites,Good1 Bn y.1∧KOk PP (GG Bn) 5 pCo pSites (code,()) y:=
 ex12I (Ds:=[.dr (dF1 (s0 code) (fr2 p q)),.dr dPickI,.dr dAmong,.dr dOne,.dr dLabelS,.dr dIdF,.dr dText]) [13,38,43,69] (clD hf (clD dPickI_ok (clD dAmong_ok (clD dOne_ok (clD dLabelS_ok (clD dIdF_ok (clD dText_ok cl0))))))) (okC o70 ok0) 5 pSites h (fun y=>Good1 Bn y.1) chk5 (fun y z l h he hz=>chk5_ok hc hj h he hz) Tryz.func5 400 (w_ok kr kr)
theorem ex5 (hc:CrashA Bn) (hj:JobA Bn){code:den (.sl (.int .u8))} (h:allB code=true):∃y:denL pSites,Good1 Bn y.1∧KOk PP (GG Bn) 5 pCo pSites (code,()) y:=by
 obtain⟨y,h1,h2⟩:=fresh_at (Bn:=Bn) h
 rcases h2 with ⟨l,A,rfl⟩|⟨p,q,rfl⟩
 ·exact ex5a hc hj h (dF1_ok h1)
 ·exact ex5b hc hj h (dF1_ok h1)
end
end Go.Ev
end
