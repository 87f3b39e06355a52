/- A part of the proof that FnActWords returns true for every input and leaves its argument as it was; no condition. -/
import Derived.Test.YtccagicppnmelaaGreatDoorRf
import Derived.Test.YtccagicppnmelaaGreatDoorQl
import Derived.Test.YtccagicppnmelaaGreatDoorQa
set_option linter.all false
open List renaming length→U
open Int renaming ofNat→J,toNat→Jn
open Go.Ev
attribute [local irreducible] GC RJ KC KM cAt cOn runC stp brC bodyC cvC rsC rdC regC loopC endC skpC extC retC evJ RS.at RS.put RS.okS RS.okR RS.all RS.fst endV endVM grpA grpB grpR grpD grpO RunOps RunD bodyF resF argsFrom cArg
noncomputable section
namespace Go.Ev
open Go.Proofs
set_option maxRecDepth 100000
section
variable {Bn:Nat} [BOk Bn]
def dSuf:Dr:={dText with ch:=fun _=>each (List Nat) l_suf,ob:=some (l_suf,()),en:=fun _=>[],sy:=fun _=>[(fun y=>y,fun y=>[.suf y.1])]}
theorem each_inv {α:Type}{y:α×Unit}:∀{l:List α},y∈each α l→y.1∈l
 |[],h=>by cases h
 |x::l,h=>by
  rcases List.mem_cons.1 h with rfl|h
  ·exact Mc ..
  ·exact Lo _ (each_inv h)
theorem dSuf_ok:DrOk Bn dSuf:=by
 refine⟨⟨kr,fun x y hy=>.inr ⟨_,List.mem_singleton.2 rfl,rfl,fun v hv=>by obtain rfl:=List.mem_singleton.1 hv;exact each_inv hy⟩⟩,fun x0 x h1 h2 h3 hne hat hos=>?_⟩
 have hx:x=(l_suf,()):=hat _ rfl
 subst hx
 exact(dText_ok (Bn:=Bn)).2 x0 (l_suf,()) h1 h2 h3 hne (fun w hw=>by cases hw) (fun w hw=>by cases hw)
def o7b (x:denL pSa) (z:List Zv):Option (List Ob):=match z with
 |[.sit a]=>some [obL pSa x (a,())]
 |_=>none
def f7s (Bn:Nat):Fs:=⟨7,pSa,pTx,fun x=>KOk PP (GG Bn) 7 pSa pTx x (c7 x.1),fun x=>c7 x.1,o7b⟩
def SitesA (Bn:Nat):Prop:=∀a,((a,()):denL pSites)∈sitesL→Good1 Bn a
def SitesT (Bn:Nat):Prop:=∀a,((a,()):denL pSites)∈sitesL→Good2 Bn (c7 a).1∧∀s∈l_suf,Good2 Bn (cat (c7 a).1 s)
theorem f7s_ok (hs:SitesA Bn):FsOk Bn (f7s Bn):=by
 refine⟨kr,fun x hx=>hx,fun x z o h he hz=>?_⟩
 replace h:o7b x z=some o:=h
 unfold o7b at h
 split at h
 ·rename_i a
  obtain rfl:=Oi h
  have hx:x=(a,()):=he (obL pSa x (a,())) (List.mem_singleton.2 rfl)
  subst hx
  exact(hs a (hz (.sit a) (List.mem_singleton.2 rfl))).2.1
 ·cases h
def chk9 (y:denL pTx) (z:List Zv):Option (List Ob):=match z with
 |[]=>oN (good2B y.1)
 |[.sit a]=>some [obL pTx y ((c7 a).1,())]
 |[.suf s,.sit a]=>some [obL pTx y (cat (c7 a).1 s,())]
 |_=>none
theorem chk9_ok (ht:SitesT Bn){y:denL pTx}{z:List Zv}{o:List Ob} (h:chk9 y z=some o) (he:Eqs o) (hz:∀v∈z,Zok v):Good2 Bn y.1:=by
 unfold chk9 at h
 split at h
 ·exact good2_of (oN_t h)
 ·rename_i a
  obtain rfl:=Oi h
  rw[show y=((c7 a).1,()) from he (obL pTx y ((c7 a).1,())) (List.mem_singleton.2 rfl)]
  exact(ht a (hz (.sit a) (List.mem_singleton.2 rfl))).1
 ·rename_i s a
  obtain rfl:=Oi h
  rw[show y=(cat (c7 a).1 s,()) from he (obL pTx y (cat (c7 a).1 s,())) (List.mem_singleton.2 rfl)]
  exact(ht a (hz (.sit a) (by simp))).2 s (hz (.suf s) (by simp))
 ·cases h
def SitesL (Bn:Nat):Prop:=∀a,((a,()):denL pSites)∈sitesL→U (α:=Nat) (c7 a).1≤1000
def hk9 (z:List Zv):Option (List Nat×List Nat):=match z with
 |[.suf s,.sit a]=>some ((c7 a).1,s)
 |_=>none
theorem hk9_ok (hl:SitesL Bn):∀z,(∀v∈z,Zok v)→∀p,hk9 z=some p→Nat.ble (Nat.add (U p.1) (U p.2)) 1099511627776=true:=fun z hz p h=>by
 unfold hk9 at h
 split at h
 ·rename_i s a
  obtain rfl:=Oi h
  have h1:=hl a (hz (.sit a) (by simp))
  have h2:s∈l_suf:=hz (.suf s) (by simp)
  have h3:s.length≤3:=by
   have:s=[32]∨s=[32,48]∨s=[32,105,110]∨s=[120]:=by simpa[l_suf] using h2
   rcases this with rfl|rfl|rfl|rfl<;>decide
  exact Nc (show U (α:=Nat) (c7 a).1+s.length≤1099511627776 by omega)
 ·cases h
theorem ex9 (hs:SitesA Bn) (ht:SitesT Bn) (hl:SitesL Bn){code:den (.sl (.int .u8))} (h:allB code=true):∃y:denL pTx,Good2 Bn y.1∧KOk PP (GG Bn) 9 pCo pTx (code,()) y:=
 ex12h (hk:=hk9) (hk9_ok hl) (Ds:=[.dr dOne,.dr dSome,.dr dFresh,.dr dSitesO,.fs (f7s Bn),.dr dSuf]) (clD dOne_ok (clD dSome_ok (clD dFresh_ok (clD dSitesO_ok (clS (f7s_ok hs) (clD dSuf_ok cl0)))))) ok0 9 pTx h (fun y=>Good2 Bn y.1) chk9 (fun y z l h he hz=>chk9_ok ht h he hz) Tryz.func9 0 400 (w_ok kr kr)
end
end Go.Ev
end
