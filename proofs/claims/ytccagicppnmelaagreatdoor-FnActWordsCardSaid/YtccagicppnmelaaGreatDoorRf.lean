/- A part of the proof that FnActWords returns true for every input and leaves its argument as it was; no condition. -/
import Derived.Test.YtccagicppnmelaaGreatDoorRe
import Derived.Test.YtccagicppnmelaaGreatDoorQl
import Derived.Test.YtccagicppnmelaaGreatDoorQa
set_option linter.all false
open List renaming length→U
open Int renaming ofNat→J,toNat→Jn
open Go.Ev
attribute [local irreducible] GC RJ KC KM cAt cOn runC stp brC bodyC cvC rsC rdC regC loopC endC skpC extC retC evJ RS.at RS.put RS.okS RS.okR RS.all RS.fst endV endVM grpA grpB grpR grpD grpO RunOps RunD bodyF resF argsFrom cArg
noncomputable section
namespace Go.Ev
open Go.Proofs
set_option maxRecDepth 100000
section
variable {Bn:Nat} [BOk Bn]
theorem good1_of {a:den y28} (h:good1B a=true):Good1 Bn a:=by
 obtain⟨h1,h⟩:=andL_c h
 obtain⟨h2,h⟩:=andL_c h
 obtain⟨h3,h⟩:=andL_c h
 obtain⟨h4,h⟩:=andL_c h
 obtain⟨h5,h⟩:=andL_c h
 refine⟨kok6 h1,kok7 h2,sEq_t h3,kok8 h4,?_⟩
 cases hb:isNilB (c6 a).1 with
 |true=>rw[hb] at h5;exact .inl ⟨rfl,by simpa using(show(!(c8 (c6 a).1).2.1)=true from h5)⟩
 |false=>
  rw[hb] at h5
  obtain⟨g1,g⟩:=andL_c (show andL [(c8 (c6 a).1).2.1,pre6B (c8 (c6 a).1).1,sEq (c6 (c8 (c6 a).1).1).1 (c6 a).1,iEq (c8 (c6 a).1).1.1 a.1]=true from h5)
  obtain⟨g2,g⟩:=andL_c g
  obtain⟨g3,g⟩:=andL_c g
  obtain⟨g4,g⟩:=andL_c g
  exact .inr ⟨rfl,g1,kok6 g2,sEq_t g3,iEq_t g4⟩
theorem good1_no {a:den y28} (h1:(c17 a).1=false) (h2:(c11 a).1=false):Good1 Bn a:=by
 have e6:c6 a=([],()):=by unfold c6;rw[h1];kernel_rfl
 have e7:c7 a=([],()):=by unfold c7;rw[h2];kernel_rfl
 have g6:KOk PP (GG Bn) 6 pSa pTx (a,()) (c6 a):=by rw[e6];exact kok6n h1
 have g7:KOk PP (GG Bn) 7 pSa pTx (a,()) (c7 a):=by rw[e7];exact kok7n h2
 have e:(c6 a).1=[]:=by rw[e6]
 refine⟨g6,g7,by rw[e6,e7],?_,.inl ?_⟩
 ·rw[e];exact kok8 kr
 ·rw[e];exact⟨rfl,kr⟩
def noB (a:den y28):Bool:=cd (c17 a).1 false (!(c11 a).1)
def gd1 (a:den y28):Bool:=cd (c17 a).1 (good1B a) (!(c11 a).1)
theorem noB_ok {a:den y28} (h:noB a=true):Good1 Bn a:=by
 unfold noB at h
 cases hc:(c17 a).1 with
 |true=>rw[hc] at h;cases h
 |false=>rw[hc] at h;exact good1_no hc (by simpa using(show(!(c11 a).1)=true from h))
theorem gd1_ok {a:den y28} (h:gd1 a=true):Good1 Bn a:=by
 unfold gd1 at h
 cases hc:(c17 a).1 with
 |true=>rw[hc] at h;exact good1_of h
 |false=>rw[hc] at h;exact good1_no hc (by simpa using(show(!(c11 a).1)=true from h))
theorem good2_of {t:List Nat} (h:good2B t=true):Good2 Bn t:=by
 obtain⟨h1,h⟩:=andL_c h
 obtain⟨h2,h⟩:=andL_c h
 obtain⟨h3,h⟩:=andL_c h
 refine⟨kok8 h1,kok10 h2,?_⟩
 cases hb:(c8 t).2.1 with
 |false=>rw[hb] at h3;exact⟨by simpa using(show(!(c10 t).2.1)=true from h3),fun h=>by cases h⟩
 |true=>
  rw[hb] at h3
  obtain⟨g0,g⟩:=cd_true (show cd (c10 t).2.1 (andL [pre6B (c8 t).1,sEq (c6 (c8 t).1).1 t,(c11 (c8 t).1).1]) false=true from h3)
  obtain⟨g1,g⟩:=andL_c g
  obtain⟨g2,g⟩:=andL_c g
  obtain⟨g3,g⟩:=andL_c g
  exact⟨g0.symm,fun _=>⟨kok6 g1,sEq_t g2,g3⟩⟩
def geP (k:Nat) (y:denL pInt):denL pInt:=(J (Nat.add (Nat.sub (Jn y.1) k) k),())
theorem geP_eq {k:Nat}{y:denL pInt} (h:@LE.le Int _ ((k:Nat):Int) y.1):y=geP k y:=by
 obtain⟨v,u⟩:=y
 have h:@LE.le Int _ ((k:Nat):Int) v:=h
 show(v,u)=(J (Jn v - k+k),())
 have:(J (Jn v - k+k):Int)=v:=by show((Jn v - k+k:Nat):Int)=v;omega
 rw[this]
def cst (k:Nat) (_:denL pInt):denL pInt:=(J k,())
def isP (x:denL pInt) (n:Nat):Bool:=iEq x.1 (.ofNat n)
def pkE (x:denL pInt):List (denL pInt):=cd (isP x 200) [] (cd (isP x 2) [] (cd (isP x 10) (upTo (J3)) (cd (isP x 16) [] (cd (isP x 14) (upTo (J10)) (upTo x.1)))))
def pk16:List ((denL pInt→denL pInt)×(denL pInt→List Zv)):=[(cst 0,fun _=>[.pw]),(cst 1,fun _=>[.pw]),(cst 2,fun _=>[.pw]),(cst 3,fun _=>[.pw]),(cst 4,fun _=>[.pw]),(cst 5,fun _=>[.pw]),(geP 6,fun _=>[.pw])]
theorem pk16_0:((cst 0,fun _=>[.pw]):(denL pInt→denL pInt)×(denL pInt→List Zv))∈pk16:=Mc ..
theorem pk16_1:((cst 1,fun _=>[.pw]):(denL pInt→denL pInt)×(denL pInt→List Zv))∈pk16:=Lo _ (Mc ..)
theorem pk16_2:((cst 2,fun _=>[.pw]):(denL pInt→denL pInt)×(denL pInt→List Zv))∈pk16:=Lo _ (Lo _ (Mc ..))
theorem pk16_3:((cst 3,fun _=>[.pw]):(denL pInt→denL pInt)×(denL pInt→List Zv))∈pk16:=Lo _ (Lo _ (Lo _ (Mc ..)))
theorem pk16_4:((cst 4,fun _=>[.pw]):(denL pInt→denL pInt)×(denL pInt→List Zv))∈pk16:=Lo _ (Lo _ (Lo _ (Lo _ (Mc ..))))
theorem pk16_5:((cst 5,fun _=>[.pw]):(denL pInt→denL pInt)×(denL pInt→List Zv))∈pk16:=Lo _ (Lo _ (Lo _ (Lo _ (Lo _ (Mc ..)))))
theorem pk16_6:((geP 6,fun _=>[.pw]):(denL pInt→denL pInt)×(denL pInt→List Zv))∈pk16:=Lo _ (Lo _ (Lo _ (Lo _ (Lo _ (Lo _ (Mc ..))))))
def pkS (x:denL pInt):List ((denL pInt→denL pInt)×(denL pInt→List Zv)):=cd (isP x 200) [(fun y=>y,fun y=>[.int y.1])] (cd (isP x 2) [(fun y=>y,fun y=>[.bit y.1])] (cd (isP x 10) [(geP 3,fun _=>[])] (cd (isP x 16) pk16 (cd (isP x 14) [(geP 10,fun y=>[.ge (geP 10 y).1])] []))))
def dPickI:Dr:={dPick with en:=pkE,sy:=pkS}
theorem isP_eq {x:denL pInt}{n:Nat} (h:isP x n=true):x.1=J n:=iEq_t h
theorem upTo_inv {n:Nat}{y:denL pInt} (h:y∈upTo (.ofNat n)):@LE.le Int _ 0 y.1∧@LT.lt Int _ y.1 ((n:Nat):Int):=by
 induction n with
 |zero=>cases h
 |succ n ih=>
  rcases List.mem_cons.1 h with rfl|h
  ·exact⟨by show(0:Int)≤((n:Nat):Int);omega,by show((n:Nat):Int)<((n+1:Nat):Int);omega⟩
  ·have:=ih h;exact⟨this.1,by have h2:=this.2;show @LT.lt Int _ y.1 (((n+1:Nat)):Int);omega⟩
theorem upTo_of {n:Nat}{y:denL pInt} (h0:@LE.le Int _ 0 y.1) (h1:@LT.lt Int _ y.1 ((n:Nat):Int)):y∈upTo (.ofNat n):=upTo_mem (n:=.ofNat n) (v:=y.1) h0 h1
theorem dPickI_ok:DrOk Bn dPickI:=dr_sy dPick_ok fun x y hy=>by
 replace hy:y∈upTo x.1:=hy
 show y∈pkE x∨∃p∈pkS x,y=p.1 y∧∀v∈p.2 y,Zok v
 unfold pkE pkS
 cases h1:isP x 200 with
 |true=>
  rw[isP_eq h1] at hy
  exact .inr ⟨_,List.mem_singleton.2 rfl,rfl,fun v hv=>by obtain rfl:=List.mem_singleton.1 hv;exact up_upDn hy⟩
 |false=>
  cases h2:isP x 2 with
  |true=>
   rw[isP_eq h2] at hy
   obtain⟨g1,g2⟩:=upTo_inv hy
   refine .inr ⟨_,List.mem_singleton.2 rfl,rfl,fun v hv=>?_⟩
   obtain rfl:=List.mem_singleton.1 hv
   show y.1=J 0∨y.1=J 1
   rcases(show @Eq Int y.1 0∨@Eq Int y.1 1 by omega) with h|h
   ·exact .inl h
   ·exact .inr h
  |false=>
   cases h3:isP x 10 with
   |true=>
    rw[isP_eq h3] at hy
    obtain⟨g1,g2⟩:=upTo_inv hy
    by_cases h:@LT.lt Int _ y.1 3
    ·exact .inl (upTo_of g1 h)
    ·exact .inr ⟨_,List.mem_singleton.2 rfl,geP_eq (k:=3) om,fun v hv=>by cases hv⟩
   |false=>
    cases h4:isP x 16 with
    |true=>
     rw[isP_eq h4] at hy
     obtain⟨g1,g2⟩:=upTo_inv hy
     have pw:∀v∈([.pw]:List Zv),Zok v:=fun v hv=>by obtain rfl:=List.mem_singleton.1 hv;trivial
     have ec:∀k:Nat,@Eq Int y.1 ((k:Nat):Int)→y=cst k y:=fun k h=>Prod.ext h rfl
     right
     rcases(show @Eq Int y.1 ((0:Nat):Int)∨@Eq Int y.1 ((1:Nat):Int)∨@Eq Int y.1 ((2:Nat):Int)∨@Eq Int y.1 ((3:Nat):Int)∨@Eq Int y.1 ((4:Nat):Int)∨@Eq Int y.1 ((5:Nat):Int)∨@LE.le Int _ ((6:Nat):Int) y.1 by omega) with h|h|h|h|h|h|h
     ·exact⟨(cst 0,fun _=>[.pw]),pk16_0,ec 0 h,pw⟩
     ·exact⟨(cst 1,fun _=>[.pw]),pk16_1,ec 1 h,pw⟩
     ·exact⟨(cst 2,fun _=>[.pw]),pk16_2,ec 2 h,pw⟩
     ·exact⟨(cst 3,fun _=>[.pw]),pk16_3,ec 3 h,pw⟩
     ·exact⟨(cst 4,fun _=>[.pw]),pk16_4,ec 4 h,pw⟩
     ·exact⟨(cst 5,fun _=>[.pw]),pk16_5,ec 5 h,pw⟩
     ·exact⟨(geP 6,fun _=>[.pw]),pk16_6,geP_eq (k:=6) h,pw⟩
    |false=>
     cases h5:isP x 14 with
     |true=>
      rw[isP_eq h5] at hy
      obtain⟨g1,g2⟩:=upTo_inv hy
      by_cases h:@LT.lt Int _ y.1 10
      ·exact .inl (upTo_of g1 h)
      ·have e:=geP_eq (k:=10) (y:=y) om
       refine .inr ⟨_,List.mem_singleton.2 rfl,e,fun v hv=>?_⟩
       obtain rfl:=List.mem_singleton.1 hv
       show @LE.le Int _ 10 (geP 10 y).1∧@LE.le Int _ (geP 10 y).1 13
       rw[←e]
       omega
     |false=>exact .inl hy
abbrev pWd:List Par:=[⟨true,y54⟩]
def frW (x:denL pWd):Bool:=isFr x.1.2.2.2.2.2.1
def dIdF:Dr:=drS 71 pWd pInt 60 (fun x=>cd (frW x) (upTo (J6)) []) none (fun x=>cd (frW x) (upTo (J6)) []) (fun _=>[])
theorem id_sub {ids:List Int} (h:∀a∈ids,a=J1∨a=J2){y:denL pInt} (hy:y∈idL ids):y∈upTo (J6):=by
 rcases mapL_inv (show y∈mapL (fun(a:Int)=>((a,()):denL pInt)) ids (upTo (J6)) from hy) with h1|⟨a,h1,rfl⟩
 ·exact h1
 ·rcases h a h1 with rfl|rfl
  ·exact upTo_of (n:=6) (by decide) (by decide)
  ·exact upTo_of (n:=6) (by decide) (by decide)
theorem dIdF_ok:DrOk Bn dIdF:=by
 refine⟨⟨kr,fun x y hy=>.inl hy⟩,fun x0 x h1 h2 h3 hne hat hos=>?_⟩
 replace hne:cd (frW x) (upTo (J6)) []≠[]:=hne
 cases hf:frW x with
 |false=>rw[hf] at hne;exact absurd rfl hne
 |true=>
  have hch:dIdF.ch x=upTo (J6):=by show cd (frW x) (upTo (J6)) []=_;rw[hf];rfl
  clear hat hne
  obtain⟨⟨tk,pr,tr,te,lo,js,al,ba⟩,u⟩:=x
  replace hf:isFr js=true:=hf
  unfold isFr at hf
  split at hf
  ·rename_i a
   obtain⟨i,j⟩:=a
   obtain rfl:=iEq_t hf
   obtain⟨q,g1,g2,g3⟩:=(dId1_ok (Bn:=Bn) tk pr tr te lo al ba j).2 x0 _ h1 h2 h3 (fun h=>by cases h) (fun w hw=>by rw[←Oi hw];rfl) (fun w hw=>by cases hw)
   exact⟨q,by rw[hch];exact id_sub (fun a ha=>.inl (List.mem_singleton.1 ha)) g1,g2,g3⟩
  ·rename_i a b
   obtain⟨i,j⟩:=a
   obtain⟨i2,j2⟩:=b
   obtain⟨hf,hf2⟩:=cd_true hf
   obtain rfl:=iEq_t hf
   obtain rfl:=iEq_t hf2
   obtain⟨q,g1,g2,g3⟩:=(dId2_ok (Bn:=Bn) tk pr tr te lo al ba j j2).2 x0 _ h1 h2 h3 (fun h=>by cases h) (fun w hw=>by rw[←Oi hw];rfl) (fun w hw=>by cases hw)
   exact⟨q,by rw[hch];exact id_sub (ids:=[J1,J2]) (fun a ha=>by rcases List.mem_cons.1 ha with h|h;exact .inl h;exact .inr (List.mem_singleton.1 h)) g1,g2,g3⟩
  ·cases hf
def t3L:List (List Nat):=[[120,32,121],[],[97,10,98]]
def jobM (l:List Nat) (a b:List Nat) (ts:List (List Nat)):denL pSites:=mainA (actO l (a::b::ts))
def inSl (ls:List (List Nat)) (t:List Nat):Bool:=List.rec false (fun x _ ih=>cd (sEq x t) true ih) ls
theorem inSl_mem {t:List Nat}:∀{ls:List (List Nat)},inSl ls t=true→t∈ls
 |[],h=>by cases h
 |x::ls,h=>by
  have h:cd (sEq x t) true (inSl ls t)=true:=h
  cases hb:sEq x t with
  |true=>rw[←sEq_t hb];exact Mc ..
  |false=>rw[hb] at h;exact Lo _ (inSl_mem h)
def atB (a:den y28):Bool:=cd (iEq a.1 (J1)) (iEq a.2.1 (J0)) false
def oN (b:Bool):Option (List Ob):=cd b (some []) none
theorem oN_t {b:Bool}{o:List Ob} (h:oN b=some o):b=true:=(cd_some h).1
def kKs (k:Int) (ps:List Int):List Int:=List.rec (motive:=fun _=>Int→List Int) (fun _=>[]) (fun p _ ih k=>k::ih (wr .i64 (k+wr .i64 (J 1+p)))) ps k
theorem kKs_mem {k:Int} (hk:k=J0∨k=J1∨k=J2):∀{ps:List Int},(∀p∈ps,p=J0∨p=J1)→ps.length≤4→kKs k ps∈l_keep
 |[],_,_=>by rcases hk with rfl|rfl|rfl<;>exact inK_mem kr
 |[a],h,_=>by
  rcases hk with rfl|rfl|rfl<;>rcases h a (by simp) with rfl|rfl<;>exact inK_mem kr
 |[a,b],h,_=>by
  rcases hk with rfl|rfl|rfl<;>rcases h a (by simp) with rfl|rfl<;>rcases h b (by simp) with rfl|rfl<;>exact inK_mem kr
 |[a,b,c],h,_=>by
  rcases hk with rfl|rfl|rfl<;>rcases h a (by simp) with rfl|rfl<;>rcases h b (by simp) with rfl|rfl<;>rcases h c (by simp) with rfl|rfl<;>exact inK_mem kr
 |[a,b,c,d],h,_=>by
  rcases hk with rfl|rfl|rfl<;>rcases h a (by simp) with rfl|rfl<;>rcases h b (by simp) with rfl|rfl<;>rcases h c (by simp) with rfl|rfl<;>rcases h d (by simp) with rfl|rfl<;>exact inK_mem kr
 |_::_::_::_::_::_,_,hl=>absurd hl (by simp)
def bitO (v:Zv):Option Int:=match v with
 |.bit p=>some p
 |_=>none
def bitsO (z:List Zv) (acc:List Int):Option (List Int):=List.rec (motive:=fun _=>List Int→Option (List Int)) (fun acc=>some acc) (fun v _ ih acc=>Option.rec none (fun p=>ih (p::acc)) (bitO v)) z acc
theorem bitsO_ok:∀{z:List Zv}{acc ps:List Int},bitsO z acc=some ps→(∀v∈z,Zok v)→(∀p∈acc,p=J0∨p=J1)→∀p∈ps,p=J0∨p=J1
 |[],acc,ps,h,_,ha=>by obtain rfl:=Oi (show some acc=some ps from h);exact ha
 |v::z,acc,ps,h,hz,ha=>by
  replace h:(Option.rec none (fun p=>bitsO z (p::acc)) (bitO v):Option (List Int))=some ps:=h
  cases hv:bitO v with
  |none=>rw[hv] at h;cases h
  |some p=>
   rw[hv] at h
   refine bitsO_ok (z:=z) (acc:=p::acc) h (fun v hv=>hz v (Lo _ hv)) (fun q hq=>?_)
   rcases List.mem_cons.1 hq with rfl|hq
   ·unfold bitO at hv
    split at hv
    ·rename_i p'
     obtain rfl:=Oi hv
     exact hz (.bit p') (Mc ..)
    ·cases hv
   ·exact ha q hq
def hd0 (l:List Int):Int:=match l with
 |a::_=>a
 |[]=>J0
def k3B (k:Int):Bool:=cd (iEq k (J0)) true (cd (iEq k (J1)) true (iEq k (J2)))
theorem k3B_ok {k:Int} (h:k3B k=true):k=J0∨k=J1∨k=J2:=by
 unfold k3B at h
 cases h0:iEq k (J0) with
 |true=>exact .inl (iEq_t h0)
 |false=>
  rw[h0] at h
  cases h1:iEq k (J1) with
  |true=>exact .inr (.inl (iEq_t h1))
  |false=>rw[h1] at h;exact .inr (.inr (iEq_t h))
def crZ (z:List Zv):Int×List Zv:=match z with
 |.int a::r=>(a,r)
 |r=>(.negSucc 0,r)
def crI (y:denL pSites) (z:List Zv):Option (List Ob):=Option.rec none (fun ps=>cd (cd (k3B (hd0 y.1.2.2.2.2.2.2.2.2)) (Nat.ble ps.length 4) false) (some [obL pSites y (mainA (aCrash (crZ z).1 (kKs (hd0 y.1.2.2.2.2.2.2.2.2) ps)))]) none) (bitsO (crZ z).2 [])
def crA (y:denL pSites) (z:List Zv) (args:List (List Nat)):Option (List Ob):=match args with
 |[]=>crI y z
 |_=>oN (noB y.1)
def joA (y:denL pSites) (l:List Nat) (args:List (List Nat)):Option (List Ob):=match args with
 |[a,b]=>cd (memAT a b argT) (some [obL pSites y (jobM l a b [])]) none
 |[a,b,t]=>cd (cd (memAT a b argT) (inSl t3L t) false) (some [obL pSites y (jobM l a b [t])]) none
 |_=>none
def okL:List (denL pSites):=[((J2,J0,(J0,J0,[],[],[],[],[])),()),((J6,J0,(J0,J0,[],[],[],[],[])),()),((J7,J0,(J0,J0,[],[],[],[],[])),()),((J3,J0,(J0,J0,[],[],[],[],[])),()),((J3,J1,(J0,J0,[],[],[],[],[])),()),((J3,J2,(J0,J0,[],[],[],[],[])),()),((J3,J3,(J0,J0,[],[],[],[],[])),()),((J3,J4,(J0,J0,[],[],[],[],[])),()),((J3,J5,(J0,J0,[],[],[],[],[])),()),((J3,J6,(J0,J0,[],[],[],[],[])),()),((J3,J7,(J0,J0,[],[],[],[],[])),()),((J3,J8,(J0,J0,[],[],[],[],[])),()),((J3,J9,(J0,J0,[],[],[],[],[])),()),((J3,J10,(J0,J0,[],[],[],[],[])),()),((J3,J11,(J0,J0,[],[],[],[],[])),()),((J4,J0,(J0,J0,[],[],[],[],[])),()),((J4,J1,(J0,J0,[],[],[],[],[])),()),((J4,J2,(J0,J0,[],[],[],[],[])),()),((J4,J3,(J0,J0,[],[],[],[],[])),()),((J4,J4,(J0,J0,[],[],[],[],[])),()),((J4,J5,(J0,J0,[],[],[],[],[])),()),((J4,J6,(J0,J0,[],[],[],[],[])),()),((J4,J7,(J0,J0,[],[],[],[],[])),()),((J4,J8,(J0,J0,[],[],[],[],[])),()),((J4,J9,(J0,J0,[],[],[],[],[])),()),((J4,J10,(J0,J0,[],[],[],[],[])),()),((J4,J11,(J0,J0,[],[],[],[],[])),()),((J5,J0,(J0,J0,[],[],[],[],[])),()),((J5,J1,(J0,J0,[],[],[],[],[])),()),((J5,J2,(J0,J0,[],[],[],[],[])),()),((J5,J3,(J0,J0,[],[],[],[],[])),()),((J5,J4,(J0,J0,[],[],[],[],[])),()),((J5,J5,(J0,J0,[],[],[],[],[])),()),((J5,J6,(J0,J0,[],[],[],[],[])),()),((J5,J7,(J0,J0,[],[],[],[],[])),()),((J5,J8,(J0,J0,[],[],[],[],[])),()),((J5,J9,(J0,J0,[],[],[],[],[])),()),((J5,J10,(J0,J0,[],[],[],[],[])),()),((J5,J11,(J0,J0,[],[],[],[],[])),()),((J1,J0,(J3,J0,[],[],[],[],[])),()),((J1,J0,(J4,J0,[],[],[],[],[])),()),((J1,J0,(J6,J0,[],[],[],[],[])),()),((J1,J0,(J5,J0,[],[],[],[],[])),()),((J1,J0,(J5,J1,[],[],[],[],[])),()),((J1,J0,(J5,J2,[],[],[],[],[])),()),((J1,J0,(J5,J3,[],[],[],[],[])),()),((J1,J0,(J2,J1,[],[],[],[],[])),()),((J1,J0,(J2,J2,[],[],[],[],[])),()),((J1,J0,(J2,J3,[],[],[],[],[])),()),((J1,J0,(J2,J4,[],[],[],[],[])),()),((J1,J0,(J7,.negSucc 0,[],[],[],[],[])),())]
theorem okL_all:allM (fun(y:denL pSites)=>good1B y.1) okL=true:=kr
def ltB (y:denL pSites):Bool:=cd (c17 y.1).1 (inD pSites okL y) (!(c11 y.1).1)
theorem ltB_ok {y:denL pSites} (h:ltB y=true):Good1 Bn y.1:=by
 unfold ltB at h
 cases hc:(c17 y.1).1 with
 |true=>rw[hc] at h;exact good1_of (allM_mem (p:=fun(y:denL pSites)=>good1B y.1) okL_all (inD_mem h))
 |false=>rw[hc] at h;exact good1_no hc (by simpa using(show(!(c11 y.1).1)=true from h))
def hiAt (v:Int):Int:=wr .i64 (v - J 1)
def hiA (k v:Int):denL pSites:=((k,hiAt v,(J 0,J 0,[],[],[],[],[])),())
def geO (l:List Zv):Bool:=match l with
 |[.ge _]=>true
 |_=>false
def spB (v:Zv) (r:List Zv):Option (List Zv):=match v with
 |.pw=>cd (geO r) (some []) none
 |_=>none
def spG (z:List Zv):Option (List Zv):=List.rec none (fun v r ih=>Option.rec (spB v r) (fun l=>some (v::l)) ih) z
theorem spG_mem {z l:List Zv} (h:spG z=some l):∀v∈l,v∈z:=by
 induction z generalizing l with
 |nil=>cases h
 |cons w r ih=>
  replace h:(Option.rec (spB w r) (fun l=>some (w::l)) (spG r):Option (List Zv))=some l:=h
  cases hr:spG r with
  |some l'=>
   rw[hr] at h
   obtain rfl:=Oi (show some (w::l')=some l from h)
   intro v hv
   rcases List.mem_cons.1 hv with rfl|hv
   ·exact Mc ..
   ·exact Lo _ (ih hr v hv)
  |none=>
   rw[hr] at h
   replace h:spB w r=some l:=h
   unfold spB at h
   split at h
   ·obtain⟨_,h⟩:=cd_some h
    obtain rfl:=Oi h
    intro v hv;cases hv
   ·cases h
def kdB' (k:Int):Bool:=cd (iEq k (J2)) true (cd (iEq k (J3)) true (cd (iEq k (J4)) true (cd (iEq k (J5)) true (cd (iEq k (J6)) true (iEq k (J7))))))
def chkO (y:denL pSites) (v:Int):Option (List Ob):=cd (iEq y.1.1 (J1)) (some [obL pSites y ((J 1,hiAt v,y.1.2.2),())]) (cd (kdB' y.1.1) (some [obL pSites y (hiA y.1.1 v)]) none)
def chkM (y:denL pSites) (z:List Zv):Option (List Ob):=match z with
 |[]=>oN (ltB y)
 |[.lab l]=>cd (atB y.1) (joA y l y.1.2.2.2.2.2.2.1) (oN (noB y.1))
 |.ge v::_=>cd (iEq y.1.1 (J1)) (some [obL pSites y ((J 1,hiAt v,y.1.2.2),())]) none
 |z=>cd (atB y.1) (crA y z y.1.2.2.2.2.2.2.1) (oN (noB y.1))
def chk5 (y:denL pSites) (z:List Zv):Option (List Ob):=match z with
 |[]=>oN (ltB y)
 |[.ge v]=>chkO y v
 |z=>Option.rec none (fun l=>chkM y l) (spG z)
def CrashA (Bn:Nat):Prop:=∀A∈upDn,∀K∈l_keep,Good1 Bn (mainA (aCrash A K)).1
def JobA (Bn:Nat):Prop:=∀l∈l_lab,∀p∈argT,Good1 Bn (jobM l p.1 p.2 []).1∧∀t∈t3L,Good1 Bn (jobM l p.1 p.2 [t]).1
theorem neg1_up:(Int.negSucc 0)∈upDn:=Mc ..
theorem crI_ok (hc:CrashA Bn){y:denL pSites}{z:List Zv}{o:List Ob} (h:crI y z=some o) (he:Eqs o) (hz:∀v∈z,Zok v):Good1 Bn y.1:=by
 unfold crI at h
 cases hb:bitsO (crZ z).2 [] with
 |none=>rw[hb] at h;cases h
 |some ps=>
  rw[hb] at h
  obtain⟨h1,h⟩:=cd_some (show cd (cd (k3B (hd0 y.1.2.2.2.2.2.2.2.2)) (Nat.ble ps.length 4) false) (some [obL pSites y (mainA (aCrash (crZ z).1 (kKs (hd0 y.1.2.2.2.2.2.2.2.2) ps)))]) none=some o from h)
  obtain⟨h1,h2⟩:=cd_true h1
  obtain rfl:=Oi h
  have e:y=mainA (aCrash (crZ z).1 (kKs (hd0 y.1.2.2.2.2.2.2.2.2) ps)):=he (obL pSites y (mainA (aCrash (crZ z).1 (kKs (hd0 y.1.2.2.2.2.2.2.2.2) ps)))) (List.mem_singleton.2 rfl)
  have hzz:(crZ z).1∈upDn∧∀v∈(crZ z).2,Zok v:=by
   clear h he e hb
   cases z with
   |nil=>exact⟨neg1_up,hz⟩
   |cons v r=>
    cases v with
    |int a=>exact⟨hz (.int a) (Mc ..),fun v hv=>hz v (Lo _ hv)⟩
    |cr a=>exact⟨neg1_up,hz⟩
    |lab a=>exact⟨neg1_up,hz⟩
    |arg a=>exact⟨neg1_up,hz⟩
    |sit a=>exact⟨neg1_up,hz⟩
    |suf a=>exact⟨neg1_up,hz⟩
    |bit a=>exact⟨neg1_up,hz⟩
    |ge a=>exact⟨neg1_up,hz⟩
    |pw=>exact⟨neg1_up,hz⟩
  have hK:=kKs_mem (k3B_ok h1) (bitsO_ok hb hzz.2 (fun p hp=>by cases hp)) (Nb h2)
  have hg:=hc _ hzz.1 _ hK
  generalize kKs (hd0 y.1.2.2.2.2.2.2.2.2) ps=K at e hg
  rw[e]
  exact hg
theorem hi_at {v:Int} (h:@LE.le Int _ 10 v∧@LE.le Int _ v 13):hiAt v=v - 1:=by
 unfold hiAt
 have e:v - J 1=v - 1:=rfl
 rw[e]
 exact wr_id (by show @LE.le Int _ _ (v - 1);omega) (by show @LE.le Int _ (v - 1) _;omega)
theorem hi_no {v:Int} (h:@LE.le Int _ 10 v∧@LE.le Int _ v 13) (b:den y26):Good1 Bn (J 1,hiAt v,b):=by
 have e:iEq (hiAt v) J0=false:=by
  rw[hi_at h,iEq_eq]
  have:¬(v - 1=J 0):=fun h2=>by have:v - 1=0:=h2;omega
  simpa using this
 have h17:(c17 (J 1,hiAt v,b)).1=cd (iEq (hiAt v) J0) (c45 b).1 false:=kr
 have h11:(c11 (J 1,hiAt v,b)).1=cd (iEq (hiAt v) J0) (c34 b).1 false:=kr
 exact good1_no (by rw[h17,e];rfl) (by rw[h11,e];rfl)
theorem hi_all:allM (fun(k:Int)=>allM (fun(v:Int)=>gd1 (hiA k v).1) [J10,J11,J12,J13]) [J2,J3,J4,J5,J6,J7]=true:=kr
theorem kdB_mem {k:Int} (h:kdB' k=true):k∈([J2,J3,J4,J5,J6,J7]:List Int):=by
 unfold kdB' at h
 cases h2:iEq k (J2) with
 |true=>rw[iEq_t h2];simp
 |false=>
 rw[h2] at h
 cases h3:iEq k (J3) with
 |true=>rw[iEq_t h3];simp
 |false=>
 rw[h3] at h
 cases h4:iEq k (J4) with
 |true=>rw[iEq_t h4];simp
 |false=>
 rw[h4] at h
 cases h5:iEq k (J5) with
 |true=>rw[iEq_t h5];simp
 |false=>
 rw[h5] at h
 cases h6:iEq k (J6) with
 |true=>rw[iEq_t h6];simp
 |false=>
 rw[h6] at h
 rw[iEq_t (show iEq k (J7)=true from h)];simp
theorem hi_ok {k v:Int} (hk:kdB' k=true) (h:@LE.le Int _ 10 v∧@LE.le Int _ v 13):Good1 Bn (hiA k v).1:=by
 have h1:=allM_mem hi_all (kdB_mem hk)
 have hv:v∈([J10,J11,J12,J13]:List Int):=by
  rcases(show @Eq Int v 10∨@Eq Int v 11∨@Eq Int v 12∨@Eq Int v 13 by omega) with h|h|h|h
  ·rw[show v=J 10 from h];simp
  ·rw[show v=J 11 from h];simp
  ·rw[show v=J 12 from h];simp
  ·rw[show v=J 13 from h];simp
 exact gd1_ok (allM_mem (p:=fun(v:Int)=>gd1 (hiA k v).1) h1 hv)
theorem chkO_ok {y:denL pSites}{v:Int}{o:List Ob} (h:chkO y v=some o) (he:Eqs o) (hv:@LE.le Int _ 10 v∧@LE.le Int _ v 13):Good1 Bn y.1:=by
 unfold chkO at h
 cases hb:iEq y.1.1 (J1) with
 |true=>
  rw[hb] at h
  obtain rfl:=Oi (show some [obL pSites y ((J 1,hiAt v,y.1.2.2),())]=some o from h)
  have e:y=((J 1,hiAt v,y.1.2.2),()):=he (obL pSites y ((J 1,hiAt v,y.1.2.2),())) (List.mem_singleton.2 rfl)
  rw[e]
  exact hi_no hv _
 |false=>
  rw[hb] at h
  obtain⟨h1,h⟩:=cd_some (show cd (kdB' y.1.1) (some [obL pSites y (hiA y.1.1 v)]) none=some o from h)
  obtain rfl:=Oi h
  have e:y=hiA y.1.1 v:=he (obL pSites y (hiA y.1.1 v)) (List.mem_singleton.2 rfl)
  have hg:=hi_ok (Bn:=Bn) h1 hv
  rw[e];exact hg
theorem chkM_ok (hc:CrashA Bn) (hj:JobA Bn){y:denL pSites}{z:List Zv}{o:List Ob} (h:chkM y z=some o) (he:Eqs o) (hz:∀v∈z,Zok v):Good1 Bn y.1:=by
 unfold chkM at h
 split at h
 ·exact ltB_ok (oN_t h)
 ·rename_i l
  have hl:l∈l_lab:=hz (.lab l) (by simp)
  cases hb:atB y.1 with
  |false=>rw[hb] at h;exact noB_ok (oN_t (show oN (noB y.1)=some o from h))
  |true=>
   rw[hb] at h
   replace h:joA y l y.1.2.2.2.2.2.2.1=some o:=h
   unfold joA at h
   split at h
   ·rename_i a b _
    obtain⟨h1,h⟩:=cd_some h
    obtain rfl:=Oi h
    rw[show y=jobM l a b [] from he (obL pSites y (jobM l a b [])) (List.mem_singleton.2 rfl)]
    exact(hj l hl (a,b) (memAT_mem h1)).1
   ·rename_i a b t _
    obtain⟨h1,h⟩:=cd_some h
    obtain⟨h1,h2⟩:=cd_true h1
    obtain rfl:=Oi h
    rw[show y=jobM l a b [t] from he (obL pSites y (jobM l a b [t])) (List.mem_singleton.2 rfl)]
    exact(hj l hl (a,b) (memAT_mem h1)).2 t (inSl_mem h2)
   ·cases h
 ·rename_i v r
  obtain⟨_,h⟩:=cd_some h
  obtain rfl:=Oi h
  have e:y=((J 1,hiAt v,y.1.2.2),()):=he (obL pSites y ((J 1,hiAt v,y.1.2.2),())) (List.mem_singleton.2 rfl)
  rw[e]
  exact hi_no (hz (.ge v) (Mc ..)) _
 ·cases hb:atB y.1 with
  |false=>rw[hb] at h;exact noB_ok (oN_t (show oN (noB y.1)=some o from h))
  |true=>
   rw[hb] at h
   replace h:crA y z y.1.2.2.2.2.2.2.1=some o:=h
   unfold crA at h
   split at h
   ·exact crI_ok hc h he hz
   ·exact noB_ok (oN_t h)
theorem chk5_ok (hc:CrashA Bn) (hj:JobA Bn){y:denL pSites}{z:List Zv}{o:List Ob} (h:chk5 y z=some o) (he:Eqs o) (hz:∀v∈z,Zok v):Good1 Bn y.1:=by
 unfold chk5 at h
 split at h
 ·exact ltB_ok (oN_t h)
 ·rename_i v
  exact chkO_ok h he (hz (.ge v) (List.mem_singleton.2 rfl))
 ·cases hs:spG z with
  |none=>rw[hs] at h;cases h
  |some l=>rw[hs] at h;exact chkM_ok hc hj (show chkM y l=some o from h) he (fun v hv=>hz v (spG_mem hs v hv))
end
end Go.Ev
end
