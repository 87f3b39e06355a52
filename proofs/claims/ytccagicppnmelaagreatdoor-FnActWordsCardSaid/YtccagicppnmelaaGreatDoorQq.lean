/- A part of the proof that FnActWords returns true for every input and leaves its argument as it was; no condition. -/
import Derived.Test.YtccagicppnmelaaGreatDoorQp
import Derived.Test.YtccagicppnmelaaGreatDoorQa
set_option linter.all false
open List renaming length→U
open Int renaming ofNat→J,toNat→Jn
open Go.Ev
attribute [local irreducible] GC RJ KC KM cAt cOn runC stp brC bodyC cvC rsC rdC regC loopC endC skpC extC retC evJ RS.at RS.put RS.okS RS.okR RS.all RS.fst endV endVM grpA grpB grpR grpD grpO RunOps RunD bodyF resF argsFrom cArg
noncomputable section
namespace Go.Ev
open Go.Proofs
set_option maxRecDepth 100000
def wds:List Nat→Option (List Nat)→List (List Nat)
 |[],none=>[]
 |[],some c=>[c]
 |x::r,none=>cd (Nat.beq x 32) (wds r none) (wds r (some [x]))
 |x::r,some c=>cd (Nat.beq x 32) (c::wds r none) (wds r (some (c++[x])))
theorem gc_at {p:List Nat}{x:Nat}{r:List Nat}:gc (p++x::r) p.length=x:=by
 induction p with
 |nil=>rfl
 |cons y p ih=>exact ih
def ext (l:List Nat) (x:Nat×Nat):List Nat:=(l.drop x.1).take (x.2 - x.1)
def curOf (l:List Nat) (pos:Nat):Option Nat→Option (List Nat)
 |none=>none
 |some a=>some (ext l (a,pos))
theorem ext_snoc {p r:List Nat}{x a:Nat} (h:a≤p.length):ext (p++x::r) (a,p.length+1)=ext (p++x::r) (a,p.length)++[x]:=by
 unfold ext
 show((p++x::r).drop a).take (p.length+1 - a)=((p++x::r).drop a).take (p.length - a)++[x]
 rw[List.drop_append_of_le_length h]
 have hl:(p.drop a).length=p.length - a:=Ld ..
 rw[show p.length+1 - a=(p.length - a)+1 by omega,←hl,List.take_append,List.take_append]
 simp
theorem spW_wds:∀(r p:List Nat) (st:Option Nat) (acc:List (Nat×Nat)),(∀a,st=some a→a≤p.length)→
 (clW (p++r) (spW (p++r) r.length p.length st acc)).map (ext (p++r))=acc.map (ext (p++r))++wds r (curOf (p++r) p.length st)
 |[],p,st,acc,_=>by
  show(clW (p++[]) (acc,st)).map (ext (p++[]))=_
  cases st with
  |none=>simp[clW,wds,curOf]
  |some a=>simp[clW,wds,curOf]
 |x::r,p,st,acc,hst=>by
  have hlt:Nat.blt p.length (p++x::r).length=true:=Nc (by rw[La];show p.length+1≤p.length+(r.length+1);omega)
  have e1:p++x::r=(p++[x])++r:=by simp
  have e2:(p++[x]).length=p.length+1:=by simp
  show(clW (p++x::r) (spW (p++x::r) (r.length+1) p.length st acc)).map (ext (p++x::r))=_
  rw[spW_step,hlt,gc_at]
  cases hx:Nat.beq x 32 with
  |true=>
   cases st with
   |none=>
    have ih:=spW_wds r (p++[x]) none acc (fun a h=>by cases h)
    rw[←e1,e2] at ih
    show(clW (p++x::r) (spW (p++x::r) r.length (p.length+1) none acc)).map (ext (p++x::r))=acc.map (ext (p++x::r))++cd (Nat.beq x 32) (wds r none) (wds r (some [x]))
    rw[ih,hx];rfl
   |some a=>
    have ih:=spW_wds r (p++[x]) none (acc++[(a,p.length)]) (fun a h=>by cases h)
    rw[←e1,e2] at ih
    show(clW (p++x::r) (spW (p++x::r) r.length (p.length+1) none (acc++[(a,p.length)]))).map (ext (p++x::r))=acc.map (ext (p++x::r))++cd (Nat.beq x 32) (ext (p++x::r) (a,p.length)::wds r none) (wds r (some (ext (p++x::r) (a,p.length)++[x])))
    rw[ih,hx,List.map_append,List.append_assoc];rfl
  |false=>
   cases st with
   |none=>
    have ih:=spW_wds r (p++[x]) (some p.length) acc (fun a h=>by obtain rfl:=Oi h;rw[e2];omega)
    rw[←e1,e2] at ih
    show(clW (p++x::r) (spW (p++x::r) r.length (p.length+1) (some p.length) acc)).map (ext (p++x::r))=acc.map (ext (p++x::r))++cd (Nat.beq x 32) (wds r none) (wds r (some [x]))
    rw[ih,hx]
    have e3:ext (p++x::r) (p.length,p.length+1)=[x]:=by
     have h0:=ext_snoc (p:=p) (r:=r) (x:=x) (a:=p.length) (Nr _)
     rw[h0];simp[ext]
    show _++wds r (some (ext (p++x::r) (p.length,p.length+1)))=_++wds r (some [x])
    rw[e3]
   |some a=>
    have ha:=hst a rfl
    have ih:=spW_wds r (p++[x]) (some a) acc (fun a' h=>by obtain rfl:=Oi h;rw[e2];omega)
    rw[←e1,e2] at ih
    show(clW (p++x::r) (spW (p++x::r) r.length (p.length+1) (some a) acc)).map (ext (p++x::r))=acc.map (ext (p++x::r))++cd (Nat.beq x 32) (ext (p++x::r) (a,p.length)::wds r none) (wds r (some (ext (p++x::r) (a,p.length)++[x])))
    rw[ih,hx]
    show _++wds r (some (ext (p++x::r) (a,p.length+1)))=_++wds r (some (ext (p++x::r) (a,p.length)++[x]))
    rw[ext_snoc ha]
theorem c27_wds (t:List Nat):c27 t=(wds t none,()):=by
 have h:=spW_wds t [] none [] (fun a h=>by cases h)
 have h2:wordsN t=wds t none:=by
  have h:(clW t (spW t t.length 0 none [])).map (ext t)=[]++wds t none:=h
  exact h
 show((wordsN t),())=_
 rw[h2]
def pcs:List Nat→List Nat→List (List Nat)
 |[],c=>[c]
 |x::r,c=>cd (Nat.beq x 32) (c::pcs r []) (pcs r (c++[x]))
theorem scan_go {σ β:Type}{P:σ→Out σ β}{n:Nat}{s s':σ} (h:P s=.go s'):scan P (n+1) s=scan P n s':=by
 show(match P s with|.go s'=>scan P n s'|.brk s'=>.brk s'|.ret r=>.ret r)=_
 rw[h]
theorem scan_brk {σ β:Type}{P:σ→Out σ β}{n:Nat}{s s':σ} (h:P s=.brk s'):scan P (n+1) s=.brk s':=by
 show(match P s with|.go s'=>scan P n s'|.brk s'=>.brk s'|.ret r=>.ret r)=_
 rw[h]
theorem scan_ret {σ β:Type}{P:σ→Out σ β}{n:Nat}{s:σ}{r:β} (h:P s=.ret r):scan P (n+1) s=.ret r:=by
 show(match P s with|.go s'=>scan P n s'|.brk s'=>.brk s'|.ret r=>.ret r)=_
 rw[h]
theorem iEq_n (a b:Nat):iEq (J a) (J b)=Nat.beq a b:=by
 rw[iEq_eq]
 cases h:Nat.beq a b with
 |true=>have:=Nq h;subst this;simp
 |false=>have:=Nat.ne_of_beq_eq_false h;simp;omega
theorem iLe_n (a b:Nat):iLe (J a) (J b)=Nat.ble a b:=by
 rw[iLe_eq]
 cases h:Nat.ble a b with
 |true=>have:=Nb h;simp;omega
 |false=>have:¬a≤b:=fun h2=>by rw[Nc h2] at h;cases h
         simp;omega
theorem c103_pcs:∀(r p:List Nat) (a:Nat) (acc:List (List Nat)),a≤p.length→
 ∃q:Nat×Nat,scan (c103_L1 (p++r)) (r.length+1+1) (a,p.length,acc)=.brk (q.1,q.2,acc++pcs r (ext (p++r) (a,p.length)))
 |[],p,a,acc,ha=>by
  refine⟨(p.length+1,p.length+1),?_⟩
  have e:p++[]=p:=List.append_nil p
  rw[e]
  have g1:c103_L1 p (a,p.length,acc)=.go (p.length+1,p.length+1,acc++[ext p (a,p.length)]):=by
   unfold c103_L1
   dsimp only
   rw[iLe_n,iEq_n,show Nat.ble p.length p.length=true from Nc (Nr _),show Nat.beq p.length p.length=true from Nat.beq_refl _]
   rfl
  have g2:c103_L1 p (p.length+1,p.length+1,acc++[ext p (a,p.length)])=.brk (p.length+1,p.length+1,acc++[ext p (a,p.length)]):=by
   unfold c103_L1
   dsimp only
   rw[iLe_n,show Nat.ble (p.length+1) p.length=false from by cases h:Nat.ble (p.length+1) p.length with|false=>rfl|true=>exact absurd (Nb h) om]
   rfl
  rw[scan_go g1,scan_brk g2]
  rfl
 |x::r,p,a,acc,ha=>by
  have e1:p++x::r=(p++[x])++r:=by simp
  have e2:(p++[x]).length=p.length+1:=by simp
  have hl:(p++x::r).length=p.length+1+r.length:=by simp;omega
  have hle:Nat.ble p.length (p++x::r).length=true:=Nc (by rw[hl];omega)
  have hne:Nat.beq p.length (p++x::r).length=false:=by
   cases h:Nat.beq p.length (p++x::r).length with
   |false=>rfl
   |true=>have:=Nq h;rw[hl] at this;omega
  cases hx:Nat.beq x 32 with
  |true=>
   obtain⟨q,hq⟩:=c103_pcs r (p++[x]) (p.length+1) (acc++[ext (p++x::r) (a,p.length)]) (by rw[e2];omega)
   rw[←e1,e2] at hq
   refine⟨q,?_⟩
   have g1:c103_L1 (p++x::r) (a,p.length,acc)=.go (p.length+1,p.length+1,acc++[ext (p++x::r) (a,p.length)]):=by
    unfold c103_L1
    dsimp only
    rw[iLe_n,iEq_n,hle,hne,gc_at,iEq_n,hx]
    rfl
   show scan (c103_L1 (p++x::r)) (r.length+1+1+1) (a,p.length,acc)=_
   rw[scan_go g1,hq]
   show Out.brk _=Out.brk _
   have e3:ext (p++x::r) (p.length+1,p.length+1)=[]:=by simp[ext]
   rw[e3,List.append_assoc]
   show Out.brk (q.1,q.2,acc++([ext (p++x::r) (a,p.length)]++pcs r []))=Out.brk (q.1,q.2,acc++cd (Nat.beq x 32) (ext (p++x::r) (a,p.length)::pcs r []) (pcs r (ext (p++x::r) (a,p.length)++[x])))
   rw[hx];rfl
  |false=>
   obtain⟨q,hq⟩:=c103_pcs r (p++[x]) a acc (by rw[e2];omega)
   rw[←e1,e2] at hq
   refine⟨q,?_⟩
   have g1:c103_L1 (p++x::r) (a,p.length,acc)=.go (a,p.length+1,acc):=by
    unfold c103_L1
    dsimp only
    rw[iLe_n,iEq_n,hle,hne,gc_at,iEq_n,hx]
    rfl
   show scan (c103_L1 (p++x::r)) (r.length+1+1+1) (a,p.length,acc)=_
   rw[scan_go g1,hq,ext_snoc ha]
   show _=Out.brk (q.1,q.2,acc++cd (Nat.beq x 32) (ext (p++x::r) (a,p.length)::pcs r []) (pcs r (ext (p++x::r) (a,p.length)++[x])))
   rw[hx];rfl
theorem c103_eq (t:List Nat):c103 t=(pcs t [],()):=by
 obtain⟨q,hq⟩:=c103_pcs t [] 0 [] (Nr _)
 have hq:scan (c103_L1 t) (t.length+1+1) (0,0,[])=.brk (q.1,q.2,pcs t []):=hq
 unfold c103
 exact outB hq
def nef:List (List Nat)→List (List Nat)
 |[]=>[]
 |x::l=>cd (isNilB x) (nef l) (x::nef l)
theorem gt_of {t:Ty}{L:List (den t)}{i:Nat}{x:den t} (h:L[i]? =some x):gt t L i=x:=Oi ((gt_some (List.getElem?_eq_some_iff.1 h).1).symm.trans h)
theorem sEq_nil (x:List Nat):sEq x []=isNilB x:=by cases x<;>rfl
theorem ble_f {a b:Nat} (h:¬a≤b):Nat.ble a b=false:=by
 cases hb:Nat.ble a b with
 |false=>rfl
 |true=>exact absurd (Nb hb) h
theorem nle_len {a b:Nat} (h:b<a):(!iLe (J a) (J b))=true:=by rw[iLe_n,ble_f om];rfl
theorem nle_end {a:Nat}:(!iLe (J a) (J a))=false:=by rw[iLe_n,Nc (Nr a)];rfl
theorem c62_nef (t:List Nat):c62 t=(nef (pcs t []),()):=by
 have key:∀(r p acc:List (List Nat)),pcs t []=p++r→scan (c62_L1 t) (r.length+1) (p.length,acc)=.brk ((pcs t []).length,acc++nef r):=by
  intro r
  induction r with
  |nil=>
   intro p acc h
   have hl:(pcs t []).length=p.length:=by rw[h];simp
   have g:c62_L1 t (p.length,acc)=.brk (p.length,acc):=by
    unfold c62_L1
    dsimp only
    rw[c103_eq,hl,nle_end]
    rfl
   rw[scan_brk g,hl]
   show _=Out.brk (p.length,acc++[])
   rw[List.append_nil]
  |cons x r ih=>
   intro p acc h
   have hl:(pcs t []).length=p.length+1+r.length:=by rw[h];simp;omega
   have hx:gt .str (pcs t []) p.length=x:=gt_of (t:=.str) (by rw[h];simp)
   have e1:pcs t []=(p++[x])++r:=by rw[h];simp
   have e2:(p++[x]).length=p.length+1:=by simp
   have g:c62_L1 t (p.length,acc)=.go (p.length+1,acc++nef [x]):=by
    unfold c62_L1
    dsimp only
    rw[c103_eq,nle_len (a:=(pcs t []).length) (b:=p.length) om,hx,sEq_nil]
    cases hn:isNilB x with
    |true=>simp only[nef,hn];show Out.go (p.length+1,acc)=Out.go (p.length+1,acc++[]);rw[List.append_nil]
    |false=>simp only[nef,hn];rfl
   have h2:=ih (p++[x]) (acc++nef [x]) e1
   rw[e2] at h2
   show scan (c62_L1 t) (r.length+1+1) (p.length,acc)=_
   rw[scan_go g,h2,List.append_assoc]
   cases hn:isNilB x with
   |true=>simp only[nef,hn];rfl
   |false=>simp only[nef,hn];rfl
 have h:=key (pcs t []) [] [] rfl
 have h:scan (c62_L1 t) ((pcs t []).length+1) (0,[])=.brk ((pcs t []).length,nef (pcs t [])):=h
 unfold c62
 have h2:scan (c62_L1 t) (U (c103 t).1 - 0+1) (0,[])=.brk ((pcs t []).length,nef (pcs t [])):=by rw[c103_eq];exact h
 exact outB h2
theorem nef_pcs:∀(r:List Nat),nef (pcs r [])=wds r none∧∀c,isNilB c=false→nef (pcs r c)=wds r (some c)
 |[]=>⟨rfl,fun c hc=>by show cd (isNilB c) [] [c]=[c];rw[hc];rfl⟩
 |x::r=>by
  obtain⟨h1,h2⟩:=nef_pcs r
  refine⟨?_,fun c hc=>?_⟩
  ·show nef (cd (Nat.beq x 32) ([]::pcs r []) (pcs r [x]))=cd (Nat.beq x 32) (wds r none) (wds r (some [x]))
   cases hx:Nat.beq x 32 with
   |true=>exact h1
   |false=>exact h2 [x] rfl
  ·show nef (cd (Nat.beq x 32) (c::pcs r []) (pcs r (c++[x])))=cd (Nat.beq x 32) (c::wds r none) (wds r (some (c++[x])))
   cases hx:Nat.beq x 32 with
   |true=>
    show cd (isNilB c) (nef (pcs r [])) (c::nef (pcs r []))=c::wds r none
    rw[hc,h1];rfl
   |false=>exact h2 (c++[x]) (by cases c<;>rfl)
theorem c62_wds (t:List Nat):c62 t=(wds t none,()):=by rw[c62_nef,(nef_pcs t).1]
def nbW (w:List Nat):Bool:=List.rec true (fun c _ ih=>cd (Nat.beq c 32) false ih) w
theorem nbW_c {c:Nat}{w:List Nat} (h:nbW (c::w)=true):Nat.beq c 32=false∧nbW w=true:=by
 have h:cd (Nat.beq c 32) false (nbW w)=true:=h
 cases hc:Nat.beq c 32 with
 |true=>rw[hc] at h;cases h
 |false=>rw[hc] at h;exact⟨rfl,h⟩
theorem wds_some:∀{w:List Nat} (s c:List Nat),nbW w=true→wds (w++s) (some c)=wds s (some (c++w))
 |[],s,c,_=>by rw[List.append_nil];rfl
 |x::w,s,c,h=>by
  obtain⟨h1,h2⟩:=nbW_c h
  show cd (Nat.beq x 32) _ (wds (w++s) (some (c++[x])))=_
  rw[h1]
  have:=wds_some (w:=w) s (c++[x]) h2
  rw[List.append_assoc] at this
  exact this
theorem wds_none {w:List Nat} (s:List Nat) (h:nbW w=true):wds (w++s) none=cd (isNilB w) (wds s none) (wds s (some w)):=by
 cases w with
 |nil=>rfl
 |cons x w=>
  obtain⟨h1,h2⟩:=nbW_c h
  show cd (Nat.beq x 32) _ (wds (w++s) (some [x]))=wds s (some (x::w))
  rw[h1]
  exact wds_some (w:=w) s [x] h2
def nbL (l:List (List Nat)):Bool:=List.rec true (fun w _ ih=>cd (nbW w) ih false) l
theorem wds_join:∀{l:List (List Nat)},nbL l=true→wds (joinT [32] l) none=nef l∧∀c,wds (joinT [32] l) (some c)=c::nef l
 |[],_=>⟨rfl,fun _=>rfl⟩
 |y::l,h=>by
  obtain⟨h1,h2⟩:=cd_true (show cd (nbW y) (nbL l) false=true from h)
  obtain⟨g1,g2⟩:=wds_join h2
  have e:joinT [32] (y::l)=32::(y++joinT [32] l):=by
   show cat [32] (cat y (joinT [32] l))=_
   rw[cat_eq,cat_eq];rfl
  have k:wds (y++joinT [32] l) none=nef (y::l):=by
   rw[wds_none _ h1,g1,g2];rfl
  rw[e]
  exact⟨k,fun c=>by show c::wds (y++joinT [32] l) none=_;rw[k]⟩
theorem joinN_c (x:List Nat) (l:List (List Nat)):joinN [32] (x::l)=x++joinT [32] l:=by
 show cat x (joinT [32] l)=_
 rw[cat_eq]
theorem wds_joinN {x:List Nat}{l:List (List Nat)} (h:nbL (x::l)=true) (hx:isNilB x=false):wds (joinN [32] (x::l)) none=x::nef l:=by
 obtain⟨h1,h2⟩:=cd_true (show cd (nbW x) (nbL l) false=true from h)
 rw[joinN_c,wds_none _ h1,hx]
 exact(wds_join h2).2 x
end Go.Ev
end
noncomputable section
namespace Go.Ev
open Go.Proofs
set_option maxRecDepth 100000
abbrev w_cr:List Nat:=[99,114,97,115,104]
abbrev zAct:den y26:=((J 0),(J 0),([]:List Nat),([]:List Nat),[],[],[])
def g29:List (List Nat)→Nat→Int→List Int→Option (Int×List Int)
 |[],_,a,ks=>some (a,ks)
 |w::r,i,a,ks=>cd (!(c30 w).2.1) none (cd (Nat.beq i 0) (g29 r (i+1) (c30 w).1 ks) (g29 r (i+1) a (ks++[(c30 w).1])))
def oo29 (n:Nat) (x:Option (Int×List Int)):Out (Nat×Int×List (den (.int .i64))) (denL [⟨true,y26⟩,⟨false,.bool⟩]):=Option.rec (.ret (zAct,false,())) (fun q=>.brk (n,q.1,q.2)) x
theorem c29_scan (l:List (List Nat)):∀(r p:List (List Nat)) (a:Int) (ks:List Int),l=p++r→scan (c29_L1 (J 7) l) (r.length+1) (p.length,a,ks)=oo29 l.length (g29 r p.length a ks)
 |[],p,a,ks,h=>by
  have hl:l.length=p.length:=by rw[h];simp
  have g:c29_L1 (J 7) l (p.length,a,ks)=.brk (p.length,a,ks):=by
   unfold c29_L1
   dsimp only
   rw[hl,nle_end]
   rfl
  rw[scan_brk g,hl]
  rfl
 |x::r,p,a,ks,h=>by
  have hl:l.length=p.length+1+r.length:=by rw[h];simp;omega
  have hx:gt .str l p.length=x:=gt_of (t:=.str) (by rw[h];simp)
  have e1:l=(p++[x])++r:=by rw[h];simp
  have e2:(p++[x]).length=p.length+1:=by simp
  have ih:=c29_scan l r (p++[x])
  rw[e2] at ih
  show scan (c29_L1 (J 7) l) (r.length+1+1) (p.length,a,ks)=oo29 l.length (cd (!(c30 x).2.1) none (cd (Nat.beq p.length 0) (g29 r (p.length+1) (c30 x).1 ks) (g29 r (p.length+1) a (ks++[(c30 x).1]))))
  cases hb:(c30 x).2.1 with
  |false=>
   have g:c29_L1 (J 7) l (p.length,a,ks)=.ret (zAct,false,()):=by
    unfold c29_L1
    dsimp only
    rw[nle_len (a:=l.length) (b:=p.length) om,hx,hb]
    rfl
   rw[scan_ret g]
   rfl
  |true=>
   cases hp:Nat.beq p.length 0 with
   |true=>
    have g:c29_L1 (J 7) l (p.length,a,ks)=.go (p.length+1,(c30 x).1,ks):=by
     unfold c29_L1
     dsimp only
     rw[nle_len (a:=l.length) (b:=p.length) om,hx,hb,iEq_n,hp]
     rfl
    rw[scan_go g,ih _ _ e1]
    rfl
   |false=>
    have g:c29_L1 (J 7) l (p.length,a,ks)=.go (p.length+1,a,ks++[(c30 x).1]):=by
     unfold c29_L1
     dsimp only
     rw[nle_len (a:=l.length) (b:=p.length) om,hx,hb,iEq_n,hp]
     rfl
    rw[scan_go g,ih _ _ e1]
    rfl
def r29 (x:Option (Int×List Int)):denL [⟨true,y26⟩,⟨false,.bool⟩]:=Option.rec (zAct,false,()) (fun q=>((J 7,q.1,[],[],[],[],q.2),true,())) x
theorem c29_eq (l:List (List Nat)):c29 (J 7) l=r29 (g29 l 0 (J 0) []):=by
 have h:=c29_scan l l [] (J 0) [] rfl
 have h:scan (c29_L1 (J 7) l) (U l - 0+1) (0,J 0,[])=oo29 l.length (g29 l 0 (J 0) []):=h
 have e:c29 (J 7) l=outE (dfR _) (fun s1=>((J 7,s1.2.1,([]:List Nat),([]:List Nat),[],[],s1.2.2),true,())) (fun r=>r) (scan (c29_L1 (J 7) l) (U l - 0+1) (0,J 0,[])):=by
  unfold c29;kernel_rfl
 rw[e,h]
 cases g29 l 0 (J 0) [] with
 |none=>rfl
 |some q=>rfl
theorem c8_cr {t:List Nat}{l:List (List Nat)} (h:wds t none=w_cr::l):c8 t=cd (cd (!(c29 (J 7) l).2.1) true (!sEq (c6 (J 1,J 0,(c29 (J 7) l).1)).1 t)) (((J 0),(J 0),zAct),false,()) ((J 1,J 0,(c29 (J 7) l).1),true,()):=by
 have e:c27 t=(w_cr::l,()):=by rw[c27_wds,h]
 have e2:List.drop 1 (List.take (U (w_cr::l)) (w_cr::l))=l:=by rw[List.take_length];rfl
 unfold c8 c8_L1 c8_L2
 rw[e]
 dsimp only
 rw[e2]
 show _=_
 kernel_rfl
def n107:List (List Nat)→List Int
 |[]=>[]
 |w::r=>cd (c104 w).2.1 ((c104 w).1::n107 r) (n107 r)
theorem c107_scan (l:List (List Nat)):∀(r p:List (List Nat)) (ks:List Int),l=p++r→scan (c107_L1 l) (r.length+1) (p.length,ks)=.brk (l.length,ks++n107 r)
 |[],p,ks,h=>by
  have hl:l.length=p.length:=by rw[h];simp
  have g:c107_L1 l (p.length,ks)=.brk (p.length,ks):=by
   unfold c107_L1
   dsimp only
   rw[hl,nle_end]
   rfl
  rw[scan_brk g,hl]
  show _=Out.brk (p.length,ks++[])
  rw[List.append_nil]
 |x::r,p,ks,h=>by
  have hl:l.length=p.length+1+r.length:=by rw[h];simp;omega
  have hx:gt .str l p.length=x:=gt_of (t:=.str) (by rw[h];simp)
  have e1:l=(p++[x])++r:=by rw[h];simp
  have e2:(p++[x]).length=p.length+1:=by simp
  have ih:=c107_scan l r (p++[x])
  rw[e2] at ih
  show scan (c107_L1 l) (r.length+1+1) (p.length,ks)=Out.brk (l.length,ks++cd (c104 x).2.1 ((c104 x).1::n107 r) (n107 r))
  cases hb:(c104 x).2.1 with
  |false=>
   have g:c107_L1 l (p.length,ks)=.go (p.length+1,ks):=by
    unfold c107_L1
    dsimp only
    rw[nle_len (a:=l.length) (b:=p.length) om,hx,hb]
    rfl
   rw[scan_go g,ih _ e1]
   rfl
  |true=>
   have g:c107_L1 l (p.length,ks)=.go (p.length+1,ks++[(c104 x).1]):=by
    unfold c107_L1
    dsimp only
    rw[nle_len (a:=l.length) (b:=p.length) om,hx,hb]
    rfl
   rw[scan_go g,ih _ e1,List.append_assoc]
   rfl
theorem c107_eq (l:List (List Nat)):c107 l=(n107 l,()):=by
 have h:=c107_scan l l [] [] rfl
 have h:scan (c107_L1 l) (U l - 0+1) (0,[])=.brk (l.length,n107 l):=h
 unfold c107
 exact outB h
theorem c63_cr (w:List Nat) (rest:List (List Nat)):c63 (w_cr::w::rest)=((J 1,J 0,(J 7,(c104 w).1,[],[],[],[],n107 rest)),()):=by
 have e2:List.drop 2 (List.take (U (w_cr::w::rest)) (w_cr::w::rest))=rest:=by rw[List.take_length];rfl
 unfold c63
 rw[e2,c107_eq]
 cases rest with
 |nil=>show _=_;kernel_rfl
 |cons x r=>show _=_;kernel_rfl
theorem c10_cr {t w:List Nat}{rest:List (List Nat)} (h:wds t none=w_cr::w::rest) (hl:t.length≤1000){a:den y28} (ha:a=(J 1,J 0,(J 7,(c104 w).1,[],[],[],[],n107 rest))):c10 t=cd (cd (!(c11 a).1) true (!sEq (c25 (c26 a).1).1 t)) (((J 0),(J 0),zAct),false,()) (a,true,()):=by
 subst ha
 have e:c62 t=(w_cr::w::rest,()):=by rw[c62_wds,h]
 have e6:iLe (J (U (α:=Nat) t)) (J 6000)=true:=by rw[iLe_n];exact Nc om
 unfold c10 c33
 rw[e]
 dsimp only
 rw[c63_cr,e6]
 generalize (!(c11 (J 1,J 0,(J 7,(c104 w).1,[],[],[],[],n107 rest))).1)=b1
 generalize (!sEq (c25 (c26 (J 1,J 0,(J 7,(c104 w).1,[],[],[],[],n107 rest))).1).1 t)=b2
 cases b1<;>cases b2<;>(show _=_;kernel_rfl)
end Go.Ev
end
noncomputable section
namespace Go.Ev
open Go.Proofs
set_option maxRecDepth 100000
def allq {α:Type} (p:α→Bool) (l:List α):Bool:=List.rec true (fun x _ ih=>cd (p x) ih false) l
theorem allq_mem {α:Type}{p:α→Bool}{x:α}:∀{l:List α},allq p l=true→x∈l→p x=true
 |[],_,h=>by cases h
 |y::l,h,hm=>by
  obtain⟨h1,h2⟩:=cd_true (show cd (p y) (allq p l) false=true from h)
  rcases List.mem_cons.1 hm with rfl|hm
  ·exact h1
  ·exact allq_mem h2 hm
theorem allq_of {α:Type}{p:α→Bool}:∀{l:List α},(∀x∈l,p x=true)→allq p l=true
 |[],_=>rfl
 |y::l,h=>by
  show cd (p y) (allq p l) false=true
  rw[h y (Mc ..),allq_of fun x hx=>h x (Lo _ hx)]
  rfl
def asc (w:List Nat):Bool:=allq (fun c=>Nat.blt c 128) w
def dW (n:Int):List Nat:=itoaN n
def eqIB (q:denL qIB) (n:Int) (b:Bool):Bool:=cd (iEq q.1 n) (cd b q.2.1 (!q.2.1)) false
theorem eqIB_t {q:denL qIB}{n:Int}{b:Bool} (h:eqIB q n b=true):q.1=n∧q.2.1=b:=by
 obtain⟨h1,h2⟩:=cd_true h
 rw[iEq_eq] at h1
 refine⟨by simpa using h1,?_⟩
 cases b with
 |true=>exact h2
 |false=>simpa using(show(!q.2.1)=true from h2)
def wrdB (w:List Nat):Bool:=andL [inT tRi (w,()),inT tNu (w,()),nbW w,!isNilB w,asc w,Nat.ble (U (α:=Nat) w) 5]
def numB (n:Int):Bool:=andL [wrdB (dW n),wrdB (dW n++[120]),inT tDe (n,()),sEq (c20 n).1 (dW n),sEq (c56 n).1 (dW n),eqIB (c30 (dW n)) n true,eqIB (c104 (dW n)) n true,(c46 n (.negSucc 0) (J 1700)).1,(c35 n (.negSucc 0) (J 1700)).1,!(c22 (dW n)).1,inR n,
 !(c30 (dW n++[120])).2.1,eqIB (c104 (dW n++[120])) n false]
theorem num_all:allq numB upDn=true:=kr
theorem in_wrd:wrdB [105,110]=true:=kr
theorem in_ri:(c30 [105,110]).2.1=false:=kr
theorem in_nu:(c104 [105,110]).2.1=false:=kr
theorem keep_all:allq (fun K=>cd (Nat.ble (U (α:=Int) K) 4) (cd (allq inU K) (cd (c91 K).1 (c68 K).1 false) false) false) l_keep=true:=kr
theorem keep_0:allq (fun K=>cd (isNilB (List.rec [] (fun _ _ _=>[0]) K)) true (cd (!(c91 (K++[J 0])).1) (!(c68 (K++[J 0])).1) false)) l_keep=true:=kr
theorem scan_map {α β ρ:Type}{P:(Nat×List β)→Out (Nat×List β) ρ}{L:List α}{g:α→β} (h:∀(i:Nat) (x:α) (acc:List β),L[i]? =some x→P (i,acc)=.go (i+1,acc++[g x])) (hb:∀acc,P (L.length,acc)=.brk (L.length,acc)):∀(r p:List α) (acc:List β),L=p++r→scan P (r.length+1) (p.length,acc)=.brk (L.length,acc++r.map g)
 |[],p,acc,e=>by
  have hl:L.length=p.length:=by rw[e];simp
  have:=hb acc
  rw[hl] at this
  rw[scan_brk (s:=(p.length,acc)) this,hl];simp
 |x::r,p,acc,e=>by
  have e1:L=(p++[x])++r:=by rw[e];simp
  have e2:(p++[x]).length=p.length+1:=by simp
  have ih:=scan_map h hb r (p++[x]) (acc++[g x]) e1
  rw[e2] at ih
  show scan P (r.length+1+1) (p.length,acc)=_
  rw[scan_go (h p.length x acc (by rw[e];simp)),ih]
  simp
theorem c18_cr (A:Int) (K:List Int):(c18 (aCrash A K)).1=w_cr::(c20 A).1::K.map (fun k=>(c20 k).1):=by
 cases K with
 |nil=>kernel_rfl
 |cons k K=>
  have h:=scan_map (P:=c18_L1 (aCrash A (k::K))) (L:=A::k::K) (g:=fun n=>(c20 n).1) (fun i x acc hx=>by
   have hlt:i<(A::k::K).length:=(List.getElem?_eq_some_iff.1 hx).1
   have hg:gt (.int .i64) (A::k::K) i=x:=gt_of (t:=.int .i64) hx
   unfold c18_L1
   dsimp only
   show cd (!iLe (J (U (A::k::K))) (J i)) (Out.go (i+1,acc++[(c20 (gt (.int .i64) (A::k::K) i)).1])) (Out.brk (i,acc))=_
   rw[nle_len hlt,hg]
   rfl) (fun acc=>by
   unfold c18_L1
   dsimp only
   show cd (!iLe (J (U (A::k::K))) (J (U (A::k::K)))) (Out.go (U (A::k::K)+1,acc++[(c20 (gt (.int .i64) (A::k::K) (U (A::k::K)))).1])) (Out.brk (U (A::k::K),acc))=_
   rw[nle_end]
   rfl) (A::k::K) [] [w_cr] rfl
  have e:(c18 (aCrash A (k::K))).1=(outE (dfR [⟨false,(.sl .str)⟩]) (fun s1=>(s1.2,())) (fun r=>r) (scan (c18_L1 (aCrash A (k::K))) ((A::k::K).length+1) (([]:List Int).length,[w_cr]))).1:=kr
  rw[e,h]
  rfl
theorem c26_cr (A:Int) (K:List Int):(c26 (J 1,J 0,aCrash A K)).1=w_cr::(c56 A).1::K.map (fun k=>(c56 k).1):=by
 have h:=scan_map (P:=c55_L1 (aCrash A K)) (L:=K) (g:=fun n=>(c56 n).1) (fun i x acc hx=>by
  have hlt:i<K.length:=(List.getElem?_eq_some_iff.1 hx).1
  have hg:gt (.int .i64) K i=x:=gt_of (t:=.int .i64) hx
  unfold c55_L1
  dsimp only
  show cd (!iLe (J (U K)) (J i)) (Out.go (i+1,acc++[(c56 (gt (.int .i64) K i)).1])) (Out.brk (i,acc))=_
  rw[nle_len hlt,hg]
  rfl) (fun acc=>by
  unfold c55_L1
  dsimp only
  show cd (!iLe (J (U K)) (J (U K))) (Out.go (U K+1,acc++[(c56 (gt (.int .i64) K (U K))).1])) (Out.brk (U K,acc))=_
  rw[nle_end]
  rfl) K [] [w_cr,(c56 A).1] rfl
 have e:(c26 (J 1,J 0,aCrash A K)).1=(outE (dfR [⟨false,(.sl .str)⟩]) (fun s1=>(s1.2,())) (fun r=>r) (scan (c55_L1 (aCrash A K)) (K.length+1) (([]:List Int).length,[w_cr,(c56 A).1]))).1:=kr
 rw[e,h]
 rfl
theorem c21_no {l:List (List Nat)} (h:∀w∈l,(c22 w).1=false):(c21_22 l ()).1=false:=by
 have key:∀(r p:List (List Nat)) (b:Nat),l=p++r→∃s,scan (c50_22_L1 l ()) (r.length+1) (b,p.length)=.brk s:=by
  intro r
  induction r with
  |nil=>
   intro p b e
   have hl:l.length=p.length:=by rw[e];simp
   refine⟨(b,p.length),scan_brk ?_⟩
   unfold c50_22_L1
   dsimp only
   rw[hl,nle_end]
   rfl
  |cons x r ih=>
   intro p b e
   have e1:l=(p++[x])++r:=by rw[e];simp
   have e2:(p++[x]).length=p.length+1:=by simp
   have hlt:p.length<l.length:=by rw[e];simp
   have hg:gt .str l p.length=x:=gt_of (t:=.str) (by rw[e];simp)
   obtain⟨s,hs⟩:=ih (p++[x]) b e1
   rw[e2] at hs
   refine⟨s,?_⟩
   show scan (c50_22_L1 l ()) (r.length+1+1) (b,p.length)=_
   rw[scan_go (s':=(b,p.length+1)) ?_,hs]
   unfold c50_22_L1
   dsimp only
   rw[nle_len hlt,hg,h x (by rw[e];simp)]
   rfl
 obtain⟨s,hs⟩:=key l [] 0 rfl
 have e:c50_22 l ()=(Int.negSucc 0,()):=by
  unfold c50_22
  exact outB (show scan (c50_22_L1 l ()) (U l - 0+1) (0,0)=.brk s from hs)
 unfold c21_22
 rw[e]
 show _=_
 kernel_rfl
theorem map_b8:∀{l:List Nat},asc l=true→List.map b8 (List.map J l)=l
 |[],_=>rfl
 |c::l,h=>by
  obtain⟨h1,h2⟩:=cd_true (show cd (Nat.blt c 128) (asc l) false=true from h)
  have h1:c<128:=Nat.lt_of_succ_le (Nb h1)
  show b8 (J c)::List.map b8 (List.map J l)=c::l
  rw[map_b8 h2]
  have:b8 (J c)=c:=by show Nat.mod c 256=c;exact Nat.mod_eq_of_lt om
  rw[this]
theorem asc_app {a b:List Nat} (h1:asc a=true) (h2:asc b=true):asc (a++b)=true:=allq_of fun x hx=>by
 rcases List.mem_append.1 hx with hx|hx
 ·exact allq_mem (p:=fun c=>Nat.blt c 128) h1 hx
 ·exact allq_mem (p:=fun c=>Nat.blt c 128) h2 hx
theorem asc_join:∀{l:List (List Nat)},(∀w∈l,asc w=true)→asc (joinT [32] l)=true
 |[],_=>rfl
 |y::l,h=>by
  have e:joinT [32] (y::l)=32::(y++joinT [32] l):=by
   show cat [32] (cat y (joinT [32] l))=_
   rw[cat_eq,cat_eq];rfl
  rw[e]
  show cd (Nat.blt 32 128) (asc (y++joinT [32] l)) false=true
  rw[asc_app (h y (Mc ..)) (asc_join fun w hw=>h w (Lo _ hw))]
  rfl
theorem c25_join {l:List (List Nat)} (h:∀w∈l,asc w=true):(c25 l).1=joinN [32] l:=by
 have step:∀(r p:List (List Nat)) (acc:List Int),l=p++r→p≠[]→scan (c25_L1 l) (r.length+1) (p.length,acc)=.brk (l.length,acc++List.map J (joinT [32] r)):=by
  intro r
  induction r with
  |nil=>
   intro p acc e _
   have hl:l.length=p.length:=by rw[e];simp
   rw[hl]
   show scan (c25_L1 l) (0+1) (p.length,acc)=Out.brk (p.length,acc++[])
   rw[List.append_nil]
   refine scan_brk ?_
   unfold c25_L1
   dsimp only
   rw[hl,nle_end]
   rfl
  |cons x r ih=>
   intro p acc e hp
   have e1:l=(p++[x])++r:=by rw[e];simp
   have e2:(p++[x]).length=p.length+1:=by simp
   have hlt:p.length<l.length:=by rw[e];simp
   have hg:gt .str l p.length=x:=gt_of (t:=.str) (by rw[e];simp)
   have h0:0<p.length:=by cases p with|nil=>exact absurd rfl hp|cons=>simp
   have hs:=ih (p++[x]) ((acc++[J 32])++List.map J x) e1 (by simp)
   rw[e2] at hs
   show scan (c25_L1 l) (r.length+1+1) (p.length,acc)=_
   rw[scan_go (s':=(p.length+1,(acc++[J 32])++List.map J x)) ?_,hs]
   ·have e3:joinT [32] (x::r)=32::(x++joinT [32] r):=by
     show cat [32] (cat x (joinT [32] r))=_
     rw[cat_eq,cat_eq];rfl
    rw[e3];simp
   ·unfold c25_L1
    dsimp only
    rw[nle_len hlt,nle_len h0,hg]
    rfl
 cases l with
 |nil=>(show _=_;kernel_rfl)
 |cons x l=>
  have hs:=step l [x] (List.map J x) rfl (by simp)
  have g:scan (c25_L1 (x::l)) (U (x::l) - 0+1) (0,[])=.brk ((x::l).length,List.map J x++List.map J (joinT [32] l)):=by
   show scan (c25_L1 (x::l)) (l.length+1+1) (0,[])=_
   rw[scan_go (s':=(1,List.map J x)) ?_]
   ·exact hs
   ·unfold c25_L1
    dsimp only
    rw[nle_len (a:=(x::l).length) (b:=0) (by simp),nle_end]
    rfl
  have e:c25 (x::l)=(List.map b8 (List.map J x++List.map J (joinT [32] l)),()):=by
   unfold c25
   exact outB g
  rw[e,←List.map_append,joinN_c]
  exact map_b8 (asc_app (h x (Mc ..)) (asc_join fun w hw=>h w (Lo _ hw)))
end Go.Ev
end
noncomputable section
namespace Go.Ev
open Go.Proofs
set_option maxRecDepth 100000
theorem sEq_self (a:List Nat):sEq a a=true:=by rw[sEq_eq];simp
theorem sEq_len {a b:List Nat} (h:a.length≠b.length):sEq a b=false:=by
 cases hb:sEq a b with
 |false=>rfl
 |true=>exact absurd (congrArg U (sEq_t hb)) h
theorem nt {b:Bool} (h:(!b)=true):b=false:=by simpa using h
structure Wrd (w:List Nat):Prop where
 ri:inT tRi (w,())=true
 nu:inT tNu (w,())=true
 nb:nbW w=true
 ne:isNilB w=false
 ac:asc w=true
 ln:w.length≤5
theorem wrd_of {w:List Nat} (h:wrdB w=true):Wrd w:=by
 obtain⟨h1,h⟩:=andL_c h
 obtain⟨h2,h⟩:=andL_c h
 obtain⟨h3,h⟩:=andL_c h
 obtain⟨h4,h⟩:=andL_c h
 obtain⟨h5,h⟩:=andL_c h
 obtain⟨h6,h⟩:=andL_c h
 exact⟨h1,h2,h3,nt h4,h5,Nb h6⟩
structure Num (n:Int):Prop where
 w:Wrd (dW n)
 wx:Wrd (dW n++[120])
 de:inT tDe (n,())=true
 c20:(c20 n).1=dW n
 c56:(c56 n).1=dW n
 v30:(c30 (dW n)).1=n
 f30:(c30 (dW n)).2.1=true
 v104:(c104 (dW n)).1=n
 f104:(c104 (dW n)).2.1=true
 i46:(c46 n (.negSucc 0) (J 1700)).1=true
 i35:(c35 n (.negSucc 0) (J 1700)).1=true
 c22:(c22 (dW n)).1=false
 r:inR n=true
 x30:(c30 (dW n++[120])).2.1=false
 y104:(c104 (dW n++[120])).1=n
 x104:(c104 (dW n++[120])).2.1=false
theorem num_of {n:Int} (hn:n∈upDn):Num n:=by
 have h:=allq_mem num_all hn
 obtain⟨h1,h⟩:=andL_c h
 obtain⟨h2,h⟩:=andL_c h
 obtain⟨h3,h⟩:=andL_c h
 obtain⟨h4,h⟩:=andL_c h
 obtain⟨h5,h⟩:=andL_c h
 obtain⟨h6,h⟩:=andL_c h
 obtain⟨h7,h⟩:=andL_c h
 obtain⟨h8,h⟩:=andL_c h
 obtain⟨h9,h⟩:=andL_c h
 obtain⟨h10,h⟩:=andL_c h
 obtain⟨h11,h⟩:=andL_c h
 obtain⟨h12,h⟩:=andL_c h
 obtain⟨h13,h⟩:=andL_c h
 obtain⟨a6,b6⟩:=eqIB_t h6
 obtain⟨a7,b7⟩:=eqIB_t h7
 obtain⟨a13,b13⟩:=eqIB_t h13
 exact⟨wrd_of h1,wrd_of h2,h3,sEq_t h4,sEq_t h5,a6,b6,a7,b7,h8,h9,nt h10,h11,nt h12,a13,b13⟩
theorem num0:Num (J 0):=num_of (inU_mem kr)
theorem keep_num {K:List Int} (h:K∈l_keep):(∀k∈K,Num k)∧K.length≤4∧(c91 K).1=true∧(c68 K).1=true:=by
 have h1:=allq_mem keep_all h
 obtain⟨h1,h2⟩:=cd_true h1
 obtain⟨h2,h3⟩:=cd_true h2
 obtain⟨h3,h4⟩:=cd_true h3
 exact⟨fun k hk=>num_of (inU_mem (allq_mem h2 hk)),Nb h1,h3,h4⟩
theorem join_len:∀{l:List (List Nat)},(∀w∈l,w.length≤5)→(joinT [32] l).length≤6*l.length
 |[],_=>Nr _
 |y::l,h=>by
  have e:joinT [32] (y::l)=32::(y++joinT [32] l):=by
   show cat [32] (cat y (joinT [32] l))=_
   rw[cat_eq,cat_eq];rfl
  have h1:=h y (Mc ..)
  have h2:=join_len (l:=l) fun w hw=>h w (Lo _ hw)
  rw[e]
  simp only[Lc,La]
  omega
theorem allT_of {rs:List Par}{T:BT (denL qS×denL rs)}:∀{l:List (List Nat)},(∀w∈l,inT T (w,())=true)→allT T l=true
 |[],_=>rfl
 |y::l,h=>by
  show cd (inT T (y,())) (allT T l) false=true
  rw[h y (Mc ..),allT_of fun w hw=>h w (Lo _ hw)]
  rfl
theorem allI_of {rs:List Par}{T:BT (denL qI×denL rs)}:∀{l:List Int},(∀w∈l,inT T (w,())=true)→allI T l=true
 |[],_=>rfl
 |y::l,h=>by
  show cd (inT T (y,())) (allI T l) false=true
  rw[h y (Mc ..),allI_of fun w hw=>h w (Lo _ hw)]
  rfl
def wdL (A:Int) (K:List Int):List (List Nat):=dW A::K.map dW
theorem map_c20 {K:List Int} (h:∀k∈K,Num k):K.map (fun k=>(c20 k).1)=K.map dW:=List.map_congr_left fun k hk=>(h k hk).c20
theorem map_c56 {K:List Int} (h:∀k∈K,Num k):K.map (fun k=>(c56 k).1)=K.map dW:=List.map_congr_left fun k hk=>(h k hk).c56
theorem c18_w {A:Int}{K:List Int} (hA:Num A) (hK:∀k∈K,Num k):(c18 (aCrash A K)).1=w_cr::wdL A K:=by rw[c18_cr,hA.c20,map_c20 hK];rfl
theorem c26_w {A:Int}{K:List Int} (hA:Num A) (hK:∀k∈K,Num k):(c26 (J 1,J 0,aCrash A K)).1=w_cr::wdL A K:=by rw[c26_cr,hA.c56,map_c56 hK];rfl
theorem wd_mem {A:Int}{K:List Int} (hA:Num A) (hK:∀k∈K,Num k){w:List Nat} (h:w∈wdL A K):Wrd w∧(c22 w).1=false:=by
 rcases List.mem_cons.1 h with rfl|h
 ·exact⟨hA.w,hA.c22⟩
 ·obtain⟨k,hk,rfl⟩:=List.mem_map.1 h
  exact⟨(hK k hk).w,(hK k hk).c22⟩
theorem okAct_cr {A:Int}{K:List Int} (hA:Num A) (hK:∀k∈K,Num k) (hl:K.length≤5):okAct (aCrash A K):=by
 have e18:=c18_w hA hK
 have hlen:(wdL A K).length≤6:=by show(K.map dW).length+1≤6;rw[Lm];omega
 have e48:(c48 (aCrash A K)).1=[[],[]]:=kr
 refine⟨kr,kr,Nz _,Nz _,by show K.length≤1000;omega,by rw[e48];decide,by rw[e48];decide,(inR_of hA.r).1,(inR_of hA.r).2,?_,?_,?_,?_⟩
 ·show allq inR (A::K)=true
  refine allq_of fun x hx=>?_
  rcases List.mem_cons.1 hx with rfl|hx
  ·exact hA.r
  ·exact(hK x hx).r
 ·rw[e18];show(wdL A K).length+1≤1000000;omega
 ·rw[e18,joinN_c]
  have:=join_len (l:=wdL A K) fun w hw=>(wd_mem hA hK hw).1.ln
  rw[La]
  have:w_cr.length=5:=rfl
  omega
 ·rw[e18]
  show allq (fun w=>Nat.ble (U (α:=Nat) w) 1000000) (w_cr::wdL A K)=true
  refine allq_of fun x hx=>Nc ?_
  rcases List.mem_cons.1 hx with rfl|hx
  ·decide
  ·have:=(wd_mem hA hK hx).1.ln;omega
section
variable {Bn:Nat} [BOk Bn]
theorem kok6_cr {A:Int}{K:List Int} (hA:Num A) (hK:∀k∈K,Num k) (hl:K.length≤5):KOk PP (GG Bn) 6 pSa pTx ((J 1,J 0,aCrash A K),()) (c6 (J 1,J 0,aCrash A K)):=
 (o6 (Bn:=Bn)).2 ((J 1,J 0,aCrash A K),()) _ (p6 (okSA (k:=J 1) (t:=J 0) (okAct_cr hA hK hl) (by decide) (by decide)))
theorem pre7_cr {A:Int}{K:List Int} (hA:Num A) (hK:∀k∈K,Num k) (hl:K.length≤5):(allT tPl []=true∧allT tPl []=true∧U ([]:List (List Nat))≤1000∧U ([]:List (List Nat))≤1000∧U K≤1000∧inT tDe (A,())=true∧allI tDe K=true∧U (c97 []).1≤2000∧U (c97 []).1≤2000∧inT tDe (J 0,())=true)∧
 allE (c26 (J 1,J 0,aCrash A K)).1=true∧U (c26 (J 1,J 0,aCrash A K)).1≤1000:=by
 have e26:=c26_w hA hK
 have e97:(c97 []).1=[]:=kr
 refine⟨⟨rfl,rfl,Nz _,Nz _,om,hA.de,allI_of fun k hk=>(hK k hk).de,by rw[e97];exact Nz _,by rw[e97];exact Nz _,num0.de⟩,?_,?_⟩
 ·rw[e26]
  show allq (fun x=>cd (nilB x) false (Nat.ble (U (α:=Nat) x) 1000)) (w_cr::wdL A K)=true
  refine allq_of fun x hx=>?_
  rcases List.mem_cons.1 hx with rfl|hx
  ·kernel_rfl
  ·have h:=(wd_mem hA hK hx).1
   have h1:=h.ln
   have h2:=h.ne
   have:nilB x=false:=by cases x with|nil=>cases h2|cons=>rfl
   rw[this,Nc (show x.length≤1000 by omega)]
   rfl
 ·rw[e26];show(K.map dW).length+1+1≤1000;rw[Lm];omega
theorem kok7_cr {A:Int}{K:List Int} (hA:Num A) (hK:∀k∈K,Num k) (hl:K.length≤5):KOk PP (GG Bn) 7 pSa pTx ((J 1,J 0,aCrash A K),()) (c7 (J 1,J 0,aCrash A K)):=by
 obtain⟨⟨h1,h2,h3,h4,h5,h6,h7,h8,h9,h10⟩,h11,h12⟩:=pre7_cr hA hK hl
 exact(o7 (Bn:=Bn)).2 ((J 1,J 0,aCrash A K),()) _ (p7 ⟨h1,h2,h3,h4,h5,h6,h7,h8,h9,h10,h11,h12⟩)
theorem kok8_cr {t:List Nat}{l:List (List Nat)} (hw:wds t none=w_cr::l) (ha:asB t=true) (h1:allT tRi l=true) (h2:l.length≤1000) (h3:okAct (c29 (J 7) l).1):KOk PP (GG Bn) 8 pTx pRd (t,()) (c8 t):=by
 have e:(c27 t).1=w_cr::l:=by rw[c27_wds,hw]
 have e2:List.drop 1 (List.take (U (w_cr::l)) (w_cr::l))=l:=by rw[List.take_length];rfl
 refine(o8 (Bn:=Bn)).2 (t,()) (c8 t) (p8 ⟨ha,fun k k1 k7 hs=>?_,fun k k1 k7 hs hl=>?_⟩)
 ·rw[e] at hs⊢
  rw[e2]
  rcases(show k=1∨k=2∨k=3∨k=4∨k=5∨k=6∨k=7 by omega) with rfl|rfl|rfl|rfl|rfl|rfl|rfl
  ·exact absurd ((show sEq (c28 (J 1)).1 (gt .str (w_cr::l) 0)=false by kernel_rfl).symm.trans hs) (by decide)
  ·exact absurd ((show sEq (c28 (J 2)).1 (gt .str (w_cr::l) 0)=false by kernel_rfl).symm.trans hs) (by decide)
  ·exact absurd ((show sEq (c28 (J 3)).1 (gt .str (w_cr::l) 0)=false by kernel_rfl).symm.trans hs) (by decide)
  ·exact absurd ((show sEq (c28 (J 4)).1 (gt .str (w_cr::l) 0)=false by kernel_rfl).symm.trans hs) (by decide)
  ·exact absurd ((show sEq (c28 (J 5)).1 (gt .str (w_cr::l) 0)=false by kernel_rfl).symm.trans hs) (by decide)
  ·exact absurd ((show sEq (c28 (J 6)).1 (gt .str (w_cr::l) 0)=false by kernel_rfl).symm.trans hs) (by decide)
  ·exact⟨⟨fun h=>absurd h (by decide),fun _=>h1,h2⟩,h3⟩
 ·rw[e] at hs
  rcases(show k=2∨k=3∨k=4∨k=5∨k=6∨k=7 by omega) with rfl|rfl|rfl|rfl|rfl|rfl
  ·exact absurd ((show sEq (c19 (J 2)).1 (gt .str (w_cr::l) 0)=false by kernel_rfl).symm.trans hs) (by decide)
  ·exact absurd ((show sEq (c19 (J 3)).1 (gt .str (w_cr::l) 0)=false by kernel_rfl).symm.trans hs) (by decide)
  ·exact absurd ((show sEq (c19 (J 4)).1 (gt .str (w_cr::l) 0)=false by kernel_rfl).symm.trans hs) (by decide)
  ·exact absurd ((show sEq (c19 (J 5)).1 (gt .str (w_cr::l) 0)=false by kernel_rfl).symm.trans hs) (by decide)
  ·exact absurd ((show sEq (c19 (J 6)).1 (gt .str (w_cr::l) 0)=false by kernel_rfl).symm.trans hs) (by decide)
  ·exact absurd ((show sEq (c19 (J 7)).1 (gt .str (w_cr::l) 0)=false by kernel_rfl).symm.trans hs) (by decide)
theorem pcs_len:∀(t c:List Nat),(pcs t c).length≤t.length+1
 |[],_=>Nr _
 |x::r,c=>by
  show(cd (Nat.beq x 32) (c::pcs r []) (pcs r (c++[x]))).length≤r.length+1+1
  cases Nat.beq x 32 with
  |true=>show(pcs r []).length+1≤_;have:=pcs_len r [];omega
  |false=>show(pcs r (c++[x])).length≤_;have:=pcs_len r (c++[x]);omega
theorem kok10_cr {t w:List Nat}{rest:List (List Nat)} (hw:wds t none=w_cr::w::rest) (ht:t.length≤900) (h1:inT tNu (w,())=true) (h2:allT tNu rest=true) (h3:rest.length≤900) (hA:Num (c104 w).1) (hK:∀k∈n107 rest,Num k) (hl:(n107 rest).length≤5):KOk PP (GG Bn) 10 pTx pRd (t,()) (c10 t):=by
 have e:(c62 t).1=w_cr::w::rest:=by rw[c62_wds,hw]
 have e2:List.drop 2 (List.take (U (w_cr::w::rest)) (w_cr::w::rest))=rest:=by rw[List.take_length];rfl
 have e103:(c103 t).1=pcs t []:=by rw[c103_eq]
 have hp:=pcs_len t []
 refine(o10 (Bn:=Bn)).2 (t,()) (c10 t) (p10 ⟨om,by rw[e103];omega,fun _=>?_,fun hk=>?_,fun _ _=>?_,?_,fun _=>?_⟩)
 ·rw[e];exact h1
 ·rw[e] at hk
  exact absurd ((show iEq (wr .i64 ((c105 w_mains (gt .str (w_cr::w::rest) 0)).1+(J 1))) (J 1)=false by kernel_rfl).symm.trans hk) (by decide)
 ·rw[e,e2];exact h2
 ·rw[e];show rest.length+1+1≤1000;omega
 ·rw[e,c63_cr]
  exact pre7_cr hA hK hl
end
end Go.Ev
end
noncomputable section
namespace Go.Ev
open Go.Proofs
set_option maxRecDepth 100000
def aC (A:Int) (K:List Int):den y28:=(J 1,J 0,aCrash A K)
def tC (A:Int) (K:List Int):List Nat:=joinN [32] (w_cr::wdL A K)
theorem c17_cr (A:Int) (K:List Int):(c17 (aC A K)).1=cd (c46 A (.negSucc 0) (J 1700)).1 (c91 K).1 false:=kr
theorem c11_cr (A:Int) (K:List Int):(c11 (aC A K)).1=cd (c35 A (.negSucc 0) (J 1700)).1 (c68 K).1 false:=kr
theorem c6_at (b:den y26):c6 (J 1,J 0,b)=cd (!(c17 (J 1,J 0,b)).1) (([]:List Nat),()) (cd (c21_22 ((c18 b).1) ()).1 (([]:List Nat),()) ((c24 ((c18 b).1) ([32]:List Nat)).1,())):=by
 unfold c6;show _=_;kernel_rfl
theorem c22_cr:(c22 w_cr).1=false:=kr
theorem c21_wd {A:Int}{K:List Int} (hA:Num A) (hK:∀k∈K,Num k):(c21_22 (w_cr::wdL A K) ()).1=false:=c21_no fun w hw=>by
 rcases List.mem_cons.1 hw with rfl|hw
 ·exact c22_cr
 ·exact(wd_mem hA hK hw).2
theorem c6_t {A:Int}{K:List Int} (hA:Num A) (hK:∀k∈K,Num k) (h:(c91 K).1=true):(c6 (aC A K)).1=tC A K:=by
 have h17:(c17 (J 1,J 0,aCrash A K)).1=true:=by rw[show(c17 (J 1,J 0,aCrash A K)).1=_ from c17_cr A K,hA.i46,h];rfl
 show(c6 (J 1,J 0,aCrash A K)).1=_
 rw[c6_at,h17,c18_w hA hK,c21_wd hA hK]
 rfl
theorem c6_f {A:Int}{K:List Int} (h:(c91 K).1=false):(c6 (aC A K)).1=[]:=by
 have h17:(c17 (J 1,J 0,aCrash A K)).1=false:=by
  rw[show(c17 (J 1,J 0,aCrash A K)).1=_ from c17_cr A K,h]
  cases(c46 A (.negSucc 0) (J 1700)).1<;>rfl
 show(c6 (J 1,J 0,aCrash A K)).1=_
 rw[c6_at,h17]
 rfl
theorem wd_asc {A:Int}{K:List Int} (hA:Num A) (hK:∀k∈K,Num k):∀w∈w_cr::wdL A K,asc w=true:=fun w hw=>by
 rcases List.mem_cons.1 hw with rfl|hw
 ·kernel_rfl
 ·exact(wd_mem hA hK hw).1.ac
theorem c25_t {A:Int}{K:List Int} (hA:Num A) (hK:∀k∈K,Num k):(c25 (c26 (aC A K)).1).1=tC A K:=by
 show(c25 (c26 (J 1,J 0,aCrash A K)).1).1=_
 rw[c26_w hA hK]
 exact c25_join (wd_asc hA hK)
theorem c7_t {A:Int}{K:List Int} (hA:Num A) (hK:∀k∈K,Num k) (h:(c68 K).1=true):(c7 (aC A K)).1=tC A K:=by
 have h11:(c11 (aC A K)).1=true:=by rw[c11_cr,hA.i35,h];rfl
 unfold c7
 rw[h11]
 exact c25_t hA hK
theorem nb_of {l:List (List Nat)} (h:∀w∈l,nbW w=true):nbL l=true:=by
 show allq nbW l=true
 exact allq_of h
theorem nef_ne:∀{l:List (List Nat)},(∀w∈l,isNilB w=false)→nef l=l
 |[],_=>rfl
 |y::l,h=>by
  show cd (isNilB y) (nef l) (y::nef l)=_
  rw[h y (Mc ..),nef_ne fun w hw=>h w (Lo _ hw)]
  rfl
theorem wds_W {l:List (List Nat)} (h:∀w∈l,Wrd w):wds (joinN [32] (w_cr::l)) none=w_cr::l:=by
 rw[wds_joinN (nb_of fun w hw=>by
  rcases List.mem_cons.1 hw with rfl|hw
  ·kernel_rfl
  ·exact(h w hw).nb) kr,nef_ne fun w hw=>(h w hw).ne]
theorem asB_W {l:List (List Nat)} (h:∀w∈l,Wrd w) (hl:l.length≤6):asB (joinN [32] (w_cr::l))=true∧(joinN [32] (w_cr::l)).length≤60:=by
 have h1:=join_len (l:=l) fun w hw=>(h w hw).ln
 have h2:(joinN [32] (w_cr::l)).length≤60:=by
  rw[joinN_c,La]
  have:w_cr.length=5:=rfl
  omega
 refine⟨?_,h2⟩
 show cd (Nat.ble (joinN [32] (w_cr::l)).length 1000) (asc (joinN [32] (w_cr::l))) false=true
 have h3:asc (joinN [32] (w_cr::l))=true:=by
  rw[joinN_c]
  exact asc_app kr (asc_join fun w hw=>(h w hw).ac)
 rw[h3,Nc om]
 rfl
theorem g29_k {A:Int}:∀{K:List Int}{i:Nat}{ks:List Int} (r:List (List Nat)),(∀k∈K,Num k)→g29 (K.map dW++r) (i+1) A ks=g29 r (i+1+K.length) A (ks++K)
 |[],i,ks,r,_=>by simp
 |k::K,i,ks,r,h=>by
  have hk:=h k (Mc ..)
  have ih:=g29_k (A:=A) (K:=K) (i:=i+1) (ks:=ks++[k]) r fun x hx=>h x (Lo _ hx)
  show cd (!(c30 (dW k)).2.1) none (cd (Nat.beq (i+1) 0) _ (g29 (K.map dW++r) (i+1+1) A (ks++[(c30 (dW k)).1])))=_
  rw[hk.f30,hk.v30]
  show g29 (K.map dW++r) (i+1+1) A (ks++[k])=_
  rw[ih,List.append_assoc]
  rw[show i+1+1+K.length=i+1+(k::K).length by simp;omega]
  rfl
theorem g29_w {A:Int}{K:List Int} (hA:Num A) (hK:∀k∈K,Num k) (r:List (List Nat)):g29 (wdL A K++r) 0 (J 0) []=g29 r (1+K.length) A K:=by
 show cd (!(c30 (dW A)).2.1) none (cd (Nat.beq 0 0) (g29 (K.map dW++r) (0+1) (c30 (dW A)).1 []) _)=_
 rw[hA.f30,hA.v30]
 show g29 (K.map dW++r) (0+1) A []=_
 rw[g29_k r hK]
 simp
theorem n107_k:∀{K:List Int} (r:List (List Nat)),(∀k∈K,Num k)→n107 (K.map dW++r)=K++n107 r
 |[],r,_=>rfl
 |k::K,r,h=>by
  have hk:=h k (Mc ..)
  show cd (c104 (dW k)).2.1 ((c104 (dW k)).1::n107 (K.map dW++r)) (n107 (K.map dW++r))=_
  rw[hk.f104,hk.v104,n107_k r fun x hx=>h x (Lo _ hx)]
  rfl
section
variable {Bn:Nat} [BOk Bn]
theorem r8 {t:List Nat}{l:List (List Nat)} (hw:wds t none=w_cr::l){A:Int}{K:List Int} (hg:g29 l 0 (J 0) []=some (A,K)):c8 t=cd (!sEq (c6 (aC A K)).1 t) (((J 0),(J 0),zAct),false,()) (aC A K,true,()):=by
 rw[c8_cr hw,c29_eq,hg]
 rfl
theorem r8n {t:List Nat}{l:List (List Nat)} (hw:wds t none=w_cr::l) (hg:g29 l 0 (J 0) []=none):c8 t=(((J 0),(J 0),zAct),false,()):=by
 rw[c8_cr hw,c29_eq,hg]
 rfl
theorem kk8 {l:List (List Nat)} (h:∀w∈l,Wrd w) (hl:l.length≤6){t:List Nat} (ht:wds t none=w_cr::l) (ha:asB t=true) (ho:okAct (c29 (J 7) l).1):KOk PP (GG Bn) 8 pTx pRd (t,()) (c8 t):=kok8_cr ht ha (allT_of fun w hw=>(h w hw).ri) om ho
theorem ok_some {l:List (List Nat)}{A:Int}{K:List Int} (hg:g29 l 0 (J 0) []=some (A,K)) (hA:Num A) (hK:∀k∈K,Num k) (hl:K.length≤5):okAct (c29 (J 7) l).1:=by
 rw[c29_eq,hg];exact okAct_cr hA hK hl
theorem ok_none {l:List (List Nat)} (hg:g29 l 0 (J 0) []=none):okAct (c29 (J 7) l).1:=by
 rw[c29_eq,hg];exact okAct0
theorem wd_W {A:Int}{K:List Int} (hA:Num A) (hK:∀k∈K,Num k):∀w∈wdL A K,Wrd w:=fun w hw=>(wd_mem hA hK hw).1
theorem wd_len (A:Int) (K:List Int):(wdL A K).length=K.length+1:=by show(K.map dW).length+1=_;rw[Lm]
theorem base8 {A:Int}{K:List Int} (hA:Num A) (hk:K∈l_keep):KOk PP (GG Bn) 8 pTx pRd (tC A K,()) (c8 (tC A K))∧c8 (tC A K)=(aC A K,true,()):=by
 obtain⟨hK,hl,h91,h68⟩:=keep_num hk
 have hg:g29 (wdL A K) 0 (J 0) []=some (A,K):=by have:=g29_w hA hK [];rw[List.append_nil] at this;exact this
 have hw:=wds_W (wd_W hA hK)
 have h1:=asB_W (wd_W hA hK) (by rw[wd_len];omega)
 refine⟨kk8 (wd_W hA hK) (by rw[wd_len];omega) hw h1.1 (ok_some hg hA hK om),?_⟩
 show c8 (joinN [32] (w_cr::wdL A K))=_
 rw[r8 hw hg,c6_t hA hK h91,show tC A K=joinN [32] (w_cr::wdL A K) from rfl,sEq_self]
 rfl
theorem tC_ne (A:Int) (K:List Int):isNilB (tC A K)=false:=by
 show isNilB (joinN [32] (w_cr::wdL A K))=false
 rw[joinN_c]
 rfl
theorem crash_good1 {A:Int}{K:List Int} (hA':A∈upDn) (hk:K∈l_keep):Good1 Bn (aC A K):=by
 have hA:=num_of hA'
 obtain⟨hK,hl,h91,h68⟩:=keep_num hk
 have e6:=c6_t hA hK h91
 have e7:=c7_t hA hK h68
 obtain⟨g1,g2⟩:=base8 (Bn:=Bn) hA hk
 refine⟨kok6_cr hA hK om,kok7_cr hA hK om,by rw[e6,e7],by rw[e6];exact g1,.inr ?_⟩
 rw[e6,g2]
 exact⟨tC_ne A K,rfl,kok6_cr hA hK om,e6,rfl⟩
theorem kk10 {A:Int}{K:List Int}{w:List Nat}{rest:List (List Nat)} (h:∀x∈w::rest,Wrd x) (hl:rest.length≤5){t:List Nat} (ht:wds t none=w_cr::w::rest) (hlen:t.length≤900) (ha:(c104 w).1=A) (hb:n107 rest=K) (hA:Num A) (hK:∀k∈K,Num k) (hkl:K.length≤5):KOk PP (GG Bn) 10 pTx pRd (t,()) (c10 t):=
 kok10_cr ht hlen (h w (Mc ..)).nu (allT_of fun x hx=>(h x (Lo _ hx)).nu) om (by rw[ha];exact hA) (by rw[hb];exact hK) (by rw[hb];exact hkl)
theorem r10 {A:Int}{K:List Int}{w:List Nat}{rest:List (List Nat)}{t:List Nat} (ht:wds t none=w_cr::w::rest) (hlen:t.length≤900) (ha:(c104 w).1=A) (hb:n107 rest=K):c10 t=cd (cd (!(c11 (aC A K)).1) true (!sEq (c25 (c26 (aC A K)).1).1 t)) (((J 0),(J 0),zAct),false,()) (aC A K,true,()):=
 c10_cr ht om (by rw[ha,hb];rfl)
theorem good2_no {t:List Nat} (h1:KOk PP (GG Bn) 8 pTx pRd (t,()) (c8 t)) (h2:KOk PP (GG Bn) 10 pTx pRd (t,()) (c10 t)) (h3:(c8 t).2.1=false) (h4:(c10 t).2.1=false):Good2 Bn t:=⟨h1,h2,by rw[h3,h4],fun h=>by rw[h3] at h;cases h⟩
theorem crash_good2 {A:Int}{K:List Int} (hA':A∈upDn) (hk:K∈l_keep):Good2 Bn (tC A K):=by
 have hA:=num_of hA'
 obtain⟨hK,hl,h91,h68⟩:=keep_num hk
 obtain⟨g1,g2⟩:=base8 (Bn:=Bn) hA hk
 have hw:=wds_W (wd_W hA hK)
 have h1:=asB_W (wd_W hA hK) (by rw[wd_len];omega)
 have hn:n107 (K.map dW)=K:=by have:=n107_k (K:=K) [] hK;simpa[n107] using this
 have h11:(c11 (aC A K)).1=true:=by rw[c11_cr,hA.i35,h68];rfl
 have e10:c10 (tC A K)=(aC A K,true,()):=by
  show c10 (joinN [32] (w_cr::wdL A K))=_
  rw[r10 hw (by have:=h1.2;omega) hA.v104 hn,h11,c25_t hA hK,show tC A K=joinN [32] (w_cr::wdL A K) from rfl,sEq_self]
  rfl
 refine⟨g1,kk10 (fun x hx=>wd_W hA hK x hx) (by rw[Lm];omega) hw (show(joinN [32] (w_cr::wdL A K)).length≤900 by have:=h1.2;omega) hA.v104 hn hA hK om,by rw[g2,e10],fun _=>?_⟩
 rw[g2]
 exact⟨kok6_cr hA hK om,c6_t hA hK h91,h11⟩
end
end Go.Ev
end
noncomputable section
namespace Go.Ev
open Go.Proofs
set_option maxRecDepth 100000
theorem joinT_snoc:∀(l:List (List Nat)) (w:List Nat),joinT [32] (l++[w])=joinT [32] l++(32::w)
 |[],w=>by
  show cat [32] (cat w [])=_
  rw[cat_eq,cat_eq];simp;rfl
 |y::l,w=>by
  have e:∀l',joinT [32] (y::l')=32::(y++joinT [32] l'):=fun l'=>by
   show cat [32] (cat y (joinT [32] l'))=_
   rw[cat_eq,cat_eq];rfl
  show joinT [32] (y::(l++[w]))=_
  rw[e,e,joinT_snoc l w];simp
theorem tC_snoc (A:Int) (K:List Int) (w:List Nat):tC A K++(32::w)=joinN [32] (w_cr::(wdL A K++[w])):=by
 show joinN [32] (w_cr::wdL A K)++(32::w)=_
 rw[joinN_c,joinN_c,joinT_snoc,List.append_assoc]
theorem nef_snoc:∀{l:List (List Nat)},(∀w∈l,isNilB w=false)→nef (l++[[]])=l
 |[],_=>rfl
 |y::l,h=>by
  show cd (isNilB y) (nef (l++[[]])) (y::nef (l++[[]]))=_
  rw[h y (Mc ..),nef_snoc fun w hw=>h w (Lo _ hw)]
  rfl
theorem wrd_app {A:Int}{K:List Int} (hA:Num A) (hK:∀k∈K,Num k){w:List Nat} (hw:Wrd w):∀x∈wdL A K++[w],Wrd x:=fun x hx=>by
 rcases List.mem_append.1 hx with hx|hx
 ·exact wd_W hA hK x hx
 ·rw[List.mem_singleton.1 hx];exact hw
theorem asB_tC {A:Int}{K:List Int} (hA:Num A) (hK:∀k∈K,Num k) (hl:K.length≤4):asc (tC A K)=true∧(tC A K).length≤60:=by
 have h1:=asB_W (wd_W hA hK) (by rw[wd_len];omega)
 obtain⟨h2,h3⟩:=cd_true (show cd (Nat.ble (joinN [32] (w_cr::wdL A K)).length 1000) (asc (joinN [32] (w_cr::wdL A K))) false=true from h1.1)
 exact⟨h3,h1.2⟩
theorem rej10 {b:Bool}{a:den y28}:(cd (cd b true (!false)) (((J 0),(J 0),zAct),false,()) (a,true,()):denL pRd).2.1=false:=by cases b<;>rfl
section
variable {Bn:Nat} [BOk Bn]
theorem suf_sp {A:Int}{K:List Int} (hA:Num A) (hk:K∈l_keep):Good2 Bn (tC A K++[32]):=by
 obtain⟨hK,hl,h91,h68⟩:=keep_num hk
 obtain⟨ha,hn⟩:=asB_tC hA hK hl
 have hw:wds (tC A K++[32]) none=w_cr::wdL A K:=by
  rw[tC_snoc,wds_joinN (nb_of fun w hw=>by
   rcases List.mem_cons.1 hw with rfl|hw
   ·kernel_rfl
   ·rcases List.mem_append.1 hw with hw|hw
    ·exact(wd_W hA hK w hw).nb
    ·rw[List.mem_singleton.1 hw];rfl) kr,nef_snoc fun w hw=>(wd_W hA hK w hw).ne]
 have hlen:(tC A K++[32]).length=(tC A K).length+1:=by simp
 have has:asB (tC A K++[32])=true:=by
  show cd (Nat.ble (tC A K++[32]).length 1000) (asc (tC A K++[32])) false=true
  rw[asc_app ha kr,Nc om];rfl
 have hg:g29 (wdL A K) 0 (J 0) []=some (A,K):=by have:=g29_w hA hK [];rw[List.append_nil] at this;exact this
 have hs:sEq (tC A K) (tC A K++[32])=false:=sEq_len om
 have hn107:n107 (K.map dW)=K:=by have:=n107_k (K:=K) [] hK;simpa[n107] using this
 refine good2_no (kk8 (wd_W hA hK) (by rw[wd_len];omega) hw has (ok_some hg hA hK om)) (kk10 (fun x hx=>wd_W hA hK x hx) (by rw[Lm];omega) hw om hA.v104 hn107 hA hK om) ?_ ?_
 ·rw[r8 hw hg,c6_t hA hK h91,hs];rfl
 ·rw[r10 hw om hA.v104 hn107,c25_t hA hK,hs];exact rej10
theorem suf_in {A:Int}{K:List Int} (hA:Num A) (hk:K∈l_keep):Good2 Bn (tC A K++[32,105,110]):=by
 obtain⟨hK,hl,h91,h68⟩:=keep_num hk
 obtain⟨ha,hn⟩:=asB_tC hA hK hl
 have hW:=wrd_app hA hK (wrd_of in_wrd)
 have e:tC A K++[32,105,110]=joinN [32] (w_cr::(wdL A K++[[105,110]])):=tC_snoc A K [105,110]
 have hlen:(tC A K++[32,105,110]).length=(tC A K).length+3:=by simp
 have hw:wds (tC A K++[32,105,110]) none=w_cr::(wdL A K++[[105,110]]):=by rw[e];exact wds_W hW
 have has:asB (tC A K++[32,105,110])=true:=by
  show cd (Nat.ble (tC A K++[32,105,110]).length 1000) (asc (tC A K++[32,105,110])) false=true
  rw[asc_app ha kr,Nc om];rfl
 have hg:g29 (wdL A K++[[105,110]]) 0 (J 0) []=none:=by
  rw[g29_w hA hK]
  show cd (!(c30 [105,110]).2.1) none _=none
  rw[in_ri];rfl
 have hs:sEq (tC A K) (tC A K++[32,105,110])=false:=sEq_len om
 have ecs:wdL A K++[[105,110]]=dW A::(K.map dW++[[105,110]]):=List.cons_append ..
 have hw':=hw
 rw[ecs] at hw'
 have hn107:n107 (K.map dW++[[105,110]])=K:=by
  rw[n107_k _ hK]
  show K++cd (c104 [105,110]).2.1 _ []=K
  rw[in_nu];simp[cd]
 refine good2_no (kk8 hW (by rw[La,wd_len];simp;omega) hw has (ok_none hg)) (kk10 (w:=dW A) (rest:=K.map dW++[[105,110]]) (fun x hx=>hW x (by show x∈(dW A::K.map dW)++[[105,110]];rw[List.cons_append];exact hx)) (by rw[La,Lm];simp;omega) hw' om hA.v104 hn107 hA hK om) ?_ ?_
 ·rw[r8n hw hg]
 ·rw[r10 (w:=dW A) (rest:=K.map dW++[[105,110]]) hw' om hA.v104 hn107,c25_t hA hK,hs];exact rej10
theorem dW0:dW (J 0)=[48]:=kr
theorem suf_0 {A:Int}{K:List Int} (hA':A∈upDn) (hk:K∈l_keep):Good2 Bn (tC A K++[32,48]):=by
 have hA:=num_of hA'
 obtain⟨hK,hl,h91,h68⟩:=keep_num hk
 have hK0:∀k∈K++[J 0],Num k:=fun k hk=>by
  rcases List.mem_append.1 hk with hk|hk
  ·exact hK k hk
  ·rw[List.mem_singleton.1 hk];exact num0
 have ewd:wdL A K++[[48]]=wdL A (K++[J 0]):=by
  show dW A::(K.map dW++[[48]])=dW A::(K++[J 0]).map dW
  rw[List.map_append,←dW0];rfl
 have e:tC A K++[32,48]=tC A (K++[J 0]):=by
  rw[show[32,48]=32::[48] from rfl,tC_snoc,ewd];rfl
 cases hK1:isNilB (List.rec [] (fun _ _ _=>[0]) K) with
 |true=>
  have:K=[]:=by cases K with|nil=>rfl|cons=>cases hK1
  subst this
  rw[e]
  exact crash_good2 hA' (inK_mem kr)
 |false=>
  have h0:=allq_mem keep_0 hk
  replace h0:cd (isNilB (List.rec [] (fun _ _ _=>[0]) K)) true (cd (!(c91 (K++[J 0])).1) (!(c68 (K++[J 0])).1) false)=true:=h0
  rw[hK1] at h0
  obtain⟨g1,g2⟩:=cd_true (show cd (!(c91 (K++[J 0])).1) (!(c68 (K++[J 0])).1) false=true from h0)
  have hl2:(K++[J 0]).length=K.length+1:=by simp
  have hW:=wd_W hA hK0
  have hw:wds (tC A (K++[J 0])) none=w_cr::wdL A (K++[J 0]):=wds_W hW
  have h1:=asB_W hW (by rw[wd_len];omega)
  have hg:g29 (wdL A (K++[J 0])) 0 (J 0) []=some (A,K++[J 0]):=by have:=g29_w hA hK0 [];rw[List.append_nil] at this;exact this
  have hn107:n107 ((K++[J 0]).map dW)=K++[J 0]:=by have:=n107_k (K:=K++[J 0]) [] hK0;simpa[n107] using this
  have hlen:(tC A (K++[J 0])).length≤60:=h1.2
  have hs:sEq [] (tC A (K++[J 0]))=false:=by
   have:=tC_ne A (K++[J 0])
   generalize tC A (K++[J 0])=t at this
   cases t with
   |nil=>cases this
   |cons=>rfl
  have h11:(c11 (aC A (K++[J 0]))).1=false:=by rw[c11_cr,nt g2];cases(c35 A (.negSucc 0) (J 1700)).1<;>rfl
  rw[e]
  refine good2_no (kk8 hW (by rw[wd_len];omega) hw h1.1 (ok_some hg hA hK0 om)) (kk10 (fun x hx=>hW x hx) (by rw[Lm];omega) hw om hA.v104 hn107 hA hK0 om) ?_ ?_
  ·rw[r8 hw hg,c6_f (nt g1),hs];rfl
  ·rw[r10 hw om hA.v104 hn107,h11];rfl
theorem suf_x {A:Int}{K:List Int} (hA:Num A) (hk:K∈l_keep):Good2 Bn (tC A K++[120]):=by
 obtain⟨hK,hl,h91,h68⟩:=keep_num hk
 obtain⟨ha,hn⟩:=asB_tC hA hK hl
 have hlen:(tC A K++[120]).length=(tC A K).length+1:=by simp
 have has:asB (tC A K++[120])=true:=by
  show cd (Nat.ble (tC A K++[120]).length 1000) (asc (tC A K++[120])) false=true
  rw[asc_app ha kr,Nc om];rfl
 rcases List.eq_nil_or_concat K with h|⟨K',k,h⟩
 ·subst h
  have hW:∀x∈[dW A++[120]],Wrd x:=fun x hx=>by rw[List.mem_singleton.1 hx];exact hA.wx
  have e:tC A []++[120]=joinN [32] (w_cr::[dW A++[120]]):=by
   show joinN [32] (w_cr::([]++[dW A]))++[120]=joinN [32] (w_cr::([]++[dW A++[120]]))
   rw[joinN_c,joinN_c,joinT_snoc,joinT_snoc];simp
  have hw:wds (tC A []++[120]) none=w_cr::[dW A++[120]]:=by rw[e];exact wds_W hW
  have hg:g29 [dW A++[120]] 0 (J 0) []=none:=by
   show cd (!(c30 (dW A++[120])).2.1) none _=none
   rw[hA.x30];rfl
  have hs:sEq (tC A []) (tC A []++[120])=false:=sEq_len om
  refine good2_no (kk8 hW (by simp) hw has (ok_none hg)) (kk10 (K:=[]) hW (by simp) hw om hA.y104 rfl hA (fun k hk=>by cases hk) (by simp)) ?_ ?_
  ·rw[r8n hw hg]
  ·rw[r10 (K:=[]) hw om hA.y104 rfl,c25_t hA (fun k hk=>by cases hk),hs];exact rej10
 ·have h:K=K'++[k]:=by rw[h];simp
  subst h
  have hk1:Num k:=hK k (by simp)
  have hK':∀x∈K',Num x:=fun x hx=>hK x (by simp[hx])
  have hl':(K'++[k]).length=K'.length+1:=by simp
  have hW:=wrd_app hA hK' hk1.wx
  have ewd:wdL A (K'++[k])=wdL A K'++[dW k]:=by
   show dW A::(K'++[k]).map dW=dW A::(K'.map dW++[dW k])
   rw[List.map_append];rfl
  have e:tC A (K'++[k])++[120]=joinN [32] (w_cr::(wdL A K'++[dW k++[120]])):=by
   show joinN [32] (w_cr::wdL A (K'++[k]))++[120]=_
   rw[ewd,joinN_c,joinN_c,joinT_snoc,joinT_snoc];simp
  have e2:tC A (K'++[k])=tC A K'++(32::dW k):=by
   rw[tC_snoc,←ewd];rfl
  have hw:wds (tC A (K'++[k])++[120]) none=w_cr::(wdL A K'++[dW k++[120]]):=by rw[e];exact wds_W hW
  have hg:g29 (wdL A K'++[dW k++[120]]) 0 (J 0) []=none:=by
   rw[g29_w hA hK']
   show cd (!(c30 (dW k++[120])).2.1) none _=none
   rw[hk1.x30];rfl
  have hn107:n107 (K'.map dW++[dW k++[120]])=K':=by
   rw[n107_k _ hK']
   show K'++cd (c104 (dW k++[120])).2.1 _ []=K'
   rw[hk1.x104];simp[cd]
  have ecs:wdL A K'++[dW k++[120]]=dW A::(K'.map dW++[dW k++[120]]):=List.cons_append ..
  have hw':=hw
  rw[ecs] at hw'
  have hs:sEq (tC A K') (tC A (K'++[k])++[120])=false:=sEq_len (by rw[hlen,e2];simp;omega)
  refine good2_no (kk8 hW (by rw[La,wd_len];simp;omega) hw has (ok_none hg)) (kk10 (w:=dW A) (rest:=K'.map dW++[dW k++[120]]) (fun x hx=>hW x (by show x∈(dW A::K'.map dW)++[dW k++[120]];rw[List.cons_append];exact hx)) (by rw[La,Lm];simp;omega) hw' om hA.v104 hn107 hA hK' om) ?_ ?_
  ·rw[r8n hw hg]
  ·rw[r10 (w:=dW A) (rest:=K'.map dW++[dW k++[120]]) hw' om hA.v104 hn107,c25_t hA hK',hs];exact rej10
theorem c7_keep {A:Int}{K:List Int} (hA:Num A) (hk:K∈l_keep):(c7 (aC A K)).1=tC A K:=by
 obtain⟨hK,hl,h91,h68⟩:=keep_num hk
 exact c7_t hA hK h68
theorem crash_texts {A:Int}{K:List Int} (hA':A∈upDn) (hk:K∈l_keep):Good2 Bn (c7 (aC A K)).1∧∀s∈l_suf,Good2 Bn (cat (c7 (aC A K)).1 s):=by
 have hA:=num_of hA'
 rw[c7_keep hA hk]
 refine⟨crash_good2 hA' hk,fun s hs=>?_⟩
 rw[cat_eq]
 have hs:s=[32]∨s=[32,48]∨s=[32,105,110]∨s=[120]:=by simpa[l_suf] using hs
 rcases hs with rfl|rfl|rfl|rfl
 ·exact suf_sp hA hk
 ·exact suf_0 hA' hk
 ·exact suf_in hA hk
 ·exact suf_x hA hk
end
end Go.Ev
end
