/- A part of the proof that FnActWords returns true for every input and leaves its argument as it was; no condition. -/
import Derived.Test.YtccagicppnmelaaGreatDoorQj
import Derived.Test.YtccagicppnmelaaGreatDoorQg
import Derived.Test.YtccagicppnmelaaGreatDoorQa
set_option linter.all false
open List renaming length→U
open Int renaming ofNat→J,toNat→Jn
noncomputable section
namespace Go.Ev
open Go.Proofs
abbrev ySrc:Ty:=.pair (.sl (.int .u8)) (.pair (.int .i64) (.int .u64))
abbrev tyAct1:Ty:=.pair (.int .i64) (.pair (.int .i64) (.pair .str (.pair .str (.pair (.sl .str) (.pair (.sl .str) (.sl (.int .i64)))))))
abbrev pAct:List Par:=[⟨true,tyAct1⟩]
abbrev ySites:Ty:=.pair (.int .i64) (.pair (.int .i64) tyAct1)
abbrev pSites:List Par:=[⟨true,ySites⟩]
def upTo (n:Int):List (denL [⟨false,(.int .i64)⟩]):=Int.rec (fun k=>Nat.rec [] (fun i ih=>(J i,())::ih) k) (fun _=>[]) n
theorem upTo_mem {n v:Int} (h0:@LE.le Int _ 0 v) (h1:@LT.lt Int _ v n):((v,()):denL [⟨false,(.int .i64)⟩])∈upTo n:=by
 cases n with
 |negSucc k=>omega
 |ofNat k=>
  show((v,()):denL [⟨false,(.int .i64)⟩])∈(Nat.rec [] (fun i ih=>(J i,())::ih) k:List (denL [⟨false,(.int .i64)⟩]))
  induction k with
  |zero=>exact absurd h1 (by show¬v<((0:Nat):Int);omega)
  |succ k ih=>
   by_cases hv:v=(k:Int)
   ·subst hv;exact Mc ..
   ·exact Lo _ (ih (by show v<((k:Nat):Int);have:v<((k+1:Nat):Int):=h1;omega))
theorem upTo_pos {n:Int} (h:upTo n≠[]):@LE.le Int _ 1 n:=by
 cases n with
 |negSucc k=>exact absurd rfl h
 |ofNat k=>
  cases k with
  |zero=>exact absurd rfl h
  |succ k=>show(1:Int)≤((k+1:Nat):Int);omega
def inD (rs:List Par) (l:List (denL rs)) (y:denL rs):Bool:=List.rec false (fun x _ ih=>cd (eqDL rs x y) true ih) l
theorem inD_mem {rs:List Par}{y:denL rs}:∀{l:List (denL rs)},inD rs l y=true→y∈l
 |[],h=>by cases h
 |x::l,h=>by
  have h:cd (eqDL rs x y) true (inD rs l y)=true:=h
  cases hb:eqDL rs x y with
  |true=>rw[eqDL_eq rs x y hb];exact Mc ..
  |false=>rw[hb] at h;exact Lo _ (inD_mem h)
def l_keep:List (List Int):=[[],[J0],[J0,J1],[J0,J2],[J0,J1,J2],[J0,J1,J3],[J0,J2,J3],[J0,J2,J4],[J0,J1,J2,J3],[J0,J1,J2,J4],[J0,J1,J3,J4],[J0,J1,J3,J5],[J0,J2,J3,J4],[J0,J2,J3,J5],[J0,J2,J4,J5],[J0,J2,J4,J6],[J1],[J1,J2],[J1,J3],[J1,J2,J3],[J1,J2,J4],[J1,J3,J4],[J1,J3,J5],[J1,J2,J3,J4],[J1,J2,J3,J5],[J1,J2,J4,J5],[J1,J2,J4,J6],[J1,J3,J4,J5],[J1,J3,J4,J6],[J1,J3,J5,J6],[J1,J3,J5,J7],[J2],[J2,J3],[J2,J4],[J2,J3,J4],[J2,J3,J5],[J2,J4,J5],[J2,J4,J6],[J2,J3,J4,J5],[J2,J3,J4,J6],[J2,J3,J5,J6],[J2,J3,J5,J7],[J2,J4,J5,J6],[J2,J4,J5,J7],[J2,J4,J6,J7],[J2,J4,J6,J8]]
def aCrash (A:Int) (K:List Int):den tyAct1:=(J7,A,[],[],[],[],K)
def upDn:List Int:=.negSucc 0::List.rec [] (fun q _ ih=>q.1::ih) (upTo (J 200))
def mapL {α β:Type} (g:α→β) (l:List α) (t:List β):List β:=List.rec t (fun x _ ih=>g x::ih) l
theorem mapL_mem {α β:Type}{g:α→β}{t:List β}{x:α}:∀{l:List α},x∈l→g x∈mapL g l t
 |[],h=>by cases h
 |y::l,h=>by
  rcases List.mem_cons.1 h with rfl|h
  ·exact Mc ..
  ·exact Lo _ (mapL_mem h)
theorem mapL_tail {α β:Type}{g:α→β}{t:List β}{y:β} (h:y∈t):∀{l:List α},y∈mapL g l t
 |[]=>h
 |_::l=>Lo _ (mapL_tail h (l:=l))
def crashL (t:List (denL pAct)):List (denL pAct):=List.rec t (fun K _ ih=>mapL (fun A=>(aCrash A K,())) upDn ih) l_keep
theorem crash_mem {A:Int}{K:List Int}{t:List (denL pAct)} (hA:A∈upDn) (hK:K∈l_keep):((aCrash A K,()):denL pAct)∈crashL t:=by
 unfold crashL
 generalize l_keep=L at hK
 induction L with
 |nil=>cases hK
 |cons K' L ih=>
  rcases List.mem_cons.1 hK with rfl|hK
  ·exact mapL_mem (g:=fun A=>((aCrash A K,()):denL pAct)) hA
  ·exact mapL_tail (ih hK)
theorem mapL_inv {α β:Type}{g:α→β}{t:List β}{y:β}:∀{l:List α},y∈mapL g l t→y∈t∨∃x∈l,y=g x
 |[],h=>.inl h
 |z::l,h=>by
  rcases List.mem_cons.1 h with rfl|h
  ·exact .inr ⟨z,Mc ..,rfl⟩
  ·rcases mapL_inv (l:=l) h with h|⟨x,h1,h2⟩
   ·exact .inl h
   ·exact .inr ⟨x,Lo _ h1,h2⟩
theorem crash_inv {y:denL pAct}{t:List (denL pAct)} (h:y∈crashL t):y∈t∨∃A∈upDn,∃K∈l_keep,y=(aCrash A K,()):=by
 unfold crashL at h
 generalize l_keep=L at h⊢
 induction L with
 |nil=>exact .inl h
 |cons K L ih=>
  rcases mapL_inv (l:=upDn) h with h|⟨A,h1,h2⟩
  ·rcases ih h with h|⟨A,h1,K',h2,h3⟩
   ·exact .inl h
   ·exact .inr ⟨A,h1,K',Lo _ h2,h3⟩
  ·exact .inr ⟨A,h1,K,Mc ..,h2⟩
def inU (n:Int):Bool:=Int.rec (fun k=>Nat.blt k 200) (fun k=>Nat.beq k 0) n
theorem inU_mem {n:Int} (h:inU n=true):n∈upDn:=by
 cases n with
 |negSucc k=>
  have:k=0:=Nq h
  subst this
  exact Mc ..
 |ofNat k=>
  have hk:k<200:=Nb h
  refine Lo _ ?_
  have hm:=upTo_mem (n:=J 200) (v:=.ofNat k) (by show(0:Int)≤((k:Nat):Int);omega) (by show((k:Nat):Int)<((200:Nat):Int);omega)
  generalize upTo (J 200)=L at hm
  induction L with
  |nil=>cases hm
  |cons q L ih=>
   rcases List.mem_cons.1 hm with h|h
   ·rw[←h];exact Mc ..
   ·exact Lo _ (ih h)
def inK (L:List (List Int)) (K:List Int):Bool:=List.rec false (fun x _ ih=>cd (eqT (.sl (.int .i64)) x K) true ih) L
theorem inK_mem {K:List Int}:∀{L:List (List Int)},inK L K=true→K∈L
 |[],h=>by cases h
 |x::L,h=>by
  have h:cd (eqT (.sl (.int .i64)) x K) true (inK L K)=true:=h
  cases hb:eqT (.sl (.int .i64)) x K with
  |true=>rw[eqT_eq (.sl (.int .i64)) x K hb];exact Mc ..
  |false=>rw[hb] at h;exact Lo _ (inK_mem h)
def isCr (y:denL pAct):Bool:=cd (eqDL pAct y (aCrash y.1.2.1 y.1.2.2.2.2.2.2,())) (cd (inU y.1.2.1) (inK l_keep y.1.2.2.2.2.2.2) false) false
theorem isCr_mem {y:denL pAct}{t:List (denL pAct)} (h:isCr y=true):y∈crashL t:=by
 obtain⟨h1,h2⟩:=cd_true h
 obtain⟨h2,h3⟩:=cd_true h2
 rw[eqDL_eq pAct _ _ h1]
 exact crash_mem (inU_mem h2) (inK_mem h3)
def l_small:List (denL pAct):=[((J1,J0,[74,79,66],[65,68,68],[[49],[49]],[[105,110]],[]),()),((J1,J0,[74,79,66],[65,68,68],[[49],[50]],[[105,110]],[]),()),((J1,J0,[74,79,66],[65,68,68],[[49],[53]],[[105,110]],[]),()),((J1,J0,[74,79,66],[65,68,68],[[50],[49]],[[105,110]],[]),()),((J1,J0,[74,79,66],[65,68,68],[[50],[50]],[[105,110]],[]),()),((J1,J0,[74,79,66],[65,68,68],[[50],[53]],[[105,110]],[]),()),((J1,J0,[74,79,66],[65,68,68],[[97],[49]],[[105,110]],[]),()),((J1,J0,[74,79,66],[65,68,68],[[97],[50]],[[105,110]],[]),()),((J1,J0,[74,79,66],[65,68,68],[[97],[53]],[[105,110]],[]),()),((J1,J0,[74,79,66],[77,79,86,69],[[49],[49]],[[105,110]],[]),()),((J1,J0,[74,79,66],[77,79,86,69],[[49],[50]],[[105,110]],[]),()),((J1,J0,[74,79,66],[77,79,86,69],[[49],[53]],[[105,110]],[]),()),((J1,J0,[74,79,66],[77,79,86,69],[[50],[49]],[[105,110]],[]),()),((J1,J0,[74,79,66],[77,79,86,69],[[50],[50]],[[105,110]],[]),()),((J1,J0,[74,79,66],[77,79,86,69],[[50],[53]],[[105,110]],[]),()),((J1,J0,[74,79,66],[77,79,86,69],[[97],[49]],[[105,110]],[]),()),((J1,J0,[74,79,66],[77,79,86,69],[[97],[50]],[[105,110]],[]),()),((J1,J0,[74,79,66],[77,79,86,69],[[97],[53]],[[105,110]],[]),()),((J1,J0,[74,79,66],[82,65,87],[[49],[49]],[[105,110]],[]),()),((J1,J0,[74,79,66],[82,65,87],[[49],[50]],[[105,110]],[]),()),((J1,J0,[74,79,66],[82,65,87],[[49],[53]],[[105,110]],[]),()),((J1,J0,[74,79,66],[82,65,87],[[50],[49]],[[105,110]],[]),()),((J1,J0,[74,79,66],[82,65,87],[[50],[50]],[[105,110]],[]),()),((J1,J0,[74,79,66],[82,65,87],[[50],[53]],[[105,110]],[]),()),((J1,J0,[74,79,66],[82,65,87],[[97],[49]],[[105,110]],[]),()),((J1,J0,[74,79,66],[82,65,87],[[97],[50]],[[105,110]],[]),()),((J1,J0,[74,79,66],[82,65,87],[[97],[53]],[[105,110]],[]),()),((J1,J0,[74,79,66],[72,69,76,68],[[49],[49]],[[105,110]],[]),()),((J1,J0,[74,79,66],[72,69,76,68],[[49],[50]],[[105,110]],[]),()),((J1,J0,[74,79,66],[72,69,76,68],[[49],[53]],[[105,110]],[]),()),((J1,J0,[74,79,66],[72,69,76,68],[[50],[49]],[[105,110]],[]),()),((J1,J0,[74,79,66],[72,69,76,68],[[50],[50]],[[105,110]],[]),()),((J1,J0,[74,79,66],[72,69,76,68],[[50],[53]],[[105,110]],[]),()),((J1,J0,[74,79,66],[72,69,76,68],[[97],[49]],[[105,110]],[]),()),((J1,J0,[74,79,66],[72,69,76,68],[[97],[50]],[[105,110]],[]),()),((J1,J0,[74,79,66],[72,69,76,68],[[97],[53]],[[105,110]],[]),()),((J1,J0,[74,79,66],[84,82,89],[[49],[49]],[[105,110]],[]),()),((J1,J0,[74,79,66],[84,82,89],[[49],[50]],[[105,110]],[]),()),((J1,J0,[74,79,66],[84,82,89],[[49],[53]],[[105,110]],[]),()),((J1,J0,[74,79,66],[84,82,89],[[50],[49]],[[105,110]],[]),()),((J1,J0,[74,79,66],[84,82,89],[[50],[50]],[[105,110]],[]),()),((J1,J0,[74,79,66],[84,82,89],[[50],[53]],[[105,110]],[]),()),((J1,J0,[74,79,66],[84,82,89],[[97],[49]],[[105,110]],[]),()),((J1,J0,[74,79,66],[84,82,89],[[97],[50]],[[105,110]],[]),()),((J1,J0,[74,79,66],[84,82,89],[[97],[53]],[[105,110]],[]),()),((J1,J0,[74,79,66],[66,79,84,72],[[49],[49]],[[105,110]],[]),()),((J1,J0,[74,79,66],[66,79,84,72],[[49],[50]],[[105,110]],[]),()),((J1,J0,[74,79,66],[66,79,84,72],[[49],[53]],[[105,110]],[]),()),((J1,J0,[74,79,66],[66,79,84,72],[[50],[49]],[[105,110]],[]),()),((J1,J0,[74,79,66],[66,79,84,72],[[50],[50]],[[105,110]],[]),()),((J1,J0,[74,79,66],[66,79,84,72],[[50],[53]],[[105,110]],[]),()),((J1,J0,[74,79,66],[66,79,84,72],[[97],[49]],[[105,110]],[]),()),((J1,J0,[74,79,66],[66,79,84,72],[[97],[50]],[[105,110]],[]),()),((J1,J0,[74,79,66],[66,79,84,72],[[97],[53]],[[105,110]],[]),()),((J1,J0,[74,79,66],[83,85,77],[[49],[49]],[[105,110]],[]),()),((J1,J0,[74,79,66],[83,85,77],[[49],[50]],[[105,110]],[]),()),((J1,J0,[74,79,66],[83,85,77],[[49],[53]],[[105,110]],[]),()),((J1,J0,[74,79,66],[83,85,77],[[50],[49]],[[105,110]],[]),()),((J1,J0,[74,79,66],[83,85,77],[[50],[50]],[[105,110]],[]),()),((J1,J0,[74,79,66],[83,85,77],[[50],[53]],[[105,110]],[]),()),((J1,J0,[74,79,66],[83,85,77],[[97],[49]],[[105,110]],[]),()),((J1,J0,[74,79,66],[83,85,77],[[97],[50]],[[105,110]],[]),()),((J1,J0,[74,79,66],[83,85,77],[[97],[53]],[[105,110]],[]),()),((J1,J0,[74,79,66],[65,83,75],[[49],[49]],[[105,110]],[]),()),((J1,J0,[74,79,66],[65,83,75],[[49],[50]],[[105,110]],[]),()),((J1,J0,[74,79,66],[65,83,75],[[49],[53]],[[105,110]],[]),()),((J1,J0,[74,79,66],[65,83,75],[[50],[49]],[[105,110]],[]),()),((J1,J0,[74,79,66],[65,83,75],[[50],[50]],[[105,110]],[]),()),((J1,J0,[74,79,66],[65,83,75],[[50],[53]],[[105,110]],[]),()),((J1,J0,[74,79,66],[65,83,75],[[97],[49]],[[105,110]],[]),()),((J1,J0,[74,79,66],[65,83,75],[[97],[50]],[[105,110]],[]),()),((J1,J0,[74,79,66],[65,83,75],[[97],[53]],[[105,110]],[]),()),((J1,J0,[74,79,66],[83,80,73,78],[[49],[49]],[[105,110]],[]),()),((J1,J0,[74,79,66],[83,80,73,78],[[49],[50]],[[105,110]],[]),()),((J1,J0,[74,79,66],[83,80,73,78],[[49],[53]],[[105,110]],[]),()),((J1,J0,[74,79,66],[83,80,73,78],[[50],[49]],[[105,110]],[]),()),((J1,J0,[74,79,66],[83,80,73,78],[[50],[50]],[[105,110]],[]),()),((J1,J0,[74,79,66],[83,80,73,78],[[50],[53]],[[105,110]],[]),()),((J1,J0,[74,79,66],[83,80,73,78],[[97],[49]],[[105,110]],[]),()),((J1,J0,[74,79,66],[83,80,73,78],[[97],[50]],[[105,110]],[]),()),((J1,J0,[74,79,66],[83,80,73,78],[[97],[53]],[[105,110]],[]),()),((J1,J0,[74,79,66],[82,79,76,76],[[49],[49]],[[105,110]],[]),()),((J1,J0,[74,79,66],[82,79,76,76],[[49],[50]],[[105,110]],[]),()),((J1,J0,[74,79,66],[82,79,76,76],[[49],[53]],[[105,110]],[]),()),((J1,J0,[74,79,66],[82,79,76,76],[[50],[49]],[[105,110]],[]),()),((J1,J0,[74,79,66],[82,79,76,76],[[50],[50]],[[105,110]],[]),()),((J1,J0,[74,79,66],[82,79,76,76],[[50],[53]],[[105,110]],[]),()),((J1,J0,[74,79,66],[82,79,76,76],[[97],[49]],[[105,110]],[]),()),((J1,J0,[74,79,66],[82,79,76,76],[[97],[50]],[[105,110]],[]),()),((J1,J0,[74,79,66],[82,79,76,76],[[97],[53]],[[105,110]],[]),()),((J1,J0,[74,79,66],[66,65,68],[[49],[49]],[[105,110]],[]),()),((J1,J0,[74,79,66],[66,65,68],[[49],[50]],[[105,110]],[]),()),((J1,J0,[74,79,66],[66,65,68],[[49],[53]],[[105,110]],[]),()),((J1,J0,[74,79,66],[66,65,68],[[50],[49]],[[105,110]],[]),()),((J1,J0,[74,79,66],[66,65,68],[[50],[50]],[[105,110]],[]),()),((J1,J0,[74,79,66],[66,65,68],[[50],[53]],[[105,110]],[]),()),((J1,J0,[74,79,66],[66,65,68],[[97],[49]],[[105,110]],[]),()),((J1,J0,[74,79,66],[66,65,68],[[97],[50]],[[105,110]],[]),()),((J1,J0,[74,79,66],[66,65,68],[[97],[53]],[[105,110]],[]),()),((J1,J0,[74,79,66],[78,69,83,84],[[49],[49]],[[105,110]],[]),()),((J1,J0,[74,79,66],[78,69,83,84],[[49],[50]],[[105,110]],[]),()),((J1,J0,[74,79,66],[78,69,83,84],[[49],[53]],[[105,110]],[]),()),((J1,J0,[74,79,66],[78,69,83,84],[[50],[49]],[[105,110]],[]),()),((J1,J0,[74,79,66],[78,69,83,84],[[50],[50]],[[105,110]],[]),()),((J1,J0,[74,79,66],[78,69,83,84],[[50],[53]],[[105,110]],[]),()),((J1,J0,[74,79,66],[78,69,83,84],[[97],[49]],[[105,110]],[]),()),((J1,J0,[74,79,66],[78,69,83,84],[[97],[50]],[[105,110]],[]),()),((J1,J0,[74,79,66],[78,69,83,84],[[97],[53]],[[105,110]],[]),()),((J1,J0,[74,79,66],[83,76,79,87],[[49],[49]],[[105,110]],[]),()),((J1,J0,[74,79,66],[83,76,79,87],[[49],[50]],[[105,110]],[]),()),((J1,J0,[74,79,66],[83,76,79,87],[[49],[53]],[[105,110]],[]),()),((J1,J0,[74,79,66],[83,76,79,87],[[50],[49]],[[105,110]],[]),()),((J1,J0,[74,79,66],[83,76,79,87],[[50],[50]],[[105,110]],[]),()),((J1,J0,[74,79,66],[83,76,79,87],[[50],[53]],[[105,110]],[]),()),((J1,J0,[74,79,66],[83,76,79,87],[[97],[49]],[[105,110]],[]),()),((J1,J0,[74,79,66],[83,76,79,87],[[97],[50]],[[105,110]],[]),()),((J1,J0,[74,79,66],[83,76,79,87],[[97],[53]],[[105,110]],[]),()),((J3,J0,[],[],[],[],[]),()),((J4,J0,[],[],[],[],[]),()),((J5,J0,[],[],[],[],[]),()),((J5,J1,[],[],[],[],[]),()),((J5,J2,[],[],[],[],[]),()),((J5,J3,[],[],[],[],[]),()),((J6,J0,[],[],[],[],[]),()),((J2,J1,[],[],[],[],[]),()),((J2,J2,[],[],[],[],[]),()),((J2,J3,[],[],[],[],[]),()),((J2,J4,[],[],[],[],[]),())]
def actL:List (denL pAct):=crashL l_small
def l_sites:List (denL pSites):=[((J2,J0,(J0,J0,[],[],[],[],[])),()),((J3,J0,(J0,J0,[],[],[],[],[])),()),((J3,J1,(J0,J0,[],[],[],[],[])),()),((J3,J2,(J0,J0,[],[],[],[],[])),()),((J4,J0,(J0,J0,[],[],[],[],[])),()),((J4,J1,(J0,J0,[],[],[],[],[])),()),((J4,J2,(J0,J0,[],[],[],[],[])),()),((J5,J0,(J0,J0,[],[],[],[],[])),()),((J5,J1,(J0,J0,[],[],[],[],[])),()),((J5,J2,(J0,J0,[],[],[],[],[])),()),((J6,J0,(J0,J0,[],[],[],[],[])),()),((J7,J0,(J0,J0,[],[],[],[],[])),()),((J1,J0,(J4,J0,[],[],[],[],[])),())]
def mainA (a:den tyAct1):denL pSites:=((J1,J0,a),())
def sitesE:List (denL pSites):=mapL (fun a=>mainA a.1) l_small l_sites
def sitesL:List (denL pSites):=mapL (fun a=>mainA a.1) (crashL []) sitesE
def l_suf:List (List Nat):=[[32],[32,48],[32,105,110],[120]]
def l_lab:List (List Nat):=[[65,68,68],[77,79,86,69],[82,65,87],[72,69,76,68],[84,82,89],[66,79,84,72],[83,85,77],[65,83,75],[83,80,73,78],[82,79,76,76],[66,65,68],[78,69,83,84],[83,76,79,87]]
def l_arg:List (List (List Nat)):=[[[49],[49]],[[49],[50]],[[49],[53]],[[50],[49]],[[50],[50]],[[50],[53]],[[97],[49]],[[97],[50]],[[97],[53]]]
inductive Zv where
 |int (a:Int)
 |cr (a:den tyAct1)
 |lab (a:List Nat)
 |arg (a:List (List Nat))
 |sit (a:den ySites)
 |suf (a:List Nat)
 |bit (a:Int)
 |ge (a:Int)
 |pw
def Zok:Zv→Prop
 |.int a=>a∈upDn
 |.cr a=>((a,()):denL pAct)∈crashL []
 |.lab a=>a∈l_lab
 |.arg a=>a∈l_arg
 |.sit a=>((a,()):denL pSites)∈sitesL
 |.suf a=>a∈l_suf
 |.bit a=>a=J0∨a=J1
 |.ge a=>@LE.le Int _ 10 a∧@LE.le Int _ a 13
 |.pw=>True
structure Bg where
 m:Nat
 z:List Zv
def Src (B:Int) (m:Bg) (σ:den ySrc):Prop:=(allB σ.1=true∧@LE.le Int _ 0 σ.2.1∧@LE.le Int _ (σ.2.1+(m.m:Int)) B)∧∀z∈m.z,Zok z
def Adv (k:Nat) (x q:den ySrc):Prop:=allB q.1=true∧@LE.le Int _ 0 q.2.1∧@LE.le Int _ q.2.1 (x.2.1+(k:Int))
structure Dr where
 f:Nat
 ps:List Par
 rs:List Par
 use:Nat
 ch:denL ps→List (denL rs)
 ob:Option (denL ps):=none
 os:Option (den ySrc):=none
 en:denL ps→List (denL rs):=ch
 sy:denL ps→List ((denL rs→denL rs)×(denL rs→List Zv)):=fun _=>[]
abbrev dr0 (f:Nat) (ps rs:List Par) (use:Nat) (ch:denL ps→List (denL rs)) (ob:Option (denL ps)):Dr:=⟨f,ps,rs,use,ch,ob,none,ch,fun _=>[]⟩
abbrev drS (f:Nat) (ps rs:List Par) (use:Nat) (ch:denL ps→List (denL rs)) (ob:Option (denL ps)) (en:denL ps→List (denL rs)) (sy:denL ps→List ((denL rs→denL rs)×(denL rs→List Zv))):Dr:=⟨f,ps,rs,use,ch,ob,none,en,sy⟩
def Dr.at_ (d:Dr) (x:denL d.ps):Prop:=∀w,d.ob=some w→x=w
def DrQ (Bn:Nat) (d:Dr) (x0:den ySrc) (x:denL d.ps) (q:den ySrc×denL d.rs):Prop:=q.2∈d.ch x∧Adv d.use x0 q.1∧KOkM PP (GG Bn) d.f none 99 ySrc d.ps d.rs x0 x q.1 q.2
def DrEn (d:Dr):Prop:=∀x,∀y∈d.ch x,y∈d.en x∨∃p∈d.sy x,y=p.1 y∧∀v∈p.2 y,Zok v
theorem drEn0 {d:Dr} (h:∀x,d.en x=d.ch x):DrEn d:=fun x y hy=>.inl (by rw[h];exact hy)
def DrOk (Bn:Nat) (d:Dr):Prop:=(wfR d.rs=true∧DrEn d)∧∀x0 x,allB x0.1=true→@LE.le Int _ 0 x0.2.1→@LE.le Int _ (x0.2.1+(d.use:Int)) 1000000000→d.ch x≠[]→d.at_ x→(∀w,d.os=some w→x0=w)→∃q,DrQ Bn d x0 x q
open Classical in
def Dr.F (Bn:Nat) (d:Dr) (x0:den ySrc) (x:denL d.ps):Option (den ySrc×denL d.rs):=if h:∃q,DrQ Bn d x0 x q then some h.choose else none
def Dr.con (Bn:Nat) (d:Dr):ConM:=⟨d.f,ySrc,99,d.ps,d.rs,d.F Bn,none⟩
theorem Dr.F_of {Bn:Nat}{d:Dr}{x0:den ySrc}{x:denL d.ps} (h:∃q,DrQ Bn d x0 x q):∃q,d.F Bn x0 x=some q∧DrQ Bn d x0 x q:=
 ⟨h.choose,by unfold Dr.F;rw[dif_pos h],h.choose_spec⟩
theorem Dr.ok {Bn:Nat}{d:Dr} (h:DrOk Bn d):OM Bn (d.con Bn):=⟨h.1.1,fun x0 x x1 y hF=>by
 have hF:d.F Bn x0 x=some (x1,y):=hF
 unfold Dr.F at hF
 by_cases hq:∃q,DrQ Bn d x0 x q
 ·rw[dif_pos hq] at hF
  have hs:=hq.choose_spec
  rw[Oi hF] at hs
  exact hs.2.2
 ·rw[dif_neg hq] at hF;cases hF⟩
def nxS (Bn:Nat) (d:Dr) (x0:den ySrc) (x:denL d.ps):den ySrc:=Option.rec x0 (fun q=>q.1) (d.F Bn x0 x)
def vaS (Bn:Nat) (d:Dr) (x0:den ySrc) (x:denL d.ps):denL d.rs:=Option.rec (dfR d.rs) (fun q=>q.2) (d.F Bn x0 x)
structure Fc where
 f:Nat
 ps:List Par
 rs:List Par
 x:denL ps
 y:denL rs
def FcOk (Bn:Nat) (c:Fc):Prop:=wfR c.rs=true∧KOk PP (GG Bn) c.f c.ps c.rs c.x c.y
open Classical in
def Fc.con (c:Fc):Con:=⟨c.f,c.ps,c.rs,fun x=>if x=c.x then some c.y else none⟩
theorem Fc.F_eq {c:Fc}:c.con.F c.x=some c.y:=by unfold Fc.con;simp
theorem Fc.ok {Bn:Nat}{c:Fc} (h:FcOk Bn c):OK Bn c.con:=⟨h.1,fun x y hF=>by
 have hF:(open Classical in if x=c.x then some c.y else none)=some y:=hF
 by_cases hx:x=c.x
 ·rw[if_pos hx] at hF;obtain rfl:=Oi hF;subst hx;exact h.2
 ·rw[if_neg hx] at hF;cases hF⟩
structure Fl where
 f:Nat
 ps:List Par
 rs:List Par
 l:List (denL ps×denL rs)
 sel:denL ps→Nat
open Classical in
def flF {ps rs:List Par} (l:List (denL ps×denL rs)) (x:denL ps):Option (denL rs):=List.rec none (fun q _ ih=>if x=q.1 then some q.2 else ih) l
def FlOk (Bn:Nat) (c:Fl):Prop:=wfR c.rs=true∧(∀q∈c.l,KOk PP (GG Bn) c.f c.ps c.rs q.1 q.2)∧∀k q,nth c.l k=some q→flF c.l q.1=some q.2
def Fl.con (c:Fl):Con:=⟨c.f,c.ps,c.rs,flF c.l⟩
theorem flF_mem {ps rs:List Par}{x:denL ps}{y:denL rs}:∀{l:List (denL ps×denL rs)},flF l x=some y→(x,y)∈l
 |[],h=>by cases h
 |q::l,h=>by
  have h:(open Classical in if x=q.1 then some q.2 else flF l x)=some y:=h
  by_cases hx:x=q.1
  ·rw[if_pos hx] at h;obtain rfl:=Oi h;subst hx;exact Mc ..
  ·rw[if_neg hx] at h;exact Lo _ (flF_mem h)
theorem Fl.ok {Bn:Nat}{c:Fl} (h:FlOk Bn c):OK Bn c.con:=⟨h.1,fun _ _ hF=>h.2.1 _ (flF_mem hF)⟩
structure Fm where
 f:Nat
 t:Ty
 el:TypeId
 ps:List Par
 rs:List Par
 x0:den t
 l:List (denL ps×denL rs)
 sel:denL ps→Nat
abbrev fm1 (f:Nat) (t:Ty) (el:TypeId) (ps rs:List Par) (x0:den t) (x:denL ps) (y:denL rs):Fm:=⟨f,t,el,ps,rs,x0,[(x,y)],fun _=>0⟩
def FmOk (Bn:Nat) (c:Fm):Prop:=wfR c.rs=true∧(∀q∈c.l,KOkM PP (GG Bn) c.f none c.el c.t c.ps c.rs c.x0 q.1 c.x0 q.2)∧∀k q,nth c.l k=some q→flF c.l q.1=some q.2
open Classical in
def fmF (c:Fm) (x0:den c.t) (x:denL c.ps):Option (den c.t×denL c.rs):=if x0=c.x0 then Option.rec none (fun y=>some (c.x0,y)) (flF c.l x) else none
def Fm.con (c:Fm):ConM:=⟨c.f,c.t,c.el,c.ps,c.rs,fmF c,none⟩
theorem fmF_eq {c:Fm}{x:denL c.ps}{y:denL c.rs} (h:flF c.l x=some y):fmF c c.x0 x=some (c.x0,y):=by
 unfold fmF;rw[if_pos rfl,h]
theorem fmF_inv {c:Fm}{x0 x1:den c.t}{x:denL c.ps}{y:denL c.rs} (h:fmF c x0 x=some (x1,y)):x0=c.x0∧x1=c.x0∧flF c.l x=some y:=by
 unfold fmF at h
 by_cases hx:x0=c.x0
 ·rw[if_pos hx] at h
  cases hy:flF c.l x with
  |none=>rw[hy] at h;cases h
  |some y'=>
   rw[hy] at h
   have hF2:=Oi (show some (c.x0,y')=some (x1,y) from h)
   injection hF2 with e1 e2
   exact⟨hx,e1.symm,by rw[e2]⟩
 ·rw[if_neg hx] at h;cases h
theorem Fm.ok {Bn:Nat}{c:Fm} (h:FmOk Bn c):OM Bn c.con:=⟨h.1,fun(x0:den c.t) (x:denL c.ps) (x1:den c.t) (y:denL c.rs) hF=>by
 obtain⟨h1,h2,h3⟩:=fmF_inv hF
 subst h1;subst h2
 exact h.2.1 _ (flF_mem h3)⟩
theorem one_sel {ps rs:List Par}{x:denL ps}{y:denL rs}:∀k q,nth [(x,y)] k=some q→flF [(x,y)] q.1=some q.2:=fun k q h=>by
 cases k with
 |zero=>obtain rfl:=Oi (show some (x,y)=some q from h);show(open Classical in if x=x then some y else none)=some y;exact if_pos rfl
 |succ k=>cases(show(none:Option (denL ps×denL rs))=some q from h)
inductive Ob where
 |l (ps:List Par) (x y:denL ps)
 |v (x y:List (List (Option AV)))
def Ob.ok:Ob→Prop
 |.l _ x y=>x=y
 |.v x y=>x=y
def Ob.dup:Ob→Ob
 |.l ps _ y=>.l ps y y
 |.v _ y=>.v y y
abbrev W:Type:=Option (List Ob)
def Eqs (l:List Ob):Prop:=∀e∈l,e.ok
structure Fs where
 f:Nat
 ps:List Par
 rs:List Par
 P:denL ps→Prop
 y:denL ps→denL rs
 ob:denL ps→List Zv→Option (List Ob)
open Classical in
def Fs.con (c:Fs):Con:=⟨c.f,c.ps,c.rs,fun x=>if c.P x then some (c.y x) else none⟩
def FsOk (Bn:Nat) (c:Fs):Prop:=wfR c.rs=true∧(∀x,c.P x→KOk PP (GG Bn) c.f c.ps c.rs x (c.y x))∧∀x z l,c.ob x z=some l→Eqs l→(∀v∈z,Zok v)→c.P x
theorem Fs.ok {Bn:Nat}{c:Fs} (h:FsOk Bn c):OK Bn c.con:=⟨h.1,fun x y hF=>by
 have hF:(open Classical in if c.P x then some (c.y x) else none)=some y:=hF
 by_cases hx:c.P x
 ·rw[if_pos hx] at hF;obtain rfl:=Oi hF;exact h.2.1 x hx
 ·rw[if_neg hx] at hF;cases hF⟩
def ob1 (t:Ty) (x y:den t):Ob:=.l [⟨true,t⟩] (x,()) (y,())
def obL (ps:List Par) (x y:denL ps):Ob:=.l ps x y
theorem ob1_eq {t:Ty}{x y:den t} (h:(ob1 t x y).ok):x=y:=congrArg Prod.fst (show((x,()):den t×Unit)=(y,()) from h)
def wDup (w:W):W:=Option.rec none (fun l=>some (List.rec [] (fun e _ ih=>e.dup::ih) l)) w
theorem Ob.dup_ok {e:Ob} (h:e=e.dup):e.ok:=by
 cases e with
 |l ps x y=>injection h
 |v x y=>injection h
theorem dup_eqs:∀{l:List Ob},l=List.rec [] (fun e _ ih=>e.dup::ih) l→Eqs l
 |[],_=>fun e h=>by cases h
 |e::l,h=>by
  have h1:e::l=e.dup::List.rec [] (fun e _ ih=>e.dup::ih) l:=h
  injection h1 with h1 h2
  intro e' he
  rcases List.mem_cons.1 he with rfl|he
  ·exact Ob.dup_ok h1
  ·exact dup_eqs h2 e' he
theorem w_ok {w:W} (h1:(Option.rec false (fun _=>true) w:Bool)=true) (h2:w=wDup w):∃l,w=some l∧Eqs l:=by
 cases w with
 |none=>cases h1
 |some l=>exact⟨l,rfl,dup_eqs (Oi h2)⟩
def wAdd (a:List Ob) (b:W):W:=Option.rec none (fun l=>some (a++l)) b
def wAll {α:Type} (l:List α) (g:α→W):W:=List.rec (some []) (fun y _ ih=>Option.rec none (fun a=>wAdd a ih) (g y)) l
def wBth (a b:W):W:=Option.rec none (fun l=>wAdd l b) a
theorem wAdd_some {a:List Ob}{b:W}{l:List Ob} (h:wAdd a b=some l):∃c,b=some c∧l=a++c:=by
 cases b with
 |none=>cases h
 |some c=>exact⟨c,rfl,(Oi h).symm⟩
theorem wBth_some {a b:W}{l:List Ob} (h:wBth a b=some l):∃c d,a=some c∧b=some d∧l=c++d:=by
 cases a with
 |none=>cases h
 |some c=>
  obtain⟨d,h1,h2⟩:=wAdd_some (show wAdd c b=some l from h)
  exact⟨c,d,rfl,h1,h2⟩
theorem wAll_mem {α:Type}{g:α→W}{y:α}:∀{l:List α}{eqs:List Ob},wAll l g=some eqs→y∈l→∃e1,g y=some e1∧∀e∈e1,e∈eqs
 |[],_,_,h=>by cases h
 |z::l,eqs,h,hm=>by
  have h:(Option.rec none (fun a=>wAdd a (wAll l g)) (g z):W)=some eqs:=h
  cases hz:g z with
  |none=>rw[hz] at h;cases h
  |some a=>
   rw[hz] at h
   obtain⟨c,h1,h2⟩:=wAdd_some h
   subst h2
   rcases List.mem_cons.1 hm with rfl|hm
   ·exact⟨a,hz,fun e he=>Lj _ he⟩
   ·obtain⟨e1,h3,h4⟩:=wAll_mem h1 hm
    exact⟨e1,h3,fun e he=>Lk _ (h4 e he)⟩
def slA (a:AV):Option Id:=match a with
 |.sl p _ _ _ _ _=>some p
 |_=>none
def slB (a:AV):Option Id:=match a with
 |.ag cs=>List.rec none (fun c _ ih=>Option.rec ih (fun p=>some p) (slA c)) cs
 |a=>slA a
def slI (l:List AV):Option Id:=List.rec none (fun a _ ih=>Option.rec ih (fun p=>some p) (slB a)) l
def givB (ps:List Par) (l:List AV) (h:H) (p:Id) (b:Option Blk):Option (List AV×H):=match b with
 |some (.cs el xs fz)=>Option.rec none (fun x=>some (encL ps x,h.put p .dead)) (decL ⟨0,T.set p (.cs el xs fz) .e⟩ ps l)
 |_=>none
def giv (ps:List Par) (l:List AV) (h:H):Option (List AV×H):=
 Option.rec (Option.rec none (fun p=>givB ps l h p (h.get p)) (slI l)) (fun _=>some (l,h)) (decL H0 ps l)
theorem giv_ok {Bn:Nat} [BOk Bn]{ps:List Par}{l:List AV}{e:Env}{vs:List Value}{q:List AV×H} (hs:St e) (hgr:GRel (GG Bn) e) (h:giv ps l e.h=some q) (hr:RelL e l vs):∃e2:Env,e2.h=q.2∧e2.w=e.w∧St e2∧Ext e e2∧RelL e2 q.1 vs:=by
 unfold giv at h
 cases h0:decL H0 ps l with
 |some x=>
  rw[h0] at h
  obtain rfl:=Oi (show some (l,e.h)=some q from h)
  exact⟨e,rfl,rfl,hs,Ext.refl e,hr⟩
 |none=>
  rw[h0] at h
  replace h:(Option.rec none (fun p=>givB ps l e.h p (e.h.get p)) (slI l):Option (List AV×H))=some q:=h
  cases hp:slI l with
  |none=>rw[hp] at h;cases h
  |some p=>
   rw[hp] at h
   replace h:givB ps l e.h p (e.h.get p)=some q:=h
   unfold givB at h
   split at h
   ·rename_i el xs fz hb
    cases hx:decL ⟨0,T.set p (.cs el xs fz) .e⟩ ps l with
    |none=>rw[hx] at h;cases h
    |some x=>
     rw[hx] at h
     obtain rfl:=Oi (show some (encL ps x,e.h.put p .dead)=some q from h)
     let e2:Env:=⟨e.ρ,e.h.put p .dead,e.w,e.F⟩
     have hget:∀id,e2.h.get id=if id=p then some .dead else e.h.get id:=fun id=>put_get _ _ _ _
     have hlv:∀id,live e2.h id↔live e.h id∧id≠p:=fun id=>by
      constructor
      ·rintro ⟨b,hb,hd⟩
       rw[hget] at hb
       by_cases hh:id=p
       ·rw[if_pos hh] at hb;injection hb with hb;exact absurd hb.symm hd
       ·rw[if_neg hh] at hb;exact⟨⟨b,hb,hd⟩,hh⟩
      ·rintro ⟨⟨b,hb,hd⟩,hh⟩
       exact⟨b,by rw[hget,if_neg hh];exact hb,hd⟩
     have hlp:live e.h p:=⟨_,hb,by simp⟩
     have hown:∀b,Own e2 b→Own e b:=fun b ⟨id,h1,h2⟩=>⟨id,((hlv id).1 h1).1,h2⟩
     have hi:Mle (mm e) (mm e2):=⟨fun b (hb:Imm e b)=>⟨hb.1,hb.2.1,fun h=>hb.2.2 (hown b h)⟩,Nr _⟩
     have hx2:Ext e e2:={
      next:=Nr _
      kn:=fun _ h=>h
      ren:=fun _ _=>rfl
      fr:=rfl
      qt:=⟨rfl,rfl,rfl⟩
      heap:=Nr _
      keep:=fun _ _ _=>rfl
      size:=fun _ _=>rfl
      own:=fun b _ h=>hown b h
      pres:=fun id b hb=>by
       rw[hget]
       by_cases hh:id=p
       ·rw[if_pos hh];exact⟨_,rfl⟩
       ·rw[if_neg hh];exact⟨b,hb⟩
      newk:=fun _ h=>.inl h}
     have hs2:St e2:={
      kn:=fun id hk=>by
       obtain⟨k,h1,h2,h3⟩:=hs.kn id hk
       exact⟨k,h1,h2,fun hl=>by obtain⟨b,hb⟩:=h3 hl;exact hx2.pres id b hb⟩
      dk:=fun id b hb'=>by
       rw[hget] at hb'
       by_cases hh:id=p
       ·rw[hh];exact hs.dk p _ hb
       ·rw[if_neg hh] at hb';exact hs.dk id b hb'
      lo:=hs.lo
      blk:=fun id b hb'=>by
       rw[hget] at hb'
       by_cases hh:id=p
       ·rw[if_pos hh] at hb';injection hb' with hb';subst hb';trivial
       ·rw[if_neg hh] at hb'
        exact BlkRel.ext hx2 (hs.dk id b hb') rfl b (hs.blk id b hb')
      inj:=fun id id' h1 h2 he=>hs.inj id id' ((hlv id).1 h1).1 ((hlv id').1 h2).1 he
      fr:=fun b hb'=>⟨(hs.fr b hb').1,fun h=>(hs.fr b hb').2 (hown b h)⟩}
     have himp:Imm e2 (e.ρ p).1:=⟨hs.lt hlp,fun h=>(hs.fr _ h).2 ⟨p,hlp,rfl⟩,fun⟨id,h1,h2⟩=>((hlv id).1 h1).2 (hs.inj id p ((hlv id).1 h1).1 hlp h2)⟩
     have hhd:∀id,(⟨0,T.set p (.cs el xs fz) .e⟩:H).get id=if id=p then some (.cs el xs fz) else none:=fun id=>by
      show T.get id (T.set p _ .e)=_
      rw[T.get_set,T.get_e]
     refine⟨e2,rfl,rfl,hs2,hx2,decL_rel (e2:=e2) (hd:=⟨0,T.set p (.cs el xs fz) .e⟩) hs rfl hi (fun id b hb'=>?_) (fun id hl=>?_) (by show 1073741824≤e.F.B;rw[hgr.1];exact BOk.lo (B:=Bn)) ps l x vs hx hr⟩
     ·rw[hhd] at hb'
      by_cases hh:id=p
      ·rw[if_pos hh] at hb';rw[hh,hb];exact hb'
      ·rw[if_neg hh] at hb';cases hb'
     ·obtain⟨b,hb',_⟩:=hl
      rw[hhd] at hb'
      by_cases hh:id=p
      ·rw[hh];exact himp
      ·rw[if_neg hh] at hb';cases hb'
   ·cases h
def tlL (l:List AV):List AV:=match l with
 |_::r=>r
 |[]=>[]
def hdL (l:List AV):AV:=match l with
 |a::_=>a
 |[]=>.j
def callMG (c:ConM) (args:List AV) (h:H):R:=Option.rec .no (fun q=>callM c (hdL args::q.1) q.2) (giv c.ps (tlL args) h)
def callCG (c:Con) (args:List AV) (h:H):R:=Option.rec (callC c args h) (fun q=>callC c q.1 q.2) (giv c.ps args h)
def callOfMG (M:List ConM) (call:CallF):CallF:=fun f args h=>List.rec (call f args h) (fun c _ ih=>cd (Nat.beq c.f f) (callMG c args h) ih) M
def callOfG (L:List Con) (call:CallF):CallF:=fun f args h=>List.rec (call f args h) (fun c _ ih=>cd (Nat.beq c.f f) (callCG c args h) ih) L
section
variable {Bn:Nat} [BOk Bn]
theorem callMG_ok {c:ConM} (hc:OM Bn c){args:List AV}{r:AV}{h':H}{e:Env}{vs:List Value} (hr:callMG c args e.h=.ok r h') (hs:St e) (hg:GRel (GG Bn) e) (hrel:RelL e args vs):
 Does PP c.f vs.toArray e.w (fun v w'=>∃e',e'.w=w'∧e'.h=h'∧St e'∧Ext e e'∧Rel e' r v):=by
 unfold callMG at hr
 cases hgv:giv c.ps (tlL args) e.h with
 |none=>rw[hgv] at hr;cases hr
 |some q=>
  rw[hgv] at hr
  replace hr:callM c (hdL args::q.1) q.2=.ok r h':=hr
  cases args with
  |nil=>
   unfold callM at hr
   have:idA c.fs (hdL [])=none:=by show idA c.fs .j=none;cases c.fs<;>rfl
   simp only[this] at hr
   cases hr
  |cons a rest=>
   cases vs with
   |nil=>simp[RelL] at hrel
   |cons v vs=>
    simp only[RelL] at hrel
    obtain⟨e2,h1,h2,h3,h4,h5⟩:=giv_ok hs hg hgv hrel.2
    rw[←h1] at hr
    have:=callM_ok (G:=GG Bn) (BOk.lo (B:=Bn)) hc hr h3 (hg.ext h4) (vs:=v::vs) (by simp only[RelL];exact⟨Rel.ext h4 _ _ hrel.1,h5⟩)
    rw[h2] at this
    refine Does.mono this ?_
    rintro cv w' ⟨e',g1,g2,g3,g4,g5⟩
    exact⟨e',g1,g2,g3,h4.trans g4,g5⟩
theorem callCG_ok {c:Con} (hc:OK Bn c){args:List AV}{r:AV}{h':H}{e:Env}{vs:List Value} (hr:callCG c args e.h=.ok r h') (hs:St e) (hg:GRel (GG Bn) e) (hrel:RelL e args vs):
 Does PP c.f vs.toArray e.w (fun v w'=>∃e',e'.w=w'∧e'.h=h'∧St e'∧Ext e e'∧Rel e' r v):=by
 unfold callCG at hr
 cases hgv:giv c.ps args e.h with
 |none=>rw[hgv] at hr;exact callC_ok (G:=GG Bn) (BOk.lo (B:=Bn)) hc hr hs hg hrel
 |some q=>
  rw[hgv] at hr
  replace hr:callC c q.1 q.2=.ok r h':=hr
  obtain⟨e2,h1,h2,h3,h4,h5⟩:=giv_ok hs hg hgv hrel
  rw[←h1] at hr
  have:=callC_ok (G:=GG Bn) (BOk.lo (B:=Bn)) hc hr h3 (hg.ext h4) h5
  rw[h2] at this
  refine Does.mono this ?_
  rintro cv w' ⟨e',g1,g2,g3,g4,g5⟩
  exact⟨e',g1,g2,g3,h4.trans g4,g5⟩
theorem callOfMG_ok {call:CallF} (hk:CallOK PP (GG Bn) call):∀{M:List ConM},OklM Bn M→CallOK PP (GG Bn) (callOfMG M call)
 |[],_=>hk
 |c::M,h=>fun f args r h' e vs hr hs hg hrel=>by
  have hr:cd (Nat.beq c.f f) (callMG c args e.h) (callOfMG M call f args e.h)=.ok r h':=hr
  cases hb:Nat.beq c.f f with
  |true=>
   rw[hb] at hr
   obtain rfl:=Nq hb
   exact callMG_ok (h c (Mc ..)) hr hs hg hrel
  |false=>
   rw[hb] at hr
   exact callOfMG_ok hk (M:=M) (fun d hd=>h d (Lo _ hd)) f args r h' e vs hr hs hg hrel
theorem callOfG_ok {call:CallF} (hk:CallOK PP (GG Bn) call):∀{L:List Con},Okl Bn L→CallOK PP (GG Bn) (callOfG L call)
 |[],_=>hk
 |c::L,h=>fun f args r h' e vs hr hs hg hrel=>by
  have hr:cd (Nat.beq c.f f) (callCG c args e.h) (callOfG L call f args e.h)=.ok r h':=hr
  cases hb:Nat.beq c.f f with
  |true=>
   rw[hb] at hr
   obtain rfl:=Nq hb
   exact callCG_ok (h c (Mc ..)) hr hs hg hrel
  |false=>
   rw[hb] at hr
   exact callOfG_ok hk (L:=L) (fun d hd=>h d (Lo _ hd)) f args r h' e vs hr hs hg hrel
end
inductive Cl where
 |dr (d:Dr)
 |fc (c:Fc)
 |fm (c:Fm)
 |fl (c:Fl)
 |fs (c:Fs)
def Cl.f:Cl→Nat
 |.dr d=>d.f
 |.fc c=>c.f
 |.fm c=>c.f
 |.fl c=>c.f
 |.fs c=>c.f
def ClOk (Bn:Nat):Cl→Prop
 |.dr d=>DrOk Bn d
 |.fc c=>FcOk Bn c
 |.fm c=>FmOk Bn c
 |.fl c=>FlOk Bn c
 |.fs c=>FsOk Bn c
def clM (Bn:Nat) (c:Cl) (l:List ConM):List ConM:=match c with
 |.dr d=>d.con Bn::l
 |.fc _=>l
 |.fm c=>c.con::l
 |.fl _=>l
 |.fs _=>l
def clC (c:Cl) (l:List Con):List Con:=match c with
 |.fc c=>c.con::l
 |.fl c=>c.con::l
 |.fs c=>c.con::l
 |_=>l
def conM (Bn:Nat) (Ds:List Cl):List ConM:=List.rec [] (fun c _ ih=>clM Bn c ih) Ds
def conC (Ds:List Cl):List Con:=List.rec [] (fun c _ ih=>clC c ih) Ds
def callD (Bn:Nat) (Ds:List Cl) (L:List Con):CallF:=callOfMG (conM Bn Ds) (callOfG (conC Ds) (callOf L))
def clOf (Ds:List Cl) (f:Nat):Option Cl:=List.rec none (fun d _ ih=>cd (Nat.beq d.f f) (some d) ih) Ds
def clNo (Ds:List Cl) (f:Nat):Bool:=List.rec true (fun d _ ih=>cd (Nat.beq d.f f) false ih) Ds
def clWf (Ds:List Cl):Bool:=List.rec true (fun d r ih=>cd (clNo r d.f) ih false) Ds
theorem clOf_mem {f:Nat}{d:Cl}:∀{Ds:List Cl},clOf Ds f=some d→d∈Ds∧d.f=f
 |[],h=>by cases h
 |c::Ds,h=>by
  have h:cd (Nat.beq c.f f) (some c) (clOf Ds f)=some d:=h
  cases hb:Nat.beq c.f f with
  |true=>rw[hb] at h;obtain rfl:=Oi h;exact⟨Mc ..,Nq hb⟩
  |false=>rw[hb] at h;obtain⟨h1,h2⟩:=clOf_mem h;exact⟨Lo _ h1,h2⟩
theorem clNo_of {f:Nat}{d:Cl}:∀{Ds:List Cl},clNo Ds f=true→clOf Ds f=some d→False
 |[],_,h=>by cases h
 |c::Ds,hn,h=>by
  have h:cd (Nat.beq c.f f) (some c) (clOf Ds f)=some d:=h
  have hn:cd (Nat.beq c.f f) false (clNo Ds f)=true:=hn
  cases hb:Nat.beq c.f f with
  |true=>rw[hb] at hn;cases hn
  |false=>rw[hb] at hn h;exact clNo_of hn h
def ansC (Bn:Nat) (c:Cl) (args:List AV) (h:H):R:=match c with
 |.dr d=>callMG (d.con Bn) args h
 |.fc c=>callCG c.con args h
 |.fm c=>callMG c.con args h
 |.fl c=>callCG c.con args h
 |.fs c=>callCG c.con args h
theorem cl_noM {Bn:Nat}{call:CallF}{f:Nat}{args:List AV}{h:H}:∀{Ds:List Cl},clNo Ds f=true→callOfMG (conM Bn Ds) call f args h=call f args h:=by
 intro Ds
 induction Ds with
 |nil=>intro _;rfl
 |cons c Ds ih=>
  intro hn
  have hn2:cd (Nat.beq c.f f) false (clNo Ds f)=true:=hn
  clear hn
  cases hb:Nat.beq c.f f with
  |true=>rw[hb] at hn2;cases hn2
  |false=>
   rw[hb] at hn2
   have ih:=ih hn2
   cases c with
   |dr d=>exact(show cd (Nat.beq d.f f) (callMG (d.con Bn) args h) (callOfMG (conM Bn Ds) call f args h)=_ by rw[show Nat.beq d.f f=false from hb];exact ih)
   |fc c=>exact ih
   |fl c=>exact ih
   |fs c=>exact ih
   |fm c=>exact(show cd (Nat.beq c.f f) (callMG c.con args h) (callOfMG (conM Bn Ds) call f args h)=_ by rw[show Nat.beq c.f f=false from hb];exact ih)
theorem cl_call {Bn:Nat}{L:List Con}{f:Nat}{d:Cl}{args:List AV}{h:H}:∀{Ds:List Cl},clWf Ds=true→clOf Ds f=some d→callD Bn Ds L f args h=ansC Bn d args h:=by
 have key:∀{Ds:List Cl} (L':CallF),clWf Ds=true→clOf Ds f=some d→(∀Ds':List Cl,(∃pre,Ds=pre++Ds')→True)→(∀c,d=.fc c→L' f args h=callCG c.con args h)→(∀c,d=.fl c→L' f args h=callCG c.con args h)→(∀c,d=.fs c→L' f args h=callCG c.con args h)→callOfMG (conM Bn Ds) L' f args h=ansC Bn d args h:=by
  intro Ds
  induction Ds with
  |nil=>intro L' _ hd;cases hd
  |cons c Ds ih=>
   intro L' hw hd _ hL hL2 hL3
   obtain⟨hw1,hw2⟩:=cd_true (show cd (clNo Ds c.f) (clWf Ds) false=true from hw)
   have hd:cd (Nat.beq c.f f) (some c) (clOf Ds f)=some d:=hd
   cases hb:Nat.beq c.f f with
   |true=>
    rw[hb] at hd
    obtain rfl:=Oi hd
    obtain rfl:=Nq hb
    cases c with
    |dr d=>exact(show cd (Nat.beq d.f d.f) (callMG (d.con Bn) args h) _=_ by rw[show Nat.beq d.f d.f=true from hb];rfl)
    |fm c=>exact(show cd (Nat.beq c.f c.f) (callMG c.con args h) _=_ by rw[show Nat.beq c.f c.f=true from hb];rfl)
    |fc c=>exact(cl_noM (Ds:=Ds) hw1).trans (hL c rfl)
    |fl c=>exact(cl_noM (Ds:=Ds) hw1).trans (hL2 c rfl)
    |fs c=>exact(cl_noM (Ds:=Ds) hw1).trans (hL3 c rfl)
   |false=>
    rw[hb] at hd
    cases c with
    |dr d'=>exact(show cd (Nat.beq d'.f f) (callMG (d'.con Bn) args h) (callOfMG (conM Bn Ds) L' f args h)=_ by rw[show Nat.beq d'.f f=false from hb];exact ih L' hw2 hd (fun _ _=>trivial) hL hL2 hL3)
    |fm c'=>exact(show cd (Nat.beq c'.f f) (callMG c'.con args h) (callOfMG (conM Bn Ds) L' f args h)=_ by rw[show Nat.beq c'.f f=false from hb];exact ih L' hw2 hd (fun _ _=>trivial) hL hL2 hL3)
    |fc c'=>exact ih L' hw2 hd (fun _ _=>trivial) hL hL2 hL3
    |fl c'=>exact ih L' hw2 hd (fun _ _=>trivial) hL hL2 hL3
    |fs c'=>exact ih L' hw2 hd (fun _ _=>trivial) hL hL2 hL3
 intro Ds hw hd
 refine key _ hw hd (fun _ _=>trivial) ?_ ?_ ?_
 ·intro c hc
  subst hc
  clear key
  induction Ds with
  |nil=>cases hd
  |cons e Ds ih=>
   obtain⟨hw1,hw2⟩:=cd_true (show cd (clNo Ds e.f) (clWf Ds) false=true from hw)
   have hd:cd (Nat.beq e.f f) (some e) (clOf Ds f)=some (.fc c):=hd
   cases hb:Nat.beq e.f f with
   |true=>
    rw[hb] at hd
    obtain rfl:=Oi hd
    exact(show cd (Nat.beq c.f f) (callCG c.con args h) _=_ by rw[show Nat.beq c.f f=true from hb];rfl)
   |false=>
    rw[hb] at hd
    cases e with
    |dr d'=>exact ih hw2 hd
    |fm c'=>exact ih hw2 hd
    |fc c'=>exact(show cd (Nat.beq c'.f f) (callCG c'.con args h) (callOfG (conC Ds) (callOf L) f args h)=_ by rw[show Nat.beq c'.f f=false from hb];exact ih hw2 hd)
    |fl c'=>exact(show cd (Nat.beq c'.f f) (callCG c'.con args h) (callOfG (conC Ds) (callOf L) f args h)=_ by rw[show Nat.beq c'.f f=false from hb];exact ih hw2 hd)
    |fs c'=>exact(show cd (Nat.beq c'.f f) (callCG c'.con args h) (callOfG (conC Ds) (callOf L) f args h)=_ by rw[show Nat.beq c'.f f=false from hb];exact ih hw2 hd)
 ·intro c hc
  subst hc
  clear key
  induction Ds with
  |nil=>cases hd
  |cons e Ds ih=>
   obtain⟨hw1,hw2⟩:=cd_true (show cd (clNo Ds e.f) (clWf Ds) false=true from hw)
   have hd:cd (Nat.beq e.f f) (some e) (clOf Ds f)=some (.fl c):=hd
   cases hb:Nat.beq e.f f with
   |true=>
    rw[hb] at hd
    obtain rfl:=Oi hd
    exact(show cd (Nat.beq c.f f) (callCG c.con args h) _=_ by rw[show Nat.beq c.f f=true from hb];rfl)
   |false=>
    rw[hb] at hd
    cases e with
    |dr d'=>exact ih hw2 hd
    |fm c'=>exact ih hw2 hd
    |fc c'=>exact(show cd (Nat.beq c'.f f) (callCG c'.con args h) (callOfG (conC Ds) (callOf L) f args h)=_ by rw[show Nat.beq c'.f f=false from hb];exact ih hw2 hd)
    |fl c'=>exact(show cd (Nat.beq c'.f f) (callCG c'.con args h) (callOfG (conC Ds) (callOf L) f args h)=_ by rw[show Nat.beq c'.f f=false from hb];exact ih hw2 hd)
    |fs c'=>exact(show cd (Nat.beq c'.f f) (callCG c'.con args h) (callOfG (conC Ds) (callOf L) f args h)=_ by rw[show Nat.beq c'.f f=false from hb];exact ih hw2 hd)
 ·intro c hc
  subst hc
  clear key
  induction Ds with
  |nil=>cases hd
  |cons e Ds ih=>
   obtain⟨hw1,hw2⟩:=cd_true (show cd (clNo Ds e.f) (clWf Ds) false=true from hw)
   have hd:cd (Nat.beq e.f f) (some e) (clOf Ds f)=some (.fs c):=hd
   cases hb:Nat.beq e.f f with
   |true=>
    rw[hb] at hd
    obtain rfl:=Oi hd
    exact(show cd (Nat.beq c.f f) (callCG c.con args h) _=_ by rw[show Nat.beq c.f f=true from hb];rfl)
   |false=>
    rw[hb] at hd
    cases e with
    |dr d'=>exact ih hw2 hd
    |fm c'=>exact ih hw2 hd
    |fc c'=>exact(show cd (Nat.beq c'.f f) (callCG c'.con args h) (callOfG (conC Ds) (callOf L) f args h)=_ by rw[show Nat.beq c'.f f=false from hb];exact ih hw2 hd)
    |fl c'=>exact(show cd (Nat.beq c'.f f) (callCG c'.con args h) (callOfG (conC Ds) (callOf L) f args h)=_ by rw[show Nat.beq c'.f f=false from hb];exact ih hw2 hd)
    |fs c'=>exact(show cd (Nat.beq c'.f f) (callCG c'.con args h) (callOfG (conC Ds) (callOf L) f args h)=_ by rw[show Nat.beq c'.f f=false from hb];exact ih hw2 hd)
theorem conM_ok {Bn:Nat}:∀{Ds:List Cl},(∀d∈Ds,ClOk Bn d)→OklM Bn (conM Bn Ds)
 |[],_=>fun c h=>by cases h
 |d::Ds,h=>by
  have ih:=conM_ok (Ds:=Ds) fun c hc=>h c (Lo _ hc)
  have h0:=h d (Mc ..)
  cases d with
  |dr d=>exact okMC (Dr.ok h0) ih
  |fc c=>exact ih
  |fl c=>exact ih
  |fs c=>exact ih
  |fm c=>exact okMC (Fm.ok h0) ih
theorem conC_ok {Bn:Nat}:∀{Ds:List Cl},(∀d∈Ds,ClOk Bn d)→Okl Bn (conC Ds)
 |[],_=>ok0
 |d::Ds,h=>by
  have ih:=conC_ok (Ds:=Ds) fun c hc=>h c (Lo _ hc)
  have h0:=h d (Mc ..)
  cases d with
  |dr d=>exact ih
  |fc c=>exact okC (Fc.ok h0) ih
  |fl c=>exact okC (Fl.ok h0) ih
  |fs c=>exact okC (Fs.ok h0) ih
  |fm c=>exact ih
theorem cl_none {Bn:Nat}{L:List Con}{f:Nat}{args:List AV}{h:H}{Ds:List Cl} (hn:clNo Ds f=true):callD Bn Ds L f args h=callOf L f args h:=by
 unfold callD
 rw[cl_noM hn]
 induction Ds with
 |nil=>rfl
 |cons c Ds ih=>
  have hn2:cd (Nat.beq c.f f) false (clNo Ds f)=true:=hn
  clear hn
  cases hb:Nat.beq c.f f with
  |true=>rw[hb] at hn2;cases hn2
  |false=>
   rw[hb] at hn2
   have ih:=ih hn2
   cases c with
   |dr d=>exact ih
   |fm c=>exact ih
   |fc c=>exact(show cd (Nat.beq c.f f) (callCG c.con args h) (callOfG (conC Ds) (callOf L) f args h)=_ by rw[show Nat.beq c.f f=false from hb];exact ih)
   |fl c=>exact(show cd (Nat.beq c.f f) (callCG c.con args h) (callOfG (conC Ds) (callOf L) f args h)=_ by rw[show Nat.beq c.f f=false from hb];exact ih)
   |fs c=>exact(show cd (Nat.beq c.f f) (callCG c.con args h) (callOfG (conC Ds) (callOf L) f args h)=_ by rw[show Nat.beq c.f f=false from hb];exact ih)
def uD {Bn:Nat} [BOk Bn] (Ds:List Cl) (L:List Con) (hM:∀d∈Ds,ClOk Bn d) (h:Okl Bn L):Us Bn:=
 ⟨⟨callD Bn Ds L,clNo Ds,false,fun f args h r h' hn hr=>by rw[cl_none hn] at hr;exact callOf_pure L _ _ _ _ _ hr,fun h=>by cases h⟩,
   callOfMG_ok (callOfG_ok (callOf_ok (G:=GG Bn) (BOk.lo (B:=Bn)) h) (conC_ok hM)) (conM_ok hM),cjL L,callOf_ok (G:=GG Bn) (BOk.lo (B:=Bn)) h,callOf_pure L⟩
def fnC (o:AO):Option Nat:=match o.op with
 |.call f _=>some f
 |_=>none
def calD (Ds:List Cl) (o:AO):Option Cl:=Option.rec none (fun f=>clOf Ds f) (fnC o)
def idxD (Ds:List Cl) (ops:List AO):Option (Nat×Cl):=List.rec none (fun o _ ih=>Option.rec (Option.rec none (fun q=>some (Nat.succ q.1,q.2)) ih) (fun d=>some (0,d)) (calD Ds o)) ops
theorem idxD_eq {Ds:List Cl}:∀{ops:List AO}{k:Nat}{d:Cl},idxD Ds ops=some (k,d)→calD Ds (opA (ops.drop k) 0)=some d
 |[],_,_,h=>by cases h
 |o::ops,k,d,h=>by
  have h:(Option.rec (Option.rec none (fun q=>some (Nat.succ q.1,q.2)) (idxD Ds ops)) (fun d=>some (0,d)) (calD Ds o):Option (Nat×Cl))=some (k,d):=h
  cases hc:calD Ds o with
  |some c=>
   rw[hc] at h
   have h:=Oi h
   obtain⟨rfl,rfl⟩:=(by simpa using h:0=k∧c=d)
   exact hc
  |none=>
   rw[hc] at h
   cases hi:idxD Ds ops with
   |none=>rw[hi] at h;cases h
   |some q=>
    rw[hi] at h
    obtain⟨q1,q2⟩:=q
    have h:=Oi h
    obtain⟨rfl,rfl⟩:=(by simpa using h:q1+1=k∧q2=d)
    exact idxD_eq (ops:=ops) hi
def hdA (l:List AV):Option Id:=idA none (hdL l)
def decC (ps rs:List Par) (args:List AV) (h:H):Option (denL ps):=Option.rec (cd (scalR rs) (decL h ps args) none) (fun x=>some x) (decL H0 ps args)
def okCl (s:RS):Bool:=cd (rdOk s.D s.op) (isT (wanted s.op.g s.fr)) false
def ndX (Bn:Nat) (args:List AV) (h:H) (σ:den ySrc) (m:Bg) (d:Dr) (K:AV→H→den ySrc→Bg→W):W:=
 cd (Nat.ble d.use m.m)
  (Option.rec none (fun g=>Option.rec none (fun id=>Option.rec none (fun x0=>Option.rec none (fun x=>
   cd (Option.rec false (fun _=>true) (nth (d.ch x) 0)) (wAdd (ob1 ySrc x0 σ::Option.rec (Option.rec [] (fun w=>[ob1 ySrc x0 w]) d.os) (fun w=>obL d.ps x w::Option.rec [] (fun w=>[ob1 ySrc x0 w]) d.os) d.ob)
    (wBth (wAll (d.en x) (fun y=>K (encR d.rs y) (g.2.put id (.cs 99 (tc ySrc (nxS Bn d x0 x)) false)) (nxS Bn d x0 x) ⟨Nat.sub m.m d.use,m.z⟩))
     (wAll (d.sy x) (fun f=>K (encR d.rs (f.1 (vaS Bn d x0 x))) (g.2.put id (.cs 99 (tc ySrc (nxS Bn d x0 x)) false)) (nxS Bn d x0 x) ⟨Nat.sub m.m d.use,f.2 (vaS Bn d x0 x)++m.z⟩)))) none)
   (decL H0 d.ps g.1)) (decM (d.con Bn) (g.2.get id))) (hdA args)) (giv d.ps (tlL args) h)) none
def fcX (args:List AV) (h:H) (σ:den ySrc) (m:Bg) (c:Fc) (K:AV→H→den ySrc→Bg→W):W:=
 Option.rec (Option.rec none (fun x=>wAdd [obL c.ps x c.x] (K (encR c.rs c.y) h σ m)) (decC c.ps c.rs args h))
  (fun g=>Option.rec none (fun x=>wAdd [obL c.ps x c.x] (K (encR c.rs c.y) g.2 σ m)) (decC c.ps c.rs g.1 g.2)) (giv c.ps args h)
def flA (c:Fl) (x:denL c.ps) (K:AV→W):W:=Option.rec none (fun q=>wAdd [obL c.ps x q.1] (K (encR c.rs q.2))) (nth c.l (c.sel x))
def flX (args:List AV) (h:H) (σ:den ySrc) (m:Bg) (c:Fl) (K:AV→H→den ySrc→Bg→W):W:=
 Option.rec (Option.rec none (fun x=>flA c x (fun v=>K v h σ m)) (decC c.ps c.rs args h))
  (fun g=>Option.rec none (fun x=>flA c x (fun v=>K v g.2 σ m)) (decC c.ps c.rs g.1 g.2)) (giv c.ps args h)
def fmA (c:Fm) (x0:den c.t) (x:denL c.ps) (K:AV→W):W:=Option.rec none (fun q=>wAdd [ob1 c.t x0 c.x0,obL c.ps x q.1] (K (encR c.rs q.2))) (nth c.l (c.sel x))
def fmX (args:List AV) (h:H) (σ:den ySrc) (m:Bg) (c:Fm) (K:AV→H→den ySrc→Bg→W):W:=
 Option.rec none (fun g=>Option.rec none (fun id=>Option.rec none (fun x0=>Option.rec none (fun x=>
       fmA c x0 x (fun v=>K v (g.2.put id (.cs c.el (tc c.t c.x0) false)) σ m))
  (decL H0 c.ps g.1)) (decM c.con (g.2.get id))) (hdA args)) (giv c.ps (tlL args) h)
def fsA (c:Fs) (z:List Zv) (x:denL c.ps) (K:AV→W):W:=Option.rec none (fun o=>wAdd o (K (encR c.rs (c.y x)))) (c.ob x z)
def fsX (args:List AV) (h:H) (σ:den ySrc) (m:Bg) (c:Fs) (K:AV→H→den ySrc→Bg→W):W:=
 Option.rec (Option.rec none (fun x=>fsA c m.z x (fun v=>K v h σ m)) (decC c.ps c.rs args h))
  (fun g=>Option.rec none (fun x=>fsA c m.z x (fun v=>K v g.2 σ m)) (decC c.ps c.rs g.1 g.2)) (giv c.ps args h)
def clX (Bn:Nat) (args:List AV) (h:H) (σ:den ySrc) (m:Bg) (c:Cl) (K:AV→H→den ySrc→Bg→W):W:=match c with
 |.dr d=>ndX Bn args h σ m d K
 |.fc c=>fcX args h σ m c K
 |.fm c=>fmX args h σ m c K
 |.fl c=>flX args h σ m c K
 |.fs c=>fsX args h σ m c K
def ndP (Bn:Nat) (s:RS) (σ:den ySrc) (m:Bg) (c:Cl) (K:RS→den ySrc→Bg→W):W:=cd (okCl s) (clX Bn (cArg s.op.op s.fr) s.h σ m c (fun v h=>K (s.put v h))) none
def grdP (o:AO):Option (List Bool):=Option.rec none (fun q=>some q.1) o.g
def idxP (p:List Bool) (ops:List AO):Nat:=List.rec 0 (fun o _ ih=>cd (Option.rec false (fun q=>pEq p q) (grdP o)) 0 (Nat.succ ih)) ops
def isF (x:Option Bool):Bool:=Option.rec false (fun b=>cd b false true) x
def ndK (Bn:Nat) (C:CJ) (base:Nat) (k:Nat) (c:Cl) (s:RS) (σ:den ySrc) (m:Bg) (ih:RS→den ySrc→Bg→W):W:=
 Option.rec none (fun q=>cd (isF (wanted (opA (s.ops.drop k) 0).g q.1)) (Option.rec none (fun q=>ih ⟨s.ops.drop (Nat.succ k),q.1,q.2.1,s.Rs,q.2.2⟩ σ m) (s.fst C base (Nat.succ k)))
  (ndP Bn ⟨s.ops.drop k,q.1,q.2.1,s.Rs,q.2.2⟩ σ m c ih)) (s.fst C base k)
def ndG (C:CJ) (base:Nat) (k:Nat) (p:List Bool) (s:RS) (σ:den ySrc) (m:Bg) (ih:RS→den ySrc→Bg→W):W:=
 Option.rec none (fun q=>cd (Option.rec false (fun v=>Option.rec false (fun _=>true) (bOf v)) (T.get p q.1)) (ih ⟨s.ops.drop k,q.1,q.2.1,T.set p () s.Rs,q.2.2⟩ σ m) none) (s.fst C base k)
def ndW (Bn:Nat) (C:CJ) (base:Nat) (k:Nat) (c:Cl) (s:RS) (σ:den ySrc) (m:Bg) (ih:RS→den ySrc→Bg→W):W:=
 Option.rec (ndK Bn C base k c s σ m ih) (fun p=>cd (freeP s.Rs p) (ndG C base (idxP p s.ops) p s σ m ih) (ndK Bn C base k c s σ m ih)) (grdP (opA (s.ops.drop k) 0))
def ndR (Bn:Nat) (Ds:List Cl) (C:CJ) (base:Nat) (K:T AV→H→den ySrc→Bg→W) (n:Nat):RS→den ySrc→Bg→W:=
 Nat.rec (motive:=fun _=>RS→den ySrc→Bg→W) (fun _ _ _=>none) (fun _ ih s σ m=>
  Option.rec (Option.rec none (fun q=>K q.1 q.2.1 σ m) (s.all C base)) (fun w=>ndW Bn C base w.1 w.2 s σ m ih) (idxD Ds s.ops)) n
section
variable {Bn:Nat}{Ds:List Cl}{C:CJ}{base:Nat}{B:Int}{τ:Type}{R:τ→Prop}{Q:T AV→H→τ→Prop}
theorem adv_src {k:Nat}{m:Bg}{x q:den ySrc}{z:List Zv} (h:Adv k x q) (hs:Src B m x) (hk:k≤m.m) (hz:∀v∈z,Zok v):Src B ⟨Nat.sub m.m k,z⟩ q:=by
 obtain⟨h1,h2,h3⟩:=h
 obtain⟨⟨_,_,h4⟩,_⟩:=hs
 refine⟨⟨h1,h2,?_⟩,hz⟩
 have:((Nat.sub m.m k:Nat):Int)=(m.m:Int) - (k:Int):=Int.ofNat_sub hk
 show @LE.le Int _ (q.2.1+((Nat.sub m.m k:Nat):Int)) B
 rw[this];omega
theorem at0 {s:RS}:s.at C base 0=s:=by
 unfold RS.at RS.fst
 obtain⟨ops,fr,hh,Rs,D⟩:=s
 rfl
theorem fnC_eq {o:AO}{d:Cl} (h:calD Ds o=some d):∃f as_,o.op=.call f as_∧clOf Ds f=some d:=by
 unfold calD fnC at h
 split at h
 ·rename_i f as_ ho
  exact⟨f,as_,ho,h⟩
 ·cases h
theorem cl_step (hC:∀f d args h,clOf Ds f=some d→C.call f args h=ansC Bn d args h){s:RS}{d:Cl}{v:AV}{h':H} (ho:okCl s=true) (hd:calD Ds s.op=some d) (hne:s.ops=s.op::s.ops.drop 1)
 (hv:ansC Bn d (cArg s.op.op s.fr) s.h=.ok v h'){Q:T AV→H→Prop} (hr:RJ C base (s.put v h') Q):RJ C base s Q:=by
 obtain⟨f,as_,hop,hdo⟩:=fnC_eq hd
 obtain⟨h1,h2⟩:=cd_true (show cd (rdOk s.D s.op) (isT (wanted s.op.g s.fr)) false=true from ho)
 have hfst:jrS (s.fst C base 0)=true:=rfl
 have hlt:Nat.blt 0 s.ops.length=true:=by rw[hne];rfl
 refine RJ.step 0 v h' ?_ ?_ ?_
 ·rw[at0,hop]
  show C.call f (evs as_ s.fr) s.h=_
  rw[hC f d _ _ hdo]
  have hcar:cArg s.op.op s.fr=evs as_ s.fr:=by rw[hop];rfl
  rw[←hcar];exact hv
 ·rw[at0];exact hr
 ·show cd (cd (jrS (s.fst C base 0)) (cd (Nat.blt 0 (s.at C base 0).ops.length) (rdOk (s.at C base 0).D (s.at C base 0).op) false) false) (isT (wanted (s.at C base 0).op.g (s.at C base 0).fr)) false=true
  rw[at0,hfst,hlt,h1,h2];rfl
theorem callM_of {c:ConM}{args:List AV}{h:H}{g:List AV×H}{id:Id}{x0:den c.t}{x:denL c.ps}{q:den c.t×denL c.rs} (hfs:c.fs=none) (hgv:giv c.ps (tlL args) h=some g) (h1:hdA args=some id) (h2:decM c (g.2.get id)=some x0) (h3:decL H0 c.ps g.1=some x) (h4:c.F x0 x=some q):
 callMG c args h=.ok (encR c.rs q.2) (g.2.put id (.cs c.el (tc c.t q.1) false)):=by
 have e2:idA c.fs (hdL args)=some id:=by rw[hfs];exact h1
 unfold callMG
 rw[hgv]
 show callM c (hdL args::g.1) g.2=_
 unfold callM
 simp only[e2,h2,h3,h4]
 rfl
theorem callC_of {c:Con}{args:List AV}{h:H}{x:denL c.ps}{y:denL c.rs} (hF:c.F x=some y) (hd:decC c.ps c.rs args h=some x):callC c args h=.ok (encR c.rs y) h:=by
 unfold decC at hd
 unfold callC
 cases h0:decL H0 c.ps args with
 |some x'=>
  rw[h0] at hd
  obtain rfl:=Oi (show some x'=some x from hd)
  simp only[hF];rfl
 |none=>
  rw[h0] at hd
  replace hd:cd (scalR c.rs) (decL h c.ps args) none=some x:=hd
  obtain⟨g1,g2⟩:=cd_some hd
  simp only[g2,hF,g1];rfl
theorem clX_ok (hB:B≤1000000000){args:List AV}{h:H}{σ:den ySrc}{m:Bg}{d:Cl} (hD:ClOk Bn d){K:AV→H→den ySrc→Bg→W}{eqs:List Ob}
 (hw:clX Bn args h σ m d K=some eqs) (he:Eqs eqs) (hs:Src B m σ):∃v h' σ' m' e',ansC Bn d args h=.ok v h'∧K v h' σ' m'=some e'∧Eqs e'∧Src B m' σ':=by
 cases d with
 |dr d=>
  replace hw:ndX Bn args h σ m d K=some eqs:=hw
  unfold ndX at hw
  obtain⟨h3,hw⟩:=cd_some hw
  have h3:=Nb h3
  cases hgv:giv d.ps (tlL args) h with
  |none=>rw[hgv] at hw;cases hw
  |some g=>
  rw[hgv] at hw
  replace hw:(Option.rec none _ (hdA args):W)=some eqs:=hw
  cases ha:hdA args with
  |none=>rw[ha] at hw;cases hw
  |some id=>
  rw[ha] at hw
  replace hw:(Option.rec none _ (decM (d.con Bn) (g.2.get id)):W)=some eqs:=hw
  cases hm:decM (d.con Bn) (g.2.get id) with
  |none=>rw[hm] at hw;cases hw
  |some x0=>
  rw[hm] at hw
  replace hw:(Option.rec none _ (decL H0 d.ps g.1):W)=some eqs:=hw
  cases hx:decL H0 d.ps g.1 with
  |none=>rw[hx] at hw;cases hw
  |some x=>
  rw[hx] at hw
  obtain⟨hn,hw⟩:=cd_some hw
  obtain⟨c,h4,h5⟩:=wAdd_some hw
  subst h5
  have hx0:x0=σ:=ob1_eq (he (ob1 ySrc x0 σ) (Lj _ (Mc ..)))
  subst hx0
  have hat:d.at_ x:=fun w hw=>he (obL d.ps x w) (Lj _ (Lo _ (by rw[hw];exact Mc ..)))
  have hos:∀w,d.os=some w→x0=w:=fun w hw=>ob1_eq (he (ob1 ySrc x0 w) (Lj _ (Lo _ (by
   rw[hw]
   cases d.ob with
   |none=>exact List.mem_singleton.2 rfl
   |some w'=>exact Lo _ (List.mem_singleton.2 rfl)))))
  have hne':d.ch x≠[]:=fun h0=>by rw[h0] at hn;cases hn
  obtain⟨⟨g1,g2,g3⟩,gz⟩:=hs
  obtain⟨q,g4,g5,g6,_⟩:=Dr.F_of (hD.2 x0 x g1 g2 om hne' hat hos)
  have hnx:nxS Bn d x0 x=q.1:=by unfold nxS;rw[g4]
  have hva:vaS Bn d x0 x=q.2:=by unfold vaS;rw[g4]
  have hans:ansC Bn (.dr d) args h=.ok (encR d.rs q.2) (g.2.put id (.cs 99 (tc ySrc q.1) false)):=callM_of (c:=d.con Bn) rfl hgv ha hm hx g4
  obtain⟨c1,c2,k1,k2,k3⟩:=wBth_some h4
  subst k3
  rcases hD.1.2 x _ g5 with hen|⟨p,hp,hpy,hpz⟩
  ·obtain⟨e1,g7,g8⟩:=wAll_mem k1 hen
   rw[hnx] at g7
   exact⟨_,_,_,_,_,hans,g7,fun e hm=>he e (Lk _ (Lj _ (g8 e hm))),adv_src g6 ⟨⟨g1,g2,g3⟩,gz⟩ h3 gz⟩
  ·obtain⟨e1,g7,g8⟩:=wAll_mem k2 hp
   rw[hnx,hva,←hpy] at g7
   exact⟨_,_,_,_,_,hans,g7,fun e hm=>he e (Lk _ (Lk _ (g8 e hm))),adv_src g6 ⟨⟨g1,g2,g3⟩,gz⟩ h3 (fun v hv=>by
    rcases List.mem_append.1 hv with hv|hv
    ·exact hpz v hv
    ·exact gz v hv)⟩
 |fc c=>
  replace hw:fcX args h σ m c K=some eqs:=hw
  unfold fcX at hw
  have fin:∀(args':List AV) (h':H),ansC Bn (.fc c) args h=callC c.con args' h'→(Option.rec none (fun x=>wAdd [obL c.ps x c.x] (K (encR c.rs c.y) h' σ m)) (decC c.ps c.rs args' h'):W)=some eqs→∃v h' σ' m' e',ansC Bn (.fc c) args h=.ok v h'∧K v h' σ' m'=some e'∧Eqs e'∧Src B m' σ':=by
   intro args' h' hans hw
   cases hx:decC c.ps c.rs args' h' with
   |none=>rw[hx] at hw;cases hw
   |some x=>
    rw[hx] at hw
    obtain⟨e1,h4,h5⟩:=wAdd_some hw
    subst h5
    have hxx:x=c.x:=he (obL c.ps x c.x) (Lj _ (List.mem_singleton.2 rfl))
    subst hxx
    exact⟨_,_,_,_,_,hans.trans (callC_of (c:=c.con) Fc.F_eq hx),h4,fun e hm=>he e (Lk _ hm),hs⟩
  cases hgv:giv c.ps args h with
  |none=>
   rw[hgv] at hw
   exact fin _ _ (show callCG c.con _ _=_ by unfold callCG;rw[show giv c.con.ps args h=none from hgv]) hw
  |some g=>
   rw[hgv] at hw
   exact fin g.1 g.2 (show callCG c.con _ _=_ by unfold callCG;rw[show giv c.con.ps args h=some g from hgv]) hw
 |fm c=>
  replace hw:fmX args h σ m c K=some eqs:=hw
  unfold fmX at hw
  cases hgv:giv c.ps (tlL args) h with
  |none=>rw[hgv] at hw;cases hw
  |some g=>
  rw[hgv] at hw
  replace hw:(Option.rec none _ (hdA args):W)=some eqs:=hw
  cases ha:hdA args with
  |none=>rw[ha] at hw;cases hw
  |some id=>
  rw[ha] at hw
  replace hw:(Option.rec none _ (decM c.con (g.2.get id)):W)=some eqs:=hw
  cases hm:decM c.con (g.2.get id) with
  |none=>rw[hm] at hw;cases hw
  |some x0=>
  rw[hm] at hw
  replace hw:(Option.rec none _ (decL H0 c.ps g.1):W)=some eqs:=hw
  cases hx:decL H0 c.ps g.1 with
  |none=>rw[hx] at hw;cases hw
  |some x=>
  rw[hx] at hw
  replace hw:fmA c x0 x (fun v=>K v (g.2.put id (.cs c.el (tc c.t c.x0) false)) σ m)=some eqs:=hw
  unfold fmA at hw
  cases hn:nth c.l (c.sel x) with
  |none=>rw[hn] at hw;cases hw
  |some q=>
  rw[hn] at hw
  obtain⟨e1,h4,h5⟩:=wAdd_some hw
  subst h5
  have hx0:x0=c.x0:=ob1_eq (he (ob1 c.t x0 c.x0) (Lj _ (Mc ..)))
  have hxx:x=q.1:=he (obL c.ps x q.1) (Lj _ (Lo _ (List.mem_singleton.2 rfl)))
  have hF:c.con.F x0 x=some (c.x0,q.2):=by rw[hx0,hxx];exact fmF_eq (hD.2.2 _ _ hn)
  exact⟨_,_,_,_,_,callM_of (c:=c.con) rfl hgv ha hm hx hF,h4,fun e hm=>he e (Lk _ hm),hs⟩
 |fl c=>
  replace hw:flX args h σ m c K=some eqs:=hw
  unfold flX at hw
  have fin:∀(args':List AV) (h':H),ansC Bn (.fl c) args h=callC c.con args' h'→(Option.rec none (fun x=>flA c x (fun v=>K v h' σ m)) (decC c.ps c.rs args' h'):W)=some eqs→∃v h' σ' m' e',ansC Bn (.fl c) args h=.ok v h'∧K v h' σ' m'=some e'∧Eqs e'∧Src B m' σ':=by
   intro args' h' hans hw
   cases hx:decC c.ps c.rs args' h' with
   |none=>rw[hx] at hw;cases hw
   |some x=>
    rw[hx] at hw
    replace hw:flA c x (fun v=>K v h' σ m)=some eqs:=hw
    unfold flA at hw
    cases hn:nth c.l (c.sel x) with
    |none=>rw[hn] at hw;cases hw
    |some q=>
     rw[hn] at hw
     obtain⟨e1,h4,h5⟩:=wAdd_some hw
     subst h5
     have hxx:x=q.1:=he (obL c.ps x q.1) (Lj _ (List.mem_singleton.2 rfl))
     have hF:c.con.F x=some q.2:=by rw[hxx];exact hD.2.2 _ _ hn
     exact⟨_,_,_,_,_,hans.trans (callC_of (c:=c.con) hF hx),h4,fun e hm=>he e (Lk _ hm),hs⟩
  cases hgv:giv c.ps args h with
  |none=>
   rw[hgv] at hw
   exact fin _ _ (show callCG c.con _ _=_ by unfold callCG;rw[show giv c.con.ps args h=none from hgv]) hw
  |some g=>
   rw[hgv] at hw
   exact fin g.1 g.2 (show callCG c.con _ _=_ by unfold callCG;rw[show giv c.con.ps args h=some g from hgv]) hw
 |fs c=>
  replace hw:fsX args h σ m c K=some eqs:=hw
  unfold fsX at hw
  have fin:∀(args':List AV) (h':H),ansC Bn (.fs c) args h=callC c.con args' h'→(Option.rec none (fun x=>fsA c m.z x (fun v=>K v h' σ m)) (decC c.ps c.rs args' h'):W)=some eqs→∃v h' σ' m' e',ansC Bn (.fs c) args h=.ok v h'∧K v h' σ' m'=some e'∧Eqs e'∧Src B m' σ':=by
   intro args' h' hans hw
   cases hx:decC c.ps c.rs args' h' with
   |none=>rw[hx] at hw;cases hw
   |some x=>
    rw[hx] at hw
    replace hw:fsA c m.z x (fun v=>K v h' σ m)=some eqs:=hw
    unfold fsA at hw
    cases ho:c.ob x m.z with
    |none=>rw[ho] at hw;cases hw
    |some o=>
     rw[ho] at hw
     obtain⟨e1,h4,h5⟩:=wAdd_some hw
     subst h5
     have hP:c.P x:=hD.2.2 _ _ _ ho (fun e hm=>he e (Lj _ hm)) hs.2
     have hF:c.con.F x=some (c.y x):=by unfold Fs.con;exact if_pos hP
     exact⟨_,_,_,_,_,hans.trans (callC_of (c:=c.con) hF hx),h4,fun e hm=>he e (Lk _ hm),hs⟩
  cases hgv:giv c.ps args h with
  |none=>
   rw[hgv] at hw
   exact fin _ _ (show callCG c.con _ _=_ by unfold callCG;rw[show giv c.con.ps args h=none from hgv]) hw
  |some g=>
   rw[hgv] at hw
   exact fin g.1 g.2 (show callCG c.con _ _=_ by unfold callCG;rw[show giv c.con.ps args h=some g from hgv]) hw
theorem ndP_ok (hB:B≤1000000000) (hC:∀f d args h,clOf Ds f=some d→C.call f args h=ansC Bn d args h) (hD:∀d∈Ds,ClOk Bn d){s:RS}{σ:den ySrc}{m:Bg}{d:Cl}{K:RS→den ySrc→Bg→W}{eqs:List Ob}
 (h:ndP Bn s σ m d K=some eqs) (he:Eqs eqs) (hs:Src B m σ) (hd:calD Ds s.op=some d) (hne:s.ops=s.op::s.ops.drop 1)
 (hK:∀s' σ' m' e',K s' σ' m'=some e'→Eqs e'→Src B m' σ'→∃y,R y∧RJ C base s' (fun fr h=>Q fr h y)):∃y,R y∧RJ C base s (fun fr h=>Q fr h y):=by
 unfold ndP at h
 obtain⟨hok,h⟩:=cd_some h
 obtain⟨f,as_,_,hdo⟩:=fnC_eq hd
 obtain⟨v,h',σ',m',e',g1,g2,g3,g4⟩:=clX_ok hB (hD _ (clOf_mem hdo).1) h he hs
 obtain⟨y,g5,g6⟩:=hK _ _ _ _ g2 g3 g4
 exact⟨y,g5,cl_step hC hok hd hne g1 g6⟩
theorem RJ.settle {s:RS}{Q:T AV→H→Prop} (k:Nat) (p:List Bool) (v:Bool) (hok:jrS (s.fst C base k)=true) (hv:T.get p (s.at C base k).fr=some (.b v)) (hr:RJ C base ⟨(s.at C base k).ops,(s.at C base k).fr,(s.at C base k).h,T.set p () s.Rs,(s.at C base k).D⟩ Q):RJ C base s Q:=by
 have hs:=T.set_self p _ _ hv
 refine RJ.split k p v (fun h=>?_) (fun h=>?_) hok hv<;>subst h<;>rw[hs]<;>exact hr
theorem ndR_ok (hB:B≤1000000000) (hC:∀f d args h,clOf Ds f=some d→C.call f args h=ansC Bn d args h) (hD:∀d∈Ds,ClOk Bn d){K:T AV→H→den ySrc→Bg→W}
 (hK:∀fr h σ' m' e',K fr h σ' m'=some e'→Eqs e'→Src B m' σ'→∃y,R y∧Q fr h y):∀(n:Nat){s:RS}{σ:den ySrc}{m:Bg}{eqs:List Ob},
 ndR Bn Ds C base K n s σ m=some eqs→Eqs eqs→Src B m σ→∃y,R y∧RJ C base s (fun fr h=>Q fr h y)
 |0,_,_,_,_,h,_,_=>by cases h
 |n+1,s,σ,m,eqs,h,he,hs=>by
  have h:(Option.rec (Option.rec none (fun q=>K q.1 q.2.1 σ m) (s.all C base)) (fun w=>ndW Bn C base w.1 w.2 s σ m (ndR Bn Ds C base K n)) (idxD Ds s.ops):W)=some eqs:=h
  have ih:=fun{s σ m eqs}=>@ndR_ok hB hC hD K hK n s σ m eqs
  cases hi:idxD Ds s.ops with
  |none=>
   rw[hi] at h
   replace h:(Option.rec none (fun q=>K q.1 q.2.1 σ m) (s.all C base):W)=some eqs:=h
   cases ha:s.all C base with
   |none=>rw[ha] at h;cases h
   |some q=>
    rw[ha] at h
    obtain⟨y,h1,h2⟩:=hK _ _ _ _ _ (show K q.1 q.2.1 σ m=some eqs from h) he hs
    refine⟨y,h1,RJ.fin (by rw[ha];rfl) ?_⟩
    rw[ha];exact h2
  |some w=>
   rw[hi] at h
   obtain⟨k,d⟩:=w
   replace h:ndW Bn C base k d s σ m (ndR Bn Ds C base K n)=some eqs:=h
   have hop:=idxD_eq hi
   have hcons:s.ops.drop k=opA (s.ops.drop k) 0::(s.ops.drop k).drop 1:=by
    cases hdr:s.ops.drop k with
    |nil=>rw[hdr] at hop;cases hop
    |cons o r=>rfl
   have hkk:ndK Bn C base k d s σ m (ndR Bn Ds C base K n)=some eqs→∃y,R y∧RJ C base s (fun fr h=>Q fr h y):=by
    intro h
    unfold ndK at h
    cases hf:s.fst C base k with
    |none=>rw[hf] at h;cases h
    |some q=>
     rw[hf] at h
     replace h:cd (isF (wanted (opA (s.ops.drop k) 0).g q.1)) (Option.rec none (fun q=>ndR Bn Ds C base K n ⟨s.ops.drop (Nat.succ k),q.1,q.2.1,s.Rs,q.2.2⟩ σ m) (s.fst C base (Nat.succ k)))
      (ndP Bn ⟨s.ops.drop k,q.1,q.2.1,s.Rs,q.2.2⟩ σ m d (ndR Bn Ds C base K n))=some eqs:=h
     cases hwf:isF (wanted (opA (s.ops.drop k) 0).g q.1) with
     |true=>
      rw[hwf] at h
      replace h:(Option.rec none (fun q=>ndR Bn Ds C base K n ⟨s.ops.drop (Nat.succ k),q.1,q.2.1,s.Rs,q.2.2⟩ σ m) (s.fst C base (Nat.succ k)):W)=some eqs:=h
      cases hf2:s.fst C base (Nat.succ k) with
      |none=>rw[hf2] at h;cases h
      |some q2=>
       rw[hf2] at h
       obtain⟨y,h1,h2⟩:=ih h he hs
       refine⟨y,h1,RJ.upto (Nat.succ k) (by rw[hf2];rfl) ?_⟩
       unfold RS.at
       rw[hf2];exact h2
     |false=>
      rw[hwf] at h
      obtain⟨y,h1,h2⟩:=ndP_ok (R:=R) (Q:=Q) (base:=base) hB hC hD h he hs hop hcons (fun s' σ' m' e' g1 g2 g3=>ih g1 g2 g3)
      refine⟨y,h1,RJ.upto k (by rw[hf];rfl) ?_⟩
      unfold RS.at
      rw[hf];exact h2
   unfold ndW at h
   cases hg:grdP (opA (s.ops.drop k) 0) with
   |none=>rw[hg] at h;exact hkk h
   |some p=>
    rw[hg] at h
    replace h:cd (freeP s.Rs p) (ndG C base (idxP p s.ops) p s σ m (ndR Bn Ds C base K n)) (ndK Bn C base k d s σ m (ndR Bn Ds C base K n))=some eqs:=h
    cases hfr:freeP s.Rs p with
    |false=>rw[hfr] at h;exact hkk h
    |true=>
     rw[hfr] at h
     replace h:ndG C base (idxP p s.ops) p s σ m (ndR Bn Ds C base K n)=some eqs:=h
     unfold ndG at h
     generalize idxP p s.ops=k0 at h
     cases hf:s.fst C base k0 with
     |none=>rw[hf] at h;cases h
     |some q=>
      rw[hf] at h
      obtain⟨h1,h2⟩:=cd_some h
      obtain⟨y,h3,h4⟩:=ih h2 he hs
      have hat:s.at C base k0=⟨s.ops.drop k0,q.1,q.2.1,s.Rs,q.2.2⟩:=by unfold RS.at;rw[hf];rfl
      cases hv:T.get p q.1 with
      |none=>rw[hv] at h1;cases h1
      |some v=>
       rw[hv] at h1
       replace h1:(Option.rec false (fun _=>true) (bOf v):Bool)=true:=h1
       cases hbv:bOf v with
       |none=>rw[hbv] at h1;cases h1
       |some bb=>
        have:=bOf_eq hbv
        subst this
        exact⟨y,h3,RJ.settle k0 p bb (by rw[hf];rfl) (by rw[hat];exact hv) (by rw[hat];exact h4)⟩
end
def idxV (Ds:List Cl) (ops:List DO):Option (Nat×Cl):=List.rec none (fun o _ ih=>Option.rec (Option.rec none (fun q=>some (Nat.succ q.1,q.2)) ih) (fun d=>some (0,d)) (calD Ds o.o)) ops
def okVi (o:DO) (s:DS):Bool:=cd (isT (wanted o.o.g s.fr)) (Cls.rec false false false true o.o.op.cls) false
def ndV (Bn:Nat) (Ds:List Cl) (call:CallF) (base na:Nat) (K:T AV→H→den ySrc→Bg→W) (n:Nat):List DO→DS→den ySrc→Bg→W:=
 Nat.rec (motive:=fun _=>List DO→DS→den ySrc→Bg→W) (fun _ _ _ _=>none) (fun _ ih ops s σ m=>
  Option.rec (Option.rec none (fun s'=>wAdd [.v (gotA (revOnto s'.old [s'.cur]) s'.mks s'.rs) (wantA s'.rs)] (K s'.fr (puts (selC s'.cur.cons s'.mks) s'.cur.h) σ m)) (evD call base na ops s))
   (fun w=>Option.rec none (fun s1=>cd (cd (okVi (opD ops w.1) s1) (Nat.blt w.1 ops.length) false)
    (clX Bn (cArg (opD ops w.1).o.op s1.fr) (heapAt s1.cur (opD ops w.1).ks s1.mks) σ m w.2 (fun v h' σ m=>cd (freeOf h' base (cat (opD ops w.1).ks s1.cur.cons) na) (ih (ops.drop (w.1+1)) (Ev.stepX (opD ops w.1) s1 v h') σ m) none)) none) (stDk call base na ops s w.1)) (idxV Ds ops)) n
theorem idxV_eq {Ds:List Cl}:∀{ops:List DO}{k:Nat}{d:Cl},idxV Ds ops=some (k,d)→calD Ds (opD ops k).o=some d
 |[],_,_,h=>by cases h
 |o::ops,k,d,h=>by
  have h:(Option.rec (Option.rec none (fun q=>some (Nat.succ q.1,q.2)) (idxV Ds ops)) (fun d=>some (0,d)) (calD Ds o.o):Option (Nat×Cl))=some (k,d):=h
  cases hc:calD Ds o.o with
  |some c=>
   rw[hc] at h
   have h:=Oi h
   obtain⟨rfl,rfl⟩:=(by simpa using h:0=k∧c=d)
   exact hc
  |none=>
   rw[hc] at h
   cases hi:idxV Ds ops with
   |none=>rw[hi] at h;cases h
   |some q=>
    rw[hi] at h
    obtain⟨q1,q2⟩:=q
    have h:=Oi h
    obtain⟨rfl,rfl⟩:=(by simpa using h:q1+1=k∧q2=d)
    exact idxV_eq (ops:=ops) hi
section
variable {Bn:Nat}{Ds:List Cl}{call:CallF}{base na:Nat}{B:Int}{τ:Type}{R:τ→Prop}{Q:T AV→H→τ→Prop}{K:T AV→H→den ySrc→Bg→W}
theorem ndV_ok (hB:B≤1000000000) (hC:∀f d args h,clOf Ds f=some d→call f args h=ansC Bn d args h) (hD:∀d∈Ds,ClOk Bn d)
 (hK:∀fr h σ' m' e',K fr h σ' m'=some e'→Eqs e'→Src B m' σ'→∃y,R y∧Q fr h y):∀(n:Nat){ops:List DO}{s:DS}{σ:den ySrc}{m:Bg}{eqs:List Ob},
 ndV Bn Ds call base na K n ops s σ m=some eqs→Eqs eqs→Src B m σ→∃y,R y∧RunD call base na ops s (DQ (fun fr h=>Q fr h y))
 |0,_,_,_,_,_,h,_,_=>by cases h
 |n+1,ops,s,σ,m,eqs,h,he,hs=>by
  have h:(Option.rec (Option.rec none (fun s'=>wAdd [.v (gotA (revOnto s'.old [s'.cur]) s'.mks s'.rs) (wantA s'.rs)] (K s'.fr (puts (selC s'.cur.cons s'.mks) s'.cur.h) σ m)) (evD call base na ops s))
   (fun w=>Option.rec none (fun s1=>cd (cd (okVi (opD ops w.1) s1) (Nat.blt w.1 ops.length) false)
    (clX Bn (cArg (opD ops w.1).o.op s1.fr) (heapAt s1.cur (opD ops w.1).ks s1.mks) σ m w.2 (fun v h' σ m=>cd (freeOf h' base (cat (opD ops w.1).ks s1.cur.cons) na) (ndV Bn Ds call base na K n (ops.drop (w.1+1)) (Ev.stepX (opD ops w.1) s1 v h') σ m) none)) none) (stDk call base na ops s w.1)) (idxV Ds ops):W)=some eqs:=h
  cases hi:idxV Ds ops with
  |none=>
   rw[hi] at h
   replace h:(Option.rec none (fun s'=>wAdd [.v (gotA (revOnto s'.old [s'.cur]) s'.mks s'.rs) (wantA s'.rs)] (K s'.fr (puts (selC s'.cur.cons s'.mks) s'.cur.h) σ m)) (evD call base na ops s):W)=some eqs:=h
   cases hev:evD call base na ops s with
   |none=>rw[hev] at h;cases h
   |some s'=>
    rw[hev] at h
    obtain⟨c,h4,h5⟩:=wAdd_some h
    subst h5
    obtain⟨y,g1,g2⟩:=hK _ _ _ _ _ h4 (fun e hm=>he e (Lk _ hm)) hs
    exact⟨y,g1,s',hev,he (.v (gotA (revOnto s'.old [s'.cur]) s'.mks s'.rs) (wantA s'.rs)) (Lj _ (List.mem_singleton.2 rfl)),g2⟩
  |some w=>
   rw[hi] at h
   obtain⟨k,d⟩:=w
   cases hst:stDk call base na ops s k with
   |none=>replace h:(Option.rec none _ (stDk call base na ops s k):W)=some eqs:=h;rw[hst] at h;cases h
   |some s1=>
    replace h:(Option.rec none _ (stDk call base na ops s k):W)=some eqs:=h
    rw[hst] at h
    obtain⟨h1,h⟩:=cd_some h
    obtain⟨h1,h2⟩:=cd_true h1
    obtain⟨h1,h3⟩:=cd_true (show cd (isT (wanted (opD ops k).o.g s1.fr)) (Cls.rec false false false true (opD ops k).o.op.cls) false=true from h1)
    have hcl:=idxV_eq hi
    obtain⟨f,as_,hop,hdo⟩:=fnC_eq hcl
    obtain⟨v,h',σ',m',e',g1,g2,g3,g4⟩:=clX_ok hB (hD _ (clOf_mem hdo).1) h he hs
    obtain⟨g5,g6⟩:=cd_some g2
    obtain⟨y,g7,g8⟩:=ndV_ok hB hC hD hK n g6 g3 g4
    refine⟨y,g7,RunD.stepX k v h' (by rw[hst];rfl) h2 (by rw[hst];exact isT_eq h1) (by rw[hop];rfl) ?_ (by rw[hst];exact g5) (by rw[hst];exact g8)⟩
    rw[hst]
    show evOp call (opD ops k).o.op s1.fr (heapAt s1.cur (opD ops k).ks s1.mks) (Nat.add base na)=.ok v h'
    rw[hop]
    show call f (evs as_ s1.fr) _=_
    rw[hC f d _ _ hdo]
    have hcar:cArg (opD ops k).o.op s1.fr=evs as_ s1.fr:=by rw[hop];rfl
    rw[←hcar];exact g1
end
def ndS {Bn:Nat} (Ds:List Cl) (u:Us Bn) (nt:Nat) (Fin:T AV→H→den ySrc→Bg→W) (ih:Cf→den ySrc→Bg→W) (q:Cf) (σ:den ySrc) (m:Bg):W:=match q.c with
 |.region _ ops false=>ndR Bn Ds u.C q.h.next (fun fr h σ m=>ih ⟨.skip,q.ks,fr,h⟩ σ m) 60 (rsOf Bn nt ops q.fr q.h) σ m
 |.region _ ops true=>cd (chkD (regN PP (GG Bn) nt ops) ops.toList (predsGo ops.toList []) (regL PP (GG Bn) nt ops))
  (ndV Bn Ds u.C.call q.h.next (regN PP (GG Bn) nt ops) (fun fr h σ m=>ih ⟨.skip,q.ks,fr,h⟩ σ m) 20 (drawOf (predsGo ops.toList []) (regL PP (GG Bn) nt ops)) ⟨q.fr,⟨⟨Nat.add q.h.next (regN PP (GG Bn) nt ops),q.h.t⟩,[]⟩,[],[],[]⟩ σ m) none
 |.loop b=>ih ⟨b,.un b 500::q.ks,q.fr,q.h⟩ σ m
 |_=>cd (endC q) (Fin q.fr q.h σ m) (Option.rec none (fun q'=>ih q' σ m) (stp u nt q))
def ndM {Bn:Nat} (Ds:List Cl) (u:Us Bn) (nt:Nat) (Fin:T AV→H→den ySrc→Bg→W) (n:Nat):Cf→den ySrc→Bg→W:=
 Nat.rec (motive:=fun _=>Cf→den ySrc→Bg→W) (fun _ _ _=>none) (fun _ ih q σ m=>ndS Ds u nt Fin ih q σ m) n
section
variable {Bn nt:Nat}{u:Us Bn}{Ds:List Cl}{B:Int}{τ:Type}{R:τ→Prop}{E:τ→Ex→T AV→H→Prop}{Fin:T AV→H→den ySrc→Bg→W}
theorem ndM_ok (hB:B≤1000000000) (hC:∀f d args h,clOf Ds f=some d→u.C.call f args h=ansC Bn d args h) (hD:∀d∈Ds,ClOk Bn d)
 (hF:∀fr h σ' m' e',Fin fr h σ' m'=some e'→Eqs e'→Src B m' σ'→∃y,R y∧∀ex,ex=.normal∨ex=.ret→E y ex fr h):∀(n:Nat){q:Cf}{σ:den ySrc}{m:Bg}{eqs:List Ob},
 ndM Ds u nt Fin n q σ m=some eqs→Eqs eqs→Src B m σ→∃y,R y∧GC Bn nt u E q y
 |0,_,_,_,_,h,_,_=>by cases h
 |n+1,q,σ,m,eqs,h,he,hs=>by
  obtain⟨c,ks,fr,hh⟩:=q
  have h0:ndS Ds u nt Fin (ndM Ds u nt Fin n) ⟨c,ks,fr,hh⟩ σ m=some eqs:=h
  have hrest:cd (endC ⟨c,ks,fr,hh⟩) (Fin fr hh σ m) (Option.rec none (fun q'=>ndM Ds u nt Fin n q' σ m) (stp u nt ⟨c,ks,fr,hh⟩))=some eqs→∃y,R y∧GC Bn nt u E ⟨c,ks,fr,hh⟩ y:=by
   intro h
   cases hend:endC ⟨c,ks,fr,hh⟩ with
   |true=>
    rw[hend] at h
    obtain⟨y,h1,h2⟩:=hF _ _ _ _ _ h he hs
    exact⟨y,h1,endC_of hend h2⟩
   |false=>
    rw[hend] at h
    replace h:(Option.rec none (fun q'=>ndM Ds u nt Fin n q' σ m) (stp u nt ⟨c,ks,fr,hh⟩):W)=some eqs:=h
    cases hst:stp u nt ⟨c,ks,fr,hh⟩ with
    |none=>rw[hst] at h;cases h
    |some q'=>
     rw[hst] at h
     obtain⟨y,h1,h2⟩:=ndM_ok hB hC hD hF n (show ndM Ds u nt Fin n q' σ m=some eqs from h) he hs
     exact⟨y,h1,stp_ok hst h2⟩
  unfold ndS at h0
  split at h0
  ·rename_i rid ops hc
   replace hc:c=.region rid ops false:=hc
   subst hc
   obtain⟨y,h1,h2⟩:=ndR_ok (R:=R) (Q:=fun fr h y=>GC Bn nt u E ⟨.skip,ks,fr,h⟩ y) hB hC hD (fun fr h σ' m' e' g1 g2 g3=>ndM_ok hB hC hD hF n g1 g2 g3) 60 h0 he hs
   exact⟨y,h1,reg_of h2⟩
  ·rename_i rid ops hc
   replace hc:c=.region rid ops true:=hc
   subst hc
   obtain⟨g1,g2⟩:=cd_some h0
   obtain⟨y,h1,h2⟩:=ndV_ok (R:=R) (Q:=fun fr h y=>GC Bn nt u E ⟨.skip,ks,fr,h⟩ y) hB hC hD (fun fr h σ' m' e' g1 g2 g3=>ndM_ok hB hC hD hF n g1 g2 g3) 20 g2 he hs
   exact⟨y,h1,Sat.dregS hmix u.ok g1 h2⟩
  ·rename_i b hc
   replace hc:c=.loop b:=hc
   subst hc
   obtain⟨y,h1,h2⟩:=ndM_ok hB hC hD hF n h0 he hs
   exact⟨y,h1,zun (r:=501) (zu1 h2.S)⟩
  ·exact hrest h0
end
def finD (res:List (List Bool×Option (Option Nat))) (rs:List Par) (chk:denL rs→List Zv→Option (List Ob)) (fr:T AV) (h:H) (σ:den ySrc) (m:Bg):W:=
 Option.rec none (fun y=>Option.rec none (fun l=>some (ob1 ySrc y.1 σ::l)) (chk y.2 m.z)) (endVM res 99 ySrc rs fr h)
def finV (res:List (List Bool×Option (Option Nat))) (rs:List Par) (y0:denL rs) (fr:T AV) (h:H) (_:den ySrc) (_:Bg):W:=
 Option.rec none (fun y=>some [obL rs y y0]) (endV res rs fr h)
def finM0 (res:List (List Bool×Option (Option Nat))) (el:TypeId) (t:Ty) (rs:List Par) (x0:den t) (y0:denL rs) (fr:T AV) (h:H) (_:den ySrc) (_:Bg):W:=
 Option.rec none (fun y=>some [ob1 t y.1 x0,obL rs y.2 y0]) (endVM res el t rs fr h)
theorem nd_fn {Bn:Nat} [BOk Bn]{Ds:List Cl}{L:List Con} (hD:∀d∈Ds,ClOk Bn d) (hL:Okl Bn L) (d:Dr) (chk:denL d.ps→denL d.rs→List Zv→Option (List Ob)) (hchk:∀x y z l,chk x y z=some l→Eqs l→(∀v∈z,Zok v)→y∈d.ch x)
 (hsy:DrEn d){fn:Func} (hf:PP.funcs[d.f]? =some fn) (n:Nat)
 (hrun:∀σ x,d.ch x≠[]→d.at_ x→(∀w,d.os=some w→σ=w)→∃eqs,ndM Ds (uD Ds L hD hL) fn.ntmps (finD (resF fn) d.rs (chk x)) n ⟨bodyF fn,[],argsFrom (fstA none (path 0)::encL d.ps x) 0 .e,hpH 1 [some (.cs 99 (tc ySrc σ) false)]⟩ σ ⟨d.use,[]⟩=some eqs∧Eqs eqs)
 (hcl:clWf Ds=true:=by kernel_rfl) (hw:wfR d.rs=true:=by kernel_rfl) (hok:fOk d.ps fn 1=true:=by kernel_rfl):DrOk Bn d:=by
 refine⟨⟨hw,hsy⟩,fun x0 x h1 h2 h3 hne hat hos=>?_⟩
 obtain⟨eqs,h4,h5⟩:=hrun x0 x hne hat hos
 obtain⟨y,⟨hy1,hy2⟩,hy⟩:=ndM_ok (Bn:=Bn) (B:=x0.2.1+(d.use:Int)) (R:=fun(y:den ySrc×denL d.rs)=>y.2∈d.ch x∧Adv d.use x0 y.1) (E:=EndQM (resF fn) 99 ySrc d.rs) h3
  (fun f d args h hd=>cl_call hcl hd) hD (fun fr h σ' m' e' g1 g2 g3=>by
   unfold finD at g1
   cases hv:endVM (resF fn) 99 ySrc d.rs fr h with
   |none=>rw[hv] at g1;cases g1
   |some y=>
    rw[hv] at g1
    replace g1:(Option.rec none (fun l=>some (ob1 ySrc y.1 σ'::l)) (chk x y.2 m'.z):W)=some e':=g1
    cases hc:chk x y.2 m'.z with
    |none=>rw[hc] at g1;cases g1
    |some l=>
     rw[hc] at g1
     obtain rfl:=Oi (show some (ob1 ySrc y.1 σ'::l)=some e' from g1)
     have hy1:y.1=σ':=ob1_eq (g2 (ob1 ySrc y.1 σ') (Mc ..))
     obtain⟨⟨k1,k2,k3⟩,kz⟩:=g3
     refine⟨y,⟨hchk x _ _ _ hc (fun e he=>g2 e (Lo _ he)) kz,by rw[hy1];exact⟨k1,k2,om⟩⟩,fun ex hex=>⟨hex,hv⟩⟩) n h4 h5 ⟨⟨h1,h2,Int.le_refl _⟩,fun v hv=>by cases hv⟩
 refine⟨y,hy1,hy2,?_⟩
 exact xIM (c:=d.con Bn) (uD Ds L hD hL) hf (fun _ _ _=>hy) hok
def chkL {rs:List Par} (l:List (denL rs)) (y:denL rs) (_:List Zv):Option (List Ob):=cd (inD rs l y) (some []) none
theorem chkD_mem {rs:List Par}{l:List (denL rs)}{y:denL rs}{z:List Zv}{o:List Ob} (h:chkL l y z=some o):y∈l:=inD_mem (cd_some h).1
def srcZ:den ySrc:=([],0,0)
theorem srcZ_ok:Src 0 ⟨0,[]⟩ srcZ:=⟨⟨rfl,by decide,by decide⟩,fun v hv=>by cases hv⟩
theorem fc_fn {Bn:Nat} [BOk Bn]{Ds:List Cl}{L:List Con} (hD:∀d∈Ds,ClOk Bn d) (hL:Okl Bn L) (c:Fc){fn:Func} (hf:PP.funcs[c.f]? =some fn) (n:Nat)
 (hrun:∃eqs,ndM Ds (uD Ds L hD hL) fn.ntmps (finV (resF fn) c.rs c.y) n ⟨bodyF fn,[],argsFrom (encL c.ps c.x) 0 .e,H0⟩ srcZ ⟨0,[]⟩=some eqs∧Eqs eqs)
 (hcl:clWf Ds=true:=by kernel_rfl) (hw:wfR c.rs=true:=by kernel_rfl) (hok:fOk c.ps fn 0=true:=by kernel_rfl):FcOk Bn c:=by
 refine⟨hw,?_⟩
 obtain⟨eqs,h4,h5⟩:=hrun
 obtain⟨y,hy1,hy⟩:=ndM_ok (Bn:=Bn) (B:=0) (R:=fun y=>y=c.y) (E:=EndQ (resF fn) c.rs) (by decide)
  (fun f d args h hd=>cl_call hcl hd) hD (fun fr h σ' m' e' g1 g2 _=>by
   unfold finV at g1
   cases hv:endV (resF fn) c.rs fr h with
   |none=>rw[hv] at g1;cases g1
   |some y=>
    rw[hv] at g1
    obtain rfl:=Oi (show some [obL c.rs y c.y]=some e' from g1)
    refine⟨y,g2 (obL c.rs y c.y) (List.mem_singleton.2 rfl),fun ex hex=>⟨hex,?_⟩⟩
    unfold endV at hv
    cases hr:resOf (resF fn) fr h with
    |none=>rw[hr] at hv;cases hv
    |some us=>rw[hr] at hv;exact⟨us,rfl,hv⟩) n h4 h5 srcZ_ok
 subst hy1
 exact xI (c:=c.con) (uD Ds L hD hL) hf (fun _ _=>hy) hok
theorem fm_fn {Bn:Nat} [BOk Bn]{Ds:List Cl}{L:List Con} (hD:∀d∈Ds,ClOk Bn d) (hL:Okl Bn L) (c:Fm) (hc:∀k q,nth c.l k=some q→flF c.l q.1=some q.2){fn:Func} (hf:PP.funcs[c.f]? =some fn) (n:Nat)
 (hrun:∀p∈c.l,∃eqs,ndM Ds (uD Ds L hD hL) fn.ntmps (finM0 (resF fn) c.el c.t c.rs c.x0 p.2) n ⟨bodyF fn,[],argsFrom (fstA none (path 0)::encL c.ps p.1) 0 .e,hpH 1 [some (.cs c.el (tc c.t c.x0) false)]⟩ srcZ ⟨0,[]⟩=some eqs∧Eqs eqs)
 (hcl:clWf Ds=true:=by kernel_rfl) (hw:wfR c.rs=true:=by kernel_rfl) (hok:fOk c.ps fn 1=true:=by kernel_rfl):FmOk Bn c:=by
 refine⟨hw,fun p hp=>?_,hc⟩
 obtain⟨eqs,h4,h5⟩:=hrun p hp
 obtain⟨y,hy1,hy⟩:=ndM_ok (Bn:=Bn) (B:=0) (R:=fun(y:den c.t×denL c.rs)=>y=(c.x0,p.2)) (E:=EndQM (resF fn) c.el c.t c.rs) (by decide)
  (fun f d args h hd=>cl_call hcl hd) hD (fun fr h σ' m' e' g1 g2 _=>by
   unfold finM0 at g1
   cases hv:endVM (resF fn) c.el c.t c.rs fr h with
   |none=>rw[hv] at g1;cases g1
   |some y=>
    rw[hv] at g1
    obtain rfl:=Oi (show some [ob1 c.t y.1 c.x0,obL c.rs y.2 p.2]=some e' from g1)
    have e1:=ob1_eq (g2 (ob1 c.t y.1 c.x0) (Mc ..))
    have e2:y.2=p.2:=g2 (obL c.rs y.2 p.2) (Lo _ (List.mem_singleton.2 rfl))
    exact⟨y,Prod.ext e1 e2,fun ex hex=>⟨hex,hv⟩⟩) n h4 h5 srcZ_ok
 subst hy1
 exact xIM (c:=c.con) (uD Ds L hD hL) hf (fun _ _ _=>hy) hok
section
variable {Bn:Nat} [BOk Bn]
set_option maxRecDepth 100000
def callX (B:Nat) (call:CallF):CallF:=fun f args h=>cd (Nat.beq f 12) (evF (tblC B [] EX) 20 12 args h) (call f args h)
theorem callX_ok {call:CallF} (hk:CallOK PP (GG Bn) call):CallOK PP (GG Bn) (callX Bn call):=fun f args r h' e vs hr hs hg hrel=>by
 replace hr:cd (Nat.beq f 12) (evF (tblC Bn [] EX) 20 12 args e.h) (call f args e.h)=.ok r h':=hr
 cases hb:Nat.beq f 12 with
 |true=>
  rw[hb] at hr
  obtain rfl:=Nq hb
  exact evF_sound hmix (tblC_ok ok0 EX_ok) 20 12 args r h' e vs hr hs hg hrel
 |false=>rw[hb] at hr;exact hk f args r h' e vs hr hs hg hrel
theorem callX_no {call:CallF}{f:Nat}{args:List AV}{h:H} (hb:Nat.beq f 12=false):callX Bn call f args h=call f args h:=by
 show cd (Nat.beq f 12) _ _=_
 rw[hb];rfl
def uX (Ds:List Cl) (L:List Con) (hM:∀d∈Ds,ClOk Bn d) (h:Okl Bn L):Us Bn:=
 ⟨⟨callX Bn (callD Bn Ds L),fun f=>cd (Nat.beq f 12) false (clNo Ds f),false,fun f args h r h' hn hr=>by
  have hn:cd (Nat.beq f 12) false (clNo Ds f)=true:=hn
  cases hb:Nat.beq f 12 with
  |true=>rw[hb] at hn;cases hn
  |false=>rw[hb] at hn;rw[callX_no hb,cl_none hn] at hr;exact callOf_pure L _ _ _ _ _ hr,fun h=>by cases h⟩,
   callX_ok (callOfMG_ok (callOfG_ok (callOf_ok (G:=GG Bn) (BOk.lo (B:=Bn)) h) (conC_ok hM)) (conM_ok hM)),cjL L,callOf_ok (G:=GG Bn) (BOk.lo (B:=Bn)) h,callOf_pure L⟩
def detS (u:Us Bn) (nt:Nat) (q:Cf):Option Cf:=match q.c with
 |.region _ ops false=>Option.rec none (fun r=>some ⟨.skip,q.ks,r.1,r.2.1⟩) ((rsOf Bn nt ops q.fr q.h).all u.C q.h.next)
 |_=>stp u nt q
theorem detS_ok {u:Us Bn}{nt:Nat}{τ:Type}{E:τ→Ex→T AV→H→Prop}{q q':Cf}{y:τ} (h:detS u nt q=some q') (hy:GC Bn nt u E q' y):GC Bn nt u E q y:=by
 obtain⟨c,ks,fr,hh⟩:=q
 unfold detS at h
 split at h
 ·rename_i rid ops hc
  replace hc:c=.region rid ops false:=hc
  subst hc
  replace h:(Option.rec none (fun r=>some ⟨.skip,ks,r.1,r.2.1⟩) ((rsOf Bn nt ops fr hh).all u.C hh.next):Option Cf)=some q':=h
  cases ha:(rsOf Bn nt ops fr hh).all u.C hh.next with
  |none=>rw[ha] at h;cases h
  |some r=>
   rw[ha] at h
   obtain rfl:=Oi (show some (⟨.skip,ks,r.1,r.2.1⟩:Cf)=some q' from h)
   have h2:RJ u.C hh.next (rsOf Bn nt ops fr hh) (kQ Bn nt (E y) ks .normal):=RJ.fin (by rw[ha];rfl) (by rw[ha];exact hy)
   exact reg_of (Q:=kQ Bn nt (E y) ks) h2
 ·exact stp_ok h hy
def detN (u:Us Bn) (nt:Nat) (m:Nat):Cf→Option Cf:=Nat.rec (motive:=fun _=>Cf→Option Cf) (fun q=>some q) (fun _ ih q=>Option.rec none ih (detS u nt q)) m
theorem detN_ok {u:Us Bn}{nt:Nat}{τ:Type}{E:τ→Ex→T AV→H→Prop}{q':Cf}{y:τ} (hy:GC Bn nt u E q' y):∀{m:Nat}{q:Cf},detN u nt m q=some q'→GC Bn nt u E q y
 |0,_,h=>by obtain rfl:=Oi (show some _=some q' from h);exact hy
 |m+1,q,h=>by
  replace h:(Option.rec none (detN u nt m) (detS u nt q):Option Cf)=some q':=h
  cases hs:detS u nt q with
  |none=>rw[hs] at h;cases h
  |some q1=>rw[hs] at h;exact detS_ok hs (detN_ok hy (m:=m) h)
abbrev pCo:List Par:=[⟨false,.sl (.int .u8)⟩]
def finE (res:List (List Bool×Option (Option Nat))) (rs:List Par) (chk:denL rs→List Zv→Option (List Ob)) (fr:T AV) (h:H) (_:den ySrc) (m:Bg):W:=
 Option.rec none (fun y=>chk y m.z) (endV res rs fr h)
end
end Go.Ev
end
