/- A part of the proof that FnRolled returns true; no condition. -/
import Derived.Test.YtmkdnjbgmflnfaaGreatDoorPh
import Derived.Test.YtmkdnjbgmflnfaaGreatDoorPa
set_option linter.all false
set_option maxRecDepth 100000
open List renaming length→U
open Int renaming ofNat→J,toNat→Jn
noncomputable section
namespace Go.Ev
open Go.Proofs
def bodyC (q:Cf):Code:=match q.c with|.loop b=>b|_=>.skip
def loopC (q:Cf):Bool:=match q.c with|.loop _=>true|_=>false
def cvC (Bn:Nat) (q:Cf):Option Bool:=match q.c with|.cond c _ _=>bOf (evO (GG Bn) c q.fr)|_=>none
def setO (c:Operand) (b:Bool) (fr:T AV):T AV:=match c with|.tmp p=>T.set (path p) (.b b) fr|_=>fr
def brC (b:Bool) (q:Cf):Cf:=match q.c with|.cond c x y=>⟨cd b x y,q.ks,setO c b q.fr,q.h⟩|_=>q
def opsC (q:Cf):Array Oper:=match q.c with|.region _ ops _=>ops|_=>#[]
def regC (d:Bool) (q:Cf):Bool:=match q.c with|.region _ _ d'=>cd d d' (cd d' false true)|_=>false
def rsC (Bn nt:Nat) (q:Cf):RS:=rsOf Bn nt (opsC q) q.fr q.h
def rdC (Bn nt:Nat) (q:Cf):RS:=rdOf Bn nt (opsC q) q.fr q.h
def nilK (ks:List K):Bool:=List.rec true (fun _ _ _=>false) ks
def retC (q:Cf):Bool:=match q.c with|.ret=>nilK q.ks|_=>false
def skpC (q:Cf):Bool:=match q.c with|.skip=>nilK q.ks|_=>false
def extC (q:Cf):Bool:=match q.c with|.exit _=>nilK q.ks|_=>false
def endC (q:Cf):Bool:=match q.c with|.ret=>nilK q.ks|.skip=>nilK q.ks|_=>false
theorem nilK_eq {ks:List K} (h:nilK ks=true):ks=[]:=by
 cases ks with
 |nil=>rfl
 |cons=>cases h
section
variable {Bn nt:Nat}{u:Us Bn}{τ:Type}{E:τ→Ex→T AV→H→Prop}{y:τ}{q:Cf}
theorem xc (n:Nat){b:Bool}{X Y:τ} (ht:b=true→GC Bn nt u E (brC true (cAt u nt n q)) X) (hf:b=false→GC Bn nt u E (brC false (cAt u nt n q)) Y)
 (ho:cOn u nt n q=true:=by kernel_rfl) (hv:cvC Bn (cAt u nt n q)=some b:=by kernel_rfl):GC Bn nt u E q (cd b X Y):=by
 refine run_ok n ho ?_
 generalize cAt u nt n q=p at*
 obtain⟨c,ks,fr,h⟩:=p
 unfold cvC at hv
 split at hv
 ·rename_i c' x y' hc
  replace hc:c=.cond c' x y':=hc
  subst hc
  have hv:=bOf_eq (show bOf (evO (GG Bn) c' fr)=some b from hv)
  have hset:setO c' b fr=fr:=by
   cases c' with
   |tmp p=>
    have:getV fr (path p)=.b b:=by
     have h0:evO (GG Bn) (.tmp p) fr=getV fr (mkPath p):=rfl
     rw[h0,mkPath_eq] at hv;exact hv
    unfold getV at this
    show T.set (path p) (.b b) fr=fr
    cases hg:T.get (path p) fr with
    |none=>rw[hg] at this;cases this
    |some v=>rw[hg] at this;have this:v=.b b:=this;rw[this] at hg;exact T.set_self _ _ _ hg
   |_=>rfl
  show S Bn nt (.cond c' x y') fr h _
  refine Sat.cond b hv (fun hb=>?_) (fun hb=>?_)
  ·subst hb
   have:=(ht rfl).S
   rw[show(brC true (⟨.cond c' x y',ks,fr,h⟩:Cf))=⟨x,ks,setO c' true fr,h⟩ from rfl,hset] at this
   exact this
  ·subst hb
   have:=(hf rfl).S
   rw[show(brC false (⟨.cond c' x y',ks,fr,h⟩:Cf))=⟨y',ks,setO c' false fr,h⟩ from rfl,hset] at this
   exact this
 ·cases hv
theorem xs (n:Nat) (hg:GC Bn nt u E (cAt u nt n q) y) (ho:cOn u nt n q=true:=by kernel_rfl):GC Bn nt u E q y:=run_ok n ho hg
theorem xr (n:Nat) (hr:RJ u.C (cAt u nt n q).h.next (rsC Bn nt (cAt u nt n q)) (fun fr h=>GC Bn nt u E ⟨.skip,(cAt u nt n q).ks,fr,h⟩ y)) (ho:cd (cOn u nt n q) (regC false (cAt u nt n q)) false=true:=by kernel_rfl):GC Bn nt u E q y:=by
 obtain⟨h1,h2⟩:=cd_true ho
 refine run_ok n h1 ?_
 generalize cAt u nt n q=p at*
 obtain⟨c,ks,fr,h⟩:=p
 unfold regC at h2
 split at h2
 ·rename_i rid ops d hc
  replace hc:c=.region rid ops d:=hc
  subst hc
  have:d=false:=by cases d<;>first|rfl|cases h2
  subst this
  exact reg_of hr
 ·cases h2
theorem xd (n:Nat) (hr:RJ u.P (cAt u nt n q).h.next (rdC Bn nt (cAt u nt n q)) (fun fr h=>GC Bn nt u E ⟨.skip,(cAt u nt n q).ks,fr,h⟩ y))
 (ho:cd (cOn u nt n q) (cd (regC true (cAt u nt n q)) (dregOk PP (GG Bn) nt (opsC (cAt u nt n q))) false) false=true:=by kernel_rfl):GC Bn nt u E q y:=by
 obtain⟨h1,h2⟩:=cd_true ho
 obtain⟨h2,h3⟩:=cd_true h2
 refine run_ok n h1 ?_
 generalize cAt u nt n q=p at*
 obtain⟨c,ks,fr,h⟩:=p
 unfold regC at h2
 split at h2
 ·rename_i rid ops d hc
  replace hc:c=.region rid ops d:=hc
  subst hc
  have:d=true:=by cases d<;>first|rfl|cases h2
  subst this
  exact dreg_of h3 hr
 ·cases h2
theorem xv (n:Nat) (hg:GC Bn nt u E ⟨.skip,(cAt u nt n q).ks,frD (evDr PP (GG Bn) nt u.C.call (opsC (cAt u nt n q)) (cAt u nt n q).fr (cAt u nt n q).h),hD (evDr PP (GG Bn) nt u.C.call (opsC (cAt u nt n q)) (cAt u nt n q).fr (cAt u nt n q).h)⟩ y)
 (ho:cd (cOn u nt n q) (cd (regC true (cAt u nt n q)) (cd (chkD (regN PP (GG Bn) nt (opsC (cAt u nt n q))) (opsC (cAt u nt n q)).toList (predsGo (opsC (cAt u nt n q)).toList []) (regL PP (GG Bn) nt (opsC (cAt u nt n q))))
  (isSomeD (evDr PP (GG Bn) nt u.C.call (opsC (cAt u nt n q)) (cAt u nt n q).fr (cAt u nt n q).h)) false) false) false=true:=by kernel_rfl)
 (hc:gotD (evDr PP (GG Bn) nt u.C.call (opsC (cAt u nt n q)) (cAt u nt n q).fr (cAt u nt n q).h)=wantD (evDr PP (GG Bn) nt u.C.call (opsC (cAt u nt n q)) (cAt u nt n q).fr (cAt u nt n q).h):=by kernel_rfl):GC Bn nt u E q y:=by
 obtain⟨h1,h2⟩:=cd_true ho
 obtain⟨h2,h3⟩:=cd_true h2
 obtain⟨h3,h4⟩:=cd_true h3
 refine run_ok n h1 ?_
 generalize cAt u nt n q=p at*
 obtain⟨c,ks,fr,h⟩:=p
 unfold regC at h2
 split at h2
 ·rename_i rid ops d hc'
  replace hc':c=.region rid ops d:=hc'
  subst hc'
  have:d=true:=by cases d<;>first|rfl|cases h2
  subst this
  exact Sat.dregV hmix u.ok h3 h4 hc hg
 ·cases h2
theorem xw (n:Nat) (hr:RunD u.C.call (cAt u nt n q).h.next (regN PP (GG Bn) nt (opsC (cAt u nt n q))) (drawOf (predsGo (opsC (cAt u nt n q)).toList []) (regL PP (GG Bn) nt (opsC (cAt u nt n q)))) ⟨(cAt u nt n q).fr,⟨⟨Nat.add (cAt u nt n q).h.next (regN PP (GG Bn) nt (opsC (cAt u nt n q))),(cAt u nt n q).h.t⟩,[]⟩,[],[],[]⟩
 (DQ (fun fr h=>GC Bn nt u E ⟨.skip,(cAt u nt n q).ks,fr,h⟩ y)))
 (ho:cd (cOn u nt n q) (cd (regC true (cAt u nt n q)) (chkD (regN PP (GG Bn) nt (opsC (cAt u nt n q))) (opsC (cAt u nt n q)).toList (predsGo (opsC (cAt u nt n q)).toList []) (regL PP (GG Bn) nt (opsC (cAt u nt n q)))) false) false=true:=by kernel_rfl):GC Bn nt u E q y:=by
 obtain⟨h1,h2⟩:=cd_true ho
 obtain⟨h2,h3⟩:=cd_true h2
 refine run_ok n h1 ?_
 generalize cAt u nt n q=p at*
 obtain⟨c,ks,fr,h⟩:=p
 unfold regC at h2
 split at h2
 ·rename_i rid ops d hc'
  replace hc':c=.region rid ops d:=hc'
  subst hc'
  have:d=true:=by cases d<;>first|rfl|cases h2
  subst this
  exact Sat.dregS hmix u.ok h3 hr
 ·cases h2
theorem xsv (n p:Nat) (v v':AV) (he:v=v') (hg:GC Bn nt u E ⟨(cAt u nt n q).c,(cAt u nt n q).ks,T.set (path p) v' (cAt u nt n q).fr,(cAt u nt n q).h⟩ y)
 (ho:cOn u nt n q=true:=by kernel_rfl) (hv:T.get (path p) (cAt u nt n q).fr=some v:=by kernel_rfl):GC Bn nt u E q y:=by
 subst he
 refine run_ok n ho ?_
 rw[T.set_self _ _ _ hv] at hg;exact hg
theorem kQ_ret {Q:Ex→T AV→H→Prop}{fr:T AV}{h:H}:∀(ks:List K),kQ Bn nt Q ks .ret fr h=Q .ret fr h
 |[]=>rfl
 |.th c::ks=>kQ_ret ks
 |.bk id::ks=>kQ_ret ks
 |.un b r::ks=>kQ_ret ks
theorem endC_of {q:Cf} (h:endC q=true) (hy:∀ex,ex=.normal∨ex=.ret→E y ex q.fr q.h):GC Bn nt u E q y:=by
 obtain⟨c,ks,fr,hh⟩:=q
 unfold endC at h
 split at h
 ·rename_i hc
  replace hc:c=.ret:=hc
  subst hc
  replace h:nilK ks=true:=h
  rw[nilK_eq h]
  exact hy .ret (.inr rfl)
 ·rename_i hc
  replace hc:c=.skip:=hc
  subst hc
  replace h:nilK ks=true:=h
  rw[nilK_eq h]
  exact hy .normal (.inl rfl)
 ·cases h
theorem xe {res:List (List Bool×Option (Option Nat))}{rs:List Par}{y:denL rs} (n:Nat) (ho:cd (cOn u nt n q) (endC (cAt u nt n q)) false=true:=by kernel_rfl)
 (he:endV res rs (cAt u nt n q).fr (cAt u nt n q).h=some y:=by kernel_rfl):GC Bn nt u (EndQ res rs) q y:=by
 obtain⟨h1,h2⟩:=cd_true ho
 refine run_ok n h1 (endC_of h2 ?_)
 rintro ex hex
 refine⟨hex,?_⟩
 unfold endV at he
 cases hr:resOf res (cAt u nt n q).fr (cAt u nt n q).h with
 |none=>rw[hr] at he;cases he
 |some us=>rw[hr] at he;exact⟨us,rfl,he⟩
theorem xem {res:List (List Bool×Option (Option Nat))}{el:TypeId}{t:Ty}{rs:List Par}{y:den t×denL rs} (n:Nat) (ho:cd (cOn u nt n q) (endC (cAt u nt n q)) false=true:=by kernel_rfl)
 (he:endVM res el t rs (cAt u nt n q).fr (cAt u nt n q).h=some y:=by kernel_rfl):GC Bn nt u (EndQM res el t rs) q y:=by
 obtain⟨h1,h2⟩:=cd_true ho
 exact run_ok n h1 (endC_of h2 (fun ex hex=>⟨hex,he⟩))
def gets (fr:T AV) (L:List (List Bool×AV)):List AV:=List.rec [] (fun q _ ih=>getV fr q.1::ih) L
def vals (L:List (List Bool×AV)):List AV:=List.rec [] (fun q _ ih=>q.2::ih) L
def putAt (l:List AV):Nat→AV→List AV:=List.rec (motive:=fun _=>Nat→AV→List AV) (fun _ _=>[]) (fun x xs ih k v=>Nat.rec (motive:=fun _=>List AV) (v::xs) (fun k _=>x::ih k v) k) l
theorem hA {fr:T AV}:∀{L:List (List Bool×AV)},gets fr L=vals L→Holds fr L
 |[],_=>trivial
 |q::L,h=>by
  injection(show getV fr q.1::gets fr L=q.2::vals L from h) with h1 h2
  exact⟨h1,hA h2⟩
theorem putAt_same:∀{l:List AV}{k:Nat}{v:AV},nth l k=some v→putAt l k v=l
 |[],_,_,h=>by cases h
 |x::l,0,v,h=>by injection(show some x=some v from h) with h;rw[h];rfl
 |x::l,k+1,v,h=>by
  show x::putAt l k v=x::l
  rw[putAt_same (show nth l k=some v from h)]
theorem hV {fr:T AV}{L:List (List Bool×AV)} (k:Nat) (v v':AV) (he:v=v') (h:gets fr L=putAt (vals L) k v:=by kernel_rfl) (hn:nth (vals L) k=some v':=by kernel_rfl):Holds fr L:=by
 subst he
 exact hA (h.trans (putAt_same hn))
theorem hN {fr:T AV}{L:List (List Bool×AV)} (k i:Nat) (hi:i<9223372036854775807) (h:gets fr L=putAt (vals L) k (.i .i64 (wr .i64 (J i+J 1))):=by kernel_rfl) (hn:nth (vals L) k=some (.i .i64 (J (i+1))):=by kernel_rfl):Holds fr L:=
 hV k _ _ (wr_inc hi) h hn
def RoundE (Bn nt:Nat){σ β:Type} (E:τ→Ex→T AV→H→Prop) (ks:List K) (bX:σ→τ) (rX:β→τ) (Inv:σ→Prop) (m:σ→Nat) (n:Nat) (L:σ→List (List Bool×AV)) (B:σ→List (Option Blk)) (s:σ) (o:Out σ β):Ex→T AV→H→Prop:=fun ex fr h=>match ex with
 |.normal=>∃s',o=.go s'∧(Inv s'∧m s'<m s)∧Holds fr (L s')∧LOk n (L s')∧heapL h n=B s'∧blksOk n (B s')
 |.exit id=>∃s',o=.brk s'∧kQ Bn nt (E (bX s')) ks (.exit id) fr h
 |.ret=>∃r,o=.ret r∧E (rX r) .ret fr h
theorem xl {σ β:Type}{P:σ→Out σ β}{s0:σ}{f:Nat}{g:τ}{bX:σ→τ}{rX:β→τ} (k n:Nat) (L:σ→List (List Bool×AV)) (B:σ→List (Option Blk)) (Inv:σ→Prop) (m:σ→Nat) (hI:Inv s0) (hm:m s0<4611686018427387904) (hl:Holds (cAt u nt k q).fr (L s0))
 (step:∀s,Inv s→GC Bn nt u (RoundE Bn nt E (cAt u nt k q).ks bX rX Inv m n L B s) ⟨bodyC (cAt u nt k q),[],mkFr (L s),hpH n (B s)⟩ (P s))
 (ho:cd (cOn u nt k q) (cd (loopC (cAt u nt k q)) (Nat.beq (cAt u nt k q).h.next n) false) false=true:=by kernel_rfl) (hh:heapL (cAt u nt k q).h n=B s0:=by kernel_rfl) (hf:f=m s0+1:=by kernel_rfl):
 GC Bn nt u E q (outE g bX rX (scan P f s0)):=by
 subst hf
 obtain⟨h1,h2⟩:=cd_true ho
 obtain⟨h2,h3⟩:=cd_true h2
 refine run_ok k h1 ?_
 generalize cAt u nt k q=p at*
 obtain⟨c,ks,fr,h⟩:=p
 unfold loopC at h2
 split at h2
 ·rename_i b hc
  replace hc:c=.loop b:=hc
  subst hc
  show S Bn nt (.loop b) fr h (kQ Bn nt (E (outE g bX rX (scan P (m s0+1) s0))) ks)
  refine loop_scan P n L B Inv m s0 hI hm hl (Nq h3) hh (fun s hs=>Sat.mono (step s hs).S (fun ex fr' h' hq=>?_))
  cases ex with
  |normal=>exact hq
  |exit id=>
   obtain⟨s',g1,g2⟩:=hq
   exact⟨s',g1,fun hr=>by rw[outB hr];exact g2⟩
  |ret=>
   obtain⟨r,g1,g2⟩:=hq
   exact⟨r,g1,fun hr=>by rw[kQ_ret,outR hr];exact g2⟩
 ·cases h2
theorem xlc {σ β:Type}{P:σ→Out σ β}{s0:σ}{f:Nat}{g:τ}{bX:σ→τ}{rX:β→τ} (k n:Nat) (L:σ→List (List Bool×AV)) (B:σ→List (Option Blk)) (c:σ→Nat) (N:Nat) (hm:N<4611686018427387904)
 (step:∀s,c s≤N→GC Bn nt u (RoundE Bn nt E (cAt u nt k q).ks bX rX (fun s=>c s≤N) (fun s=>N - c s) n L B s) ⟨bodyC (cAt u nt k q),[],mkFr (L s),hpH n (B s)⟩ (P s))
 (h0:c s0=0:=by kernel_rfl) (hf:f=N - c s0+1:=by kernel_rfl) (hl:gets (cAt u nt k q).fr (L s0)=vals (L s0):=by kernel_rfl)
 (ho:cd (cOn u nt k q) (cd (loopC (cAt u nt k q)) (Nat.beq (cAt u nt k q).h.next n) false) false=true:=by kernel_rfl) (hh:heapL (cAt u nt k q).h n=B s0:=by kernel_rfl):
 GC Bn nt u E q (outE g bX rX (scan P f s0)):=
 xl k n L B (fun s=>c s≤N) (fun s=>N - c s) (by show c s0≤N;rw[h0];exact Nz _) (by show N - c s0<_;omega) (hA hl) step ho hh hf
theorem gI {i N:Nat} (h:i<N):i+1≤N∧N - (i+1)<N - i:=om
section
variable {σ β:Type}{ks:List K}{bX:σ→τ}{rX:β→τ}{Inv:σ→Prop}{m:σ→Nat}{n:Nat}{L:σ→List (List Bool×AV)}{B:σ→List (Option Blk)}{s:σ}
theorem skpC_of {q:Cf} (h:skpC q=true) (hy:E y .normal q.fr q.h):GC Bn nt u E q y:=by
 obtain⟨c,ks,fr,hh⟩:=q
 unfold skpC at h
 split at h
 ·rename_i hc
  replace hc:c=.skip:=hc
  subst hc
  replace h:nilK ks=true:=h
  rw[nilK_eq h];exact hy
 ·cases h
theorem xg {s':σ} (k:Nat) (hd:Inv s'∧m s'<m s) (hH:Holds (cAt u nt k q).fr (L s')) (ho:cd (cOn u nt k q) (cd (skpC (cAt u nt k q)) (cd (lokB n (L s')) (blksB n (B s')) false) false) false=true:=by kernel_rfl)
 (hh:heapL (cAt u nt k q).h n=B s':=by kernel_rfl):GC Bn nt u (RoundE Bn nt E ks bX rX Inv m n L B s) q (.go s'):=by
 obtain⟨h1,h2⟩:=cd_true ho
 obtain⟨h2,h3⟩:=cd_true h2
 obtain⟨h3,h4⟩:=cd_true h3
 exact run_ok k h1 (skpC_of h2 ⟨s',rfl,hd,hH,lok_of h3,hh,blks_of h4⟩)
theorem xgb {s':σ} (k:Nat) (hd:Inv s'∧m s'<m s) (hH:Holds (cAt u nt k q).fr (L s')) (hb:blksOk n (B s')) (ho:cd (cOn u nt k q) (cd (skpC (cAt u nt k q)) (lokB n (L s')) false) false=true:=by kernel_rfl)
 (hh:heapL (cAt u nt k q).h n=B s':=by kernel_rfl):GC Bn nt u (RoundE Bn nt E ks bX rX Inv m n L B s) q (.go s'):=by
 obtain⟨h1,h2⟩:=cd_true ho
 obtain⟨h2,h3⟩:=cd_true h2
 exact run_ok k h1 (skpC_of h2 ⟨s',rfl,hd,hH,lok_of h3,hh,hb⟩)
theorem xb {s':σ} (k:Nat) (hg:GC Bn nt u E ⟨(cAt u nt k q).c,ks,(cAt u nt k q).fr,(cAt u nt k q).h⟩ (bX s')) (ho:cd (cOn u nt k q) (extC (cAt u nt k q)) false=true:=by kernel_rfl):
 GC Bn nt u (RoundE Bn nt E ks bX rX Inv m n L B s) q (.brk s'):=by
 obtain⟨h1,h2⟩:=cd_true ho
 refine run_ok k h1 ?_
 generalize cAt u nt k q=p at*
 obtain⟨c,ks',fr,h⟩:=p
 unfold extC at h2
 split at h2
 ·rename_i id hc
  replace hc:c=.exit id:=hc
  subst hc
  replace h2:nilK ks'=true:=h2
  rw[nilK_eq h2]
  exact⟨s',rfl,hg⟩
 ·cases h2
theorem retC_of {q:Cf} (h:retC q=true) (hy:E y .ret q.fr q.h):GC Bn nt u E q y:=by
 obtain⟨c,ks,fr,hh⟩:=q
 unfold retC at h
 split at h
 ·rename_i hc
  replace hc:c=.ret:=hc
  subst hc
  replace h:nilK ks=true:=h
  rw[nilK_eq h];exact hy
 ·cases h
theorem xt {r:β} (k:Nat) (hg:GC Bn nt u E ⟨.ret,[],(cAt u nt k q).fr,(cAt u nt k q).h⟩ (rX r)) (ho:cd (cOn u nt k q) (retC (cAt u nt k q)) false=true:=by kernel_rfl):
 GC Bn nt u (RoundE Bn nt E ks bX rX Inv m n L B s) q (.ret r):=by
 obtain⟨h1,h2⟩:=cd_true ho
 exact run_ok k h1 (retC_of h2 ⟨r,rfl,hg⟩)
end
def bodyF (fn:Func):Code:=Option.rec .skip (fun c=>c) fn.body
def resF (fn:Func):List (List Bool×Option (Option Nat)):=Option.rec [] (fun x=>x) (compResL PP fn.results.toList)
def isSm {α:Type} (x:Option α):Bool:=Option.rec false (fun _=>true) x
def fOk (ps:List Par) (fn:Func) (k:Nat):Bool:=cd (isSm fn.body) (cd (isSm (compResL PP fn.results.toList)) (cd (Nat.ble (Nat.add ps.length k) fn.ntmps) (cd (wfR ps) (fn.name != "runtime.NumGoroutine") false) false) false) false
def KC (Bn:Nat) (c:Con) (x:denL c.ps) (y:denL c.rs):Prop:=KOk PP (GG Bn) c.f c.ps c.rs x y
def KM (Bn:Nat) (c:ConM) (x0:den c.t) (x:denL c.ps) (y:den c.t×denL c.rs):Prop:=KOkM PP (GG Bn) c.f c.fs c.el c.t c.ps c.rs x0 x y.1 y.2
abbrev OK (Bn:Nat) (c:Con):Prop:=ConOk PP (GG Bn) c
abbrev OM (Bn:Nat) (c:ConM):Prop:=ConMOk PP (GG Bn) c
theorem isSm_eq {α:Type}{x:Option α} (h:isSm x=true):∃v,x=some v:=by
 cases x with
 |none=>cases h
 |some v=>exact⟨v,rfl⟩
theorem xI [BOk Bn] (u:Us Bn){c:Con}{x:denL c.ps}{y:denL c.rs}{fn:Func} (hf:PP.funcs[c.f]? =some fn)
 (hsat:BdL Bn c.ps x→Bn≤1152921504606846976→GC Bn fn.ntmps u (EndQ (resF fn) c.rs) ⟨bodyF fn,[],argsFrom (encL c.ps x) 0 .e,H0⟩ y) (hok:fOk c.ps fn 0=true:=by kernel_rfl):KC Bn c x y:=by
 obtain⟨h1,h2⟩:=cd_true hok
 obtain⟨h2,h3⟩:=cd_true h2
 obtain⟨h3,h4⟩:=cd_true h3
 obtain⟨h4,h5⟩:=cd_true h4
 obtain⟨b,hb⟩:=isSm_eq h1
 obtain⟨res,hr⟩:=isSm_eq h2
 have e1:bodyF fn=b:=by unfold bodyF;rw[hb]
 have e2:resF fn=res:=by unfold resF;rw[hr]
 rw[e1,e2] at hsat
 exact fn_intro hmix hf (by simpa using h5) hb hr h3 h4 (BOk.lo (B:=Bn)) (fun hbd=>(hsat hbd (BOk.hi (B:=Bn))).S)
theorem xIM [BOk Bn] (u:Us Bn){c:ConM}{x0:den c.t}{x:denL c.ps}{y:den c.t×denL c.rs}{fn:Func} (hf:PP.funcs[c.f]? =some fn)
 (hsat:Bd Bn c.t x0→BdL Bn c.ps x→Bn≤1152921504606846976→GC Bn fn.ntmps u (EndQM (resF fn) c.el c.t c.rs) ⟨bodyF fn,[],argsFrom (fstA c.fs (path 0)::encL c.ps x) 0 .e,hpH 1 [some (.cs c.el (tc c.t x0) false)]⟩ y) (hok:fOk c.ps fn 1=true:=by kernel_rfl):KM Bn c x0 x y:=by
 obtain⟨h1,h2⟩:=cd_true hok
 obtain⟨h2,h3⟩:=cd_true h2
 obtain⟨h3,h4⟩:=cd_true h3
 obtain⟨h4,h5⟩:=cd_true h4
 obtain⟨b,hb⟩:=isSm_eq h1
 obtain⟨res,hr⟩:=isSm_eq h2
 have e1:bodyF fn=b:=by unfold bodyF;rw[hb]
 have e2:resF fn=res:=by unfold resF;rw[hr]
 rw[e1,e2] at hsat
 exact fn_introM hmix hf (by simpa using h5) hb hr h3 h4 (BOk.lo (B:=Bn)) (fun h0 hbd=>(hsat h0 hbd (BOk.hi (B:=Bn))).S)
theorem xO {f:Nat}{ps rs:List Par}{F:denL ps→denL rs} (h:∀x,KC Bn ⟨f,ps,rs,fun x=>some (F x)⟩ x (F x)) (hw:wfR rs=true:=by kernel_rfl):OK Bn ⟨f,ps,rs,fun x=>some (F x)⟩:=
 ⟨hw,fun x y hy=>by injection(show some (F x)=some y from hy) with hy;subst hy;exact h x⟩
theorem xOp {f:Nat}{ps rs:List Par}{p:denL ps→Prop}{inst:∀x,Decidable (p x)}{F:denL ps→denL rs} (h:∀x,p x→KC Bn ⟨f,ps,rs,fun x=>if p x then some (F x) else none⟩ x (F x)) (hw:wfR rs=true:=by kernel_rfl):OK Bn ⟨f,ps,rs,fun x=>if p x then some (F x) else none⟩:=
 ⟨hw,fun x y hy=>by
  by_cases hp:p x
  ·injection((if_pos hp).symm.trans hy) with hy;subst hy;exact h x hp
  ·exact absurd ((if_neg hp).symm.trans hy) (by simp)⟩
theorem xOMp {f:Nat}{t:Ty}{el:Nat}{ps rs:List Par}{fs:Fs0}{p:den t→denL ps→Prop}{inst:∀x0 x,Decidable (p x0 x)}{F:den t→denL ps→den t×denL rs} (h:∀x0 x,p x0 x→KM Bn ⟨f,t,el,ps,rs,fun x0 x=>if p x0 x then some (F x0 x) else none,fs⟩ x0 x (F x0 x)) (hw:wfR rs=true:=by kernel_rfl):
 OM Bn ⟨f,t,el,ps,rs,fun x0 x=>if p x0 x then some (F x0 x) else none,fs⟩:=
 ⟨hw,fun x0 x x1 y hy=>by
  by_cases hp:p x0 x
  ·injection((if_pos hp).symm.trans hy) with hy
   have:=h x0 x hp
   unfold KM at this
   rw[hy] at this;exact this
  ·exact absurd ((if_neg hp).symm.trans hy) (by simp)⟩
end
def goC (q:Cf):Bool:=match q.c with|.skip=>false|.exit _=>false|.ret=>false|_=>true
section
variable {Bn nt:Nat}{u:Us Bn}{τ:Type}{E:τ→Ex→T AV→H→Prop}{y:τ}{q:Cf}
theorem goC_of {q:Cf} (h:goC q=true) (hs:S Bn nt q.c q.fr q.h (kQ Bn nt (E y) q.ks)):GC Bn nt u E q y:=by
 obtain⟨c,ks,fr,hh⟩:=q
 cases c<;>first|exact hs|cases h
theorem xgv [BOk Bn] (n gs p el lo:Nat) (ex:Bool) (t:Ty) (xs:List (den t)) (hn:xs.length≤1073741824) (hg:GC Bn nt u E ⟨(cAt u nt n q).c,(cAt u nt n q).ks,T.set (path gs) (.isl t xs) (cAt u nt n q).fr,(cAt u nt n q).h.put (path p) .dead⟩ y)
 (ho:cd (cOn u nt n q) (goC (cAt u nt n q)) false=true:=by kernel_rfl) (hv:getV (cAt u nt n q).fr (path gs)=.sl (path p) 0 (wd t) xs.length lo ex:=by kernel_rfl) (hb:(cAt u nt n q).h.get (path p)=some (.cs el (flatT t xs) false):=by kernel_rfl):GC Bn nt u E q y:=by
 obtain⟨h1,h2⟩:=cd_true ho
 exact run_ok n h1 (goC_of h2 (Sat.give (BOk.lo (B:=Bn)) (path gs) (path p) el lo ex t xs hn hv hb hg.S))
section
variable {σ β:Type}{P:σ→Out σ β}{s0:σ}{f:Nat}{g:τ}{bX:σ→τ}{rX:β→τ}
end
section
variable {σ β:Type}{ks:List K}{bX:σ→τ}{rX:β→τ}{Inv:σ→Prop}{m:σ→Nat}{n:Nat}{gs:List Bool}{iv:AV}{el:TypeId}{t:Ty}{X:σ→List (den t)}{L:σ→List (List Bool×AV)}{B:σ→List (Option Blk)}{s:σ}
end
def opK (Bn nt:Nat) (q:Cf) (k:Nat):AO:=opA (regL PP (GG Bn) nt (opsC q)) k
def frK (u:Us Bn) (nt:Nat) (q:Cf) (k:Nat):T AV:=stF u.C.call q.h.next (regL PP (GG Bn) nt (opsC q)) q.fr ⟨Nat.add q.h.next (regN PP (GG Bn) nt (opsC q)),q.h.t⟩ k
def hpK (u:Us Bn) (nt:Nat) (q:Cf) (k:Nat):H:=stH u.C.call q.h.next (regL PP (GG Bn) nt (opsC q)) q.fr ⟨Nat.add q.h.next (regN PP (GG Bn) nt (opsC q)),q.h.t⟩ k
def EndJ (Bn nt:Nat) (u:Us Bn) (E:τ→Ex→T AV→H→Prop) (q:Cf) (k:Nat) (fn:Func) (y:τ):Ex→T AV→H→Prop:=
 EndI (resF fn) (fun v h'=>RunOps u.C.call q.h.next ((regL PP (GG Bn) nt (opsC q)).drop (k+1)) (setD (opK Bn nt q k).dst v (frK u nt q k)) h' (fun fr h=>GC Bn nt u E ⟨.skip,q.ks,fr,h⟩ y))
theorem xej {u0:Us Bn}{nt0:Nat}{E0:τ→Ex→T AV→H→Prop}{q0:Cf}{k:Nat}{fn:Func} (n:Nat) (hg:RunOps u0.C.call q0.h.next ((regL PP (GG Bn) nt0 (opsC q0)).drop (k+1)) (setD (opK Bn nt0 q0 k).dst (tupA (getU (resOf (resF fn) (cAt u nt n q).fr (cAt u nt n q).h))) (frK u0 nt0 q0 k)) (cAt u nt n q).h (fun fr h=>GC Bn nt0 u0 E0 ⟨.skip,q0.ks,fr,h⟩ y))
 (ho:cd (cOn u nt n q) (cd (endC (cAt u nt n q)) (isSomeU (resOf (resF fn) (cAt u nt n q).fr (cAt u nt n q).h)) false) false=true:=by kernel_rfl):GC Bn nt u (EndJ Bn nt0 u0 E0 q0 k fn) q y:=by
 obtain⟨h1,h2⟩:=cd_true ho
 obtain⟨h2,h3⟩:=cd_true h2
 refine run_ok n h1 (endC_of h2 (fun ex hex=>⟨hex,getU (resOf (resF fn) (cAt u nt n q).fr (cAt u nt n q).h),?_,hg⟩))
 cases hr:resOf (resF fn) (cAt u nt n q).fr (cAt u nt n q).h with
 |none=>rw[hr] at h3;cases h3
 |some us=>rfl
theorem xun (n r:Nat) (hg:GC Bn nt u E ⟨bodyC (cAt u nt n q),.un (bodyC (cAt u nt n q)) r::(cAt u nt n q).ks,(cAt u nt n q).fr,(cAt u nt n q).h⟩ y) (ho:cd (cOn u nt n q) (loopC (cAt u nt n q)) false=true:=by kernel_rfl):GC Bn nt u E q y:=by
 obtain⟨h1,h2⟩:=cd_true ho
 refine run_ok n h1 ?_
 generalize cAt u nt n q=p at*
 obtain⟨c,ks,fr,h⟩:=p
 unfold loopC at h2
 split at h2
 ·rename_i b hc
  replace hc:c=.loop b:=hc
  subst hc
  exact zun (r+1) (zu1 hg.S)
 ·cases h2
theorem aT {a b:Bool} (h:cd a b false=true):a=true∧b=true:=cd_true h
theorem oF {a b:Bool} (h:cd a true b=false):a=false∧b=false:=by
 cases a with
 |true=>cases h
 |false=>exact⟨rfl,h⟩
theorem nF {a:Bool} (h:(!a)=false):a=true:=by simpa using h
end
def Cv (n:Nat) (src tv x x':AV):Prop:=(x'=x∧avOk n x)∨(x=src∧x'=tv)
def CvL (n:Nat) (src tv:AV):List AV→List AV→Prop
 |[],[]=>True
 |x::xs,y::ys=>Cv n src tv x y∧CvL n src tv xs ys
 |_,_=>False
def BCv (n:Nat) (src tv:AV) (o o':Option Blk):Prop:=
 (o'=o∧blkOk n o)∨((∃b,o=some b)∧o'=some .dead)∨∃el l l' fz,o=some (.cs el l fz)∧o'=some (.cs el l' fz)∧CvL n src tv l l'
def GBlk (n:Nat) (h:H) (q:Id) (src tv:AV) (tb:Blk):Prop:=
 ∃el l1 l2 sz k lo ex,h.get q=some (.cs el (l1++l2) false)∧avOkL n l1∧src=.sl q 0 sz k lo ex∧k≤lo∧tv=.sl (path n) 0 sz k k false∧tb=.cs el l1 false
def REnd (n:Nat) (Lt:List (List Bool×AV)) (Bt:List (Option Blk)) (tb:Blk) (fr:T AV) (h:H):Prop:=
 ∃q src tv,(tb=.dead∨GBlk n h q src tv tb)∧(tb=.dead→tv=src∧avOk n src)∧(∀p∈Lt,Cv n src tv (getV fr p.1) p.2)∧Bt.length=n∧
  ∀k,k<n→BCv n src tv (h.get (path k)) (Bt[k]?).join∧(tb=.dead∨path k≠q∨(Bt[k]?).join=some .dead)
theorem CvL.len {n:Nat}{src tv:AV}:∀{l l':List AV},CvL n src tv l l'→l'.length=l.length
 |[],[],_=>rfl
 |_::_,_::_,h=>by simp only[Lcz,CvL.len h.2]
 |[],_::_,h=>h.elim
 |_::_,[],h=>h.elim
theorem CvL.get {n:Nat}{src tv:AV}:∀{l l':List AV}{j:Nat}{x:AV},CvL n src tv l l'→l'[j]? =some x→∃y,l[j]? =some y∧Cv n src tv y x
 |[],[],_,_,_,h=>by simp at h
 |y::_,z::_,0,x,h,hx=>⟨y,rfl,by simp at hx;subst hx;exact h.1⟩
 |_::_,_::_,j+1,x,h,hx=>CvL.get (j:=j) h.2 (by simpa using hx)
 |[],_::_,_,_,h,_=>h.elim
 |_::_,[],_,_,h,_=>h.elim
theorem getV_mkFr2:∀(L:List (List Bool×AV)) (id:List Bool),getV (mkFr L) id=.j∨∃p∈L,p.1=id∧getV (mkFr L) id=p.2
 |[],id=>.inl (by show getV (.e:T AV) id=.j;rw[getV_e])
 |q::L,id=>by
  show getV (T.set q.1 q.2 (mkFr L)) id=.j∨∃p∈q::L,p.1=id∧getV (T.set q.1 q.2 (mkFr L)) id=p.2
  rw[getV_set]
  by_cases h:id=q.1
  ·rw[if_pos h];exact .inr ⟨q,by simp,h.symm,rfl⟩
  ·rw[if_neg h]
   rcases getV_mkFr2 L id with h1|⟨p,h1,h2,h3⟩
   ·exact .inl h1
   ·exact .inr ⟨p,by simp[h1],h2,h3⟩
theorem BlkRel.pre {e:Env}{id:Id}{el:TypeId}{l1 l2:List AV}{fz:Bool} (h:BlkRel e id (.cs el (l1++l2) fz)):BlkRel e id (.cs el l1 fz):=by
 obtain⟨c,fr,g1,g2,g3,g4⟩:=h
 refine⟨c,fr,g1,by simp at g2;omega,fun j x hx=>g3 j x ?_,g4⟩
 rw[List.getElem?_append_left (List.getElem?_eq_some_iff.1 hx).1];exact hx
theorem one_sl {id:Id}{off sz len lo:Nat}{ex:Bool}:one (.sl id off sz len lo ex)=true:=rfl
theorem regrowC {e0 e2:Env}{fr2:T AV}{tmps:Array Value}{n:Nat}{Lt:List (List Bool×AV)}{Bt:List (Option Blk)}{tb:Blk}
 (hs0:St e0) (hs2:St e2) (hx:Ext e0 e2) (hn:e0.h.next=n) (hf:FrRel e2 fr2 tmps) (hg:REnd n Lt Bt tb fr2 e2.h):
 ∃e3:Env,e3.w=e2.w∧e3.h=hpH (n+1) (Bt++[some tb])∧St e3∧Ext e0 e3∧FrRel e3 (mkFr Lt) tmps:=by
 obtain⟨q,src,tv,hgb,hdd,hLt,hBl,hB⟩:=hg
 obtain⟨r,hr2,hcase⟩:∃r:Nat×Nat,r.2=0∧(tb=.dead∨(tb≠.dead∧GBlk n e2.h q src tv tb∧r=e2.ρ q)):=by
  by_cases hd:tb=.dead
  ·exact⟨(0,0),rfl,.inl hd⟩
  ·rcases hgb with h|h
   ·exact absurd h hd
   ·have h':=h
    obtain⟨el,l1,l2,sz,k,lo,ex,h1,_⟩:=h'
    exact⟨e2.ρ q,hs2.dk q _ h1,.inr ⟨hd,h,rfl⟩⟩
 let e3:Env:=⟨fun id=>if unpath id<n then e2.ρ id else if id=path n then r else(0,1),hpH (n+1) (Bt++[some tb]),e2.w,e2.F⟩
 have hget:∀id,e3.h.get id=if unpath id<n then(Bt[unpath id]?).join else if id=path n then some tb else none:=fun id=>snoc_get n Bt hBl _ id
 have hlow:∀id,unpath id<n→e3.ρ id=e2.ρ id:=fun id h=>if_pos h
 have hnot:¬unpath (path n)<n:=by rw[unpath_path];omega
 have htop:e3.ρ (path n)=r:=by
  show(if unpath (path n)<n then e2.ρ (path n) else if path n=path n then r else(0,1))=r
  rw[if_neg hnot,if_pos rfl]
 have hoth:∀id,¬unpath id<n→id≠path n→e3.ρ id=(0,1):=fun id h1 h2=>by
  show(if unpath id<n then e2.ρ id else if id=path n then r else(0,1))=_
  rw[if_neg h1,if_neg h2]
 have hgetlow:∀id,unpath id<n→e3.h.get id=(Bt[unpath id]?).join:=fun id h=>by rw[hget,if_pos h]
 have hgettop:e3.h.get (path n)=some tb:=by rw[hget,if_neg hnot,if_pos rfl]
 have hBid:∀id,unpath id<n→BCv n src tv (e2.h.get id) (Bt[unpath id]?).join∧(tb=.dead∨id≠q∨(Bt[unpath id]?).join=some .dead):=fun id h=>by
  have:=hB (unpath id) h
  rw[unpath_bij] at this;exact this
 have hlive:∀id,live e3.h id→(unpath id<n∧live e2.h id∧(tb=.dead∨id≠q))∨(id=path n∧tb≠.dead∧GBlk n e2.h q src tv tb∧r=e2.ρ q):=fun id ⟨b,hb,hd⟩=>by
  by_cases h:unpath id<n
  ·rw[hgetlow id h] at hb
   obtain⟨h1,h2⟩:=hBid id h
   refine .inl ⟨h,?_,?_⟩
   ·rcases h1 with ⟨h3,_⟩|⟨_,h3⟩|⟨el,l,l',fz,h3,h4,_⟩
    ·exact⟨b,by rw[←h3];exact hb,hd⟩
    ·rw[h3] at hb;injection hb with hb;exact absurd hb.symm hd
    ·exact⟨_,h3,by simp⟩
   ·rcases h2 with h2|h2|h2
    ·exact .inl h2
    ·exact .inr h2
    ·rw[h2] at hb;injection hb with hb;exact absurd hb.symm hd
  ·rw[hget,if_neg h] at hb
   by_cases h2:id=path n
   ·rw[if_pos h2] at hb
    injection hb with hb
    rcases hcase with h3|h3
    ·exact absurd (hb.symm.trans h3) hd
    ·exact .inr ⟨h2,h3⟩
   ·rw[if_neg h2] at hb;cases hb
 have hqlive:GBlk n e2.h q src tv tb→live e2.h q:=fun⟨el,l1,l2,_,_,_,_,h1,_⟩=>⟨_,h1,by simp⟩
 have hown:∀b,Own e3 b→Own e2 b:=fun b ⟨id,h1,h2⟩=>by
  rcases hlive id h1 with ⟨h3,h4,_⟩|⟨h3,_,h4,h5⟩
  ·exact⟨id,h4,by rw[←hlow id h3];exact h2⟩
  ·exact⟨q,hqlive h4,by rw[←h5,←htop,←h3];exact h2⟩
 have himm:∀b,Imm e2 b→Imm e3 b:=fun b hb=>⟨hb.1,hb.2.1,fun h=>hb.2.2 (hown b h)⟩
 have hkn:∀id,known e0 id→unpath id<n:=fun id hk=>by
  obtain⟨k,h1,h2,_⟩:=hs0.kn id hk
  rw[h2,unpath_path];omega
 have hsome:∀id,unpath id<n→(∃b,e2.h.get id=some b)→∃b,e3.h.get id=some b:=fun id h ⟨b,hb⟩=>by
  rw[hgetlow id h]
  rcases(hBid id h).1 with ⟨h3,_⟩|⟨_,h3⟩|⟨el,l,l',fz,h3,h4,_⟩
  ·exact⟨b,by rw[h3];exact hb⟩
  ·exact⟨_,h3⟩
  ·exact⟨_,h4⟩
 have hCv:∀x x' v,Cv n src tv x x'→Rel e2 x v→Rel e3 x' v:=fun x x' v hc hr=>by
  have base:∀x,avOk n x→Rel e2 x v→Rel e3 x v:=fun x ho hr=>Rel.conv (n:=n) hlow himm rfl rfl _ _ ho hr
  rcases hc with ⟨h1,h2⟩|⟨h1,h2⟩
  ·rw[h1];exact base x h2 hr
  ·by_cases hd:tb=.dead
   ·obtain⟨h3,h4⟩:=hdd hd
    rw[h2,h3];rw[h1] at hr;exact base src h4 hr
   ·rcases hcase with h3|⟨_,⟨el,l1,l2,sz,k,lo,ex,g1,_,g2,glo,g3,_⟩,g5⟩
    ·exact absurd h3 hd
    ·rw[h1,g2] at hr
     rw[h2,g3]
     simp only[Rel] at hr⊢
     obtain⟨_,a,cap,hv,k1,k2,_,k4⟩:=hr
     refine⟨by unfold known;rw[htop];exact hr2,a,cap,hv,Nr _,Nt k1 k2,fun h=>Bool.noConfusion h,?_⟩
     rw[htop,g5];exact k4
 have hx3:Ext e0 e3:={
  next:=by show e0.h.next≤n+1;omega
  kn:=fun id hk=>by unfold known;rw[hlow id (hkn id hk)];exact hx.kn id hk
  ren:=fun id hk=>by rw[hlow id (hkn id hk)];exact hx.ren id hk
  fr:=hx.fr
  heap:=hx.heap
  keep:=hx.keep
  size:=hx.size
  own:=fun b hb ho=>hx.own b hb (hown b ho)
  pres:=fun id b hb=>hsome id (hkn id (hs0.dk id b hb)) (hx.pres id b hb)
  newk:=fun id hk=>by
   by_cases h:unpath id<n
   ·have hk':known e2 id:=by unfold known at hk;rw[hlow id h] at hk;exact hk
    rcases hx.newk id hk' with h1|h1
    ·exact .inl h1
    ·exact .inr (hsome id h h1)
   ·by_cases h2:id=path n
    ·exact .inr ⟨_,by rw[h2];exact hgettop⟩
    ·unfold known at hk;rw[hoth id h h2] at hk;cases hk
  qt:=hx.qt}
 have hs3:St e3:={
  kn:=fun id hk=>by
   by_cases h:unpath id<n
   ·have hk':known e2 id:=by unfold known at hk;rw[hlow id h] at hk;exact hk
    obtain⟨k,h1,h2,h3⟩:=hs2.kn id hk'
    exact⟨k,by show k<n+1;rw[h2,unpath_path] at h;omega,h2,fun hl=>hsome id h (h3 hl)⟩
   ·by_cases h2:id=path n
    ·exact⟨n,Nat.lt_succ_self n,h2,fun _=>⟨_,by rw[h2];exact hgettop⟩⟩
    ·unfold known at hk;rw[hoth id h h2] at hk;cases hk
  dk:=fun id b hb=>by
   by_cases h:unpath id<n
   ·rw[hgetlow id h] at hb
    unfold known;rw[hlow id h]
    rcases(hBid id h).1 with ⟨h3,_⟩|⟨⟨b',h3⟩,_⟩|⟨el,l,l',fz,h3,h4,_⟩
    ·exact hs2.dk id b (by rw[←h3];exact hb)
    ·exact hs2.dk id _ h3
    ·exact hs2.dk id _ h3
   ·rw[hget,if_neg h] at hb
    by_cases h2:id=path n
    ·unfold known;rw[h2,htop];exact hr2
    ·rw[if_neg h2] at hb;cases hb
  lo:=by
   show e2.F.lo≤n+1
   rw[hx.fr]
   have:=hs0.lo
   omega
  blk:=fun id b hb=>by
   by_cases h:unpath id<n
   ·rw[hgetlow id h] at hb
    rcases(hBid id h).1 with ⟨h3,h4⟩|⟨_,h3⟩|⟨el,l,l',fz,h3,h4,h5⟩
    ·have hb2:e2.h.get id=some b:=by rw[←h3];exact hb
     rw[hb2] at h4
     exact BlkRel.conv (n:=n) hlow himm rfl rfl (hlow id h) b h4 (hs2.blk id b hb2)
    ·rw[h3] at hb;injection hb with hb;subst hb;trivial
    ·rw[h4] at hb;injection hb with hb;subst hb
     obtain⟨c,fr,g1,g2,g3,g4⟩:=hs2.blk id _ h3
     simp only[BlkRel,hlow id h]
     refine⟨c,fr,g1,by rw[h5.len];exact g2,fun j x hx=>?_,g4⟩
     obtain⟨y,hy,hc⟩:=h5.get hx
     obtain⟨ho,v,hv,hr⟩:=g3 j y hy
     refine⟨?_,v,hv,hCv _ _ _ hc hr⟩
     rcases hc with ⟨h6,_⟩|⟨h6,h7⟩
     ·rw[h6];exact ho
     ·by_cases hd:tb=.dead
      ·rw[h7,(hdd hd).1,←h6];exact ho
      ·rcases hcase with h8|⟨_,⟨_,_,_,sz,k,lo,ex,_,_,_,_,g3',_⟩,_⟩
       ·exact absurd h8 hd
       ·rw[h7,g3'];exact one_sl
   ·rw[hget,if_neg h] at hb
    by_cases h2:id=path n
    ·rw[if_pos h2] at hb
     injection hb with hb;subst hb;subst h2
     rcases hcase with h3|⟨_,⟨el,l1,l2,_,_,_,_,g1,g2,_,_,_,g5⟩,g6⟩
     ·rw[h3];trivial
     ·rw[g5]
      exact BlkRel.conv (n:=n) hlow himm rfl rfl (by rw[htop,g6]) _ g2 (hs2.blk q _ g1).pre
    ·rw[if_neg h2] at hb;cases hb
  inj:=fun id id' h1 h2 he=>by
   rcases hlive id h1 with ⟨h3,h4,h5⟩|⟨h3,hd,h4,h5⟩
   ·rcases hlive id' h2 with ⟨h6,h7,_⟩|⟨h6,hd,h7,h8⟩
    ·rw[hlow id h3,hlow id' h6] at he;exact hs2.inj id id' h4 h7 he
    ·rw[hlow id h3,h6,htop,h8] at he
     have:=hs2.inj id q h4 (hqlive h7) he
     rcases h5 with h5|h5
     ·exact absurd h5 hd
     ·exact absurd this h5
   ·rcases hlive id' h2 with ⟨h6,h7,h8⟩|⟨h6,_⟩
    ·rw[hlow id' h6,h3,htop,h5] at he
     have:=hs2.inj q id' (hqlive h4) h7 he
     rcases h8 with h8|h8
     ·exact absurd h8 hd
     ·exact absurd this.symm h8
    ·rw[h3,h6]
  fr:=fun b hb=>⟨(hs2.fr b hb).1,fun ho=>(hs2.fr b hb).2 (hown b ho)⟩}
 refine⟨e3,rfl,rfl,hs3,hx3,?_⟩
 intro k
 rcases getV_mkFr2 Lt (path k) with h|⟨p,h1,h2,h3⟩
 ·rw[h];simp[Rel]
 ·rw[h3]
  have:=hLt p h1
  rw[h2] at this
  exact hCv _ _ _ this (hf k)
section
variable {P:Program}{G:Gs}{nt:Nat}{fr:T AV}{h:H}{Q:Ex→T AV→H→Prop}
theorem Sat.loopC {b:Code}{α:Type} (n:Nat) (L:α→List (List Bool×AV)) (B:α→List (Option Blk)) (tb:α→Blk) (m:α→Nat) (I:α→Prop)
 (step:∀a,I a→Sat P G nt b (mkFr (L a)) (hpH (n+1) (B a++[some (tb a)])) (thenQ (fun fr' h'=>∃a',I a'∧m a'<m a∧REnd n (L a') (B a') (tb a') fr' h') Q))
 (a0:α) (hI:I a0) (hm:m a0<4611686018427387904) (hn:h.next=n) (hr0:REnd n (L a0) (B a0) (tb a0) fr h):Sat P G nt (.loop b) fr h Q:=by
 intro K e a he hs hf hg hsz hp
 subst he
 refine wp_loop_rounds 4611686018427387904 ?_
 have key:∀(r:Nat) (s:α),m s<r→I s→∀(e1:Env) (a1:Act),e1.h=hpH (n+1) (B s++[some (tb s)])→St e1→Ext e e1→FrRel e1 (mkFr (L s)) a1.tmps→a1.tmps.size=nt→a1.defers=a.defers→
  Code.rounds P b K r a1 e1.w:=by
  intro r
  induction r with
  |zero=>intro s hlt;omega
  |succ r ih=>
   intro s hlt hIs e1 a1 he1 hs1 hx1 hf1 hsz1 hd1
   rw[rounds_succ]
   refine step s hIs _ e1 a1 he1 hs1 hf1 (hg.ext hx1) hsz1 (fun ex fr2 h2 hq=>?_)
   intro a2 e2 he2 hs2 hx2 hf2 hsz2 hd2
   cases ex with
   |normal=>
    obtain⟨s',hI',hlt',hge⟩:=hq
    subst he2
    obtain⟨e3,g1,g2,g3,g4,g5⟩:=regrowC hs hs2 (hx1.trans hx2) hn hf2 hge
    have:=ih s' om hI' e3 a2 g2 g3 g4 g5 hsz2 (hd2.trans hd1)
    rw[g1] at this;exact this
   |exit id=>exact((hp (.exit id) fr2 h2 hq).ext hx1 hd1) a2 e2 he2 hs2 hx2 hf2 hsz2 hd2
   |ret=>exact((hp .ret fr2 h2 hq).ext hx1 hd1) a2 e2 he2 hs2 hx2 hf2 hsz2 hd2
 obtain⟨e3,g1,g2,g3,g4,g5⟩:=regrowC hs hs (Ext.refl e) hn hf hr0
 have:=key _ a0 hm hI e3 a g2 g3 g4 g5 hsz rfl
 rw[g1] at this;exact this
end
def srcL (fl:List Bool) (src:AV) (L:List (List Bool×AV)):List (List Bool×AV):=
 List.rec (motive:=fun _=>List Bool→List (List Bool×AV)) (fun _=>[]) (fun q _ ih fl=>List.rec (q::ih []) (fun b fl' _=>(q.1,cd b src q.2)::ih fl') fl) L fl
def okF (n:Nat) (fl:List Bool) (L:List (List Bool×AV)):Bool:=
 List.rec (motive:=fun _=>List Bool→Bool) (fun _=>true) (fun q _ ih fl=>List.rec (cd (avOkB n q.2) (ih []) false) (fun b fl' _=>cd (cd b true (avOkB n q.2)) (ih fl') false) fl) L fl
theorem LCv_of {n:Nat}{src tv:AV}{fr:T AV}:∀{L L':List (List Bool×AV)}{fl:List Bool},okF n fl L=true→srcL fl tv L=L'→gets fr L=vals L→srcL fl src L=L→∀p∈L',Cv n src tv (getV fr p.1) p.2
 |[],_,fl,_,h2,_,_,p,hp=>by
  have h2:([]:List (List Bool×AV))=_:=h2
  rw[←h2] at hp;cases hp
 |q::L,L',[],h1,h2,h3,h4,p,hp=>by
  obtain⟨g1,g2⟩:=cd_true (show cd (avOkB n q.2) (okF n [] L) false=true from h1)
  have h2:q::srcL [] tv L=L':=h2
  injection(show getV fr q.1::gets fr L=q.2::vals L from h3) with g3 g4
  injection(show q::srcL [] src L=q::L from h4) with _ g5
  subst h2
  rcases List.mem_cons.1 hp with rfl|hp
  ·exact .inl ⟨g3.symm,by rw[g3];exact avOk_of p.2 g1⟩
  ·exact LCv_of g2 rfl g4 g5 p hp
 |q::L,L',b::fl,h1,h2,h3,h4,p,hp=>by
  obtain⟨g1,g2⟩:=cd_true (show cd (cd b true (avOkB n q.2)) (okF n fl L) false=true from h1)
  have h2:(q.1,cd b tv q.2)::srcL fl tv L=L':=h2
  injection(show getV fr q.1::gets fr L=q.2::vals L from h3) with g3 g4
  injection(show(q.1,cd b src q.2)::srcL fl src L=q::L from h4) with g6 g5
  subst h2
  rcases List.mem_cons.1 hp with rfl|hp
  ·cases b with
   |true=>exact .inr ⟨by rw[g3];exact(congrArg Prod.snd g6).symm,rfl⟩
   |false=>exact .inl ⟨g3.symm,by show avOk n (getV fr q.1);rw[g3];exact avOk_of q.2 g1⟩
  ·exact LCv_of g2 rfl g4 g5 p hp
def BsCv (n:Nat) (src tv:AV):List (Option Blk)→List (Option Blk)→Prop
 |[],[]=>True
 |b::bs,c::cs=>BCv n src tv b c∧BsCv n src tv bs cs
 |_,_=>False
theorem BsCv.get {n:Nat}{src tv:AV}:∀{bs cs:List (Option Blk)},BsCv n src tv bs cs→cs.length=bs.length∧∀k,k<bs.length→BCv n src tv (bs[k]?).join (cs[k]?).join
 |[],[],_=>⟨rfl,fun k h=>absurd h (Nn _)⟩
 |b::bs,c::cs,h=>by
  obtain⟨g1,g2⟩:=BsCv.get h.2
  refine⟨by simp[g1],fun k hk=>?_⟩
  cases k with
  |zero=>simpa using h.1
  |succ k=>simpa using g2 k (by simpa using hk)
 |[],_::_,h=>h.elim
 |_::_,[],h=>h.elim
theorem bS {n:Nat}{src tv:AV}{b:Option Blk} (h:blkOk n b):BCv n src tv b b:=.inl ⟨rfl,h⟩
theorem bC {n:Nat}{src tv:AV}{el:TypeId}{l l':List AV}{fz:Bool} (h:CvL n src tv l l'):BCv n src tv (some (.cs el l fz)) (some (.cs el l' fz)):=.inr (.inr ⟨el,l,l',fz,rfl,rfl,h⟩)
theorem vC {n:Nat}{src tv:AV}:Cv n src tv src tv:=.inr ⟨rfl,rfl⟩
theorem bF {n:Nat}{el:TypeId}{y:Ty}{xs:List (den y)}{fz:Bool}:blkOk n (some (.cs el (flatT y xs) fz)):=flatT_ok n y xs
theorem heapL_len (h:H) (n:Nat):(heapL h n).length=n:=by
 have:∀n k,(Nat.rec (motive:=fun _=>Nat→List (Option Blk)) (fun _=>[]) (fun _ ih k=>h.get (path k)::ih (Nat.succ k)) n k:List (Option Blk)).length=n:=by
  intro n
  induction n with
  |zero=>intro k;rfl
  |succ n ih=>intro k;simp only[Lcz,ih]
 exact this n 0
theorem heapL_join {h:H}{n k:Nat} (hk:k<n):((heapL h n)[k]?).join=h.get (path k):=by rw[heapL_get,if_pos hk];rfl
def isSomeB (o:Option Blk):Bool:=Option.rec false (fun _=>true) o
theorem isSomeB_of {o:Option Blk} (h:isSomeB o=true):∃b,o=some b:=by
 cases o with
 |none=>cases h
 |some b=>exact⟨b,rfl⟩
def Gv (n:Nat) (h:H) (q:Id) (src tv:AV) (tb:Blk):Prop:=(tb=.dead∨GBlk n h q src tv tb)∧(tb=.dead→tv=src∧avOk n src)
theorem gN {n:Nat}{h:H}{q:Id}{el:TypeId}{y:Ty}{xs:List (den y)}{ex:Bool}{k:Nat} (hg:h.get q=some (.cs el (flatT y xs) false)):Gv n h q (.sl q 0 (wd y) k k ex) (.sl (path n) 0 (wd y) k k false) (.cs el (flatT y xs) false):=
 ⟨.inr ⟨el,flatT y xs,[],wd y,k,k,ex,by rw[List.append_nil];exact hg,flatT_ok n y xs,rfl,Nr _,rfl,rfl⟩,fun h=>by cases h⟩
theorem gA {n:Nat}{h:H}{iv:AV} (hiv:isIv iv){el:TypeId}{y:Ty}{xs:List (den y)}{q:Nat} (hg:h.get (path q)=some (apb el y xs)):Gv n h (path q) (apv iv (path q) y xs) (apv iv (path n) y xs) (apb el y xs):=by
 cases xs with
 |nil=>exact⟨.inl rfl,fun _=>⟨rfl,by rcases hiv with rfl|rfl<;>simp[apv,avOk]⟩⟩
 |cons x t=>exact gN (y:=y) (xs:=x::t) hg
theorem gAn {n:Nat}{h:H}{iv:AV}{el:TypeId}{y:Ty}{xs:List (den y)}{x:den y}{q:Nat} (hg:h.get (path q)=some (.cs el (flatT y (xs++[x])) false)):Gv n h (path q) (.sl (path q) 0 (wd y) (xs++[x]).length (xs++[x]).length false) (apv iv (path n) y (xs++[x])) (apb el y (xs++[x])):=by
 have e1:apv iv (path n) y (xs++[x])=.sl (path n) 0 (wd y) (xs++[x]).length (xs++[x]).length false:=by cases xs<;>rfl
 have e2:apb el y (xs++[x])=.cs el (flatT y (xs++[x])) false:=by cases xs<;>rfl
 rw[e1,e2];exact gN hg
theorem rendR {n q:Nat}{src tv:AV}{tb:Blk}{Ls Lt:List (List Bool×AV)}{Bs Bt:List (Option Blk)}{fr:T AV}{h:H} (fl:List Bool) (hq:n≤q) (hg:Gv n h (path q) src tv tb) (hB:BsCv n src tv Bs Bt)
 (h1:okF n fl Ls=true) (h2:srcL fl tv Ls=Lt) (h3:gets fr Ls=vals Ls) (h4:srcL fl src Ls=Ls) (h5:heapL h n=Bs):REnd n Lt Bt tb fr h:=by
 subst h5
 obtain⟨g1,g2⟩:=hB.get
 rw[heapL_len] at g1 g2
 refine⟨path q,src,tv,hg.1,hg.2,LCv_of h1 h2 h3 h4,g1,fun k hk=>⟨by rw[←heapL_join hk];exact g2 k hk,.inr (.inl fun he=>?_)⟩⟩
 have:=congrArg unpath he
 rw[unpath_path,unpath_path] at this;omega
theorem rendI {n q:Nat}{src tv:AV}{tb:Blk}{Ls Lt:List (List Bool×AV)}{Bs Bt:List (Option Blk)}{fr:T AV}{h:H} (fl:List Bool) (hg:Gv n h (path q) src tv tb) (hB:BsCv n src tv Bs Bt)
 (h1:okF n fl Ls=true) (h2:srcL fl tv Ls=Lt) (h3:gets fr Ls=vals Ls) (h4:srcL fl src Ls=Ls) (h5:heapL (h.put (path q) .dead) n=Bs) (h6:∃b,h.get (path q)=some b) (h7:Bt[q]? =some (some .dead)):REnd n Lt Bt tb fr h:=by
 subst h5
 obtain⟨g1,g2⟩:=hB.get
 rw[heapL_len] at g1 g2
 refine⟨path q,src,tv,hg.1,hg.2,LCv_of h1 h2 h3 h4,g1,fun k hk=>?_⟩
 by_cases he:k=q
 ·subst he
  exact⟨.inr (.inl ⟨h6,by rw[h7];rfl⟩),.inr (.inr (by rw[h7];rfl))⟩
 ·have hne:path k≠path q:=fun h0=>he (by have:=congrArg unpath h0;rwa [unpath_path,unpath_path] at this)
  refine⟨?_,.inr (.inl hne)⟩
  have:=g2 k hk
  rw[heapL_join hk] at this
  rw[show(h.put (path q) .dead).get (path k)=h.get (path k) from by
   show T.get (path k) (T.set (path q) _ h.t)=_
   rw[T.get_set,if_neg hne];rfl] at this
  exact this
theorem rendD {n:Nat}{Ls:List (List Bool×AV)}{Bs:List (Option Blk)}{fr:T AV}{h:H} (hB:blksOk n Bs) (h1:okF n [] Ls=true) (h3:gets fr Ls=vals Ls) (h5:heapL h n=Bs):REnd n Ls Bs .dead fr h:=by
 subst h5
 have e:srcL [] (AV.j) Ls=Ls:=by
  clear h1 h3
  induction Ls with
  |nil=>rfl
  |cons q L ih=>exact congrArg (q::·) ih
 refine⟨[],.j,.j,.inl rfl,fun _=>⟨rfl,by simp[avOk]⟩,LCv_of h1 e h3 e,heapL_len h n,fun k hk=>⟨.inl ⟨by rw[heapL_join hk],?_⟩,.inl rfl⟩⟩
 cases hb:h.get (path k) with
 |none=>trivial
 |some b=>exact blksOk_get hB k b (by rw[heapL_join hk];exact hb)
section
variable {Bn nt:Nat}{u:Us Bn}{τ:Type}{E:τ→Ex→T AV→H→Prop}{y:τ}{q:Cf}
def RoundC (Bn nt:Nat){σ β:Type} (E:τ→Ex→T AV→H→Prop) (ks:List K) (bX:σ→τ) (rX:β→τ) (Inv:σ→Prop) (m:σ→Nat) (n:Nat) (L:AV→σ→List (List Bool×AV)) (B:AV→σ→List (Option Blk)) (tv:σ→AV) (tb:σ→Blk) (s:σ) (o:Out σ β):Ex→T AV→H→Prop:=fun ex fr h=>match ex with
 |.normal=>∃s',o=.go s'∧(Inv s'∧m s'<m s)∧REnd n (L (tv s') s') (B (tv s') s') (tb s') fr h
 |.exit id=>∃s',o=.brk s'∧kQ Bn nt (E (bX s')) ks (.exit id) fr h
 |.ret=>∃r,o=.ret r∧E (rX r) .ret fr h
theorem xlC {σ β:Type}{P:σ→Out σ β}{s0:σ}{f:Nat}{g:τ}{bX:σ→τ}{rX:β→τ} (k n:Nat) (L:AV→σ→List (List Bool×AV)) (B:AV→σ→List (Option Blk)) (tv:σ→AV) (tb:σ→Blk) (Inv:σ→Prop) (m:σ→Nat) (hI:Inv s0) (hm:m s0<4611686018427387904)
 (hr:REnd n (L (tv s0) s0) (B (tv s0) s0) (tb s0) (cAt u nt k q).fr (cAt u nt k q).h)
 (step:∀s,Inv s→GC Bn nt u (RoundC Bn nt E (cAt u nt k q).ks bX rX Inv m n L B tv tb s) ⟨bodyC (cAt u nt k q),[],mkFr (L (tv s) s),hpH (n+1) (B (tv s) s++[some (tb s)])⟩ (P s))
 (ho:cd (cOn u nt k q) (cd (loopC (cAt u nt k q)) (Nat.beq (cAt u nt k q).h.next n) false) false=true:=by kernel_rfl) (hf:f=m s0+1:=by kernel_rfl):
 GC Bn nt u E q (outE g bX rX (scan P f s0)):=by
 subst hf
 obtain⟨h1,h2⟩:=cd_true ho
 obtain⟨h2,h3⟩:=cd_true h2
 refine run_ok k h1 ?_
 generalize cAt u nt k q=p at*
 obtain⟨c,ks,fr,h⟩:=p
 unfold loopC at h2
 split at h2
 ·rename_i b hc
  replace hc:c=.loop b:=hc
  subst hc
  unfold GC
  show S Bn nt (.loop b) fr h (kQ Bn nt (E _) ks)
  refine Sat.loopC n (fun s=>L (tv s) s) (fun s=>B (tv s) s) tb m (fun s=>Inv s∧∃f,m s<f∧scan P (m s0+1) s0=scan P f s) (fun s ⟨hI,f,hf,he⟩=>?_) s0 ⟨hI,m s0+1,om,rfl⟩ hm (Nq h3) hr
  refine Sat.mono (step s hI).S (fun ex fr' h' hq=>?_)
  obtain⟨f,rfl⟩:∃f',f=f'+1:=⟨f - 1,om⟩
  cases ex with
  |normal=>
   obtain⟨s',h1,⟨g1,g2⟩,h2⟩:=hq
   refine⟨s',⟨g1,f,om,?_⟩,g2,h2⟩
   rw[he];simp only[scan,h1]
  |exit id=>
   obtain⟨s',h1,h2⟩:=hq
   have:scan P (m s0+1) s0=.brk s':=by rw[he];simp only[scan,h1]
   show kQ Bn nt (E (outE g bX rX (scan P (m s0+1) s0))) ks (.exit id) fr' h'
   rw[outB this];exact h2
  |ret=>
   obtain⟨r,h1,h2⟩:=hq
   have:scan P (m s0+1) s0=.ret r:=by rw[he];simp only[scan,h1]
   show kQ Bn nt (E (outE g bX rX (scan P (m s0+1) s0))) ks .ret fr' h'
   rw[kQ_ret,outR this];exact h2
 ·cases h2
section
variable {σ β:Type}{ks:List K}{bX:σ→τ}{rX:β→τ}{Inv:σ→Prop}{m:σ→Nat}{n:Nat}{L:AV→σ→List (List Bool×AV)}{B:AV→σ→List (Option Blk)}{tv:σ→AV}{tb:σ→Blk}{s:σ}
theorem xgC {s':σ} (k qn:Nat) (src:AV) (fl:List Bool) (hd:Inv s'∧m s'<m s) (hg:Gv n (cAt u nt k q).h (path qn) src (tv s') (tb s')) (hB:BsCv n src (tv s') (B src s') (B (tv s') s')) (hq:Nat.ble n qn=true:=by kernel_rfl)
 (ho:cd (cOn u nt k q) (cd (skpC (cAt u nt k q)) (okF n fl (L src s')) false) false=true:=by kernel_rfl) (h2:srcL fl (tv s') (L src s')=L (tv s') s':=by kernel_rfl) (h3:gets (cAt u nt k q).fr (L src s')=vals (L src s'):=by kernel_rfl)
 (h4:srcL fl src (L src s')=L src s':=by kernel_rfl) (h5:heapL (cAt u nt k q).h n=B src s':=by kernel_rfl):GC Bn nt u (RoundC Bn nt E ks bX rX Inv m n L B tv tb s) q (.go s'):=by
 obtain⟨g1,g2⟩:=cd_true ho
 obtain⟨g2,g3⟩:=cd_true g2
 exact run_ok k g1 (skpC_of g2 ⟨s',rfl,hd,rendR fl (Nb hq) hg hB g3 h2 h3 h4 h5⟩)
theorem xbC {s':σ} (k:Nat) (hg:GC Bn nt u E ⟨(cAt u nt k q).c,ks,(cAt u nt k q).fr,(cAt u nt k q).h⟩ (bX s')) (ho:cd (cOn u nt k q) (extC (cAt u nt k q)) false=true:=by kernel_rfl):
 GC Bn nt u (RoundC Bn nt E ks bX rX Inv m n L B tv tb s) q (.brk s'):=by
 obtain⟨h1,h2⟩:=cd_true ho
 refine run_ok k h1 ?_
 unfold GC at*
 generalize cAt u nt k q=p at*
 obtain⟨c,ks',fr,h⟩:=p
 unfold extC at h2
 split at h2
 ·rename_i id hc
  replace hc:c=.exit id:=hc
  subst hc
  replace h2:nilK ks'=true:=h2
  rw[nilK_eq h2]
  exact⟨s',rfl,hg⟩
 ·cases h2
theorem xtC {r:β} (k:Nat) (hg:GC Bn nt u E ⟨.ret,[],(cAt u nt k q).fr,(cAt u nt k q).h⟩ (rX r)) (ho:cd (cOn u nt k q) (retC (cAt u nt k q)) false=true:=by kernel_rfl):
 GC Bn nt u (RoundC Bn nt E ks bX rX Inv m n L B tv tb s) q (.ret r):=by
 obtain⟨h1,h2⟩:=cd_true ho
 unfold GC at hg
 exact run_ok k h1 (retC_of h2 ⟨r,rfl,hg⟩)
end
end
theorem flatT_cut {y:Ty}{X:List (den y)}{i f n:Nat}{l:List AV} (hi:i<X.length) (hn:0<n) (hc:cut (tc y (gt y X i)) f n=some l):cut (flatT y X) (Nat.add (Nat.add 0 (Nat.mul i (wd y))) f) n=some l:=by
 have hle:=cut_le hc hn
 rw[tc_len] at hle
 obtain⟨h1,h2⟩:=cut_get hc
 have e:flatT y X=flatT y (X.take i)++(tc y (gt y X i)++flatT y (X.drop (i+1))):=by
  have h3:X=X.take i++gt y X i::X.drop (i+1):=by
   have h4:=gt_some (t:=y) hi
   rw[Lq hi] at h4
   rw[←Oi h4,←List.drop_eq_getElem_cons hi,Ly]
  conv=>lhs;rw[h3]
  simp[flatT]
 have hl:(flatT y (X.take i)).length=i*wd y:=by
  show((((X.take i).map (tc y)).flatten).length)=_
  rw[flat_len,Tk,Nat.min_eq_left om]
 have hlen:Nat.add (Nat.add 0 (Nat.mul i (wd y))) f+n≤(flatT y X).length:=by
  show 0+i*wd y+f+n≤(((X.map (tc y)).flatten).length)
  rw[flat_len]
  have:(i+1)*wd y≤X.length*wd y:=Nat.mul_le_mul_right _ hi
  rw[Nat.add_mul] at this;omega
 have key:∀(l:List AV) (off n:Nat),off+n≤l.length→∃r,cut l off n=some r:=by
  intro l
  induction l with
  |nil=>
   intro off n h
   simp only[Ln] at h
   have:n=0:=om
   subst this;exact⟨[],rfl⟩
  |cons x l ih=>
   intro off n h
   simp only[Lcz] at h
   cases off with
   |zero=>
    cases n with
    |zero=>exact⟨[],rfl⟩
    |succ n=>
     obtain⟨r,hr⟩:=ih 0 n om
     exact⟨x::r,by show(Option.rec none (fun r=>some (x::r)) (cut l 0 n):Option (List AV))=_;rw[hr]⟩
   |succ o=>
    obtain⟨r,hr⟩:=ih o n om
    exact⟨r,hr⟩
 obtain⟨r,hr⟩:=key _ _ _ hlen
 rw[hr]
 obtain⟨g1,g2⟩:=cut_get hr
 congr 1
 apply List.ext_getElem?;intro j
 by_cases hj:j<n
 ·rw[g2 j hj,h2 j hj,e]
  show(flatT y (X.take i)++(tc y (gt y X i)++flatT y (X.drop (i+1))))[0+i*wd y+f+j]? =_
  rw[List.getElem?_append_right om,hl,show 0+i*wd y+f+j - i*wd y=f+j by omega,List.getElem?_append_left (by rw[tc_len];omega)]
 ·rw[Lz om,Lz om]
theorem cut_nth {l:List AV}{off:Nat}{v:AV} (h:cut l off 1=some [v]):nth l off=some v:=by
 obtain⟨_,h2⟩:=cut_get h
 have:=h2 0 om
 rw[nth_eq];simpa using this.symm
theorem nth_cut:∀{l:List AV}{off:Nat}{v:AV},nth l off=some v→cut l off 1=some [v]
 |[],_,_,h=>by cases h
 |x::l,0,v,h=>by
  injection(show some x=some v from h) with h;subst h
  show(Option.rec none (fun r=>some (x::r)) (cut l 0 0):Option (List AV))=_
  cases l<;>rfl
 |x::l,o+1,v,h=>nth_cut (l:=l) (off:=o) h
theorem flatT_nth {y:Ty}{X:List (den y)}{i f:Nat}{v:AV} (hi:i<X.length) (hc:nth (tc y (gt y X i)) f=some v):nth (flatT y X) (Nat.add (Nat.add 0 (Nat.mul i (wd y))) f)=some v:=
 cut_nth (flatT_cut hi om (nth_cut hc))
theorem flatT_lay {y:Ty}{X:List (den y)}{i:Nat}{x:den y} (hi:i<X.length):lay (flatT y X) (Nat.add 0 (Nat.mul i (wd y))) (tc y x)=some (flatT y (X.set i x)):=by
 have h4:=gt_some (t:=y) hi
 rw[Lq hi] at h4
 have h3:X=X.take i++gt y X i::X.drop (i+1):=by
  rw[←Oi h4,←List.drop_eq_getElem_cons hi,Ly]
 have e:flatT y X=flatT y (X.take i)++(tc y (gt y X i)++flatT y (X.drop (i+1))):=by
  conv=>lhs;rw[h3]
  simp[flatT]
 have e2:flatT y (X.set i x)=flatT y (X.take i)++(tc y x++flatT y (X.drop (i+1))):=by
  rw[List.set_eq_take_append_cons_drop,if_pos hi];simp[flatT]
 have hl:(flatT y (X.take i)).length=Nat.add 0 (Nat.mul i (wd y)):=by
  show((((X.take i).map (tc y)).flatten).length)=0+i*wd y
  rw[flat_len,Tk,Nat.min_eq_left om,Nat.zero_add]
 rw[e,e2,←hl]
 exact lay_app _ _ _ _ (by rw[tc_len,tc_len])
theorem flatT_app2 (y:Ty) (X:List (den y)) (m:Nat):flatT y X=flatT y (X.take m)++flatT y (X.drop m):=by
 rw[←flatT_app,Ly]
theorem repl_flat {y:Ty}{d:den y}:∀n,repl n (tc y d)=flatT y (List.replicate n d)
 |0=>rfl
 |n+1=>by
  show cat (tc y d) (repl n (tc y d))=_
  rw[cat_eq,repl_flat n];simp[flatT,List.replicate_succ]
def viewLd (o:AOp) (fr:T AV):Option (Option Nat×AV):=match o with
 |.ld1 a=>some (none,ev a fr)
 |.ldn n a=>some (some n,ev a fr)
 |_=>none
def blkC (o:Option Blk):Option (List AV):=match o with
 |some (.cs _ l _)=>some l
 |_=>none
theorem blkC_inv {o:Option Blk}{l:List AV} (h:blkC o=some l):∃el fz,o=some (.cs el l fz):=by
 unfold blkC at h
 split at h
 ·injection h with h;subst h;exact⟨_,_,rfl⟩
 ·cases h
theorem ev_ld1 {o:AOp}{fr:T AV}{call:CallF}{h:H}{id:Nat}{b:Id}{y:Ty}{X:List (den y)}{i f:Nat}{v:AV} (hi:i<X.length) (hv:viewLd o fr=some (none,.p b (Nat.add (Nat.add 0 (Nat.mul i (wd y))) f))) (hg:blkC (h.get b)=some (flatT y X)) (hc:nth (tc y (gt y X i)) f=some v):evOp call o fr h id=.ok v h:=by
 obtain⟨el,fz,hg⟩:=blkC_inv hg
 unfold viewLd at hv
 split at hv
 ·rename_i a
  injection hv with hv;injection hv with _ hv
  show okV _ (cellAt (ev a fr) h)=_
  rw[hv]
  show okV _ (blkNth (h.get b) _)=_
  rw[hg]
  show okV _ (nth (flatT y X) _)=_
  rw[flatT_nth hi hc];rfl
 ·cases hv
 ·cases hv
theorem ev_ldn {o:AOp}{fr:T AV}{call:CallF}{h:H}{id:Nat}{b:Id}{y:Ty}{X:List (den y)}{i f n:Nat}{l:List AV} (hi:i<X.length) (hn:0<n) (hv:viewLd o fr=some (some n,.p b (Nat.add (Nat.add 0 (Nat.mul i (wd y))) f))) (hg:blkC (h.get b)=some (flatT y X)) (hc:cut (tc y (gt y X i)) f n=some l):evOp call o fr h id=.ok (.ag l) h:=by
 obtain⟨el,fz,hg⟩:=blkC_inv hg
 unfold viewLd at hv
 split at hv
 ·cases hv
 ·rename_i n' a
  injection hv with hv;injection hv with h1 hv
  injection h1 with h1;subst h1
  show(Option.rec .no (fun l=>.ok (.ag l) h) (cellsAt (ev a fr) n' h):R)=_
  rw[hv]
  show(Option.rec .no (fun l=>.ok (.ag l) h) (blkCut (h.get b) _ n'):R)=_
  rw[hg]
  show(Option.rec .no (fun l=>.ok (.ag l) h) (cut (flatT y X) _ n'):R)=_
  rw[flatT_cut hi hn hc]
 ·cases hv
theorem ev_iaS {o:AOp}{fr:T AV}{call:CallF}{h:H}{id:Nat}{b:Id}{off sz n lo i:Nat}{ex:Bool} (hi:i<n) (hv:viewIa o fr=some (sz,.sl b off sz n lo ex,i)):evOp call o fr h id=.ok (.p b (Nat.add off (Nat.mul i sz))) h:=by
 unfold viewIa at hv
 split at hv
 ·rename_i sz' x' ix
  show(match asN (ev ix fr) with
   |some i=>okV _ (indexA (.sli sz') (ev x' fr) i)
   |none=>.no:R)=_
  cases hj:asN (ev ix fr) with
  |none=>rw[hj] at hv;cases hv
  |some j=>
   rw[hj] at hv
   have hv:some (sz',ev x' fr,j)=some (sz,AV.sl b off sz n lo ex,i):=hv
   simp only[Oj,Prod.mk.injEq] at hv
   obtain⟨h1,h2,h3⟩:=hv
   rw[h1,h2,h3]
   show okV _ (cd (Nat.blt i n) (some (AV.p b (Nat.add off (Nat.mul i sz)))) none)=_
   rw[blt_nat,Dt hi];rfl
 ·cases hv
section
variable {C:CJ}{base:Nat}{s:RS}{Q:T AV→H→Prop}
theorem yie (k:Nat) (b:Nat) (sz n lo:Nat) (ex:Bool) (i:Nat) (hi:i<n) (hr:RJ C base ((s.at C base k).put (.p (path b) (Nat.add 0 (Nat.mul i sz))) (s.at C base k).h) Q)
 (hok:s.okS C base k=true:=by kernel_rfl) (hv:viewIa (s.at C base k).op.op (s.at C base k).fr=some (sz,.sl (path b) 0 sz n lo ex,i):=by kernel_rfl):RJ C base s Q:=RJ.step k _ _ (ev_iaS hi hv) hr hok
theorem yl1 (k:Nat) (b:Nat) (y:Ty) (X:List (den y)) (i f:Nat) (v:AV) (hi:i<X.length) (hr:RJ C base ((s.at C base k).put v (s.at C base k).h) Q)
 (hok:s.okS C base k=true:=by kernel_rfl) (hv:viewLd (s.at C base k).op.op (s.at C base k).fr=some (none,.p (path b) (Nat.add (Nat.add 0 (Nat.mul i (wd y))) f)):=by kernel_rfl)
 (hg:blkC ((s.at C base k).h.get (path b))=some (flatT y X):=by kernel_rfl) (hc:nth (tc y (gt y X i)) f=some v:=by kernel_rfl):RJ C base s Q:=RJ.step k _ _ (ev_ld1 hi hv hg hc) hr hok
theorem yln (k:Nat) (b:Nat) (y:Ty) (X:List (den y)) (i f n:Nat) (l:List AV) (hi:i<X.length) (hr:RJ C base ((s.at C base k).put (.ag l) (s.at C base k).h) Q)
 (hok:s.okS C base k=true:=by kernel_rfl) (hv:viewLd (s.at C base k).op.op (s.at C base k).fr=some (some n,.p (path b) (Nat.add (Nat.add 0 (Nat.mul i (wd y))) f)):=by kernel_rfl)
 (hg:blkC ((s.at C base k).h.get (path b))=some (flatT y X):=by kernel_rfl) (hc:cut (tc y (gt y X i)) f n=some l:=by kernel_rfl) (hn:Nat.blt 0 n=true:=by kernel_rfl):RJ C base s Q:=RJ.step k _ _ (ev_ldn hi (Nat.lt_of_succ_le (Nb hn)) hv hg hc) hr hok
theorem yst (k:Nat) (b el:Nat) (y:Ty) (X:List (den y)) (i:Nat) (x:den y) (hi:i<X.length) (hr:RJ C base ((s.at C base k).put undefA ((s.at C base k).h.put (path b) (.cs el (flatT y (X.set i x)) false))) Q)
 (hok:s.okS C base k=true:=by kernel_rfl) (hv:viewSt (s.at C base k).op.op (s.at C base k).fr=some (len (tc y x),.p (path b) (Nat.add 0 (Nat.mul i (wd y))),some (tc y x)):=by kernel_rfl)
 (hg:(s.at C base k).h.get (path b)=some (.cs el (flatT y X) false):=by kernel_rfl):RJ C base s Q:=RJ.step k _ _ (ev_st (flatT_lay hi) hv hg) hr hok
theorem ypo (k:Nat) (b sz n lo:Nat) (ex:Bool) (m:Nat) (hm:m≤lo) (hr:RJ C base ((s.at C base k).put (.sl (path b) 0 sz m lo ex) (s.at C base k).h) Q)
 (hok:s.okS C base k=true:=by kernel_rfl) (hv:viewSlc (s.at C base k).op.op (s.at C base k).fr=some (.sli sz,.sl (path b) 0 sz n lo ex,none,some m,none):=by kernel_rfl):RJ C base s Q:=
 RJ.step k _ _ (ev_slc (by
   show cd (Nat.beq sz sz) (cd (Nat.ble m lo) (cd (Nat.ble 0 m) (some (AV.sl (path b) (Nat.add 0 (Nat.mul 0 sz)) sz (Nat.sub m 0) (Nat.sub lo 0) ex)) none) none) none=_
   rw[Nat.beq_refl,Nc hm,Nc (Nz m)]
   show some (AV.sl (path b) (0+0*sz) sz (m - 0) (lo - 0) ex)=_
   rw[Nat.zero_mul,Nat.sub_zero,Nat.sub_zero]) hv) hr hok
theorem ymk (k b el by_:Nat) (y:Ty) (d:den y) (n:Nat) (hn:0<n) (hby:n*by_≤1099511627776)
 (hr:RJ C base ((s.at C base k).put (.sl (path b) 0 (wd y) n n true) ((s.at C base k).h.put (path b) (.cs el (flatT y (List.replicate n d)) false))) Q)
 (hok:s.okS C base k=true:=by kernel_rfl) (hid:Nat.add base (s.at C base k).op.k=b:=by kernel_rfl) (hv:viewMk (s.at C base k).op.op (s.at C base k).fr=some (el,wd y,by_,tc y d,n,n):=by kernel_rfl)
 (hlt:Nat.blt b (s.at C base k).h.next=true:=by kernel_rfl) (hfr:(s.at C base k).h.get (path b)=none:=by kernel_rfl):RJ C base s Q:=by
 subst hid
 refine RJ.step k _ _ (ev_mksl hn hby hv hlt hfr) ?_ hok
 rw[repl_flat];exact hr
end
def Wk1 (x x':AV):Prop:=x'=x∨∃id off sz n lo ex,x=.sl id off sz n lo ex∧x'=.sl id off sz n n false
def Wks (l l':List AV):Prop:=l'.length=l.length∧∀(j:Nat) (x:AV),l'[j]? =some x→∃z,l[j]? =some z∧Wk1 z x
def WkB (o o':Option Blk):Prop:=o'=o∨∃el,∃l l' r:List AV,∃fz,o=some (.cs el (l++r) fz)∧o'=some (.cs el l' fz)∧Wks l l'
theorem Wk1.rel {e:Env}{x x':AV}{v:Value} (h:Wk1 x x') (hr:Rel e x v):Rel e x' v:=by
 rcases h with rfl|⟨id,off,sz,n,lo,ex,rfl,rfl⟩
 ·exact hr
 ·simp only[Rel] at hr⊢
  obtain⟨hk,a,cap,hv,h1,h2,_,h4⟩:=hr
  exact⟨hk,a,cap,hv,Nr _,Nt h1 h2,fun h=>Bool.noConfusion h,h4⟩
theorem Wk1.one {x x':AV} (h:Wk1 x x') (ho:one x=true):one x'=true:=by
 rcases h with rfl|⟨id,off,sz,n,lo,ex,rfl,rfl⟩
 ·exact ho
 ·rfl
section
variable {P:Program}{G:Gs}{nt:Nat}{fr fr':T AV}{h h':H}{Q:Ex→T AV→H→Prop}
theorem Sat.weakW {c:Code} (hf':∀id,Wk1 (getV fr id) (getV fr' id)) (hn:h'.next=h.next) (hb':∀id,WkB (h.get id) (h'.get id)) (hc:Sat P G nt c fr' h' Q):Sat P G nt c fr h Q:=by
 intro K e a he hs hf hgr hsz hp
 subst he
 let e2:Env:=⟨e.ρ,h',e.w,e.F⟩
 have hlv:∀id,live e2.h id→live e.h id:=fun id ⟨b,hb,hd⟩=>by
  rcases hb' id with h1|⟨el,l,l',r,fz,h1,h2,_⟩
  ·exact⟨b,by rw[←h1];exact hb,hd⟩
  ·exact⟨_,h1,by simp⟩
 have hown:∀b,Own e2 b→Own e b:=fun b ⟨id,h1,h2⟩=>⟨id,hlv id h1,h2⟩
 have hx:Ext e e2:={
  next:=Nat.le_of_eq hn.symm
  kn:=fun _ h=>h
  ren:=fun _ _=>rfl
  fr:=rfl
  qt:=⟨rfl,rfl,rfl⟩
  heap:=Nr _
  keep:=fun _ _ _=>rfl
  size:=fun _ _=>rfl
  own:=fun b _ h=>hown b h
  pres:=fun id b hb=>by
   rcases hb' id with h1|⟨el,l,l',r,fz,h1,h2,_⟩
   ·exact⟨b,by rw[←hb];exact h1⟩
   ·exact⟨_,h2⟩
  newk:=fun _ h=>.inl h}
 have hs2:St e2:={
  kn:=fun id hk=>by
   obtain⟨k,h1,h2,h3⟩:=hs.kn id hk
   exact⟨k,by show k<h'.next;rw[hn];exact h1,h2,fun hl=>by obtain⟨b,hb⟩:=h3 hl;exact hx.pres id b hb⟩
  dk:=fun id b hb=>by
   rcases hb' id with h1|⟨el,l,l',r,fz,h1,h2,_⟩
   ·exact hs.dk id b (by rw[←h1];exact hb)
   ·exact hs.dk id _ h1
  lo:=by show e.F.lo≤h'.next;rw[hn];exact hs.lo
  blk:=fun id b hb=>by
   rcases hb' id with h1|⟨el,l,l',r,fz,h1,h2,h3,h4⟩
   ·have hb2:e.h.get id=some b:=by rw[←h1];exact hb
    exact BlkRel.ext hx (hs.dk id b hb2) rfl b (hs.blk id b hb2)
   ·have hb:h'.get id=some b:=hb
    rw[h2] at hb;injection hb with hb;subst hb
    obtain⟨c,fr,g1,g2,g3,g4⟩:=BlkRel.ext hx (hs.dk id _ h1) rfl _ ((hs.blk id _ h1).pre)
    refine⟨c,fr,g1,by rw[h3];exact g2,fun j x hj=>?_,g4⟩
    obtain⟨z,hz,hw⟩:=h4 j x hj
    obtain⟨ho,v,hv,hr⟩:=g3 j z hz
    exact⟨hw.one ho,v,hv,hw.rel hr⟩
  inj:=fun id id' h1 h2 he=>hs.inj id id' (hlv id h1) (hlv id' h2) he
  fr:=fun b hb=>⟨(hs.fr b hb).1,fun h=>(hs.fr b hb).2 (hown b h)⟩}
 exact hc K e2 a rfl hs2 (fun k=>(hf' (path k)).rel (Rel.ext hx _ _ (hf k))) (hgr.ext hx) hsz (fun ex fr' h' hq=>(hp ex fr' h' hq).ext hx rfl)
end
section
variable {Bn nt:Nat}{u:Us Bn}{τ:Type}{E:τ→Ex→T AV→H→Prop}{z:τ}{q:Cf}
theorem xpS (n p b el m lo:Nat) (ex:Bool) (y:Ty) (X:List (den y)) (hm:m≤X.length) (hg:GC Bn nt u E ⟨(cAt u nt n q).c,(cAt u nt n q).ks,T.set (path p) (.sl (path b) 0 (wd y) (List.take m X).length (List.take m X).length false) (cAt u nt n q).fr,(cAt u nt n q).h.put (path b) (.cs el (flatT y (List.take m X)) false)⟩ z)
 (ho:cd (cOn u nt n q) (goC (cAt u nt n q)) false=true:=by kernel_rfl) (hv:getV (cAt u nt n q).fr (path p)=.sl (path b) 0 (wd y) m lo ex:=by kernel_rfl) (hb:(cAt u nt n q).h.get (path b)=some (.cs el (flatT y X) false):=by kernel_rfl):GC Bn nt u E q z:=by
 rw[show(List.take m X).length=m by rw[Tk];omega] at hg
 obtain⟨h1,h2⟩:=cd_true ho
 refine run_ok n h1 (goC_of h2 (Sat.weakW (fun id=>?_) (by rfl) (fun id=>?_) hg.S))
 ·rw[getV_set]
  by_cases h:id=path p
  ·rw[if_pos h,h,hv];exact .inr ⟨_,_,_,_,_,_,rfl,rfl⟩
  ·rw[if_neg h];exact .inl rfl
 ·rw[put_get]
  by_cases h:id=path b
  ·rw[if_pos h,h,hb]
   exact .inr ⟨el,flatT y (X.take m),_,flatT y (X.drop m),false,by rw[←flatT_app2],rfl,rfl,fun j x hx=>⟨x,hx,.inl rfl⟩⟩
  ·rw[if_neg h];exact .inl rfl
theorem xpC (n c elc b el m lo:Nat) (ex:Bool) (y:Ty) (X:List (den y)) (hm:m≤X.length) (hg:GC Bn nt u E ⟨(cAt u nt n q).c,(cAt u nt n q).ks,(cAt u nt n q).fr,((cAt u nt n q).h.put (path c) (.cs elc [.sl (path b) 0 (wd y) (List.take m X).length (List.take m X).length false] false)).put (path b) (.cs el (flatT y (List.take m X)) false)⟩ z)
 (ho:cd (cOn u nt n q) (goC (cAt u nt n q)) false=true:=by kernel_rfl) (hv:(cAt u nt n q).h.get (path c)=some (.cs elc [.sl (path b) 0 (wd y) m lo ex] false):=by kernel_rfl) (hb:(cAt u nt n q).h.get (path b)=some (.cs el (flatT y X) false):=by kernel_rfl):GC Bn nt u E q z:=by
 rw[show(List.take m X).length=m by rw[Tk];omega] at hg
 obtain⟨h1,h2⟩:=cd_true ho
 refine run_ok n h1 (goC_of h2 (Sat.weakW (fun id=>.inl rfl) (by rfl) (fun id=>?_) hg.S))
 rw[put_get]
 by_cases h:id=path b
 ·rw[if_pos h,h,hb]
  exact .inr ⟨el,flatT y (X.take m),_,flatT y (X.drop m),false,by rw[←flatT_app2],rfl,rfl,fun j x hx=>⟨x,hx,.inl rfl⟩⟩
 ·rw[if_neg h,put_get]
  by_cases h2:id=path c
  ·rw[if_pos h2,h2,hv]
   refine .inr ⟨elc,[.sl (path b) 0 (wd y) m lo ex],_,[],false,rfl,rfl,rfl,fun j x hx=>?_⟩
   cases j with
   |zero=>simp at hx;subst hx;exact⟨_,rfl,.inr ⟨_,_,_,_,_,_,rfl,rfl⟩⟩
   |succ j=>simp at hx
  ·rw[if_neg h2];exact .inl rfl
theorem xhv (n b:Nat) (v v':Blk) (he:v=v') (hg:GC Bn nt u E ⟨(cAt u nt n q).c,(cAt u nt n q).ks,(cAt u nt n q).fr,(cAt u nt n q).h.put (path b) v'⟩ z)
 (ho:cd (cOn u nt n q) (goC (cAt u nt n q)) false=true:=by kernel_rfl) (hv:(cAt u nt n q).h.get (path b)=some v:=by kernel_rfl):GC Bn nt u E q z:=by
 subst he
 obtain⟨h1,h2⟩:=cd_true ho
 refine run_ok n h1 (goC_of h2 (Sat.weakW (fun id=>.inl rfl) (by rfl) (fun id=>?_) hg.S))
 rw[put_get]
 by_cases h:id=path b
 ·rw[if_pos h,h,hv];exact .inl rfl
 ·rw[if_neg h];exact .inl rfl
end
theorem apv_ne {iv:AV}{p:Id}{y:Ty}{xs:List (den y)} (h:xs≠[]):apv iv p y xs=.sl p 0 (wd y) xs.length xs.length false:=by
 cases xs with
 |nil=>exact absurd rfl h
 |cons x t=>rfl
theorem apb_ne {el:TypeId}{y:Ty}{xs:List (den y)} (h:xs≠[]):apb el y xs=.cs el (flatT y xs) false:=by
 cases xs with
 |nil=>exact absurd rfl h
 |cons x t=>rfl
section
variable {call:CallF}{base na:Nat}{ops:List DO}{s:DS}
theorem RunD.stepRd {Q:DS→Prop} (k:Nat) (v:AV) (hok:isSomeD (stDk call base na ops s k)=true) (hk:Nat.blt k ops.length=true) (hw:wanted (opD ops k).o.g (dsOf (stDk call base na ops s k)).fr=some true)
 (hc:(opD ops k).o.op.cls=.R){h':H}
 (hv:evOp call (opD ops k).o.op (dsOf (stDk call base na ops s k)).fr (heapAt (dsOf (stDk call base na ops s k)).cur (opD ops k).ks (dsOf (stDk call base na ops s k)).mks) (Nat.add base (opD ops k).o.k)=.ok v h')
 (hr:RunD call base na (ops.drop (k+1)) (Ev.stepR (opD ops k) (dsOf (stDk call base na ops s k)) v) Q):RunD call base na ops s Q:=by
 refine RunD.upto k hok ?_
 obtain⟨s',h1,h2⟩:=hr
 refine⟨s',?_,h2⟩
 rw[opD_drop hk]
 show(Option.rec none (evD call base na (ops.drop (k+1))) (stepD call base na (opD ops k) (dsOf (stDk call base na ops s k))):Option DS)=some s'
 have:stepD call base na (opD ops k) (dsOf (stDk call base na ops s k))=some (Ev.stepR (opD ops k) (dsOf (stDk call base na ops s k)) v):=by
  unfold stepD
  rw[hw,hc,hv];rfl
 rw[this];exact h1
variable {Q:T AV→H→Prop}
theorem zdi (k:Nat) (t:Ty) (xs:List (den t)) (i:Nat) (hx:i<xs.length) (hr:RunD call base na (ops.drop (k+1)) (Ev.stepV (opD ops k) (dsOf (stDk call base na ops s k)) (.ip t (gt t xs i) 0)) (DQ Q))
 (hok:isSomeD (stDk call base na ops s k)=true:=by kernel_rfl) (hk:Nat.blt k ops.length=true:=by kernel_rfl) (hw:wanted (opD ops k).o.g (dsOf (stDk call base na ops s k)).fr=some true:=by kernel_rfl) (hc:(opD ops k).o.op.cls=.N:=by kernel_rfl)
 (hv:viewIa (opD ops k).o.op (dsOf (stDk call base na ops s k)).fr=some (wd t,.isl t xs,i):=by kernel_rfl):RunD call base na ops s (DQ Q):=RunD.stepN k _ hok hk hw hc (ev_ia hx hv) hr
theorem zde (k b sz n lo:Nat) (ex:Bool) (i:Nat) (hi:i<n) (hr:RunD call base na (ops.drop (k+1)) (Ev.stepV (opD ops k) (dsOf (stDk call base na ops s k)) (.p (path b) (Nat.add 0 (Nat.mul i sz)))) (DQ Q))
 (hok:isSomeD (stDk call base na ops s k)=true:=by kernel_rfl) (hk:Nat.blt k ops.length=true:=by kernel_rfl) (hw:wanted (opD ops k).o.g (dsOf (stDk call base na ops s k)).fr=some true:=by kernel_rfl) (hc:(opD ops k).o.op.cls=.N:=by kernel_rfl)
 (hv:viewIa (opD ops k).o.op (dsOf (stDk call base na ops s k)).fr=some (sz,.sl (path b) 0 sz n lo ex,i):=by kernel_rfl):RunD call base na ops s (DQ Q):=RunD.stepN k _ hok hk hw hc (ev_iaS hi hv) hr
theorem zdl (k b:Nat) (y:Ty) (X:List (den y)) (i f n:Nat) (l:List AV) (hi:i<X.length) (hr:RunD call base na (ops.drop (k+1)) (Ev.stepR (opD ops k) (dsOf (stDk call base na ops s k)) (.ag l)) (DQ Q))
 (hok:isSomeD (stDk call base na ops s k)=true:=by kernel_rfl) (hk:Nat.blt k ops.length=true:=by kernel_rfl) (hw:wanted (opD ops k).o.g (dsOf (stDk call base na ops s k)).fr=some true:=by kernel_rfl) (hc:(opD ops k).o.op.cls=.R:=by kernel_rfl)
 (hv:viewLd (opD ops k).o.op (dsOf (stDk call base na ops s k)).fr=some (some n,.p (path b) (Nat.add (Nat.add 0 (Nat.mul i (wd y))) f)):=by kernel_rfl)
 (hg:blkC ((heapAt (dsOf (stDk call base na ops s k)).cur (opD ops k).ks (dsOf (stDk call base na ops s k)).mks).get (path b))=some (flatT y X):=by kernel_rfl) (hcu:cut (tc y (gt y X i)) f n=some l:=by kernel_rfl) (hn:Nat.blt 0 n=true:=by kernel_rfl):RunD call base na ops s (DQ Q):=
 RunD.stepRd k _ hok hk hw hc (ev_ldn hi (Nat.lt_of_succ_le (Nb hn)) hv hg hcu) hr
theorem zds (k b el:Nat) (y:Ty) (X:List (den y)) (i:Nat) (x:den y) (hi:i<X.length)
 (hr:RunD call base na (ops.drop (k+1)) (Ev.stepX (opD ops k) (dsOf (stDk call base na ops s k)) undefA ((heapAt (dsOf (stDk call base na ops s k)).cur (opD ops k).ks (dsOf (stDk call base na ops s k)).mks).put (path b) (.cs el (flatT y (X.set i x)) false))) (DQ Q))
 (hok:isSomeD (stDk call base na ops s k)=true:=by kernel_rfl) (hk:Nat.blt k ops.length=true:=by kernel_rfl) (hw:wanted (opD ops k).o.g (dsOf (stDk call base na ops s k)).fr=some true:=by kernel_rfl) (hc:(opD ops k).o.op.cls=.X:=by kernel_rfl)
 (hv:viewSt (opD ops k).o.op (dsOf (stDk call base na ops s k)).fr=some (len (tc y x),.p (path b) (Nat.add 0 (Nat.mul i (wd y))),some (tc y x)):=by kernel_rfl)
 (hg:(heapAt (dsOf (stDk call base na ops s k)).cur (opD ops k).ks (dsOf (stDk call base na ops s k)).mks).get (path b)=some (.cs el (flatT y X) false):=by kernel_rfl)
 (hf:freeOf ((heapAt (dsOf (stDk call base na ops s k)).cur (opD ops k).ks (dsOf (stDk call base na ops s k)).mks).put (path b) (.cs el (flatT y (X.set i x)) false)) base (cat (opD ops k).ks (dsOf (stDk call base na ops s k)).cur.cons) na=true:=by kernel_rfl):RunD call base na ops s (DQ Q):=
 RunD.stepX k _ _ hok hk hw hc (ev_st (flatT_lay hi) hv hg) hf hr
end
section
variable {P:Program}{G:Gs}{nt:Nat}{fr:T AV}{h:H}{Q:Ex→T AV→H→Prop}
theorem Sat.giveC {c:Code} (hlo:1073741824≤G.B) (cb p:Id) (hne:cb≠p) (elc el lo:Nat) (ex:Bool) (y:Ty) (xs:List (den y)) (hn:xs.length≤1073741824)
 (hv:h.get cb=some (.cs elc [.sl p 0 (wd y) xs.length lo ex] false)) (hg:h.get p=some (.cs el (flatT y xs) false)) (hc:Sat P G nt c fr ((h.put cb (.cs elc [.isl y xs] false)).put p .dead) Q):Sat P G nt c fr h Q:=by
 intro K e a he hs hf hgr hsz hp
 subst he
 let e2:Env:=⟨e.ρ,(e.h.put cb (.cs elc [.isl y xs] false)).put p .dead,e.w,e.F⟩
 have hget:∀id,e2.h.get id=if id=p then some .dead else if id=cb then some (.cs elc [.isl y xs] false) else e.h.get id:=fun id=>by
  show((e.h.put cb (.cs elc [.isl y xs] false)).put p .dead).get id=_
  rw[put_get,put_get]
 have hlv:∀id,live e2.h id→live e.h id∧id≠p:=fun id=>by
  rintro ⟨b,hb,hd⟩
  rw[hget] at hb
  by_cases hh:id=p
  ·rw[if_pos hh] at hb;injection hb with hb;exact absurd hb.symm hd
  ·rw[if_neg hh] at hb
   by_cases h2:id=cb
   ·exact⟨⟨_,by rw[h2];exact hv,by simp⟩,hh⟩
   ·rw[if_neg h2] at hb;exact⟨⟨b,hb,hd⟩,hh⟩
 have hlp:live e.h p:=⟨_,hg,by simp⟩
 have hown:∀b,Own e2 b→Own e b:=fun b ⟨id,h1,h2⟩=>⟨id,(hlv id h1).1,h2⟩
 have hi:Mle (mm e) (mm e2):=⟨fun b (hb:Imm e b)=>⟨hb.1,hb.2.1,fun h=>hb.2.2 (hown b h)⟩,Nr _⟩
 have hx:Ext e e2:={
  next:=Nr _
  kn:=fun _ h=>h
  ren:=fun _ _=>rfl
  fr:=rfl
  qt:=⟨rfl,rfl,rfl⟩
  heap:=Nr _
  keep:=fun _ _ _=>rfl
  size:=fun _ _=>rfl
  own:=fun b _ h=>hown b h
  pres:=fun id b hb=>by
   rw[hget]
   by_cases hh:id=p
   ·rw[if_pos hh];exact⟨_,rfl⟩
   ·rw[if_neg hh]
    by_cases h2:id=cb
    ·rw[if_pos h2];exact⟨_,rfl⟩
    ·rw[if_neg h2];exact⟨b,hb⟩
  newk:=fun _ h=>.inl h}
 have himp:Imm e2 (e.ρ p).1:=⟨hs.lt hlp,fun h=>(hs.fr _ h).2 ⟨p,hlp,rfl⟩,fun⟨id,h1,h2⟩=>(hlv id h1).2 (hs.inj id p (hlv id h1).1 hlp h2)⟩
 let hd:H:=⟨0,T.set p (.cs el (flatT y xs) false) .e⟩
 have hhd:∀id,hd.get id=if id=p then some (.cs el (flatT y xs) false) else none:=fun id=>by
  show T.get id (T.set p _ .e)=_
  rw[T.get_set,T.get_e]
 have hval:∀v,Rel e (.sl p 0 (wd y) xs.length lo ex) v→Rel e2 (.isl y xs) v:=fun v h0=>by
  have:=decP_rel (e2:=e2) (hd:=hd) hs rfl hi (fun id b hb=>by
   rw[hhd] at hb
   by_cases hh:id=p
   ·rw[if_pos hh] at hb;rw[hh,hg];exact hb
   ·rw[if_neg hh] at hb;cases hb) (fun id ⟨b,hb,_⟩=>by
   rw[hhd] at hb
   by_cases hh:id=p
   ·rw[hh];exact himp
   ·rw[if_neg hh] at hb;cases hb) (by show 1073741824≤e.F.B;rw[hgr.1];exact hlo) (decP_tos (hd:=hd) (id:=p) (t:=y) (el:=el) (fz:=false) (ex:=ex) (lo:=lo) (xs:=xs) hn (by rw[hhd,if_pos rfl];rfl)) h0
  show relT (mm e2) e2.w (.sl y) xs [_]
  exact this
 have hs2:St e2:={
  kn:=fun id hk=>by
   obtain⟨k,h1,h2,h3⟩:=hs.kn id hk
   exact⟨k,h1,h2,fun hl=>by obtain⟨b,hb⟩:=h3 hl;exact hx.pres id b hb⟩
  dk:=fun id b hb=>by
   rw[hget] at hb
   by_cases hh:id=p
   ·rw[hh];exact hs.dk p _ hg
   ·rw[if_neg hh] at hb
    by_cases h2:id=cb
    ·rw[h2];exact hs.dk cb _ hv
    ·rw[if_neg h2] at hb;exact hs.dk id b hb
  lo:=hs.lo
  blk:=fun id b hb=>by
   rw[hget] at hb
   by_cases hh:id=p
   ·rw[if_pos hh] at hb;injection hb with hb;subst hb;trivial
   ·rw[if_neg hh] at hb
    by_cases h2:id=cb
    ·rw[if_pos h2] at hb;injection hb with hb;subst hb
     obtain⟨c,fr,g1,g2,g3,g4⟩:=hs.blk cb _ hv
     rw[h2]
     refine⟨c,fr,g1,g2,fun j x hj=>?_,g4⟩
     obtain⟨ho,v,g5,g6⟩:=g3 0 _ rfl
     cases j with
     |zero=>simp at hj;subst hj;exact⟨rfl,v,g5,hval v g6⟩
     |succ j=>simp at hj
    ·rw[if_neg h2] at hb
     exact BlkRel.ext hx (hs.dk id b hb) rfl b (hs.blk id b hb)
  inj:=fun id id' h1 h2 he=>hs.inj id id' (hlv id h1).1 (hlv id' h2).1 he
  fr:=fun b hb=>⟨(hs.fr b hb).1,fun h=>(hs.fr b hb).2 (hown b h)⟩}
 exact hc K e2 a rfl hs2 (fun k=>Rel.ext hx _ _ (hf k)) (hgr.ext hx) hsz (fun ex fr' h' hq=>(hp ex fr' h' hq).ext hx rfl)
end
section
variable {Bn nt:Nat}{u:Us Bn}{τ:Type}{E:τ→Ex→T AV→H→Prop}{z:τ}{q:Cf}
theorem xgvC [BOk Bn] (n c elc p el lo:Nat) (ex:Bool) (t:Ty) (xs:List (den t)) (hn:xs.length≤1073741824) (hg:GC Bn nt u E ⟨(cAt u nt n q).c,(cAt u nt n q).ks,(cAt u nt n q).fr,((cAt u nt n q).h.put (path c) (.cs elc [.isl t xs] false)).put (path p) .dead⟩ z)
 (ho:cd (cOn u nt n q) (goC (cAt u nt n q)) false=true:=by kernel_rfl) (hne:Nat.beq c p=false:=by kernel_rfl) (hv:(cAt u nt n q).h.get (path c)=some (.cs elc [.sl (path p) 0 (wd t) xs.length lo ex] false):=by kernel_rfl) (hb:(cAt u nt n q).h.get (path p)=some (.cs el (flatT t xs) false):=by kernel_rfl):GC Bn nt u E q z:=by
 obtain⟨h1,h2⟩:=cd_true ho
 exact run_ok n h1 (goC_of h2 (Sat.giveC (BOk.lo (B:=Bn)) (path c) (path p) (fun he=>by
  have:=congrArg unpath he
  rw[unpath_path,unpath_path] at this
  rw[this,Nat.beq_refl] at hne;cases hne) elc el lo ex t xs hn hv hb hg.S))
end
section
variable {call:CallF}{base na:Nat}{ops:List DO}{s:DS}{Q:T AV→H→Prop}
def setFr (s:DS) (fr:T AV):DS:=⟨fr,s.cur,s.old,s.mks,s.rs⟩
theorem zdw (k p:Nat) (v v':AV) (he:v=v') (hr:RunD call base na (ops.drop k) (setFr (dsOf (stDk call base na ops s k)) (T.set (path p) v' (dsOf (stDk call base na ops s k)).fr)) (DQ Q))
 (hok:isSomeD (stDk call base na ops s k)=true:=by kernel_rfl) (hv:T.get (path p) (dsOf (stDk call base na ops s k)).fr=some v:=by kernel_rfl):RunD call base na ops s (DQ Q):=by
 subst he
 refine RunD.upto k hok ?_
 rw[T.set_self _ _ _ hv] at hr
 exact hr
end
def AllR (n:Nat) (W:List (den (.int .i64))):Prop:=∀i,i<W.length→@LE.le Int _ 0 (gt (.int .i64) W i)∧@LT.lt Int _ (gt (.int .i64) W i) ((n:Nat):Int)
theorem gt_get {t:Ty}{xs:List (den t)}{i:Nat} (h:i<xs.length):gt t xs i=xs[i]:=by
 have:=gt_some (t:=t) h
 rw[Lq h] at this
 exact(Oi this).symm
theorem allr_take {n m:Nat}{W:List (den (.int .i64))} (h:AllR n W):AllR n (List.take m W):=fun i hi=>by
 have h2:i<W.length:=by rw[Tk] at hi;omega
 have:=h i h2
 rw[gt_get h2] at this
 rw[gt_get hi,List.getElem_take];exact this
def unk {α:Type} (f:α→Bool) (H:List α):Nat:=H.countP (fun h=> !f h)
theorem unk_le {α:Type} (f:α→Bool) (H:List α):unk f H≤H.length:=List.countP_le_length
theorem unk_set {y:Ty} (f:den y→Bool){H:List (den y)}{i:Nat}{x:den y} (hi:i<H.length) (h0:f (gt y H i)=false) (h1:f x=true):unk f (H.set i x)+1=unk f H:=by
 have h3:H=H.take i++gt y H i::H.drop (i+1):=by
  rw[gt_get hi,←List.drop_eq_getElem_cons hi,Ly]
 have e2:H.set i x=H.take i++x::H.drop (i+1):=by
  rw[List.set_eq_take_append_cons_drop,if_pos hi]
 unfold unk
 rw[e2]
 conv=>rhs;rw[h3]
 simp[List.countP_append,List.countP_cons,h0,h1]
 omega
theorem xnl {Bn nt:Nat}{u:Us Bn}{τ:Type}{E:τ→Ex→T AV→H→Prop}{q:Cf}{σ β:Type}{P:σ→Out σ β}{s0 s':σ}{f:Nat}{g:τ}{bX:σ→τ}{rX:β→τ} (hP:P s0=.brk s') (hg:GC Bn nt u E q (bX s')):GC Bn nt u E q (outE g bX rX (scan P (f+1) s0)):=by
 have:scan P (f+1) s0=.brk s':=by simp only[scan,hP]
 rw[outB this];exact hg
section
variable {Bn nt:Nat}{u:Us Bn}{τ:Type}{E:τ→Ex→T AV→H→Prop}{y:τ}{q:Cf}
theorem xlCi {σ β:Type}{P:σ→Out σ β}{s0:σ}{f:Nat}{g:τ}{bX:σ→τ}{rX:β→τ} (k n:Nat) (L:AV→σ→List (List Bool×AV)) (B:AV→σ→List (Option Blk)) (tv:σ→AV) (tb:σ→Blk) (Inv:σ→Prop) (m:σ→Nat) (hI:Inv s0) (hm:m s0<4611686018427387904)
 (qn:Nat) (src:AV) (fl:List Bool) (hg:Gv n (cAt u nt k q).h (path qn) src (tv s0) (tb s0)) (hB:BsCv n src (tv s0) (B src s0) (B (tv s0) s0))
 (step:∀s,Inv s→GC Bn nt u (RoundC Bn nt E (cAt u nt k q).ks bX rX Inv m n L B tv tb s) ⟨bodyC (cAt u nt k q),[],mkFr (L (tv s) s),hpH (n+1) (B (tv s) s++[some (tb s)])⟩ (P s))
 (h1:okF n fl (L src s0)=true:=by kernel_rfl) (h2:srcL fl (tv s0) (L src s0)=L (tv s0) s0:=by kernel_rfl) (h3:gets (cAt u nt k q).fr (L src s0)=vals (L src s0):=by kernel_rfl) (h4:srcL fl src (L src s0)=L src s0:=by kernel_rfl)
 (h5:heapL ((cAt u nt k q).h.put (path qn) .dead) n=B src s0:=by kernel_rfl) (h6:isSomeB ((cAt u nt k q).h.get (path qn))=true:=by kernel_rfl) (h7:(B (tv s0) s0)[qn]? =some (some .dead):=by kernel_rfl)
 (ho:cd (cOn u nt k q) (cd (loopC (cAt u nt k q)) (Nat.beq (cAt u nt k q).h.next n) false) false=true:=by kernel_rfl) (hf:f=m s0+1:=by kernel_rfl):
 GC Bn nt u E q (outE g bX rX (scan P f s0)):=
 xlC k n L B tv tb Inv m hI hm (rendI fl hg hB h1 h2 h3 h4 h5 (isSomeB_of h6) h7) step ho hf
end
def AllW {y:Ty} (n:Nat) (f:den y→Bool) (H:List (den y)) (W:List (den (.int .i64))):Prop:=∀i,i<W.length→(@LE.le Int _ 0 (gt (.int .i64) W i)∧@LT.lt Int _ (gt (.int .i64) W i) ((n:Nat):Int))∧f (gt y H (Jn (gt (.int .i64) W i)))=true
theorem allw_nil {y:Ty}{n:Nat}{f:den y→Bool}{H:List (den y)}:AllW n f H []:=fun i h=>absurd h (Nn _)
theorem allw_take {y:Ty}{n m:Nat}{f:den y→Bool}{H:List (den y)}{W:List (den (.int .i64))} (h:AllW n f H W):AllW n f H (List.take m W):=fun i hi=>by
 have h2:i<W.length:=by rw[Tk] at hi;omega
 have:=h i h2
 rw[gt_get h2] at this
 rw[gt_get hi,List.getElem_take];exact this
theorem gt_set {y:Ty}{f:den y→Bool}{H:List (den y)}{i j:Nat}{x:den y} (hj:j<H.length) (h0:f (gt y H j)=true) (h1:f x=true):f (gt y (H.set i x) j)=true:=by
 rw[gt_get (by rw[List.length_set];exact hj),List.getElem_set]
 split
 ·exact h1
 ·rw[←gt_get hj];exact h0
theorem gt_set_self {y:Ty}{H:List (den y)}{i:Nat}{x:den y} (hi:i<H.length):gt y (H.set i x) i=x:=by
 rw[gt_get (by rw[List.length_set];exact hi),List.getElem_set_self]
theorem allw_push {y:Ty}{n:Nat}{f:den y→Bool}{H:List (den y)}{W:List (den (.int .i64))}{v:Int}{x:den y} (h:AllW n f H W) (hl:H.length=n) (h0:@LE.le Int _ 0 v) (h1:@LT.lt Int _ v ((n:Nat):Int)) (hx:f x=true):AllW n f (H.set (Jn v) x) (W++[v]):=fun i hi=>by
 rw[gt_get hi]
 by_cases hw:i<W.length
 ·have:=h i hw
  rw[gt_get hw] at this
  rw[List.getElem_append_left hw]
  exact⟨this.1,gt_set (by rw[hl];have:=this.1;omega) this.2 hx⟩
 ·rw[List.getElem_append_right om]
  have:i - W.length=0:=by simp at hi;omega
  simp only[this,List.getElem_cons_zero]
  exact⟨⟨h0,h1⟩,by rw[gt_set_self (by rw[hl];omega)];exact hx⟩
def isV (o:AOp):Bool:=match o with
 |.o2 (.callv _ _)=>true
 |_=>false
def asV (o:AOp):List Od:=match o with
 |.o2 (.callv _ as_)=>as_
 |_=>[]
def fvV (o:AOp):Od:=match o with
 |.o2 (.callv x _)=>x
 |_=>.c .j
section
variable {P:Program}{G:Gs}
theorem OpsW.inlv {nt:Nat}{ops:Array Oper}{base:Nat}{ao:AO}{l:List AO}{fr:T AV}{h:H}{Q:T AV→H→Prop}{f:Nat}{args:List AV}{fn:Func}{b:Code}{res:List (List Bool×Option (Option Nat))}
 {s:Nat}{o0:Oper}{c:Call}{tt:Nat}{first cap:List AV} (hao:isV ao.op=true) (ho0:ops[s]? =some o0) (hop:o0.op=.call c) (hcal:c.callee=.value (.tmp tt)) (hw:wanted ao.g fr=some true) (hev:ev (fvV ao.op) fr=.f (.func f) first cap) (hargs:cat first (cat (evs (asV ao.op) fr) cap)=args) (hf:P.funcs[f]? =some fn) (hname:(fn.name== "runtime.NumGoroutine")=false) (hb:fn.body=some b) (hres:compResL P fn.results.toList=some res) (hle:Nat.ble args.length fn.ntmps=true)
 (hsat:Sat P G fn.ntmps b (argsFrom args 0 .e) h (EndI res (fun v h'=>OpsW P G nt ops base (s+1) l (setD ao.dst v fr) h' Q))):OpsW P G nt ops base s (ao::l) fr h Q:=by
 intro is hlen hall K e a he hs hlo hfr hg hn kq
 subst he
 cases is with
 |nil=>simp[List.range'_succ] at hlen
 |cons i is=>
 obtain⟨o,ho,hi⟩:=hall 0 ao i rfl rfl
 have hrest:∀(q:Nat) (ao:AO) (i:Nat),l[q]? =some ao→is[q]? =some i→∃o,ops[i]? =some o∧IsO P G nt ops ao o:=fun q ao i h1 h2=>hall (q+1) ao i (by simpa using h1) (by simpa using h2)
 obtain⟨rfl,hlen'⟩:i=s∧is=List.range' (s+1) l.length:=by
  rw[Lcz,List.range'_succ] at hlen
  exact⟨(List.cons.inj hlen).1,(List.cons.inj hlen).2⟩
 show(match ops[i]? with
  |none=>wpOps P ops K is a e.w
  |some o=>
   if Region.wanted o (yielded ops a.tmps) then o.wp P a e.w (wpOps P ops K is) K∨(o.asks P a e.w∧LetsOut K)
   else wpOps P ops K is (a.put o.dst undef) e.w)
 rw[ho]
 have hw':=wanted_inv hi hfr hn hw
 simp only[hw']
 rw[if_pos trivial]
 left
 obtain rfl:o=o0:=by rw[ho0] at ho;exact(Oi ho).symm
 have hoc:o.op=.call c:=hop
 have hdst:ao.dst=o.dst.map mkPath:=by obtain⟨k,rfl⟩:=hi;rfl
 obtain⟨hc,hd⟩:compOp P G o.op=some ao.op∧(∀d,o.dst=some d→d<nt):=by
  obtain⟨k,rfl⟩:=hi
  have key:∀b:Bool,isV (if b=true then(compOp P G o.op).getD (.o2 .bad) else .o2 .bad)=true→b=true∧compOp P G o.op=some (if b=true then(compOp P G o.op).getD (.o2 .bad) else .o2 .bad):=by
   intro b hb
   cases b with
   |false=>cases hb
   |true=>
    refine⟨rfl,?_⟩
    cases hc:compOp P G o.op with
    |none=>rw[hc] at hb;cases hb
    |some x=>rfl
  obtain⟨h1,h2⟩:=key _ hao
  refine⟨h2,fun d hd=>?_⟩
  rw[hd] at h1
  simpa using h1
 obtain⟨as2,hods,hc2⟩:∃as2,ods G c.args.toList=some as2∧ao.op=.o2 (.callv (.t (mkPath tt)) as2):=by
  rw[hoc] at hc
  have hc:compCall P G c=some ao.op:=hc
  unfold compCall at hc
  obtain⟨as2,has,hc⟩:=bind_inv hc
  rw[hcal] at hc
  have hc:some (AOp.o2 (.callv (.t (mkPath tt)) as2))=some ao.op:=hc
  injection hc with hc
  exact⟨as2,has,hc.symm⟩
 rw[hc2] at hev hargs
 replace hev:ev (.t (mkPath tt)) fr=.f (.func f) first cap:=hev
 replace hargs:cat first (cat (evs as2 fr) cap)=args:=hargs
 have rx0:=ods_rel hfr hg hods
 have rt:Rel e (ev (.t (mkPath tt)) fr) (a.eval (.tmp tt)):=od_rel (G:=G) hfr hg rfl
 rw[hev] at rt
 simp only[Rel] at rt
 obtain⟨vs,ws,hv,h1,h2⟩:=rt
 have rx:=RelL.cat3 h1 rx0 h2
 rw[hargs] at rx
 have hname':¬fn.name= "runtime.NumGoroutine" :=by simpa using hname
 have hent:(callFunc f (vs.toList++(c.args.toList.map a.eval++ws.toList)).toArray).run P e.w=.ok (.enter f (vs.toList++(c.args.toList.map a.eval++ws.toList)).toArray) e.w:=by simp[callFunc,hf,hname',hb]
 have hx:(execOp a.eval o).run P e.w=(callFunc f (vs.toList++(c.args.toList.map a.eval++ws.toList)).toArray).run P e.w:=by
  have:(vs.toList++(c.args.toList.map a.eval++ws.toList)).toArray=(vs++c.args.map a.eval)++ws:=by
   apply Array.ext';simp
  rw[this]
  simp[execOp,hoc,resolve,hcal,hv,Deferred.ofValue,invoke]
 unfold Oper.wp
 rw[hx,hent,Oper.upon_enter]
 have hvl:=rx.len
 have hle:=Nb hle
 refine calls_of_wp hf hb (hsat _ e _ rfl hs (args_rel rx _) hg (by simp at hvl⊢;omega) (fun ex fr' h' hq=>?_))
 obtain⟨hex,us,hro,hN⟩:=hq
 intro a' e' he' hs' hx' hf' _ hd'
 subst he'
 obtain⟨h2,cv,h3,h4⟩:=results_sound (fn:=fn) (r:=tupA us) (h':=e'.h) hs' hf' hres hro (by
  match us with
  |[_]=>rfl
  |[]=>rfl
  |_::_::_=>rfl)
 have hfin:a'.defers=[]∧∃v,(results fn a'.tmps).run P e'.w=.ok v e'.w∧(match Ending.returned v,e'.w with
  |.returned v,w''=>wpOps P ops K is (a.put o.dst v) w''
  |.panicked chain,w''=>K (.panic chain) a w''
  |.outgrown,_=>LetsOut K):=by
  refine⟨hd',cv,h3,?_⟩
  show wpOps P ops K is (a.put o.dst cv) e'.w
  rw[hdst] at hN
  exact hN is hlen' hrest K e' _ rfl hs' (by rw[hx'.fr];exact hlo) (FrRel.put (hfr.ext hx') (fun k hk=>by rw[hn];exact hd k hk) h4) (hg.ext hx') (by rw[put_size];exact hn)
   (fun fr' h' hq a'' e'' g1 g2 g3 g4 g5 g6=>kq fr' h' hq a'' e'' g1 g2 (hx'.trans g3) g4 g5 (by rw[g6,put_defers]))
 rcases hex with rfl|rfl
 ·exact hfin
 ·exact hfin
end
def capB (f:Nat) (x:AV) (b:Bool):Bool:=match x with
 |.f (.func g) _ _=>cd b (Nat.beq g f) false
 |_=>false
theorem capB_inv {f:Nat}{x:AV}{b:Bool} (h:capB f x b=true):b=true∧∃first cap,x=.f (.func f) first cap:=by
 unfold capB at h
 split at h
 ·obtain⟨h1,h2⟩:=cd_true h
  rw[Nq h2];exact⟨h1,_,_,rfl⟩
 ·cases h
def calV (o:Option Oper):Bool:=match o with
 |some o=>match o.op with
  |.call c=>match c.callee with
   |.value (.tmp _)=>true
   |_=>false
  |_=>false
 |none=>false
theorem calV_inv {o:Option Oper} (h:calV o=true):∃o',o=some o'∧∃c,o'.op=.call c∧∃t,c.callee=.value (.tmp t):=by
 unfold calV at h
 split at h
 ·rename_i o'
  split at h
  ·rename_i c hc
   split at h
   ·rename_i t ht
    exact⟨o',rfl,c,hc,t,ht⟩
   ·cases h
  ·cases h
 ·cases h
section
variable {Bn nt:Nat}{u:Us Bn}{τ:Type}{E:τ→Ex→T AV→H→Prop}{y:τ}{q:Cf}
def agV (u:Us Bn) (nt:Nat) (q:Cf) (k:Nat):List AV:=match ev (fvV (opK Bn nt q k).op) (frK u nt q k) with
 |.f _ first cap=>cat first (cat (evs (asV (opK Bn nt q k).op) (frK u nt q k)) cap)
 |_=>[]
theorem agV_eq {k:Nat}{f:Nat}{first cap:List AV} (h:ev (fvV (opK Bn nt q k).op) (frK u nt q k)=.f (.func f) first cap):cat first (cat (evs (asV (opK Bn nt q k).op) (frK u nt q k)) cap)=agV u nt q k:=by
 unfold agV;rw[h]
theorem xinv (n k:Nat){f:Nat}{fn:Func} (hf:PP.funcs[f]? =some fn)
 (hsat:GC Bn fn.ntmps u (EndJ Bn nt u E (cAt u nt n q) k fn) ⟨bodyF fn,[],argsFrom (agV u nt (cAt u nt n q) k) 0 .e,hpK u nt (cAt u nt n q) k⟩ y)
 (ho:cd (cOn u nt n q) (cd (regC false (cAt u nt n q)) (cd (Nat.blt k (regL PP (GG Bn) nt (opsC (cAt u nt n q))).length) (cd (capB f (ev (fvV (opK Bn nt (cAt u nt n q) k).op) (frK u nt (cAt u nt n q) k)) (isV (opK Bn nt (cAt u nt n q) k).op)) (cd (isT (wanted (opK Bn nt (cAt u nt n q) k).g (frK u nt (cAt u nt n q) k)))
  (cd (stOk u.C.call (cAt u nt n q).h.next (regL PP (GG Bn) nt (opsC (cAt u nt n q))) (cAt u nt n q).fr ⟨Nat.add (cAt u nt n q).h.next (regN PP (GG Bn) nt (opsC (cAt u nt n q))),(cAt u nt n q).h.t⟩ k) (cd (Nat.ble (agV u nt (cAt u nt n q) k).length fn.ntmps) (fOk [] fn 0) false) false) false) false) false) false) false=true:=by kernel_rfl) (hcb:calV ((opsC (cAt u nt n q))[k]?)=true:=by kernel_rfl):GC Bn nt u E q y:=by
 obtain⟨o,hop,c,hop2,tt,hcal⟩:=calV_inv hcb
 obtain⟨h1,h2⟩:=cd_true ho
 obtain⟨h2,h3⟩:=cd_true h2
 obtain⟨h3,h4⟩:=cd_true h3
 obtain⟨h4,h5⟩:=cd_true h4
 obtain⟨h5,h6⟩:=cd_true h5
 obtain⟨h6,h7⟩:=cd_true h6
 obtain⟨h7,h8⟩:=cd_true h7
 obtain⟨g1,g2⟩:=cd_true h8
 obtain⟨g2,g3⟩:=cd_true g2
 obtain⟨g3,g4⟩:=cd_true g3
 obtain⟨g4,g5⟩:=cd_true g4
 obtain⟨b,hb⟩:=isSm_eq g1
 obtain⟨res,hr⟩:=isSm_eq g2
 have e1:bodyF fn=b:=by unfold bodyF;rw[hb]
 have e2:resF fn=res:=by unfold resF;rw[hr]
 refine run_ok n h1 ?_
 generalize cAt u nt n q=p at*
 obtain⟨c0,ks,fr,h⟩:=p
 unfold regC at h2
 split at h2
 ·rename_i rid ops d hc
  replace hc:c0=.region rid ops d:=hc
  subst hc
  have:d=false:=by cases d<;>first|rfl|cases h2
  subst this
  refine Sat.regW hmix (OpsW.upto u.ok k h6 0 (Nc (Nat.le_of_lt (Nat.lt_of_succ_le (Nb h3)))) ?_)
  rw[opA_drop h3,Nat.zero_add]
  obtain⟨hiv,first,cap,hev⟩:=capB_inv h4
  refine OpsW.inlv (first:=first) (cap:=cap) hiv hop hop2 hcal (isT_eq h5) hev (agV_eq hev) hf (by simpa using g5) hb hr h7 ?_
  have hs:=hsat.S
  rw[e1] at hs
  refine Sat.mono hs (fun ex fr' h' hq=>?_)
  obtain⟨a1,us,a2,a3⟩:=hq
  rw[e2] at a2
  exact⟨a1,us,a2,OpsW.run u.ok a3 _⟩
 ·cases h2
end
section
variable {σ β:Type}{Inv B:σ→Prop}{R:β→Prop}{m:σ→Nat}{s:σ}
end
section
variable {Bn nt:Nat}{u:Us Bn}{τ:Type}{E:τ→Ex→T AV→H→Prop}{z:τ}{q:Cf}
end
section
variable {C:CJ}{base:Nat}{s:RS}{Q:T AV→H→Prop}
end
section
variable {call:CallF}{base na:Nat}{ops:List DO}{s:DS}{Q:T AV→H→Prop}
end
section
variable {σ β τ:Type}{Po:τ→Prop}{P:σ→Out σ β}{s0:σ}{f:Nat}{g:τ}{bX:σ→τ}{rX:β→τ}{Inv:σ→Prop}{m:σ→Nat}{s:σ}
end
end Go.Ev
end
