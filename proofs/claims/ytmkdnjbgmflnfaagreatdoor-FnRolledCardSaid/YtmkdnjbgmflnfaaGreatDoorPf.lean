/- A part of the proof that FnRolled returns true; no condition. -/
import Derived.Test.YtmkdnjbgmflnfaaGreatDoorPe
import Derived.Test.YtmkdnjbgmflnfaaGreatDoorPa
import Derived.KernelRfl
import Derived.Test.YtmkdnjbgmflnfaaGreatDoorProg
set_option linter.all false
set_option maxRecDepth 100000
open List renaming length→U
open Int renaming ofNat→J,toNat→Jn
noncomputable section
namespace Go.Ev
theorem RelL.split {e:Env}:∀{xs ys:List AV}{vs:List Value},RelL e (xs++ys) vs→∃us ws,vs=us++ws∧RelL e xs us∧RelL e ys ws
 |[],ys,vs,h=>⟨[],vs,rfl,by simp[RelL],h⟩
 |x::xs,ys,[],h=>by simp[RelL] at h
 |x::xs,ys,v::vs,h=>by
  simp only[List.cons_append,RelL] at h
  obtain⟨us,ws,h1,h2,h3⟩:=RelL.split h.2
  exact⟨v::us,ws,by rw[h1];rfl,by simp only[RelL];exact⟨h.1,h2⟩,h3⟩
theorem relL1 {e:Env}{x:AV}{vs:List Value} (h:RelL e [x] vs):∃v,vs=[v]∧Rel e x v:=by
 match vs,h with
 |[v],h=>simp only[RelL] at h;exact⟨v,rfl,h.1⟩
 |[],h=>simp[RelL] at h
 |_::_::_,h=>simp[RelL] at h
theorem relL0 {e:Env}{vs:List Value} (h:RelL e [] vs):vs=[]:=by
 cases vs with
 |nil=>rfl
 |cons=>simp[RelL] at h
theorem relL_relT {e:Env}:∀(t:Ty) (x:den t) (vs:List Value),RelL e (tc t x) vs→relT (mm e) e.w t x vs
 |.int k,n,vs,h=>by
  obtain⟨v,rfl,g⟩:=relL1 (show RelL e [.i k n] vs from h)
  simp only[Rel] at g
  subst g;exact rfl
 |.bool,b,vs,h=>by
  obtain⟨v,rfl,g⟩:=relL1 (show RelL e [.b b] vs from h)
  simp only[Rel] at g
  subst g;exact rfl
 |.str,s,vs,h=>by
  obtain⟨v,rfl,g⟩:=relL1 (show RelL e [.s (U (α:=Nat) s) s] vs from h)
  simp only[Rel] at g
  obtain⟨⟨_,hB⟩,h1,rfl⟩:=g
  exact⟨rfl,h1,om⟩
 |.unit,_,vs,h=>relL0 (show RelL e [] vs from h)
 |.pair a b,x,vs,h=>by
  have h:RelL e (catA (tc a x.1) (tc b x.2)) vs:=h
  rw[catA_eq] at h
  obtain⟨us,ws,h1,h2,h3⟩:=RelL.split h
  exact⟨us,ws,h1,relL_relT a _ _ h2,relL_relT b _ _ h3⟩
 |.sl t,xs,vs,h=>by
  obtain⟨v,rfl,g⟩:=relL1 (show RelL e [.isl t xs] vs from h)
  simp only[Rel] at g
  exact g
 |.ptr t,x,vs,h=>by
  obtain⟨v,rfl,g⟩:=relL1 (show RelL e [.ip t x 0] vs from h)
  simp only[Rel] at g
  obtain⟨b,o,us,rfl,h2,h3,h4⟩:=g
  exact⟨b,o,us,rfl,h2,h3,h4⟩
 |.clo f t,x,vs,h=>by
  obtain⟨v,rfl,g⟩:=relL1 (show RelL e [.f (.func f) [] (tc t x)] vs from h)
  simp only[Rel] at g
  obtain⟨us,ws,rfl,h1,h2⟩:=g
  have:us=#[]:=by
   have:=relL0 h1
   simpa using this
  subst this
  exact⟨ws,rfl,relL_relT t _ _ h2⟩
def H0:H:=⟨0,.e⟩
def castD {t t':Ty} (h:t=t') (x:den t):den t':=h▸x
def decRows {α:Type} (d:List AV→Option (α×List AV)) (n:Nat):List AV→Option (List α):=
 Nat.rec (fun _=>some []) (fun _ ih cs=>match d cs with
  |some q=>match ih q.2 with
   |some r=>some (q.1::r)
   |none=>none
  |none=>none) n
theorem decRows_succ {α:Type} (d:List AV→Option (α×List AV)) (n:Nat) (cs:List AV):decRows d (n+1) cs=(match d cs with
 |some q=>match decRows d n q.2 with
  |some r=>some (q.1::r)
  |none=>none
 |none=>none):=rfl
def dec (hd:H) (t:Ty):List AV→Option (den t×List AV):=
 Ty.rec (motive:=fun t=>List AV→Option (den t×List AV))
   (fun k cs=>match cs with
    |.i k' n::r=>cd (kEq k' k) (some (n,r)) none
    |_=>none)
   (fun cs=>match cs with
    |.b x::r=>some (x,r)
    |_=>none)
   (fun cs=>match cs with
    |.s _ l::r=>some (l,r)
    |_=>none)
   (fun cs=>some ((),cs))
   (fun _ _ da db cs=>match da cs with
    |some q=>match db q.2 with
     |some q'=>some ((q.1,q'.1),q'.2)
     |none=>none
    |none=>none)
   (fun t dt cs=>match cs with
    |.isl t' xs::r=>match decEq t' t with
     |isTrue h=>some (castD (congrArg Ty.sl h) xs,r)
     |isFalse _=>none
    |.v (.slice none 0 0)::r=>some ([],r)
    |.em::r=>some ([],r)
    |.sl id off sz n _ _::r=>match n with
     |0=>some ([],r)
     |n+1=>cd (cd (Nat.beq sz (wd t)) (Nat.ble (n+1) 1073741824) false) (match blkCut (hd.get id) off (Nat.mul (n+1) sz) with
      |some l=>match decRows dt (n+1) l with
       |some xs=>some (xs,r)
       |none=>none
      |none=>none) none
    |_=>none)
   (fun t dt cs=>match cs with
    |.ip t' x 0::r=>match decEq t' t with
     |isTrue h=>some (castD (t:=t') (t':=t) h x,r)
     |isFalse _=>none
    |.p id off::r=>match blkCut (hd.get id) off (wd t) with
     |some l=>match dt l with
      |some (x,[])=>some (x,r)
      |_=>none
     |none=>none
    |_=>none)
   (fun f t dt cs=>match cs with
    |.f (.func g) [] caps::r=>cd (Nat.beq g f) (match dt caps with
     |some (x,[])=>some (x,r)
     |_=>none) none
    |_=>none) t
theorem dec_pair (hd:H) (a b:Ty) (cs:List AV):dec hd (.pair a b) cs=(match dec hd a cs with
 |some q=>match dec hd b q.2 with
  |some q'=>some ((q.1,q'.1),q'.2)
  |none=>none
 |none=>none):=rfl
theorem kEq_true {a b:IntKind} (h:kEq a b=true):a=b:=by
 cases a<;>cases b<;>first|rfl|(exact absurd h (by decide))
theorem cellsAt_take {w:World}{b o:Nat}{us ws:List Value} (h:CellsAt w b o (us++ws)):CellsAt w b o us∧CellsAt w b (o+us.length) ws:=by
 constructor
 ·intro j v hj
  exact h j v (by rw[List.getElem?_append_left (List.getElem?_eq_some_iff.1 hj).1];exact hj)
 ·intro j v hj
  have:=h (us.length+j) v (by rw[List.getElem?_append_right om];simpa using hj)
  rw[Nat.add_assoc];exact this
section
variable {e e2:Env}{hd:H}
theorem decRows_rel {t:Ty}{d:List AV→Option (den t×List AV)}
 (ih:∀(cs:List AV) (x:den t) (r:List AV) (vs:List Value),d cs=some (x,r)→RelL e cs vs→∃us ws,vs=us++ws∧relT (mm e2) e2.w t x us∧RelL e r ws) (hw:e2.w=e.w):
 ∀(n:Nat) (cs:List AV) (xs:List (den t)) (vs:List Value) (b o:Nat),decRows d n cs=some xs→RelL e cs vs→CellsAt e.w b o vs→
  xs.length=n∧∀(i:Nat) (x:den t),xs[i]? =some x→∃us,CellsAt e2.w b (o+i*wd t) us∧relT (mm e2) e2.w t x us
 |0,cs,xs,vs,b,o,h,_,_=>by
  obtain rfl:=Oi (show some []=some xs from h)
  exact⟨rfl,fun i x hx=>by simp at hx⟩
 |n+1,cs,xs,vs,b,o,h,hr,hc=>by
  rw[decRows_succ] at h
  cases hq:d cs with
  |none=>rw[hq] at h;cases h
  |some q=>
   rw[hq] at h
   simp only at h
   cases hr':decRows d n q.2 with
   |none=>rw[hr'] at h;cases h
   |some r=>
    rw[hr'] at h
    obtain rfl:=Oi h
    obtain⟨us,ws,rfl,h1,h2⟩:=ih cs q.1 q.2 vs hq hr
    obtain⟨c1,c2⟩:=cellsAt_take hc
    have hlen:=relT_len t _ _ h1
    obtain⟨g1,g2⟩:=decRows_rel ih hw n q.2 r ws b (o+wd t) hr' h2 (by rw[←hlen];exact c2)
    refine⟨by simp[g1],fun i x hx=>?_⟩
    cases i with
    |zero=>
     simp only[List.getElem?_cons_zero,Oj] at hx;subst hx
     exact⟨us,by rw[hw];simpa using c1,h1⟩
    |succ i=>
     obtain⟨us',k1,k2⟩:=g2 i x (by simpa using hx)
     refine⟨us',?_,k2⟩
     rw[show o+(i+1)*wd t=o+wd t+i*wd t by rw[Nat.add_mul];omega];exact k1
theorem castD_rel {m:Mm}{w:World}{t t':Ty} (h:t=t'){x:den t}{vs:List Value} (hr:relT m w t x vs):relT m w t' (castD h x) vs:=by
 subst h;exact hr
theorem blkCut_rel (hs:St e) (hsub:∀id b,hd.get id=some b→e.h.get id=some b){id:Id}{off n:Nat}{l:List AV} (h:blkCut (hd.get id) off n=some l) (hn:0<n):
 live hd id∧∃vs,RelL e l vs∧CellsAt e.w (e.ρ id).1 ((e.ρ id).2+off) vs:=by
 cases hb:hd.get id with
 |none=>rw[hb] at h;cases h
 |some b=>
  rw[hb] at h
  cases b with
  |cs el l0 fz=>
   refine⟨⟨_,hb,by simp⟩,?_⟩
   have h:cut l0 off n=some l:=h
   have hc:cellsAt (.p id off) n e.h=some l:=by
    show blkCut (e.h.get id) off n=some l
    rw[hsub _ _ hb];exact h
   obtain⟨c,fr,h1,h2,h3,_⟩:=hs.blk id _ (hsub _ _ hb)
   obtain⟨hl,hg⟩:=cut_get h
   obtain⟨vs,r1,r2,r3⟩:=relL_of (e:=e) l (fun j=>e.w.cell? ⟨(e.ρ id).1,(e.ρ id).2+off+j,none⟩) (fun j y hy=>by
    have hj:j<n:=by rw[←hl];exact(List.getElem?_eq_some_iff.1 hy).1
    rw[hg j hj] at hy
    obtain⟨ho,u,hu,hru⟩:=h3 _ _ hy
    refine⟨u,?_,hru⟩
    rw[cell_of_row _ _ _ _ _ _ h1,←hu];congr 1;omega)
   exact⟨vs,r1,r3⟩
  |mp es=>cases h
  |it s p=>cases h
  |dead=>cases h
theorem dec_rel (hs:St e) (hw:e2.w=e.w) (hi:Mle (mm e) (mm e2)) (hsub:∀id b,hd.get id=some b→e.h.get id=some b) (ho:∀id,live hd id→Imm e2 (e.ρ id).1) (hlo:1073741824≤e2.F.B):
 ∀(t:Ty) (cs:List AV) (x:den t) (r:List AV) (vs:List Value),dec hd t cs=some (x,r)→RelL e cs vs→∃us ws,vs=us++ws∧relT (mm e2) e2.w t x us∧RelL e r ws:=by
 have cons1:∀{x:AV}{r:List AV}{vs:List Value},RelL e (x::r) vs→∃v ws,vs=[v]++ws∧Rel e x v∧RelL e r ws:=by
  intro x r vs h
  cases vs with
  |nil=>simp[RelL] at h
  |cons v ws=>simp only[RelL] at h;exact⟨v,ws,rfl,h.1,h.2⟩
 intro t
 induction t with
 |int k=>
  intro cs x r vs h hr
  simp only[dec] at h
  split at h
  ·rename_i k' n r'
   obtain⟨h1,h2⟩:=cd_some h
   obtain rfl:=kEq_true h1
   cases h2
   obtain⟨v,ws,rfl,g1,g2⟩:=cons1 hr
   simp only[Rel] at g1
   subst g1
   exact⟨_,ws,rfl,rfl,g2⟩
  ·cases h
 |bool=>
  intro cs x r vs h hr
  simp only[dec] at h
  split at h
  ·cases h
   obtain⟨v,ws,rfl,g1,g2⟩:=cons1 hr
   simp only[Rel] at g1
   subst g1
   exact⟨_,ws,rfl,rfl,g2⟩
  ·cases h
 |str=>
  intro cs x r vs h hr
  simp only[dec] at h
  split at h
  ·cases h
   obtain⟨v,ws,rfl,g1,g2⟩:=cons1 hr
   simp only[Rel] at g1
   obtain⟨⟨_,hB⟩,g3,rfl⟩:=g1
   exact⟨_,ws,rfl,⟨rfl,g3,(show U (α:=Nat) x≤1152921504606846976 by omega)⟩,g2⟩
  ·cases h
 |unit=>
  intro cs x r vs h hr
  cases h
  exact⟨[],vs,rfl,rfl,hr⟩
 |pair a b iha ihb=>
  intro cs x r vs h hr
  rw[dec_pair] at h
  cases hq:dec hd a cs with
  |none=>rw[hq] at h;cases h
  |some q=>
   rw[hq] at h
   simp only at h
   cases hq':dec hd b q.2 with
   |none=>rw[hq'] at h;cases h
   |some q'=>
    rw[hq'] at h
    cases h
    obtain⟨us,ws,rfl,h1,h2⟩:=iha cs q.1 q.2 vs hq hr
    obtain⟨us',ws',rfl,h3,h4⟩:=ihb q.2 q'.1 q'.2 ws hq' h2
    exact⟨us++us',ws',by simp,⟨us,us',rfl,h1,h3⟩,h4⟩
 |sl t ih=>
  intro cs x r vs h hr
  simp only[dec] at h
  split at h
  ·rename_i t' xs r'
   split at h
   ·rename_i ht _
    cases h
    obtain⟨v,ws,rfl,g1,g2⟩:=cons1 hr
    simp only[Rel] at g1
    exact⟨[v],ws,rfl,castD_rel (congrArg Ty.sl ht) (relT_mono (w':=e2.w) hi (fun b o _=>by rw[hw]) _ _ _ g1),g2⟩
   ·cases h
  ·cases h
   obtain⟨v,ws,rfl,g1,g2⟩:=cons1 hr
   simp only[Rel] at g1
   exact⟨[v],ws,rfl,⟨v,rfl,.inl ⟨rfl,g1.1⟩⟩,g2⟩
  ·cases h
   obtain⟨v,ws,rfl,g1,g2⟩:=cons1 hr
   simp only[Rel] at g1
   obtain⟨a,rfl⟩:=g1
   cases a with
   |none=>exact⟨_,ws,rfl,⟨_,rfl,.inl ⟨rfl,rfl⟩⟩,g2⟩
   |some a=>exact⟨_,ws,rfl,⟨_,rfl,.inr ⟨a,0,rfl,Nr _,Nz _,.inl rfl⟩⟩,g2⟩
  ·rename_i id off sz n lo ex r'
   obtain⟨v,ws,rfl,g1,g2⟩:=cons1 hr
   simp only[Rel] at g1
   obtain⟨kn,a,cap,rfl,h1,h2,h3,h4⟩:=g1
   split at h
   ·cases h
    cases a with
    |some a=>exact⟨_,ws,rfl,⟨_,rfl,.inr ⟨a,cap,rfl,Nz _,Nz _,.inl rfl⟩⟩,g2⟩
    |none=>
     rcases h4 with h4|⟨h4,_⟩
     ·subst h4;exact⟨_,ws,rfl,⟨_,rfl,.inl ⟨rfl,rfl⟩⟩,g2⟩
     ·cases h4
   ·rename_i n
    obtain⟨hz,h⟩:=cd_some h
    obtain⟨hz,hB⟩:=cd_true hz
    have hB:=ble_true hB
    obtain rfl:=beq_true hz
    split at h
    ·rename_i l hl
     split at h
     ·rename_i xs' hxs
      cases h
      have hcap:cap≠0:=om
      obtain⟨rfl,_⟩:=h4.resolve_left hcap
      rcases Nat.eq_zero_or_pos (wd t) with h0|h0
      ·
       have hl0:l=[]:=by
        cases hb:hd.get id with
        |none=>rw[hb] at hl;cases hl
        |some b=>
         rw[hb] at hl
         cases b with
         |cs el l0 fz=>
          have:=(cut_get (show cut l0 off (Nat.mul (n+1) (wd t))=some l from hl)).1
          rw[h0] at this
          exact List.eq_nil_of_length_eq_zero (by simpa using this)
         |mp es=>cases hl
         |it s p=>cases hl
         |dead=>cases hl
       have hlive:live hd id:=by
        cases hb:hd.get id with
        |none=>rw[hb] at hl;cases hl
        |some b=>exact⟨b,hb,fun hd'=>by rw[hd'] at hb;rw[hb] at hl;cases hl⟩
       subst hl0
       obtain⟨k1,k2⟩:=decRows_rel (t:=t) ih hw (n+1) [] x [] (e.ρ id).1 ((e.ρ id).2+off) hxs (by simp[RelL]) (fun j v hv=>by simp at hv)
       refine⟨_,ws,rfl,⟨_,rfl,.inr ⟨⟨(e.ρ id).1,(e.ρ id).2+off,none⟩,cap,by rw[k1],by rw[k1];omega,by rw[k1];exact Nt hB hlo,.inr ⟨rfl,ho id hlive,k2⟩⟩⟩,g2⟩
      ·obtain⟨hlive,us,k3,k4⟩:=blkCut_rel hs hsub hl (by show 0<(n+1)*wd t;exact Nat.mul_pos om h0)
       obtain⟨k1,k2⟩:=decRows_rel (t:=t) ih hw (n+1) l x us (e.ρ id).1 ((e.ρ id).2+off) hxs k3 k4
       refine⟨_,ws,rfl,⟨_,rfl,.inr ⟨⟨(e.ρ id).1,(e.ρ id).2+off,none⟩,cap,by rw[k1],by rw[k1];omega,by rw[k1];exact Nt hB hlo,.inr ⟨rfl,ho id hlive,k2⟩⟩⟩,g2⟩
     ·cases h
    ·cases h
  ·cases h
 |ptr t ih=>
  intro cs x r vs h hr
  simp only[dec] at h
  split at h
  ·rename_i t' y r'
   split at h
   ·rename_i ht _
    cases h
    obtain⟨v,ws,rfl,g1,g2⟩:=cons1 hr
    simp only[Rel] at g1
    obtain⟨b,o,us,rfl,g3,g4,g5⟩:=g1
    exact⟨_,ws,rfl,⟨b,o,us,rfl,hi.1 _ g3,fun j v hv=>by rw[hw];exact g4 j v hv,castD_rel ht (relT_mono (w':=e2.w) hi (fun b o _=>by rw[hw]) _ _ _ g5)⟩,g2⟩
   ·cases h
  ·rename_i id off r'
   obtain⟨v,ws,rfl,g1,g2⟩:=cons1 hr
   simp only[Rel] at g1
   obtain⟨kn,rfl⟩:=g1
   split at h
   ·rename_i l hl
    split at h
    ·rename_i y hy
     cases h
     rcases Nat.eq_zero_or_pos (wd t) with h0|h0
     ·have hlive:live hd id:=by
       cases hb:hd.get id with
       |none=>rw[hb] at hl;cases hl
       |some b=>exact⟨b,hb,fun hd'=>by rw[hd'] at hb;rw[hb] at hl;cases hl⟩
      have hl0:l=[]:=by
       cases hb:hd.get id with
       |none=>rw[hb] at hl;cases hl
       |some b=>
        rw[hb] at hl
        cases b with
        |cs el l0 fz=>
         have:=(cut_get (show cut l0 off (wd t)=some l from hl)).1
         exact List.eq_nil_of_length_eq_zero (by rw[this,h0])
        |mp es=>cases hl
        |it s p=>cases hl
        |dead=>cases hl
      subst hl0
      obtain⟨us,ws',h1,h2,h3⟩:=ih [] x [] [] hy (by simp[RelL])
      have:us=[]:=by cases us with|nil=>rfl|cons=>cases h1
      subst this
      exact⟨_,ws,rfl,⟨_,_,[],rfl,ho id hlive,fun j v hv=>by simp at hv,h2⟩,g2⟩
     ·obtain⟨hlive,us,k3,k4⟩:=blkCut_rel hs hsub hl h0
      obtain⟨us',ws',h1,h2,h3⟩:=ih l x [] us hy k3
      obtain rfl:=relL0 h3
      rw[List.append_nil] at h1
      subst h1
      exact⟨_,ws,rfl,⟨_,_,us,rfl,ho id hlive,by rw[hw];exact k4,h2⟩,g2⟩
    ·cases h
   ·cases h
  ·cases h
 |clo f t ih=>
  intro cs x r vs h hr
  simp only[dec] at h
  split at h
  ·rename_i g caps r'
   obtain⟨hz,h⟩:=cd_some h
   obtain rfl:=beq_true hz
   obtain⟨v,ws,rfl,g1,g2⟩:=cons1 hr
   simp only[Rel] at g1
   obtain⟨us,ws',rfl,h1,h2⟩:=g1
   have hus:us=#[]:=by have:=relL0 h1;simpa using this
   subst hus
   split at h
   ·rename_i y hy
    cases h
    obtain⟨us',ws'',h3,h4,h5⟩:=ih caps x [] _ hy h2
    obtain rfl:=relL0 h5
    rw[List.append_nil] at h3
    exact⟨_,ws,rfl,⟨ws',rfl,by rw[h3];exact h4⟩,g2⟩
   ·cases h
  ·cases h
end
end Go.Ev
end
noncomputable section
namespace Go.Ev
structure Par where
 ag:Bool
 t:Ty
abbrev denL (ps:List Par):Type:=List.rec (motive:=fun _=>Type) Unit (fun p _ r=>den p.t×r) ps
def headA (l:List AV):AV:=List.rec .j (fun x _ _=>x) l
def encP (ag:Bool) (t:Ty) (x:den t):AV:=cd ag (.ag (tc t x)) (headA (tc t x))
def encL (ps:List Par):denL ps→List AV:=
 List.rec (motive:=fun ps=>denL ps→List AV) (fun _=>[]) (fun p _ ih x=>encP p.ag p.t x.1::ih x.2) ps
def tupA (vs:List AV):AV:=match vs with
 |[v]=>v
 |vs=>.tu vs
def encR (rs:List Par) (y:denL rs):AV:=tupA (encL rs y)
def decP (hd:H) (ag:Bool) (t:Ty) (x:AV):Option (den t):=
 match(match ag,x with
  |true,.ag cs=>dec hd t cs
  |true,_=>none
  |false,x=>dec hd t [x]) with
 |some (y,[])=>some y
 |_=>none
def decL (hd:H) (ps:List Par):List AV→Option (denL ps):=
 List.rec (motive:=fun ps=>List AV→Option (denL ps)) (fun xs=>match xs with|[]=>some ()|_=>none)
  (fun p _ ih xs=>match xs with
   |x::r=>match decP hd p.ag p.t x with
    |some y=>match ih r with
     |some ys=>some (y,ys)
     |none=>none
    |none=>none
   |[]=>none) ps
def relP (e:Env) (ag:Bool) (t:Ty) (x:den t) (v:Value):Prop:=match ag with
 |true=>∃vs,v=.agg vs∧relT (mm e) e.w t x vs.toList
 |false=>relT (mm e) e.w t x [v]
theorem tc_single {t:Ty}{x:den t} (h:wd t=1):tc t x=[headA (tc t x)]:=by
 have:=tc_len t x
 rw[h] at this
 match tc t x,this with
 |[y],_=>rfl
 |[],h=>simp at h
 |_::_::_,h=>simp at h
theorem relP_rel {e:Env}{ag:Bool}{t:Ty}{x:den t}{v:Value} (h:relP e ag t x v):Rel e (encP ag t x) v:=by
 cases ag with
 |true=>
  obtain⟨vs,rfl,h⟩:=h
  show Rel e (.ag (tc t x)) _
  simp only[Rel]
  exact⟨tc_one t x,vs,rfl,relT_relL t x _ h⟩
 |false=>
  have h:relT (mm e) e.w t x [v]:=h
  have hl:=relT_len t x _ h
  have:=relT_relL t x _ h
  rw[tc_single (by simpa using hl.symm)] at this
  show Rel e (headA (tc t x)) v
  simp only[RelL] at this
  exact this.1
theorem rel_relP {e:Env}{ag:Bool}{t:Ty}{x:den t}{v:Value} (hw:ag=false→wd t=1) (h:Rel e (encP ag t x) v):relP e ag t x v:=by
 cases ag with
 |true=>
  have h':Rel e (.ag (tc t x)) v:=h
  simp only[Rel] at h'
  obtain⟨_,vs,hv,h2⟩:=h'
  exact⟨vs,hv,relL_relT t x _ h2⟩
 |false=>
  have h:Rel e (headA (tc t x)) v:=h
  show relT (mm e) e.w t x [v]
  refine relL_relT t x _ ?_
  rw[tc_single (hw rfl)]
  simp only[RelL];exact⟨h,trivial⟩
section
variable {e e2:Env}{hd:H}
theorem decP_rel (hs:St e) (hw:e2.w=e.w) (hi:Mle (mm e) (mm e2)) (hsub:∀id b,hd.get id=some b→e.h.get id=some b) (ho:∀id,live hd id→Imm e2 (e.ρ id).1) (hlo:1073741824≤e2.F.B)
 {ag:Bool}{t:Ty}{x:AV}{y:den t}{v:Value} (h:decP hd ag t x=some y) (hr:Rel e x v):relP e2 ag t y v:=by
 unfold decP at h
 split at h
 ·rename_i y' hq
  cases h
  cases ag with
  |true=>
   cases x<;>simp only[reduceCtorEq] at hq
   rename_i cs
   simp only[Rel] at hr
   obtain⟨_,vs,rfl,hr⟩:=hr
   obtain⟨us,ws,h1,h2,h3⟩:=dec_rel hs hw hi hsub ho hlo t cs _ _ _ hq hr
   obtain rfl:=relL0 h3
   rw[List.append_nil] at h1
   exact⟨vs,rfl,by rw[h1];exact h2⟩
  |false=>
   have hq:dec hd t [x]=some (y,[]):=hq
   obtain⟨us,ws,h1,h2,h3⟩:=dec_rel hs hw hi hsub ho hlo t [x] _ _ [v] hq (by simp only[RelL];exact⟨hr,trivial⟩)
   obtain rfl:=relL0 h3
   rw[List.append_nil] at h1
   show relT _ _ t y [v]
   rw[h1];exact h2
 ·cases h
theorem decL_cons (hd:H) (p:Par) (ps:List Par) (x:AV) (r:List AV):decL hd (p::ps) (x::r)=(match decP hd p.ag p.t x with
        |some y=>match decL hd ps r with
         |some ys=>some (y,ys)
         |none=>none
        |none=>none):=rfl
theorem decL_nil (hd:H) (p:Par) (ps:List Par):decL hd (p::ps) []=none:=rfl
theorem encL_cons (p:Par) (ps:List Par) (x:denL (p::ps)):encL (p::ps) x=encP p.ag p.t x.1::encL ps x.2:=rfl
theorem decL_rel (hs:St e) (hw:e2.w=e.w) (hi:Mle (mm e) (mm e2)) (hsub:∀id b,hd.get id=some b→e.h.get id=some b) (ho:∀id,live hd id→Imm e2 (e.ρ id).1) (hlo:1073741824≤e2.F.B):
 ∀(ps:List Par) (xs:List AV) (y:denL ps) (vs:List Value),decL hd ps xs=some y→RelL e xs vs→RelL e2 (encL ps y) vs
 |[],xs,y,vs,h,hr=>by
  cases xs with
  |nil=>obtain rfl:=relL0 hr;show RelL e2 [] [];simp[RelL]
  |cons=>cases h
 |p::ps,[],y,vs,h,_=>by rw[decL_nil] at h;cases h
 |p::ps,x::xs,y,vs,h,hr=>by
  rw[decL_cons] at h
  cases vs with
  |nil=>simp[RelL] at hr
  |cons v vs=>
   simp only[RelL] at hr
   split at h
   ·rename_i y1 hy
    split at h
    ·rename_i ys hys
     cases h
     rw[encL_cons]
     simp only[RelL]
     exact⟨relP_rel (decP_rel hs hw hi hsub ho hlo hy hr.1),decL_rel hs hw hi hsub ho hlo ps xs ys vs hys hr.2⟩
    ·cases h
   ·cases h
end
def flatB (t:Ty):Bool:=Ty.rec (fun _=>true) true true true (fun _ _ x y=>cd x y false) (fun _ _=>false) (fun _ _=>false) (fun _ _ _=>false) t
def scal1 (t:Ty):Bool:=Ty.rec (fun _=>true) true true false (fun _ _ _ _=>false) (fun _ _=>false) (fun _ _=>false) (fun _ _ _=>false) t
def scalR (rs:List Par):Bool:=List.rec true (fun p _ ih=>cd (cd p.ag (flatB p.t) (scal1 p.t)) ih false) rs
theorem relT_flat {m m':Mm}{w w':World}:∀(t:Ty) (x:den t) (vs:List Value),flatB t=true→relT m w t x vs→relT m' w' t x vs
 |.int _,_,_,_,h=>h
 |.bool,_,_,_,h=>h
 |.str,_,_,_,h=>h
 |.unit,_,_,_,h=>h
 |.pair a b,x,vs,hf,h=>by
  have hf:cd (flatB a) (flatB b) false=true:=hf
  cases ha:flatB a with
  |false=>rw[ha] at hf;cases hf
  |true=>
   rw[ha] at hf
   obtain⟨us,ws,h1,h2,h3⟩:=h
   exact⟨us,ws,h1,relT_flat a _ _ ha h2,relT_flat b _ _ hf h3⟩
 |.sl _,_,_,hf,_=>by cases hf
 |.ptr _,_,_,hf,_=>by cases hf
 |.clo _ _,_,_,hf,_=>by cases hf
def Fresh (e:Env):Prop:=e.h=H0∧(∀id,(e.ρ id).2=1)∧e.F.lo=0
def KOk (P:Program) (G:Gs) (f:Nat) (ps rs:List Par) (x:denL ps) (y:denL rs):Prop:=
 ∀e vs,Fresh e→St e→GRel G e→RelL e (encL ps x) vs→Does P f vs.toArray e.w (fun cv w'=>∃e',e'.w=w'∧St e'∧Ext e e'∧Rel e' (encR rs y) cv)
structure Con where
 f:Nat
 ps:List Par
 rs:List Par
 F:denL ps→Option (denL rs)
def wfR:List Par→Bool
 |[]=>true
 |p::ps=>(p.ag||Nat.beq (wd p.t) 1)&&wfR ps
def ConOk (P:Program) (G:Gs) (c:Con):Prop:=wfR c.rs=true∧∀x y,c.F x=some y→KOk P G c.f c.ps c.rs x y
def finC (rs:List Par) (h:H) (o:Option (denL rs)):R:=match o with
 |some y=>.ok (encR rs y) h
 |none=>.no
def callC (c:Con) (args:List AV) (h:H):R:=match decL H0 c.ps args with
 |some x=>finC c.rs h (c.F x)
 |none=>match decL h c.ps args with
  |some x=>cd (scalR c.rs) (finC c.rs h (c.F x)) .no
  |none=>.no
def callOf (L:List Con):CallF:=fun f args h=>List.rec .no (fun c _ ih=>cd (Nat.beq c.f f) (callC c args h) ih) L
theorem enc_mono {e e2:Env} (hw:e2.w=e.w) (hi:Mle (mm e) (mm e2)):∀{rs:List Par}{y:denL rs}{vs:List Value},wfR rs=true→RelL e (encL rs y) vs→RelL e2 (encL rs y) vs
 |[],y,vs,_,h=>by obtain rfl:=relL0 (show RelL e [] vs from h);show RelL e2 [] [];simp[RelL]
 |p::ps,y,vs,hwf,h=>by
  rw[encL_cons] at h⊢
  simp only[wfR,Bool.and_eq_true,Bool.or_eq_true] at hwf
  cases vs with
  |nil=>simp[RelL] at h
  |cons v vs=>
   simp only[RelL] at h⊢
   refine⟨?_,enc_mono hw hi hwf.2 h.2⟩
   have hp:=rel_relP (ag:=p.ag) (t:=p.t) (x:=y.1) (fun ha=>by
    rcases hwf.1 with h|h
    ·rw[ha] at h;cases h
    ·exact Nq h) h.1
   refine relP_rel ?_
   cases hag:p.ag with
   |true=>rw[hag] at hp;obtain⟨us,h1,h2⟩:=hp;exact⟨us,h1,relT_mono (w':=e2.w) hi (fun b o _=>by rw[hw]) _ _ _ h2⟩
   |false=>rw[hag] at hp;exact relT_mono (w':=e2.w) hi (fun b o _=>by rw[hw]) _ _ _ hp
theorem tupA_mono {e e2:Env}{vs:List AV}{v:Value} (hm:∀us,RelL e vs us→RelL e2 vs us) (h:Rel e (tupA vs) v):Rel e2 (tupA vs) v:=by
 match vs with
 |[x]=>
  have:=hm [v] (by simp only[RelL];exact⟨h,trivial⟩)
  simp only[RelL] at this;exact this.1
 |[]=>
  replace h:Rel e (.tu []) v:=h
  show Rel e2 (.tu []) v
  simp only[Rel] at h⊢
  obtain⟨us,hv,h2⟩:=h
  exact⟨us,hv,hm _ h2⟩
 |x::y::r=>
  replace h:Rel e (.tu (x::y::r)) v:=h
  show Rel e2 (.tu (x::y::r)) v
  simp only[Rel] at h⊢
  obtain⟨us,hv,h2⟩:=h
  exact⟨us,hv,hm _ h2⟩
theorem encR_mono {e e2:Env} (hw:e2.w=e.w) (hi:Mle (mm e) (mm e2)){rs:List Par}{y:denL rs}{v:Value} (hwf:wfR rs=true) (h:Rel e (encR rs y) v):Rel e2 (encR rs y) v:=
 tupA_mono (fun _=>enc_mono hw hi hwf) h
theorem scal_mono {e e2:Env}:∀{rs:List Par}{y:denL rs}{vs:List Value},scalR rs=true→RelL e (encL rs y) vs→RelL e2 (encL rs y) vs
 |[],y,vs,_,h=>by obtain rfl:=relL0 (show RelL e [] vs from h);show RelL e2 [] [];simp[RelL]
 |⟨ag,t⟩::ps,y,vs,hs,h=>by
  rw[encL_cons] at h⊢
  have hs:cd (cd ag (flatB t) (scal1 t)) (scalR ps) false=true:=hs
  cases vs with
  |nil=>simp[RelL] at h
  |cons v vs=>
   simp only[RelL] at h⊢
   cases ag with
   |true=>
    have hs:cd (flatB t) (scalR ps) false=true:=hs
    cases hf:flatB t with
    |false=>rw[hf] at hs;cases hs
    |true=>
     rw[hf] at hs
     refine⟨?_,scal_mono (show scalR ps=true from hs) h.2⟩
     have h1:Rel e (.ag (tc t y.1)) v:=h.1
     show Rel e2 (.ag (tc t y.1)) v
     simp only[Rel] at h1⊢
     obtain⟨g1,us,g2,g3⟩:=h1
     exact⟨g1,us,g2,relT_relL t y.1 us.toList (relT_flat t y.1 us.toList hf (relL_relT t y.1 us.toList g3))⟩
   |false=>
    have hs:cd (scal1 t) (scalR ps) false=true:=hs
    cases t with
    |int k=>
     refine⟨?_,scal_mono (show scalR ps=true from hs) h.2⟩
     have h1:Rel e (.i k y.1) v:=h.1
     show Rel e2 (.i k y.1) v
     simpa only[Rel] using h1
    |bool=>
     refine⟨?_,scal_mono (show scalR ps=true from hs) h.2⟩
     have h1:Rel e (.b y.1) v:=h.1
     show Rel e2 (.b y.1) v
     simpa only[Rel] using h1
    |str=>
     refine⟨?_,scal_mono (show scalR ps=true from hs) h.2⟩
     have h1:Rel e (.s (U (α:=Nat) y.1) y.1) v:=h.1
     show Rel e2 (.s (U (α:=Nat) y.1) y.1) v
     simpa only[Rel] using h1
    |unit=>cases hs
    |pair a b=>cases hs
    |sl t=>cases hs
    |ptr t=>cases hs
    |clo f t=>cases hs
theorem H0_get (id:Id):H0.get id=none:=by show T.get id .e=none;rw[T.get_e]
section
variable {P:Program}{G:Gs}
theorem Does.mono {f:FuncId}{args:Array Value}{w:World}{R R':Value→World→Prop} (h:Does P f args w R) (hi:∀v w',R v w'→R' v w'):Does P f args w R':=by
 rcases h with ⟨v,w',h1,h2⟩|⟨h1,h2⟩
 ·exact .inl ⟨v,w',h1,hi v w' h2⟩
 ·exact .inr ⟨h1,h2.mono (fun _ w' ⟨v,he,hR⟩=>⟨v,he,hi v w' hR⟩)⟩
theorem call_core {f:Nat}{ps rs:List Par}{x:denL ps}{y:denL rs}{e:Env}{vs:List Value} (hs:St e) (hg:GRel G e) (hk:KOk P G f ps rs x y)
 (F:Nat→Prop) (hF:∀b,F b→b<e.w.heap.size) (hF2:∀b,Imm e b→¬F b)
 (hrel:RelL ⟨fun _=>(0,1),H0,e.w,⟨F,0,e.F.B⟩⟩ (encL ps x) vs)
 (hfin:∀(e1:Env) (cv:Value),St e1→Ext ⟨fun _=>(0,1),H0,e.w,⟨F,0,e.F.B⟩⟩ e1→Rel e1 (encR rs y) cv→Rel ⟨e.ρ,e.h,e1.w,e.F⟩ (encR rs y) cv):
 Does P f vs.toArray e.w (fun cv w'=>∃e',e'.w=w'∧e'.h=e.h∧St e'∧Ext e e'∧Rel e' (encR rs y) cv):=by
 let e0:Env:=⟨fun _=>(0,1),H0,e.w,⟨F,0,e.F.B⟩⟩
 have hno:∀id,e0.h.get id=none:=H0_get
 have hkn:∀id,¬known e0 id:=fun id h=>by simp[known,e0] at h
 have hown0:∀b,¬Own e0 b:=fun b ⟨id,⟨_,hb,_⟩,_⟩=>by rw[hno] at hb;cases hb
 have hs0:St e0:={
  kn:=fun id h=>absurd h (hkn id)
  dk:=fun id b hb=>by rw[hno] at hb;cases hb
  lo:=Nr 0
  blk:=fun id b hb=>by rw[hno] at hb;cases hb
  inj:=fun id _ ⟨b,hb,_⟩=>by rw[hno] at hb;cases hb
  fr:=fun b hb=>⟨hF b hb,hown0 b⟩}
 have hi0:Mle (mm e) (mm e0):=⟨fun b (hb:Imm e b)=>⟨hb.1,hF2 b hb,hown0 b⟩,Nr _⟩
 have hg0:GRel G e0:=⟨hg.1,fun g q hq=>by
  obtain⟨h1,h2⟩:=hg.2.1 g q hq
  refine⟨?_,h2⟩
  simp only[Rel] at h1⊢
  obtain⟨b,o,us,hv,h3,h4,h5⟩:=h1
  exact⟨b,o,us,hv,hi0.1 b h3,h4,relT_mono hi0 (fun b o _=>rfl) _ _ _ h5⟩,fun g hq=>by
  obtain⟨m,h1⟩:=hg.2.2.1 g hq
  refine⟨m,?_⟩
  simp only[Rel] at h1⊢
  obtain⟨b,o,us,hv,h3,h4,h5⟩:=h1
  exact⟨b,o,us,hv,hi0.1 b h3,h4,relT_mono hi0 (fun b o _=>rfl) _ _ _ h5⟩,fun g hq=>let⟨h1,v,h2,h3⟩:=hg.2.2.2 g hq;⟨by simp only[Rel] at h1⊢;obtain⟨b,o,us,hv,h4,h5,h6⟩:=h1;exact⟨b,o,us,hv,hi0.1 b h4,h5,h6⟩,v,h2,h3⟩⟩
 refine Does.mono (hk e0 vs ⟨rfl,fun _=>rfl,rfl⟩ hs0 hg0 hrel) ?_
 rintro cv w' ⟨e1,hw1,hs1,hx1,hr1⟩
 have hlt:∀id,live e.h id→(e.ρ id).1<e.w.heap.size:=fun id h=>hs.lt h
 let e':Env:=⟨e.ρ,e.h,w',e.F⟩
 have hkeep:∀b,b<e.w.heap.size→w'.heap[b]? =e.w.heap[b]? :=fun b hb=>by
  have:=hx1.keep b hb (hown0 b)
  rw[hw1] at this;exact this
 have hx:Ext e e':={
  next:=Nr _
  kn:=fun _ h=>h
  ren:=fun _ _=>rfl
  fr:=rfl
  qt:=by have:=hx1.qt;rw[hw1] at this;exact this
  heap:=by have:=hx1.heap;rw[hw1] at this;exact this
  keep:=fun b hb _=>hkeep b hb
  size:=fun b hb=>by have:=hx1.size b hb;rw[hw1] at this;exact this
  own:=fun _ _ h=>h
  pres:=fun _ b h=>⟨b,h⟩
  newk:=fun _ h=>.inl h}
 have hs':St e':={
  kn:=hs.kn
  dk:=hs.dk
  lo:=hs.lo
  blk:=fun id b hb=>by
   by_cases hd:b=.dead
   ·subst hd;trivial
   ·exact BlkRel.ext hx (hs.dk id b hb) (hkeep _ (hlt id ⟨b,hb,hd⟩)) b (hs.blk id b hb)
  inj:=hs.inj
  fr:=fun b hb=>⟨Nl (hs.fr b hb).1 hx.heap,(hs.fr b hb).2⟩}
 refine⟨e',rfl,rfl,hs',hx,?_⟩
 have:=hfin e1 cv hs1 hx1 hr1
 rw[hw1] at this
 exact this
theorem finC_inv {rs:List Par}{h h':H}{o:Option (denL rs)}{v:AV} (hr:finC rs h o=.ok v h'):∃y,o=some y∧v=encR rs y∧h'=h:=by
 unfold finC at hr
 split at hr
 ·rename_i y
  injection hr with h1 h2
  exact⟨y,rfl,h1.symm,h2.symm⟩
 ·cases hr
theorem callC_ok (hlo:1073741824≤G.B){c:Con} (hc:ConOk P G c){args:List AV}{r:AV}{h':H}{e:Env}{vs:List Value} (hr:callC c args e.h=.ok r h') (hs:St e) (hg:GRel G e) (hrel:RelL e args vs):
 Does P c.f vs.toArray e.w (fun v w'=>∃e',e'.w=w'∧e'.h=h'∧St e'∧Ext e e'∧Rel e' r v):=by
 unfold callC at hr
 split at hr
 ·rename_i x hx
  obtain⟨y,hy,rfl,rfl⟩:=finC_inv hr
  have hown0:∀(F:Fix) b,¬Own ⟨fun _=>(0,1),H0,e.w,F⟩ b:=fun F b ⟨id,⟨_,hb,_⟩,_⟩=>by rw[H0_get] at hb;cases hb
  refine call_core hs hg (hc.2 x y hy) (fun b=>e.F.f b∨Own e b) (fun b hb=>Or.elim hb (fun h=>(hs.fr b h).1) (fun⟨id,hl,he⟩=>he▸hs.lt hl)) (fun b hb h=>Or.elim h hb.2.1 hb.2.2) ?_ ?_
  ·refine decL_rel (e2:=⟨fun _=>(0,1),H0,e.w,⟨fun b=>e.F.f b∨Own e b,0,e.F.B⟩⟩) hs rfl ⟨fun b (hb:Imm e b)=>⟨hb.1,fun h=>Or.elim h hb.2.1 hb.2.2,hown0 _ b⟩,Nr _⟩ (fun id b hb=>?_) (fun id ⟨b,hb,_⟩=>?_) (by show 1073741824≤e.F.B;rw[hg.1];exact hlo) c.ps args x vs hx hrel
   ·rw[H0_get] at hb;cases hb
   ·rw[H0_get] at hb;cases hb
  ·intro e1 cv hs1 hx1 hr1
   refine encR_mono (e:=e1) (e2:=⟨e.ρ,e.h,e1.w,e.F⟩) rfl ⟨fun b (hb:Imm e1 b)=>⟨hb.1,fun h=>?_,fun h=>?_⟩,by show e1.F.B≤e.F.B;rw[hx1.fr];exact Nr _⟩ hc.1 hr1
   ·exact hb.2.1 (by rw[hx1.fr];exact Or.inl h)
   ·exact hb.2.1 (by rw[hx1.fr];exact Or.inr h)
 ·split at hr
  ·rename_i x hx
   cases hsc:scalR c.rs with
   |false=>rw[hsc] at hr;cases hr
   |true=>
    rw[hsc] at hr
    obtain⟨y,hy,rfl,rfl⟩:=finC_inv (show finC c.rs e.h (c.F x)=.ok r h' from hr)
    have hown0:∀(F:Fix) b,¬Own ⟨fun _=>(0,1),H0,e.w,F⟩ b:=fun F b ⟨id,⟨_,hb,_⟩,_⟩=>by rw[H0_get] at hb;cases hb
    refine call_core hs hg (hc.2 x y hy) e.F.f (fun b hb=>(hs.fr b hb).1) (fun b hb=>hb.2.1) ?_ ?_
    ·refine decL_rel (e2:=⟨fun _=>(0,1),H0,e.w,⟨e.F.f,0,e.F.B⟩⟩) hs rfl ⟨fun b (hb:Imm e b)=>⟨hb.1,hb.2.1,hown0 _ b⟩,Nr _⟩ (fun id b hb=>hb) (fun id hl=>⟨hs.lt hl,fun h=>(hs.fr _ h).2 ⟨id,hl,rfl⟩,hown0 _ _⟩) (by show 1073741824≤e.F.B;rw[hg.1];exact hlo) c.ps args x vs hx hrel
    ·intro e1 cv hs1 hx1 hr1
     exact tupA_mono (fun _=>scal_mono hsc) hr1
  ·cases hr
theorem callOf_ok (hlo:1073741824≤G.B):∀{L:List Con},(∀c∈L,ConOk P G c)→CallOK P G (callOf L)
 |[],_=>fun f args r h' e vs hr=>by cases hr
 |c::L,h=>fun f args r h' e vs hr hs hg hrel=>by
  have hr:cd (Nat.beq c.f f) (callC c args e.h) (callOf L f args e.h)=.ok r h':=hr
  cases hb:Nat.beq c.f f with
  |true=>
   rw[hb] at hr
   obtain rfl:=Nq hb
   exact callC_ok hlo (h c (by simp)) hr hs hg hrel
  |false=>
   rw[hb] at hr
   exact callOf_ok hlo (L:=L) (fun c hc=>h c (by simp[hc])) f args r h' e vs hr hs hg hrel
end
end Go.Ev
end
noncomputable section
namespace Go.Ev
def mkFr (L:List (List Bool×AV)):T AV:=List.rec .e (fun q _ t=>T.set q.1 q.2 t) L
def hpT (bs:List (Option Blk)):Nat→T Blk:=
 List.rec (motive:=fun _=>Nat→T Blk) (fun _=>.e) (fun b _ ih k=>Option.rec (ih (Nat.succ k)) (fun b=>T.set (path k) b (ih (Nat.succ k))) b) bs
def hpH (n:Nat) (bs:List (Option Blk)):H:=⟨n,hpT bs 0⟩
def heapL (h:H) (n:Nat):List (Option Blk):=Nat.rec (motive:=fun _=>Nat→List (Option Blk)) (fun _=>[]) (fun _ ih k=>h.get (path k)::ih (Nat.succ k)) n 0
mutual
def avOk (n:Nat):AV→Prop
 |.p id _=>unpath id<n
 |.sl id _ _ _ _ _=>unpath id<n
 |.m id=>unpath id<n
 |.f _ a b=>avOkL n a∧avOkL n b
 |.ifc _ x=>avOk n x
 |.ag cs=>avOkL n cs
 |.tu cs=>avOkL n cs
 |_=>True
def avOkL (n:Nat):List AV→Prop
 |[]=>True
 |x::xs=>avOk n x∧avOkL n xs
end
def blkOk (n:Nat):Option Blk→Prop
 |some (.cs _ l _)=>avOkL n l
 |some (.mp es)=>∀q∈es,avOk n q.1∧avOk n q.2
 |_=>True
def blksOk (n:Nat):List (Option Blk)→Prop
 |[]=>True
 |b::bs=>blkOk n b∧blksOk n bs
def Holds (fr:T AV):List (List Bool×AV)→Prop
 |[]=>True
 |q::L=>getV fr q.1=q.2∧Holds fr L
def LOk (n:Nat):List (List Bool×AV)→Prop
 |[]=>True
 |q::L=>avOk n q.2∧LOk n L
theorem avOkL_mem {n:Nat}:∀{l:List AV},avOkL n l→∀x∈l,avOk n x
 |[],_,x,h=>by cases h
 |y::l,h,x,hx=>by
  simp only[avOkL] at h
  rcases List.mem_cons.1 hx with rfl|hx
  ·exact h.1
  ·exact avOkL_mem h.2 x hx
theorem unpath_bij:∀(l:List Bool),path (unpath l)=l
 |[]=>rfl
 |b::l=>by
  have ih:=unpath_bij l
  rw[path_eq] at ih⊢
  have hf:∀(f k:Nat),k<f→pathF f k=path k:=by
   intro f
   induction f with
   |zero=>intro k h;omega
   |succ f ih=>
    intro k h
    rw[path_eq]
    simp only[pathF]
    by_cases hk:k=0
    ·simp[hk]
    ·simp only[hk,if_false]
     congr 1
     rw[ih _ om]
     rw[path_eq]
     have:∀(a b c:Nat),c<a→c<b→pathF a c=pathF b c:=by
      intro a
      induction a with
      |zero=>intro b c h;omega
      |succ a iha=>
       intro b c h1 h2
       cases b with
       |zero=>omega
       |succ b=>
        simp only[pathF]
        by_cases hc:c=0
        ·simp[hc]
        ·simp only[hc,if_false];rw[iha b _ om om]
     exact this _ _ _ om om
  have hu:unpath (b::l)=2*unpath l+(if b then 1 else 2):=rfl
  rw[hu]
  have hne:2*unpath l+(if b then 1 else 2)≠0:=by cases b<;>simp
  simp only[pathF,hne,if_false]
  have hd:(2*unpath l+(if b then 1 else 2) - 1) / 2=unpath l:=by cases b<;>simp<;>omega
  rw[hd,hf _ _ (by cases b<;>simp<;>omega)]
  rw[path_eq,ih]
  cases b<;>simp<;>omega
theorem getV_mkFr {fr:T AV}:∀{L:List (List Bool×AV)},Holds fr L→∀p,getV (mkFr L) p=.j∨getV (mkFr L) p=getV fr p
 |[],_,p=>.inl (getV_e p)
 |q::L,h,p=>by
  have h1:getV (mkFr (q::L)) p=getV (T.set q.1 q.2 (mkFr L)) p:=rfl
  rw[h1,getV_set]
  by_cases hp:p=q.1
  ·rw[if_pos hp,hp];exact .inr h.1.symm
  ·rw[if_neg hp];exact getV_mkFr h.2 p
theorem mkFr_rel {e:Env}{fr:T AV}{tmps:Array Value}{L:List (List Bool×AV)} (hf:FrRel e fr tmps) (h:Holds fr L):FrRel e (mkFr L) tmps:=by
 intro k
 rcases getV_mkFr h (path k) with h|h
 ·rw[h];simp[Rel]
 ·rw[h];exact hf k
theorem hpT_get:∀(bs:List (Option Blk)) (k j:Nat),T.get (path j) (hpT bs k)=if k≤j then(bs[j - k]?).join else none
 |[],k,j=>by
  show T.get (path j) .e=_
  rw[T.get_e];simp
 |b::bs,k,j=>by
  have ih:=hpT_get bs (k+1) j
  cases b with
  |none=>
   show T.get (path j) (hpT bs (k+1))=_
   rw[ih]
   by_cases h:k+1≤j
   ·rw[if_pos h,if_pos om,show j - k=(j - (k+1))+1 by omega];simp
   ·rw[if_neg h]
    by_cases h2:k≤j
    ·rw[if_pos h2,show j - k=0 by omega];simp
    ·rw[if_neg h2]
  |some b=>
   show T.get (path j) (T.set (path k) b (hpT bs (k+1)))=_
   rw[T.get_set,ih]
   by_cases h0:j=k
   ·subst h0;simp
   ·rw[if_neg (fun h=>h0 (path_inj h))]
    by_cases h:k+1≤j
    ·rw[if_pos h,if_pos om,show j - k=(j - (k+1))+1 by omega];simp
    ·rw[if_neg h,if_neg om]
theorem hpH_get (n:Nat) (bs:List (Option Blk)) (j:Nat):(hpH n bs).get (path j)=(bs[j]?).join:=by
 show T.get (path j) (hpT bs 0)=_
 rw[hpT_get];simp
theorem heapL_get (h:H) (n:Nat):∀j,(heapL h n)[j]? =if j<n then some (h.get (path j)) else none:=by
 have:∀n k j,(Nat.rec (motive:=fun _=>Nat→List (Option Blk)) (fun _=>[]) (fun _ ih k=>h.get (path k)::ih (Nat.succ k)) n k:List (Option Blk))[j]? =if j<n then some (h.get (path (k+j))) else none:=by
  intro n
  induction n with
  |zero=>intro k j;show([]:List (Option Blk))[j]? =_;simp
  |succ n ih=>
   intro k j
   cases j with
   |zero=>simp
   |succ j=>
    show(Nat.rec (motive:=fun _=>Nat→List (Option Blk)) (fun _=>[]) (fun _ ih k=>h.get (path k)::ih (Nat.succ k)) n (k+1):List (Option Blk))[j]? =_
    rw[ih]
    by_cases hj:j<n
    ·rw[if_pos hj,if_pos om];congr 3;omega
    ·rw[if_neg hj,if_neg om]
 intro j
 have:=this n 0 j
 rw[Nat.zero_add] at this
 exact this
def cutE (e:Env) (n:Nat) (h:H):Env:=⟨fun id=>if unpath id<n then e.ρ id else(0,1),h,e.w,e.F⟩
section
variable {e:Env}{n:Nat}{h:H}
theorem cutE_live (hh:∀id b,h.get id=some b→unpath id<n∧e.h.get id=some b){id:Id} (hl:live (cutE e n h).h id):live e.h id∧unpath id<n:=by
 obtain⟨b,hb,hd⟩:=hl
 obtain⟨h1,h2⟩:=hh id b hb
 exact⟨⟨b,h2,hd⟩,h1⟩
theorem cutE_own (hh:∀id b,h.get id=some b→unpath id<n∧e.h.get id=some b){b:Nat} (ho:Own (cutE e n h) b):Own e b:=by
 obtain⟨id,hl,he⟩:=ho
 obtain⟨h1,h2⟩:=cutE_live hh hl
 refine⟨id,h1,?_⟩
 have:(cutE e n h).ρ id=e.ρ id:=if_pos h2
 rw[this] at he;exact he
theorem cutE_imm (hh:∀id b,h.get id=some b→unpath id<n∧e.h.get id=some b){b:Nat} (hi:Imm e b):Imm (cutE e n h) b:=⟨hi.1,hi.2.1,fun ho=>hi.2.2 (cutE_own hh ho)⟩
mutual
theorem Rel.cutE (hh:∀id b,h.get id=some b→unpath id<n∧e.h.get id=some b):∀(x:AV) (v:Value),avOk n x→Rel e x v→Rel (Ev.cutE e n h) x v
 |.i ..,_,_,hr=>by simpa only[Rel] using hr
 |.b ..,_,_,hr=>by simpa only[Rel] using hr
 |.s ..,_,_,hr=>by simpa only[Rel] using hr
 |.v ..,_,_,hr=>by simpa only[Rel] using hr
 |.p id off,v,ha,hr=>by
  simp only[Rel] at hr⊢
  have hρ:(Ev.cutE e n h).ρ id=e.ρ id:=if_pos (by simpa only[avOk] using ha)
  simp only[known,hρ];exact hr
 |.sl id off sz k lo ex,v,ha,hr=>by
  simp only[Rel] at hr⊢
  have hρ:(Ev.cutE e n h).ρ id=e.ρ id:=if_pos (by simpa only[avOk] using ha)
  simp only[known,hρ];exact hr
 |.em,_,_,hr=>by simpa only[Rel] using hr
 |.isl t xs,v,_,hr=>by
  simp only[Rel] at hr⊢
  exact relT_mono (m:=mm e) (m':=mm (Ev.cutE e n h)) ⟨fun b (hb:Imm e b)=>cutE_imm hh hb,Nr _⟩ (fun b o _=>rfl) _ _ _ hr
 |.ip t x off,v,_,hr=>by
  simp only[Rel] at hr⊢
  obtain⟨b,o,us,hv,hm,hc,hr⟩:=hr
  exact⟨b,o,us,hv,cutE_imm hh hm,hc,relT_mono (m:=mm e) (m':=mm (Ev.cutE e n h)) ⟨fun b (hb:Imm e b)=>cutE_imm hh hb,Nr _⟩ (fun b o _=>rfl) _ _ _ hr⟩
 |.f fn a b,v,ha,hr=>by
  simp only[Rel] at hr⊢
  simp only[avOk] at ha
  obtain⟨vs,ws,hv,h1,h2⟩:=hr
  exact⟨vs,ws,hv,RelL.cutE hh _ _ ha.1 h1,RelL.cutE hh _ _ ha.2 h2⟩
 |.ifc t x,v,ha,hr=>by
  simp only[Rel] at hr⊢
  simp only[avOk] at ha
  obtain⟨u,hv,hu⟩:=hr
  exact⟨u,hv,Rel.cutE hh _ _ ha hu⟩
 |.ag cs,v,ha,hr=>by
  simp only[Rel] at hr⊢
  simp only[avOk] at ha
  obtain⟨h1,vs,hv,h2⟩:=hr
  exact⟨h1,vs,hv,RelL.cutE hh _ _ ha h2⟩
 |.tu cs,v,ha,hr=>by
  simp only[Rel] at hr⊢
  simp only[avOk] at ha
  obtain⟨vs,hv,h2⟩:=hr
  exact⟨vs,hv,RelL.cutE hh _ _ ha h2⟩
 |.m id,v,ha,hr=>by
  simp only[Rel] at hr⊢
  have hρ:(Ev.cutE e n h).ρ id=e.ρ id:=if_pos (by simpa only[avOk] using ha)
  simp only[known,hρ];exact hr
 |.j,_,_,_=>by simp[Rel]
theorem RelL.cutE (hh:∀id b,h.get id=some b→unpath id<n∧e.h.get id=some b):∀(xs:List AV) (vs:List Value),avOkL n xs→RelL e xs vs→RelL (Ev.cutE e n h) xs vs
 |[],[],_,_=>by simp[RelL]
 |[],_::_,_,hr=>by simp[RelL] at hr
 |_::_,[],_,hr=>by simp[RelL] at hr
 |x::xs,v::vs,ha,hr=>by
  simp only[RelL] at hr⊢
  simp only[avOkL] at ha
  exact⟨Rel.cutE hh _ _ ha.1 hr.1,RelL.cutE hh _ _ ha.2 hr.2⟩
end
theorem EntRel.cutE (hh:∀id b,h.get id=some b→unpath id<n∧e.h.get id=some b):∀(es:List (AV×AV)) (ms:List MapEntry),(∀q∈es,avOk n q.1∧avOk n q.2)→EntRel e es ms→EntRel (Ev.cutE e n h) es ms
 |[],[],_,_=>trivial
 |[],_::_,_,hr=>hr.elim
 |(_,_)::_,[],_,hr=>hr.elim
 |(k,v)::es,m::ms,ha,hr=>⟨Rel.cutE hh _ _ (ha (k,v) (by simp)).1 hr.1,Rel.cutE hh _ _ (ha (k,v) (by simp)).2 hr.2.1,EntRel.cutE hh es ms (fun q hq=>ha q (by simp[hq])) hr.2.2⟩
theorem cutE_st (hs:St e) (hh:∀id b,h.get id=some b→unpath id<n∧e.h.get id=some b) (hh2:∀id b,e.h.get id=some b→unpath id<n→h.get id=some b) (hn:h.next=n) (hlo:e.F.lo≤n)
 (hb:∀id b,h.get id=some b→blkOk n (some b)):St (cutE e n h) where
 kn:=fun id hk=>by
  by_cases hlt:unpath id<n
  ·have hρ:(cutE e n h).ρ id=e.ρ id:=if_pos hlt
   have hk':known e id:=by unfold known at hk;rw[hρ] at hk;exact hk
   obtain⟨k,hk1,he,hp⟩:=hs.kn id hk'
   have hu:unpath id=k:=by rw[he,unpath_path]
   refine⟨k,by show k<h.next;omega,he,fun hl=>?_⟩
   obtain⟨b,hb⟩:=hp hl
   exact⟨b,hh2 id b hb hlt⟩
  ·have hρ:(cutE e n h).ρ id=(0,1):=if_neg hlt
   unfold known at hk;rw[hρ] at hk;cases hk
 dk:=fun id b hb=>by
  obtain⟨h1,h2⟩:=hh id b hb
  have hρ:(cutE e n h).ρ id=e.ρ id:=if_pos h1
  unfold known;rw[hρ];exact hs.dk id b h2
 lo:=by show e.F.lo≤h.next;omega
 blk:=fun id b hg=>by
  obtain⟨h1,h2⟩:=hh id b hg
  have hρ:(cutE e n h).ρ id=e.ρ id:=if_pos h1
  have hbo:=hb id b hg
  have:=hs.blk id b h2
  cases b with
  |cs el l fz=>
   obtain⟨c,fr,g1,g2,g3,g4⟩:=this
   simp only[BlkRel,hρ]
   refine⟨c,fr,g1,g2,fun j x hx=>?_,g4⟩
   obtain⟨ho,v,hv,hr⟩:=g3 j x hx
   exact⟨ho,v,hv,Rel.cutE hh _ _ (avOkL_mem hbo x (List.mem_of_getElem? hx)) hr⟩
  |mp es=>
   obtain⟨ms,clock,g1,g2⟩:=this
   simp only[BlkRel,hρ]
   exact⟨ms,clock,g1,EntRel.cutE hh _ _ hbo g2⟩
  |it s pos=>simp only[BlkRel,hρ] at this⊢;exact this
  |dead=>trivial
 inj:=fun id id' hl hl' he=>by
  obtain⟨h1,h2⟩:=cutE_live hh hl
  obtain⟨h3,h4⟩:=cutE_live hh hl'
  have hρ:(cutE e n h).ρ id=e.ρ id:=if_pos h2
  have hρ':(cutE e n h).ρ id'=e.ρ id':=if_pos h4
  rw[hρ,hρ'] at he
  exact hs.inj id id' h1 h3 he
 fr:=fun b hb=>⟨(hs.fr b hb).1,fun ho=>(hs.fr b hb).2 (cutE_own hh ho)⟩
theorem cutE_ext {e1:Env} (hs1:St e1) (hx:Ext e1 e) (hh:∀id b,h.get id=some b→unpath id<n∧e.h.get id=some b) (hh2:∀id b,e.h.get id=some b→unpath id<n→h.get id=some b)
 (hs:St e) (hn:h.next=n) (hn1:e1.h.next=n):Ext e1 (cutE e n h):=by
 have hlt:∀id,known e1 id→unpath id<n:=fun id hk=>by
  obtain⟨k,hk1,he,_⟩:=hs1.kn id hk
  rw[he,unpath_path];omega
 exact{
  next:=by show e1.h.next≤h.next;omega
  kn:=fun id hk=>by
   have hρ:(cutE e n h).ρ id=e.ρ id:=if_pos (hlt id hk)
   unfold known;rw[hρ];exact hx.kn id hk
  ren:=fun id hk=>by
   have hρ:(cutE e n h).ρ id=e.ρ id:=if_pos (hlt id hk)
   rw[hρ];exact hx.ren id hk
  fr:=hx.fr
  heap:=hx.heap
  keep:=hx.keep
  size:=hx.size
  own:=fun b hb ho=>hx.own b hb (cutE_own hh ho)
  pres:=fun id b hb=>by
   obtain⟨b',hb'⟩:=hx.pres id b hb
   exact⟨b',hh2 id b' hb' (hlt id (hs1.dk id b hb))⟩
  newk:=fun id hk=>by
   by_cases hl:unpath id<n
   ·have hρ:(cutE e n h).ρ id=e.ρ id:=if_pos hl
    have hk':known e id:=by unfold known at hk;rw[hρ] at hk;exact hk
    rcases hx.newk id hk' with h|⟨b,hb⟩
    ·exact .inl h
    ·exact .inr ⟨b,hh2 id b hb hl⟩
   ·have hρ:(cutE e n h).ρ id=(0,1):=if_neg hl
    unfold known at hk;rw[hρ] at hk;cases hk
  qt:=hx.qt}
end
end Go.Ev
end
noncomputable section
namespace Go.Ev
def Sat (P:Program) (G:Gs) (nt:Nat) (c:Code) (fr:T AV) (h:H) (Q:Ex→T AV→H→Prop):Prop:=
 ∀(K:Exit→Act→World→Prop) (e:Env) (a:Act),e.h=h→St e→FrRel e fr a.tmps→GRel G e→a.tmps.size=nt→
  (∀ex fr' h',Q ex fr' h'→Post nt K e a ex fr' h')→c.wp P K a e.w
def thenQ (N:T AV→H→Prop) (Q:Ex→T AV→H→Prop):Ex→T AV→H→Prop:=fun ex fr h=>match ex with
 |.normal=>N fr h
 |.exit id=>Q (.exit id) fr h
 |.ret=>Q .ret fr h
def blkQ (id:Nat) (Q:Ex→T AV→H→Prop):Ex→T AV→H→Prop:=fun ex fr h=>match ex with
 |.normal=>Q .normal fr h
 |.exit j=>if j=id then Q .normal fr h else Q (.exit j) fr h
 |.ret=>Q .ret fr h
def evO (G:Gs) (c:Operand) (fr:T AV):AV:=Option.rec .j (fun x=>ev x fr) (od G c)
section
variable {P:Program}{G:Gs}{nt:Nat}{call:CallF}{fr:T AV}{h:H}{Q:Ex→T AV→H→Prop}
theorem Sat.ev (hm:P.follows .mixedOrders=true) (hk:CallOK P G call){c:Code}{ex:Ex}{fr':T AV}{h':H} (hr:evC call (compC P G nt c) fr h=.ok ex fr' h') (hq:Q ex fr' h'):Sat P G nt c fr h Q:=by
 intro K e a he hs hf hg hsz hp
 subst he
 exact evC_sound hm hk c K fr e a ex fr' h' hr hs hf hg hsz (hp _ _ _ hq)
theorem Sat.mono {c:Code}{Q':Ex→T AV→H→Prop} (h1:Sat P G nt c fr h Q) (h2:∀ex fr h,Q ex fr h→Q' ex fr h):Sat P G nt c fr h Q':=
 fun K e a he hs hf hg hsz hp=>h1 K e a he hs hf hg hsz (fun ex fr' h' hq=>hp ex fr' h' (h2 ex fr' h' hq))
theorem Sat.skip (hq:Q .normal fr h):Sat P G nt .skip fr h Q:=
 fun K e a he hs hf hg hsz hp=>wp_skip (hp .normal fr h hq a e he hs (Ext.refl e) hf hsz rfl)
theorem Sat.exit {id:Nat} (hq:Q (.exit id) fr h):Sat P G nt (.exit id) fr h Q:=
 fun K e a he hs hf hg hsz hp=>wp_exit (hp (.exit id) fr h hq a e he hs (Ext.refl e) hf hsz rfl)
theorem Sat.ret (hq:Q .ret fr h):Sat P G nt .ret fr h Q:=
 fun K e a he hs hf hg hsz hp=>wp_ret (hp .ret fr h hq a e he hs (Ext.refl e) hf hsz rfl)
theorem Sat.seq {x y:Code} (hx:Sat P G nt x fr h (thenQ (fun fr h=>Sat P G nt y fr h Q) Q)):Sat P G nt (.seq x y) fr h Q:=by
 intro K e a he hs hf hg hsz hp
 refine wp_seq (hx _ e a he hs hf hg hsz (fun ex fr1 h1 hq=>?_))
 intro a1 e1 he1 hs1 hx1 hf1 hsz1 hd1
 cases ex with
 |normal=>exact(show Sat P G nt y fr1 h1 Q from hq) K e1 a1 he1 hs1 hf1 (hg.ext hx1) hsz1 (fun ex fr' h' hq'=>(hp ex fr' h' hq').ext hx1 hd1)
 |exit id=>exact hp (.exit id) fr1 h1 hq a1 e1 he1 hs1 hx1 hf1 hsz1 hd1
 |ret=>exact hp .ret fr1 h1 hq a1 e1 he1 hs1 hx1 hf1 hsz1 hd1
theorem Sat.cond {c:Operand}{x y:Code} (b:Bool) (hb:evO G c fr=.b b) (ht:b=true→Sat P G nt x fr h Q) (hf':b=false→Sat P G nt y fr h Q):Sat P G nt (.cond c x y) fr h Q:=by
 intro K e a he hs hf hg hsz hp
 have rc:a.eval c=.bool b:=by
  cases hc:od G c with
  |none=>
   have:evO G c fr=.j:=by unfold evO;rw[hc]
   rw[this] at hb;cases hb
  |some c'=>
   have:evO G c fr=Ev.ev c' fr:=by unfold evO;rw[hc]
   rw[this] at hb
   have:=od_rel hf hg hc
   rw[hb] at this
   simpa only[Rel] using this
 cases b with
 |true=>exact wp_cond_true rc (ht rfl K e a he hs hf hg hsz hp)
 |false=>exact wp_cond_false rc (hf' rfl K e a he hs hf hg hsz hp)
theorem Sat.block {id:Nat}{b:Code} (hb:Sat P G nt b fr h (blkQ id Q)):Sat P G nt (.block id b) fr h Q:=by
 intro K e a he hs hf hg hsz hp
 refine wp_block (hb _ e a he hs hf hg hsz (fun ex fr1 h1 hq=>?_))
 intro a1 e1 he1 hs1 hx1 hf1 hsz1 hd1
 cases ex with
 |normal=>exact hp .normal fr1 h1 hq a1 e1 he1 hs1 hx1 hf1 hsz1 hd1
 |exit j=>
  show(if j=id then K .normal a1 e1.w else K (.exit j) a1 e1.w)
  have hq:(if j=id then Q .normal fr1 h1 else Q (.exit j) fr1 h1):=hq
  by_cases hj:j=id
  ·rw[if_pos hj] at hq⊢
   exact hp .normal fr1 h1 hq a1 e1 he1 hs1 hx1 hf1 hsz1 hd1
  ·rw[if_neg hj] at hq⊢
   exact hp (.exit j) fr1 h1 hq a1 e1 he1 hs1 hx1 hf1 hsz1 hd1
 |ret=>exact hp .ret fr1 h1 hq a1 e1 he1 hs1 hx1 hf1 hsz1 hd1
theorem Sat.keepL {c:Code} (L:List (List Bool×AV)) (hl:Holds fr L) (hc:Sat P G nt c (mkFr L) h Q):Sat P G nt c fr h Q:=
 fun K e a he hs hf hg hsz hp=>hc K e a he hs (mkFr_rel hf hl) hg hsz hp
theorem hpH_same {n:Nat}{bs:List (Option Blk)}{h:H} (hb:heapL h n=bs) (id:Id):(unpath id<n→(hpH n bs).get id=h.get id)∧(∀b,(hpH n bs).get id=some b→unpath id<n):=by
 have hid:=unpath_bij id
 have hg:=heapL_get h n (unpath id)
 rw[hb] at hg
 constructor
 ·intro hlt
  rw[←hid,hpH_get,hg,if_pos hlt];rfl
 ·intro b h1
  rw[←hid,hpH_get,hg] at h1
  by_cases hlt:unpath id<n
  ·exact hlt
  ·rw[if_neg hlt] at h1;cases h1
theorem blksOk_get {n:Nat}:∀{bs:List (Option Blk)},blksOk n bs→∀(j:Nat) (b:Blk),(bs[j]?).join=some b→blkOk n (some b)
 |[],_,j,b,h=>by simp at h
 |x::bs,hb,0,b,h=>by
  simp only[List.getElem?_cons_zero,Option.join_some] at h;subst h;exact hb.1
 |x::bs,hb,j+1,b,h=>blksOk_get hb.2 j b (by simpa using h)
theorem Sat.heap {c:Code} (n:Nat) (bs:List (Option Blk)) (hn:h.next=n) (hb:heapL h n=bs) (hc:Sat P G nt c fr (hpH n bs) Q):Sat P G nt c fr h Q:=by
 intro K e a he hs hf hg hsz hp
 subst he
 have hget:∀id,(hpH n bs).get id=e.h.get id:=fun id=>by
  obtain⟨h1,h2⟩:=hpH_same hb id
  by_cases hlt:unpath id<n
  ·exact h1 hlt
  ·cases h3:(hpH n bs).get id with
   |some b=>exact absurd (h2 b h3) hlt
   |none=>
    cases h4:e.h.get id with
    |none=>rfl
    |some b=>
     obtain⟨k,hk,hk2,_⟩:=hs.kn id (hs.dk id b h4)
     rw[hk2,unpath_path] at hlt;omega
 let e2:Env:=⟨e.ρ,hpH n bs,e.w,e.F⟩
 have hlive:∀id,live e2.h id↔live e.h id:=fun id=>by unfold live;rw[show e2.h.get id=e.h.get id from hget id]
 have hown:∀b,Own e2 b↔Own e b:=fun b=>by
  constructor
  ·rintro ⟨id,h1,h2⟩;exact⟨id,(hlive id).1 h1,h2⟩
  ·rintro ⟨id,h1,h2⟩;exact⟨id,(hlive id).2 h1,h2⟩
 have himm:∀b,Imm e b→Imm e2 b:=fun b hb=>⟨hb.1,hb.2.1,fun ho=>hb.2.2 ((hown b).1 ho)⟩
 have x0:Ext e e2:={
  next:=by show e.h.next≤n;omega
  kn:=fun _ h=>h
  ren:=fun _ _=>rfl
  fr:=rfl
  heap:=Nr _
  keep:=fun _ _ _=>rfl
  size:=fun _ _=>rfl
  own:=fun b _ ho=>(hown b).1 ho
  pres:=fun id b hb=>⟨b,by rw[show e2.h.get id=e.h.get id from hget id];exact hb⟩
  newk:=fun _ h=>.inl h
  qt:=⟨rfl,rfl,rfl⟩}
 have hs2:St e2:={
  kn:=fun id hk=>by
   obtain⟨k,h1,h2,h3⟩:=hs.kn id hk
   refine⟨k,by show k<n;omega,h2,fun hl=>?_⟩
   rw[show e2.h.get id=e.h.get id from hget id];exact h3 hl
  dk:=fun id b hb=>hs.dk id b (by rw[←hget id];exact hb)
  lo:=by show e.F.lo≤n;rw[←hn];exact hs.lo
  blk:=fun id b hb=>BlkRel.ext x0 (hs.dk id b (by rw[←hget id];exact hb)) rfl b (hs.blk id b (by rw[←hget id];exact hb))
  inj:=fun id id' h1 h2 he=>hs.inj id id' ((hlive id).1 h1) ((hlive id').1 h2) he
  fr:=fun b hb=>⟨(hs.fr b hb).1,fun ho=>(hs.fr b hb).2 ((hown b).1 ho)⟩}
 exact hc K e2 a rfl hs2 (hf.ext x0) (hg.ext x0) hsz (fun ex fr' h' hq=>(hp ex fr' h' hq).ext x0 rfl)
theorem Sat.loop {b:Code}{α:Type} (n:Nat) (L:α→List (List Bool×AV)) (B:α→List (Option Blk)) (m:α→Nat) (I:α→Prop)
 (step:∀a,I a→Sat P G nt b (mkFr (L a)) (hpH n (B a)) (thenQ (fun fr' h'=>∃a',I a'∧m a'<m a∧Holds fr' (L a')∧LOk n (L a')∧heapL h' n=B a'∧blksOk n (B a')) Q))
 (a0:α) (hI:I a0) (hm:m a0<4611686018427387904) (hl:Holds fr (L a0)) (hn:h.next=n) (hh:heapL h n=B a0):Sat P G nt (.loop b) fr h Q:=by
 refine Sat.keepL (L a0) hl (Sat.heap n (B a0) hn hh ?_)
 intro K e a he hs hf hg hsz hp
 refine wp_loop_rounds 4611686018427387904 ?_
 have key:∀(r:Nat) (s:α),m s<r→I s→∀(e1:Env) (a1:Act),e1.h=hpH n (B s)→St e1→FrRel e1 (mkFr (L s)) a1.tmps→GRel G e1→a1.tmps.size=nt→
  (∀ex fr' h',Q ex fr' h'→Post nt K e1 a1 ex fr' h')→Code.rounds P b K r a1 e1.w:=by
  intro r
  induction r with
  |zero=>intro s hlt;omega
  |succ r ih=>
   intro s hlt hIs e1 a1 he1 hs1 hf1 hg1 hsz1 hp1
   rw[rounds_succ]
   refine step s hIs _ e1 a1 he1 hs1 hf1 hg1 hsz1 (fun ex fr2 h2 hq=>?_)
   intro a2 e2 he2 hs2 hx2 hf2 hsz2 hd2
   cases ex with
   |normal=>
    obtain⟨s',hI',hlt',hl',hok,hh',hb'⟩:=hq
    subst he2
    have hh1:∀id b,(hpH n (B s')).get id=some b→unpath id<n∧e2.h.get id=some b:=fun id b hb=>by
     obtain⟨g1,g2⟩:=hpH_same hh' id
     have:=g2 b hb
     exact⟨this,by rw[←g1 this];exact hb⟩
    have hh2:∀id b,e2.h.get id=some b→unpath id<n→(hpH n (B s')).get id=some b:=fun id b hb hlt=>by
     rw[(hpH_same hh' id).1 hlt];exact hb
    have hn1:e1.h.next=n:=by rw[he1];rfl
    have hlo:e2.F.lo≤n:=by
     rw[hx2.fr,←hn1];exact hs1.lo
    have hst:=cutE_st hs2 hh1 hh2 rfl hlo (fun id b hb=>by
     have:=hpH_get n (B s') (unpath id)
     rw[unpath_bij,hb] at this
     exact blksOk_get hb' _ b this.symm)
    have hxt:=cutE_ext hs1 hx2 hh1 hh2 hs2 (n:=n) rfl hn1
    have hfr:FrRel (cutE e2 n (hpH n (B s'))) (mkFr (L s')) a2.tmps:=by
     intro k
     have h0:=mkFr_rel hf2 hl' k
     have hav:avOk n (getV (mkFr (L s')) (path k)):=by
      have:∀L,LOk n L→∀p,avOk n (getV (mkFr L) p):=by
       intro L
       induction L with
       |nil=>intro _ p;show avOk n (getV (.e:T AV) p);rw[getV_e];simp[avOk]
       |cons q L ih=>
        intro hL p
        show avOk n (getV (T.set q.1 q.2 (mkFr L)) p)
        rw[getV_set]
        by_cases hp:p=q.1
        ·rw[if_pos hp];exact hL.1
        ·rw[if_neg hp];exact ih hL.2 p
      exact this _ hok _
     exact Rel.cutE hh1 _ _ hav h0
    exact ih s' om hI' (cutE e2 n (hpH n (B s'))) a2 rfl hst hfr (hg1.ext hxt) hsz2 (fun ex fr' h' hq'=>(hp1 ex fr' h' hq').ext hxt hd2)
   |exit id=>exact hp1 (.exit id) fr2 h2 hq a2 e2 he2 hs2 hx2 hf2 hsz2 hd2
   |ret=>exact hp1 .ret fr2 h2 hq a2 e2 he2 hs2 hx2 hf2 hsz2 hd2
 exact key _ a0 hm hI e a he hs hf hg hsz hp
def regL (P:Program) (G:Gs) (nt:Nat) (ops:Array Oper):List AO:=(number (ops.toList.map (compO P G nt ops)) 0).1
def regN (P:Program) (G:Gs) (nt:Nat) (ops:Array Oper):Nat:=(number (ops.toList.map (compO P G nt ops)) 0).2
def RunOps (call:CallF) (base:Nat) (ops:List AO) (fr:T AV) (h:H) (Q:T AV→H→Prop):Prop:=∃fr' h',evOps call base ops fr h=.ok fr' h'∧Q fr' h'
theorem Sat.reg (hm:P.follows .mixedOrders=true) (hk:CallOK P G call){rid:Nat}{ops:Array Oper}
 (hr:RunOps call h.next (regL P G nt ops) fr ⟨Nat.add h.next (regN P G nt ops),h.t⟩ (Q .normal)):Sat P G nt (.region rid ops false) fr h Q:=by
 obtain⟨fr',h',hr,hq⟩:=hr
 refine Sat.ev hm hk (ex:=.normal) (fr':=fr') (h':=h') ?_ hq
 have:compC P G nt (.region rid ops false)=.reg (regN P G nt ops) (regL P G nt ops):=rfl
 rw[this]
 show(FR.rec .no (fun fr h=>.ok .normal fr h) (evOps call h.next (regL P G nt ops) fr ⟨Nat.add h.next (regN P G nt ops),h.t⟩):CR)=_
 rw[hr]
def CallPure (call:CallF):Prop:=∀f args h r h',call f args h=.ok r h'→h'=h
theorem callOf_pure:∀(L:List Con),CallPure (callOf L)
 |[],f,args,h,r,h',hr=>by cases hr
 |c::L,f,args,h,r,h',hr=>by
  have hr:cd (Nat.beq c.f f) (callC c args h) (callOf L f args h)=.ok r h':=hr
  cases hb:Nat.beq c.f f with
  |true=>
   rw[hb] at hr
   have hr:callC c args h=.ok r h':=hr
   unfold callC at hr
   split at hr
   ·exact(finC_inv hr).choose_spec.2.2
   ·split at hr
    ·cases hs:scalR c.rs with
     |true=>rw[hs] at hr;exact(finC_inv (show finC c.rs h _=.ok r h' from hr)).choose_spec.2.2
     |false=>rw[hs] at hr;cases hr
    ·cases hr
  |false=>rw[hb] at hr;exact callOf_pure L f args h r h' hr
def isCallO (o:AOp):Bool:=match o with
 |.call .. =>true
 |.o2 (.callv ..)=>true
 |_=>false
def okD (o:AOp):Bool:=match o.cls with
 |.N=>true
 |.R=>true
 |.A=>false
 |.X=>isCallO o
def nX (ops:List DO):Nat:=List.rec 0 (fun d _ ih=>match d.o.op.cls with|.X=>Nat.succ ih|_=>ih) ops
def jsOkD (n:Nat) (ops:List DO):Bool:=ops.all fun d=>okD d.o.op&&d.js.all fun j=>Nat.ble j n
theorem callO_pure (hp:CallPure call){o:AOp} (ho:isCallO o=true){id:Nat}{v:AV}{h':H} (hr:evOp call o fr h id=.ok v h'):h'=h:=by
 unfold isCallO at ho
 split at ho
 ·exact hp _ _ _ _ _ hr
 ·rename_i f as_
  have hr:(match Ev.ev f fr with
   |.f (.func g) first cap=>call g (cat first (cat (evs as_ fr) cap)) h
   |_=>.no:R)=.ok v h':=hr
  split at hr
  ·exact hp _ _ _ _ _ hr
  ·cases hr
 ·cases ho
theorem callO_id {o:AOp} (ho:isCallO o=true) (id id':Nat):evOp call o fr h id=evOp call o fr h id':=by
 unfold isCallO at ho
 split at ho
 ·rfl
 ·rfl
 ·cases ho
theorem Sub.refl' (h:H):Sub h h:=by
 unfold Sub;exact fun _ _ h=>h
structure DInv (h:H) (n:Nat) (s:DS):Prop where
 cur:s.cur.h=h
 old:∀b∈s.old,b.h=h
 len:s.old.length=n
 mks:s.mks=[]
 rs:∀r∈s.rs,∀(call2:CallF) (id2:Nat),evOp call2 r.o r.fr h id2=.ok r.v h
theorem DInv.stepX {h:H}{n:Nat}{s:DS} (hi:DInv h n s) (d:DO) (v:AV):DInv h (n+1) (stepX d s v h) where
 cur:=rfl
 old:=fun b hb=>by
  rcases List.mem_cons.1 (show b∈s.cur::s.old from hb) with hb|hb
  ·rw[hb];exact hi.cur
  ·exact hi.old b hb
 len:=by show s.old.length+1=n+1;rw[hi.len]
 mks:=hi.mks
 rs:=hi.rs
theorem puts_nil (h:H):puts [] h=h:=rfl
theorem selP_nil (a b:List Nat):selP a b []=[]:=rfl
theorem evD_seq (hp:CallPure call) (base:Nat) (h:H):∀(ops:List DO) (s:DS) (n:Nat) (fr':T AV) (h':H),(∀d∈ops,okD d.o.op=true)→DInv h n s→
 evOps call base (ops.map (·.o)) s.fr h=.ok fr' h'→h'=h∧∃s',evD call base 0 ops s=some s'∧s'.fr=fr'∧DInv h (n+nX ops) s'∧∀r∈s'.rs,r∈s.rs∨∃d∈ops,r.js=d.js
 |[],s,n,fr',h',_,hi,hr=>by
  injection(show FR.ok s.fr h=.ok fr' h' from hr) with h1 h2
  exact⟨h2.symm,s,rfl,h1,hi,fun r hr=>.inl hr⟩
 |d::ops,s,n,fr',h',hok,hi,hr=>by
  have hok1:=hok d (by simp)
  have hok2:∀d∈ops,okD d.o.op=true:=fun d hd=>hok d (by simp[hd])
  have hr:(Option.rec .no (fun b=>cd b
   (R.rec .no (fun v h'=>evOps call base (ops.map (·.o)) (setD d.o.dst v s.fr) h') (evOp call d.o.op s.fr h (Nat.add base d.o.k)))
   (evOps call base (ops.map (·.o)) (setD d.o.dst undefA s.fr) h)) (wanted d.o.g s.fr):FR)=.ok fr' h':=hr
  cases hw:wanted d.o.g s.fr with
  |none=>rw[hw] at hr;cases hr
  |some b=>
   rw[hw] at hr
   have hstep:evD call base 0 (d::ops) s=Option.rec none (evD call base 0 ops) (stepD call base 0 d s):=rfl
   have hsd:stepD call base 0 d s=(Option.rec none (fun b=>cd b
    (clsRec
     (R.rec none (fun v _=>some (stepV d s v)) (evOp call d.o.op s.fr s.cur.h (Nat.add base d.o.k)))
     (R.rec none (fun v _=>some (stepR d s v)) (evOp call d.o.op s.fr (heapAt s.cur d.ks s.mks) (Nat.add base d.o.k)))
     (R.rec none (fun v h=>some (stepA d s v (path (Nat.add base d.o.k)) (h.get (path (Nat.add base d.o.k))))) (evOp call d.o.op s.fr ⟨s.cur.h.next,.e⟩ (Nat.add base d.o.k)))
     (R.rec none (fun v h=>cd (freeOf h base (cat d.ks s.cur.cons) 0) (some (stepX d s v h)) none) (evOp call d.o.op s.fr (heapAt s.cur d.ks s.mks) (Nat.add base 0)))
     d.o.op.cls)
    (clsRec (some (stepV d s undefA)) (some (stepV d s undefA)) (some (stepV d s undefA)) (some (stepX d s undefA (heapAt s.cur d.ks s.mks))) d.o.op.cls)) (wanted d.o.g s.fr)):=rfl
   have hheap:heapAt s.cur d.ks s.mks=h:=by
    unfold heapAt;rw[hi.mks,selP_nil,puts_nil,hi.cur]
   rw[hw,hheap,hi.cur] at hsd
   have fin:∀(s2:DS) (m:Nat),s2.fr=s2.fr→DInv h m s2→(n+nX (d::ops)=m+nX ops)→(∀r∈s2.rs,r∈s.rs∨r.js=d.js)→stepD call base 0 d s=some s2→
    evOps call base (ops.map (·.o)) s2.fr h=.ok fr' h'→h'=h∧∃s',evD call base 0 (d::ops) s=some s'∧s'.fr=fr'∧DInv h (n+nX (d::ops)) s'∧∀r∈s'.rs,r∈s.rs∨∃d'∈d::ops,r.js=d'.js:=by
    intro s2 m _ hi2 hm hrs hs2 hr2
    obtain⟨g1,s',g2,g3,g4,g5⟩:=evD_seq hp base h ops s2 m fr' h' hok2 hi2 hr2
    refine⟨g1,s',by rw[hstep,hs2];exact g2,g3,by rw[hm];exact g4,fun r hr=>?_⟩
    rcases g5 r hr with g5|⟨d',g5,g6⟩
    ·rcases hrs r g5 with g5|g5
     ·exact .inl g5
     ·exact .inr ⟨d,by simp,g5⟩
    ·exact .inr ⟨d',by simp[g5],g6⟩
   have hnX:nX (d::ops)=(match d.o.op.cls with|.X=>Nat.succ (nX ops)|_=>nX ops):=rfl
   cases b with
   |false=>
    have hr:evOps call base (ops.map (·.o)) (setD d.o.dst undefA s.fr) h=.ok fr' h':=hr
    cases hc:d.o.op.cls with
    |N=>rw[hc] at hsd hnX;exact fin (stepV d s undefA) n rfl ⟨hi.cur,hi.old,hi.len,hi.mks,hi.rs⟩ (by rw[hnX]) (fun r hr=>.inl hr) hsd hr
    |R=>rw[hc] at hsd hnX;exact fin (stepV d s undefA) n rfl ⟨hi.cur,hi.old,hi.len,hi.mks,hi.rs⟩ (by rw[hnX]) (fun r hr=>.inl hr) hsd hr
    |A=>rw[hc] at hsd hnX;exact fin (stepV d s undefA) n rfl ⟨hi.cur,hi.old,hi.len,hi.mks,hi.rs⟩ (by rw[hnX]) (fun r hr=>.inl hr) hsd hr
    |X=>
     rw[hc] at hsd hnX
     exact fin (stepX d s undefA h) (n+1) rfl (hi.stepX d _) (by rw[hnX];show n+(nX ops+1)=_;omega) (fun r hr=>.inl hr) hsd hr
   |true=>
    have hr:(R.rec .no (fun v h'=>evOps call base (ops.map (·.o)) (setD d.o.dst v s.fr) h') (evOp call d.o.op s.fr h (Nat.add base d.o.k)):FR)=.ok fr' h':=hr
    cases hev:evOp call d.o.op s.fr h (Nat.add base d.o.k) with
    |no=>rw[hev] at hr;cases hr
    |ok v h1=>
     rw[hev] at hr
     have hr2:evOps call base (ops.map (·.o)) (setD d.o.dst v s.fr) h1=.ok fr' h':=hr
     clear hr
     cases hc:d.o.op.cls with
     |N=>
      obtain⟨rfl,_⟩:=evOp_N hc hev
      rw[hc,hev] at hsd;rw[hc] at hnX
      exact fin (stepV d s v) n rfl ⟨hi.cur,hi.old,hi.len,hi.mks,hi.rs⟩ (by rw[hnX]) (fun r hr=>.inl hr) hsd hr2
     |R=>
      obtain⟨rfl,hall⟩:=evOp_R hc hev
      rw[hc,hev] at hsd;rw[hc] at hnX
      have hs3:stepD call base 0 d s=some (stepR d s v):=hsd
      refine fin (stepR d s v) n rfl ⟨hi.cur,hi.old,hi.len,hi.mks,?_⟩ (by rw[hnX]) ?_ hs3 hr2
      ·intro r hr call2 id2
       have hmem:r∈(List.rec s.rs (fun _ _ _=>⟨d.o.op,s.fr,v,d.ks,d.js⟩::s.rs) d.js:List Rd):=hr
       cases hjs:d.js with
       |nil=>rw[hjs] at hmem;exact hi.rs r hmem call2 id2
       |cons j js=>
        rw[hjs] at hmem
        rcases List.mem_cons.1 hmem with rfl|hmem
        ·exact hall call2 _ id2 (Sub.refl' _)
        ·exact hi.rs r hmem call2 id2
      ·intro r hr
       have hmem:r∈(List.rec s.rs (fun _ _ _=>⟨d.o.op,s.fr,v,d.ks,d.js⟩::s.rs) d.js:List Rd):=hr
       cases hjs:d.js with
       |nil=>rw[hjs] at hmem;exact .inl hmem
       |cons j js=>
        rw[hjs] at hmem
        rcases List.mem_cons.1 hmem with rfl|hmem
        ·exact .inr rfl
        ·exact .inl hmem
     |A=>unfold okD at hok1;rw[hc] at hok1;cases hok1
     |X=>
      have hco:isCallO d.o.op=true:=by unfold okD at hok1;rw[hc] at hok1;exact hok1
      obtain rfl:=callO_pure hp hco hev
      rw[callO_id hco (Nat.add base 0) (Nat.add base d.o.k)] at hsd
      rw[hc,hev] at hsd;rw[hc] at hnX
      have hs3:stepD call base 0 d s=some (stepX d s v h1):=hsd
      exact fin (stepX d s v h1) (n+1) rfl (hi.stepX d _) (by rw[hnX];show n+(nX ops+1)=_;omega) (fun r hr=>.inl hr) hs3 hr2
theorem chk_all (mk:List Pd) (hmk:mk=[]) (h:H) (hs:List Bh) (hhs:∀b∈hs,b.h=h):∀(rs:List Rd),(∀r∈rs,(∀(call2:CallF) (id2:Nat),evOp call2 r.o r.fr h id2=.ok r.v h)∧∀j∈r.js,j<hs.length)→chkAll hs mk rs=true
 |[],_=>rfl
 |r::rs,hr=>by
  have ih:=chk_all mk hmk h hs hhs rs (fun r h=>hr r (by simp[h]))
  show cd (chk1 hs mk r r.js) (chkAll hs mk rs) false=true
  rw[ih]
  have:∀js:List Nat,(∀j∈js,j<hs.length)→chk1 hs mk r js=true:=by
   intro js
   induction js with
   |nil=>intro _;rfl
   |cons j js ihj=>
    intro hj
    show(Option.rec false (fun b=>R.rec false (fun a _=>cd (sameA a r.v) (chk1 hs mk r js) false) (evOp noCall r.o r.fr (heapAt b r.ks mk) 0)) (nth hs j):Bool)=true
    have hlt:=hj j (by simp)
    rw[nth_eq,Lq hlt]
    have hb:heapAt hs[j] r.ks mk=h:=by unfold heapAt;rw[hmk,selP_nil,puts_nil,hhs _ (List.getElem_mem hlt)]
    show(R.rec false (fun a _=>cd (sameA a r.v) (chk1 hs mk r js) false) (evOp noCall r.o r.fr (heapAt hs[j] r.ks mk) 0):Bool)=true
    rw[hb,(hr r (by simp)).1 noCall 0]
    show cd (sameA r.v r.v) (chk1 hs mk r js) false=true
    rw[sameA_refl,ihj (fun j h=>hj j (by simp[h]))];rfl
  rw[this r.js (hr r (by simp)).2];rfl
theorem dreg_seq (hp:CallPure call){ops:List DO} (hj:jsOkD (nX ops) ops=true){fr':T AV}{h':H} (hr:evOps call h.next (ops.map (·.o)) fr h=.ok fr' h'):
 h'=h∧evDreg call 0 ops fr h=some (fr',h):=by
 have hj':∀d∈ops,okD d.o.op=true∧∀j∈d.js,j≤nX ops:=fun d hd=>by
  have:=List.all_eq_true.1 hj d hd
  simp only[Bool.and_eq_true] at this
  exact⟨this.1,fun j hj=>Nb (List.all_eq_true.1 this.2 j hj)⟩
 have hh:(⟨Nat.add h.next 0,h.t⟩:H)=h:=rfl
 obtain⟨h1,s,h2,h3,h4,h5⟩:=evD_seq hp h.next h ops ⟨fr,⟨h,[]⟩,[],[],[]⟩ 0 fr' h' (fun d hd=>(hj' d hd).1) (DInv.mk rfl (fun b hb=>absurd hb (by simp)) rfl rfl (fun r hr=>absurd hr (by simp))) hr
 refine⟨h1,?_⟩
 unfold evDreg
 rw[hh,h2]
 show cd (List.rec true (fun _ _ _=>chkAll (revOnto s.old [s.cur]) s.mks s.rs) s.rs) (some (s.fr,puts (selC s.cur.cons s.mks) s.cur.h)) none=_
 have hchk:chkAll (revOnto s.old [s.cur]) s.mks s.rs=true:=by
  refine chk_all s.mks h4.mks h _ (fun b hb=>?_) s.rs (fun r hr=>⟨h4.rs r hr,fun j hj=>?_⟩)
  ·rw[revOnto_eq] at hb
   rcases List.mem_append.1 hb with hb|hb
   ·exact h4.old b (List.mem_reverse.1 hb)
   ·rw[List.mem_singleton.1 hb];exact h4.cur
  ·rw[revOnto_eq,La,List.length_reverse,h4.len]
   rcases h5 r hr with h|⟨d,hd,he⟩
   ·cases h
   ·rw[he] at hj
    have:=(hj' d hd).2 j hj
    show j<0+nX ops+1
    omega
 have hsel:puts (selC s.cur.cons s.mks) s.cur.h=h:=by rw[h4.mks,h4.cur];rfl
 rw[hsel,h3]
 cases hrs:s.rs with
 |nil=>rfl
 |cons r rs=>rw[hrs] at hchk;show cd (chkAll _ _ (r::rs)) _ _=_;rw[hchk];rfl
theorem draw_o (Pm:List Nat) (l:List AO):(drawOf Pm l).map (·.o)=l:=by
 unfold drawOf
 rw[List.map_map]
 have:((fun d:DO=>d.o)∘fun(q:AO×Nat)=>(⟨q.1,ksOf Pm l q.2,if isR q.1 then(jsOf Pm l q.2).filter (fun j=>j !=cX l q.2) else[]⟩:DO))=Prod.fst:=rfl
 show List.map _ _=_
 rw[this];simp
def dregOk (P:Program) (G:Gs) (nt:Nat) (ops:Array Oper):Bool:=
 cd (Nat.beq (regN P G nt ops) 0) (cd (chkD (regN P G nt ops) ops.toList (predsGo ops.toList []) (regL P G nt ops)) (jsOkD (nX (drawOf (predsGo ops.toList []) (regL P G nt ops))) (drawOf (predsGo ops.toList []) (regL P G nt ops))) false) false
theorem Sat.dreg (hm:P.follows .mixedOrders=true) (hk:CallOK P G call) (hp:CallPure call){rid:Nat}{ops:Array Oper} (hd:dregOk P G nt ops=true)
 (hr:RunOps call h.next (regL P G nt ops) fr h (Q .normal)):Sat P G nt (.region rid ops true) fr h Q:=by
 obtain⟨fr',h',hr,hq⟩:=hr
 unfold dregOk at hd
 obtain⟨h1,hd⟩:=cd_true hd
 obtain⟨h2,h3⟩:=cd_true hd
 have h1:=Nq h1
 obtain⟨rfl,h4⟩:=dreg_seq hp h3 (by rw[draw_o];exact hr)
 refine Sat.ev hm hk (ex:=.normal) (fr':=fr') (h':=h') ?_ hq
 have:compC P G nt (.region rid ops true)=if chkD (regN P G nt ops) ops.toList (predsGo ops.toList []) (regL P G nt ops) then .dreg (regN P G nt ops) (drawOf (predsGo ops.toList []) (regL P G nt ops)) else .bad:=rfl
 rw[this,if_pos h2,h1]
 show(Option.rec .no (fun q=>.ok .normal q.1 q.2) (evDreg call 0 (drawOf (predsGo ops.toList []) (regL P G nt ops)) fr h'):CR)=_
 rw[h4]
end
end Go.Ev
end
noncomputable section
namespace Go.Ev
def isOkF (x:FR):Bool:=FR.rec false (fun _ _=>true) x
def frOf (x:FR):T AV:=FR.rec .e (fun fr _=>fr) x
def hOf (x:FR):H:=FR.rec H0 (fun _ h=>h) x
theorem T.set_self {α:Type}:∀(p:List Bool) (t:T α) (v:α),T.get p t=some v→T.set p v t=t
 |[],t,v,h=>by
  cases t with
  |e=>cases h
  |n l x r=>rw[T.get_nil_n] at h;subst h;rfl
 |b::p,t,v,h=>by
  cases t with
  |e=>rw[T.get_cons_e] at h;cases h
  |n l x r=>
   rw[T.get_cons_n] at h
   cases b with
   |true=>rw[T.set_true_n,T.set_self p l v (by simpa using h)]
   |false=>rw[T.set_false_n,T.set_self p r v (by simpa using h)]
def stF (call:CallF) (base:Nat) (ops:List AO) (fr:T AV) (h:H) (k:Nat):T AV:=frOf (evOps call base (ops.take k) fr h)
def stH (call:CallF) (base:Nat) (ops:List AO) (fr:T AV) (h:H) (k:Nat):H:=hOf (evOps call base (ops.take k) fr h)
def stOk (call:CallF) (base:Nat) (ops:List AO) (fr:T AV) (h:H) (k:Nat):Bool:=isOkF (evOps call base (ops.take k) fr h)
def opA (ops:List AO) (k:Nat):AO:=Option.rec ⟨none,.o2 .bad,none,0⟩ (fun x=>x) (nth ops k)
def viewIa (o:AOp) (fr:T AV):Option (Nat×AV×Nat):=match o with
 |.ia (.sli sz) x ix=>Option.rec none (fun i=>some (sz,ev x fr,i)) (asN (ev ix fr))
 |_=>none
def viewSlc (o:AOp) (fr:T AV):Option (SK×AV×Option Nat×Option Nat×Option Nat):=match o with
 |.slc k x lo hi mx=>match optN lo fr,optN hi fr,optN mx fr with
  |some lo,some hi,some mx=>some (k,ev x fr,lo,hi,mx)
  |_,_,_=>none
 |_=>none
section
variable {call:CallF}{base:Nat}{ops:List AO}{fr:T AV}{h:H}{Q:T AV→H→Prop}
theorem evOps_append:∀(a b:List AO) (fr:T AV) (h:H),evOps call base (a++b) fr h=FR.rec .no (fun fr h=>evOps call base b fr h) (evOps call base a fr h)
 |[],b,fr,h=>rfl
 |o::a,b,fr,h=>by
  show(Option.rec .no (fun c=>cd c
   (R.rec .no (fun v h'=>evOps call base (a++b) (setD o.dst v fr) h') (evOp call o.op fr h (Nat.add base o.k)))
   (evOps call base (a++b) (setD o.dst undefA fr) h)) (wanted o.g fr):FR)=FR.rec .no (fun fr h=>evOps call base b fr h) (Option.rec .no (fun c=>cd c
   (R.rec .no (fun v h'=>evOps call base a (setD o.dst v fr) h') (evOp call o.op fr h (Nat.add base o.k)))
   (evOps call base a (setD o.dst undefA fr) h)) (wanted o.g fr):FR)
  cases wanted o.g fr with
  |none=>rfl
  |some c=>
   cases c with
   |false=>exact evOps_append a b _ _
   |true=>
    show(R.rec .no (fun v h'=>evOps call base (a++b) (setD o.dst v fr) h') (evOp call o.op fr h (Nat.add base o.k)):FR)=FR.rec .no (fun fr h=>evOps call base b fr h) (R.rec .no (fun v h'=>evOps call base a (setD o.dst v fr) h') (evOp call o.op fr h (Nat.add base o.k)):FR)
    cases evOp call o.op fr h (Nat.add base o.k) with
    |no=>rfl
    |ok v h'=>exact evOps_append a b _ _
theorem RunOps.fin (hok:isOkF (evOps call base ops fr h)=true) (hq:Q (frOf (evOps call base ops fr h)) (hOf (evOps call base ops fr h))):RunOps call base ops fr h Q:=by
 cases hev:evOps call base ops fr h with
 |no=>rw[hev] at hok;cases hok
 |ok fr' h'=>rw[hev] at hq;exact⟨fr',h',hev,hq⟩
theorem RunOps.upto (k:Nat) (hok:stOk call base ops fr h k=true) (hr:RunOps call base (ops.drop k) (stF call base ops fr h k) (stH call base ops fr h k) Q):RunOps call base ops fr h Q:=by
 obtain⟨fr',h',h1,h2⟩:=hr
 refine⟨fr',h',?_,h2⟩
 have:=evOps_append (call:=call) (base:=base) (ops.take k) (ops.drop k) fr h
 rw[Ly] at this
 rw[this]
 unfold stOk at hok
 unfold stF stH at h1
 cases hev:evOps call base (ops.take k) fr h with
 |no=>rw[hev] at hok;cases hok
 |ok fr1 hh=>rw[hev] at h1;exact h1
theorem RunOps.value (k:Nat) (p:List Bool) (v v':AV) (hok:stOk call base ops fr h k=true) (hv:T.get p (stF call base ops fr h k)=some v) (he:v=v')
 (hr:RunOps call base (ops.drop k) (T.set p v' (stF call base ops fr h k)) (stH call base ops fr h k) Q):RunOps call base ops fr h Q:=by
 subst he
 refine RunOps.upto k hok ?_
 rw[T.set_self p _ _ hv] at hr;exact hr
theorem opA_drop {k:Nat} (hk:Nat.blt k ops.length=true):ops.drop k=opA ops k::ops.drop (k+1):=by
 have hk:k<ops.length:=Nat.lt_of_succ_le (Nb hk)
 rw[List.drop_eq_getElem_cons hk]
 congr 1
 unfold opA
 rw[nth_eq,Lq hk]
theorem RunOps.step (k:Nat) (v:AV) (hok:stOk call base ops fr h k=true) (hk:Nat.blt k ops.length=true) (hw:wanted (opA ops k).g (stF call base ops fr h k)=some true)
 (hv:evOp call (opA ops k).op (stF call base ops fr h k) (stH call base ops fr h k) (Nat.add base (opA ops k).k)=.ok v (stH call base ops fr h k))
 (hr:RunOps call base (ops.drop (k+1)) (setD (opA ops k).dst v (stF call base ops fr h k)) (stH call base ops fr h k) Q):RunOps call base ops fr h Q:=by
 refine RunOps.upto k hok ?_
 obtain⟨fr',h',h1,h2⟩:=hr
 refine⟨fr',h',?_,h2⟩
 rw[opA_drop hk]
 show(Option.rec .no (fun c=>cd c
  (R.rec .no (fun v h'=>evOps call base (ops.drop (k+1)) (setD (opA ops k).dst v (stF call base ops fr h k)) h') (evOp call (opA ops k).op (stF call base ops fr h k) (stH call base ops fr h k) (Nat.add base (opA ops k).k)))
  (evOps call base (ops.drop (k+1)) (setD (opA ops k).dst undefA (stF call base ops fr h k)) (stH call base ops fr h k))) (wanted (opA ops k).g (stF call base ops fr h k)):FR)=_
 rw[hw,hv]
 exact h1
theorem RunOps.ia (k:Nat){t:Ty} (xs:List (den t)) (i:Nat) (x:den t) (hx:xs[i]? =some x) (hok:stOk call base ops fr h k=true) (hk:Nat.blt k ops.length=true)
 (hw:wanted (opA ops k).g (stF call base ops fr h k)=some true) (hv:viewIa (opA ops k).op (stF call base ops fr h k)=some (wd t,.isl t xs,i))
 (hr:RunOps call base (ops.drop (k+1)) (setD (opA ops k).dst (.ip t x 0) (stF call base ops fr h k)) (stH call base ops fr h k) Q):RunOps call base ops fr h Q:=by
 refine RunOps.step k (.ip t x 0) hok hk hw ?_ hr
 generalize (opA ops k).op=o at hv⊢
 generalize stF call base ops fr h k=fr at hv⊢
 unfold viewIa at hv
 split at hv
 ·rename_i sz x' ix
  show(match asN (ev ix fr) with
   |some i=>okV _ (indexA (.sli sz) (ev x' fr) i)
   |none=>.no:R)=_
  cases hi:asN (ev ix fr) with
  |none=>rw[hi] at hv;cases hv
  |some j=>
   rw[hi] at hv
   have hv:some (sz,ev x' fr,j)=some (wd t,AV.isl t xs,i):=hv
   simp only[Oj,Prod.mk.injEq] at hv
   obtain⟨h1,h2,h3⟩:=hv
   rw[h1,h2,h3]
   show okV _ (cd (Nat.beq (wd t) (wd t)) (Option.rec none (fun c=>some (.ip t c 0)) (nth xs i)) none)=_
   rw[Nat.beq_refl,nth_eq,hx];rfl
 ·cases hv
end
theorem sliceA_isl {t:Ty}{xs:List (den t)}{lo hi:Option Nat} (h1:orN hi xs.length≤xs.length) (h2:orN lo 0≤orN hi xs.length):
 sliceA (.sli (wd t)) (.isl t xs) lo hi none=some (.isl t ((xs.take (orN hi xs.length)).drop (orN lo 0))):=by
 show cd (Nat.beq (wd t) (wd t)) (cd (Nat.ble (orN hi xs.length) xs.length) (cd (Nat.ble (orN lo 0) (orN hi xs.length)) _ none) none) none=_
 rw[Nat.beq_refl,ble_nat,ble_nat,Dt h1,Dt h2];rfl
section
variable {P:Program}{G:Gs}
theorem tupA_conv {e e2:Env}{us us':List AV}{v:Value} (hl:us.length=us'.length) (hm:∀vs,RelL e us vs→RelL e2 us' vs) (h:Rel e (tupA us) v):Rel e2 (tupA us') v:=by
 match us,us',hl with
 |[x],[y],_=>
  have:=hm [v] (by simp only[RelL];exact⟨h,trivial⟩)
  simp only[RelL] at this;exact this.1
 |[],[],_=>
  replace h:Rel e (.tu []) v:=h
  show Rel e2 (.tu []) v
  simp only[Rel] at h⊢
  obtain⟨vs,hv,h2⟩:=h
  exact⟨vs,hv,hm _ h2⟩
 |x::y::r,x'::y'::r',_=>
  replace h:Rel e (.tu (x::y::r)) v:=h
  show Rel e2 (.tu (x'::y'::r')) v
  simp only[Rel] at h⊢
  obtain⟨vs,hv,h2⟩:=h
  exact⟨vs,hv,hm _ h2⟩
 |[],_::_,h=>simp at h
 |_::_,[],h=>simp at h
 |[_],_::_::_,h=>simp at h
 |_::_::_,[_],h=>simp at h
theorem decL_length {hd:H}:∀{ps:List Par}{xs:List AV}{y:denL ps},decL hd ps xs=some y→xs.length=(encL ps y).length
 |[],xs,y,h=>by
  cases xs with
  |nil=>rfl
  |cons=>cases h
 |p::ps,[],y,h=>by rw[decL_nil] at h;cases h
 |p::ps,x::xs,y,h=>by
  rw[decL_cons] at h
  split at h
  ·split at h
   ·rename_i ys hys
    cases h
    rw[encL_cons,Lcz,Lcz,decL_length hys]
   ·cases h
  ·cases h
theorem encL_length:∀{ps:List Par}{x:denL ps},(encL ps x).length=ps.length
 |[],_=>rfl
 |p::ps,x=>by rw[encL_cons,Lcz,Lcz,encL_length]
def Bd (B:Nat):(t:Ty)→den t→Prop
 |.str,s=>(show List Nat from s).length≤1152921504606846976
 |.pair a b,x=>Bd B a x.1∧Bd B b x.2
 |.sl t,xs=>(show List (den t) from xs).length≤B∧∀(i:Nat) (x:den t),(show List (den t) from xs)[i]? =some x→Bd B t x
 |.ptr t,x=>Bd B t x
 |.clo _ t,x=>Bd B t x
 |_,_=>True
def BdL (B:Nat):(ps:List Par)→denL ps→Prop
 |[],_=>True
 |p::ps,x=>Bd B p.t x.1∧BdL B ps x.2
theorem relT_bd {m:Mm}{w:World}:∀(t:Ty) (x:den t) (vs:List Value),relT m w t x vs→Bd m.B t x
 |.int _,_,_,_=>trivial
 |.bool,_,_,_=>trivial
 |.str,_,_,h=>h.2.2
 |.unit,_,_,_=>trivial
 |.pair a b,x,vs,h=>by
  obtain⟨us,ws,_,h2,h3⟩:=h
  exact⟨relT_bd a _ _ h2,relT_bd b _ _ h3⟩
 |.sl t,xs,vs,h=>by
  obtain⟨v,_,h2⟩:=h
  rcases h2 with ⟨h2,_⟩|⟨a,cap,_,_,hB,h4⟩
  ·have h2:(xs:List (den t))=[]:=h2
   subst h2
   exact⟨Nz _,fun i x hx=>by
    have:([]:List (den t))[i]? =some x:=hx
    simp at this⟩
  ·refine⟨hB,fun i x hx=>?_⟩
   rcases h4 with h4|⟨_,_,h6⟩
   ·have h4:(xs:List (den t))=[]:=h4
    subst h4
    have:([]:List (den t))[i]? =some x:=hx
    simp at this
   ·obtain⟨us,_,h8⟩:=h6 i x hx
    exact relT_bd t x us h8
 |.ptr t,x,vs,h=>by
  obtain⟨b,o,us,_,_,_,h4⟩:=h
  exact relT_bd t x us h4
 |.clo f t,x,vs,h=>by
  obtain⟨ws,_,h2⟩:=h
  exact relT_bd t x _ h2
theorem relL_bdL {e:Env}:∀{ps:List Par}{x:denL ps}{vs:List Value},wfR ps=true→RelL e (encL ps x) vs→BdL e.F.B ps x
 |[],_,_,_,_=>trivial
 |p::ps,x,vs,hwf,h=>by
  rw[encL_cons] at h
  simp only[wfR,Bool.and_eq_true,Bool.or_eq_true] at hwf
  cases vs with
  |nil=>simp[RelL] at h
  |cons v vs=>
   simp only[RelL] at h
   refine⟨?_,relL_bdL hwf.2 h.2⟩
   have hp:=rel_relP (ag:=p.ag) (t:=p.t) (x:=x.1) (fun ha=>by
    rcases hwf.1 with h|h
    ·rw[ha] at h;cases h
    ·exact Nq h) h.1
   cases hag:p.ag with
   |true=>rw[hag] at hp;obtain⟨us,h1,h2⟩:=hp;exact relT_bd _ _ _ h2
   |false=>rw[hag] at hp;exact relT_bd _ _ _ hp
theorem fn_intro (hm:P.follows .mixedOrders=true){f:Nat}{fn:Func}{b:Code}{res:List (List Bool×Option (Option Nat))}{ps rs:List Par}{x:denL ps}{y:denL rs}
 (hf:P.funcs[f]? =some fn) (hname:(fn.name== "runtime.NumGoroutine")=false) (hb:fn.body=some b) (hres:compResL P fn.results.toList=some res) (hle:Nat.ble ps.length fn.ntmps=true) (hwf:wfR ps=true) (hBlo:1073741824≤G.B)
 (hsat:BdL G.B ps x→Sat P G fn.ntmps b (argsFrom (encL ps x) 0 .e) H0 (fun ex fr' h'=>(ex=.normal∨ex=.ret)∧(∃us,resOf res fr' h'=some us∧decL h' rs us=some y))):KOk P G f ps rs x y:=by
 intro e vs hfr hs hg hrel
 obtain⟨he,hρ,hlo⟩:=hfr
 right
 have hname':¬fn.name= "runtime.NumGoroutine" :=by simpa using hname
 refine⟨by simp[callFunc,hf,hname',hb],?_⟩
 have hvl:=hrel.len
 rw[encL_length] at hvl
 have hle:=Nb hle
 refine calls_of_wp hf hb (hsat (by rw[←hg.1];exact relL_bdL hwf hrel) _ e _ he hs (args_rel hrel _) hg (by simp;omega) (fun ex fr' h' hq=>?_))
 obtain⟨hex,us,hro,hdec⟩:=hq
 intro a' e' he' hs' hx' hf' _ hd'
 subst he'
 have hfin:a'.defers=[]∧∃v,(results fn a'.tmps).run P e'.w=.ok v e'.w∧∃v',Ending.returned v=.returned v'∧∃e2,e2.w=e'.w∧St e2∧Ext e e2∧Rel e2 (encR rs y) v':=by
  obtain⟨h2,cv,h3,h4⟩:=results_sound (fn:=fn) (r:=tupA us) (h':=e'.h) hs' hf' hres hro (by
   match us with
   |[_]=>rfl
   |[]=>rfl
   |_::_::_=>rfl)
  let e2:Env:=⟨fun _=>(0,1),⟨e'.h.next,.e⟩,e'.w,e'.F⟩
  have hno:∀id,e2.h.get id=none:=fun id=>by show T.get id .e=none;rw[T.get_e]
  have hkn:∀id,¬known e2 id:=fun id h=>by simp[known,e2] at h
  have hown:∀b,¬Own e2 b:=fun b ⟨id,⟨_,hb,_⟩,_⟩=>by rw[hno] at hb;cases hb
  have hkn0:∀id,¬known e id:=fun id h=>by unfold known at h;rw[hρ] at h;cases h
  have hno0:∀id,e.h.get id=none:=fun id=>by rw[he];exact H0_get id
  have hown0:∀b,¬Own e b:=fun b ⟨id,⟨_,hb,_⟩,_⟩=>by rw[hno0] at hb;cases hb
  have hx2:Ext e e2:={
   next:=hx'.next
   kn:=fun id h=>absurd h (hkn0 id)
   ren:=fun id h=>absurd h (hkn0 id)
   fr:=hx'.fr
   heap:=hx'.heap
   keep:=hx'.keep
   size:=hx'.size
   own:=fun b _ h=>absurd h (hown b)
   pres:=fun id b h=>by rw[hno0] at h;cases h
   newk:=fun id h=>absurd h (hkn id)
   qt:=hx'.qt}
  have hs2:St e2:={
   kn:=fun id h=>absurd h (hkn id)
   dk:=fun id b hb=>by rw[hno] at hb;cases hb
   lo:=hs'.lo
   blk:=fun id b hb=>by rw[hno] at hb;cases hb
   inj:=fun id _ ⟨b,hb,_⟩=>by rw[hno] at hb;cases hb
   fr:=fun b hb=>⟨(hs'.fr b hb).1,hown b⟩}
  refine⟨hd',cv,h3,cv,rfl,e2,rfl,hs2,hx2,?_⟩
  refine tupA_conv (decL_length hdec) (fun vs hr=>?_) h4
  exact decL_rel (e2:=e2) hs' rfl ⟨fun b (hb:Imm e' b)=>⟨hb.1,hb.2.1,hown b⟩,Nr _⟩ (fun id b hb=>hb) (fun id hl=>⟨hs'.lt hl,fun h=>(hs'.fr _ h).2 ⟨id,hl,rfl⟩,hown _⟩) (by show 1073741824≤e'.F.B;rw[hx'.fr,hg.1];exact hBlo) rs us y vs hdec hr
 rcases hex with rfl|rfl
 ·exact hfin
 ·exact hfin
end
end Go.Ev
end
noncomputable section
namespace Go.Ev
open Go.Proofs
noncomputable abbrev PP:Program:=Tryz.prog
def powL:List Nat:=[1,10,100,1000,10000,100000,1000000,10000000,100000000,1000000000,10000000000,100000000000,1000000000000,10000000000000,100000000000000,1000000000000000,10000000000000000,100000000000000000,1000000000000000000]
def powT:Ty:=powL.foldr (fun _ t=>.pair (.int .u64) t) (.int .u64)
def powX:den powT:=(1,10,100,1000,10000,100000,1000000,10000000,100000000,1000000000,10000000000,100000000000,1000000000000,10000000000000,100000000000000,1000000000000000,10000000000000000,100000000000000000,1000000000000000000,(10000000000000000000:Int))
def GG (B:Nat):Gs:=⟨fun g=>cd (Nat.beq g 1) (some ⟨powT,powX⟩) none,B,fun g=>Nat.beq g 0,fun g=>cd (Nat.beq g 8) true (Nat.beq g 9)⟩
class BOk (B:Nat):Prop where
 lo:1073741824≤B
 hi:B≤1152921504606846976
theorem hmix:PP.follows .mixedOrders=true:=kr
abbrev S (B nt:Nat) (c:Code) (fr:T AV) (h:H) (Q:Ex→T AV→H→Prop):Prop:=Sat PP (GG B) nt c fr h Q
abbrev Okl (B:Nat) (L:List Con):Prop:=∀c∈L,ConOk PP (GG B) c
variable {B:Nat}
theorem ok0:Okl B []:=fun c h=>by cases h
theorem okC {c:Con}{L:List Con} (h:ConOk PP (GG B) c) (hl:Okl B L):Okl B (c::L):=fun d hd=>by
 rcases List.mem_cons.1 hd with rfl|hd
 ·exact h
 ·exact hl d hd
def EndQ (res:List (List Bool×Option (Option Nat))) (rs:List Par) (y:denL rs):Ex→T AV→H→Prop:=
 fun ex fr' h'=>(ex=.normal∨ex=.ret)∧(∃us,resOf res fr' h'=some us∧decL h' rs us=some y)
def endV (res:List (List Bool×Option (Option Nat))) (rs:List Par) (fr:T AV) (h:H):Option (denL rs):=Option.rec none (fun us=>decL h rs us) (resOf res fr h)
theorem end_ret {res:List (List Bool×Option (Option Nat))}{rs:List Par}{y:denL rs}{fr:T AV}{h:H} (he:endV res rs fr h=some y):EndQ res rs y .ret fr h:=by
 refine⟨.inr rfl,?_⟩
 unfold endV at he
 cases hr:resOf res fr h with
 |none=>rw[hr] at he;cases he
 |some us=>rw[hr] at he;exact⟨us,rfl,he⟩
variable {Bn:Nat}
def dft (t:Ty):den t:=Ty.rec (motive:=den) (fun _=>(0:Int)) false [] () (fun _ _ a b=>(a,b)) (fun _ _=>[]) (fun _ a=>a) (fun _ _ a=>a) t
def gt (t:Ty) (xs:List (den t)) (i:Nat):den t:=List.getD xs i (dft t)
theorem gt_some {t:Ty}{xs:List (den t)}{i:Nat} (h:i<xs.length):xs[i]? =some (gt t xs i):=by
 unfold gt;rw[Lwz,Lq h];rfl
theorem lt_of_nle {n i:Nat} (h:(!iLe (J n) (J i))=true):i<n:=by
 rw[iLe_eq] at h;simp at h;omega
theorem le_of_nle {n i:Nat} (h:(!iLe (J n) (J i))=false):n≤i:=by
 rw[iLe_eq] at h;simp at h;omega
theorem ile_t {a b:Int} (h:iLe a b=true):a≤b:=by rw[iLe_eq] at h;simpa using h
theorem ile_f {a b:Int} (h:iLe a b=false):b<a:=by rw[iLe_eq] at h;simp at h;omega
theorem ieq_t {a b:Int} (h:iEq a b=true):a=b:=by rw[iEq_eq] at h;simpa using h
theorem wr_id {x:Int} (h1: -9223372036854775808≤x) (h2:x≤9223372036854775807):wr .i64 x=x:=by
 cases x with
 |ofNat m=>
  show cd (Nat.ble m 9223372036854775807) (J m) _=_
  rw[Nc (by simp only[Ioz] at h2;omega)];rfl
 |negSucc m=>
  show cd (cd true (Nat.ble m 9223372036854775807) false) (Int.negSucc m) _=_
  rw[Nc om];rfl
theorem toNat_av {x:Int} (h:0≤x):AV.i .i64 x=.i .i64 (J x.toNat):=by
 rw[Ioz,Int.toNat_of_nonneg h]
theorem wr_inc {i:Nat} (h:i<9223372036854775807):AV.i .i64 (wr .i64 (J i+J 1))=.i .i64 (J (i+1)):=by
 have:wr .i64 (J i+J 1)=J (i+1):=by
  show cd (Nat.ble (i+1) 9223372036854775807) (J (i+1)) _=_
  rw[Nc om];rfl
 rw[this]
theorem wr_dec {i:Nat} (h0:0<i) (h:i<9223372036854775807):AV.i .i64 (wr .i64 (J i - J 1))=.i .i64 (J (i - 1)):=by
 have:wr .i64 (J i - J 1)=J (i - 1):=by
  have h1:J i - J 1=J (i - 1):=by simp only[Ioz];omega
  rw[h1]
  show cd (Nat.ble (i - 1) 9223372036854775807) (J (i - 1)) _=_
  rw[Nc om];rfl
 rw[this]
mutual
def avOkB (n:Nat):AV→Bool
 |.p id _=>Nat.blt (unpath id) n
 |.sl id _ _ _ _ _=>Nat.blt (unpath id) n
 |.m id=>Nat.blt (unpath id) n
 |.f _ a b=>avOkLB n a&&avOkLB n b
 |.ifc _ x=>avOkB n x
 |.ag cs=>avOkLB n cs
 |.tu cs=>avOkLB n cs
 |_=>true
def avOkLB (n:Nat):List AV→Bool
 |[]=>true
 |x::xs=>avOkB n x&&avOkLB n xs
end
mutual
theorem avOk_of {n:Nat}:∀(x:AV),avOkB n x=true→avOk n x
 |.p id _,h=>by simp only[avOkB] at h;simp only[avOk];exact Nat.lt_of_succ_le (Nb h)
 |.sl id _ _ _ _ _,h=>by simp only[avOkB] at h;simp only[avOk];exact Nat.lt_of_succ_le (Nb h)
 |.m id,h=>by simp only[avOkB] at h;simp only[avOk];exact Nat.lt_of_succ_le (Nb h)
 |.f _ a b,h=>by simp only[avOkB,Bool.and_eq_true] at h;simp only[avOk];exact⟨avOkL_of a h.1,avOkL_of b h.2⟩
 |.ifc _ x,h=>by simp only[avOkB] at h;simp only[avOk];exact avOk_of x h
 |.ag cs,h=>by simp only[avOkB] at h;simp only[avOk];exact avOkL_of cs h
 |.tu cs,h=>by simp only[avOkB] at h;simp only[avOk];exact avOkL_of cs h
 |.i _ _,_=>by simp only[avOk]
 |.b _,_=>by simp only[avOk]
 |.s _ _,_=>by simp only[avOk]
 |.v _,_=>by simp only[avOk]
 |.em,_=>by simp only[avOk]
 |.isl _ _,_=>by simp only[avOk]
 |.ip _ _ _,_=>by simp only[avOk]
 |.j,_=>by simp only[avOk]
theorem avOkL_of {n:Nat}:∀(xs:List AV),avOkLB n xs=true→avOkL n xs
 |[],_=>by simp only[avOkL]
 |x::xs,h=>by simp only[avOkLB,Bool.and_eq_true] at h;simp only[avOkL];exact⟨avOk_of x h.1,avOkL_of xs h.2⟩
end
def lokB (n:Nat):List (List Bool×AV)→Bool
 |[]=>true
 |q::L=>avOkB n q.2&&lokB n L
theorem lok_of {n:Nat}:∀{L:List (List Bool×AV)},lokB n L=true→LOk n L
 |[],_=>trivial
 |q::L,h=>by simp only[lokB,Bool.and_eq_true] at h;exact⟨avOk_of _ h.1,lok_of h.2⟩
def blkB (n:Nat):Option Blk→Bool
 |some (.cs _ l _)=>avOkLB n l
 |some (.mp es)=>es.all fun q=>avOkB n q.1&&avOkB n q.2
 |_=>true
def blksB (n:Nat):List (Option Blk)→Bool
 |[]=>true
 |b::bs=>blkB n b&&blksB n bs
theorem blk_of {n:Nat}:∀(b:Option Blk),blkB n b=true→blkOk n b
 |some (.cs _ l _),h=>avOkL_of l h
 |some (.mp es),h=>fun q hq=>by
  have:=List.all_eq_true.1 h q hq
  simp only[Bool.and_eq_true] at this
  exact⟨avOk_of _ this.1,avOk_of _ this.2⟩
 |some (.it _ _),_=>trivial
 |some .dead,_=>trivial
 |none,_=>trivial
theorem blks_of {n:Nat}:∀{bs:List (Option Blk)},blksB n bs=true→blksOk n bs
 |[],_=>trivial
 |b::bs,h=>by simp only[blksB,Bool.and_eq_true] at h;exact⟨blk_of b h.1,blks_of h.2⟩
inductive Out (σ β:Type) where
 |go (s:σ)
 |brk (s:σ)
 |ret (r:β)
def scan {σ β:Type} (P:σ→Out σ β):Nat→σ→Out σ β
 |0,s=>.go s
 |f+1,s=>match P s with
  |.go s'=>scan P f s'
  |.brk s'=>.brk s'
  |.ret r=>.ret r
def RoundQ {σ β:Type} (P:σ→Out σ β) (Inv:σ→Prop) (m:σ→Nat) (n:Nat) (L:σ→List (List Bool×AV)) (B:σ→List (Option Blk)) (res:Out σ β) (s:σ) (Q:Ex→T AV→H→Prop):Ex→T AV→H→Prop:=fun ex fr' h'=>match ex with
 |.normal=>∃s',P s=.go s'∧(Inv s'∧m s'<m s)∧Holds fr' (L s')∧LOk n (L s')∧heapL h' n=B s'∧blksOk n (B s')
 |.exit id=>∃s',P s=.brk s'∧(res=.brk s'→Q (.exit id) fr' h')
 |.ret=>∃r,P s=.ret r∧(res=.ret r→Q .ret fr' h')
theorem loop_scan {σ β:Type} (P:σ→Out σ β){nt:Nat}{b:Code}{fr:T AV}{h:H}{Q:Ex→T AV→H→Prop} (n:Nat) (L:σ→List (List Bool×AV)) (B:σ→List (Option Blk)) (Inv:σ→Prop) (m:σ→Nat)
 (s0:σ) (hI:Inv s0) (hm:m s0<4611686018427387904) (hl:Holds fr (L s0)) (hn:h.next=n) (hh:heapL h n=B s0)
 (step:∀s,Inv s→S Bn nt b (mkFr (L s)) (hpH n (B s)) (RoundQ P Inv m n L B (scan P (m s0+1) s0) s Q)):S Bn nt (.loop b) fr h Q:=by
 refine Sat.loop n L B m (fun s=>Inv s∧∃f,m s<f∧scan P (m s0+1) s0=scan P f s) (fun s ⟨hI,f,hf,he⟩=>?_) s0 ⟨hI,m s0+1,om,rfl⟩ hm hl hn hh
 refine Sat.mono (step s hI) (fun ex fr' h' hq=>?_)
 obtain⟨f,rfl⟩:∃f',f=f'+1:=⟨f - 1,om⟩
 cases ex with
 |normal=>
  obtain⟨s',h1,⟨g1,g2⟩,h2,h3,h4,h5⟩:=hq
  refine⟨s',⟨g1,f,om,?_⟩,g2,h2,h3,h4,h5⟩
  rw[he];simp only[scan,h1]
 |exit id=>
  obtain⟨s',h1,h2⟩:=hq
  exact h2 (by rw[he];simp only[scan,h1])
 |ret=>
  obtain⟨r,h1,h2⟩:=hq
  exact h2 (by rw[he];simp only[scan,h1])
theorem end_eq {res:List (List Bool×Option (Option Nat))}{rs:List Par}{y:denL rs}{fr:T AV}{h:H} (y':denL rs) (he:endV res rs fr h=some y') (hy:y=y'):EndQ res rs y .ret fr h:=end_ret (by rw[he,hy])
def outE {σ β γ:Type} (g:γ) (b:σ→γ) (r:β→γ) (x:Out σ β):γ:=Out.rec (fun _=>g) b r x
theorem outB {σ β γ:Type}{g:γ}{b:σ→γ}{r:β→γ}{x:Out σ β}{s:σ} (h:x=.brk s):outE g b r x=b s:=by subst h;rfl
theorem outR {σ β γ:Type}{g:γ}{b:σ→γ}{r:β→γ}{x:Out σ β}{s:β} (h:x=.ret s):outE g b r x=r s:=by subst h;rfl
def dfR (rs:List Par):denL rs:=List.rec (motive:=denL) () (fun p _ ih=>(dft p.t,ih)) rs
class Use (Bn:Nat) where
 L:List Con
 ok:Okl Bn L
instance use0 {Bn:Nat}:Use Bn:=⟨[],ok0⟩
section
variable {nt rid:Nat}{ops:Array Oper}{fr:T AV}{h:H}{Q:Ex→T AV→H→Prop}{x y:Code}
end
section
variable {call:CallF}{base:Nat}{ops:List AO}{fr:T AV}{h:H}{Q:T AV→H→Prop}
theorem zf (hq:Q (frOf (evOps call base ops fr h)) (hOf (evOps call base ops fr h))) (hok:isOkF (evOps call base ops fr h)=true:=by kernel_rfl):RunOps call base ops fr h Q:=RunOps.fin hok hq
theorem zv (k p:Nat) (v v':AV) (he:v=v') (hr:RunOps call base (ops.drop k) (T.set (path p) v' (stF call base ops fr h k)) (stH call base ops fr h k) Q)
 (hok:stOk call base ops fr h k=true:=by kernel_rfl) (hv:T.get (path p) (stF call base ops fr h k)=some v:=by kernel_rfl):RunOps call base ops fr h Q:=RunOps.value k (path p) v v' hok hv he hr
theorem zi (k:Nat) (t:Ty) (xs:List (den t)) (i:Nat) (hx:i<xs.length) (hr:RunOps call base (ops.drop (k+1)) (setD (opA ops k).dst (.ip t (gt t xs i) 0) (stF call base ops fr h k)) (stH call base ops fr h k) Q)
 (hok:stOk call base ops fr h k=true:=by kernel_rfl) (hk:Nat.blt k ops.length=true:=by kernel_rfl)
 (hw:wanted (opA ops k).g (stF call base ops fr h k)=some true:=by kernel_rfl) (hv:viewIa (opA ops k).op (stF call base ops fr h k)=some (wd t,.isl t xs,i):=by kernel_rfl):RunOps call base ops fr h Q:=
 RunOps.ia k xs i (gt t xs i) (gt_some hx) hok hk hw hv hr
end
theorem ze {res:List (List Bool×Option (Option Nat))}{rs:List Par}{y y':denL rs}{fr:T AV}{h:H} (hy:y=y') (he:endV res rs fr h=some y':=by kernel_rfl):EndQ res rs y .ret fr h:=end_eq y' he hy
theorem zh {fr:T AV}{q:List Bool×AV}{L:List (List Bool×AV)} (h2:Holds fr L) (h1:getV fr q.1=q.2:=by kernel_rfl):Holds fr (q::L):=⟨h1,h2⟩
theorem zn {fr:T AV}{p:List Bool}{i:Nat}{L:List (List Bool×AV)} (hi:i<9223372036854775807) (h2:Holds fr L) (h1:getV fr p=.i .i64 (wr .i64 (J i+J 1)):=by kernel_rfl):Holds fr ((p,.i .i64 (J (i+1)))::L):=⟨h1.trans (wr_inc hi),h2⟩
end Go.Ev
end
