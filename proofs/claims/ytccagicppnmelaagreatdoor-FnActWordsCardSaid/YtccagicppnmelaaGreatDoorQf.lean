/- A part of the proof that FnActWords returns true for every input and leaves its argument as it was; no condition. -/
import Derived.Test.YtccagicppnmelaaGreatDoorQe
import Derived.Shelf.Strings.OnBuilder
import Derived.Shelf.Strings.FieldsFuncAny
import Derived.Shelf.Strconv.ParseIntPublic10
import Derived.Test.YtccagicppnmelaaGreatDoorQa
set_option linter.all false
open List renaming length→U
open Int renaming ofNat→J,toNat→Jn
noncomputable section
namespace Go.Proofs
def Tryz.laysJ_ren:Go.Shelf.Ren:=⟨fun|156=>24|165=>52|166=>53|169=>54|240=>95|241=>96|276=>156|277=>157|n=>n,fun|31=>24|9=>9|3=>3|4=>4|0=>0|20=>20|72=>113|76=>117|70=>111|37=>22|75=>116|127=>153|164=>230|5=>5|80=>119|n=>n,fun|n=>n⟩
theorem Tryz.laysJ:Go.Proofs.Lays.n156 Tryz.prog Tryz.laysJ_ren where
 mixed:=kr
 f156:=Tryz.func24.trans (congrArg some kr)
 f165:=Tryz.func52.trans (congrArg some kr)
 f166:=Tryz.func53.trans (congrArg some kr)
 f169:=Tryz.func54.trans (congrArg some kr)
 f240:=Tryz.func95.trans (congrArg some kr)
 f241:=Tryz.func96.trans (congrArg some kr)
 f276:=Tryz.func156.trans (congrArg some kr)
 f277:=Tryz.func157.trans (congrArg some kr)
 t0:=Tryz.underlying0
 a0:=Tryz.isAgg0
 z0:=Tryz.sizeOf0
 v0:=Tryz.zeroValue0
 t3:=Tryz.underlying3
 a3:=Tryz.isAgg3
 z3:=Tryz.sizeOf3
 v3:=Tryz.zeroValue3
 t4:=Tryz.underlying4
 a4:=Tryz.isAgg4
 z4:=Tryz.sizeOf4
 v4:=Tryz.zeroValue4
 t9:=Tryz.underlying9
 a9:=Tryz.isAgg9
 z9:=Tryz.sizeOf9
 v9:=Tryz.zeroValue9
 t20:=Tryz.underlying20
 a20:=Tryz.isAgg20
 z20:=Tryz.sizeOf20
 v20:=Tryz.zeroValue20
 t31:=Tryz.underlying24
 a31:=Tryz.isAgg24
 z31:=Tryz.sizeOf24
 v31:=Tryz.zeroValue24
 t37:=Tryz.underlying22
 a37:=Tryz.isAgg22
 z37:=Tryz.sizeOf22
 v37:=Tryz.zeroValue22
 t70:=Tryz.underlying111
 a70:=Tryz.isAgg111
 z70:=Tryz.sizeOf111
 v70:=Tryz.zeroValue111
 t72:=Tryz.underlying113
 a72:=Tryz.isAgg113
 z72:=Tryz.sizeOf113
 v72:=Tryz.zeroValue113
 t75:=Tryz.underlying116
 a75:=Tryz.isAgg116
 z75:=Tryz.sizeOf116
 v75:=Tryz.zeroValue116
 t76:=Tryz.underlying117
 a76:=Tryz.isAgg117
 z76:=Tryz.sizeOf117
 v76:=Tryz.zeroValue117
 t127:=Tryz.underlying153
 a127:=Tryz.isAgg153
 z127:=Tryz.sizeOf153
 v127:=Tryz.zeroValue153
 t164:=Tryz.underlying230
 a164:=Tryz.isAgg230
 z164:=Tryz.sizeOf230
 v164:=Tryz.zeroValue230
def Tryz.lays229_ren:Go.Shelf.Ren:=⟨fun|229=>57|n=>n,fun|9=>9|40=>121|31=>24|152=>156|3=>3|0=>0|4=>4|21=>21|154=>158|n=>n,fun|n=>n⟩
theorem Tryz.lays229:Go.Proofs.Lays.n229 Tryz.prog Tryz.lays229_ren where
 mixed:=kr
 f229:=Tryz.func57.trans (congrArg some kr)
 t0:=Tryz.underlying0
 a0:=Tryz.isAgg0
 z0:=Tryz.sizeOf0
 v0:=Tryz.zeroValue0
 t3:=Tryz.underlying3
 a3:=Tryz.isAgg3
 z3:=Tryz.sizeOf3
 v3:=Tryz.zeroValue3
 t4:=Tryz.underlying4
 a4:=Tryz.isAgg4
 z4:=Tryz.sizeOf4
 v4:=Tryz.zeroValue4
 t9:=Tryz.underlying9
 a9:=Tryz.isAgg9
 z9:=Tryz.sizeOf9
 v9:=Tryz.zeroValue9
 t21:=Tryz.underlying21
 a21:=Tryz.isAgg21
 z21:=Tryz.sizeOf21
 v21:=Tryz.zeroValue21
 t31:=Tryz.underlying24
 a31:=Tryz.isAgg24
 z31:=Tryz.sizeOf24
 v31:=Tryz.zeroValue24
 t40:=Tryz.underlying121
 a40:=Tryz.isAgg121
 z40:=Tryz.sizeOf121
 v40:=Tryz.zeroValue121
 t152:=Tryz.underlying156
 a152:=Tryz.isAgg156
 z152:=Tryz.sizeOf156
 v152:=Tryz.zeroValue156
 t154:=Tryz.underlying158
 a154:=Tryz.isAgg158
 z154:=Tryz.sizeOf158
 v154:=Tryz.zeroValue158
def Tryz.lays174_ren:Go.Shelf.Ren:=⟨fun|174=>60|247=>101|245=>102|287=>160|279=>161|280=>162|281=>163|282=>164|321=>240|322=>241|316=>242|171=>228|205=>243|243=>345|246=>93|283=>148|284=>149|285=>150|286=>151|129=>230|317=>229|318=>231|319=>232|320=>233|337=>346|338=>347|n=>n,fun|9=>9|3=>3|2=>2|75=>116|85=>123|4=>4|167=>235|5=>5|53=>97|175=>236|46=>150|168=>238|37=>22|0=>0|210=>337|21=>21|127=>153|145=>443|143=>441|171=>223|173=>226|212=>326|51=>327|20=>20|213=>328|232=>550|233=>551|80=>119|n=>n,fun|15=>2|16=>3|17=>1|18=>4|19=>5|n=>n⟩
theorem Tryz.lays174:Go.Proofs.LaysC.n174 Tryz.prog Tryz.lays174_ren where
 mixed:=kr
 f129:=Tryz.func230.trans (congrArg some kr)
 f171:=Tryz.func228.trans (congrArg some kr)
 f174:=Tryz.func60.trans (congrArg some kr)
 f205:=Tryz.func243.trans (congrArg some kr)
 f243:=Tryz.func345.trans (congrArg some kr)
 f245:=Tryz.func102.trans (congrArg some kr)
 f246:=Tryz.func93.trans (congrArg some kr)
 f247:=Tryz.func101.trans (congrArg some kr)
 f279:=Tryz.func161.trans (congrArg some kr)
 f280:=Tryz.func162.trans (congrArg some kr)
 f281:=Tryz.func163.trans (congrArg some kr)
 f282:=Tryz.func164.trans (congrArg some kr)
 f283:=Tryz.func148.trans (congrArg some kr)
 f284:=Tryz.func149.trans (congrArg some kr)
 f285:=Tryz.func150.trans (congrArg some kr)
 f286:=Tryz.func151.trans (congrArg some kr)
 f287:=Tryz.func160.trans (congrArg some kr)
 f316:=Tryz.func242.trans (congrArg some kr)
 f317:=Tryz.func229.trans (congrArg some kr)
 f318:=Tryz.func231.trans (congrArg some kr)
 f319:=Tryz.func232.trans (congrArg some kr)
 f320:=Tryz.func233.trans (congrArg some kr)
 f321:=Tryz.func240.trans (congrArg some kr)
 f322:=Tryz.func241.trans (congrArg some kr)
 f337:=Tryz.func346.trans (congrArg some kr)
 f338:=Tryz.func347.trans (congrArg some kr)
 t0:=Tryz.underlying0
 a0:=Tryz.isAgg0
 z0:=Tryz.sizeOf0
 v0:=Tryz.zeroValue0
 t2:=Tryz.underlying2
 a2:=Tryz.isAgg2
 z2:=Tryz.sizeOf2
 v2:=Tryz.zeroValue2
 t3:=Tryz.underlying3
 a3:=Tryz.isAgg3
 z3:=Tryz.sizeOf3
 v3:=Tryz.zeroValue3
 t4:=Tryz.underlying4
 a4:=Tryz.isAgg4
 z4:=Tryz.sizeOf4
 v4:=Tryz.zeroValue4
 t5:=Tryz.underlying5
 a5:=Tryz.isAgg5
 z5:=Tryz.sizeOf5
 v5:=Tryz.zeroValue5
 t9:=Tryz.underlying9
 a9:=Tryz.isAgg9
 z9:=Tryz.sizeOf9
 v9:=Tryz.zeroValue9
 t20:=Tryz.underlying20
 a20:=Tryz.isAgg20
 z20:=Tryz.sizeOf20
 v20:=Tryz.zeroValue20
 t21:=Tryz.underlying21
 a21:=Tryz.isAgg21
 z21:=Tryz.sizeOf21
 v21:=Tryz.zeroValue21
 t37:=Tryz.underlying22
 a37:=Tryz.isAgg22
 z37:=Tryz.sizeOf22
 v37:=Tryz.zeroValue22
 t46:=Tryz.underlying150
 a46:=Tryz.isAgg150
 z46:=Tryz.sizeOf150
 v46:=Tryz.zeroValue150
 t51:=Tryz.underlying327
 a51:=Tryz.isAgg327
 z51:=Tryz.sizeOf327
 v51:=Tryz.zeroValue327
 t53:=Tryz.underlying97
 a53:=Tryz.isAgg97
 z53:=Tryz.sizeOf97
 v53:=Tryz.zeroValue97
 t75:=Tryz.underlying116
 a75:=Tryz.isAgg116
 z75:=Tryz.sizeOf116
 v75:=Tryz.zeroValue116
 t85:=Tryz.underlying123
 a85:=Tryz.isAgg123
 z85:=Tryz.sizeOf123
 v85:=Tryz.zeroValue123
 t127:=Tryz.underlying153
 a127:=Tryz.isAgg153
 z127:=Tryz.sizeOf153
 v127:=Tryz.zeroValue153
 t143:=Tryz.underlying441
 a143:=Tryz.isAgg441
 z143:=Tryz.sizeOf441
 v143:=Tryz.zeroValue441
 t145:=Tryz.underlying443
 a145:=Tryz.isAgg443
 z145:=Tryz.sizeOf443
 v145:=Tryz.zeroValue443
 t167:=Tryz.underlying235
 a167:=Tryz.isAgg235
 z167:=Tryz.sizeOf235
 v167:=Tryz.zeroValue235
 t168:=Tryz.underlying238
 a168:=Tryz.isAgg238
 z168:=Tryz.sizeOf238
 v168:=Tryz.zeroValue238
 t171:=Tryz.underlying223
 a171:=Tryz.isAgg223
 z171:=Tryz.sizeOf223
 v171:=Tryz.zeroValue223
 t173:=Tryz.underlying226
 a173:=Tryz.isAgg226
 z173:=Tryz.sizeOf226
 v173:=Tryz.zeroValue226
 t175:=Tryz.underlying236
 a175:=Tryz.isAgg236
 z175:=Tryz.sizeOf236
 v175:=Tryz.zeroValue236
 t210:=Tryz.underlying337
 a210:=Tryz.isAgg337
 z210:=Tryz.sizeOf337
 v210:=Tryz.zeroValue337
 t212:=Tryz.underlying326
 a212:=Tryz.isAgg326
 z212:=Tryz.sizeOf326
 v212:=Tryz.zeroValue326
 t213:=Tryz.underlying328
 a213:=Tryz.isAgg328
 z213:=Tryz.sizeOf328
 t232:=Tryz.underlying550
 a232:=Tryz.isAgg550
 z232:=Tryz.sizeOf550
 v232:=Tryz.zeroValue550
 t233:=Tryz.underlying551
 a233:=Tryz.isAgg551
 z233:=Tryz.sizeOf551
 v233:=Tryz.zeroValue551
 g15:=kr
 g16:=kr
 g17:=kr
 g18:=kr
 g19:=kr
 t80:=Tryz.underlying119
 a80:=Tryz.isAgg119
 z80:=Tryz.sizeOf119
 v80:=Tryz.zeroValue119
 i0:=kr
 i2:=kr
 i3:=kr
 i4:=kr
 i5:=kr
 i9:=kr
 i20:=kr
 i21:=kr
 i37:=kr
 i46:=kr
 i51:=kr
 i53:=kr
 i75:=kr
 i80:=kr
 i85:=kr
 i127:=kr
 i143:=kr
 i145:=kr
 i167:=kr
 i168:=kr
 i171:=kr
 i173:=kr
 i175:=kr
 i210:=kr
 i212:=kr
 i232:=kr
 i233:=kr
 m15:=kr
 m16:=kr
 m17:=kr
 m18:=kr
 m19:=kr
 c0:=kr
 c2:=kr
 c3:=kr
 c4:=kr
 c5:=kr
 c9:=kr
 c20:=kr
 c21:=kr
 c37:=kr
 c46:=kr
 c51:=kr
 c53:=kr
 c75:=kr
 c80:=kr
 c85:=kr
 c127:=kr
 c143:=kr
 c145:=kr
 c167:=kr
 c168:=kr
 c171:=kr
 c173:=kr
 c175:=kr
 c210:=kr
 c212:=kr
 c213:=kr
 c232:=kr
 c233:=kr
end Go.Proofs
end
noncomputable section
namespace Go.Ev
open Go.Proofs
def inL (L:List Con) (f:Nat):Bool:=List.rec false (fun c _ ih=>cd (Nat.beq c.f f) true ih) L
def okR (r:R):Option AV:=R.rec none (fun v _=>some v) r
abbrev Exs:Type:=List (Nat×(List AV→Option AV))
def ExOk (B:Nat) (E:Exs):Prop:=∀q∈E,∀args v e vs,q.2 args=some v→St e→GRel (GG B) e→RelL e args vs→
 Does PP q.1 vs.toArray e.w (fun cv w'=>∃e',e'.w=w'∧e'.h=e.h∧St e'∧Ext e e'∧Rel e' v cv)
theorem exOk0 {B:Nat}:ExOk B []:=fun q h=>by cases h
def lookE (E:Exs) (f:Nat):Option (List AV→Option AV):=List.rec none (fun q _ ih=>cd (Nat.beq q.1 f) (some q.2) ih) E
theorem lookE_ok {f:Nat}{g:List AV→Option AV}:∀{E:Exs},lookE E f=some g→(f,g)∈E
 |[],h=>by cases h
 |q::E,h=>by
  have h:cd (Nat.beq q.1 f) (some q.2) (lookE E f)=some g:=h
  cases hb:Nat.beq q.1 f with
  |true=>
   rw[hb] at h
   obtain rfl:=Oi h
   obtain rfl:=Nq hb
   exact Mc ..
  |false=>rw[hb] at h;exact Lo _ (lookE_ok h)
def codeT (B:Nat) (f:Nat):FT:=match PP.funcs[f]? with
 |some fn=>cd (fn.name== "runtime.NumGoroutine") .none (match compF PP (GG B) fn with
  |some af=>.code af
  |none=>.none)
 |none=>.none
def tblC (B:Nat) (L:List Con) (E:Exs) (f:Nat):FT:=
 cd (inL L f) (.exth fun args h=>okR (callOf L f args h)) (Option.rec (codeT B f) (fun g=>.ext g) (lookE E f))
theorem codeT_code {B f:Nat}{af:AF} (h:codeT B f=.code af):∃fn,PP.funcs[f]? =some fn∧compF PP (GG B) fn=some af∧(fn.name== "runtime.NumGoroutine")=false:=by
 unfold codeT at h
 cases hf:PP.funcs[f]? with
 |none=>rw[hf] at h;cases h
 |some fn=>
  rw[hf] at h
  cases hn:(fn.name== "runtime.NumGoroutine") with
  |true=>simp only[hn,cd] at h;cases h
  |false=>
   simp only[hn,cd] at h
   cases hc:compF PP (GG B) fn with
   |none=>rw[hc] at h;cases h
   |some af'=>
    rw[hc] at h
    injection h with h
    subst h
    exact⟨fn,rfl,hc,hn⟩
theorem codeT_no {B f:Nat}{g:List AV→Option AV}:codeT B f≠.ext g:=by
 intro h
 unfold codeT at h
 cases hf:PP.funcs[f]? with
 |none=>rw[hf] at h;cases h
 |some fn=>
  rw[hf] at h
  cases hn:(fn.name== "runtime.NumGoroutine") with
  |true=>simp only[hn,cd] at h;cases h
  |false=>
   simp only[hn,cd] at h
   cases hc:compF PP (GG B) fn with
   |none=>rw[hc] at h;cases h
   |some af'=>rw[hc] at h;cases h
theorem codeT_noh {B f:Nat}{g:List AV→H→Option AV}:codeT B f≠.exth g:=by
 intro h
 unfold codeT at h
 cases hf:PP.funcs[f]? with
 |none=>rw[hf] at h;cases h
 |some fn=>
  rw[hf] at h
  cases hn:(fn.name== "runtime.NumGoroutine") with
  |true=>simp only[hn,cd] at h;cases h
  |false=>
   simp only[hn,cd] at h
   cases hc:compF PP (GG B) fn with
   |none=>rw[hc] at h;cases h
   |some af'=>rw[hc] at h;cases h
theorem tblC_cases (B:Nat) (L:List Con) (E:Exs) (f:Nat):tblC B L E f=.exth (fun args h=>okR (callOf L f args h))∨(∃g,lookE E f=some g∧tblC B L E f=.ext g)∨tblC B L E f=codeT B f:=by
 have e0:tblC B L E f=cd (inL L f) (.exth fun args h=>okR (callOf L f args h)) (Option.rec (codeT B f) (fun g=>.ext g) (lookE E f)):=rfl
 rw[e0]
 generalize codeT B f=c
 generalize inL L f=i
 cases i with
 |true=>left;rfl
 |false=>
  right
  cases hl:lookE E f with
  |none=>right;rfl
  |some g=>left;exact⟨g,rfl,rfl⟩
theorem tblC_ok {B:Nat} [BOk B]{L:List Con}{E:Exs} (hL:Okl B L) (hE:ExOk B E):Tbl PP (GG B) (tblC B L E) where
 code:=fun f af h=>by
  rcases tblC_cases B L E f with h1|⟨g,_,h1⟩|h1
  ·rw[h1] at h;cases h
  ·rw[h1] at h;cases h
  ·rw[h1] at h;exact codeT_code h
 ext:=fun f g h args v e vs hg hs hG hr=>by
  rcases tblC_cases B L E f with h1|⟨g',h2,h1⟩|h1
  ·rw[h1] at h;cases h
  ·rw[h1] at h
   injection h with h
   subst h
   exact hE _ (lookE_ok h2) args v e vs hg hs hG hr
  ·exact absurd (h1.symm.trans h) codeT_no
 exth:=fun f g h args v e vs hg hs hG hr=>by
  rcases tblC_cases B L E f with h1|⟨g',h2,h1⟩|h1
  ·rw[h1] at h
   injection h with h
   subst h
   have hg:okR (callOf L f args e.h)=some v:=hg
   cases hcall:callOf L f args e.h with
   |no=>rw[hcall] at hg;cases hg
   |ok r h'=>
    rw[hcall] at hg
    obtain rfl:=Oi (show some r=some v from hg)
    have hp:=callOf_pure L f args e.h r h' hcall
    subst hp
    exact callOf_ok (G:=GG B) (BOk.lo (B:=B)) hL f args r e.h e vs hcall hs hG hr
  ·rw[h1] at h;cases h
  ·exact absurd (h1.symm.trans h) codeT_noh
def untup (n:Nat) (r:AV):Option (List AV):=match n with
 |1=>some [r]
 |n=>match r with
  |.tu vs=>cd (Nat.beq vs.length n) (some vs) none
  |_=>none
theorem untup_eq {n:Nat}{r:AV}{us:List AV} (h:untup n r=some us):r=tupA us:=by
 unfold untup at h
 split at h
 ·obtain rfl:=Oi h;rfl
 ·rename_i hn
  split at h
  ·rename_i vs
   obtain⟨hb,h⟩:=cd_some h
   obtain rfl:=Oi h
   have hl:=Nq hb
   match vs,hl with
   |[_],hl=>exact absurd hl.symm hn
   |[],_=>rfl
   |_::_::_,_=>rfl
  ·cases h
def runR (B:Nat) (L:List Con) (E:Exs) (n f:Nat) (ps rs:List Par) (x:denL ps):Option (denL rs):=
 R.rec none (fun r h'=>Option.rec none (fun us=>decL h' rs us) (untup rs.length r)) (evF (tblC B L E) n f (encL ps x) H0)
theorem run_kok {B:Nat} [BOk B]{L:List Con}{E:Exs} (hL:Okl B L) (hE:ExOk B E){n f:Nat}{ps rs:List Par}{x:denL ps}{y:denL rs} (hr:runR B L E n f ps rs x=some y):KOk PP (GG B) f ps rs x y:=by
 intro e vs hfr hs hg hrel
 obtain⟨he,hρ,hlo⟩:=hfr
 unfold runR at hr
 cases hev:evF (tblC B L E) n f (encL ps x) H0 with
 |no=>rw[hev] at hr;cases hr
 |ok r h'=>
  rw[hev] at hr
  have hr:(Option.rec none (fun us=>decL h' rs us) (untup rs.length r):Option (denL rs))=some y:=hr
  cases hu:untup rs.length r with
  |none=>rw[hu] at hr;cases hr
  |some us=>
   rw[hu] at hr
   have hdec:decL h' rs us=some y:=hr
   refine Does.mono (evF_sound hmix (tblC_ok hL hE) n f _ r h' e vs (by rw[he];exact hev) hs hg hrel) ?_
   rintro cv w' ⟨e',hw',hh',hs',hx',h4⟩
   subst hh'
   let e2:Env:=⟨fun _=>(0,1),⟨e'.h.next,.e⟩,e'.w,e'.F⟩
   have hno:∀id,e2.h.get id=none:=fun id=>by show T.get id .e=none;rw[T.get_e]
   have hkn:∀id,¬known e2 id:=fun id h=>by simp[known,e2] at h
   have hown:∀b,¬Own e2 b:=fun b ⟨id,⟨_,hb,_⟩,_⟩=>by rw[hno] at hb;cases hb
   have hkn0:∀id,¬known e id:=fun id h=>by unfold known at h;rw[hρ] at h;cases h
   have hno0:∀id,e.h.get id=none:=fun id=>by rw[he];exact H0_get id
   have hx2:Ext e e2:={
    next:=hx'.next
    kn:=fun id h=>absurd h (hkn0 id)
    ren:=fun id h=>absurd h (hkn0 id)
    fr:=hx'.fr
    heap:=hx'.heap
    keep:=hx'.keep
    size:=hx'.size
    own:=fun b _ h=>absurd h (hown b)
    pres:=fun id b h=>by rw[hno0] at h;cases h
    newk:=fun id h=>absurd h (hkn id)
    qt:=hx'.qt}
   have hs2:St e2:={
    kn:=fun id h=>absurd h (hkn id)
    dk:=fun id b hb=>by rw[hno] at hb;cases hb
    lo:=hs'.lo
    blk:=fun id b hb=>by rw[hno] at hb;cases hb
    inj:=fun id _ ⟨b,hb,_⟩=>by rw[hno] at hb;cases hb
    fr:=fun b hb=>⟨(hs'.fr b hb).1,hown b⟩}
   refine⟨e2,hw',hs2,hx2,?_⟩
   rw[untup_eq hu] at h4
   refine tupA_conv (decL_length hdec) (fun vs hr=>?_) h4
   exact decL_rel (e2:=e2) hs' rfl ⟨fun b (hb:Imm e' b)=>⟨hb.1,hb.2.1,hown b⟩,Nr _⟩ (fun id b hb=>hb) (fun id hl=>⟨hs'.lt hl,fun h=>(hs'.fr _ h).2 ⟨id,hl,rfl⟩,hown _⟩) (by show 1073741824≤e'.F.B;rw[hx'.fr,hg.1];exact BOk.lo (B:=B)) rs us y vs hdec hr
def eqT (t:Ty):den t→den t→Bool:=
 Ty.rec (motive:=fun t=>den t→den t→Bool) (fun _ (a b:Int)=>iEq a b) (fun a b=>cd a b (!b)) (fun(a b:List Nat)=>sEq a b) (fun _ _=>true)
   (fun _ _ ia ib x y=>cd (ia x.1 y.1) (ib x.2 y.2) false)
   (fun t ih (xs ys:List (den t))=>List.rec (motive:=fun _=>List (den t)→Bool) (fun ys=>List.rec true (fun _ _ _=>false) ys) (fun x _ k ys=>List.rec false (fun y ys _=>cd (ih x y) (k ys) false) ys) xs ys)
   (fun _ ih x y=>ih x y) (fun _ _ ih x y=>ih x y) t
theorem eqT_eq:∀(t:Ty) (x y:den t),eqT t x y=true→x=y
 |.int _,x,y,h=>by
  have h:iEq x y=true:=h
  rw[iEq_eq] at h;simpa using h
 |.bool,x,y,h=>by
  have h:cd x y (!y)=true:=h
  cases x<;>cases y<;>first|rfl|cases h
 |.str,x,y,h=>by
  have h:sEq x y=true:=h
  rw[sEq_eq] at h;simpa using h
 |.unit,_,_,_=>rfl
 |.pair a b,x,y,h=>by
  have h:cd (eqT a x.1 y.1) (eqT b x.2 y.2) false=true:=h
  obtain⟨h1,h2⟩:=cd_true h
  exact Prod.ext (eqT_eq a _ _ h1) (eqT_eq b _ _ h2)
 |.sl t,xs,ys,h=>by
  have ih:=eqT_eq t
  induction xs generalizing ys with
  |nil=>
   cases ys with
   |nil=>rfl
   |cons=>cases h
  |cons x xs ihx=>
   cases ys with
   |nil=>cases h
   |cons y ys=>
    have h:cd (eqT t x y) (eqT (.sl t) xs ys) false=true:=h
    obtain⟨h1,h2⟩:=cd_true h
    rw[ih x y h1,ihx ys h2]
 |.ptr t,x,y,h=>eqT_eq t x y h
 |.clo _ t,x,y,h=>eqT_eq t x y h
def eqDL (ps:List Par):denL ps→denL ps→Bool:=List.rec (motive:=fun ps=>denL ps→denL ps→Bool) (fun _ _=>true) (fun p _ ih x y=>cd (eqT p.t x.1 y.1) (ih x.2 y.2) false) ps
theorem eqDL_eq:∀(ps:List Par) (x y:denL ps),eqDL ps x y=true→x=y
 |[],_,_,_=>rfl
 |p::ps,x,y,h=>by
  have h:cd (eqT p.t x.1 y.1) (eqDL ps x.2 y.2) false=true:=h
  obtain⟨h1,h2⟩:=cd_true h
  exact Prod.ext (eqT_eq p.t _ _ h1) (eqDL_eq ps _ _ h2)
def lookT {ps rs:List Par} (T:List (denL ps×denL rs)) (x:denL ps):Option (denL rs):=List.rec none (fun q _ ih=>cd (eqDL ps q.1 x) (some q.2) ih) T
theorem lookT_mem {ps rs:List Par}{x:denL ps}{y:denL rs}:∀{T:List (denL ps×denL rs)},lookT T x=some y→(x,y)∈T
 |[],h=>by cases h
 |q::T,h=>by
  have h:cd (eqDL ps q.1 x) (some q.2) (lookT T x)=some y:=h
  cases hb:eqDL ps q.1 x with
  |true=>
   rw[hb] at h
   obtain rfl:=Oi h
   have:=eqDL_eq ps _ _ hb
   subst this
   exact Mc ..
  |false=>rw[hb] at h;exact Lo _ (lookT_mem h)
inductive BT (α:Type) where
 |e
 |n (l:BT α) (x:α) (r:BT α)
def keyT:(t:Ty)→den t→Nat:=fun t=>Ty.rec (motive:=fun t=>den t→Nat) (fun _ (a:Int)=>Int.rec (fun k=>Nat.succ k) (fun _=>0) a) (fun _=>0) (fun(a:List Nat)=>List.rec 1 (fun b _ ih=>Nat.add b (Nat.mul 256 ih)) a) (fun _=>0) (fun _ _ _ _ _=>0) (fun _ _ _=>0) (fun _ _ _=>0) (fun _ _ _ _=>0) t
def keyL:(ps:List Par)→denL ps→Nat:=fun ps=>List.rec (motive:=fun ps=>denL ps→Nat) (fun _=>0) (fun p _ _ x=>keyT p.t x.1) ps
def findB {ps rs:List Par} (k:Nat) (t:BT (denL ps×denL rs)):Option (denL ps×denL rs):=BT.rec none (fun _ x _ fl fr=>cd (Nat.beq k (keyL ps x.1)) (some x) (cd (Nat.blt k (keyL ps x.1)) fl fr)) t
def BT.list {α:Type} (t:BT α):List α:=BT.rec [] (fun _ x _ fl fr=>x::(fl++fr)) t
theorem findB_mem {ps rs:List Par}{k:Nat}{q:denL ps×denL rs}:∀{t:BT (denL ps×denL rs)},findB k t=some q→q∈t.list
 |.e,h=>by cases h
 |.n l x r,h=>by
  have h:cd (Nat.beq k (keyL ps x.1)) (some x) (cd (Nat.blt k (keyL ps x.1)) (findB k l) (findB k r))=some q:=h
  show q∈x::(l.list++r.list)
  cases h1:Nat.beq k (keyL ps x.1) with
  |true=>rw[h1] at h;obtain rfl:=Oi (show some x=some q from h);exact Mc ..
  |false=>
   rw[h1] at h
   replace h:cd (Nat.blt k (keyL ps x.1)) (findB k l) (findB k r)=some q:=h
   cases h2:Nat.blt k (keyL ps x.1) with
   |true=>rw[h2] at h;exact Lo _ (Lj _ (findB_mem (t:=l) h))
   |false=>rw[h2] at h;exact Lo _ (Lk _ (findB_mem (t:=r) h))
def eqO {ps rs:List Par} (x:denL ps) (q:Option (denL ps×denL rs)):Option (denL rs):=Option.rec none (fun q=>cd (eqDL ps q.1 x) (some q.2) none) q
def lookB {ps rs:List Par} (T:BT (denL ps×denL rs)) (x:denL ps):Option (denL rs):=eqO x (findB (keyL ps x) T)
theorem lookB_mem {ps rs:List Par}{x:denL ps}{y:denL rs}{T:BT (denL ps×denL rs)} (h:lookB T x=some y):(x,y)∈T.list:=by
 unfold lookB at h
 cases hf:findB (keyL ps x) T with
 |none=>rw[hf] at h;cases h
 |some q=>
  rw[hf] at h
  obtain⟨h1,h2⟩:=cd_some (show cd (eqDL ps q.1 x) (some q.2) none=some y from h)
  obtain rfl:=Oi h2
  have:=eqDL_eq ps _ _ h1
  subst this
  exact findB_mem hf
def inT {ps rs:List Par} (T:BT (denL ps×denL rs)) (x:denL ps):Bool:=Option.rec false (fun _=>true) (lookB T x)
def valT {ps rs:List Par} (T:BT (denL ps×denL rs)) (x:denL ps):denL rs:=Option.rec (dfR rs) (fun y=>y) (lookB T x)
theorem lookB_in {ps rs:List Par}{T:BT (denL ps×denL rs)}{x:denL ps} (h:inT T x=true):lookB T x=some (valT T x):=by
 unfold inT at h;unfold valT
 cases hl:lookB T x with
 |none=>rw[hl] at h;cases h
 |some y=>rfl
def tabB (f:Nat) (ps rs:List Par) (T:BT (denL ps×denL rs)):Con:=⟨f,ps,rs,lookB T⟩
def mkB {α:Type} (f:Nat→α) (d:Nat):Nat→BT α:=Nat.rec (fun _=>.e) (fun d ih lo=>.n (ih lo) (f (Nat.sub (Nat.add lo (Nat.pow 2 d)) 1)) (ih (Nat.add lo (Nat.pow 2 d)))) d
def tabC (f:Nat) (ps rs:List Par) (T:List (denL ps×denL rs)):Con:=⟨f,ps,rs,lookT T⟩
def runAll (B:Nat) (L:List Con) (E:Exs) (n f:Nat) (ps rs:List Par) (T:List (denL ps×denL rs)):Bool:=
 List.rec true (fun q _ ih=>cd (Option.rec false (fun y=>eqDL rs y q.2) (runR B L E n f ps rs q.1)) ih false) T
theorem runAll_mem {B:Nat}{L:List Con}{E:Exs}{n f:Nat}{ps rs:List Par}{x:denL ps}{y:denL rs}:∀{T:List (denL ps×denL rs)},runAll B L E n f ps rs T=true→(x,y)∈T→runR B L E n f ps rs x=some y
 |[],_,h=>by cases h
 |q::T,h,hm=>by
  have h:cd (Option.rec false (fun y=>eqDL rs y q.2) (runR B L E n f ps rs q.1)) (runAll B L E n f ps rs T) false=true:=h
  obtain⟨h1,h2⟩:=cd_true h
  rcases List.mem_cons.1 hm with rfl|hm
  ·cases hr:runR B L E n f ps rs x with
   |none=>rw[hr] at h1;cases h1
   |some z=>
    rw[hr] at h1
    rw[eqDL_eq rs z y h1]
  ·exact runAll_mem h2 hm
theorem tabB_ok {B:Nat} [BOk B]{L:List Con}{E:Exs} (hL:Okl B L) (hE:ExOk B E){n f:Nat}{ps rs:List Par}{T:BT (denL ps×denL rs)} (hw:wfR rs=true) (h:runAll B L E n f ps rs T.list=true):ConOk PP (GG B) (tabB f ps rs T):=
 ⟨hw,fun _ _ hl=>run_kok hL hE (runAll_mem h (lookB_mem hl))⟩
def pintR (xs:List Nat):Option AV:=match Lib.parseIntB 64 (U8 xs) with
 |.ok v=>some (.tu [.i .i64 v,.v .nilIface])
 |.range=>none
 |_=>some (.tu [.i .i64 (J 0),.ifc (Tryz.lays174_ren.t 168) .j])
def pintX (args:List AV):Option AV:=match args with
 |[.s _ xs,.i .i64 b,.i .i64 z]=>cd (cd (iEq b (J 10)) (iEq z (J 64)) false) (cd (Nat.ble xs.length 1000) (pintR xs) none) none
 |_=>none
theorem ext_below {e:Env}{w':World} (hs:St e) (hB:Go.RowKit.Below e.w.heap.size e.w w'):St ⟨e.ρ,e.h,w',e.F⟩∧Ext e ⟨e.ρ,e.h,w',e.F⟩:=by
 have hlt:∀id,live e.h id→(e.ρ id).1<e.w.heap.size:=fun id h=>hs.lt h
 have hx:Ext e ⟨e.ρ,e.h,w',e.F⟩:={
  next:=Nr _
  kn:=fun _ h=>h
  ren:=fun _ _=>rfl
  fr:=rfl
  qt:=⟨hB.os,hB.tape,hB.output⟩
  heap:=hB.size
  keep:=fun b hb _=>hB.block b hb
  size:=fun b hb=>by show bsize w' b=bsize e.w b;unfold bsize;rw[hB.block b hb]
  own:=fun _ _ h=>h
  pres:=fun _ b h=>⟨b,h⟩
  newk:=fun _ h=>.inl h}
 refine⟨?_,hx⟩
 exact{
  kn:=hs.kn
  dk:=hs.dk
  lo:=hs.lo
  blk:=fun id b hb=>by
   by_cases hd:b=.dead
   ·subst hd;trivial
   ·exact BlkRel.ext hx (hs.dk id b hb) (hB.block _ (hlt id ⟨b,hb,hd⟩)) b (hs.blk id b hb)
  inj:=hs.inj
  fr:=fun b hb=>⟨Nl (hs.fr b hb).1 hx.heap,(hs.fr b hb).2⟩}
theorem pint_ok {B:Nat}:ExOk B [(60,pintX)]:=fun q hq args v e vs hg hs hG hr=>by
 obtain rfl:=List.mem_singleton.1 hq
 replace hg:pintX args=some v:=hg
 unfold pintX at hg
 split at hg
 ·rename_i n xs b z
  obtain⟨h1,hg1⟩:=cd_some hg
  obtain⟨h1,h2⟩:=cd_true h1
  obtain⟨h3,hg2⟩:=cd_some hg1
  have hlen:=Nb h3
  rw[iEq_eq] at h1 h2
  obtain rfl:b=10:=by simpa using h1
  obtain rfl:z=64:=by simpa using h2
  match vs,hr with
  |[v1,v2,v3],hr=>
  simp only[RelL,Rel] at hr
  obtain⟨⟨⟨_,_⟩,g1,rfl⟩,rfl,rfl,_⟩:=hr
  have hsz:(strOf xs).size=xs.length:=by simp[strOf,ByteArray.size]
  have hent:∀args w,(callFunc 60 args).run PP w=.ok (.enter 60 args) w:=enters_of Tryz.func60 kr rfl
  unfold pintR at hg2
  cases hp:Lib.parseIntB 64 (U8 xs) with
  |ok n=>
   rw[hp] at hg2
   obtain rfl:=Oi hg2
   refine .inr ⟨hent _ _,(Any.strconv_ParseInt_10_at64_ok Tryz.lays174 (strOf xs) (by rw[hsz];omega) n (by rw[strOf_list];exact hp) e.w).mono ?_⟩
   rintro o w' ⟨rfl,hw⟩
   have hB:Go.RowKit.Below e.w.heap.size e.w w':=by
    rcases hw with rfl|⟨t,rfl⟩
    ·exact Go.RowKit.Below.refl _ _
    ·exact⟨rfl,rfl,rfl,by rw[Lib.bytesWorld_size];omega,fun k hk=>Lib.bytesWorld_at_old e.w _ _ k om⟩
   obtain⟨q1,q2⟩:=ext_below hs hB
   refine⟨_,rfl,⟨e.ρ,e.h,w',e.F⟩,rfl,rfl,q1,q2,?_⟩
   simp only[Rel,RelL]
   exact⟨_,rfl,rfl,⟨rfl,trivial⟩,trivial⟩
  |range=>rw[hp] at hg2;cases hg2
  |_=>
   rw[hp] at hg2
   obtain rfl:=Oi hg2
   obtain⟨_,ev,h5,h6⟩:=hG.2.2.2 2 rfl
   refine .inr ⟨hent _ _,(Any.strconv_ParseInt_10_at64_syntax Tryz.lays174 (strOf xs) (by rw[hsz];omega) (by rw[strOf_list];exact hp) ev e.w h5 h6).mono ?_⟩
   rintro o w' ⟨N,rfl,_,_,hB⟩
   obtain⟨q1,q2⟩:=ext_below hs hB
   refine⟨_,rfl,⟨e.ρ,e.h,w',e.F⟩,rfl,rfl,q1,q2,?_⟩
   simp only[Rel,RelL]
   exact⟨_,rfl,rfl,⟨_,rfl,trivial⟩,trivial⟩
 ·cases hg
end Go.Ev
end
noncomputable section
namespace Go.Ev
open Go.Proofs
section
variable {call:CallF}{base:Nat}{ops:List AO}{fr:T AV}{h:H}{Q:T AV→H→Prop}
end
end Go.Ev
namespace Go.Ev
theorem bk1 {n:Nat}{b:Option Blk} (h:blksB n [b]=true:=by kernel_rfl):blkOk n b:=(blks_of h).1
end Go.Ev
end
noncomputable section
namespace Go.Ev
open Go.Proofs
section
variable {P:Program}{G:Gs}{call:CallF}
def OpsW (P:Program) (G:Gs) (nt:Nat) (ops:Array Oper) (base:Nat) (s:Nat) (l:List AO) (fr:T AV) (h:H) (Q:T AV→H→Prop):Prop:=
 ∀(is:List Nat),is=List.range' s l.length→(∀(q:Nat) (ao:AO) (i:Nat),l[q]? =some ao→is[q]? =some i→∃o,ops[i]? =some o∧IsO P G nt ops ao o)→
  ∀(K:Exit→Act→World→Prop) (e:Env) (a:Act),e.h=h→St e→e.F.lo≤base→FrRel e fr a.tmps→GRel G e→a.tmps.size=nt→
   (∀fr' h',Q fr' h'→∀a' e',e'.h=h'→St e'→Ext e e'→FrRel e' fr' a'.tmps→a'.tmps.size=nt→a'.defers=a.defers→K .normal a' e'.w)→wpOps P ops K is a e.w
theorem OpsW.run (hk:CallOK P G call){nt:Nat}{ops:Array Oper}{base:Nat}{l:List AO}{fr:T AV}{h:H}{Q:T AV→H→Prop} (hr:RunOps call base l fr h Q) (s:Nat):OpsW P G nt ops base s l fr h Q:=by
 obtain⟨fr',h',hev,hq⟩:=hr
 intro is hlen hall K e a he hs hlo hf hg hn kq
 subst he
 exact evOps_sound hk K l is (by rw[hlen];simp) hall base fr e a fr' h' hev hs hlo hf hg hn (fun a' e' g1 g2 g3 g4 g5 g6=>kq fr' h' hq a' e' g1 g2 g3 g4 g5 g6)
theorem OpsW.app (hk:CallOK P G call){nt:Nat}{ops:Array Oper}{base:Nat}{l2:List AO}{Q:T AV→H→Prop}{fr':T AV}{h':H}{s2:Nat} (h2:OpsW P G nt ops base s2 l2 fr' h' Q):
 ∀(l:List AO) (s:Nat) (fr:T AV) (h:H),s2=s+l.length→evOps call base l fr h=.ok fr' h'→OpsW P G nt ops base s (l++l2) fr h Q
 |[],s,fr,h,hs2,hr=>by
  injection(show FR.ok fr h=.ok fr' h' from hr) with h1 h3;subst h1;subst h3
  obtain rfl:s2=s:=by simpa using hs2
  exact h2
 |ao::l,s,fr,h,hs2,hr=>by
  intro is hlen hall K e a he hs hlo hf hg hn kq
  subst he
  cases is with
  |nil=>simp[List.range'_succ] at hlen
  |cons i is=>
  obtain⟨o,ho,hi⟩:=hall 0 ao i rfl rfl
  have hrest:∀(q:Nat) (ao:AO) (i:Nat),(l++l2)[q]? =some ao→is[q]? =some i→∃o,ops[i]? =some o∧IsO P G nt ops ao o:=fun q ao i h1 h2=>hall (q+1) ao i (by simpa using h1) (by simpa using h2)
  have hlen':is=List.range' (s+1) (l++l2).length:=by
   rw[List.cons_append,Lc,List.range'_succ] at hlen
   exact(List.cons.inj hlen).2
  have hs3:s2=s+1+l.length:=by rw[hs2,Lc];omega
  have hr:(Option.rec .no (fun b=>cd b
   (R.rec .no (fun v h'=>evOps call base l (setD ao.dst v fr) h') (evOp call ao.op fr e.h (Nat.add base ao.k)))
   (evOps call base l (setD ao.dst undefA fr) e.h)) (wanted ao.g fr):FR)=.ok fr' h':=hr
  show(match ops[i]? with
  |none=>wpOps P ops K is a e.w
  |some o=>
   if Region.wanted o (yielded ops a.tmps) then o.wp P a e.w (wpOps P ops K is) K∨(o.asks P a e.w∧LetsOut K)
   else wpOps P ops K is (a.put o.dst undef) e.w)
  rw[ho]
  cases hw:wanted ao.g fr with
  |none=>rw[hw] at hr;cases hr
  |some b=>
   rw[hw] at hr
   have hw':=wanted_inv hi hf hn hw
   simp only[hw']
   cases b with
   |false=>
    have hr:evOps call base l (setD ao.dst undefA fr) e.h=.ok fr' h':=hr
    have hd:ao.dst=o.dst.map mkPath:=by obtain⟨k,rfl⟩:=hi;rfl
    rw[hd] at hr
    rw[if_neg (by simp)]
    exact OpsW.app hk h2 l (s+1) _ _ hs3 hr is hlen' hrest K e _ rfl hs hlo (hf.put_undef o.dst) hg (by rw[put_size];exact hn) (fun fr' h' hq a' e' h1 h2 h3 h4 h5 h6=>kq fr' h' hq a' e' h1 h2 h3 h4 h5 (by rw[h6,put_defers]))
   |true=>
    have hr:(R.rec .no (fun v h'=>evOps call base l (setD ao.dst v fr) h') (evOp call ao.op fr e.h (Nat.add base ao.k)):FR)=.ok fr' h':=hr
    rw[if_pos rfl]
    left
    cases hop:evOp call ao.op fr e.h (Nat.add base ao.k) with
    |no=>rw[hop] at hr;cases hr
    |ok v h1=>
     rw[hop] at hr
     have hr:evOps call base l (setD ao.dst v fr) h1=.ok fr' h':=hr
     obtain⟨hc,hd,hdst⟩:=op_of hi hop
     have hS:=sound_op (o:=o) hk hs (Nt hlo (Nat.le_add_right _ _)) hf hg hc hop
     refine hS _ K (fun cv e1 he1 hs1 hx1 hv1=>?_)
     subst he1
     rw[hdst] at hr
     exact OpsW.app hk h2 l (s+1) _ _ hs3 hr is hlen' hrest K e1 _ rfl hs1 (by rw[hx1.fr];exact hlo) (FrRel.put (hf.ext hx1) (fun k hk=>by rw[hn];exact hd k hk) hv1) (hg.ext hx1) (by rw[put_size];exact hn)
      (fun fr' h' hq a' e' g1 g2 g3 g4 g5 g6=>kq fr' h' hq a' e' g1 g2 (hx1.trans g3) g4 g5 (by rw[g6,put_defers]))
theorem OpsW.upto (hk:CallOK P G call){nt:Nat}{ops:Array Oper}{base:Nat}{l:List AO}{fr:T AV}{h:H}{Q:T AV→H→Prop} (k:Nat) (hok:stOk call base l fr h k=true)
 (s:Nat) (hkl:Nat.ble k l.length=true) (hr:OpsW P G nt ops base (s+k) (l.drop k) (stF call base l fr h k) (stH call base l fr h k) Q):OpsW P G nt ops base s l fr h Q:=by
 have:=OpsW.app hk hr (l.take k) s fr h (by rw[Tk,Nat.min_eq_left (Nb hkl)]) (by
  unfold stOk at hok
  unfold stF stH
  cases hev:evOps call base (l.take k) fr h with
  |no=>rw[hev] at hok;cases hok
  |ok fr1 hh=>rfl)
 rw[Ly] at this
 exact this
theorem Sat.regW (hm:P.follows .mixedOrders=true){nt rid:Nat}{ops:Array Oper}{fr:T AV}{h:H}{Q:Ex→T AV→H→Prop}
 (hr:OpsW P G nt ops h.next 0 (regL P G nt ops) fr ⟨Nat.add h.next (regN P G nt ops),h.t⟩ (Q .normal)):Sat P G nt (.region rid ops false) fr h Q:=by
 intro K e a he hs hf hg hsz hp
 subst he
 obtain⟨hlen,hnum⟩:=number_spec (ops.toList.map (compO P G nt ops)) 0
 unfold regL regN at hr
 generalize hln:number (ops.toList.map (compO P G nt ops)) 0=q at hr hlen hnum
 obtain⟨l,na⟩:=q
 simp only at hr hlen hnum
 have hlen':l.length=ops.size:=by rw[hlen];simp
 have hio:∀(i:Nat) (ao:AO),l[i]? =some ao→∃o,ops[i]? =some o∧IsO P G nt ops ao o:=by
  intro i ao hi
  obtain⟨o',k',h1,h2⟩:=hnum i ao hi
  rw[List.getElem?_map] at h1
  cases ho:ops.toList[i]? with
  |none=>rw[ho] at h1;cases h1
  |some o=>
   rw[ho] at h1
   simp only[Option.map_some,Oj] at h1
   subst h1
   exact⟨o,by simpa using ho,k',h2⟩
 refine wp_region (hr (List.range ops.size) (by rw[hlen',List.range_eq_range']) (fun q ao i h1 h2=>?_) K (e.bump na) a rfl (bump_st hs na) hs.lo (hf.ext (bump_ext e na)) (hg.ext (bump_ext e na)) hsz ?_)
 ·have hq:q<ops.size:=by rw[←hlen'];exact(List.getElem?_eq_some_iff.1 h1).1
  rw[List.getElem?_range hq] at h2
  obtain rfl:=Oi h2
  exact hio q ao h1
 ·intro fr' h' hq a' e' h1 h2 h3 h4 h5 h6
  exact hp .normal fr' h' hq a' e' h1 h2 ((bump_ext e na).trans h3) h4 h5 h6
def EndI (res:List (List Bool×Option (Option Nat))) (N:AV→H→Prop):Ex→T AV→H→Prop:=fun ex fr' h'=>(ex=.normal∨ex=.ret)∧∃us,resOf res fr' h'=some us∧N (tupA us) h'
theorem OpsW.inl {nt:Nat}{ops:Array Oper}{base:Nat}{ao:AO}{l:List AO}{fr:T AV}{h:H}{Q:T AV→H→Prop}{f:Nat}{as_:List Od}{args:List AV}{fn:Func}{b:Code}{res:List (List Bool×Option (Option Nat))}
 {s:Nat}{o0:Oper}{c:Call} (hao:ao.op=.call f as_) (ho0:ops[s]? =some o0) (hop:o0.op=.call c) (hcal:c.callee=.value (.func f)) (hw:wanted ao.g fr=some true) (hargs:evs as_ fr=args) (hf:P.funcs[f]? =some fn) (hname:(fn.name== "runtime.NumGoroutine")=false) (hb:fn.body=some b) (hres:compResL P fn.results.toList=some res) (hle:Nat.ble args.length fn.ntmps=true)
 (hsat:Sat P G fn.ntmps b (argsFrom args 0 .e) h (EndI res (fun v h'=>OpsW P G nt ops base (s+1) l (setD ao.dst v fr) h' Q))):OpsW P G nt ops base s (ao::l) fr h Q:=by
 intro is hlen hall K e a he hs hlo hfr hg hn kq
 subst he
 cases is with
 |nil=>simp[List.range'_succ] at hlen
 |cons i is=>
 obtain⟨o,ho,hi⟩:=hall 0 ao i rfl rfl
 have hrest:∀(q:Nat) (ao:AO) (i:Nat),l[q]? =some ao→is[q]? =some i→∃o,ops[i]? =some o∧IsO P G nt ops ao o:=fun q ao i h1 h2=>hall (q+1) ao i (by simpa using h1) (by simpa using h2)
 obtain⟨rfl,hlen'⟩:i=s∧is=List.range' (s+1) l.length:=by
  rw[Lc,List.range'_succ] at hlen
  exact⟨(List.cons.inj hlen).1,(List.cons.inj hlen).2⟩
 show(match ops[i]? with
  |none=>wpOps P ops K is a e.w
  |some o=>
   if Region.wanted o (yielded ops a.tmps) then o.wp P a e.w (wpOps P ops K is) K∨(o.asks P a e.w∧LetsOut K)
   else wpOps P ops K is (a.put o.dst undef) e.w)
 rw[ho]
 have hw':=wanted_inv hi hfr hn hw
 simp only[hw']
 rw[if_pos trivial]
 left
 obtain rfl:o=o0:=by rw[ho0] at ho;exact(Oi ho).symm
 have hoc:o.op=.call c:=hop
 have hdst:ao.dst=o.dst.map mkPath:=by obtain⟨k,rfl⟩:=hi;rfl
 obtain⟨hc,hd⟩:compOp P G o.op=some (.call f as_)∧(∀d,o.dst=some d→d<nt):=by
  obtain⟨k,rfl⟩:=hi
  have key:∀b:Bool,(if b=true then(compOp P G o.op).getD (.o2 .bad) else .o2 .bad)=AOp.call f as_→b=true∧compOp P G o.op=some (.call f as_):=by
   intro b hb
   cases b with
   |false=>cases hb
   |true=>
    refine⟨rfl,?_⟩
    cases hc:compOp P G o.op with
    |none=>rw[hc] at hb;cases hb
    |some x=>rw[hc] at hb;exact congrArg some hb
  obtain⟨h1,h2⟩:=key _ hao
  refine⟨h2,fun d hd=>?_⟩
  rw[hd] at h1
  simpa using h1
 have hods:ods G c.args.toList=some as_:=by
  rw[hoc] at hc
  have hc:compCall P G c=some (.call f as_):=hc
  unfold compCall at hc
  obtain⟨as2,has,hc⟩:=bind_inv hc
  rw[hcal] at hc
  have hc:some (AOp.call f as2)=some (AOp.call f as_):=hc
  injection hc with hc
  injection hc with _ hc
  rw[has,hc]
 have rx:=ods_rel hfr hg hods
 rw[hargs] at rx
 have hname':¬fn.name= "runtime.NumGoroutine" :=by simpa using hname
 have hent:(callFunc f (c.args.toList.map a.eval).toArray).run P e.w=.ok (.enter f (c.args.toList.map a.eval).toArray) e.w:=by simp[callFunc,hf,hname',hb]
 have hx:(execOp a.eval o).run P e.w=(callFunc f (c.args.toList.map a.eval).toArray).run P e.w:=by
  have:(c.args.toList.map a.eval).toArray=#[]++c.args.map a.eval++#[]:=by
   apply Array.ext';simp
  rw[this]
  simp[execOp,hoc,resolve,hcal,Act.eval,Deferred.ofValue,invoke]
 unfold Oper.wp
 rw[hx,hent,Oper.upon_enter]
 have hvl:=rx.len
 have hle:=Nb hle
 refine calls_of_wp hf hb (hsat _ e _ rfl hs (args_rel rx _) hg (by simp at hvl⊢;omega) (fun ex fr' h' hq=>?_))
 obtain⟨hex,us,hro,hN⟩:=hq
 intro a' e' he' hs' hx' hf' _ hd'
 subst he'
 obtain⟨h2,cv,h3,h4⟩:=results_sound (fn:=fn) (r:=tupA us) (h':=e'.h) hs' hf' hres hro (by
  match us with
  |[_]=>rfl
  |[]=>rfl
  |_::_::_=>rfl)
 have hfin:a'.defers=[]∧∃v,(results fn a'.tmps).run P e'.w=.ok v e'.w∧(match Ending.returned v,e'.w with
  |.returned v,w''=>wpOps P ops K is (a.put o.dst v) w''
  |.panicked chain,w''=>K (.panic chain) a w''
  |.outgrown,_=>LetsOut K):=by
  refine⟨hd',cv,h3,?_⟩
  show wpOps P ops K is (a.put o.dst cv) e'.w
  rw[hdst] at hN
  exact hN is hlen' hrest K e' _ rfl hs' (by rw[hx'.fr];exact hlo) (FrRel.put (hfr.ext hx') (fun k hk=>by rw[hn];exact hd k hk) h4) (hg.ext hx') (by rw[put_size];exact hn)
   (fun fr' h' hq a'' e'' g1 g2 g3 g4 g5 g6=>kq fr' h' hq a'' e'' g1 g2 (hx'.trans g3) g4 g5 (by rw[g6,put_defers]))
 rcases hex with rfl|rfl
 ·exact hfin
 ·exact hfin
end
section
variable {Bn:Nat}
end
end Go.Ev
end
noncomputable section
namespace Go.Ev
open Go.Proofs
structure CJ where
 call:CallF
 pu:Nat→Bool
 pv:Bool
 pure:∀f args h r h',pu f=true→call f args h=.ok r h'→h'=h
 pureV:pv=true→∀f args h r h',call f args h=.ok r h'→h'=h
def allL {α:Type} (p:α→Bool) (l:List α):Bool:=List.rec true (fun x _ ih=>cd (p x) ih false) l
theorem allL_mem {α:Type}{p:α→Bool}:∀{l:List α},allL p l=true→∀x∈l,p x=true
 |[],_,x,hx=>by cases hx
 |y::l,h,x,hx=>by
  obtain⟨h1,h2⟩:=cd_true (show cd (p y) (allL p l) false=true from h)
  rcases List.mem_cons.1 hx with rfl|hx
  ·exact h1
  ·exact allL_mem h2 x hx
def freeP (D:T Unit) (p:List Bool):Bool:=Option.rec true (fun _=>false) (T.get p D)
def odOk (D:T Unit) (x:Od):Bool:=Od.rec (fun p=>freeP D p) (fun _=>true) x
def gOk (D:T Unit) (g:Option (List Bool×Bool)):Bool:=Option.rec true (fun q=>freeP D q.1) g
def rdOk (D:T Unit) (o:AO):Bool:=cd (gOk D o.g) (allL (odOk D) o.op.ods) false
def okX (C:CJ) (o:AOp):Bool:=match o with
 |.call f _=>C.pu f
 |.o2 (.callv ..)=>C.pv
 |_=>false
def okJ (C:CJ) (o:AOp):Bool:=match o.cls with
 |.N=>true
 |.R=>true
 |.A=>false
 |.X=>okX C o
def pEq (p q:List Bool):Bool:=
 List.rec (motive:=fun _=>List Bool→Bool) (fun q=>List.rec true (fun _ _ _=>false) q)
  (fun b _ ih q=>List.rec false (fun c q' _=>cd (cd b c (cd c false true)) (ih q') false) q) p q
def isPick (s:List Bool) (o:AO):Bool:=match o.op with
 |.pick (.t p) _ _=>pEq p s
 |_=>false
def segOf (s:List Bool) (ops:List AO):Option (List AO×AO×List AO):=
 List.rec none (fun o r ih=>cd (isPick s o) (some ([],o,r)) (Option.rec none (fun q=>some (o::q.1,q.2.1,q.2.2)) ih)) ops
theorem segOf_eq {s:List Bool}:∀{ops:List AO}{a:List AO}{k:AO}{r:List AO},segOf s ops=some (a,k,r)→ops=a++k::r
 |[],_,_,_,h=>by cases h
 |o::ops,a,k,r,h=>by
  have h:cd (isPick s o) (some ([],o,ops)) (Option.rec none (fun q=>some (o::q.1,q.2.1,q.2.2)) (segOf s ops))=some (a,k,r):=h
  cases hp:isPick s o with
  |true=>rw[hp] at h;obtain⟨rfl,rfl,rfl⟩:=(by simpa[cd] using h:[]=a∧o=k∧ops=r);rfl
  |false=>
   rw[hp] at h
   cases hs:segOf s ops with
   |none=>rw[hs] at h;cases h
   |some q=>
    rw[hs] at h
    obtain⟨q1,q2,q3⟩:=q
    obtain⟨rfl,rfl,rfl⟩:=(by simpa[cd] using h:o::q1=a∧q2=k∧q3=r)
    rw[segOf_eq hs];rfl
def addP (d:Option (List Bool)) (D:T Unit):T Unit:=Option.rec D (fun p=>T.set p () D) d
def addL (l:List AO) (D:T Unit):T Unit:=List.rec D (fun o _ ih=>addP o.dst ih) l
def clrL (l:List AO) (fr:T AV):T AV:=List.rec fr (fun o _ ih=>setD o.dst .j ih) l
def bOf (x:AV):Option Bool:=
 @AV.casesOn (fun _=>Option Bool) x (fun _ _=>none) (fun b=>some b) (fun _ _=>none) (fun _=>none) (fun _ _=>none) (fun _ _ _ _ _ _=>none) none (fun _ _=>none) (fun _ _ _=>none) (fun _ _ _=>none) (fun _ _=>none) (fun _=>none) (fun _=>none) (fun _=>none) none
theorem bOf_eq {x:AV}{b:Bool} (h:bOf x=some b):x=.b b:=by
 cases x<;>first|(injection(show some _=some b from h) with h;rw[h])|cases h
def mrgB (b q x y:Bool):Bool:=cd q (cd b x y) (cd b y x)
abbrev JR:=Option (T AV×H×T Unit)
def runJ1 (C:CJ) (base:Nat) (ih:T AV→H→JR) (o:AO) (fr:T AV) (h:H):JR:=
 Option.rec none (fun b=>cd b (R.rec none (fun v h'=>ih (setD o.dst v fr) h') (evOp C.call o.op fr h (Nat.add base o.k))) (ih (setD o.dst undefA fr) h)) (wanted o.g fr)
def grpV (d:List Bool) (b q:Bool) (t:JR) (u:FR):Option Bool:=
 Option.rec (cd (mrgB b q false true) (FR.rec none (fun fu _=>bOf (getV fu d)) u) none) (fun t=>FR.rec none (fun fu _=>Option.rec none (fun x=>Option.rec none (fun y=>some (mrgB b q x y)) (bOf (getV fu d))) (bOf (getV t.1 d))) u) t
def grpK (C:CJ) (D:T Unit) (l:List AO):Bool:=cd (allL (rdOk D) l) (allL (fun o=>okJ C o.op) l) false
def grpQ (Rs:T Unit) (fr:T AV) (g:List Bool):Bool:=cd (freeP Rs g) (Option.rec false (fun _=>true) (bOf (getV fr g))) false
def evJ (C:CJ) (base:Nat) (n:Nat):List AO→T AV→H→T Unit→T Unit→JR:=
 Nat.rec (motive:=fun _=>List AO→T AV→H→T Unit→T Unit→JR) (fun _ _ _ _ _=>none)
  (fun _ ih ops fr h Rs D=>List.rec (some (fr,h,D)) (fun o r _=>
   cd (rdOk D o)
    (Option.rec (runJ1 C base (fun fr h=>ih r fr h Rs D) o fr h)
     (fun g=>cd (grpQ Rs fr g.1)
      (Option.rec none (fun sg=>cd (grpK C D (sg.1++[sg.2.1]))
       (Option.rec none (fun d=>Option.rec none (fun b=>
        Option.rec none (fun v=>ih sg.2.2 (T.set d (.b v) (clrL sg.1 fr)) h Rs (addL sg.1 D))
         (grpV d b g.2 (ih (sg.1++[sg.2.1]) (T.set g.1 (.b g.2) fr) h (T.set g.1 () Rs) D) (evOps C.call base (sg.1++[sg.2.1]) (T.set g.1 (.b (!g.2)) fr) h)))
        (bOf (getV fr g.1))) sg.2.1.dst) none) (segOf g.1 (o::r)))
      (runJ1 C base (fun fr h=>ih r fr h Rs D) o fr h)) o.g)
    none) ops) n
def WkD (D:T Unit) (a b:T AV):Prop:=∀p,getV a p=getV b p∨(getV a p=.j∧T.get p D≠none)
theorem WkD.refl (D:T Unit) (a:T AV):WkD D a a:=fun _=>.inl rfl
theorem freeP_none {D:T Unit}{p:List Bool} (h:freeP D p=true):T.get p D=none:=by
 unfold freeP at h
 cases hp:T.get p D with
 |none=>rfl
 |some _=>rw[hp] at h;cases h
theorem WkD.free {D:T Unit}{a b:T AV} (h:WkD D a b){p:List Bool} (hp:freeP D p=true):getV a p=getV b p:=by
 rcases h p with h|⟨_,h⟩
 ·exact h
 ·exact absurd (freeP_none hp) h
theorem WkD.set {D:T Unit}{a b:T AV} (h:WkD D a b) (d:Option (List Bool)) (v:AV):WkD D (setD d v a) (setD d v b):=fun p=>by
 rw[getV_setD,getV_setD]
 by_cases hd:d=some p
 ·rw[if_pos hd,if_pos hd];exact .inl rfl
 ·rw[if_neg hd,if_neg hd];exact h p
theorem rdOk_ev {D:T Unit}{o:AO} (h:rdOk D o=true){a b:T AV} (hw:WkD D a b):(∀x∈o.op.ods,ev x a=ev x b)∧wanted o.g a=wanted o.g b:=by
 obtain⟨h1,h2⟩:=cd_true h
 refine⟨fun x hx=>?_,?_⟩
 ·have:=allL_mem h2 x hx
  cases x with
  |t p=>exact hw.free this
  |c v=>rfl
 ·cases hg:o.g with
  |none=>rfl
  |some q=>
   rw[hg] at h1
   show isB (getV a q.1) q.2=isB (getV b q.1) q.2
   rw[hw.free h1]
section
variable {C:CJ}{base:Nat}
theorem evOps_cons (call:CallF) (o:AO) (l:List AO) (fr:T AV) (h:H):evOps call base (o::l) fr h=(Option.rec .no (fun b=>cd b
 (R.rec .no (fun v h'=>evOps call base l (setD o.dst v fr) h') (evOp call o.op fr h (Nat.add base o.k)))
 (evOps call base l (setD o.dst undefA fr) h)) (wanted o.g fr):FR):=rfl
theorem evOps_cons_ok {call:CallF}{o:AO}{l:List AO}{fr:T AV}{h:H}{fr2:T AV}{h2:H} (hr:evOps call base (o::l) fr h=.ok fr2 h2):
 (wanted o.g fr=some true∧∃v h1,evOp call o.op fr h (Nat.add base o.k)=.ok v h1∧evOps call base l (setD o.dst v fr) h1=.ok fr2 h2)∨
 (wanted o.g fr=some false∧evOps call base l (setD o.dst undefA fr) h=.ok fr2 h2):=by
 rw[evOps_cons] at hr
 cases hw:wanted o.g fr with
 |none=>rw[hw] at hr;cases hr
 |some b=>
  rw[hw] at hr
  cases b with
  |false=>exact .inr ⟨rfl,hr⟩
  |true=>
   have hr:(R.rec .no (fun v h'=>evOps call base l (setD o.dst v fr) h') (evOp call o.op fr h (Nat.add base o.k)):FR)=.ok fr2 h2:=hr
   cases he:evOp call o.op fr h (Nat.add base o.k) with
   |no=>rw[he] at hr;cases hr
   |ok v h1=>rw[he] at hr;exact .inl ⟨rfl,v,h1,rfl,hr⟩
theorem evOps_run {call:CallF}{o:AO}{l:List AO}{fr:T AV}{h h1:H}{v:AV} (hw:wanted o.g fr=some true) (he:evOp call o.op fr h (Nat.add base o.k)=.ok v h1):
 evOps call base (o::l) fr h=evOps call base l (setD o.dst v fr) h1:=by
 rw[evOps_cons,hw]
 show(R.rec .no (fun v h'=>evOps call base l (setD o.dst v fr) h') (evOp call o.op fr h (Nat.add base o.k)):FR)=_
 rw[he]
theorem evOps_skip {call:CallF}{o:AO}{l:List AO}{fr:T AV}{h:H} (hw:wanted o.g fr=some false):
 evOps call base (o::l) fr h=evOps call base l (setD o.dst undefA fr) h:=by
 rw[evOps_cons,hw];rfl
theorem evOps_wk {call:CallF}{D:T Unit}:∀{l:List AO}{fr fr0:T AV}{h:H}{fr2:T AV}{h2:H},allL (rdOk D) l=true→WkD D fr fr0→evOps call base l fr h=.ok fr2 h2→∃fr1,evOps call base l fr0 h=.ok fr1 h2∧WkD D fr2 fr1
 |[],fr,fr0,h,fr2,h2,_,hw,hr=>by
  injection(show FR.ok fr h=.ok fr2 h2 from hr) with h1 h3;subst h1;subst h3;exact⟨fr0,rfl,hw⟩
 |o::l,fr,fr0,h,fr2,h2,hd,hw,hr=>by
  obtain⟨hd1,hd2⟩:=cd_true (show cd (rdOk D o) (allL (rdOk D) l) false=true from hd)
  obtain⟨e1,e2⟩:=rdOk_ev hd1 hw
  rcases evOps_cons_ok hr with ⟨g1,v,h1,g2,g3⟩|⟨g1,g2⟩
  ·rw[evOps_run (by rw[←e2];exact g1) (by rw[←evOp_congr e1];exact g2)]
   exact evOps_wk hd2 (hw.set _ _) g3
  ·rw[evOps_skip (by rw[←e2];exact g1)]
   exact evOps_wk hd2 (hw.set _ _) g2
theorem okJ_pure {o:AOp} (ho:okJ C o=true){fr:T AV}{h h':H}{id:Nat}{v:AV} (hr:evOp C.call o fr h id=.ok v h'):h'=h:=by
 unfold okJ at ho
 cases hc:o.cls with
 |N=>exact(evOp_N hc hr).1
 |R=>exact(evOp_R hc hr).1
 |A=>rw[hc] at ho;cases ho
 |X=>
  rw[hc] at ho
  replace ho:okX C o=true:=ho
  unfold okX at ho
  split at ho
  ·exact C.pure _ _ _ _ _ ho hr
  ·rename_i f as_
   replace hr:(match Ev.ev f fr with
    |.f (.func g) first cap=>C.call g (cat first (cat (evs as_ fr) cap)) h
    |_=>.no:R)=.ok v h':=hr
   split at hr
   ·exact C.pureV ho _ _ _ _ _ hr
   ·cases hr
  ·cases ho
theorem evOps_pure:∀{l:List AO}{fr:T AV}{h:H}{fr2:T AV}{h2:H},allL (fun o=>okJ C o.op) l=true→evOps C.call base l fr h=.ok fr2 h2→h2=h
 |[],fr,h,fr2,h2,_,hr=>by injection(show FR.ok fr h=.ok fr2 h2 from hr) with h1 h3;exact h3.symm
 |o::l,fr,h,fr2,h2,ho,hr=>by
  obtain⟨o1,o2⟩:=cd_true (show cd (okJ C o.op) (allL (fun o=>okJ C o.op) l) false=true from ho)
  rcases evOps_cons_ok hr with ⟨_,v,h1,g2,g3⟩|⟨_,g2⟩
  ·rw[evOps_pure o2 g3,okJ_pure o1 g2]
  ·exact evOps_pure o2 g2
theorem evOps_dst {call:CallF}:∀{l:List AO}{fr:T AV}{h:H}{fr2:T AV}{h2:H}{p:List Bool},evOps call base l fr h=.ok fr2 h2→(∀o∈l,o.dst≠some p)→getV fr2 p=getV fr p
 |[],fr,h,fr2,h2,p,hr,_=>by injection(show FR.ok fr h=.ok fr2 h2 from hr) with h1 h3;rw[h1]
 |o::l,fr,h,fr2,h2,p,hr,hp=>by
  have hp2:∀o∈l,o.dst≠some p:=fun o ho=>hp o (by simp[ho])
  rcases evOps_cons_ok hr with ⟨_,v,h1,_,g3⟩|⟨_,g2⟩
  ·rw[evOps_dst g3 hp2,getV_setD,if_neg (hp o (by simp))]
  ·rw[evOps_dst g2 hp2,getV_setD,if_neg (hp o (by simp))]
theorem addL_mono {D:T Unit}{p:List Bool} (h:T.get p D≠none):∀(l:List AO),T.get p (addL l D)≠none
 |[]=>h
 |o::l=>by
  show T.get p (addP o.dst (addL l D))≠none
  cases o.dst with
  |none=>exact addL_mono h l
  |some q=>
   show T.get p (T.set q () (addL l D))≠none
   rw[T.get_set]
   by_cases hq:p=q
   ·rw[if_pos hq];simp
   ·rw[if_neg hq];exact addL_mono h l
theorem addL_mem {D:T Unit}{p:List Bool}:∀(l:List AO),(∃o∈l,o.dst=some p)→T.get p (addL l D)≠none
 |[],⟨_,h,_⟩=>by cases h
 |o::l,⟨o',ho,hd⟩=>by
  show T.get p (addP o.dst (addL l D))≠none
  have rest:(∃o∈l,o.dst=some p)→T.get p (addP o.dst (addL l D))≠none:=fun h=>by
   have ih:=addL_mem l h (D:=D)
   cases o.dst with
   |none=>exact ih
   |some q=>
    show T.get p (T.set q () (addL l D))≠none
    rw[T.get_set]
    by_cases hq:p=q
    ·rw[if_pos hq];simp
    ·rw[if_neg hq];exact ih
  rcases List.mem_cons.1 ho with rfl|ho
  ·rw[hd]
   show T.get p (T.set p () (addL l D))≠none
   rw[T.get_set,if_pos rfl];simp
  ·exact rest ⟨o',ho,hd⟩
theorem clrL_get {fr:T AV}{p:List Bool}:∀(l:List AO),((∃o∈l,o.dst=some p)→getV (clrL l fr) p=.j)∧((∀o∈l,o.dst≠some p)→getV (clrL l fr) p=getV fr p)
 |[]=>⟨fun⟨_,h,_⟩=>absurd h (by simp),fun _=>rfl⟩
 |o::l=>by
  have ih:=clrL_get (fr:=fr) (p:=p) l
  constructor
  ·rintro ⟨o',ho,hd⟩
   show getV (setD o.dst .j (clrL l fr)) p=.j
   rw[getV_setD]
   by_cases hq:o.dst=some p
   ·rw[if_pos hq]
   ·rw[if_neg hq]
    rcases List.mem_cons.1 ho with rfl|ho
    ·exact absurd hd hq
    ·exact ih.1 ⟨o',ho,hd⟩
  ·intro h
   show getV (setD o.dst .j (clrL l fr)) p=_
   rw[getV_setD,if_neg (h o (by simp))]
   exact ih.2 (fun o ho=>h o (by simp[ho]))
theorem evOps_app (call:CallF) (a b:List AO){fr:T AV}{h:H}{fr1:T AV}{h1:H} (hr:evOps call base a fr h=.ok fr1 h1):evOps call base (a++b) fr h=evOps call base b fr1 h1:=by
 rw[evOps_append,hr]
theorem grp_wk {D D1:T Unit}{arm:List AO}{pk:AO}{d:List Bool}{fr fr0 fr1 frX:T AV}{h h1:H}{x v:Bool} (hw:WkD D fr fr0) (hr:evOps C.call base (arm++[pk]) fr0 h=.ok fr1 h1) (hd:pk.dst=some d)
 (hx:getV frX d=.b x) (hw1:WkD D1 frX fr1) (hv:v=x):WkD (addL arm D) (T.set d (.b v) (clrL arm fr)) fr1:=fun p=>by
 subst hv
 rw[getV_set]
 by_cases hp:p=d
 ·rw[if_pos hp,hp]
  rcases hw1 d with h2|⟨h2,_⟩
  ·rw[←h2,hx];exact .inl rfl
  ·rw[hx] at h2;cases h2
 ·rw[if_neg hp]
  by_cases ha:∃o∈arm,o.dst=some p
  ·exact .inr ⟨(clrL_get arm).1 ha,addL_mem arm ha⟩
  ·have ha:∀o∈arm,o.dst≠some p:=fun o ho h=>ha ⟨o,ho,h⟩
   rw[(clrL_get arm).2 ha,evOps_dst hr (fun o ho=>by
    rcases List.mem_append.1 ho with ho|ho
    ·exact ha o ho
    ·rw[List.mem_singleton.1 ho,hd];exact fun h=>hp (Oi h).symm)]
   rcases hw p with h2|⟨h2,h3⟩
   ·exact .inl h2
   ·exact .inr ⟨h2,addL_mono h3 arm⟩
theorem runJ1_sound {D:T Unit}{ih:T AV→H→JR}{o:AO}{r:List AO}{fr fr0:T AV}{h:H}{q:T AV×H×T Unit} (hd:rdOk D o=true) (hw:WkD D fr fr0)
 (hI:∀fr h q,ih fr h=some q→∀fr0,WkD D fr fr0→∃fr1,evOps C.call base r fr0 h=.ok fr1 q.2.1∧WkD q.2.2 q.1 fr1)
 (hr:runJ1 C base ih o fr h=some q):∃fr1,evOps C.call base (o::r) fr0 h=.ok fr1 q.2.1∧WkD q.2.2 q.1 fr1:=by
 obtain⟨e1,e2⟩:=rdOk_ev hd hw
 unfold runJ1 at hr
 cases hwd:wanted o.g fr with
 |none=>rw[hwd] at hr;cases hr
 |some b=>
  rw[hwd] at hr
  cases b with
  |false=>
   rw[evOps_skip (by rw[←e2];exact hwd)]
   exact hI _ _ _ hr _ (hw.set _ _)
  |true=>
   replace hr:(R.rec none (fun v h'=>ih (setD o.dst v fr) h') (evOp C.call o.op fr h (Nat.add base o.k)):JR)=some q:=hr
   cases he:evOp C.call o.op fr h (Nat.add base o.k) with
   |no=>rw[he] at hr;cases hr
   |ok v h1=>
    rw[he] at hr
    rw[evOps_run (by rw[←e2];exact hwd) (by rw[←evOp_congr e1];exact he)]
    exact hI _ _ _ hr _ (hw.set _ _)
theorem evJ_sound:∀(n:Nat) (ops:List AO) (fr:T AV) (h:H) (Rs D:T Unit) (q:T AV×H×T Unit),evJ C base n ops fr h Rs D=some q→∀fr0,WkD D fr fr0→∃fr1,evOps C.call base ops fr0 h=.ok fr1 q.2.1∧WkD q.2.2 q.1 fr1
 |0,_,_,_,_,_,_,hr=>by cases hr
 |n+1,[],fr,h,Rs,D,q,hr=>fun fr0 hw=>by
  injection(show some (fr,h,D)=some q from hr) with hr;subst hr;exact⟨fr0,rfl,hw⟩
 |n+1,o::r,fr,h,Rs,D,q,hr=>fun fr0 hw=>by
  replace hr:cd (rdOk D o)
   (Option.rec (runJ1 C base (fun fr h=>evJ C base n r fr h Rs D) o fr h)
    (fun g=>cd (grpQ Rs fr g.1)
     (Option.rec none (fun sg=>cd (grpK C D (sg.1++[sg.2.1]))
      (Option.rec none (fun d=>Option.rec none (fun b=>
       Option.rec none (fun v=>evJ C base n sg.2.2 (T.set d (.b v) (clrL sg.1 fr)) h Rs (addL sg.1 D))
        (grpV d b g.2 (evJ C base n (sg.1++[sg.2.1]) (T.set g.1 (.b g.2) fr) h (T.set g.1 () Rs) D) (evOps C.call base (sg.1++[sg.2.1]) (T.set g.1 (.b (!g.2)) fr) h)))
       (bOf (getV fr g.1))) sg.2.1.dst) none) (segOf g.1 (o::r)))
     (runJ1 C base (fun fr h=>evJ C base n r fr h Rs D) o fr h)) o.g)
   none=some q:=hr
  cases hrd:rdOk D o with
  |false=>rw[hrd] at hr;cases hr
  |true=>
  rw[hrd] at hr
  have plain:=fun hr=>runJ1_sound (C:=C) (base:=base) (h:=h) (q:=q) (o:=o) (r:=r) (ih:=fun fr h=>evJ C base n r fr h Rs D) hrd hw (fun fr h q hq fr0 hw=>evJ_sound n r fr h Rs D q hq fr0 hw) hr
  cases hg:o.g with
  |none=>rw[hg] at hr;exact plain hr
  |some g=>
  rw[hg] at hr
  replace hr:cd (grpQ Rs fr g.1)
          (Option.rec none (fun sg=>cd (grpK C D (sg.1++[sg.2.1]))
           (Option.rec none (fun d=>Option.rec none (fun b=>
            Option.rec none (fun v=>evJ C base n sg.2.2 (T.set d (.b v) (clrL sg.1 fr)) h Rs (addL sg.1 D))
             (grpV d b g.2 (evJ C base n (sg.1++[sg.2.1]) (T.set g.1 (.b g.2) fr) h (T.set g.1 () Rs) D) (evOps C.call base (sg.1++[sg.2.1]) (T.set g.1 (.b (!g.2)) fr) h)))
            (bOf (getV fr g.1))) sg.2.1.dst) none) (segOf g.1 (o::r)))
          (runJ1 C base (fun fr h=>evJ C base n r fr h Rs D) o fr h)=some q:=hr
  cases hfp:grpQ Rs fr g.1 with
  |false=>rw[hfp] at hr;exact plain hr
  |true=>
  rw[hfp] at hr
  cases hsg:segOf g.1 (o::r) with
  |none=>rw[hsg] at hr;cases hr
  |some sg=>
  obtain⟨arm,pk,rest⟩:=sg
  rw[hsg] at hr
  replace hr:cd (grpK C D (arm++[pk]))
   (Option.rec none (fun d=>Option.rec none (fun b=>
    Option.rec none (fun v=>evJ C base n rest (T.set d (.b v) (clrL arm fr)) h Rs (addL arm D))
     (grpV d b g.2 (evJ C base n (arm++[pk]) (T.set g.1 (.b g.2) fr) h (T.set g.1 () Rs) D) (evOps C.call base (arm++[pk]) (T.set g.1 (.b (!g.2)) fr) h)))
    (bOf (getV fr g.1))) pk.dst) none=some q:=hr
  cases hk:grpK C D (arm++[pk]) with
  |false=>rw[hk] at hr;cases hr
  |true=>
  rw[hk] at hr
  obtain⟨hk1,hk2⟩:=cd_true hk
  cases hd:pk.dst with
  |none=>rw[hd] at hr;cases hr
  |some d=>
  rw[hd] at hr
  cases hb:bOf (getV fr g.1) with
  |none=>
   replace hr:(Option.rec none (fun b=>Option.rec none (fun v=>evJ C base n rest (T.set d (.b v) (clrL arm fr)) h Rs (addL arm D))
    (grpV d b g.2 (evJ C base n (arm++[pk]) (T.set g.1 (.b g.2) fr) h (T.set g.1 () Rs) D) (evOps C.call base (arm++[pk]) (T.set g.1 (.b (!g.2)) fr) h)))
    (bOf (getV fr g.1)):JR)=some q:=hr
   rw[hb] at hr;cases hr
  |some b=>
  replace hr:(Option.rec none (fun b=>Option.rec none (fun v=>evJ C base n rest (T.set d (.b v) (clrL arm fr)) h Rs (addL arm D))
              (grpV d b g.2 (evJ C base n (arm++[pk]) (T.set g.1 (.b g.2) fr) h (T.set g.1 () Rs) D) (evOps C.call base (arm++[pk]) (T.set g.1 (.b (!g.2)) fr) h)))
   (bOf (getV fr g.1)):JR)=some q:=hr
  rw[hb] at hr
  replace hr:(Option.rec none (fun v=>evJ C base n rest (T.set d (.b v) (clrL arm fr)) h Rs (addL arm D))
              (grpV d b g.2 (evJ C base n (arm++[pk]) (T.set g.1 (.b g.2) fr) h (T.set g.1 () Rs) D) (evOps C.call base (arm++[pk]) (T.set g.1 (.b (!g.2)) fr) h)):JR)=some q:=hr
  have hb:=bOf_eq hb
  unfold grpV at hr
  have unt:∀(y:Bool) (fu:T AV) (hu':H),b= !g.2→evOps C.call base (arm++[pk]) (T.set g.1 (.b (!g.2)) fr) h=.ok fu hu'→getV fu d=.b y→∀v,v=y→evJ C base n rest (T.set d (.b v) (clrL arm fr)) h Rs (addL arm D)=some q→∃fr1,evOps C.call base (o::r) fr0 h=.ok fr1 q.2.1∧WkD q.2.2 q.1 fr1:=by
   intro y fu hu' hbn hu hy v hv hr
   rw[segOf_eq hsg,show arm++pk::rest=(arm++[pk])++rest by simp]
   have hw':WkD D (T.set g.1 (.b (!g.2)) fr) fr0:=fun p=>by
    rw[getV_set]
    by_cases hp:p=g.1
    ·rw[if_pos hp,hp,←hbn,←hb];exact hw g.1
    ·rw[if_neg hp];exact hw p
   obtain⟨fr1,g1,g2⟩:=evOps_wk hk1 hw' hu
   have g1':=g1
   rw[evOps_pure hk2 g1] at g1'
   rw[evOps_app _ _ _ g1']
   exact evJ_sound n rest _ _ _ _ _ hr fr1 (grp_wk hw g1 hd hy g2 hv)
  cases ht:evJ C base n (arm++[pk]) (T.set g.1 (.b g.2) fr) h (T.set g.1 () Rs) D with
  |none=>
   rw[ht] at hr
   replace hr:(Option.rec none (fun v=>evJ C base n rest (T.set d (.b v) (clrL arm fr)) h Rs (addL arm D)) (cd (mrgB b g.2 false true) (FR.rec none (fun fu _=>bOf (getV fu d)) (evOps C.call base (arm++[pk]) (T.set g.1 (.b (!g.2)) fr) h)) none:Option Bool):JR)=some q:=hr
   cases hm:mrgB b g.2 false true with
   |false=>rw[hm] at hr;cases hr
   |true=>
    rw[hm] at hr
    have hbn:b= !g.2:=by
     generalize g.2=w at hm
     cases b<;>cases w<;>first|rfl|cases hm
    cases hu:evOps C.call base (arm++[pk]) (T.set g.1 (.b (!g.2)) fr) h with
    |no=>rw[hu] at hr;cases hr
    |ok fu hu'=>
     rw[hu] at hr
     replace hr:(Option.rec none (fun v=>evJ C base n rest (T.set d (.b v) (clrL arm fr)) h Rs (addL arm D)) (bOf (getV fu d)):JR)=some q:=hr
     cases hy:bOf (getV fu d) with
     |none=>rw[hy] at hr;cases hr
     |some y=>rw[hy] at hr;exact unt y fu hu' hbn hu (bOf_eq hy) y rfl hr
  |some t=>
  rw[ht] at hr
  cases hu:evOps C.call base (arm++[pk]) (T.set g.1 (.b (!g.2)) fr) h with
  |no=>rw[hu] at hr;cases hr
  |ok fu hu'=>
  rw[hu] at hr
  replace hr:(Option.rec none (fun v=>evJ C base n rest (T.set d (.b v) (clrL arm fr)) h Rs (addL arm D)) (Option.rec none (fun x=>Option.rec none (fun y=>some (mrgB b g.2 x y)) (bOf (getV fu d))) (bOf (getV t.1 d)):Option Bool):JR)=some q:=hr
  cases hx:bOf (getV t.1 d) with
  |none=>rw[hx] at hr;cases hr
  |some x=>
  rw[hx] at hr
  replace hr:(Option.rec none (fun v=>evJ C base n rest (T.set d (.b v) (clrL arm fr)) h Rs (addL arm D)) (Option.rec none (fun y=>some (mrgB b g.2 x y)) (bOf (getV fu d)):Option Bool):JR)=some q:=hr
  cases hy:bOf (getV fu d) with
  |none=>rw[hy] at hr;cases hr
  |some y=>
  rw[hy] at hr
  replace hr:evJ C base n rest (T.set d (.b (mrgB b g.2 x y)) (clrL arm fr)) h Rs (addL arm D)=some q:=hr
  have hx:=bOf_eq hx
  have hy:=bOf_eq hy
  rw[segOf_eq hsg,show arm++pk::rest=(arm++[pk])++rest by simp]
  by_cases hbq:b=g.2
  ·have hw':WkD D (T.set g.1 (.b g.2) fr) fr0:=fun p=>by
    rw[getV_set]
    by_cases hp:p=g.1
    ·rw[if_pos hp,hp,←hbq,←hb];exact hw g.1
    ·rw[if_neg hp];exact hw p
   obtain⟨fr1,g1,g2⟩:=evJ_sound n _ _ _ _ _ _ ht fr0 hw'
   have g1':=g1
   rw[evOps_pure hk2 g1] at g1'
   rw[evOps_app _ _ _ g1']
   exact evJ_sound n rest _ _ _ _ _ hr fr1 (grp_wk hw g1 hd hx g2 (by rw[hbq];cases g.2<;>rfl))
  ·have hbn:b= !g.2:=by cases b<;>cases hg2:g.2<;>simp_all
   rw[show(arm++[pk])++rest=o::r by rw[segOf_eq hsg];simp]
   exact unt y fu hu' hbn hu hy _ (by rw[hbn];cases g.2<;>rfl) hr
end
end Go.Ev
end
noncomputable section
namespace Go.Ev
open Go.Proofs
structure RS where
 ops:List AO
 fr:T AV
 h:H
 Rs:T Unit
 D:T Unit
def RJ (C:CJ) (base:Nat) (s:RS) (Q:T AV→H→Prop):Prop:=
 ∀fr0,WkD s.D s.fr fr0→∃fr1 h1 fr2 D2,evOps C.call base s.ops fr0 s.h=.ok fr1 h1∧WkD D2 fr2 fr1∧Q fr2 h1
def jrS (x:JR):Bool:=Option.rec false (fun _=>true) x
def jrF (x:JR):T AV:=Option.rec .e (fun q=>q.1) x
def jrH (x:JR):H:=Option.rec H0 (fun q=>q.2.1) x
def jrD (x:JR):T Unit:=Option.rec .e (fun q=>q.2.2) x
def RS.all (s:RS) (C:CJ) (base:Nat):JR:=evJ C base 1000 s.ops s.fr s.h s.Rs s.D
def RS.fst (s:RS) (C:CJ) (base k:Nat):JR:=evJ C base 1000 (s.ops.take k) s.fr s.h s.Rs s.D
def RS.at (s:RS) (C:CJ) (base k:Nat):RS:=⟨s.ops.drop k,jrF (s.fst C base k),jrH (s.fst C base k),s.Rs,jrD (s.fst C base k)⟩
def RS.op (s:RS):AO:=opA s.ops 0
def RS.put (s:RS) (v:AV) (h:H):RS:=⟨s.ops.drop 1,setD s.op.dst v s.fr,h,s.Rs,s.D⟩
def isT (o:Option Bool):Bool:=Option.rec false (fun b=>b) o
def RS.okR (s:RS) (C:CJ) (base k:Nat):Bool:=cd (jrS (s.fst C base k)) (cd (Nat.blt 0 (s.at C base k).ops.length) (rdOk (s.at C base k).D (s.at C base k).op) false) false
def RS.okS (s:RS) (C:CJ) (base k:Nat):Bool:=cd (s.okR C base k) (isT (wanted (s.at C base k).op.g (s.at C base k).fr)) false
section
variable {C:CJ}{base:Nat}{s:RS}{Q:T AV→H→Prop}
theorem RJ.fin (hok:jrS (s.all C base)=true) (hq:Q (jrF (s.all C base)) (jrH (s.all C base))):RJ C base s Q:=by
 intro fr0 hw
 cases he:s.all C base with
 |none=>rw[he] at hok;cases hok
 |some q=>
  rw[he] at hq
  obtain⟨fr1,h1,h2⟩:=evJ_sound _ _ _ _ _ _ _ he fr0 hw
  exact⟨fr1,q.2.1,q.1,q.2.2,h1,h2,hq⟩
theorem RJ.upto (k:Nat) (hok:jrS (s.fst C base k)=true) (hr:RJ C base (s.at C base k) Q):RJ C base s Q:=by
 intro fr0 hw
 cases he:s.fst C base k with
 |none=>rw[he] at hok;cases hok
 |some q=>
  obtain⟨fr1,h1,h2⟩:=evJ_sound _ _ _ _ _ _ _ he fr0 hw
  unfold RS.at at hr
  rw[he] at hr
  obtain⟨fr2,h3,fr4,D4,g1,g2,g3⟩:=hr fr1 h2
  refine⟨fr2,h3,fr4,D4,?_,g2,g3⟩
  have:=evOps_app C.call (s.ops.take k) (s.ops.drop k) h1
  rw[Ly] at this
  rw[this];exact g1
theorem okR_inv {k:Nat} (h:s.okR C base k=true):jrS (s.fst C base k)=true∧(s.at C base k).ops=(s.at C base k).op::(s.at C base k).ops.drop 1∧rdOk (s.at C base k).D (s.at C base k).op=true:=by
 obtain⟨h1,h2⟩:=cd_true h
 obtain⟨h2,h3⟩:=cd_true h2
 exact⟨h1,by have:=opA_drop h2;rw[List.drop_zero] at this;exact this,h3⟩
theorem isT_eq {o:Option Bool} (h:isT o=true):o=some true:=by
 cases o with
 |none=>cases h
 |some b=>have h:b=true:=h;rw[h]
theorem okS_inv {k:Nat} (h:s.okS C base k=true):s.okR C base k=true∧wanted (s.at C base k).op.g (s.at C base k).fr=some true:=by
 obtain⟨h1,h2⟩:=cd_true h
 exact⟨h1,isT_eq h2⟩
theorem RJ.one (k:Nat) (hr:RunOps C.call base [(s.at C base k).op] (s.at C base k).fr (s.at C base k).h (fun fr' h'=>RJ C base ⟨(s.at C base k).ops.drop 1,fr',h',s.Rs,(s.at C base k).D⟩ Q)) (hok:s.okR C base k=true):RJ C base s Q:=by
 obtain⟨h1,h2,h3⟩:=okR_inv hok
 refine RJ.upto k h1 ?_
 intro fr0 hw
 obtain⟨fr',h',g1,g2⟩:=hr
 obtain⟨fr1,g3,g4⟩:=evOps_wk (l:=[(s.at C base k).op]) (D:=(s.at C base k).D) (show cd (rdOk (s.at C base k).D (s.at C base k).op) true false=true by rw[h3];rfl) hw g1
 obtain⟨fr2,h4,fr5,D5,g5,g6,g7⟩:=g2 fr1 g4
 refine⟨fr2,h4,fr5,D5,?_,g6,g7⟩
 have:=evOps_app C.call [(s.at C base k).op] ((s.at C base k).ops.drop 1) g3
 rw[h2]
 show evOps C.call base ([(s.at C base k).op]++(s.at C base k).ops.drop 1) fr0 (s.at C base k).h=_
 rw[this];exact g5
theorem RJ.step (k:Nat) (v:AV) (h':H) (hv:evOp C.call (s.at C base k).op.op (s.at C base k).fr (s.at C base k).h (Nat.add base (s.at C base k).op.k)=.ok v h') (hr:RJ C base ((s.at C base k).put v h') Q) (hok:s.okS C base k=true):RJ C base s Q:=by
 obtain⟨h1,h2⟩:=okS_inv hok
 refine RJ.one k ?_ h1
 refine⟨setD (s.at C base k).op.dst v (s.at C base k).fr,h',?_,hr⟩
 rw[evOps_run h2 hv];rfl
theorem RJ.split (k:Nat) (p:List Bool) (b:Bool) (ht:b=true→RJ C base ⟨(s.at C base k).ops,T.set p (.b true) (s.at C base k).fr,(s.at C base k).h,T.set p () s.Rs,(s.at C base k).D⟩ Q)
 (hf:b=false→RJ C base ⟨(s.at C base k).ops,T.set p (.b false) (s.at C base k).fr,(s.at C base k).h,T.set p () s.Rs,(s.at C base k).D⟩ Q) (hok:jrS (s.fst C base k)=true) (hv:T.get p (s.at C base k).fr=some (.b b)):RJ C base s Q:=by
 refine RJ.upto k hok ?_
 have hs:=T.set_self p _ _ hv
 cases b with
 |true=>have:=ht rfl;rw[hs] at this;exact this
 |false=>have:=hf rfl;rw[hs] at this;exact this
theorem RJ.value (k:Nat) (p:List Bool) (v v':AV) (he:v=v') (hr:RJ C base ⟨(s.at C base k).ops,T.set p v' (s.at C base k).fr,(s.at C base k).h,s.Rs,(s.at C base k).D⟩ Q) (hok:jrS (s.fst C base k)=true) (hv:T.get p (s.at C base k).fr=some v):RJ C base s Q:=by
 subst he
 refine RJ.upto k hok ?_
 rw[T.set_self p _ _ hv] at hr;exact hr
theorem RJ.mono {Q':T AV→H→Prop} (h:RJ C base s Q) (hq:∀fr h,Q fr h→Q' fr h):RJ C base s Q':=fun fr0 hw=>by
 obtain⟨a,b,c,d,h1,h2,h3⟩:=h fr0 hw
 exact⟨a,b,c,d,h1,h2,hq _ _ h3⟩
def grpA (s:RS) (g:List Bool):List AO:=Option.rec [] (fun q=>q.1++[q.2.1]) (segOf g s.ops)
def grpB (s:RS) (g:List Bool):List AO:=Option.rec [] (fun q=>q.1) (segOf g s.ops)
def grpR (s:RS) (g:List Bool):List AO:=Option.rec [] (fun q=>q.2.2) (segOf g s.ops)
def grpD (s:RS) (g:List Bool):List Bool:=Option.rec [] (fun q=>Option.rec [] (fun d=>d) q.2.1.dst) (segOf g s.ops)
def grpO (C:CJ) (s:RS) (g:List Bool):Bool:=Option.rec false (fun q=>cd (Option.rec false (fun _=>true) q.2.1.dst) (grpK C s.D (q.1++[q.2.1])) false) (segOf g s.ops)
def fbO (x:FR) (d:List Bool):Option Bool:=FR.rec none (fun fr _=>bOf (getV fr d)) x
theorem RJ.grp (k:Nat) (g:List Bool) (q b x y:Bool) (harm:b=q→RJ C base ⟨grpA (s.at C base k) g,T.set g (.b q) (s.at C base k).fr,(s.at C base k).h,T.set g () s.Rs,(s.at C base k).D⟩ (fun fr _=>getV fr (grpD (s.at C base k) g)=.b x))
 (hr:RJ C base ⟨grpR (s.at C base k) g,T.set (grpD (s.at C base k) g) (.b (mrgB b q x y)) (clrL (grpB (s.at C base k) g) (s.at C base k).fr),(s.at C base k).h,s.Rs,addL (grpB (s.at C base k) g) (s.at C base k).D⟩ Q)
 (hok:cd (jrS (s.fst C base k)) (grpO C (s.at C base k) g) false=true) (hv:T.get g (s.at C base k).fr=some (.b b))
 (hu:fbO (evOps C.call base (grpA (s.at C base k) g) (T.set g (.b (!q)) (s.at C base k).fr) (s.at C base k).h) (grpD (s.at C base k) g)=some y):RJ C base s Q:=by
 obtain⟨h1,h2⟩:=cd_true hok
 refine RJ.upto k h1 ?_
 generalize s.at C base k=s' at*
 intro fr0 hw
 unfold grpO at h2
 unfold grpA grpD at harm hu
 unfold grpR grpD grpB at hr
 cases hsg:segOf g s'.ops with
 |none=>rw[hsg] at h2;cases h2
 |some sg=>
 obtain⟨arm,pk,rest⟩:=sg
 rw[hsg] at h2 harm hu hr
 obtain⟨h3,h4⟩:=cd_true h2
 cases hd:pk.dst with
 |none=>replace h3:(Option.rec false (fun _=>true) pk.dst:Bool)=true:=h3;rw[hd] at h3;cases h3
 |some d=>
 replace harm:b=q→RJ C base ⟨arm++[pk],T.set g (.b q) s'.fr,s'.h,T.set g () s.Rs,s'.D⟩ (fun fr _=>getV fr (Option.rec [] (fun d=>d) pk.dst)=.b x):=harm
 replace hu:fbO (evOps C.call base (arm++[pk]) (T.set g (.b (!q)) s'.fr) s'.h) (Option.rec [] (fun d=>d) pk.dst)=some y:=hu
 replace hr:RJ C base ⟨rest,T.set (Option.rec [] (fun d=>d) pk.dst) (.b (mrgB b q x y)) (clrL arm s'.fr),s'.h,s.Rs,addL arm s'.D⟩ Q:=hr
 rw[hd] at harm hu hr
 obtain⟨hk1,hk2⟩:=cd_true h4
 have hb:getV s'.fr g=.b b:=by unfold getV;rw[hv]
 rw[segOf_eq hsg,show arm++pk::rest=(arm++[pk])++rest by simp]
 by_cases hbq:b=q
 ·have hw':WkD s'.D (T.set g (.b q) s'.fr) fr0:=fun p=>by
   rw[getV_set]
   by_cases hp:p=g
   ·rw[if_pos hp,hp,←hbq,←hb];exact hw g
   ·rw[if_neg hp];exact hw p
  obtain⟨fr1,h5,fr2,D2,g1,g2,g3⟩:=harm hbq fr0 hw'
  have g1':=g1
  rw[evOps_pure hk2 g1] at g1'
  rw[evOps_app _ _ _ g1']
  exact hr fr1 (grp_wk hw g1 hd g3 g2 (by rw[hbq];cases q<;>rfl))
 ·have hbn:b= !q:=by cases b<;>cases q<;>simp_all
  have hw':WkD s'.D (T.set g (.b (!q)) s'.fr) fr0:=fun p=>by
   rw[getV_set]
   by_cases hp:p=g
   ·rw[if_pos hp,hp,←hbn,←hb];exact hw g
   ·rw[if_neg hp];exact hw p
  cases hev:evOps C.call base (arm++[pk]) (T.set g (.b (!q)) s'.fr) s'.h with
  |no=>rw[hev] at hu;cases hu
  |ok fu h5=>
  rw[hev] at hu
  have hy:=bOf_eq (show bOf (getV fu d)=some y from hu)
  obtain⟨fr1,g1,g2⟩:=evOps_wk hk1 hw' hev
  have g1':=g1
  rw[evOps_pure hk2 g1] at g1'
  rw[evOps_app _ _ _ g1']
  exact hr fr1 (grp_wk hw g1 hd hy g2 (by rw[hbn];cases q<;>rfl))
theorem zo (k:Nat) (hr:RunOps C.call base [(s.at C base k).op] (s.at C base k).fr (s.at C base k).h (fun fr' h'=>RJ C base ⟨(s.at C base k).ops.drop 1,fr',h',s.Rs,(s.at C base k).D⟩ Q)) (hok:s.okR C base k=true:=by kernel_rfl):RJ C base s Q:=RJ.one k hr hok
theorem yv (k p:Nat) (v v':AV) (he:v=v') (hr:RJ C base ⟨(s.at C base k).ops,T.set (path p) v' (s.at C base k).fr,(s.at C base k).h,s.Rs,(s.at C base k).D⟩ Q) (hok:jrS (s.fst C base k)=true:=by kernel_rfl) (hv:T.get (path p) (s.at C base k).fr=some v:=by kernel_rfl):RJ C base s Q:=RJ.value k (path p) v v' he hr hok hv
theorem yg (k g:Nat) (q b x:Bool) (harm:b=q→RJ C base ⟨grpA (s.at C base k) (path g),T.set (path g) (.b q) (s.at C base k).fr,(s.at C base k).h,T.set (path g) () s.Rs,(s.at C base k).D⟩ (fun fr _=>getV fr (grpD (s.at C base k) (path g))=.b x))
 (hr:RJ C base ⟨grpR (s.at C base k) (path g),T.set (grpD (s.at C base k) (path g)) (.b (mrgB b q x (!q))) (clrL (grpB (s.at C base k) (path g)) (s.at C base k).fr),(s.at C base k).h,s.Rs,addL (grpB (s.at C base k) (path g)) (s.at C base k).D⟩ Q)
 (hok:cd (jrS (s.fst C base k)) (grpO C (s.at C base k) (path g)) false=true:=by kernel_rfl) (hv:T.get (path g) (s.at C base k).fr=some (.b b):=by kernel_rfl)
 (hu:fbO (evOps C.call base (grpA (s.at C base k) (path g)) (T.set (path g) (.b (!q)) (s.at C base k).fr) (s.at C base k).h) (grpD (s.at C base k) (path g))=some (!q):=by kernel_rfl):RJ C base s Q:=RJ.grp k (path g) q b x (!q) harm hr hok hv hu
theorem yf (hq:Q (jrF (s.all C base)) (jrH (s.all C base))) (hok:jrS (s.all C base)=true:=by kernel_rfl):RJ C base s Q:=RJ.fin hok hq
theorem ya {d:List Bool}{x:Bool} (hok:jrS (s.all C base)=true:=by kernel_rfl) (hx:getV (jrF (s.all C base)) d=.b x:=by kernel_rfl):RJ C base s (fun fr _=>getV fr d=.b x):=RJ.fin hok hx
theorem ev_ia {o:AOp}{fr:T AV}{call:CallF}{h:H}{id:Nat}{t:Ty}{xs:List (den t)}{i:Nat} (hx:i<xs.length) (hv:viewIa o fr=some (wd t,.isl t xs,i)):evOp call o fr h id=.ok (.ip t (gt t xs i) 0) h:=by
 unfold viewIa at hv
 split at hv
 ·rename_i sz x' ix
  show(match asN (ev ix fr) with
   |some i=>okV _ (indexA (.sli sz) (ev x' fr) i)
   |none=>.no:R)=_
  cases hi:asN (ev ix fr) with
  |none=>rw[hi] at hv;cases hv
  |some j=>
   rw[hi] at hv
   have hv:some (sz,ev x' fr,j)=some (wd t,AV.isl t xs,i):=hv
   simp only[Oj,Prod.mk.injEq] at hv
   obtain⟨h1,h2,h3⟩:=hv
   rw[h1,h2,h3]
   show okV _ (cd (Nat.beq (wd t) (wd t)) (Option.rec none (fun c=>some (.ip t c 0)) (nth xs i)) none)=_
   rw[Nat.beq_refl,nth_eq,gt_some hx];rfl
 ·cases hv
theorem ev_ixs {o:AOp}{fr:T AV}{call:CallF}{h:H}{id:Nat}{n:Nat}{l:List Nat}{i:Nat} (hx:i<l.length) (hv:viewIxs o fr=some (.s n l,i)):evOp call o fr h id=.ok (.i .u8 (.ofNat (gc l i))) h:=by
 unfold viewIxs at hv
 split at hv
 ·rename_i x' ix
  show(Option.rec .no (fun i=>ixsA (ev x' fr) i _) (asN (ev ix fr)):R)=_
  cases hi:asN (ev ix fr) with
  |none=>rw[hi] at hv;cases hv
  |some j=>
   rw[hi] at hv
   have hv:some (ev x' fr,j)=some (AV.s n l,i):=hv
   simp only[Oj,Prod.mk.injEq] at hv
   obtain⟨h2,h3⟩:=hv
   show ixsA (ev x' fr) j _=_
   rw[h2,h3]
   show(Option.rec .no (fun c=>.ok (.i .u8 (.ofNat c)) _) (nth l i):R)=_
   rw[nth_eq,gc_some hx]
 ·cases hv
theorem ev_slc {o:AOp}{fr:T AV}{call:CallF}{h:H}{id:Nat}{sk:SK}{x v:AV}{lo hi mx:Option Nat} (hs:sliceA sk x lo hi mx=some v) (hv:viewSlc o fr=some (sk,x,lo,hi,mx)):evOp call o fr h id=.ok v h:=by
 unfold viewSlc at hv
 split at hv
 ·rename_i k' x' lo' hi' mx'
  show(match optN lo' fr,optN hi' fr,optN mx' fr with
   |some lo,some hi,some mx=>okV _ (sliceA k' (ev x' fr) lo hi mx)
   |_,_,_=>.no:R)=_
  split at hv
  ·rename_i a b c h1 h2 h3
   simp only[Oj,Prod.mk.injEq] at hv
   obtain⟨g1,g2,g3,g4,g5⟩:=hv
   rw[h1,h2,h3]
   show okV _ (sliceA k' (ev x' fr) a b c)=_
   rw[g1,g2,g3,g4,g5,hs];rfl
  ·cases hv
 ·cases hv
theorem yi (k:Nat) (t:Ty) (xs:List (den t)) (i:Nat) (hx:i<xs.length) (hr:RJ C base ((s.at C base k).put (.ip t (gt t xs i) 0) (s.at C base k).h) Q)
 (hok:s.okS C base k=true:=by kernel_rfl) (hv:viewIa (s.at C base k).op.op (s.at C base k).fr=some (wd t,.isl t xs,i):=by kernel_rfl):RJ C base s Q:=RJ.step k _ _ (ev_ia hx hv) hr hok
theorem yx (k:Nat) (l:List Nat) (i:Nat) (hx:i<l.length) (hr:RJ C base ((s.at C base k).put (.i .u8 (.ofNat (gc l i))) (s.at C base k).h) Q)
 (hok:s.okS C base k=true:=by kernel_rfl) (hv:viewIxs (s.at C base k).op.op (s.at C base k).fr=some (.s l.length l,i):=by kernel_rfl):RJ C base s Q:=RJ.step k _ _ (ev_ixs hx hv) hr hok
theorem yl (k:Nat) (t:Ty) (xs:List (den t)) (lo hi:Option Nat) (h1:orN hi xs.length≤xs.length) (h2:orN lo 0≤orN hi xs.length) (hr:RJ C base ((s.at C base k).put (.isl t ((xs.take (orN hi xs.length)).drop (orN lo 0))) (s.at C base k).h) Q)
 (hok:s.okS C base k=true:=by kernel_rfl) (hv:viewSlc (s.at C base k).op.op (s.at C base k).fr=some (.sli (wd t),.isl t xs,lo,hi,none):=by kernel_rfl):RJ C base s Q:=RJ.step k _ _ (ev_slc (sliceA_isl h1 h2) hv) hr hok
theorem yls (k:Nat) (l:List Nat) (lo hi:Option Nat) (h1:orN hi l.length≤l.length) (h2:orN lo 0≤orN hi l.length)
 (hr:RJ C base ((s.at C base k).put (.s ((l.drop (orN lo 0)).take (orN hi l.length - orN lo 0)).length ((l.drop (orN lo 0)).take (orN hi l.length - orN lo 0))) (s.at C base k).h) Q)
 (hok:s.okS C base k=true:=by kernel_rfl) (hv:viewSlc (s.at C base k).op.op (s.at C base k).fr=some (.str,.s l.length l,lo,hi,none):=by kernel_rfl):RJ C base s Q:=
 RJ.step k _ _ (ev_slc (by
   rw[sliceA_str rfl h1 h2]
   have:orN hi l.length - orN lo 0=((l.drop (orN lo 0)).take (orN hi l.length - orN lo 0)).length:=by simp only[Tk,Ld];omega
   rw[←this]) hv) hr hok
theorem ycl (k:Nat) (con:Con) (x:denL con.ps) (y:denL con.rs) (hF:con.F x=some y) (hr:RJ C base ((s.at C base k).put (encR con.rs y) (s.at C base k).h) Q)
 (hok:s.okS C base k=true:=by kernel_rfl)
 (hv:evOp C.call (s.at C base k).op.op (s.at C base k).fr (s.at C base k).h (Nat.add base (s.at C base k).op.k)=finC con.rs (s.at C base k).h (con.F x):=by kernel_rfl):RJ C base s Q:=
 RJ.step k _ _ (hv.trans (by rw[hF];rfl)) hr hok
theorem yclm (k p:Nat) (con:ConM) (x0:den con.t) (x:denL con.ps) (q:den con.t×denL con.rs) (hF:con.F x0 x=some q) (hr:RJ C base ((s.at C base k).put (encR con.rs q.2) ((s.at C base k).h.put (path p) (.cs con.el (tc con.t q.1) false))) Q)
 (hok:s.okS C base k=true:=by kernel_rfl)
 (hv:evOp C.call (s.at C base k).op.op (s.at C base k).fr (s.at C base k).h (Nat.add base (s.at C base k).op.k)=finM con (path p) (s.at C base k).h (con.F x0 x):=by kernel_rfl):RJ C base s Q:=
 RJ.step k _ _ (hv.trans (by rw[hF];rfl)) hr hok
end
section
variable {P:Program}{G:Gs}{nt:Nat}{fr:T AV}{h:H}{Q:Ex→T AV→H→Prop}
theorem Sat.wk {c:Code}{Q1:Ex→T AV→H→Prop} (hc:Sat P G nt c fr h Q1) (hq:∀ex fr' h',Q1 ex fr' h'→∃D fr2,WkD D fr2 fr'∧Q ex fr2 h'):Sat P G nt c fr h Q:=by
 intro K e a he hs hf hg hsz hp
 refine hc K e a he hs hf hg hsz (fun ex fr' h' hq1=>?_)
 obtain⟨D,fr2,h1,h2⟩:=hq ex fr' h' hq1
 intro a' e' g1 g2 g3 g4 g5 g6
 refine hp ex fr2 h' h2 a' e' g1 g2 g3 (fun k=>?_) g5 g6
 rcases h1 (path k) with g|⟨g,_⟩
 ·rw[g];exact g4 k
 ·rw[g];simp[Rel]
theorem Sat.regJ (hm:P.follows .mixedOrders=true){C:CJ} (hk:CallOK P G C.call){rid:Nat}{ops:Array Oper}
 (hr:RJ C h.next ⟨regL P G nt ops,fr,⟨Nat.add h.next (regN P G nt ops),h.t⟩,.e,.e⟩ (Q .normal)):Sat P G nt (.region rid ops false) fr h Q:=by
 obtain⟨fr1,h1,fr2,D2,g1,g2,g3⟩:=hr fr (WkD.refl _ _)
 refine Sat.wk (Q1:=fun ex fr' h'=>ex=.normal∧fr'=fr1∧h'=h1) (Sat.reg hm hk ⟨fr1,h1,g1,rfl,rfl,rfl⟩) ?_
 rintro ex fr' h' ⟨rfl,rfl,rfl⟩
 exact⟨D2,fr2,g2,g3⟩
theorem Sat.dregJ (hm:P.follows .mixedOrders=true){C:CJ} (hk:CallOK P G C.call) (hp:CallPure C.call){rid:Nat}{ops:Array Oper} (hd:dregOk P G nt ops=true)
 (hr:RJ C h.next ⟨regL P G nt ops,fr,h,.e,.e⟩ (Q .normal)):Sat P G nt (.region rid ops true) fr h Q:=by
 obtain⟨fr1,h1,fr2,D2,g1,g2,g3⟩:=hr fr (WkD.refl _ _)
 refine Sat.wk (Q1:=fun ex fr' h'=>ex=.normal∧fr'=fr1∧h'=h1) (Sat.dreg hm hk hp hd ⟨fr1,h1,g1,rfl,rfl,rfl⟩) ?_
 rintro ex fr' h' ⟨rfl,rfl,rfl⟩
 exact⟨D2,fr2,g2,g3⟩
end
end Go.Ev
end
