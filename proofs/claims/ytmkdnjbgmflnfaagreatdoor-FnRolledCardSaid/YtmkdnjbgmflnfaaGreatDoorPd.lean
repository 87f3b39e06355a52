/- A part of the proof that FnRolled returns true; no condition. -/
import Derived.Test.YtmkdnjbgmflnfaaGreatDoorPc
import Derived.Test.YtmkdnjbgmflnfaaGreatDoorPa
set_option linter.all false
set_option maxRecDepth 100000
open List renaming length→U
open Int renaming ofNat→J,toNat→Jn
noncomputable section
namespace Go.Ev
section
variable {P:Program}{G:Gs}{o:Oper}{e:Env}{a:Act}{fr:T AV}{call:CallF}{id:Nat}{ao:AOp}{v:AV}{h':H}
structure ElemsRun (P:Program) (e:Env) (sz k:Nat) (x:Value) (vs:List Value):Prop where
 len:∀w,(Builtin.lenOf x).run P w=.ok k w
 cells:∀w,w.heap=e.w.heap→(Builtin.firstCells sz k x).run P w=.ok vs.toArray w
theorem run_loadCells_heap {w w':World} (hw:w'.heap=w.heap) (b o':Nat) (vs:List Value) (h:∀j u,vs[j]? =some u→w.cell? ⟨b,o'+j,none⟩=some u):
 (loadCells ⟨b,o',none⟩ vs.length).run P w'=.ok vs.toArray w':=
 run_loadCells_at b o' vs (fun j u hj=>by rw[cell_of_heap (w:=w) (by rw[hw])];exact h j u hj)
theorem rows_flat:∀{xs:List (List AV)}{sz b o':Nat},RelRows e sz xs b o'→RelCells e xs.flatten b o'∧xs.flatten.length=xs.length*sz
 |[],_,_,_,_=>by simp[RelCells]
 |x::xs,sz,b,o',h=>by
  simp only[RelRows] at h
  obtain⟨h1,h2,h3⟩:=h
  obtain⟨h4,h5⟩:=rows_flat h3
  have app:∀(l m:List AV) (o'':Nat),RelCells e l b o''→RelCells e m b (o''+l.length)→RelCells e (l++m) b o'':=by
   intro l
   induction l with
   |nil=>intro m o'' _ h;simpa using h
   |cons y l ih=>
    intro m o'' hl hm
    simp only[RelCells,List.cons_append] at hl⊢
    exact⟨hl.1,ih m (o''+1) hl.2 (by rw[show o''+1+l.length=o''+(y::l).length by simp;omega];exact hm)⟩
  refine⟨by rw[List.flatten_cons];exact app _ _ _ h2 (by rw[h1];exact h4),?_⟩
  rw[List.flatten_cons,La,h5,h1,Lcz,Nat.add_mul];omega
theorem run_loadCells_none (ad:Addr) (w:World):(loadCells ad 0).run P w=.ok #[] w:=by
 simp[loadCells,loadCellsFrom]
theorem cellsAt_len {x:AV}{n:Nat}{h:H}{r:List AV} (hc:cellsAt x n h=some r):r.length=n:=by
 rcases cellsAt_inv hc with ⟨_,_,_,_,_,_,_,hcut⟩|⟨_,_,_,_,hcut⟩<;>exact(cut_get hcut).1
theorem elems_rel {u:AV}{cv:Value}{sz k:Nat}{cs:List AV} (hs:St e) (hr:Rel e u cv) (h:elems u sz e.h=some (cs,k)):
 ∃vs,RelL e cs vs∧(∀c∈cs,one c=true)∧cs.length=k*sz∧ElemsRun P e sz k cv vs:=by
 unfold elems at h
 split at h
 ·rename_i i off sz' n lo ex
  cases hc:cellsAt (.p i off) (Nat.mul n sz) e.h with
  |none=>rw[hc] at h;cases h
  |some l=>
   rw[hc] at h
   obtain⟨rfl,rfl⟩:l=cs∧n=k:=by
    have:=Oi (show some (l,n)=some (cs,k) from h)
    exact⟨congrArg Prod.fst this,congrArg Prod.snd this⟩
   simp only[Rel] at hr
   obtain⟨kn,ad,cap,rfl,h1,h2,h3,h4⟩:=hr
   rcases Nat.eq_zero_or_pos (n*sz) with h0|h0
   ·have hl:l=[]:=by
     have:=(cellsAt_len hc);rw[show Nat.mul n sz=n*sz from rfl,h0] at this
     exact List.eq_nil_of_length_eq_zero this
    subst hl
    refine⟨[],by simp[RelL],by simp,by simp[h0],fun w=>by simp[Builtin.lenOf],fun w _=>?_⟩
    cases ad<;>simp[Builtin.firstCells,h0,run_loadCells_none]
   ·have hcap:cap≠0:=by
     intro h;have:n=0:=om
     subst this;simp at h0
    obtain⟨rfl,_⟩:=h4.resolve_left hcap
    have hp:Rel e (.p i off) (.pointer (some ⟨(e.ρ i).1,(e.ρ i).2+off,none⟩)):=by simp[Rel,kn]
    obtain⟨b,o',hcv,hll,hcell⟩:=ptr_cells hs hp hc h0
    injection hcv with hcv
    injection hcv with hcv
    rw[hcv]
    obtain⟨vs,r1,r2,r3⟩:=relL_of (e:=e) l (fun j=>e.w.cell? ⟨b,o'+j,none⟩) (fun j y hy=>(hcell j y hy).2)
    refine⟨vs,r1,fun c hc=>?_,hll,fun w=>by simp[Builtin.lenOf],fun w hw=>?_⟩
    ·obtain⟨j,hj⟩:=List.mem_iff_getElem?.1 hc
     exact(hcell j _ hj).1
    ·have:=run_loadCells_heap (P:=P) hw b o' vs r3
     rw[r2,hll] at this
     simpa[Builtin.firstCells] using this
 ·cases h
  simp only[Rel] at hr
  obtain⟨ad,rfl⟩:=hr
  exact⟨[],by simp[RelL],by simp,by simp,fun w=>by simp[Builtin.lenOf],fun w _=>by cases ad<;>simp[Builtin.firstCells,run_loadCells_none]⟩
 ·cases h
  simp only[Rel] at hr
  obtain⟨rfl,_⟩:=hr
  exact⟨[],by simp[RelL],by simp,by simp,fun w=>by simp[Builtin.lenOf],fun w _=>by simp[Builtin.firstCells]⟩
 ·cases h
  simp only[Rel] at hr
  obtain⟨rfl,_⟩:=hr
  exact⟨[],by simp[RelL],by simp,by simp,fun w=>by simp[Builtin.lenOf],fun w _=>by simp[Builtin.firstCells,run_loadCells_none]⟩
 ·rename_i ty xs
  obtain⟨h1,hq⟩:=cd_some h
  have h1:=beq_true h1
  clear h
  subst h1
  obtain⟨rfl,rfl⟩:(xs.map (tc ty)).flatten=cs∧xs.length=k:=by
   have:=Oi hq
   exact⟨congrArg Prod.fst this,congrArg Prod.snd this⟩
  rcases rel_isl.1 hr with ⟨rfl,rfl⟩|⟨ad,cap,rfl,hle,_,hx⟩
  ·exact⟨[],by simp[RelL],by simp,by simp,fun w=>by simp[Builtin.lenOf],fun w _=>by simp[Builtin.firstCells]⟩
  rcases hx with rfl|⟨hsp,_,hrw⟩
  ·exact⟨[],by simp[RelL],by simp,by simp,fun w=>by simp[Builtin.lenOf],fun w _=>by simp[Builtin.firstCells,run_loadCells_none]⟩
  ·obtain⟨hcells,hlen⟩:=rows_flat (relT_rows hrw)
   rw[Lm] at hlen
   obtain⟨vs,r1,r2,r3⟩:=relL_of (e:=e) (xs.map (tc ty)).flatten (fun j=>e.w.cell? ⟨ad.block,ad.off+j,none⟩) (fun j y hy=>(hcells.get hy).2)
   refine⟨vs,r1,fun c hc=>?_,hlen,fun w=>by simp[Builtin.lenOf],fun w hw=>?_⟩
   ·obtain⟨j,hj⟩:=List.mem_iff_getElem?.1 hc
    exact(hcells.get hj).1
   ·have had:ad=⟨ad.block,ad.off,none⟩:=by cases ad;simp at hsp;simp[hsp]
    have:=run_loadCells_heap (P:=P) hw ad.block ad.off vs r3
    rw[r2,hlen,←had] at this
    simpa[Builtin.firstCells] using this
 ·rename_i n l
  obtain⟨h1,hq⟩:=cd_some h
  have h1:=beq_true h1
  clear h
  subst h1
  cases hq
  obtain⟨hn,h256,rfl⟩:=rel_s hr
  refine⟨_,bytes_rel l h256,fun c hc=>?_,by simp[hn],fun w=>by simp[Builtin.lenOf,strOf_size,hn],fun w _=>?_⟩
  ·obtain⟨k,_,rfl⟩:=List.mem_map.1 hc;rfl
  ·have:(strOf l).extract 0 k=strOf l:=by
    have:=strOf_extract l 0 k om
    rw[Nat.zero_add] at this
    rw[this,hn];simp
   simp only[Builtin.firstCells,this]
   simp[strOf]
 ·cases h
theorem flat_u8:∀(xs:List Int),(((show List (den (.int .u8)) from xs).map (tc (.int .u8))).flatten)=xs.map (fun n=>AV.i .u8 n)
 |[]=>rfl
 |x::xs=>by
  have ih:=flat_u8 xs
  show AV.i .u8 x::((show List (den (.int .u8)) from xs).map (tc (.int .u8))).flatten=_
  rw[ih];rfl
theorem bytes8_map:∀(xs:List Int),bytes8 (xs.map (fun n=>AV.i .u8 n))=some (xs.map b8)
 |[]=>rfl
 |x::xs=>by
  have ih:=bytes8_map xs
  show bytes8c (AV.i .u8 x) (bytes8 (xs.map (fun n=>AV.i .u8 n)))=_
  rw[ih];rfl
theorem strB_elems {x:AV}{h:H}{n:Nat}{l:List Nat} (hb:strB x h=some (n,l)):∃cs,elems x 1 h=some (cs,n)∧bytes8 cs=some l∧∀k m,x≠.s k m:=by
 unfold strB at hb
 split at hb
 ·rename_i xs
  cases hb
  refine⟨xs.map (fun n=>AV.i .u8 n),?_,bytes8_map xs,by simp⟩
  show cd (Nat.beq 1 (wd (.int .u8))) (some ((((show List (den (.int .u8)) from xs).map (tc (.int .u8))).flatten),xs.length)) none=_
  rw[flat_u8];rfl
 ·cases hb
 ·rename_i hs
  split at hb
  ·rename_i cs m he
   split at hb
   ·rename_i l' hl
    cases hb
    exact⟨cs,he,hl,hs⟩
   ·cases hb
  ·cases hb
theorem bytes8_vals:∀(cs:List AV) (l:List Nat) (vs:List Value),bytes8 cs=some l→RelL e cs vs→∃ns:List Int,vs=ns.map (Value.int .u8)∧l=ns.map b8
 |[],l,vs,h,hr=>by
  cases h
  cases vs with
  |nil=>exact⟨[],rfl,rfl⟩
  |cons v vs=>simp[RelL] at hr
 |c::cs,l,vs,h,hr=>by
  have h:bytes8c c (bytes8 cs)=some l:=h
  unfold bytes8c at h
  split at h
  ·rename_i n r hr' _
   cases h
   cases vs with
   |nil=>simp[RelL] at hr
   |cons v vs=>
    simp only[RelL] at hr
    obtain⟨ns,h1,h2⟩:=bytes8_vals cs r vs hr' hr.2
    have hv:v=.int .u8 n:=by simpa only[Rel] using hr.1
    exact⟨n::ns,by rw[hv,h1];rfl,by rw[h2];rfl⟩
  ·cases h
theorem foldl_bytes:∀(ns:List Int) (s:ByteArray),ns.foldl (fun r n=>r.push (UInt8.ofNat n.toNat)) s=⟨s.data++((ns.map b8).map UInt8.ofNat).toArray⟩
 |[],s=>by simp
 |n::ns,s=>by
  rw[List.foldl_cons,foldl_bytes ns]
  have:UInt8.ofNat (b8 n)=UInt8.ofNat n.toNat:=by
   apply UInt8.toNat_inj.1
   show(n.toNat % 256) % 256=n.toNat % 256
   omega
  simp[ByteArray.push,this]
theorem sound_cvbs {s d:TypeId}{el:TypeId}{x:Operand}{x':Od} (hs:St e) (hf:FrRel e fr a.tmps) (hg:GRel G e) (ho:o.op=.convert s d x)
 (hx:od G x=some x') (hds:P.underlying s=some (.slice el)) (hdd:P.underlying d=some .string) (hu8:isU8 P el=true)
 (hr:evOp call (.o2 (.cvbs x')) fr e.h id=.ok v h'):OpS P o e a v h':=by
 have rx:=od_rel hf hg hx
 have hel:P.underlying el=some (.int .u8):=by
  unfold isU8 at hu8
  split at hu8
  ·assumption
  ·cases hu8
 have hr:(match strB (ev x' fr) e.h with
  |some (n,l)=>cd (Nat.ble n 1152921504606846976) (.ok (.s n l) e.h) .no
  |none=>.no:R)=.ok v h':=hr
 generalize ev x' fr=u at hr rx
 split at hr
 ·rename_i n l hb
  rw[cd_eq,ble_nat] at hr
  by_cases hn:n≤1152921504606846976
  case neg=>rw[Df hn] at hr;cases hr
  rw[Dt hn] at hr
  injection(show R.ok (.s n l) e.h=.ok v h' from hr) with h1 h2;subst h1 h2
  obtain⟨cs,hel',h8,hns⟩:=strB_elems hb
  obtain⟨vs,r1,r2,r3,r4,r5⟩:=elems_rel (P:=P) hs rx hel'
  obtain⟨ns,hvs,hl⟩:=bytes8_vals cs l vs h8 r1
  have hlen:n=l.length:=by
   have h1:cs.length=ns.length:=by rw[←r1.len,hvs,Lm]
   have h2:l.length=ns.length:=by rw[hl,Lm]
   omega
  have hstr:(ByteArray.mk ((ns.map b8).map UInt8.ofNat).toArray)=strOf l:=by rw[hl];rfl
  have hfold:ns.foldl (fun r n=>r.push (UInt8.ofNat n.toNat)) ByteArray.empty=strOf l:=by
   rw[foldl_bytes,←hstr]
   show(⟨#[]++_⟩:ByteArray)=_
   simp
  have hrun:(convert s d (a.eval x)).run P e.w=.ok (.string (strOf l)) e.w:=by
   have hcv:(∃ad k c,a.eval x=.slice (some ad) k c)∨a.eval x=.slice none 0 0:=by
    cases u
    all_goals try (simp only[elems,reduceCtorEq] at hel';done)
    case sl i off sz k lo ex=>
     simp only[Rel] at rx
     obtain⟨_,ad,cap,h,g1,g2,_,g4⟩:=rx
     cases ad with
     |some ad=>exact .inl ⟨_,_,_,h⟩
     |none=>
      rcases g4 with g4|⟨g4,_⟩
      ·obtain rfl:k=0:=om
       subst g4
       exact .inr h
      ·cases g4
    case em=>simp only[Rel] at rx;obtain⟨ad,h⟩:=rx;cases ad<;>first|exact .inl ⟨_,_,_,h⟩|exact .inr h
    case v x=>
     unfold elems at hel'
     split at hel'
     ·rename_i h;cases h
     ·rename_i h;cases h
     ·rename_i h;cases h;simp only[Rel] at rx;exact .inr rx.1
     ·rename_i h;cases h;simp only[Rel] at rx;exact .inl ⟨_,_,_,rx.1⟩
     ·rename_i h;cases h
     ·rename_i h;cases h
     ·cases hel'
    case isl t xs=>
     rcases rel_isl.1 rx with ⟨_,h⟩|⟨ad,cap,h,_⟩
     ·exact .inr h
     ·exact .inl ⟨_,_,_,h⟩
    case s k m=>exact absurd rfl (hns k m)
   rcases hcv with ⟨ad,k,c,hv⟩|hv
   ·rw[hv,run_convert_bytes_string e.w s d el (some ad) k c hds hel hdd]
    have hk:k=n:=by
     have:=r4 e.w
     rw[hv] at this
     simpa[Builtin.lenOf] using this
    have h5:=r5 e.w rfl
    rw[hv] at h5
    have h5:(loadCells ad (n*1)).run P e.w=.ok vs.toArray e.w:=h5
    rw[Nat.mul_one,hvs,←hk] at h5
    rw[run_bytesToString e.w ad k c ns h5,hfold]
   ·rw[hv,run_convert_bytes_string e.w s d el none 0 0 hds hel hdd]
    have h0:n=0:=by
     have:=r4 e.w
     rw[hv] at this
     simpa[Builtin.lenOf] using this.symm
    have:l=[]:=List.eq_nil_of_length_eq_zero om
    rw[this]
    simp[Conv.bytesToString,Sem.run_pure,strOf]
    rfl
  refine OpS.same hs (cv:=.string (strOf l)) ?_ ?_
  ·simp[execOp,ho,hrun]
  ·simp only[Rel]
   refine⟨⟨hlen,hn⟩,fun c hc=>?_,trivial⟩
   rw[hl] at hc
   obtain⟨m,_,rfl⟩:=List.mem_map.1 hc
   exact Nat.mod_lt _ om
 ·cases hr
structure NewRun (P:Program) (e:Env) (ts:Array TypeId) (t el:TypeId) (i:TypeInfo) (k:Nat) (x:Value) (news:List Value):Prop where
 ht:P.underlying t=some (.slice el)
 hi:P.info? el=some i
 two:∃t',ts=#[t,t']∧((∃d,P.underlying t'=some d∧(∀q,d≠.int q)∧ElemsRun P e i.size k x news)∨
  (∃q q' z,P.underlying t'=some (.int q)∧x=.int q' (k:Int)∧k≤1099511627776∧k*i.bytes≤1099511627776∧i.zero=some z∧z.cells.size=i.size∧0<i.size∧news=rep k z.cells.toList))
theorem zeroCells_rep (z:Array Value) (k:Nat) (hz:0<z.size):Builtin.zeroCells z k=(rep k z.toList).toArray:=by
 unfold Builtin.zeroCells
 rw[←rep_array z k _ hz rfl]
theorem run_append_in {ts:Array TypeId}{t el:TypeId}{i:TypeInfo}{k:Nat}{x:Value}{news:List Value} (hn:NewRun P e ts t el i k x news){ty:TypeId}{base:Option Addr}{n cap:Nat} (hcap:n+k≤cap)
 {w':World} (hst:∀ad,base=some ad→(storeCells (ad.add (n*i.size)) news).run P e.w=.ok () w') (hb:base=none→w'=e.w):
 (Builtin.append_ ts ty #[.slice base n cap,x]).run P e.w=.ok (.slice base (n+k) cap) w':=by
 obtain⟨ht,hi,t',rfl,h|h⟩:=hn
 ·obtain⟨d,hd,hq,he⟩:=h
  have hnz:(match d with|.int _=>true|_=>false)=false:=by cases d<;>first|rfl|exact absurd rfl (hq _)
  cases base with
  |none=>
   obtain rfl:=hb rfl
   simp[Builtin.append_,run_underlying ht,run_underlying hd,sizeOf,run_info hi,hnz,he.len,hcap,he.cells]
  |some ad=>
   simp[Builtin.append_,run_underlying ht,run_underlying hd,sizeOf,run_info hi,hnz,he.len,hcap,he.cells,hst ad rfl]
 ·obtain⟨q,q',z,hd,rfl,hk,hkb,hz,hzs,hz0,rfl⟩:=h
  have hw:IntKind.i64.wrap (k:Int)=(k:Int):=wrap_in _ _ ⟨by show(-9223372036854775808:Int)≤k;omega,by show(k:Int)≤9223372036854775807;omega⟩
  have hneg:¬((k:Int)<0):=om
  have hbig:¬(281474976710656<(k:Int)*(i.bytes:Int)):=by
   have:((k*i.bytes:Nat):Int)≤1099511627776:=om
   rw[Int.natCast_mul] at this;omega
  have hzc:Builtin.zeroCells z.cells k=(rep k z.cells.toList).toArray:=zeroCells_rep _ _ om
  rcases Nat.eq_zero_or_pos k with h0|h0
  ·subst h0
   have hw0:IntKind.i64.wrap 0=0:=by decide
   cases base with
   |none=>
    obtain rfl:=hb rfl
    simp[Builtin.append_,run_underlying ht,run_underlying hd,sizeOf,run_info hi,asInt,asIntOf,hw0,show n≤cap by omega]
   |some ad=>
    have:=hst ad rfl
    simp only[rep] at this
    simp[Builtin.append_,run_underlying ht,run_underlying hd,sizeOf,run_info hi,asInt,asIntOf,hw0,show n≤cap by omega,this]
  ·have hks:¬(k=0∨i.size=0):=om
   cases base with
   |none=>
    obtain rfl:=hb rfl
    simp[Builtin.append_,run_underlying ht,run_underlying hd,sizeOf,run_info hi,asInt,asIntOf,hw,hneg,hbig,hcap,hks,zeroValue,hz]
   |some ad=>
    simp[Builtin.append_,run_underlying ht,run_underlying hd,sizeOf,run_info hi,asInt,asIntOf,hw,hneg,hbig,hcap,hks,zeroValue,hz,hzc,hst ad rfl]
    intro h;rcases Nat.mul_eq_zero.1 h with h|h<;>omega
theorem run_append_out {ts:Array TypeId}{t el:TypeId}{i:TypeInfo}{k:Nat}{x:Value}{news:List Value} (hn:NewRun P e ts t el i k x news){z:Value} (hz:i.zero=some z){ty:TypeId}{base:Option Addr}{n cap:Nat} (hcap:cap<n+k)
 {olds:List Value} (hold:∀w,w.heap=e.w.heap→(Builtin.firstCells i.size n (.slice base n cap)).run P w=.ok olds.toArray w) (hroom:(n+k)*i.bytes≤1099511627776) (hb:0<i.bytes):
 (Builtin.append_ ts ty #[.slice base n cap,x]).run P e.w=.ok (.slice (some ⟨e.w.heap.size,0,none⟩) (n+k) (grownCap e.w (n+k) cap el))
  (e.w.drew.alloc (.cells ((olds++news).toArray++Builtin.zeroCells z.cells (grownCap e.w (n+k) cap el - (n+k))) el)):=by
 have hnk:n+k≤1099511627776:=Nt (Nat.le_mul_of_pos_right _ hb) hroom
 have hn':¬(n+k≤cap):=om
 have h63:¬(9223372036854775807<((n:Int)+(k:Int))):=om
 have h48:¬(281474976710656<Builtin.nextslicecap (n+k) cap*i.bytes):=by
  have:=growslice_fits (bytes:=i.bytes) hcap om;omega
 obtain⟨ht,hi,t',rfl,h|h⟩:=hn
 ·obtain⟨d,hd,hq,he⟩:=h
  have hnz:(match d with|.int _=>true|_=>false)=false:=by cases d<;>first|rfl|exact absurd rfl (hq _)
  simp[Builtin.append_,run_underlying ht,run_underlying hd,sizeOf,typeInfo,zeroValue,hi,hz,hnz,he.len,hn',h63,h48,Question.forced,newRow,hold e.w.drew rfl,he.cells e.w.drew rfl]
  refine⟨rfl,?_⟩
  congr 2
  rw[←List.append_toArray,Array.append_assoc];rfl
 ·obtain⟨q,q',z',hd,rfl,hk,hkb,hz',hzs,hz0,rfl⟩:=h
  rw[hz] at hz'
  obtain rfl:=Oi hz'
  have hw:IntKind.i64.wrap (k:Int)=(k:Int):=wrap_in _ _ ⟨by show(-9223372036854775808:Int)≤k;omega,by show(k:Int)≤9223372036854775807;omega⟩
  have hneg:¬((k:Int)<0):=om
  have hbig:¬(281474976710656<(k:Int)*(i.bytes:Int)):=by
   have:((k*i.bytes:Nat):Int)≤1099511627776:=om
   rw[Int.natCast_mul] at this;omega
  have hzc:Builtin.zeroCells z.cells k=(rep k z.cells.toList).toArray:=zeroCells_rep _ _ om
  rcases Nat.eq_zero_or_pos k with h0|h0
  ·subst h0
   have hw0:IntKind.i64.wrap 0=0:=by decide
   have hn2:¬(n≤cap):=om
   have h63':¬(9223372036854775807<(n:Int)):=om
   have h48':¬(281474976710656<Builtin.nextslicecap n cap*i.bytes):=h48
   simp[Builtin.append_,run_underlying ht,run_underlying hd,sizeOf,typeInfo,zeroValue,hi,hz,asInt,asIntOf,hw0,hn2,h63',h48',Question.forced,newRow,hold e.w.drew rfl,rep]
   exact⟨rfl,rfl⟩
  ·have hks:¬(k=0∨i.size=0):=om
   have hks2:¬(k*i.size=0):=by intro h;rcases Nat.mul_eq_zero.1 h with h|h<;>omega
   simp[Builtin.append_,run_underlying ht,run_underlying hd,sizeOf,typeInfo,zeroValue,hi,hz,asInt,asIntOf,hw,hneg,hbig,hn',h63,h48,Question.forced,newRow,hold e.w.drew rfl,hks,hzc,hks2]
   refine⟨rfl,?_⟩
   congr 2
   rw[←List.append_toArray,Array.append_assoc];rfl
end
end Go.Ev
namespace Go.Ev
theorem kill_ext {e:Env} (id:Id):Ext e ⟨e.ρ,e.h.put id .dead,e.w,e.F⟩ where
 next:=Nr _
 kn:=fun _ h=>h
 ren:=fun _ _=>rfl
 fr:=rfl
 qt:=⟨rfl,rfl,rfl⟩
 heap:=Nr _
 keep:=fun _ _ _=>rfl
 size:=fun _ _=>rfl
 own:=fun b _ ⟨j,⟨c,hc,hd⟩,hj⟩=>by
  have hc:(e.h.put id .dead).get j=some c:=hc
  rw[H.get_put] at hc
  by_cases h:j=id
  ·rw[if_pos h] at hc;exact absurd (Oi hc).symm hd
  ·rw[if_neg h] at hc;exact⟨j,⟨c,hc,hd⟩,hj⟩
 pres:=put_pres _ _ _
 newk:=fun _ h=>.inl h
theorem kill_st {e:Env} (hs:St e){id:Id}{b0:Blk} (hid:e.h.get id=some b0):St ⟨e.ρ,e.h.put id .dead,e.w,e.F⟩:=by
 refine St.next hs (kill_ext id) id ?_ ?_ (fun _ _=>rfl) ⟨hs.dk id _ hid,hs.num hid,⟨.dead,?_⟩⟩ ?_ ?_
 ·intro b' hb'
  have hb':(e.h.put id .dead).get id=some b':=hb'
  rw[H.get_put,if_pos rfl] at hb'
  obtain rfl:=Oi hb'
  trivial
 ·intro j h
  show(e.h.put id _).get j=_
  rw[H.get_put,if_neg h]
 ·show(e.h.put id _).get id=_
  rw[H.get_put,if_pos rfl]
 ·intro _ _ _;rfl
 ·intro⟨c,hc,hd⟩
  have hc:(e.h.put id .dead).get id=some c:=hc
  rw[H.get_put,if_pos rfl] at hc
  exact absurd (Oi hc).symm hd
def Env.grow (e:Env) (o:Obj) (b:Blk):Env:=(e.bump 1).alloc e.h.next o b
theorem grow_ext {e:Env} (hs:St e) (o:Obj) (b:Blk):Ext e (e.grow o b):=
 (bump_ext e 1).trans (alloc_ext (bump_st hs 1) (show¬known (e.bump 1) (path e.h.next) from fresh_none hs) o b)
theorem grow_st {e:Env} (hs:St e) (o:Obj) (b:Blk) (hb:BlkRel (e.grow o b) (path e.h.next) b):St (e.grow o b):=
 alloc_st (bump_st hs 1) (Nat.lt_succ_self _) (show¬known (e.bump 1) (path e.h.next) from fresh_none hs) o b hb
def Env.move (e:Env) (id:Id) (el:TypeId) (l:List AV) (cs:Array Value):Env:=
 ⟨fun j=>if j=path e.h.next then e.ρ id else e.ρ j,fresh (.cs el l false) (e.h.put id .dead),e.w.setRow (e.ρ id).1 cs,e.F⟩
theorem move_get (e:Env) (id:Id) (el:TypeId) (l:List AV) (cs:Array Value) (j:Id):
 (e.move id el l cs).h.get j=if j=path e.h.next then some (.cs el l false) else if j=id then some .dead else e.h.get j:=by
 show T.get j (T.set (path e.h.next) _ (T.set id _ e.h.t))=_
 rw[T.get_set,T.get_set]
 rfl
theorem move_ext {e:Env} (hs:St e){id:Id}{el:TypeId}{l0:List AV}{fz:Bool} (hid:e.h.get id=some (.cs el l0 fz)){old cs:Array Value}{fr:Nat×Nat}
 (hg:e.w.heap[(e.ρ id).1]? =some (.cells old el fr)) (hc:cs.size=old.size) (l:List AV):Ext e (e.move id el l cs) where
 next:=Nat.le_succ _
 kn:=fun j hk=>by
  show(if j=path e.h.next then e.ρ id else e.ρ j).2=0
  split
  ·exact hs.dk id _ hid
  ·exact hk
 ren:=fun j hk=>by
  show(if j=path e.h.next then e.ρ id else e.ρ j)=_
  rw[if_neg]
  intro h;subst h;exact fresh_none hs hk
 fr:=rfl
 qt:=⟨rfl,rfl,rfl⟩
 heap:=by show _≤(e.w.setRow _ _).heap.size;simp
 keep:=fun b _ ho=>setRow_other _ _ _ _ (fun h=>ho ⟨id,⟨_,hid,by simp⟩,h.symm⟩)
 size:=fun b _=>setRow_bsize _ _ _ _ _ _ hg hc b
 own:=fun b _ ⟨j,⟨c,hc',hd⟩,hj⟩=>by
  rw[move_get] at hc'
  have hj:(if j=path e.h.next then e.ρ id else e.ρ j).1=b:=hj
  split at hc'
  ·rename_i h;rw[if_pos h] at hj;exact⟨id,⟨_,hid,by simp⟩,hj⟩
  ·rename_i h;rw[if_neg h] at hj
   split at hc'
   ·exact absurd (Oi hc').symm hd
   ·exact⟨j,⟨c,hc',hd⟩,hj⟩
 pres:=fun j b hb=>by
  rw[move_get]
  split
  ·exact⟨_,rfl⟩
  ·split
   ·exact⟨_,rfl⟩
   ·exact⟨b,hb⟩
 newk:=fun j hk=>by
  have hk:(if j=path e.h.next then e.ρ id else e.ρ j).2=0:=hk
  by_cases h:j=path e.h.next
  ·exact .inr ⟨_,by rw[move_get,if_pos h]⟩
  ·rw[if_neg h] at hk;exact .inl hk
theorem move_st {e:Env} (hs:St e){id:Id}{el:TypeId}{l0:List AV}{fz:Bool} (hid:e.h.get id=some (.cs el l0 fz)){old cs:Array Value}{fr:Nat×Nat}
 (hg:e.w.heap[(e.ρ id).1]? =some (.cells old el fr)) (hc:cs.size=old.size){l:List AV} (hb:BlkRel (e.move id el l cs) (path e.h.next) (.cs el l false)):St (e.move id el l cs):=by
 have x:=move_ext hs hid hg hc l
 have hne:id≠path e.h.next:=fun h=>fresh_none hs (by rw[←h];exact hs.dk id _ hid)
 have lv:∀j,live (e.move id el l cs).h j→j≠path e.h.next→live e.h j∧j≠id:=fun j ⟨b,hb',hd⟩ hj=>by
  rw[move_get,if_neg hj] at hb'
  by_cases h:j=id
  ·rw[if_pos h] at hb';exact absurd (Oi hb').symm hd
  ·rw[if_neg h] at hb';exact⟨⟨b,hb',hd⟩,h⟩
 refine⟨?_,?_,Nat.le_succ_of_le hs.lo,?_,?_,?_⟩
 ·intro j hj
  have hj:(if j=path e.h.next then e.ρ id else e.ρ j).2=0:=hj
  by_cases h:j=path e.h.next
  ·exact⟨e.h.next,Nat.lt_succ_self _,h,fun _=>⟨_,by rw[move_get,if_pos h]⟩⟩
  ·rw[if_neg h] at hj
   obtain⟨k,hk,hk',hp⟩:=hs.kn j hj
   refine⟨k,Nat.lt_succ_of_lt hk,hk',fun hlo=>?_⟩
   rw[move_get,if_neg h]
   split
   ·exact⟨_,rfl⟩
   ·exact hp hlo
 ·intro j b hj
  rw[move_get] at hj
  show(if j=path e.h.next then e.ρ id else e.ρ j).2=0
  split
  ·exact hs.dk id _ hid
  ·rename_i h
   rw[if_neg h] at hj
   split at hj
   ·rename_i h2;rw[h2];exact hs.dk id _ hid
   ·exact hs.dk j b hj
 ·intro j b hj
  rw[move_get] at hj
  split at hj
  ·rename_i h;obtain rfl:=Oi hj;rw[h];exact hb
  ·split at hj
   ·obtain rfl:=Oi hj;trivial
   ·rename_i h1 h2
    by_cases hd:b=.dead
    ·subst hd;trivial
    ·refine BlkRel.ext x (hs.dk j b hj) ?_ b (hs.blk j b hj)
     exact setRow_other _ _ _ _ (fun h=>h2 (hs.inj j id ⟨b,hj,hd⟩ ⟨_,hid,by simp⟩ h))
 ·intro j j' l1 l2 he
  have he:(if j=path e.h.next then e.ρ id else e.ρ j).1=(if j'=path e.h.next then e.ρ id else e.ρ j').1:=he
  by_cases h:j=path e.h.next
  ·by_cases h':j'=path e.h.next
   ·rw[h,h']
   ·rw[if_pos h,if_neg h'] at he
    obtain⟨l3,h3⟩:=lv j' l2 h'
    exact absurd (hs.inj j' id l3 ⟨_,hid,by simp⟩ he.symm) h3
  ·by_cases h':j'=path e.h.next
   ·rw[if_neg h,if_pos h'] at he
    obtain⟨l3,h3⟩:=lv j l1 h
    exact absurd (hs.inj j id l3 ⟨_,hid,by simp⟩ he) h3
   ·rw[if_neg h,if_neg h'] at he
    exact hs.inj j j' (lv j l1 h).1 (lv j' l2 h').1 he
 ·intro b hb'
  obtain⟨h1,h2⟩:=hs.fr b hb'
  exact⟨Nl h1 x.heap,fun h=>h2 (x.own b h1 h)⟩
theorem grown_both {e:Env} (hs:St e){el:TypeId}{sz n:Nat}{l:List AV}{vs:List Value} (hl:RelL e l vs) (ho:∀x∈l,one x=true) (hlen:l.length=n*sz){zs:Array Value} (hzs:zs.size=sz){cap:Nat} (hcap:n≤cap):
 ∃ρ',St ⟨ρ',fresh (.cs el l false) e.h,e.w.drew.alloc (.cells (vs.toArray++Builtin.zeroCells zs (cap - n)) el),e.F⟩∧
  Ext e ⟨ρ',fresh (.cs el l false) e.h,e.w.drew.alloc (.cells (vs.toArray++Builtin.zeroCells zs (cap - n)) el),e.F⟩∧
  Rel ⟨ρ',fresh (.cs el l false) e.h,e.w.drew.alloc (.cells (vs.toArray++Builtin.zeroCells zs (cap - n)) el),e.F⟩ (.sl (path e.h.next) 0 sz n n false) (.slice (some ⟨e.w.heap.size,0,none⟩) n cap):=by
 have hvl:=hl.len
 let c:Array Value:=vs.toArray++Builtin.zeroCells zs (cap - n)
 have hcsz:c.size=cap*sz:=by
  show(vs.toArray++Builtin.zeroCells zs (cap - n)).size=_
  rw[Array.size_append,List.size_toArray,hvl,hlen]
  unfold Builtin.zeroCells
  rw[Array.size_map,Array.size_range,hzs,←Nat.add_mul]
  congr 1;omega
 have hheap:(e.w.drew.alloc (.cells c el)).heap=(e.w.alloc (.cells c el)).heap:=rfl
 have hlb:RelL (e.bump 1) l vs:=RelL.ext (bump_ext e 1) _ _ hl
 have hle:n*sz≤cap*sz:=Nat.mul_le_mul_right _ hcap
 have hb:=alloc_cells (e:=e.bump 1) (n:=e.h.next) (bump_st hs 1) (show¬known (e.bump 1) (path e.h.next) from fresh_none hs) el hlb ho c om (fun j u hu=>by
  have hj:j<vs.length:=(List.getElem?_eq_some_iff.1 hu).1
  show(vs.toArray++Builtin.zeroCells zs (cap - n))[j]? =some u
  rw[Array.getElem?_append_left (by simpa using hj)]
  simpa using hu)
 have st1:=grow_st hs (.cells c el) (.cs el l false) hb
 have ex1:=grow_ext hs (.cells c el) (.cs el l false)
 have rel1:Rel (e.grow (.cells c el) (.cs el l false)) (.sl (path e.h.next) 0 sz n n false) (.slice (some ⟨e.w.heap.size,0,none⟩) n cap):=
  alloc_rel_sl (e.bump 1) e.h.next c el _ sz n cap false hcap n (Nr _) hcap (fun h=>absurd h (by simp)) om
 have hq:Qt (e.grow (.cells c el) (.cs el l false)).w (e.w.drew.alloc (.cells c el)):=⟨rfl,rfl,rfl⟩
 exact⟨(e.grow (.cells c el) (.cs el l false)).ρ,heap_st st1 hheap hq,ex1.trans (heap_ext hheap hq),Rel.ext (heap_ext hheap hq) _ _ rel1⟩
theorem again_ext {e:Env}{id:Id}{b:Blk} (hid:e.h.get id=some b):Ext e ⟨e.ρ,e.h.put id b,e.w,e.F⟩:=by
 have hg:∀j,(e.h.put id b).get j=e.h.get j:=fun j=>by
  rw[H.get_put];by_cases h:j=id
  ·rw[if_pos h,h,hid]
  ·rw[if_neg h]
 exact⟨Nr _,fun _ h=>h,fun _ _=>rfl,rfl,Nr _,fun _ _ _=>rfl,fun _ _=>rfl,
  fun k _ ⟨j,⟨c,hc,hd⟩,hj⟩=>⟨j,⟨c,by rw[←hg];exact hc,hd⟩,hj⟩,fun j c hc=>⟨c,by rw[←hg] at hc;exact hc⟩,fun _ h=>.inl h,⟨rfl,rfl,rfl⟩⟩
theorem again_st {e:Env} (hs:St e){id:Id}{b:Blk} (hid:e.h.get id=some b):St ⟨e.ρ,e.h.put id b,e.w,e.F⟩:=by
 have hg:∀j,(e.h.put id b).get j=e.h.get j:=fun j=>by
  rw[H.get_put];by_cases h:j=id
  ·rw[if_pos h,h,hid]
  ·rw[if_neg h]
 have x:=again_ext hid
 exact⟨fun j hk=>by
  obtain⟨k,h1,h2,h3⟩:=hs.kn j hk
  exact⟨k,h1,h2,fun hl=>by show∃c,(e.h.put id b).get j=some c;rw[hg];exact h3 hl⟩,fun j c hc=>hs.dk j c (by rw[←hg];exact hc),hs.lo,fun j c hc=>BlkRel.ext x (hs.dk j c (by rw[←hg];exact hc)) rfl c (hs.blk j c (by rw[←hg];exact hc)),
  fun j j' ⟨c,hc,hd⟩ ⟨c',hc',hd'⟩ he=>hs.inj j j' ⟨c,by rw[←hg];exact hc,hd⟩ ⟨c',by rw[←hg];exact hc',hd'⟩ he,
  fun k hk=>⟨(hs.fr k hk).1,fun ho=>(hs.fr k hk).2 (x.own k (hs.fr k hk).1 ho)⟩⟩
end Go.Ev
namespace Go.Ev
section
variable {P:Program}{G:Gs}{o:Oper}{e:Env}{a:Act}{fr:T AV}{call:CallF}{id:Nat}{ao:AOp}{v:AV}{h':H}
theorem growA_inv {el sz by_ n:Nat}{l:List AV}{h:H} (hr:growA el sz by_ n l h=.ok v h'):n*by_≤1099511627776∧v=.sl (path h.next) 0 sz n n false∧h'=fresh (.cs el l false) h:=by
 unfold growA at hr
 rw[cd_eq] at hr
 unfold roomy at hr
 rw[ble_nat] at hr
 by_cases hroom:Nat.mul n by_≤1099511627776
 ·rw[Dt hroom] at hr
  injection(show R.ok _ _=.ok v h' from hr) with h1 h2
  exact⟨hroom,h1.symm,h2.symm⟩
 ·rw[Df hroom] at hr;cases hr
def Good (P:Program) (e:Env) (s:Sem Value) (v:AV) (h':H):Prop:=
 ∃cv' w' ρ',s.run P e.w=.ok cv' w'∧St ⟨ρ',h',w',e.F⟩∧Ext e ⟨ρ',h',w',e.F⟩∧Rel ⟨ρ',h',w',e.F⟩ v cv'
theorem append_grow (hs:St e){e1:Env} (hs1:St e1) (hx1:Ext e e1) (hw1:e1.w=e.w) (hF1:e1.F=e.F){ts:Array TypeId}{t el:TypeId}{i:TypeInfo}{k:Nat}{x:Value}{news:List Value} (hn:NewRun P e ts t el i k x news)
 {zv:Value} (hz:i.zero=some zv) (hzs:zv.cells.size=i.size) (hb:0<i.bytes){new:List AV} (hnew:RelL e new news) (hone:∀c∈new,one c=true) (hlen:new.length=k*i.size)
 {base:Option Addr}{n cap:Nat} (hcap:cap<n+k){old:List AV}{olds:List Value} (hold:RelL e old olds) (hone':∀c∈old,one c=true) (hlen':old.length=n*i.size)
 (hrun:∀w,w.heap=e.w.heap→(Builtin.firstCells i.size n (.slice base n cap)).run P w=.ok olds.toArray w) (ty:TypeId)
 (h:growA el i.size i.bytes (n+k) (cat old new) e1.h=.ok v h'):Good P e (Builtin.append_ ts ty #[.slice base n cap,x]) v h':=by
 obtain⟨hroom,rfl,rfl⟩:=growA_inv h
 have hr:=run_append_out hn hz (ty:=ty) hcap hrun hroom hb
 have hge:=grownCap_ge e.w (n+k) cap el
 rw[cat_eq] at*
 obtain⟨ρ',s1,x1,r1⟩:=grown_both (e:=e1) (el:=el) (sz:=i.size) (n:=n+k) (l:=old++new) (vs:=olds++news) hs1 (RelL.append (RelL.ext hx1 _ _ hold) (RelL.ext hx1 _ _ hnew)) (fun c hc=>by
  rcases List.mem_append.1 hc with hc|hc
  ·exact hone' c hc
  ·exact hone c hc) (by rw[La,hlen,hlen',Nat.add_mul]) hzs hge
 rw[hw1,hF1] at s1 x1 r1
 exact⟨_,_,ρ',hr,s1,hx1.trans x1,r1⟩
theorem append_both (hs:St e){ts:Array TypeId}{t el:TypeId}{i:TypeInfo}{k:Nat}{x:Value}{news:List Value} (hn:NewRun P e ts t el i k x news)
 {zv:Value} (hz:i.zero=some zv) (hzs:zv.cells.size=i.size) (hb:0<i.bytes) (hsz:0<i.size){new:List AV} (hnew:RelL e new news) (hone:∀c∈new,one c=true) (hlen:new.length=k*i.size)
 {u:AV}{cv:Value} (hu:Rel e u cv) (ty:TypeId) (h:appendA el i.size i.bytes u new k e.h=.ok v h'):Good P e (Builtin.append_ ts ty #[cv,x]) v h':=by
 have hnil:new=[]↔k=0:=by
  constructor
  ·intro h
   have h0:k*i.size=0:=by rw[←hlen,h];rfl
   rcases Nat.mul_eq_zero.1 h0 with h|h<;>omega
  ·intro h;subst h;exact List.eq_nil_of_length_eq_zero om
 have hnews:new=[]→news=[]:=by
  intro h;have:=hnew.len;rw[h] at this;exact List.eq_nil_of_length_eq_zero this
 have stay:∀base,(Builtin.append_ ts ty #[.slice base 0 0,x]).run P e.w=.ok (.slice base 0 0) e.w∨k≠0:=by
  intro base
  by_cases h0:k=0
  ·left
   subst h0
   have hne:=hnews (hnil.2 rfl)
   refine run_append_in hn (n:=0) (cap:=0) (Nr _) (fun ad _=>?_) (fun _=>rfl)
   rw[hne];simp[storeCells]
  ·exact .inr h0
 unfold appendA at h
 split at h
 ·
  simp only[Rel] at hu
  obtain⟨rfl,_⟩:=hu
  rw[cd_eq,beq_nat] at h
  by_cases h0:k=0
  ·rw[Dt h0] at h
   injection(show R.ok _ e.h=.ok v h' from h) with h1 h2;subst h1 h2
   exact⟨_,_,e.ρ,(stay none).resolve_right (by simp[h0]),hs,Ext.refl _,by simp[Rel,nilish]⟩
  ·rw[Df h0] at h
   have h:growA el i.size i.bytes (0+k) (cat [] new) e.h=.ok v h':=by
    have h2:growA el i.size i.bytes k new e.h=.ok v h':=h
    rw[Nat.zero_add];exact h2
   exact append_grow hs hs (Ext.refl e) rfl rfl hn hz hzs hb hnew hone hlen om (old:=[]) (olds:=[]) (by simp[RelL]) (by simp) (by simp) (fun w _=>by simp[Builtin.firstCells]) ty h
 ·
  simp only[Rel] at hu
  obtain⟨ad,rfl⟩:=hu
  rw[cd_eq,beq_nat] at h
  by_cases h0:k=0
  ·rw[Dt h0] at h
   injection(show R.ok _ e.h=.ok v h' from h) with h1 h2;subst h1 h2
   exact⟨_,_,e.ρ,(stay ad).resolve_right (by simp[h0]),hs,Ext.refl _,by simp[Rel]⟩
  ·rw[Df h0] at h
   have h:growA el i.size i.bytes (0+k) (cat [] new) e.h=.ok v h':=by
    have h2:growA el i.size i.bytes k new e.h=.ok v h':=h
    rw[Nat.zero_add];exact h2
   exact append_grow hs hs (Ext.refl e) rfl rfl hn hz hzs hb hnew hone hlen om (old:=[]) (olds:=[]) (by simp[RelL]) (by simp) (by simp) (fun w _=>by cases ad<;>simp[Builtin.firstCells,run_loadCells_none]) ty h
 ·rename_i j off sz' n lo ex
  have hu0:=hu
  simp only[Rel] at hu
  obtain⟨kn,ad,cap,rfl,h1,h2,h3,h4⟩:=hu
  rw[cd_eq,beq_nat] at h
  by_cases hsz':sz'=i.size
  case neg=>rw[Df hsz'] at h;cases h
  rw[Dt hsz',if_pos rfl,cd_eq,ble_nat] at h
  subst hsz'
  by_cases hfit:Nat.add n k≤lo
  ·
   rw[Dt hfit] at h
   have hfit:n+k≤lo:=hfit
   have h:(Option.rec .no (fun h'=>.ok (.sl j off i.size (Nat.add n k) lo ex) h') (storeAt (.p j (Nat.add off (Nat.mul n i.size))) new e.h):R)=.ok v h':=h
   cases hst:storeAt (.p j (Nat.add off (Nat.mul n i.size))) new e.h with
   |none=>rw[hst] at h;cases h
   |some h2'=>
    rw[hst] at h
    injection(show R.ok _ h2'=.ok v h' from h) with h5 h6;subst h5 h6
    by_cases hk:k=0
    ·subst hk
     have hne:=hnil.2 rfl
     have hnn:=hnews hne
     subst hne hnn
     obtain⟨i',off',el',l,fz,l',hp,hg,hfz,hl,rfl⟩:=storeAt_inv hst
     injection hp with hp1 hp2;subst hp1 hp2
     have:=lay_nil hl;subst this
     have hr:=run_append_in hn (ty:=ty) (base:=ad) (n:=n) (cap:=cap) om (w':=e.w) (fun ad _=>by simp[storeCells]) (fun _=>rfl)
     exact⟨_,_,e.ρ,hr,again_st hs hg,again_ext hg,Rel.ext (again_ext hg) _ _ (by
      simp only[Rel];exact⟨kn,ad,cap,rfl,hfit,h2,h3,h4⟩)⟩
    ·have hcap:cap≠0:=om
     obtain⟨rfl,hbs⟩:=h4.resolve_left hcap
     have hp:Rel e (.p j (Nat.add off (Nat.mul n i.size))) (.pointer (some ⟨(e.ρ j).1,(e.ρ j).2+(off+n*i.size),none⟩)):=by simp only[Rel];exact⟨kn,rfl⟩
     obtain⟨ad,w',hcv,hrun,hst',hx'⟩:=store_both (P:=P) hs hp hnew hone hst (fun h=>hk (hnil.1 h))
     injection hcv with hcv
     injection hcv with hcv
     subst hcv
     have hr:=run_append_in hn (ty:=ty) (base:=some ⟨(e.ρ j).1,(e.ρ j).2+off,none⟩) (n:=n) (cap:=cap) om (w':=w') (fun ad had=>by
      obtain rfl:=Oi had
      rw[Addr.add_none,Nat.add_assoc];exact hrun) (fun h=>by cases h)
     exact⟨_,_,e.ρ,hr,hst',hx',Rel.ext hx' _ _ (by
      simp only[Rel];exact⟨kn,_,cap,rfl,hfit,h2,h3,.inr ⟨rfl,hbs⟩⟩)⟩
  ·rw[Df hfit] at h
   have hfit:¬(n+k≤lo):=hfit
   simp only[Bool.false_eq_true,if_false] at h
   split at h
   ·rename_i el' l fz hget
    split at h
    ·rename_i old hcut
     have hce:cellsAt (.p j off) (n*i.size) e.h=some old:=by
      show blkCut (e.h.get j) off (n*i.size)=some old
      rw[hget];exact hcut
     obtain⟨olds,ho1,ho2,ho3,ho4⟩:=elems_rel (P:=P) (sz:=i.size) (k:=n) (cs:=old) hs hu0 (by
      show(Option.rec none (fun l=>some (l,n)) (cellsAt (.p j off) (Nat.mul n i.size) e.h):Option (List AV×Nat))=some (old,n)
      rw[show Nat.mul n i.size=n*i.size from rfl,hce])
     rw[cd_eq] at h
     cases ex with
     |true=>
      obtain rfl:=h3 rfl
      exact append_grow hs hs (Ext.refl e) rfl rfl hn hz hzs hb hnew hone hlen om ho1 ho2 ho3 ho4.cells ty h
     |false=>
      simp only[Bool.false_eq_true,if_false] at h
      rw[cd_eq,beq_nat] at h
      by_cases he:el=el'
      case neg=>rw[Df he] at h;cases h
      rw[Dt he,if_pos rfl,cd_eq,beq_nat] at h
      by_cases h0:off=0
      case neg=>rw[Df h0] at h;cases h
      rw[Dt h0,if_pos rfl] at h
      cases fz with
      |true=>cases h
      |false=>
      have h:growA el i.size i.bytes (n+k) (cat old new) (e.h.put j .dead)=.ok v h':=h
      subst he h0
      by_cases hc:n+k≤cap
      ·
       obtain⟨hroom,rfl,rfl⟩:=growA_inv h
       have hcap:cap≠0:=by
        intro h;apply hfit;omega
       obtain⟨rfl,hbs⟩:=h4.resolve_left hcap
       obtain⟨c,frz,hc1,hc2,hc3,hc4,hz0⟩:=hs.blk j _ hget
       have hbc:bsize e.w (e.ρ j).1=c.size:=by unfold bsize;rw[hc1]
       rw[hbc,hz0] at hbs
       have hmul:(n+k)*i.size≤cap*i.size:=Nat.mul_le_mul_right _ hc
       rw[Nat.add_mul] at hmul
       have hnl:=hnew.len
       have hone2:∀u∈news,u.oneCell'=true:=fun u hu=>by
        obtain⟨q,hq⟩:=List.mem_iff_getElem?.1 hu
        have hql:q<new.length:=by have:=(List.getElem?_eq_some_iff.1 hq).1;omega
        obtain⟨u',hu',hru⟩:=hnew.get (Lq hql)
        rw[hq] at hu'
        obtain rfl:=Oi hu'
        exact hru.one_cell (hone _ (List.getElem_mem hql))
       have hrun:=run_storeCells_lay (P:=P) (e.ρ j).1 el frz news (n*i.size) 0 c e.w hc1 om hone2 (fun q hq hh=>by
        have:=hc4 rfl _ hh.1 hh.2
        omega)
       have hr:=run_append_in hn (ty:=ty) (base:=some ⟨(e.ρ j).1,(e.ρ j).2+0,none⟩) (n:=n) (cap:=cap) hc (w':=e.w.setRow (e.ρ j).1 (layA c (n*i.size+0) news)) (fun ad had=>by
        obtain rfl:=Oi had
        rw[Addr.add_none,hz0,Nat.zero_add];exact hrun) (fun h=>by cases h)
       have hsz2:=layA_size news c (n*i.size+0)
       have x2:=move_ext hs hget hc1 hsz2 (cat old new)
       have hρ:(e.move j el (cat old new) (layA c (n*i.size+0) news)).ρ (path e.h.next)=e.ρ j:=if_pos rfl
       have hb2:BlkRel (e.move j el (cat old new) (layA c (n*i.size+0) news)) (path e.h.next) (.cs el (cat old new) false):=by
        simp only[BlkRel,hρ]
        refine⟨layA c (n*i.size+0) news,frz,setRow_heap _ _ _ _ _ _ hc1,?_,fun q y hy=>?_,fun _ o' g1 g2=>by rw[hsz2];exact hc4 rfl o' g1 g2,hz0⟩
        ·rw[hz0,hsz2,cat_eq,La,ho3,hlen];omega
        ·rw[cat_eq] at hy
         have hget2:=layA_get news c (n*i.size+0) ((e.ρ j).2+q) om
         rw[hget2]
         by_cases hq:q<n*i.size
         ·rw[List.getElem?_append_left om] at hy
          rw[if_neg om]
          have hcg:=(cut_get hcut).2 q hq
          rw[hcg,Nat.zero_add] at hy
          obtain⟨g1,u,g2,g3⟩:=hc3 q y hy
          exact⟨g1,u,g2,Rel.ext x2 _ _ g3⟩
         ·rw[List.getElem?_append_right om,ho3] at hy
          have hql:q - n*i.size<new.length:=(List.getElem?_eq_some_iff.1 hy).1
          obtain⟨u,g2,g3⟩:=hnew.get hy
          rw[if_pos om]
          refine⟨hone y (List.mem_of_getElem? hy),u,?_,Rel.ext x2 _ _ g3⟩
          rw[←g2];congr 1;omega
       have s2:=move_st hs hget hc1 hsz2 hb2
       refine⟨_,_,(e.move j el (cat old new) (layA c (n*i.size+0) news)).ρ,hr,s2,x2,?_⟩
       have:Rel (e.move j el (cat old new) (layA c (n*i.size+0) news)) (.sl (path e.h.next) 0 i.size (n+k) (n+k) false) (.slice (some ⟨(e.ρ j).1,(e.ρ j).2+0,none⟩) (n+k) cap):=by
        simp only[Rel]
        refine⟨by unfold known;rw[hρ];exact hz0,_,cap,rfl,Nr _,hc,fun h=>absurd h (by simp),.inr ?_⟩
        rw[hρ]
        refine⟨rfl,?_⟩
        have:bsize (e.move j el (cat old new) (layA c (n*i.size+0) news)).w (e.ρ j).1=c.size:=by
         rw[←hbc];exact setRow_bsize _ _ _ _ _ _ hc1 hsz2 _
        rw[this,hz0];omega
       exact this
      ·exact append_grow hs (kill_st hs hget) (kill_ext j) rfl rfl hn hz hzs hb hnew hone hlen om ho1 ho2 ho3 ho4.cells ty h
    ·cases h
   ·cases h
 ·rename_i t xs
  rw[cd_eq,beq_nat] at h
  by_cases h0:k=0
  ·rw[Dt h0] at h
   injection(show R.ok _ e.h=.ok v h' from h) with h1 h2;subst h1 h2
   subst h0
   have hne:=hnews (hnil.2 rfl)
   rcases rel_isl.1 hu with ⟨hx,rfl⟩|⟨ad,cap,rfl,hcap,hB,hxs⟩
   ·exact⟨_,_,e.ρ,run_append_in hn (n:=0) (cap:=0) (Nr _) (fun ad _=>by rw[hne];simp[storeCells]) (fun _=>rfl),hs,Ext.refl _,hu⟩
   ·exact⟨_,_,e.ρ,run_append_in hn (n:=xs.length) (cap:=cap) om (fun ad _=>by rw[hne];simp[storeCells]) (fun h=>by cases h),hs,Ext.refl _,hu⟩
  ·rw[Df h0] at h;cases h
 ·cases h
theorem Good.op {c:Call}{b:Builtin}{s:Sem Value} (ho:o.op=.call c) (hb:c.callee=.builtin b)
 (hs:∀cs,builtin b c.argTypes o.type cs (c.args.map a.eval)=(do pure (.value (←s)))) (h:Good P e s v h'):OpS P o e a v h':=by
 obtain⟨cv,w',ρ',hr,h1,h2,h3⟩:=h
 refine OpS.value (cv:=cv) (w':=w') ?_ ρ' h1 h2 h3
 rw[run_exec_builtin ho hb,hs]
 simp[hr]
structure AppC (P:Program) (ts:Array TypeId) (t t' el:TypeId) (sz by_:Nat) (z:List AV):Prop where
 hts:ts=#[t,t']
 hel:elemOf? P t=some el
 hsz:sizeOf? P el=some sz
 hby:bytesOf? P el=some by_
 hz:zeroOf P el=some z
 sz0:sz≠0
 by0:by_≠0
 zl:z.length=sz
theorem AppC.info {ts:Array TypeId}{t t' el:TypeId}{sz by_:Nat}{z:List AV} (h:AppC P ts t t' el sz by_ z):
 ∃i zv,P.info? el=some i∧i.size=sz∧i.bytes=by_∧i.zero=some zv∧avOfs zv.cells.toList=some z∧zv.cells.size=sz:=by
 obtain⟨i,zv,hi,hzv,hzs⟩:=zero_inv h.hz
 obtain⟨i2,hi2,hsz⟩:=map_inv h.hsz
 obtain⟨i3,hi3,hby⟩:=map_inv h.hby
 rw[hi] at hi2 hi3;cases hi2;cases hi3
 refine⟨i,zv,hi,hsz,hby,hzv,hzs,?_⟩
 have:=(rel_avOfs (e:=⟨fun _=>(0,0),⟨0,.e⟩,default,⟨fun _=>False,0,0⟩⟩) hzs).1.len
 have hz:=h.zl
 simp at this;omega
theorem sound_app {c:Call}{x' y':Od}{t t' el:TypeId}{sz by_:Nat}{z:List AV}{d:TypeDesc} (hs:St e) (hf:FrRel e fr a.tmps) (hg:GRel G e) (ho:o.op=.call c) (hb:c.callee=.builtin .append)
 (hx:ods G c.args.toList=some [x',y']) (hc:AppC P c.argTypes t t' el sz by_ z) (hd:P.underlying t'=some d) (hni:∀q,d≠.int q)
 (hr:evOp call (.o2 (.app el sz by_ x' y')) fr e.h id=.ok v h'):OpS P o e a v h':=by
 obtain⟨x,y,hxs,hx,hy⟩:=ods_two hx
 have rx:=od_rel hf hg hx
 have ry:=od_rel hf hg hy
 obtain⟨i,zv,hi,rfl,rfl,hzv,hzs,hzc⟩:=hc.info
 have hr:(match elems (ev y' fr) i.size e.h with
  |some (cs,k)=>appendA el i.size i.bytes (ev x' fr) cs k e.h
  |none=>.no:R)=.ok v h':=hr
 split at hr
 ·rename_i cs k hel
  obtain⟨news,r1,r2,r3,r4⟩:=elems_rel (P:=P) hs ry hel
  have hn:NewRun P e c.argTypes t el i k (a.eval y) news:=⟨elem_inv hc.hel,hi,t',hc.hts,.inl ⟨d,hd,hni,r4⟩⟩
  have sz0:=hc.sz0
  have by0:=hc.by0
  have good:=append_both hs hn hzv hzc om om r1 r2 r3 rx o.type hr
  refine Good.op ho hb (fun cs=>?_) good
  rw[hxs]
  simp[builtin]
 ·cases hr
theorem sound_appz {c:Call}{x' y':Od}{t t' el:TypeId}{sz by_:Nat}{z:List AV}{q:IntKind} (hs:St e) (hf:FrRel e fr a.tmps) (hg:GRel G e) (ho:o.op=.call c) (hb:c.callee=.builtin .append)
 (hx:ods G c.args.toList=some [x',y']) (hc:AppC P c.argTypes t t' el sz by_ z) (hd:P.underlying t'=some (.int q))
 (hr:evOp call (.o2 (.appz el sz by_ z x' y')) fr e.h id=.ok v h'):OpS P o e a v h':=by
 obtain⟨x,y,hxs,hx,hy⟩:=ods_two hx
 have rx:=od_rel hf hg hx
 have ry:=od_rel hf hg hy
 obtain⟨i,zv,hi,rfl,rfl,hzv,hzs,hzc⟩:=hc.info
 obtain⟨hzr,hzo⟩:=rel_avOfs (e:=e) hzs
 have sz0:=hc.sz0
 have by0:=hc.by0
 have zl:=hc.zl
 have hr:(match asN (ev y' fr) with
  |some k=>cd (roomy k i.bytes) (appendA el i.size i.bytes (ev x' fr) (repl k z) k e.h) .no
  |none=>.no:R)=.ok v h':=hr
 split at hr
 ·rename_i k hk
  obtain⟨q',hk⟩:=asN_inv hk
  rw[hk] at ry
  have ry:=rel_i ry
  rw[cd_eq] at hr
  unfold roomy at hr
  rw[ble_nat] at hr
  by_cases hroom:Nat.mul k i.bytes≤1099511627776
  case neg=>rw[Df hroom] at hr;cases hr
  rw[Dt hroom,if_pos rfl] at hr
  have hroom:k*i.bytes≤1099511627776:=hroom
  have hk40:k≤1099511627776:=Nt (Nat.le_mul_of_pos_right _ om) hroom
  have hn:NewRun P e c.argTypes t el i k (a.eval y) (rep k zv.cells.toList):=⟨elem_inv hc.hel,hi,t',hc.hts,.inr ⟨q,q',zv,hd,ry,hk40,hroom,hzv,hzc,om,rfl⟩⟩
  have good:=append_both hs hn hzv hzc om om (repl_rel hzr k) (fun w hw=>hzo w (repl_mem z k w hw)) (by rw[repl_len,zl]) rx o.type hr
  refine Good.op ho hb (fun cs=>?_) good
  rw[hxs]
  simp[builtin]
 ·cases hr
end
end Go.Ev
end
noncomputable section
namespace Go.Ev
def Does (P:Program) (f:FuncId) (args:Array Value) (w:World) (R:Value→World→Prop):Prop:=
 (∃v w',(callFunc f args).run P w=.ok (.value v) w'∧R v w')∨
 ((callFunc f args).run P w=.ok (.enter f args) w∧Calls P f args w (fun e w'=>∃v,e=.returned v∧R v w'))
def CallOK (P:Program) (G:Gs) (call:CallF):Prop:=
 ∀f args r h' e vs,call f args e.h=.ok r h'→St e→GRel G e→RelL e args vs→
  Does P f vs.toArray e.w (fun v w'=>∃e',e'.w=w'∧e'.h=h'∧St e'∧Ext e e'∧Rel e' r v)
section
variable {P:Program}{G:Gs}{o:Oper}{e:Env}{a:Act}{fr:T AV}{call:CallF}{id:Nat}{ao:AOp}{v:AV}{h':H}
theorem Does.op {f:FuncId}{args:Array Value} (hx:(execOp a.eval o).run P e.w=(callFunc f args).run P e.w)
 (h:Does P f args e.w (fun cv w'=>∃e',e'.w=w'∧e'.h=h'∧St e'∧Ext e e'∧Rel e' v cv)):OpS P o e a v h':=by
 intro next Q k
 unfold Oper.wp
 rw[hx]
 rcases h with ⟨cv,w',hr,e',rfl,rfl,h1,h2,h3⟩|⟨hr,hc⟩
 ·rw[hr,Oper.upon_value]
  exact k cv e' rfl h1 h2 h3
 ·rw[hr,Oper.upon_enter]
  refine Calls.mono hc (fun en w' he=>?_)
  obtain⟨cv,rfl,e',rfl,rfl,h1,h2,h3⟩:=he
  exact k cv e' rfl h1 h2 h3
theorem RelL.cat3 {xs ys zs:List AV}{vs ws us:List Value} (h1:RelL e xs vs) (h2:RelL e ys ws) (h3:RelL e zs us):RelL e (cat xs (cat ys zs)) (vs++(ws++us)):=by
 rw[cat_eq,cat_eq];exact RelL.append h1 (RelL.append h2 h3)
theorem sound_call {c:Call}{f:FuncId}{as_:List Od} (hk:CallOK P G call) (hs:St e) (hf:FrRel e fr a.tmps) (hg:GRel G e) (ho:o.op=.call c) (hc:c.callee=.value (.func f))
 (hx:ods G c.args.toList=some as_) (hr:evOp call (.call f as_) fr e.h id=.ok v h'):OpS P o e a v h':=by
 have hr:call f (evs as_ fr) e.h=.ok v h':=hr
 have rx:=ods_rel hf hg hx
 have hd:=hk f _ _ _ e _ hr hs hg rx
 refine Does.op (f:=f) ?_ hd
 have:(c.args.toList.map a.eval).toArray=#[]++c.args.map a.eval++#[]:=by
  apply Array.ext';simp
 rw[this]
 simp[execOp,ho,resolve,hc,Act.eval,Deferred.ofValue,invoke]
theorem sound_callv {c:Call}{t:Nat}{as_:List Od} (hk:CallOK P G call) (hs:St e) (hf:FrRel e fr a.tmps) (hg:GRel G e) (ho:o.op=.call c) (hc:c.callee=.value (.tmp t))
 (hx:ods G c.args.toList=some as_) (hr:evOp call (.o2 (.callv (.t (mkPath t)) as_)) fr e.h id=.ok v h'):OpS P o e a v h':=by
 have rx:=ods_rel hf hg hx
 have rt:Rel e (ev (.t (mkPath t)) fr) (a.eval (.tmp t)):=od_rel (G:=G) hf hg rfl
 have hr:(match ev (.t (mkPath t)) fr with
  |.f (.func g) first cap=>call g (cat first (cat (evs as_ fr) cap)) e.h
  |_=>.no:R)=.ok v h':=hr
 generalize ev (.t (mkPath t)) fr=u at hr rt
 split at hr
 ·rename_i g first cap
  simp only[Rel] at rt
  obtain⟨vs,ws,hv,h1,h2⟩:=rt
  have hd:=hk g _ _ _ e _ hr hs hg (RelL.cat3 h1 rx h2)
  refine Does.op (f:=g) ?_ hd
  have:(vs.toList++(c.args.toList.map a.eval++ws.toList)).toArray=(vs++c.args.map a.eval)++ws:=by
   apply Array.ext';simp
  rw[this]
  simp[execOp,ho,resolve,hc,hv,Deferred.ofValue,invoke]
 ·cases hr
end
end Go.Ev
namespace Go.Ev
section
variable {P:Program}{G:Gs}{o:Oper}{e:Env}{a:Act}{fr:T AV}{call:CallF}{id:Nat}{ao:AOp}{v:AV}{h':H}
theorem two_of {ts:Array TypeId}{t t':TypeId} (h0:ts[0]? =some t) (h1:ts[1]? =some t') (h2:ts.size=2):ts=#[t,t']:=by
 obtain⟨l⟩:=ts
 match l,h0,h1,h2 with
 |[p,q],h0,h1,_=>simp at h0 h1;rw[h0,h1]
theorem sound_builtin {c:Call}{b:Builtin}{as_:List Od} (hs:St e) (hf:FrRel e fr a.tmps) (hg:GRel G e) (ho:o.op=.call c) (hb:c.callee=.builtin b)
 (hx:ods G c.args.toList=some as_) (hc:compBuiltin P b c.argTypes as_=some ao) (hr:evOp call ao fr e.h id=.ok v h'):OpS P o e a v h':=by
 unfold compBuiltin at hc
 split at hc
 ·obtain⟨t,ht,hc⟩:=bind_inv hc
  obtain⟨d,hd,hc⟩:=bind_inv hc
  split at hc
  ·cases hc;exact sound_len hs hf hg ho hb hx ht hd (k:=.str) rfl hr
  ·cases hc;exact sound_len hs hf hg ho hb hx ht hd (k:=.sli) ⟨_,rfl⟩ hr
  ·cases hc;exact sound_len hs hf hg ho hb hx ht hd (k:=.map) ⟨_,_,rfl⟩ hr
  ·cases hc
 ·obtain⟨t,ht,hc⟩:=bind_inv hc
  obtain⟨el,hel,rfl⟩:=map_inv hc
  exact sound_cap hs hf hg ho hb hx ht hel hr
 ·obtain⟨t,ht,hc⟩:=bind_inv hc
  obtain⟨t',ht',hc⟩:=bind_inv hc
  obtain⟨el,hel,hc⟩:=bind_inv hc
  obtain⟨sz,hsz,hc⟩:=bind_inv hc
  obtain⟨by_,hby,hc⟩:=bind_inv hc
  obtain⟨z,hz,hc⟩:=bind_inv hc
  split at hc
  ·cases hc
  rename_i hn
  obtain⟨d,hd,hc⟩:=bind_inv hc
  have hA:AppC P c.argTypes t t' el sz by_ z:=⟨two_of ht ht' om,hel,hsz,hby,hz,om,om,om⟩
  split at hc
  ·cases hc;exact sound_appz hs hf hg ho hb hx hA hd hr
  ·cases hc;exact sound_app hs hf hg ho hb hx hA hd (fun q h=>by cases h) hr
  ·split at hc
   ·cases hc;exact sound_app hs hf hg ho hb hx hA hd (fun q h=>by cases h) hr
   ·cases hc
  ·cases hc
 ·obtain⟨t,ht,hc⟩:=bind_inv hc
  obtain⟨el,hel,hc⟩:=bind_inv hc
  obtain⟨sz,hsz,hc⟩:=bind_inv hc
  obtain⟨z,hz,hc⟩:=bind_inv hc
  split at hc
  ·cases hc
  rename_i hn
  cases hc
  exact sound_clr hs hf hg ho hb hx ht hel hz om om hr
 ·cases hc;exact sound_mx hs hf hg ho hb hx hr
 ·cases hc;exact sound_mn hs hf hg ho hb hx hr
 ·cases hc;exact sound_usd hs hf hg ho hb hx hr
 ·obtain⟨t,ht,hc⟩:=bind_inv hc
  obtain⟨d,hd,hc⟩:=bind_inv hc
  split at hc
  ·obtain⟨sz,hsz,hc⟩:=bind_inv hc
   split at hc
   ·rename_i h
    obtain⟨rfl,h2⟩:=h
    cases hc
    exact sound_ust hs hf hg ho hb hx ht h2 hd hsz hr
   ·cases hc
  ·cases hc
 ·cases hc
theorem sound_conv {s d:TypeId}{x:Operand} (hs:St e) (hlo:e.F.lo≤id) (hf:FrRel e fr a.tmps) (hg:GRel G e) (ho:o.op=.convert s d x)
 (hc:compOp P G (.convert s d x)=some ao) (hr:evOp call ao fr e.h id=.ok v h'):OpS P o e a v h':=by
 simp only[compOp] at hc
 obtain⟨x',hx,hc⟩:=bind_inv hc
 obtain⟨ds,hds,hc⟩:=bind_inv hc
 obtain⟨dd,hdd,hc⟩:=bind_inv hc
 unfold compConv at hc
 split at hc
 ·cases hc;exact sound_cvi hs hf hg ho hx hds hdd hr
 ·split at hc
  ·rename_i hu;cases hc;exact sound_cvsb hs hlo hf hg ho hx hds hdd hu hr
  ·cases hc
 ·split at hc
  ·rename_i hu;cases hc;exact sound_cvbs hs hf hg ho hx hds hdd hu hr
  ·cases hc
 ·obtain⟨n,hn,hc⟩:=bind_inv hc
  split at hc
  ·cases hc
  ·rename_i h0;cases hc;exact sound_cvp1 hs hf hg ho hx hds hdd hn h0 hr
 ·obtain⟨n,hn,hc⟩:=bind_inv hc
  split at hc
  ·cases hc
  ·rename_i h0;cases hc;exact sound_cvp2 hs hf hg ho hx hds hdd hn h0 hr
 ·cases hc
theorem sound_bin {op:BinOp}{t t':TypeId}{x y:Operand} (hs:St e) (hf:FrRel e fr a.tmps) (hg:GRel G e) (ho:o.op=.binOp op t x y t')
 (hc:compOp P G (.binOp op t x y t')=some ao) (hr:evOp call ao fr e.h id=.ok v h'):OpS P o e a v h':=by
 simp only[compOp] at hc
 obtain⟨x',hx,hc⟩:=bind_inv hc
 obtain⟨y',hy,hc⟩:=bind_inv hc
 obtain⟨d,hd,hc⟩:=bind_inv hc
 split at hc
 ·cases hc;exact sound_binNum hs hf hg ho hx hy hr
 ·cases hc;exact sound_binNum hs hf hg ho hx hy hr
 ·obtain⟨neg,hn,rfl⟩:=map_inv hc
  exact sound_eqb hs hf hg ho hx hy hn hd hr
 ·obtain⟨neg,hn,rfl⟩:=map_inv hc
  exact sound_eqn hs hf hg ho hx hy hn hd (by simp[KindOf]) (fun _ h=>by cases h) (fun h=>by cases h) hr
 ·obtain⟨neg,hn,hc⟩:=bind_inv hc
  obtain⟨n,hsz,hc⟩:=bind_inv hc
  split at hc
  ·cases hc
  ·rename_i h0
   cases hc
   exact sound_eqn hs hf hg ho hx hy hn hd (by simp[KindOf]) (fun el h=>by cases h;exact⟨n,hsz,h0⟩) (fun h=>by cases h) hr
 ·obtain⟨neg,hn,rfl⟩:=map_inv hc
  exact sound_eqn hs hf hg ho hx hy hn hd (by simp[KindOf]) (fun _ h=>by cases h) (fun h=>by cases h) hr
 ·obtain⟨neg,hn,rfl⟩:=map_inv hc
  exact sound_eqn hs hf hg ho hx hy hn hd (by simp[KindOf]) (fun _ h=>by cases h) (fun h=>by cases h) hr
 ·obtain⟨neg,hn,hc⟩:=bind_inv hc
  split at hc
  ·rename_i h0
   cases hc
   exact sound_eqn hs hf hg ho hx hy hn hd (by simp[KindOf]) (fun _ h=>by cases h) (fun _=>h0) hr
  ·cases hc
 ·obtain⟨neg,hn,hc⟩:=bind_inv hc
  obtain⟨ks,hks,hc⟩:=bind_inv hc
  split at hc
  ·cases hc
  ·rename_i h0
   cases hc
   rw[Bool.or_eq_true,not_or] at h0
   exact sound_eqs hs hf hg ho hx hy hn hd hks (by simpa using h0.1) (by simpa using h0.2) hr
 ·cases hc
theorem sound_sl {t:TypeId}{x:Operand}{l h m:Option Operand} (hs:St e) (hf:FrRel e fr a.tmps) (hg:GRel G e) (ho:o.op=.slice t x l h m)
 (hc:compOp P G (.slice t x l h m)=some ao) (hr:evOp call ao fr e.h id=.ok v h'):OpS P o e a v h':=by
 simp only[compOp] at hc
 obtain⟨k,hk,hc⟩:=bind_inv hc
 obtain⟨x',hx,hc⟩:=bind_inv hc
 obtain⟨l',hl,hc⟩:=bind_inv hc
 obtain⟨h2,hh,hc⟩:=bind_inv hc
 obtain⟨m',hm,hc⟩:=bind_inv hc
 split at hc
 ·cases hc
 rename_i hhm
 have hhm':h=none→m=none:=by
  intro h0
  subst h0
  simp only[odo,Oj] at hh
  subst hh
  cases m with
  |none=>rfl
  |some mm=>
   simp only[odo] at hm
   obtain⟨q,hq,rfl⟩:=map_inv hm
   simp at hhm
 split at hc
 ·cases hc
 ·cases hc
  exact sound_slc hs hf hg ho hk hx hl hh hm hhm' hr
theorem sound_op (hk:CallOK P G call) (hs:St e) (hlo:e.F.lo≤id) (hf:FrRel e fr a.tmps) (hg:GRel G e) (hc:compOp P G o.op=some ao) (hr:evOp call ao fr e.h id=.ok v h'):OpS P o e a v h':=by
 cases ho:o.op with
 |move x=>rw[ho] at hc;exact sound_mv hs hf hg (.inl ho) hc hr
 |assign x=>rw[ho] at hc;exact sound_mv hs hf hg (.inr ho) hc hr
 |pick c x y=>rw[ho] at hc;exact sound_pick hs hf hg ho hc hr
 |alloc t=>rw[ho] at hc;exact sound_new hs hlo ho hc hr
 |box t x=>rw[ho] at hc;exact sound_box hs hlo hf hg ho hc hr
 |build t ps=>rw[ho] at hc;exact sound_build hs hf hg ho hc hr
 |buildSlice t n ps=>rw[ho] at hc;exact sound_bsl hs hlo hf hg ho hc hr
 |load t x=>rw[ho] at hc;exact sound_load hs hf hg ho hc hr
 |store t x y=>rw[ho] at hc;exact sound_store hs hf hg ho hc hr
 |nilCheck x=>rw[ho] at hc;exact sound_nilc hs hf hg ho hc hr
 |binOp op t x y t'=>rw[ho] at hc;exact sound_bin hs hf hg ho hc hr
 |unOp op t x=>rw[ho] at hc;exact sound_un hs hf hg ho hc hr
 |convert s d x=>rw[ho] at hc;exact sound_conv hs hlo hf hg ho hc hr
 |makeInterface t x=>rw[ho] at hc;exact sound_mkif hs hf hg ho hc hr
 |makeFunc fn xs ys=>rw[ho] at hc;exact sound_mkfn hs hf hg ho hc hr
 |makeMap t r=>rw[ho] at hc;exact sound_mkmap hs hlo ho hc hr
 |makeSlice t l c=>rw[ho] at hc;exact sound_mksl hs hlo hf hg ho hc hr
 |slice t x l h m=>rw[ho] at hc;exact sound_sl hs hf hg ho hc hr
 |fieldAddr t x f=>rw[ho] at hc;exact sound_fa hs hf hg ho hc hr
 |field t x f=>rw[ho] at hc;exact sound_fld hs hf hg ho hc hr
 |indexAddr t x ix=>rw[ho] at hc;exact sound_ia hs hf hg ho hc hr
 |index t x ix=>rw[ho] at hc;exact sound_index hs hf hg ho hc hr
 |lookup t x ix ok=>rw[ho] at hc;exact sound_lk hs hf hg ho hc hr
 |mapUpdate t x k y=>rw[ho] at hc;exact sound_mu hs hf hg ho hc hr
 |extract x i=>rw[ho] at hc;exact sound_ext hs hf hg ho hc hr
 |call c=>
  rw[ho] at hc
  have hc:compCall P G c=some ao:=hc
  unfold compCall at hc
  obtain⟨as_,has,hc⟩:=bind_inv hc
  split at hc
  ·rename_i f hcal;cases hc;exact sound_call hk hs hf hg ho hcal has hr
  ·rename_i t hcal;cases hc;exact sound_callv hk hs hf hg ho hcal has hr
  ·rename_i b hcal;exact sound_builtin hs hf hg ho hcal has hc hr
  ·cases hc
 |_=>rw[ho] at hc;simp[compOp] at hc
end
end Go.Ev
namespace Go.Ev
section
variable {P:Program}{G:Gs}{e:Env}{call:CallF}
def boolOf:Value→Option Bool
 |.bool b=>some b
 |_=>none
theorem isB_inv {x:AV}{v:Value}{want r:Bool} (h:Rel e x v) (hb:isB x want=some r):(boolOf v==some want)=r:=by
 cases x with
 |isl t xs=>
  have hb:=Oi hb
  subst hb
  rcases rel_isl.1 h with ⟨_,h⟩|⟨_,_,h,_⟩<;>(subst h;rfl)
 |b y=>
  simp only[Rel] at h
  subst h
  have hb:some (cd y want (!want))=some r:=hb
  obtain rfl:=Oi hb
  cases y<;>cases want<;>rfl
 |j=>cases hb
 |_=>
  have hb:=Oi hb
  subst hb
  simp only[Rel] at h
  first
   |(subst h;rfl)
   |(obtain⟨_,_,h⟩:=h;subst h;rfl)
   |(obtain⟨h,hn⟩:=h;subst h;cases v<;>first|rfl|(simp[nilish] at hn))
   |(obtain⟨_,h⟩:=h;subst h;rfl)
   |(obtain⟨_,_,_,h,_⟩:=h;subst h;rfl)
   |(obtain⟨_,_,h,_⟩:=h;subst h;rfl)
   |(obtain⟨_,h,_⟩:=h;subst h;rfl)
theorem FrRel.put_undef {fr:T AV}{a:Act} (h:FrRel e fr a.tmps) (d:Option Nat):FrRel e (setD (d.map mkPath) undefA fr) (a.put d undef).tmps:=by
 cases d with
 |none=>exact h
 |some d=>
  by_cases hd:d<a.tmps.size
  ·exact FrRel.put h (fun k hk=>by cases hk;exact hd) (rel_undef e)
  ·intro k
   show Rel e (getV (T.set (mkPath d) undefA fr) (path k)) _
   rw[getV_set,mkPath_eq]
   have hput:(a.put (some d) undef).tmps=a.tmps:=by
    simp only[Act.put]
    exact Array.setIfInBounds_eq_of_size_le om
   rw[hput]
   by_cases hk:k=d
   ·subst hk
    rw[if_pos rfl,Ag,Array.getElem?_eq_none om]
    exact rel_undef e
   ·rw[if_neg (fun hp=>hk (path_inj hp))]
    exact h k
def IsO (P:Program) (G:Gs) (nt:Nat) (ops:Array Oper) (ao:AO) (o:Oper):Prop:=∃k,ao={compO P G nt ops o with k:=k}
theorem wanted_inv {ops:Array Oper}{nt:Nat}{o:Oper}{ao:AO} (hi:IsO P G nt ops ao o){fr:T AV}{a:Act} (hf:FrRel e fr a.tmps) (hn:a.tmps.size=nt){r:Bool} (h:wanted ao.g fr=some r):
 Region.wanted o (yielded ops a.tmps)=r:=by
 obtain⟨k,rfl⟩:=hi
 unfold Region.wanted
 cases hg:o.guard with
 |none=>
  have:wanted none fr=some r:=by simpa[compO,hg] using h
  exact Oi this
 |some q=>
  obtain⟨j,want⟩:=q
  have h:isB (getV fr (mkPath (((ops[j]?).bind (·.dst)).getD nt))) want=some r:=by
   have:wanted (some (mkPath (((ops[j]?).bind (·.dst)).getD nt),want)) fr=some r:=by simpa[compO,hg] using h
   exact this
  rw[mkPath_eq] at h
  have:=isB_inv (hf _) h
  show(yielded ops a.tmps j==some want)=r
  rw[←this]
  congr 1
  have hy:∀x:Option Value,(match x with|some (.bool b)=>some b|_=>none:Option Bool)=boolOf (x.getD undef):=by
   intro x
   cases x with
   |none=>rfl
   |some v=>cases v<;>rfl
  unfold yielded
  rw[Ag]
  cases hd:(ops[j]?).bind (·.dst) with
  |none=>
   simp only[Option.getD_none,Option.bind_none]
   rw[Array.getElem?_eq_none om]
   rfl
  |some d=>
   simp only[Option.getD_some,Option.bind_some]
   exact hy _
theorem op_of {ops:Array Oper}{nt:Nat}{o:Oper}{ao:AO} (hi:IsO P G nt ops ao o){fr:T AV}{h h':H}{id:Nat}{v:AV} (hr:evOp call ao.op fr h id=.ok v h'):
 compOp P G o.op=some ao.op∧(∀d,o.dst=some d→d<nt)∧ao.dst=o.dst.map mkPath:=by
 obtain⟨k,rfl⟩:=hi
 have key:∀b:Bool,evOp call (if b=true then(compOp P G o.op).getD (.o2 .bad) else .o2 .bad) fr h id=.ok v h'→b=true∧compOp P G o.op=some (if b=true then(compOp P G o.op).getD (.o2 .bad) else .o2 .bad):=by
  intro b hb
  cases b with
  |false=>cases hb
  |true=>
   refine⟨rfl,?_⟩
   cases hc:compOp P G o.op with
   |none=>rw[hc] at hb;cases hb
   |some x=>rfl
 obtain⟨h1,h2⟩:=key _ hr
 refine⟨h2,fun d hd=>?_,rfl⟩
 rw[hd] at h1
 simpa using h1
theorem evOps_sound (hk:CallOK P G call){ops:Array Oper}{nt:Nat} (Q:Exit→Act→World→Prop):∀(l:List AO) (is:List Nat),l.length=is.length→
 (∀(q:Nat) (ao:AO) (i:Nat),l[q]? =some ao→is[q]? =some i→∃o,ops[i]? =some o∧IsO P G nt ops ao o)→
 ∀(base:Nat) (fr:T AV) (e:Env) (a:Act) (fr':T AV) (h':H),evOps call base l fr e.h=.ok fr' h'→St e→e.F.lo≤base→FrRel e fr a.tmps→GRel G e→a.tmps.size=nt→
 (∀a' e',e'.h=h'→St e'→Ext e e'→FrRel e' fr' a'.tmps→a'.tmps.size=nt→a'.defers=a.defers→Q .normal a' e'.w)→wpOps P ops Q is a e.w
 |[],[],_,_,_,fr,e,a,fr',h',hr,hs,_,hf,hg,hn,kq=>by
  injection(show FR.ok fr e.h=.ok fr' h' from hr) with h1 h2;subst h1
  exact kq a e h2 hs (Ext.refl e) hf hn rfl
 |[],_::_,h,_,_,_,_,_,_,_,_,_,_,_,_,_,_=>by simp at h
 |_::_,[],h,_,_,_,_,_,_,_,_,_,_,_,_,_,_=>by simp at h
 |ao::l,i::is,hlen,hall,base,fr,e,a,fr',h',hr,hs,hlo,hf,hg,hn,kq=>by
  obtain⟨o,ho,hi⟩:=hall 0 ao i rfl rfl
  have hrest:∀(q:Nat) (ao:AO) (i:Nat),l[q]? =some ao→is[q]? =some i→∃o,ops[i]? =some o∧IsO P G nt ops ao o:=fun q ao i h1 h2=>hall (q+1) ao i (by simpa using h1) (by simpa using h2)
  have hlen':l.length=is.length:=by simpa using hlen
  have hr:(Option.rec .no (fun b=>cd b
   (R.rec .no (fun v h'=>evOps call base l (setD ao.dst v fr) h') (evOp call ao.op fr e.h (Nat.add base ao.k)))
   (evOps call base l (setD ao.dst undefA fr) e.h)) (wanted ao.g fr):FR)=.ok fr' h':=hr
  show(match ops[i]? with
  |none=>wpOps P ops Q is a e.w
  |some o=>
   if Region.wanted o (yielded ops a.tmps) then o.wp P a e.w (wpOps P ops Q is) Q∨(o.asks P a e.w∧LetsOut Q)
   else wpOps P ops Q is (a.put o.dst undef) e.w)
  rw[ho]
  cases hw:wanted ao.g fr with
  |none=>rw[hw] at hr;cases hr
  |some b=>
   rw[hw] at hr
   have hw':=wanted_inv hi hf hn hw
   simp only[hw']
   cases b with
   |false=>
    have hr:evOps call base l (setD ao.dst undefA fr) e.h=.ok fr' h':=hr
    have hd:ao.dst=o.dst.map mkPath:=by obtain⟨k,rfl⟩:=hi;rfl
    rw[hd] at hr
    rw[if_neg (by simp)]
    exact evOps_sound hk Q l is hlen' hrest base _ e _ fr' h' hr hs hlo (hf.put_undef o.dst) hg (by rw[put_size];exact hn) (fun a' e' h1 h2 h3 h4 h5 h6=>kq a' e' h1 h2 h3 h4 h5 (by rw[h6,put_defers]))
   |true=>
    have hr:(R.rec .no (fun v h'=>evOps call base l (setD ao.dst v fr) h') (evOp call ao.op fr e.h (Nat.add base ao.k)):FR)=.ok fr' h':=hr
    rw[if_pos rfl]
    left
    cases hop:evOp call ao.op fr e.h (Nat.add base ao.k) with
    |no=>rw[hop] at hr;cases hr
    |ok v h1=>
     rw[hop] at hr
     have hr:evOps call base l (setD ao.dst v fr) h1=.ok fr' h':=hr
     obtain⟨hc,hd,hdst⟩:=op_of hi hop
     have hS:=sound_op (o:=o) hk hs (Nt hlo (Nat.le_add_right _ _)) hf hg hc hop
     refine hS _ Q (fun cv e1 he1 hs1 hx1 hv1=>?_)
     subst he1
     rw[hdst] at hr
     exact evOps_sound hk Q l is hlen' hrest base _ e1 _ fr' h' hr hs1 (by rw[hx1.fr];exact hlo) (FrRel.put (hf.ext hx1) (fun k hk=>by rw[hn];exact hd k hk) hv1) (hg.ext hx1) (by rw[put_size];exact hn)
      (fun a' e' g1 g2 g3 g4 g5 g6=>kq a' e' g1 g2 (hx1.trans g3) g4 g5 (by rw[g6,put_defers]))
end
end Go.Ev
namespace Go.Ev
theorem evs_congr {fr fr':T AV}:∀{xs:List Od},(∀x∈xs,ev x fr=ev x fr')→evs xs fr=evs xs fr'
 |[],_=>rfl
 |x::xs,h=>by
  show ev x fr::evs xs fr=ev x fr'::evs xs fr'
  rw[h x (Mc ..),evs_congr (fun y hy=>h y (Loz _ hy))]
theorem fillA_congr {fr fr':T AV}:∀{ps:List (Nat×Nat×Od)}{l:List AV},(∀x∈ps.map (·.2.2),ev x fr=ev x fr')→fillA ps fr l=fillA ps fr' l
 |[],_,_=>rfl
 |p::ps,l,h=>by
  have h1:ev p.2.2 fr=ev p.2.2 fr':=h _ (by simp)
  have h2:∀l',fillA ps fr l'=fillA ps fr' l':=fun l'=>fillA_congr (fun x hx=>h x (by simp only[List.map_cons,List.mem_cons];exact .inr hx))
  show(Option.rec none (fun cs=>cd (Nat.beq (len cs) p.2.1) (Option.rec none (fun l'=>fillA ps fr l') (lay l p.1 cs)) none) (ev p.2.2 fr).cells:Option (List AV))=
   Option.rec none (fun cs=>cd (Nat.beq (len cs) p.2.1) (Option.rec none (fun l'=>fillA ps fr' l') (lay l p.1 cs)) none) (ev p.2.2 fr').cells
  rw[h1]
  congr 1
  funext cs
  congr 2
  funext l'
  exact h2 l'
theorem optN_congr {fr fr':T AV}{o:Option Od} (h:∀x∈o.toList,ev x fr=ev x fr'):optN o fr=optN o fr':=by
 cases o with
 |none=>rfl
 |some x=>
  show(Option.rec none (fun n=>some (some n)) (asN (ev x fr)):Option (Option Nat))=Option.rec none (fun n=>some (some n)) (asN (ev x fr'))
  rw[h x (by simp)]
theorem ev2_congr {call:CallF}{fr fr':T AV}{h:H}{id:Nat}{o:AOp2} (hx:∀x∈o.ods,ev x fr=ev x fr'):ev2 call o fr h id=ev2 call o fr' h id:=by
 cases o<;>simp only[AOp2.ods,List.mem_cons,List.not_mem_nil,or_false,forall_eq_or_imp,forall_eq,List.mem_append,or_imp,forall_and] at hx<;>first
  |rfl
  |(simp only[ev2];rw[fillA_congr hx];done)
  |(simp only[ev2];rw[evs_congr hx];done)
  |(obtain⟨h1,h2,h3⟩:=hx;simp only[ev2];rw[h1,h2,h3];done)
  |(obtain⟨h1,h2⟩:=hx;simp only[ev2];rw[evs_congr h1,evs_congr h2];done)
  |(obtain⟨h1,h2⟩:=hx;simp only[ev2];rw[h1,evs_congr h2];done)
  |(obtain⟨h1,h2⟩:=hx;simp only[ev2];rw[h1,h2];done)
  |(simp only[ev2];rw[hx];done)
theorem evOp_congr {call:CallF}{fr fr':T AV}{h:H}{id:Nat}{o:AOp} (hx:∀x∈o.ods,ev x fr=ev x fr'):evOp call o fr h id=evOp call o fr' h id:=by
 cases o with
 |o2 o=>exact ev2_congr hx
 |slc k x a b c=>
  simp only[AOp.ods,List.mem_cons,List.mem_append,or_imp,forall_and,forall_eq] at hx
  obtain⟨h1,⟨h2,h3⟩,h4⟩:=hx
  simp only[evOp]
  rw[h1,optN_congr h2,optN_congr h3,optN_congr h4]
 |bld z ps=>simp only[AOp.ods] at hx;simp only[evOp];rw[fillA_congr hx]
 |call f as_=>simp only[AOp.ods] at hx;simp only[evOp];rw[evs_congr hx]
 |_=>
  simp only[AOp.ods,List.mem_cons,List.not_mem_nil,or_false,forall_eq_or_imp,forall_eq,or_imp,forall_and] at hx
  first
  |rfl
  |(obtain⟨h1,h2,h3⟩:=hx;simp only[evOp];rw[h1,h2,h3];done)
  |(obtain⟨h1,h2⟩:=hx;simp only[evOp];rw[h1,h2];done)
  |(simp only[evOp];rw[hx];done)
theorem evOp_N {call:CallF}{fr:T AV}{h h':H}{id:Nat}{o:AOp}{v:AV} (hc:o.cls=.N) (hr:evOp call o fr h id=.ok v h'):
 h'=h∧∀(call2:CallF) (h2:H) (id2:Nat),evOp call2 o fr h2 id2=.ok v h2:=by
 have key:∀(f:H→R),(∀h,f h=.no)∨(∃v,∀h,f h=.ok v h)→f h=.ok v h'→h'=h∧∀h2,f h2=.ok v h2:=by
  intro f hf hr
  rcases hf with hf|⟨u,hf⟩
  ·rw[hf] at hr;cases hr
  ·rw[hf] at hr;injection hr with h1 h2;subst h1 h2;exact⟨rfl,hf⟩
 have kV:∀x:Option AV,(∀h,okV h x=.no)∨(∃v,∀h,okV h x=.ok v h):=by
  intro x;cases x with
  |none=>exact .inl fun _=>rfl
  |some u=>exact .inr ⟨u,fun _=>rfl⟩
 have fin:(∀h,evOp call o fr h id=.no)∨(∃v,∀h,evOp call o fr h id=.ok v h):=by
  cases o with
  |mv x=>exact .inr ⟨_,fun _=>rfl⟩
  |bin op x y=>exact kV _
  |fa off x=>
   show(∀h,faA (ev x fr) off h=.no)∨∃v,∀h,faA (ev x fr) off h=.ok v h
   cases ev x fr<;>first|exact .inl fun _=>rfl|exact .inr ⟨_,fun _=>rfl⟩
  |nilc x=>
   show(∀h,nilA (ev x fr) (ev x fr) h=.no)∨∃v,∀h,nilA (ev x fr) (ev x fr) h=.ok v h
   generalize ev x fr=u
   cases u with
   |f fn a b=>cases fn<;>first|exact .inl fun _=>rfl|exact .inr ⟨_,fun _=>rfl⟩
   |_=>first|exact .inl fun _=>rfl|exact .inr ⟨_,fun _=>rfl⟩
  |ext x ix=>
   show(∀h,extA (ev x fr) ix h=.no)∨∃v,∀h,extA (ev x fr) ix h=.ok v h
   cases ev x fr<;>first|exact .inl fun _=>rfl|exact kV _
  |slc k x a b c=>
   simp only[evOp]
   cases optN a fr with
   |none=>exact .inl fun _=>rfl
   |some a=>cases optN b fr with
    |none=>exact .inl fun _=>rfl
    |some b=>cases optN c fr with
     |none=>exact .inl fun _=>rfl
     |some c=>exact kV _
  |ia k x ix=>
   simp only[evOp]
   cases asN (ev ix fr) with
   |none=>exact .inl fun _=>rfl
   |some i=>exact kV _
  |ixs x ix=>
   simp only[evOp]
   cases asN (ev ix fr) with
   |none=>exact .inl fun _=>rfl
   |some i=>
    show(∀h,ixsA (ev x fr) i h=.no)∨∃v,∀h,ixsA (ev x fr) i h=.ok v h
    generalize ev x fr=u
    cases u with
    |s n l=>
     show(∀h,(Option.rec .no (fun c=>.ok (.i .u8 (.ofNat c)) h) (nth l i):R)=.no)∨∃v,∀h,(Option.rec .no (fun c=>.ok (.i .u8 (.ofNat c)) h) (nth l i):R)=.ok v h
     cases nth l i with
     |none=>exact .inl fun _=>rfl
     |some c=>exact .inr ⟨_,fun _=>rfl⟩
    |_=>exact .inl fun _=>rfl
  |pick c a b=>
   simp only[evOp]
   cases ev c fr<;>first|exact .inl fun _=>rfl|exact .inr ⟨_,fun _=>rfl⟩
  |un op x=>exact kV _
  |cvi k x=>
   simp only[evOp]
   cases ev x fr<;>first|exact .inl fun _=>rfl|exact .inr ⟨_,fun _=>rfl⟩
  |bld z ps=>
   simp only[evOp]
   cases fillA ps fr z with
   |none=>exact .inl fun _=>rfl
   |some l=>exact .inr ⟨_,fun _=>rfl⟩
  |o2 o=>
   cases o with
   |mkif t x=>exact .inr ⟨_,fun _=>rfl⟩
   |mkfn fn a b=>exact .inr ⟨_,fun _=>rfl⟩
   |fld off ag x=>
    show(∀h,ev2 call (.fld off ag x) fr h id=.no)∨∃v,∀h,ev2 call (.fld off ag x) fr h id=.ok v h
    simp only[ev2]
    cases ev x fr with
    |ag cs=>cases ag with
     |none=>exact kV _
     |some n=>
      simp only[]
      cases cut cs off n with
      |none=>exact .inl fun _=>rfl
      |some l=>exact .inr ⟨_,fun _=>rfl⟩
    |_=>exact .inl fun _=>rfl
   |cap x=>
    show(∀h,ev2 call (.cap x) fr h id=.no)∨∃v,∀h,ev2 call (.cap x) fr h id=.ok v h
    simp only[ev2]
    split<;>first|exact .inl fun _=>rfl|exact .inr ⟨_,fun _=>rfl⟩
   |eqb neg x y=>
    show(∀h,ev2 call (.eqb neg x y) fr h id=.no)∨∃v,∀h,ev2 call (.eqb neg x y) fr h id=.ok v h
    simp only[ev2]
    split<;>first|exact .inl fun _=>rfl|exact .inr ⟨_,fun _=>rfl⟩
   |eqs neg ks x y=>
    show(∀h,ev2 call (.eqs neg ks x y) fr h id=.no)∨∃v,∀h,ev2 call (.eqs neg ks x y) fr h id=.ok v h
    simp only[ev2]
    split
    ·rename_i xs ys _ _
     cases eqL ks xs ys with
     |none=>exact .inl fun _=>rfl
     |some b=>exact .inr ⟨_,fun _=>rfl⟩
    ·exact .inl fun _=>rfl
   |eqn neg k x y=>
    show(∀h,ev2 call (.eqn neg k x y) fr h id=.no)∨∃v,∀h,ev2 call (.eqn neg k x y) fr h id=.ok v h
    simp only[ev2]
    cases eqN k (ev x fr) (ev y fr) with
    |none=>exact .inl fun _=>rfl
    |some b=>exact .inr ⟨_,fun _=>rfl⟩
   |mx xs=>exact kV _
   |mn xs=>exact kV _
   |usd x=>
    show(∀h,ev2 call (.usd x) fr h id=.no)∨∃v,∀h,ev2 call (.usd x) fr h id=.ok v h
    simp only[ev2]
    split
    ·exact .inr ⟨_,fun _=>rfl⟩
    ·rename_i i1 o1 s1 n1 l1 e1 hx
     cases Nat.beq n1 0 with
     |true=>exact .inl fun _=>rfl
     |false=>exact .inr ⟨_,fun _=>rfl⟩
    ·exact .inl fun _=>rfl
   |_=>simp[AOp.cls,AOp2.cls] at hc
  |_=>simp[AOp.cls] at hc
 obtain⟨h1,h2⟩:=key _ fin hr
 refine⟨h1,fun call2 h2' id2=>?_⟩
 rw[←h2 h2']
 cases o with
 |o2 o=>cases o<;>first|rfl|simp[AOp.cls,AOp2.cls] at hc
 |_=>first|rfl|simp[AOp.cls] at hc
def Sub (h h2:H):Prop:=∀i b,h.get i=some b→h2.get i=some b
theorem cellsAt_sub {h h2:H} (hs:Sub h h2){a:AV}{n:Nat}{l:List AV} (hr:cellsAt a n h=some l):cellsAt a n h2=some l:=by
 cases a with
 |p id off=>
  have hr:blkCut (h.get id) off n=some l:=hr
  show blkCut (h2.get id) off n=some l
  cases hg:h.get id with
  |none=>rw[hg] at hr;cases hr
  |some b=>rw[hs id b hg,←hg];exact hr
 |_=>exact hr
theorem cellAt_sub {h h2:H} (hs:Sub h h2){a v:AV} (hr:cellAt a h=some v):cellAt a h2=some v:=by
 cases a with
 |p id off=>
  have hr:blkNth (h.get id) off=some v:=hr
  show blkNth (h2.get id) off=some v
  cases hg:h.get id with
  |none=>rw[hg] at hr;cases hr
  |some b=>rw[hs id b hg,←hg];exact hr
 |_=>exact hr
theorem lenOf_sub {h h2:H} (hs:Sub h h2){k:LK}{x:AV}{n:Nat} (hr:lenOf k x h=some n):lenOf k x h2=some n:=by
 unfold lenOf at hr⊢
 split at hr<;>first
  |(simpa using hr)
  |(split at hr
    ·rename_i hg;simp only[hs _ _ hg];simpa using hr
    ·cases hr)
  |(cases hr)
def mpOf (h:H) (u:AV):Option (List (AV×AV)):=match u with
 |.v (.map none)=>some []
 |.m id=>match h.get id with
  |some (.mp es)=>some es
  |_=>none
 |_=>none
theorem mpOf_sub {h h2:H} (hs:Sub h h2){u:AV}{es:List (AV×AV)} (hr:mpOf h u=some es):mpOf h2 u=some es:=by
 unfold mpOf at hr⊢
 split at hr
 ·exact hr
 ·split at hr
  ·rename_i hg;simp only[hs _ _ hg];exact hr
  ·cases hr
 ·cases hr
theorem ev2_lk {call:CallF}{fr:T AV}{h:H}{id kd:Nat}{z:AV}{x ix:Od}{ok:Bool}:ev2 call (.lk kd z x ix ok) fr h id=(match mpOf h (ev x fr) with
 |some es=>(match mfindK kd (ev ix fr) es with
  |some r=>.ok (cd ok (.tu [Option.rec z (fun x=>x) r,.b r.isSome]) (Option.rec z (fun x=>x) r)) h
  |none=>.no)
 |none=>.no:R):=by
 simp only[ev2,mpOf]
 rfl
theorem elems_sub {h h2:H}{x:AV}{sz:Nat}{r:List AV×Nat} (hs:Sub h h2) (he:elems x sz h=some r):elems x sz h2=some r:=by
 unfold elems at he⊢
 split at he
 ·rename_i i off sz' n lo ex
  cases hc:cellsAt (.p i off) (Nat.mul n sz) h with
  |none=>rw[hc] at he;cases he
  |some l=>rw[hc] at he;simp only[cellsAt_sub hs hc];exact he
 all_goals exact he
theorem strB_sub {h h2:H}{x:AV}{r:Nat×List Nat} (hs:Sub h h2) (he:strB x h=some r):strB x h2=some r:=by
 unfold strB at he⊢
 split at he
 ·exact he
 ·exact he
 ·split at he
  ·rename_i cs n hel
   simp only[elems_sub hs hel]
   exact he
  ·cases he
theorem evOp_R {call:CallF}{fr:T AV}{h h':H}{id:Nat}{o:AOp}{v:AV} (hc:o.cls=.R) (hr:evOp call o fr h id=.ok v h'):
 h'=h∧∀(call2:CallF) (h2:H) (id2:Nat),Sub h h2→evOp call2 o fr h2 id2=.ok v h2:=by
 cases o with
 |ld1 a=>
  obtain⟨h1,rfl⟩:=okV_inv (show okV h (cellAt (ev a fr) h)=.ok v h' from hr)
  refine⟨rfl,fun call2 h2 id2 hs=>?_⟩
  show okV h2 (cellAt (ev a fr) h2)=_
  rw[cellAt_sub hs h1];rfl
 |ldn n a=>
  have hr:(Option.rec .no (fun l=>.ok (.ag l) h) (cellsAt (ev a fr) n h):R)=.ok v h':=hr
  cases hg:cellsAt (ev a fr) n h with
  |none=>rw[hg] at hr;cases hr
  |some l=>
   rw[hg] at hr
   injection(show R.ok (.ag l) h=.ok v h' from hr) with e1 e2
   subst e1 e2
   refine⟨rfl,fun call2 h2 id2 hs=>?_⟩
   show(Option.rec .no (fun l=>.ok (.ag l) h2) (cellsAt (ev a fr) n h2):R)=_
   rw[cellsAt_sub hs hg]
 |len k x=>
  have hr:(Option.rec .no (fun n=>.ok (.i .i64 (.ofNat n)) h) (lenOf k (ev x fr) h):R)=.ok v h':=hr
  cases hg:lenOf k (ev x fr) h with
  |none=>rw[hg] at hr;cases hr
  |some l=>
   rw[hg] at hr
   injection(show R.ok _ h=.ok v h' from hr) with e1 e2
   subst e1 e2
   refine⟨rfl,fun call2 h2 id2 hs=>?_⟩
   show(Option.rec .no (fun n=>.ok (.i .i64 (.ofNat n)) h2) (lenOf k (ev x fr) h2):R)=_
   rw[lenOf_sub hs hg]
 |o2 o=>
  cases o with
  |lk kd z x ix ok=>
   have hr:ev2 call (.lk kd z x ix ok) fr h id=.ok v h':=hr
   rw[ev2_lk] at hr
   cases hm:mpOf h (ev x fr) with
   |none=>rw[hm] at hr;cases hr
   |some es=>
    rw[hm] at hr
    simp only at hr
    cases hf:mfindK kd (ev ix fr) es with
    |none=>rw[hf] at hr;cases hr
    |some r=>
     rw[hf] at hr
     injection hr with e1 e2
     subst e1 e2
     refine⟨rfl,fun call2 h2 id2 hs=>?_⟩
     show ev2 call2 (.lk kd z x ix ok) fr h2 id2=_
     rw[ev2_lk,mpOf_sub hs hm]
     simp only[hf]
  |cvbs x=>
   have hr:ev2 call (.cvbs x) fr h id=.ok v h':=hr
   simp only[ev2] at hr
   split at hr
   ·rename_i n l hb
    cases hn:Nat.ble n 1152921504606846976 with
    |false=>rw[hn] at hr;cases hr
    |true=>
     rw[hn] at hr
     injection(show R.ok (.s n l) h=.ok v h' from hr) with e1 e2
     subst e1 e2
     refine⟨rfl,fun call2 h2 id2 hs=>?_⟩
     show ev2 call2 (.cvbs x) fr h2 id2=_
     simp only[ev2,strB_sub hs hb,hn]
     rfl
   ·cases hr
  |cvp1 x=>
   have hr:ev2 call (.cvp1 x) fr h id=.ok v h':=hr
   simp only[ev2] at hr
   split at hr
   ·split at hr
    ·rename_i i off hx _ el l fz hg
     cases hb:Nat.blt off (len l) with
     |false=>rw[hb] at hr;cases hr
     |true=>
      rw[hb] at hr
      injection(show R.ok (.p i off) h=.ok v h' from hr) with e1 e2
      subst e1 e2
      refine⟨rfl,fun call2 h2 id2 hs=>?_⟩
      show ev2 call2 (.cvp1 x) fr h2 id2=_
      simp only[ev2,hx,hs _ _ hg,hb]
      rfl
    ·cases hr
   ·cases hr
  |cvp2 u sz x=>
   have hr:ev2 call (.cvp2 u sz x) fr h id=.ok v h':=hr
   simp only[ev2] at hr
   split at hr
   ·split at hr
    ·rename_i i off hx _ el l fz hg
     cases hb1:Nat.beq el u with
     |false=>rw[hb1] at hr;cases hr
     |true=>
     cases hb2:Nat.beq (Nat.mod off sz) 0 with
     |false=>rw[hb1,hb2] at hr;cases hr
     |true=>
     cases hb3:Nat.ble (Nat.add off sz) (len l) with
     |false=>rw[hb1,hb2,hb3] at hr;cases hr
     |true=>
      rw[hb1,hb2,hb3] at hr
      injection(show R.ok (.p i off) h=.ok v h' from hr) with e1 e2
      subst e1 e2
      refine⟨rfl,fun call2 h2 id2 hs=>?_⟩
      show ev2 call2 (.cvp2 u sz x) fr h2 id2=_
      simp only[ev2,hx,hs _ _ hg,hb1,hb2,hb3]
      rfl
    ·cases hr
   ·cases hr
  |_=>simp[AOp.cls,AOp2.cls] at hc
 |_=>simp[AOp.cls] at hc
def mkH (h:H) (n:Nat) (b:Option Blk):H:=match b with
 |none=>h
 |some b=>h.put (path n) b
theorem putNew_A {n:Nat}{b:Blk}{vf:Id→AV}{m:Nat}{v:AV}{h1:H} (hr:putNew n b vf ⟨m,.e⟩=.ok v h1):
 h1.get (path n)=some b∧∀h:H,n<h.next→h.get (path n)=none→putNew n b vf h=.ok v (h.put (path n) b):=by
 unfold putNew at hr
 cases hb:Nat.blt n (H.mk m .e).next with
 |false=>rw[hb] at hr;cases hr
 |true=>
  have hg:(H.mk m .e).get (path n)=none:=T.get_e _
  rw[hb,hg] at hr
  injection(show R.ok (vf (path n)) ((H.mk m .e).put (path n) b)=.ok v h1 from hr) with e1 e2
  subst e1 e2
  refine⟨by rw[H.get_put,if_pos rfl],fun h hn hf=>?_⟩
  unfold putNew
  have:Nat.blt n h.next=true:=by unfold Nat.blt;rw[Nat.ble_eq];exact hn
  rw[this,hf];rfl
theorem evOp_A {call:CallF}{fr:T AV}{m n:Nat}{o:AOp}{v:AV}{h1:H} (hc:o.cls=.A) (hr:evOp call o fr ⟨m,.e⟩ n=.ok v h1):
 ∀(call2:CallF) (h:H),n<h.next→h.get (path n)=none→evOp call2 o fr h n=.ok v (mkH h n (h1.get (path n))):=by
 have key:∀f:H→R,((∃v,∀h,f h=.ok v h)∨∃b vf,∀h,f h=putNew n b vf h)→f ⟨m,.e⟩=.ok v h1→∀h:H,n<h.next→h.get (path n)=none→f h=.ok v (mkH h n (h1.get (path n))):=by
  intro f hf hr h hn hg
  rcases hf with ⟨u,hf⟩|⟨b,vf,hf⟩
  ·rw[hf] at hr;injection hr with e1 e2;subst e1 e2
   have:(H.mk m .e).get (path n)=none:=T.get_e _
   rw[this,hf];rfl
  ·rw[hf] at hr
   obtain⟨h2,h3⟩:=putNew_A hr
   rw[h2,hf,h3 h hn hg];rfl
 intro call2 h hn hg
 cases o with
 |new el z=>exact key (fun h=>evOp call2 (.new el z) fr h n) (.inr ⟨.cs el z false,fun id=>.p id 0,fun _=>rfl⟩) hr h hn hg
 |box el k x=>
  have hr':=hr
  simp only[evOp] at hr'
  cases hx:(ev x fr).cells with
  |none=>rw[hx] at hr';cases hr'
  |some cs=>
   rw[hx] at hr'
   cases hb:Nat.beq (len cs) k with
   |false=>simp only[hb] at hr';cases hr'
   |true=>
    refine key (fun h=>evOp call2 (.box el k x) fr h n) (.inr ⟨.cs el cs false,fun id=>.p id 0,fun h=>?_⟩) hr h hn hg
    simp only[evOp,hx,hb];rfl
 |o2 o=>
  cases o with
  |mkmap=>exact key (fun h=>evOp call2 (.o2 .mkmap) fr h n) (.inr ⟨.mp [],fun id=>.m id,fun _=>rfl⟩) hr h hn hg
  |bsl el sz k z ps=>
   have hr':ev2 call (.bsl el sz k z ps) fr ⟨m,.e⟩ n=.ok v h1:=hr
   simp only[ev2] at hr'
   split at hr'
   ·rename_i cs hx
    refine key (fun h=>evOp call2 (.o2 (.bsl el sz k z ps)) fr h n) ?_ hr h hn hg
    cases hb:Nat.beq k 0 with
    |true=>exact .inl ⟨.em,fun h=>by show ev2 call2 (.bsl el sz k z ps) fr h n=_;simp only[ev2,hx,hb];rfl⟩
    |false=>exact .inr ⟨.cs el cs false,fun id=>.sl id 0 sz k k true,fun h=>by show ev2 call2 (.bsl el sz k z ps) fr h n=_;simp only[ev2,hx,hb];rfl⟩
   ·cases hr'
  |cvsb el x=>
   have hr':ev2 call (.cvsb el x) fr ⟨m,.e⟩ n=.ok v h1:=hr
   simp only[ev2] at hr'
   split at hr'
   ·rename_i k l hx
    cases hb:Nat.beq k 0 with
    |true=>rw[hb] at hr';cases hr'
    |false=>
     refine key (fun h=>evOp call2 (.o2 (.cvsb el x)) fr h n) ?_ hr h hn hg
     exact .inr ⟨.cs el (l.map fun c=>.i .u8 (.ofNat c)) false,fun id=>.sl id 0 1 k k false,fun h=>by show ev2 call2 (.cvsb el x) fr h n=_;simp only[ev2,hx,hb];rfl⟩
   ·cases hr'
  |mksl el sz by_ z a b=>
   have hr':ev2 call (.mksl el sz by_ z a b) fr ⟨m,.e⟩ n=.ok v h1:=hr
   simp only[ev2] at hr'
   split at hr'
   ·rename_i l c hl hcp
    cases hb1:Nat.ble l c with
    |false=>rw[hb1] at hr';cases hr'
    |true=>
    cases hb2:roomy c by_ with
    |false=>rw[hb1,hb2] at hr';cases hr'
    |true=>
     refine key (fun h=>evOp call2 (.o2 (.mksl el sz by_ z a b)) fr h n) ?_ hr h hn hg
     cases hb:Nat.beq c 0 with
     |true=>exact .inl ⟨.em,fun h=>by show ev2 call2 (.mksl el sz by_ z a b) fr h n=_;simp only[ev2,hl,hcp,hb1,hb2,hb];rfl⟩
     |false=>exact .inr ⟨.cs el (repl c z) false,fun id=>.sl id 0 sz l c true,fun h=>by show ev2 call2 (.mksl el sz by_ z a b) fr h n=_;simp only[ev2,hl,hcp,hb1,hb2,hb];rfl⟩
   ·cases hr'
  |_=>simp[AOp.cls,AOp2.cls] at hc
 |_=>simp[AOp.cls] at hc
theorem cd_true {b x:Bool} (h:cd b x false=true):b=true∧x=true:=by
 cases b with
 |false=>cases h
 |true=>exact⟨rfl,h⟩
theorem cdeq {x y:Bool} (h:cd x y (!y)=true):x=y:=by cases x<;>cases y<;>first|rfl|cases h
theorem eqD0_eq:∀(t:Ty) (x y:den t),eqD0 t x y=true→x=y
 |.int _,x,y,h=>by
  have h:iEq x y=true:=h
  rw[iEq_eq] at h;simpa using h
 |.bool,x,y,h=>cdeq h
 |.str,x,y,h=>by
  have h:sEq x y=true:=h
  rw[sEq_eq] at h;simpa using h
 |.unit,_,_,_=>rfl
 |.pair a b,x,y,h=>by
  have h:cd (eqD0 a x.1 y.1) (eqD0 b x.2 y.2) false=true:=h
  obtain⟨h1,h2⟩:=cd_true h
  exact Prod.ext (eqD0_eq a _ _ h1) (eqD0_eq b _ _ h2)
 |.sl t,xs,ys,h=>by
  have ih:=eqD0_eq t
  induction xs generalizing ys with
  |nil=>
   cases ys with
   |nil=>rfl
   |cons=>cases h
  |cons x xs ihx=>
   cases ys with
   |nil=>cases h
   |cons y ys=>
    have h:cd (eqD0 t x y) (eqD0 (.sl t) xs ys) false=true:=h
    obtain⟨h1,h2⟩:=cd_true h
    rw[ih x y h1,ihx ys h2]
 |.ptr t,x,y,h=>eqD0_eq t x y h
 |.clo _ t,x,y,h=>eqD0_eq t x y h
theorem sameS_eq {t t':Ty}{xs:List (den t)}{ys:List (den t')} (h:sameS t t' xs ys=true):AV.isl t xs=AV.isl t' ys:=by
 unfold sameS at h
 split at h
 ·rename_i ht _
  subst ht
  rw[eqD0_eq (.sl t') xs ys h]
 ·cases h
theorem sameP_eq {t t':Ty}{x:den t}{y:den t'}{o:Nat} (h:sameP t t' x y=true):AV.ip t x o=AV.ip t' y o:=by
 unfold sameP at h
 split at h
 ·rename_i ht _
  subst ht
  rw[eqD0_eq t' x y h]
 ·cases h
theorem same1_eq {x y:AV} (h:same1 x y=true):x=y:=by
 unfold same1 at h
 split at h<;>first
  |exact sameS_eq h
  |(obtain⟨h1,h2⟩:=cd_true h;have h1:=Nq h1;subst h1;exact sameP_eq h2)
  |rfl
  |(cases h;done)
  |(obtain⟨h1,h2⟩:=cd_true h
    rw[kEq_eq,decide_eq_true_eq] at h1;rw[iEq_eq,decide_eq_true_eq] at h2;rw[h1,h2])
  |(rw[cdeq h])
  |(obtain⟨h1,h2⟩:=cd_true h
    have h1:=Nq h1
    rw[sEq_eq,decide_eq_true_eq] at h2;rw[h1,h2])
  |(obtain⟨h1,h2⟩:=cd_true h
    rw[idEq_eq,decide_eq_true_eq] at h1;have h2:=Nq h2;rw[h1,h2])
  |(obtain⟨h1,h⟩:=cd_true h
    obtain⟨h2,h⟩:=cd_true h
    obtain⟨h3,h⟩:=cd_true h
    obtain⟨h4,h⟩:=cd_true h
    obtain⟨h5,h⟩:=cd_true h
    rw[idEq_eq,decide_eq_true_eq] at h1
    have h2:=Nq h2
    have h3:=Nq h3
    have h4:=Nq h4
    have h5:=Nq h5
    have h6:=cdeq h
    rw[h1,h2,h3,h4,h5,h6])
  |(rw[idEq_eq,decide_eq_true_eq] at h;rw[h])
theorem sameL_eq:∀{xs ys:List AV},sameL xs ys=true→xs=ys
 |[],[],_=>rfl
 |[],_::_,h=>by cases h
 |_::_,[],h=>by cases h
 |x::xs,y::ys,h=>by
  obtain⟨h1,h2⟩:=cd_true (show cd (same1 x y) (sameL xs ys) false=true from h)
  rw[same1_eq h1,sameL_eq h2]
theorem sameB_eq {x y:AV} (h:sameB x y=true):x=y:=by
 unfold sameB at h
 split at h
 ·rw[sameL_eq h]
 ·exact same1_eq h
theorem sameA_eq {x y:AV} (h:sameA x y=true):x=y:=by
 unfold sameA at h
 cases hb:sameB x y with
 |true=>exact sameB_eq hb
 |false=>rw[hb] at h;exact @of_decide_eq_true _ (Classical.propDecidable _) h
theorem sameA_refl (x:AV):sameA x x=true:=by
 unfold sameA
 cases sameB x x with
 |true=>rfl
 |false=>exact @Dt _ (Classical.propDecidable _) rfl
end Go.Ev
namespace Go.Ev
mutual
theorem Rel.mono {e e':Env} (hρ:e'.ρ=e.ρ) (hw:e'.w=e.w) (hi:Mle (mm e) (mm e')):∀(a:AV) (v:Value),Rel e a v→Rel e' a v
 |.i ..,_,h=>by simpa[Rel] using h
 |.b ..,_,h=>by simpa[Rel] using h
 |.s ..,_,h=>by simpa[Rel] using h
 |.v ..,_,h=>by simpa[Rel] using h
 |.p id off,v,h=>by
  simp only[Rel,known,hρ] at h⊢;exact h
 |.sl id off sz n lo ex,v,h=>by
  simp only[Rel,known,hρ,hw] at h⊢;exact h
 |.em,_,h=>by simpa[Rel] using h
 |.isl t xs,v,h=>by
  simp only[Rel] at h⊢
  exact relT_mono hi (fun b o _=>by rw[hw]) _ _ _ h
 |.ip t y off,v,h=>by
  simp only[Rel] at h⊢
  obtain⟨b,o,us,hv,hm,hc,hr⟩:=h
  exact⟨b,o,us,hv,hi.1 _ hm,fun j v hv=>by rw[hw];exact hc j v hv,relT_mono hi (fun b o _=>by rw[hw]) _ _ _ hr⟩
 |.f fn first cap,v,h=>by
  simp only[Rel] at h⊢
  obtain⟨vs,ws,hv,h1,h2⟩:=h
  exact⟨vs,ws,hv,RelL.mono hρ hw hi _ _ h1,RelL.mono hρ hw hi _ _ h2⟩
 |.ifc t y,v,h=>by
  simp only[Rel] at h⊢
  obtain⟨u,hv,hu⟩:=h
  exact⟨u,hv,Rel.mono hρ hw hi _ _ hu⟩
 |.ag cs,v,h=>by
  simp only[Rel] at h⊢
  obtain⟨h1,vs,hv,h2⟩:=h
  exact⟨h1,vs,hv,RelL.mono hρ hw hi _ _ h2⟩
 |.tu xs,v,h=>by
  simp only[Rel] at h⊢
  obtain⟨vs,hv,h2⟩:=h
  exact⟨vs,hv,RelL.mono hρ hw hi _ _ h2⟩
 |.m id,v,h=>by
  simp only[Rel,known,hρ] at h⊢;exact h
 |.j,_,h=>by simp[Rel]
theorem RelL.mono {e e':Env} (hρ:e'.ρ=e.ρ) (hw:e'.w=e.w) (hi:Mle (mm e) (mm e')):∀(a:List AV) (v:List Value),RelL e a v→RelL e' a v
 |[],[],_=>by simp[RelL]
 |[],_::_,h=>by simp[RelL] at h
 |_::_,[],h=>by simp[RelL] at h
 |a::as_,v::vs,h=>by
  simp only[RelL] at h⊢
  exact⟨Rel.mono hρ hw hi _ _ h.1,RelL.mono hρ hw hi _ _ h.2⟩
end
theorem EntRel.mono {e e':Env} (hρ:e'.ρ=e.ρ) (hw:e'.w=e.w) (hi:Mle (mm e) (mm e')):∀(a:List (AV×AV)) (m:List MapEntry),EntRel e a m→EntRel e' a m
 |[],[],_=>trivial
 |[],_::_,h=>h.elim
 |(_,_)::_,[],h=>h.elim
 |(_,_)::_,_::_,h=>⟨Rel.mono hρ hw hi _ _ h.1,Rel.mono hρ hw hi _ _ h.2.1,EntRel.mono hρ hw hi _ _ h.2.2⟩
theorem BlkRel.mono {e e':Env} (hρ:e'.ρ=e.ρ) (hw:e'.w=e.w) (hi:Mle (mm e) (mm e')){id:Id}:∀b,BlkRel e id b→BlkRel e' id b
 |.cs el l fz,h=>by
  obtain⟨c,fr,h1,h2,h3,h4⟩:=h
  simp only[BlkRel,hρ,hw]
  refine⟨c,fr,h1,h2,fun j y hy=>?_,h4⟩
  obtain⟨ho,v,hv,hr⟩:=h3 j y hy
  exact⟨ho,v,hv,Rel.mono hρ hw hi _ _ hr⟩
 |.mp es,h=>by
  obtain⟨ms,clock,h1,h2⟩:=h
  simp only[BlkRel,hρ,hw]
  exact⟨ms,clock,h1,EntRel.mono hρ hw hi _ _ h2⟩
 |.it s pos,h=>by
  simp only[BlkRel,hρ,hw] at h⊢
  exact h
 |.dead,_=>trivial
def Same (h h2:H):Prop:=h2.next=h.next∧∀id,h2.get id=h.get id
theorem Same.live {h h2:H} (s:Same h h2) (id:Id):live h2 id↔live h id:=by simp only[Ev.live,s.2]
theorem Same.own {e:Env}{h2:H} (s:Same e.h h2) (b:Nat):Own ⟨e.ρ,h2,e.w,e.F⟩ b↔Own e b:=by
 simp only[Own,s.live]
theorem Same.imm {e:Env}{h2:H} (s:Same e.h h2) (b:Nat):Imm ⟨e.ρ,h2,e.w,e.F⟩ b↔Imm e b:=by
 simp only[Imm,s.own]
theorem Same.ext {e:Env}{h2:H} (s:Same e.h h2):Ext e ⟨e.ρ,h2,e.w,e.F⟩ where
 next:=by show _≤h2.next;rw[s.1];exact Nr _
 kn:=fun _ h=>h
 ren:=fun _ _=>rfl
 fr:=rfl
 qt:=⟨rfl,rfl,rfl⟩
 heap:=Nr _
 keep:=fun _ _ _=>rfl
 size:=fun _ _=>rfl
 own:=fun b _ h=>(s.own b).1 h
 pres:=fun id b h=>⟨b,by show h2.get id=_;rw[s.2];exact h⟩
 newk:=fun _ h=>.inl h
theorem Same.st {e:Env}{h2:H} (s:Same e.h h2) (hs:St e):St ⟨e.ρ,h2,e.w,e.F⟩ where
 kn:=fun id hk=>by
  obtain⟨k,h1,h3,h4⟩:=hs.kn id hk
  exact⟨k,by show k<h2.next;rw[s.1];exact h1,h3,fun hl=>by show∃b,h2.get id=some b;rw[s.2];exact h4 hl⟩
 dk:=fun id b hb=>hs.dk id b (by rw[←s.2];exact hb)
 lo:=by show _≤h2.next;rw[s.1];exact hs.lo
 blk:=fun id b hb=>BlkRel.mono (e:=e) (e':=⟨e.ρ,h2,e.w,e.F⟩) rfl rfl ⟨fun b h=>(s.imm b).2 h,Nr _⟩ b (hs.blk id b (by rw[←s.2];exact hb))
 inj:=fun id id' l l' he=>hs.inj id id' ((s.live id).1 l) ((s.live id').1 l') he
 fr:=fun b hb=>⟨(hs.fr b hb).1,fun h=>(hs.fr b hb).2 ((s.own b).1 h)⟩
structure Part (h h1:H) (X:List Pd) (lo:Nat):Prop where
 next:h1.next=h.next
 out:∀p∈X,h.get p.id=some p.b∧h1.get p.id=none∧∃k,k<lo∧p.id=path k
 rest:∀id,(∀p∈X,p.id≠id)→h1.get id=h.get id
 lo:lo≤h.next
theorem puts_next (X:List Pd) (h:H):(puts X h).next=h.next:=by
 induction X with
 |nil=>rfl
 |cons p X ih=>exact ih
theorem puts_cons (p:Pd) (X:List Pd) (h:H):puts (p::X) h=(puts X h).put p.id p.b:=rfl
theorem puts_not {X:List Pd}{h:H}{id:Id} (hn:∀p∈X,p.id≠id):(puts X h).get id=h.get id:=by
 induction X with
 |nil=>rfl
 |cons p X ih=>
  rw[puts_cons,H.get_put,if_neg (fun he=>hn p (Mc ..) he.symm)]
  exact ih (fun q hq=>hn q (Loz _ hq))
theorem puts_mem {X:List Pd}{h:H}{p:Pd} (hp:p∈X) (hu:∀q∈X,q.id=p.id→q.b=p.b):(puts X h).get p.id=some p.b:=by
 induction X with
 |nil=>cases hp
 |cons q X ih=>
  rw[puts_cons,H.get_put]
  by_cases he:p.id=q.id
  ·rw[if_pos he,hu q (Mc ..) he.symm]
  ·rw[if_neg he]
   rcases List.mem_cons.1 hp with rfl|hp
   ·exact absurd rfl he
   ·exact ih hp (fun r hr=>hu r (Loz _ hr))
section
variable {P:Program}{G:Gs}{call:CallF}
theorem OpS.framed {o:Oper}{e:Env}{a:Act}{v:AV}{h1 h':H}{X:List Pd}{lo:Nat} (hs:St e) (hlo:e.F.lo≤lo) (hp:Part e.h h1 X lo) (hX:∀p∈X,∀q∈X,q.id=p.id→q.b=p.b)
 (hop:∀e1:Env,e1.h=h1→e1.w=e.w→e1.F.lo=lo→e1.F.B=e.F.B→St e1→(∀x cv,Rel e x cv→Rel e1 x cv)→OpS P o e1 a v h'):OpS P o e a v (puts X h'):=by
 let F1:Fix:=⟨fun b=>e.F.f b∨∃p∈X,p.b≠.dead∧b=(e.ρ p.id).1,lo,e.F.B⟩
 let e1:Env:=⟨e.ρ,h1,e.w,F1⟩
 have lv1:∀id,live h1 id→live e.h id:=fun id ⟨b,hb,hd⟩=>by
  refine⟨b,?_,hd⟩
  rw[←hp.rest id]
  ·exact hb
  ·rintro p hpX rfl
   rw[(hp.out p hpX).2.1] at hb;cases hb
 have own1:∀b,Own e1 b→Own e b:=fun b ⟨id,l,hid⟩=>⟨id,lv1 id l,hid⟩
 have lvX:∀p∈X,p.b≠.dead→live e.h p.id:=fun p hpX hd=>⟨p.b,(hp.out p hpX).1,hd⟩
 have imm1:∀b,Imm e b→Imm e1 b:=fun b ⟨h2,h3,h4⟩=>by
  refine⟨h2,?_,fun h=>h4 (own1 b h)⟩
  rintro (h|⟨p,hpX,hd,rfl⟩)
  ·exact h3 h
  ·exact h4 ⟨p.id,lvX p hpX hd,rfl⟩
 have notX:∀p∈X,¬live h1 p.id:=fun p hpX ⟨b,hb,_⟩=>by rw[(hp.out p hpX).2.1] at hb;cases hb
 have get1:∀id b,h1.get id=some b→e.h.get id=some b:=fun id b hb=>by
  rw[←hp.rest id]
  ·exact hb
  ·rintro p hpX rfl
   rw[(hp.out p hpX).2.1] at hb;cases hb
 have st1:St e1:={
  kn:=fun id hk=>by
   obtain⟨k,h2,h3,h4⟩:=hs.kn id hk
   refine⟨k,by show k<h1.next;rw[hp.next];exact h2,h3,fun hl=>?_⟩
   by_cases hx:∀p∈X,p.id≠id
   ·show∃b,h1.get id=some b
    rw[hp.rest id hx]
    exact h4 (Nt hlo hl)
   ·exfalso
    apply hx
    rintro p hpX rfl
    obtain⟨_,_,k',hk',he⟩:=hp.out p hpX
    have:=path_inj (h3.symm.trans he)
    have hl:lo≤k:=hl
    omega
  dk:=fun id b hb=>hs.dk id b (get1 id b hb)
  lo:=by show lo≤h1.next;rw[hp.next];exact hp.lo
  blk:=fun id b hb=>BlkRel.mono (e:=e) (e':=e1) rfl rfl ⟨imm1,Nr _⟩ b (hs.blk id b (get1 id b hb))
  inj:=fun id id' l l' he=>hs.inj id id' (lv1 id l) (lv1 id' l') he
  fr:=fun b hb=>by
   rcases hb with hb|⟨p,hpX,hd,rfl⟩
   ·exact⟨(hs.fr b hb).1,fun h=>(hs.fr b hb).2 (own1 b h)⟩
   ·refine⟨hs.lt (lvX p hpX hd),fun⟨id,l,hid⟩=>?_⟩
    have:=hs.inj id p.id (lv1 id l) (lvX p hpX hd) hid
    subst this
    exact notX p hpX l}
 have h0:=hop e1 rfl rfl rfl rfl st1 (Rel.mono (e:=e) (e':=e1) rfl rfl ⟨imm1,Nr _⟩)
 intro next Q k
 refine h0 next Q (fun cv e' he' hs' hx' hv'=>?_)
 subst he'
 let e2:Env:=⟨e'.ρ,puts X e'.h,e'.w,e.F⟩
 have g2X:∀p∈X,e2.h.get p.id=some p.b:=fun p hpX=>puts_mem hpX (hX p hpX)
 have g2:∀id,(∀p∈X,p.id≠id)→e2.h.get id=e'.h.get id:=fun id hn=>puts_not hn
 have cases2:∀id,(∃p∈X,p.id=id)∨∀p∈X,p.id≠id:=fun id=>by
  by_cases h:∃p∈X,p.id=id
  ·exact .inl h
  ·exact .inr (fun p hpX he=>h ⟨p,hpX,he⟩)
 have knX:∀p∈X,known e p.id:=fun p hpX=>hs.dk _ _ (hp.out p hpX).1
 have renX:∀p∈X,e'.ρ p.id=e.ρ p.id:=fun p hpX=>hx'.ren p.id (knX p hpX)
 have F':e'.F=F1:=hx'.fr
 have own2:∀b,Own e2 b→(∃p∈X,p.b≠.dead∧b=(e.ρ p.id).1)∨Own e' b:=fun b ⟨id,⟨c,hc,hd⟩,hid⟩=>by
  rcases cases2 id with ⟨p,hpX,rfl⟩|hn
  ·rw[g2X p hpX] at hc
   obtain rfl:=Oi hc
   refine .inl ⟨p,hpX,hd,?_⟩
   rw[←renX p hpX];exact hid.symm
  ·exact .inr ⟨id,⟨c,by rw[←g2 id hn];exact hc,hd⟩,hid⟩
 have frX:∀p∈X,p.b≠.dead→¬Own e' (e.ρ p.id).1:=fun p hpX hd=>(hs'.fr _ (by rw[F'];exact .inr ⟨p,hpX,hd,rfl⟩)).2
 have imm2:∀b,Imm e' b→Imm e2 b:=fun b ⟨h2,h3,h4⟩=>by
  rw[F'] at h3
  refine⟨h2,fun h=>h3 (.inl h),fun h=>?_⟩
  rcases own2 b h with ⟨p,hpX,hd,rfl⟩|h
  ·exact h3 (.inr ⟨p,hpX,hd,rfl⟩)
  ·exact h4 h
 have ext2:Ext e e2:={
  next:=by show _≤(puts X e'.h).next;rw[puts_next,←hp.next];exact hx'.next
  kn:=hx'.kn
  ren:=hx'.ren
  fr:=rfl
  qt:=hx'.qt
  heap:=hx'.heap
  keep:=fun b hb ho=>hx'.keep b hb (fun h=>ho (own1 b h))
  size:=hx'.size
  own:=fun b hb h=>by
   rcases own2 b h with ⟨p,hpX,hd,rfl⟩|h
   ·exact⟨p.id,lvX p hpX hd,rfl⟩
   ·exact own1 b (hx'.own b hb h)
  pres:=fun id b hb=>by
   rcases cases2 id with ⟨p,hpX,rfl⟩|hn
   ·exact⟨p.b,g2X p hpX⟩
   ·rw[g2 id hn];exact hx'.pres id b (by show h1.get id=_;rw[hp.rest id hn];exact hb)
  newk:=fun id hk=>by
   rcases hx'.newk id hk with h|⟨b,h⟩
   ·exact .inl h
   ·rcases cases2 id with ⟨p,hpX,rfl⟩|hn
    ·exact .inr ⟨p.b,g2X p hpX⟩
    ·exact .inr ⟨b,by rw[g2 id hn];exact h⟩}
 have st2:St e2:={
  kn:=fun id hk=>by
   obtain⟨k,h2,h3,h4⟩:=hs'.kn id hk
   refine⟨k,by show k<(puts X e'.h).next;rw[puts_next];exact h2,h3,fun hl=>?_⟩
   rcases hx'.newk id hk with h|⟨b,h⟩
   ·obtain⟨k',_,h6,h7⟩:=hs.kn id h
    have:=path_inj (h3.symm.trans h6)
    subst this
    obtain⟨b,hb⟩:=h7 hl
    exact ext2.pres id b hb
   ·rcases cases2 id with ⟨p,hpX,rfl⟩|hn
    ·exact⟨p.b,g2X p hpX⟩
    ·exact⟨b,by rw[g2 id hn];exact h⟩
  dk:=fun id b hb=>by
   rcases cases2 id with ⟨p,hpX,rfl⟩|hn
   ·exact hx'.kn _ (knX p hpX)
   ·exact hs'.dk id b (by rw[←g2 id hn];exact hb)
  lo:=Nt hs.lo ext2.next
  blk:=fun id b hb=>by
   rcases cases2 id with ⟨p,hpX,rfl⟩|hn
   ·rw[g2X p hpX] at hb
    obtain rfl:=Oi hb
    by_cases hd:p.b=.dead
    ·rw[hd];trivial
    ·exact BlkRel.ext ext2 (knX p hpX) (hx'.keep _ (hs.lt (lvX p hpX hd)) (st1.fr _ (.inr ⟨p,hpX,hd,rfl⟩)).2) _ (hs.blk _ _ (hp.out p hpX).1)
   ·exact BlkRel.mono (e:=e') (e':=e2) rfl rfl ⟨imm2,by show e'.F.B≤e.F.B;rw[hx'.fr];exact Nr _⟩ b (hs'.blk id b (by rw[←g2 id hn];exact hb))
  inj:=fun id id' ⟨c,hc,hd⟩ ⟨c',hc',hd'⟩ he=>by
   rcases cases2 id with ⟨p,hpX,rfl⟩|hn<;>rcases cases2 id' with ⟨q,hqX,rfl⟩|hn'
   ·rw[g2X p hpX] at hc;rw[g2X q hqX] at hc'
    obtain rfl:=Oi hc
    obtain rfl:=Oi hc'
    have he:(e'.ρ p.id).1=(e'.ρ q.id).1:=he
    rw[renX p hpX,renX q hqX] at he
    exact hs.inj _ _ (lvX p hpX hd) (lvX q hqX hd') he
   ·rw[g2X p hpX] at hc
    obtain rfl:=Oi hc
    rw[g2 id' hn'] at hc'
    have he:(e'.ρ p.id).1=(e'.ρ id').1:=he
    rw[renX p hpX] at he
    exact absurd ⟨id',⟨c',hc',hd'⟩,he.symm⟩ (frX p hpX hd)
   ·rw[g2X q hqX] at hc'
    obtain rfl:=Oi hc'
    rw[g2 id hn] at hc
    have he:(e'.ρ id).1=(e'.ρ q.id).1:=he
    rw[renX q hqX] at he
    exact absurd ⟨id,⟨c,hc,hd⟩,he⟩ (frX q hqX hd')
   ·rw[g2 id hn] at hc;rw[g2 id' hn'] at hc'
    exact hs'.inj id id' ⟨c,hc,hd⟩ ⟨c',hc',hd'⟩ he
  fr:=fun b hb=>by
   have hb':e'.F.f b:=by rw[F'];exact .inl hb
   refine⟨(hs'.fr b hb').1,fun h=>?_⟩
   rcases own2 b h with ⟨p,hpX,hd,rfl⟩|h
   ·exact(hs.fr _ hb).2 ⟨p.id,lvX p hpX hd,rfl⟩
   ·exact(hs'.fr b hb').2 h}
 exact k cv e2 rfl st2 ext2 (Rel.mono (e:=e') (e':=e2) rfl rfl ⟨imm2,by show e'.F.B≤e.F.B;rw[hx'.fr];exact Nr _⟩ _ _ hv')
end
end Go.Ev
end
