/- A part of the proof that FnRolled returns true; no condition. -/
import Derived.Test.YtmkdnjbgmflnfaaGreatDoorRows
import Derived.KernelRfl
import Derived.ProofKit
import Derived.LaidLaws
import Derived.LaidHandle
import Derived.Handed
set_option linter.all false
set_option maxRecDepth 100000
namespace Go.Proofs.YtmkdnjbgmflnfaaGreatDoor
open Go
theorem tsize:Tryz.prog.types.size=761:=by kernel_rfl
theorem row0:(List.range' 0 63).all (rowFine Tryz.prog)=true:=by kernel_rfl
theorem row1:(List.range' 63 63).all (rowFine Tryz.prog)=true:=by kernel_rfl
theorem row2:(List.range' 126 64).all (rowFine Tryz.prog)=true:=by kernel_rfl
theorem row3:(List.range' 190 63).all (rowFine Tryz.prog)=true:=by kernel_rfl
theorem row4:(List.range' 253 64).all (rowFine Tryz.prog)=true:=by kernel_rfl
theorem row5:(List.range' 317 63).all (rowFine Tryz.prog)=true:=by kernel_rfl
theorem row6:(List.range' 380 63).all (rowFine Tryz.prog)=true:=by kernel_rfl
theorem row7:(List.range' 443 64).all (rowFine Tryz.prog)=true:=by kernel_rfl
theorem row8:(List.range' 507 63).all (rowFine Tryz.prog)=true:=by kernel_rfl
theorem row9:(List.range' 570 64).all (rowFine Tryz.prog)=true:=by kernel_rfl
theorem row10:(List.range' 634 63).all (rowFine Tryz.prog)=true:=by kernel_rfl
theorem row11:(List.range' 697 64).all (rowFine Tryz.prog)=true:=by kernel_rfl
theorem rowG:(Tryz.prog.globals.all fun g=>decide (g.type<761))=true:=by kernel_rfl
theorem rowF:(Tryz.prog.funcs.all fun f=>f.params.all fun t=>decide (t<761))=true:=by kernel_rfl
theorem in_part {p:Nat→Bool}{a n i:Nat} (h:(List.range' a n).all p=true) (h1:a≤i) (h2:i<a+n):p i=true:=
 List.all_eq_true.1 h i (by rw[List.mem_range'_1];exact⟨h1,h2⟩)
theorem laidOut:laidOutB Tryz.prog=true:=by
 unfold laidOutB
 rw[tsize,rowG,rowF,Bool.and_true,Bool.and_true]
 refine List.all_eq_true.2 fun i hi=>?_
 have hi:i<761:=List.mem_range.1 hi
 rcases Nat.lt_or_ge i 63 with h|h0
 ·exact in_part row0 (by omega) (by omega)
 rcases Nat.lt_or_ge i 126 with h|h1
 ·exact in_part row1 (by omega) (by omega)
 rcases Nat.lt_or_ge i 190 with h|h2
 ·exact in_part row2 (by omega) (by omega)
 rcases Nat.lt_or_ge i 253 with h|h3
 ·exact in_part row3 (by omega) (by omega)
 rcases Nat.lt_or_ge i 317 with h|h4
 ·exact in_part row4 (by omega) (by omega)
 rcases Nat.lt_or_ge i 380 with h|h5
 ·exact in_part row5 (by omega) (by omega)
 rcases Nat.lt_or_ge i 443 with h|h6
 ·exact in_part row6 (by omega) (by omega)
 rcases Nat.lt_or_ge i 507 with h|h7
 ·exact in_part row7 (by omega) (by omega)
 rcases Nat.lt_or_ge i 570 with h|h8
 ·exact in_part row8 (by omega) (by omega)
 rcases Nat.lt_or_ge i 634 with h|h9
 ·exact in_part row9 (by omega) (by omega)
 rcases Nat.lt_or_ge i 697 with h|h10
 ·exact in_part row10 (by omega) (by omega)
 exact in_part row11 (by omega) (by omega)
end Go.Proofs.YtmkdnjbgmflnfaaGreatDoor
namespace Go.Proofs.YtmkdnjbgmflnfaaGreatDoor
open Go.ChangeShapes Go.WideShapes Go.RowKit
noncomputable def low:Nat:=(World.holding Tryz.prog default ⟨#[],#[],[]⟩).heap.size
def lay (cs:Array Value):Obj→Obj
 |.cells _ t frozen=>.cells cs t frozen
 |o=>o
def u8s (l:List Nat):Array Value:=(l.map fun n=>Value.int .u8 (.ofNat n)).toArray
def bytesOf:{H:Type}→DataW H→List Value
 |_,.agg l=>l.map fun
  |.lit (.int k n)=>.int k n
  |_=>.bool false
 |_,_=>[]
def rangeS:ByteArray:={data:=#[118,97,108,117,101,32,111,117,116,32,111,102,32,114,97,110,103,101]}
def syntS:ByteArray:={data:=#[105,110,118,97,108,105,100,32,115,121,110,116,97,120]}
noncomputable def laidWorld (os:Os):World:=
 let w0:=World.holding Tryz.prog os ⟨#[.cells #[.string rangeS] 744,.cells #[.string syntS] 744],#[],[]⟩
 {w0 with heap:=(((((((w0.heap.modify 1 (lay (bytesOf (H:=Unit) Rows.laid_internal_strconv_uint64pow10).toArray)).modify 2 (lay (bytesOf Rows.laid_unicode_utf8_first).toArray)).modify 3 (lay (u8s [128,191,160,191,128,159,144,191,128,143,0,0,0,0,0,0,0,0,0,0,0,0,0,0,0,0,0,0,0,0,0,0]))).modify 6 (lay (bytesOf (H:=Unit) Rows.laid_math_bits_deBruijn32tab).toArray)).modify 7 (lay (bytesOf (H:=Unit) Rows.laid_math_bits_deBruijn64tab).toArray)).modify 8 (lay #[.iface 742 (.pointer (some ⟨low+1,0,none⟩))])).modify 9 (lay #[.iface 742 (.pointer (some ⟨low,0,none⟩))]))}
theorem laidWorld_met (os:Os) (args:Array Value):laidMetH Tryz.prog Rows.fnRolledRow.laid ((laidWorld os).forCall (fun _ _=>0) ⟨#[],args,[]⟩).memory:=
 laidMetH_of_parts (laidMet_of_run' 8 (by kernel_rfl) (by kernel_rfl)) (by kernel_rfl)
theorem laidWorld_fits {H:Type} (enc:TypeId×Value→H) (os:Os):
 ∃(w:World) (tape:Tape) (i:Input),w.os=os∧(w.forCall tape i).Shaped Tryz.checked.prog∧i.vars=[]∧Input.okWide Tryz.checked.prog (w.forCall tape i) .any w.heap.size 4 i∧
  ((Rows.fnRolledSpec.pre enc Tryz.checked.prog Tryz.f4 [] false (w.forCall tape i).memory i.args∧laidMetH Tryz.prog Rows.fnRolledRow.laid (w.forCall tape i).memory)∧sizedMet enc Tryz.checked.prog Tryz.f4 (OpenSpec.ofChange Rows.fnRolledSpec) false (w.forCall tape i).memory i.args)∧({modest:=false}:Assume).holds Tryz.checked.prog (lone (Frame.enter Tryz.checked.prog 4 i.args .normal) [] (w.forCall tape i)):=
 ChangeSpec.witness_at (enc:=enc) (C:=Tryz.checked) (os:=os) (X:=fun w _=>laidMetH Tryz.prog Rows.fnRolledRow.laid w) false (laidWorld os) #[.slice none 0 0,.slice none 0 0] 8 rfl (by kernel_rfl) (by kernel_rfl) (by kernel_rfl) (by kernel_rfl) (by kernel_rfl) (laidWorld_met os _)
end Go.Proofs.YtmkdnjbgmflnfaaGreatDoor
