/- A part of the proof that FnActWords returns true for every input and leaves its argument as it was; no condition. -/
import Derived.Test.YtccagicppnmelaaGreatDoorRows
import Derived.ProofKit
import Derived.LaidLaws
import Derived.LaidHandle
import Derived.Handed
set_option linter.all false
namespace Go.Proofs.YtccagicppnmelaaGreatDoor
open Go.ChangeShapes Go.WideShapes Go.RowKit
set_option maxRecDepth 100000
noncomputable def low:Nat:=(World.holding Tryz.prog default ⟨#[],#[],[]⟩).heap.size
def lay (cs:Array Value):Obj→Obj
 |.cells _ t frozen=>.cells cs t frozen
 |o=>o
def u8s (l:List Nat):Array Value:=(l.map fun n=>Value.int .u8 (.ofNat n)).toArray
def bytesOf:{H:Type}→DataW H→List Value
 |_,.agg l=>l.map fun
  |.lit (.int k n)=>.int k n
  |_=>.bool false
 |_,_=>[]
def rangeS:ByteArray:={data:=#[118,97,108,117,101,32,111,117,116,32,111,102,32,114,97,110,103,101]}
def syntS:ByteArray:={data:=#[105,110,118,97,108,105,100,32,115,121,110,116,97,120]}
noncomputable def laidWorld (os:Os):World:=
 let w0:=World.holding Tryz.prog os ⟨#[.cells #[.string rangeS] 443,.cells #[.string syntS] 443],#[],[]⟩
 {w0 with heap:=((((((w0.heap.modify 1 (lay (bytesOf (H:=Unit) Rows.laid_internal_strconv_uint64pow10).toArray)).modify 6 (lay (bytesOf Rows.laid_unicode_utf8_first).toArray)).modify 7 (lay (u8s [128,191,160,191,128,159,144,191,128,143,0,0,0,0,0,0,0,0,0,0,0,0,0,0,0,0,0,0,0,0,0,0]))).modify 4
  (lay (bytesOf (H:=Unit) Rows.laid_math_bits_deBruijn32tab).toArray)).modify 5 (lay (bytesOf (H:=Unit) Rows.laid_math_bits_deBruijn64tab).toArray)).modify 2 (lay #[.iface 441 (.pointer (some ⟨low+1,0,none⟩))])).modify 3 (lay #[.iface 441 (.pointer (some ⟨low,0,none⟩))])}
theorem laidWorld_met (os:Os) (args:Array Value):laidMetH Tryz.prog Rows.fnActWordsRow.laid ((laidWorld os).forCall (fun _ _=>0) ⟨#[],args,[]⟩).memory:=
 laidMetH_of_parts (laidMet_of_run' 8 (by kernel_rfl) (by kernel_rfl)) (by kernel_rfl)
theorem laidWorld_fits {H:Type} (enc:TypeId×Value→H) (os:Os):
 ∃(w:World) (tape:Tape) (i:Input),w.os=os∧(w.forCall tape i).Shaped Tryz.checked.prog∧i.vars=[]∧Input.okWide Tryz.checked.prog (w.forCall tape i) .any w.heap.size 3 i∧
  ((Rows.fnActWordsSpec.pre enc Tryz.checked.prog Tryz.f3 [] false (w.forCall tape i).memory i.args∧laidMetH Tryz.prog Rows.fnActWordsRow.laid (w.forCall tape i).memory)∧sizedMet enc Tryz.checked.prog Tryz.f3 (OpenSpec.ofChange Rows.fnActWordsSpec) false (w.forCall tape i).memory i.args)∧({modest:=false}:Assume).holds Tryz.checked.prog (lone (Frame.enter Tryz.checked.prog 3 i.args .normal) [] (w.forCall tape i)):=
 ChangeSpec.witness_at (enc:=enc) (C:=Tryz.checked) (os:=os) (X:=fun w _=>laidMetH Tryz.prog Rows.fnActWordsRow.laid w) false (laidWorld os) #[.slice none 0 0] 8 rfl (by kernel_rfl) (by kernel_rfl) (by kernel_rfl) (by kernel_rfl) (by kernel_rfl) (laidWorld_met os _)
end Go.Proofs.YtccagicppnmelaaGreatDoor
