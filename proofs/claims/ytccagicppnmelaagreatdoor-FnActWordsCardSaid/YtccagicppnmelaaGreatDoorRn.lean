/- A part of the proof that FnActWords returns true for every input and leaves its argument as it was; no condition. -/
import Derived.Test.YtccagicppnmelaaGreatDoorRows
import Derived.KernelRfl
set_option linter.all false
namespace Go.Proofs.YtccagicppnmelaaGreatDoor
open Go
set_option maxRecDepth 100000
theorem tsize:Tryz.prog.types.size=724:=by kernel_rfl
theorem row0:(List.range' 0 60).all (rowFine Tryz.prog)=true:=by kernel_rfl
theorem row1:(List.range' 60 60).all (rowFine Tryz.prog)=true:=by kernel_rfl
theorem row2:(List.range' 120 61).all (rowFine Tryz.prog)=true:=by kernel_rfl
theorem row3:(List.range' 181 60).all (rowFine Tryz.prog)=true:=by kernel_rfl
theorem row4:(List.range' 241 60).all (rowFine Tryz.prog)=true:=by kernel_rfl
theorem row5:(List.range' 301 61).all (rowFine Tryz.prog)=true:=by kernel_rfl
theorem row6:(List.range' 362 60).all (rowFine Tryz.prog)=true:=by kernel_rfl
theorem row7:(List.range' 422 60).all (rowFine Tryz.prog)=true:=by kernel_rfl
theorem row8:(List.range' 482 61).all (rowFine Tryz.prog)=true:=by kernel_rfl
theorem row9:(List.range' 543 60).all (rowFine Tryz.prog)=true:=by kernel_rfl
theorem row10:(List.range' 603 60).all (rowFine Tryz.prog)=true:=by kernel_rfl
theorem row11:(List.range' 663 61).all (rowFine Tryz.prog)=true:=by kernel_rfl
theorem rowG:(Tryz.prog.globals.all fun g=>decide (g.type<724))=true:=by kernel_rfl
theorem rowF:(Tryz.prog.funcs.all fun f=>f.params.all fun t=>decide (t<724))=true:=by kernel_rfl
theorem in_part {p:Nat→Bool}{a n i:Nat} (h:(List.range' a n).all p=true) (h1:a≤i) (h2:i<a+n):p i=true:=
 List.all_eq_true.1 h i (by rw[List.mem_range'_1];exact⟨h1,h2⟩)
theorem laidOut:laidOutB Tryz.prog=true:=by
 unfold laidOutB
 rw[tsize,rowG,rowF,Bool.and_true,Bool.and_true]
 refine List.all_eq_true.2 fun i hi=>?_
 have hi:i<724:=List.mem_range.1 hi
 rcases Nat.lt_or_ge i 60 with h|h0
 ·exact in_part row0 (by omega) (by omega)
 rcases Nat.lt_or_ge i 120 with h|h1
 ·exact in_part row1 (by omega) (by omega)
 rcases Nat.lt_or_ge i 181 with h|h2
 ·exact in_part row2 (by omega) (by omega)
 rcases Nat.lt_or_ge i 241 with h|h3
 ·exact in_part row3 (by omega) (by omega)
 rcases Nat.lt_or_ge i 301 with h|h4
 ·exact in_part row4 (by omega) (by omega)
 rcases Nat.lt_or_ge i 362 with h|h5
 ·exact in_part row5 (by omega) (by omega)
 rcases Nat.lt_or_ge i 422 with h|h6
 ·exact in_part row6 (by omega) (by omega)
 rcases Nat.lt_or_ge i 482 with h|h7
 ·exact in_part row7 (by omega) (by omega)
 rcases Nat.lt_or_ge i 543 with h|h8
 ·exact in_part row8 (by omega) (by omega)
 rcases Nat.lt_or_ge i 603 with h|h9
 ·exact in_part row9 (by omega) (by omega)
 rcases Nat.lt_or_ge i 663 with h|h10
 ·exact in_part row10 (by omega) (by omega)
 exact in_part row11 (by omega) (by omega)
end Go.Proofs.YtccagicppnmelaaGreatDoor
