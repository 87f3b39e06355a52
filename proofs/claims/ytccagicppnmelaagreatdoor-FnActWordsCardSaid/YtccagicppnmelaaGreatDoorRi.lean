/- A part of the proof that FnActWords returns true for every input and leaves its argument as it was; no condition. -/
import Derived.Test.YtccagicppnmelaaGreatDoorQq
import Derived.Test.YtccagicppnmelaaGreatDoorRf
import Derived.Test.YtccagicppnmelaaGreatDoorQa
set_option linter.all false
open List renaming length→U
open Int renaming ofNat→J,toNat→Jn
open Go.Ev
attribute [local irreducible] GC RJ KC KM cAt cOn runC stp brC bodyC cvC rsC rdC regC loopC endC skpC extC retC evJ RS.at RS.put RS.okS RS.okR RS.all RS.fst endV endVM grpA grpB grpR grpD grpO RunOps RunD bodyF resF argsFrom cArg
noncomputable section
namespace Go.Ev
open Go.Proofs
set_option maxRecDepth 100000
def jobB1 (l:List Nat) (p:List Nat×List Nat):Bool:=cd (gd1 (jobM l p.1 p.2 []).1) (allM (fun t=>gd1 (jobM l p.1 p.2 [t]).1) t3L) false
def jobB2 (l:List Nat) (p:List Nat×List Nat):Bool:=cd (good2B (c7 (jobM l p.1 p.2 []).1).1) (allM (fun s=>good2B (cat (c7 (jobM l p.1 p.2 []).1).1 s)) l_suf) false
def othB (y:denL pSites):Bool:=cd (good1B y.1) (cd (good2B (c7 y.1).1) (allM (fun s=>good2B (cat (c7 y.1).1 s)) l_suf) false) false
theorem oth_all:allM othB othersL=true:=kr
theorem job_0:(Option.rec false (fun l=>allM (fun p=>cd (jobB1 l p) (jobB2 l p) false) argT) (nth l_lab 0):Bool)=true:=kr
theorem job_1:(Option.rec false (fun l=>allM (fun p=>cd (jobB1 l p) (jobB2 l p) false) argT) (nth l_lab 1):Bool)=true:=kr
theorem job_2:(Option.rec false (fun l=>allM (fun p=>cd (jobB1 l p) (jobB2 l p) false) argT) (nth l_lab 2):Bool)=true:=kr
theorem job_3:(Option.rec false (fun l=>allM (fun p=>cd (jobB1 l p) (jobB2 l p) false) argT) (nth l_lab 3):Bool)=true:=kr
theorem job_4:(Option.rec false (fun l=>allM (fun p=>cd (jobB1 l p) (jobB2 l p) false) argT) (nth l_lab 4):Bool)=true:=kr
theorem job_5:(Option.rec false (fun l=>allM (fun p=>cd (jobB1 l p) (jobB2 l p) false) argT) (nth l_lab 5):Bool)=true:=kr
theorem job_6:(Option.rec false (fun l=>allM (fun p=>cd (jobB1 l p) (jobB2 l p) false) argT) (nth l_lab 6):Bool)=true:=kr
theorem job_7:(Option.rec false (fun l=>allM (fun p=>cd (jobB1 l p) (jobB2 l p) false) argT) (nth l_lab 7):Bool)=true:=kr
theorem job_8:(Option.rec false (fun l=>allM (fun p=>cd (jobB1 l p) (jobB2 l p) false) argT) (nth l_lab 8):Bool)=true:=kr
theorem job_9:(Option.rec false (fun l=>allM (fun p=>cd (jobB1 l p) (jobB2 l p) false) argT) (nth l_lab 9):Bool)=true:=kr
theorem job_10:(Option.rec false (fun l=>allM (fun p=>cd (jobB1 l p) (jobB2 l p) false) argT) (nth l_lab 10):Bool)=true:=kr
theorem job_11:(Option.rec false (fun l=>allM (fun p=>cd (jobB1 l p) (jobB2 l p) false) argT) (nth l_lab 11):Bool)=true:=kr
theorem job_12:(Option.rec false (fun l=>allM (fun p=>cd (jobB1 l p) (jobB2 l p) false) argT) (nth l_lab 12):Bool)=true:=kr
end Go.Ev
end
