/- The compiled functions are what the compiler gives, part 2 (printed by a program). -/
import Derived.Test.YtghnkhippmmdmaaGreatDoorEvTt2
import Derived.Test.YtghnkhippmmdmaaGreatDoorEvG
import Derived.KernelRfl
import Derived.Test.YtghnkhippmmdmaaGreatDoorProg
set_option linter.unusedVariables false
set_option linter.unusedSimpArgs false
set_option linter.all false

namespace Go.Ev
open Go.Proofs
set_option maxRecDepth 100000
theorem ok351 (m : Int) : compF Tryz.prog (Gm m) Tryz.f351 = some f351 := by kernel_rfl
theorem ok352 (m : Int) : compF Tryz.prog (Gm m) Tryz.f352 = some f352 := by kernel_rfl
theorem ok353 (m : Int) : compF Tryz.prog (Gm m) Tryz.f353 = some f353 := by kernel_rfl
theorem ok354 (m : Int) : compF Tryz.prog (Gm m) Tryz.f354 = some f354 := by kernel_rfl
theorem ok355 (m : Int) : compF Tryz.prog (Gm m) Tryz.f355 = some f355 := by kernel_rfl
theorem ok356 (m : Int) : compF Tryz.prog (Gm m) Tryz.f356 = some f356 := by kernel_rfl
theorem ok357 (m : Int) : compF Tryz.prog (Gm m) Tryz.f357 = some f357 := by kernel_rfl
theorem ok358 (m : Int) : compF Tryz.prog (Gm m) Tryz.f358 = some f358 := by kernel_rfl
theorem ok359 (m : Int) : compF Tryz.prog (Gm m) Tryz.f359 = some f359 := by kernel_rfl
theorem ok360 (m : Int) : compF Tryz.prog (Gm m) Tryz.f360 = some f360 := by kernel_rfl
theorem ok361 (m : Int) : compF Tryz.prog (Gm m) Tryz.f361 = some f361 := by kernel_rfl
theorem ok363 (m : Int) : compF Tryz.prog (Gm m) Tryz.f363 = some f363 := by kernel_rfl
theorem ok365 (m : Int) : compF Tryz.prog (Gm m) Tryz.f365 = some f365 := by kernel_rfl
theorem ok368 (m : Int) : compF Tryz.prog (Gm m) Tryz.f368 = some f368 := by kernel_rfl
theorem ok370 (m : Int) : compF Tryz.prog (Gm m) Tryz.f370 = some f370 := by kernel_rfl
theorem ok374 (m : Int) : compF Tryz.prog (Gm m) Tryz.f374 = some f374 := by kernel_rfl
theorem ok380 (m : Int) : compF Tryz.prog (Gm m) Tryz.f380 = some f380 := by kernel_rfl
theorem ok384 (m : Int) : compF Tryz.prog (Gm m) Tryz.f384 = some f384 := by kernel_rfl
theorem ok385 (m : Int) : compF Tryz.prog (Gm m) Tryz.f385 = some f385 := by kernel_rfl
theorem ok386 (m : Int) : compF Tryz.prog (Gm m) Tryz.f386 = some f386 := by kernel_rfl
theorem ok387 (m : Int) : compF Tryz.prog (Gm m) Tryz.f387 = some f387 := by kernel_rfl
theorem ok388 (m : Int) : compF Tryz.prog (Gm m) Tryz.f388 = some f388 := by kernel_rfl
theorem ok389 (m : Int) : compF Tryz.prog (Gm m) Tryz.f389 = some f389 := by kernel_rfl
theorem ok390 (m : Int) : compF Tryz.prog (Gm m) Tryz.f390 = some f390 := by kernel_rfl
theorem ok391 (m : Int) : compF Tryz.prog (Gm m) Tryz.f391 = some f391 := by kernel_rfl
theorem ok396 (m : Int) : compF Tryz.prog (Gm m) Tryz.f396 = some f396 := by kernel_rfl
theorem ok397 (m : Int) : compF Tryz.prog (Gm m) Tryz.f397 = some f397 := by kernel_rfl
theorem ok398 (m : Int) : compF Tryz.prog (Gm m) Tryz.f398 = some f398 := by kernel_rfl
theorem ok400 (m : Int) : compF Tryz.prog (Gm m) Tryz.f400 = some f400 := by kernel_rfl
theorem ok403 (m : Int) : compF Tryz.prog (Gm m) Tryz.f403 = some f403 := by kernel_rfl
theorem ok404 (m : Int) : compF Tryz.prog (Gm m) Tryz.f404 = some f404 := by kernel_rfl
theorem ok408 (m : Int) : compF Tryz.prog (Gm m) Tryz.f408 = some f408 := by kernel_rfl
theorem ok409 (m : Int) : compF Tryz.prog (Gm m) Tryz.f409 = some f409 := by kernel_rfl
theorem ok412 (m : Int) : compF Tryz.prog (Gm m) Tryz.f412 = some f412 := by kernel_rfl
theorem ok413 (m : Int) : compF Tryz.prog (Gm m) Tryz.f413 = some f413 := by kernel_rfl
theorem ok415 (m : Int) : compF Tryz.prog (Gm m) Tryz.f415 = some f415 := by kernel_rfl
theorem ok416 (m : Int) : compF Tryz.prog (Gm m) Tryz.f416 = some f416 := by kernel_rfl
theorem ok417 (m : Int) : compF Tryz.prog (Gm m) Tryz.f417 = some f417 := by kernel_rfl
theorem ok418 (m : Int) : compF Tryz.prog (Gm m) Tryz.f418 = some f418 := by kernel_rfl
theorem ok419 (m : Int) : compF Tryz.prog (Gm m) Tryz.f419 = some f419 := by kernel_rfl
theorem ok420 (m : Int) : compF Tryz.prog (Gm m) Tryz.f420 = some f420 := by kernel_rfl
theorem ok421 (m : Int) : compF Tryz.prog (Gm m) Tryz.f421 = some f421 := by kernel_rfl
theorem ok422 (m : Int) : compF Tryz.prog (Gm m) Tryz.f422 = some f422 := by kernel_rfl
theorem ok425 (m : Int) : compF Tryz.prog (Gm m) Tryz.f425 = some f425 := by kernel_rfl
theorem ok426 (m : Int) : compF Tryz.prog (Gm m) Tryz.f426 = some f426 := by kernel_rfl
theorem ok427 (m : Int) : compF Tryz.prog (Gm m) Tryz.f427 = some f427 := by kernel_rfl
theorem ok428 (m : Int) : compF Tryz.prog (Gm m) Tryz.f428 = some f428 := by kernel_rfl
theorem ok429 (m : Int) : compF Tryz.prog (Gm m) Tryz.f429 = some f429 := by kernel_rfl
theorem ok430 (m : Int) : compF Tryz.prog (Gm m) Tryz.f430 = some f430 := by kernel_rfl
theorem ok431 (m : Int) : compF Tryz.prog (Gm m) Tryz.f431 = some f431 := by kernel_rfl
theorem ok432 (m : Int) : compF Tryz.prog (Gm m) Tryz.f432 = some f432 := by kernel_rfl
theorem ok433 (m : Int) : compF Tryz.prog (Gm m) Tryz.f433 = some f433 := by kernel_rfl
theorem ok434 (m : Int) : compF Tryz.prog (Gm m) Tryz.f434 = some f434 := by kernel_rfl
theorem ok435 (m : Int) : compF Tryz.prog (Gm m) Tryz.f435 = some f435 := by kernel_rfl
theorem ok436 (m : Int) : compF Tryz.prog (Gm m) Tryz.f436 = some f436 := by kernel_rfl
theorem ok437 (m : Int) : compF Tryz.prog (Gm m) Tryz.f437 = some f437 := by kernel_rfl
theorem ok438 (m : Int) : compF Tryz.prog (Gm m) Tryz.f438 = some f438 := by kernel_rfl
theorem ok439 (m : Int) : compF Tryz.prog (Gm m) Tryz.f439 = some f439 := by kernel_rfl
theorem ok440 (m : Int) : compF Tryz.prog (Gm m) Tryz.f440 = some f440 := by kernel_rfl
theorem ok441 (m : Int) : compF Tryz.prog (Gm m) Tryz.f441 = some f441 := by kernel_rfl
theorem ok442 (m : Int) : compF Tryz.prog (Gm m) Tryz.f442 = some f442 := by kernel_rfl
theorem ok443 (m : Int) : compF Tryz.prog (Gm m) Tryz.f443 = some f443 := by kernel_rfl
theorem ok444 (m : Int) : compF Tryz.prog (Gm m) Tryz.f444 = some f444 := by kernel_rfl
theorem ok445 (m : Int) : compF Tryz.prog (Gm m) Tryz.f445 = some f445 := by kernel_rfl
theorem ok446 (m : Int) : compF Tryz.prog (Gm m) Tryz.f446 = some f446 := by kernel_rfl
theorem ok447 (m : Int) : compF Tryz.prog (Gm m) Tryz.f447 = some f447 := by kernel_rfl
theorem ok448 (m : Int) : compF Tryz.prog (Gm m) Tryz.f448 = some f448 := by kernel_rfl
theorem ok449 (m : Int) : compF Tryz.prog (Gm m) Tryz.f449 = some f449 := by kernel_rfl
theorem ok450 (m : Int) : compF Tryz.prog (Gm m) Tryz.f450 = some f450 := by kernel_rfl
theorem ok451 (m : Int) : compF Tryz.prog (Gm m) Tryz.f451 = some f451 := by kernel_rfl
theorem ok452 (m : Int) : compF Tryz.prog (Gm m) Tryz.f452 = some f452 := by kernel_rfl
theorem ok453 (m : Int) : compF Tryz.prog (Gm m) Tryz.f453 = some f453 := by kernel_rfl
theorem ok454 (m : Int) : compF Tryz.prog (Gm m) Tryz.f454 = some f454 := by kernel_rfl
theorem ok455 (m : Int) : compF Tryz.prog (Gm m) Tryz.f455 = some f455 := by kernel_rfl
theorem ok456 (m : Int) : compF Tryz.prog (Gm m) Tryz.f456 = some f456 := by kernel_rfl
noncomputable def lst2 : List (Nat × AF) := [(351,f351),(352,f352),(353,f353),(354,f354),(355,f355),(356,f356),(357,f357),(358,f358),(359,f359),(360,f360),(361,f361),(363,f363),(365,f365),(368,f368),(370,f370),(374,f374),(380,f380),(384,f384),(385,f385),(386,f386),(387,f387),(388,f388),(389,f389),(390,f390),(391,f391),(396,f396),(397,f397),(398,f398),(400,f400),(403,f403),(404,f404),(408,f408),(409,f409),(412,f412),(413,f413),(415,f415),(416,f416),(417,f417),(418,f418),(419,f419),(420,f420),(421,f421),(422,f422),(425,f425),(426,f426),(427,f427),(428,f428),(429,f429),(430,f430),(431,f431),(432,f432),(433,f433),(434,f434),(435,f435),(436,f436),(437,f437),(438,f438),(439,f439),(440,f440),(441,f441),(442,f442),(443,f443),(444,f444),(445,f445),(446,f446),(447,f447),(448,f448),(449,f449),(450,f450),(451,f451),(452,f452),(453,f453),(454,f454),(455,f455),(456,f456)]
theorem lst2_ok : ∀ q ∈ lst2, GoodF q :=
  good_cons ⟨Tryz.f351, Tryz.func351, ok351, by kernel_rfl⟩ (
  good_cons ⟨Tryz.f352, Tryz.func352, ok352, by kernel_rfl⟩ (
  good_cons ⟨Tryz.f353, Tryz.func353, ok353, by kernel_rfl⟩ (
  good_cons ⟨Tryz.f354, Tryz.func354, ok354, by kernel_rfl⟩ (
  good_cons ⟨Tryz.f355, Tryz.func355, ok355, by kernel_rfl⟩ (
  good_cons ⟨Tryz.f356, Tryz.func356, ok356, by kernel_rfl⟩ (
  good_cons ⟨Tryz.f357, Tryz.func357, ok357, by kernel_rfl⟩ (
  good_cons ⟨Tryz.f358, Tryz.func358, ok358, by kernel_rfl⟩ (
  good_cons ⟨Tryz.f359, Tryz.func359, ok359, by kernel_rfl⟩ (
  good_cons ⟨Tryz.f360, Tryz.func360, ok360, by kernel_rfl⟩ (
  good_cons ⟨Tryz.f361, Tryz.func361, ok361, by kernel_rfl⟩ (
  good_cons ⟨Tryz.f363, Tryz.func363, ok363, by kernel_rfl⟩ (
  good_cons ⟨Tryz.f365, Tryz.func365, ok365, by kernel_rfl⟩ (
  good_cons ⟨Tryz.f368, Tryz.func368, ok368, by kernel_rfl⟩ (
  good_cons ⟨Tryz.f370, Tryz.func370, ok370, by kernel_rfl⟩ (
  good_cons ⟨Tryz.f374, Tryz.func374, ok374, by kernel_rfl⟩ (
  good_cons ⟨Tryz.f380, Tryz.func380, ok380, by kernel_rfl⟩ (
  good_cons ⟨Tryz.f384, Tryz.func384, ok384, by kernel_rfl⟩ (
  good_cons ⟨Tryz.f385, Tryz.func385, ok385, by kernel_rfl⟩ (
  good_cons ⟨Tryz.f386, Tryz.func386, ok386, by kernel_rfl⟩ (
  good_cons ⟨Tryz.f387, Tryz.func387, ok387, by kernel_rfl⟩ (
  good_cons ⟨Tryz.f388, Tryz.func388, ok388, by kernel_rfl⟩ (
  good_cons ⟨Tryz.f389, Tryz.func389, ok389, by kernel_rfl⟩ (
  good_cons ⟨Tryz.f390, Tryz.func390, ok390, by kernel_rfl⟩ (
  good_cons ⟨Tryz.f391, Tryz.func391, ok391, by kernel_rfl⟩ (
  good_cons ⟨Tryz.f396, Tryz.func396, ok396, by kernel_rfl⟩ (
  good_cons ⟨Tryz.f397, Tryz.func397, ok397, by kernel_rfl⟩ (
  good_cons ⟨Tryz.f398, Tryz.func398, ok398, by kernel_rfl⟩ (
  good_cons ⟨Tryz.f400, Tryz.func400, ok400, by kernel_rfl⟩ (
  good_cons ⟨Tryz.f403, Tryz.func403, ok403, by kernel_rfl⟩ (
  good_cons ⟨Tryz.f404, Tryz.func404, ok404, by kernel_rfl⟩ (
  good_cons ⟨Tryz.f408, Tryz.func408, ok408, by kernel_rfl⟩ (
  good_cons ⟨Tryz.f409, Tryz.func409, ok409, by kernel_rfl⟩ (
  good_cons ⟨Tryz.f412, Tryz.func412, ok412, by kernel_rfl⟩ (
  good_cons ⟨Tryz.f413, Tryz.func413, ok413, by kernel_rfl⟩ (
  good_cons ⟨Tryz.f415, Tryz.func415, ok415, by kernel_rfl⟩ (
  good_cons ⟨Tryz.f416, Tryz.func416, ok416, by kernel_rfl⟩ (
  good_cons ⟨Tryz.f417, Tryz.func417, ok417, by kernel_rfl⟩ (
  good_cons ⟨Tryz.f418, Tryz.func418, ok418, by kernel_rfl⟩ (
  good_cons ⟨Tryz.f419, Tryz.func419, ok419, by kernel_rfl⟩ (
  good_cons ⟨Tryz.f420, Tryz.func420, ok420, by kernel_rfl⟩ (
  good_cons ⟨Tryz.f421, Tryz.func421, ok421, by kernel_rfl⟩ (
  good_cons ⟨Tryz.f422, Tryz.func422, ok422, by kernel_rfl⟩ (
  good_cons ⟨Tryz.f425, Tryz.func425, ok425, by kernel_rfl⟩ (
  good_cons ⟨Tryz.f426, Tryz.func426, ok426, by kernel_rfl⟩ (
  good_cons ⟨Tryz.f427, Tryz.func427, ok427, by kernel_rfl⟩ (
  good_cons ⟨Tryz.f428, Tryz.func428, ok428, by kernel_rfl⟩ (
  good_cons ⟨Tryz.f429, Tryz.func429, ok429, by kernel_rfl⟩ (
  good_cons ⟨Tryz.f430, Tryz.func430, ok430, by kernel_rfl⟩ (
  good_cons ⟨Tryz.f431, Tryz.func431, ok431, by kernel_rfl⟩ (
  good_cons ⟨Tryz.f432, Tryz.func432, ok432, by kernel_rfl⟩ (
  good_cons ⟨Tryz.f433, Tryz.func433, ok433, by kernel_rfl⟩ (
  good_cons ⟨Tryz.f434, Tryz.func434, ok434, by kernel_rfl⟩ (
  good_cons ⟨Tryz.f435, Tryz.func435, ok435, by kernel_rfl⟩ (
  good_cons ⟨Tryz.f436, Tryz.func436, ok436, by kernel_rfl⟩ (
  good_cons ⟨Tryz.f437, Tryz.func437, ok437, by kernel_rfl⟩ (
  good_cons ⟨Tryz.f438, Tryz.func438, ok438, by kernel_rfl⟩ (
  good_cons ⟨Tryz.f439, Tryz.func439, ok439, by kernel_rfl⟩ (
  good_cons ⟨Tryz.f440, Tryz.func440, ok440, by kernel_rfl⟩ (
  good_cons ⟨Tryz.f441, Tryz.func441, ok441, by kernel_rfl⟩ (
  good_cons ⟨Tryz.f442, Tryz.func442, ok442, by kernel_rfl⟩ (
  good_cons ⟨Tryz.f443, Tryz.func443, ok443, by kernel_rfl⟩ (
  good_cons ⟨Tryz.f444, Tryz.func444, ok444, by kernel_rfl⟩ (
  good_cons ⟨Tryz.f445, Tryz.func445, ok445, by kernel_rfl⟩ (
  good_cons ⟨Tryz.f446, Tryz.func446, ok446, by kernel_rfl⟩ (
  good_cons ⟨Tryz.f447, Tryz.func447, ok447, by kernel_rfl⟩ (
  good_cons ⟨Tryz.f448, Tryz.func448, ok448, by kernel_rfl⟩ (
  good_cons ⟨Tryz.f449, Tryz.func449, ok449, by kernel_rfl⟩ (
  good_cons ⟨Tryz.f450, Tryz.func450, ok450, by kernel_rfl⟩ (
  good_cons ⟨Tryz.f451, Tryz.func451, ok451, by kernel_rfl⟩ (
  good_cons ⟨Tryz.f452, Tryz.func452, ok452, by kernel_rfl⟩ (
  good_cons ⟨Tryz.f453, Tryz.func453, ok453, by kernel_rfl⟩ (
  good_cons ⟨Tryz.f454, Tryz.func454, ok454, by kernel_rfl⟩ (
  good_cons ⟨Tryz.f455, Tryz.func455, ok455, by kernel_rfl⟩ (
  good_cons ⟨Tryz.f456, Tryz.func456, ok456, by kernel_rfl⟩ (
  good_nil)))))))))))))))))))))))))))))))))))))))))))))))))))))))))))))))))))))))))))
end Go.Ev
