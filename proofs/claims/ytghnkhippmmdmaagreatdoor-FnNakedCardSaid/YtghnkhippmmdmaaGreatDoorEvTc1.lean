/- The compiled functions are what the compiler gives, part 1 (printed by a program). -/
import Derived.Test.YtghnkhippmmdmaaGreatDoorEvTt1
import Derived.Test.YtghnkhippmmdmaaGreatDoorEvG
import Derived.KernelRfl
import Derived.Test.YtghnkhippmmdmaaGreatDoorProg
set_option linter.unusedVariables false
set_option linter.unusedSimpArgs false
set_option linter.all false

namespace Go.Ev
open Go.Proofs
set_option maxRecDepth 100000
theorem ok157 (m : Int) : compF Tryz.prog (Gm m) Tryz.f157 = some f157 := by kernel_rfl
theorem ok158 (m : Int) : compF Tryz.prog (Gm m) Tryz.f158 = some f158 := by kernel_rfl
theorem ok159 (m : Int) : compF Tryz.prog (Gm m) Tryz.f159 = some f159 := by kernel_rfl
theorem ok163 (m : Int) : compF Tryz.prog (Gm m) Tryz.f163 = some f163 := by kernel_rfl
theorem ok166 (m : Int) : compF Tryz.prog (Gm m) Tryz.f166 = some f166 := by kernel_rfl
theorem ok167 (m : Int) : compF Tryz.prog (Gm m) Tryz.f167 = some f167 := by kernel_rfl
theorem ok169 (m : Int) : compF Tryz.prog (Gm m) Tryz.f169 = some f169 := by kernel_rfl
theorem ok173 (m : Int) : compF Tryz.prog (Gm m) Tryz.f173 = some f173 := by kernel_rfl
theorem ok174 (m : Int) : compF Tryz.prog (Gm m) Tryz.f174 = some f174 := by kernel_rfl
theorem ok180 (m : Int) : compF Tryz.prog (Gm m) Tryz.f180 = some f180 := by kernel_rfl
theorem ok181 (m : Int) : compF Tryz.prog (Gm m) Tryz.f181 = some f181 := by kernel_rfl
theorem ok182 (m : Int) : compF Tryz.prog (Gm m) Tryz.f182 = some f182 := by kernel_rfl
theorem ok183 (m : Int) : compF Tryz.prog (Gm m) Tryz.f183 = some f183 := by kernel_rfl
theorem ok185 (m : Int) : compF Tryz.prog (Gm m) Tryz.f185 = some f185 := by kernel_rfl
theorem ok186 (m : Int) : compF Tryz.prog (Gm m) Tryz.f186 = some f186 := by kernel_rfl
theorem ok187 (m : Int) : compF Tryz.prog (Gm m) Tryz.f187 = some f187 := by kernel_rfl
theorem ok188 (m : Int) : compF Tryz.prog (Gm m) Tryz.f188 = some f188 := by kernel_rfl
theorem ok189 (m : Int) : compF Tryz.prog (Gm m) Tryz.f189 = some f189 := by kernel_rfl
theorem ok190 (m : Int) : compF Tryz.prog (Gm m) Tryz.f190 = some f190 := by kernel_rfl
theorem ok191 (m : Int) : compF Tryz.prog (Gm m) Tryz.f191 = some f191 := by kernel_rfl
theorem ok192 (m : Int) : compF Tryz.prog (Gm m) Tryz.f192 = some f192 := by kernel_rfl
theorem ok193 (m : Int) : compF Tryz.prog (Gm m) Tryz.f193 = some f193 := by kernel_rfl
theorem ok194 (m : Int) : compF Tryz.prog (Gm m) Tryz.f194 = some f194 := by kernel_rfl
theorem ok195 (m : Int) : compF Tryz.prog (Gm m) Tryz.f195 = some f195 := by kernel_rfl
theorem ok197 (m : Int) : compF Tryz.prog (Gm m) Tryz.f197 = some f197 := by kernel_rfl
theorem ok199 (m : Int) : compF Tryz.prog (Gm m) Tryz.f199 = some f199 := by kernel_rfl
theorem ok200 (m : Int) : compF Tryz.prog (Gm m) Tryz.f200 = some f200 := by kernel_rfl
theorem ok202 (m : Int) : compF Tryz.prog (Gm m) Tryz.f202 = some f202 := by kernel_rfl
theorem ok203 (m : Int) : compF Tryz.prog (Gm m) Tryz.f203 = some f203 := by kernel_rfl
theorem ok206 (m : Int) : compF Tryz.prog (Gm m) Tryz.f206 = some f206 := by kernel_rfl
theorem ok207 (m : Int) : compF Tryz.prog (Gm m) Tryz.f207 = some f207 := by kernel_rfl
theorem ok208 (m : Int) : compF Tryz.prog (Gm m) Tryz.f208 = some f208 := by kernel_rfl
theorem ok210 (m : Int) : compF Tryz.prog (Gm m) Tryz.f210 = some f210 := by kernel_rfl
theorem ok212 (m : Int) : compF Tryz.prog (Gm m) Tryz.f212 = some f212 := by kernel_rfl
theorem ok217 (m : Int) : compF Tryz.prog (Gm m) Tryz.f217 = some f217 := by kernel_rfl
theorem ok225 (m : Int) : compF Tryz.prog (Gm m) Tryz.f225 = some f225 := by kernel_rfl
theorem ok226 (m : Int) : compF Tryz.prog (Gm m) Tryz.f226 = some f226 := by kernel_rfl
theorem ok227 (m : Int) : compF Tryz.prog (Gm m) Tryz.f227 = some f227 := by kernel_rfl
theorem ok228 (m : Int) : compF Tryz.prog (Gm m) Tryz.f228 = some f228 := by kernel_rfl
theorem ok229 (m : Int) : compF Tryz.prog (Gm m) Tryz.f229 = some f229 := by kernel_rfl
theorem ok230 (m : Int) : compF Tryz.prog (Gm m) Tryz.f230 = some f230 := by kernel_rfl
theorem ok232 (m : Int) : compF Tryz.prog (Gm m) Tryz.f232 = some f232 := by kernel_rfl
theorem ok233 (m : Int) : compF Tryz.prog (Gm m) Tryz.f233 = some f233 := by kernel_rfl
theorem ok234 (m : Int) : compF Tryz.prog (Gm m) Tryz.f234 = some f234 := by kernel_rfl
theorem ok238 (m : Int) : compF Tryz.prog (Gm m) Tryz.f238 = some f238 := by kernel_rfl
theorem ok240 (m : Int) : compF Tryz.prog (Gm m) Tryz.f240 = some f240 := by kernel_rfl
theorem ok243 (m : Int) : compF Tryz.prog (Gm m) Tryz.f243 = some f243 := by kernel_rfl
theorem ok244 (m : Int) : compF Tryz.prog (Gm m) Tryz.f244 = some f244 := by kernel_rfl
theorem ok245 (m : Int) : compF Tryz.prog (Gm m) Tryz.f245 = some f245 := by kernel_rfl
theorem ok246 (m : Int) : compF Tryz.prog (Gm m) Tryz.f246 = some f246 := by kernel_rfl
theorem ok247 (m : Int) : compF Tryz.prog (Gm m) Tryz.f247 = some f247 := by kernel_rfl
theorem ok248 (m : Int) : compF Tryz.prog (Gm m) Tryz.f248 = some f248 := by kernel_rfl
theorem ok249 (m : Int) : compF Tryz.prog (Gm m) Tryz.f249 = some f249 := by kernel_rfl
theorem ok251 (m : Int) : compF Tryz.prog (Gm m) Tryz.f251 = some f251 := by kernel_rfl
theorem ok252 (m : Int) : compF Tryz.prog (Gm m) Tryz.f252 = some f252 := by kernel_rfl
theorem ok253 (m : Int) : compF Tryz.prog (Gm m) Tryz.f253 = some f253 := by kernel_rfl
theorem ok254 (m : Int) : compF Tryz.prog (Gm m) Tryz.f254 = some f254 := by kernel_rfl
theorem ok255 (m : Int) : compF Tryz.prog (Gm m) Tryz.f255 = some f255 := by kernel_rfl
theorem ok256 (m : Int) : compF Tryz.prog (Gm m) Tryz.f256 = some f256 := by kernel_rfl
theorem ok257 (m : Int) : compF Tryz.prog (Gm m) Tryz.f257 = some f257 := by kernel_rfl
theorem ok258 (m : Int) : compF Tryz.prog (Gm m) Tryz.f258 = some f258 := by kernel_rfl
theorem ok259 (m : Int) : compF Tryz.prog (Gm m) Tryz.f259 = some f259 := by kernel_rfl
theorem ok262 (m : Int) : compF Tryz.prog (Gm m) Tryz.f262 = some f262 := by kernel_rfl
theorem ok263 (m : Int) : compF Tryz.prog (Gm m) Tryz.f263 = some f263 := by kernel_rfl
theorem ok267 (m : Int) : compF Tryz.prog (Gm m) Tryz.f267 = some f267 := by kernel_rfl
theorem ok268 (m : Int) : compF Tryz.prog (Gm m) Tryz.f268 = some f268 := by kernel_rfl
theorem ok269 (m : Int) : compF Tryz.prog (Gm m) Tryz.f269 = some f269 := by kernel_rfl
theorem ok271 (m : Int) : compF Tryz.prog (Gm m) Tryz.f271 = some f271 := by kernel_rfl
theorem ok272 (m : Int) : compF Tryz.prog (Gm m) Tryz.f272 = some f272 := by kernel_rfl
theorem ok280 (m : Int) : compF Tryz.prog (Gm m) Tryz.f280 = some f280 := by kernel_rfl
theorem ok282 (m : Int) : compF Tryz.prog (Gm m) Tryz.f282 = some f282 := by kernel_rfl
theorem ok283 (m : Int) : compF Tryz.prog (Gm m) Tryz.f283 = some f283 := by kernel_rfl
theorem ok284 (m : Int) : compF Tryz.prog (Gm m) Tryz.f284 = some f284 := by kernel_rfl
theorem ok285 (m : Int) : compF Tryz.prog (Gm m) Tryz.f285 = some f285 := by kernel_rfl
theorem ok286 (m : Int) : compF Tryz.prog (Gm m) Tryz.f286 = some f286 := by kernel_rfl
theorem ok287 (m : Int) : compF Tryz.prog (Gm m) Tryz.f287 = some f287 := by kernel_rfl
theorem ok288 (m : Int) : compF Tryz.prog (Gm m) Tryz.f288 = some f288 := by kernel_rfl
theorem ok289 (m : Int) : compF Tryz.prog (Gm m) Tryz.f289 = some f289 := by kernel_rfl
theorem ok293 (m : Int) : compF Tryz.prog (Gm m) Tryz.f293 = some f293 := by kernel_rfl
theorem ok294 (m : Int) : compF Tryz.prog (Gm m) Tryz.f294 = some f294 := by kernel_rfl
theorem ok295 (m : Int) : compF Tryz.prog (Gm m) Tryz.f295 = some f295 := by kernel_rfl
theorem ok296 (m : Int) : compF Tryz.prog (Gm m) Tryz.f296 = some f296 := by kernel_rfl
theorem ok297 (m : Int) : compF Tryz.prog (Gm m) Tryz.f297 = some f297 := by kernel_rfl
theorem ok298 (m : Int) : compF Tryz.prog (Gm m) Tryz.f298 = some f298 := by kernel_rfl
theorem ok299 (m : Int) : compF Tryz.prog (Gm m) Tryz.f299 = some f299 := by kernel_rfl
theorem ok300 (m : Int) : compF Tryz.prog (Gm m) Tryz.f300 = some f300 := by kernel_rfl
theorem ok301 (m : Int) : compF Tryz.prog (Gm m) Tryz.f301 = some f301 := by kernel_rfl
theorem ok302 (m : Int) : compF Tryz.prog (Gm m) Tryz.f302 = some f302 := by kernel_rfl
theorem ok303 (m : Int) : compF Tryz.prog (Gm m) Tryz.f303 = some f303 := by kernel_rfl
theorem ok304 (m : Int) : compF Tryz.prog (Gm m) Tryz.f304 = some f304 := by kernel_rfl
theorem ok305 (m : Int) : compF Tryz.prog (Gm m) Tryz.f305 = some f305 := by kernel_rfl
theorem ok306 (m : Int) : compF Tryz.prog (Gm m) Tryz.f306 = some f306 := by kernel_rfl
theorem ok307 (m : Int) : compF Tryz.prog (Gm m) Tryz.f307 = some f307 := by kernel_rfl
theorem ok308 (m : Int) : compF Tryz.prog (Gm m) Tryz.f308 = some f308 := by kernel_rfl
theorem ok309 (m : Int) : compF Tryz.prog (Gm m) Tryz.f309 = some f309 := by kernel_rfl
theorem ok310 (m : Int) : compF Tryz.prog (Gm m) Tryz.f310 = some f310 := by kernel_rfl
theorem ok311 (m : Int) : compF Tryz.prog (Gm m) Tryz.f311 = some f311 := by kernel_rfl
theorem ok312 (m : Int) : compF Tryz.prog (Gm m) Tryz.f312 = some f312 := by kernel_rfl
theorem ok313 (m : Int) : compF Tryz.prog (Gm m) Tryz.f313 = some f313 := by kernel_rfl
theorem ok314 (m : Int) : compF Tryz.prog (Gm m) Tryz.f314 = some f314 := by kernel_rfl
theorem ok316 (m : Int) : compF Tryz.prog (Gm m) Tryz.f316 = some f316 := by kernel_rfl
theorem ok321 (m : Int) : compF Tryz.prog (Gm m) Tryz.f321 = some f321 := by kernel_rfl
theorem ok322 (m : Int) : compF Tryz.prog (Gm m) Tryz.f322 = some f322 := by kernel_rfl
theorem ok324 (m : Int) : compF Tryz.prog (Gm m) Tryz.f324 = some f324 := by kernel_rfl
theorem ok325 (m : Int) : compF Tryz.prog (Gm m) Tryz.f325 = some f325 := by kernel_rfl
theorem ok326 (m : Int) : compF Tryz.prog (Gm m) Tryz.f326 = some f326 := by kernel_rfl
theorem ok327 (m : Int) : compF Tryz.prog (Gm m) Tryz.f327 = some f327 := by kernel_rfl
theorem ok338 (m : Int) : compF Tryz.prog (Gm m) Tryz.f338 = some f338 := by kernel_rfl
theorem ok345 (m : Int) : compF Tryz.prog (Gm m) Tryz.f345 = some f345 := by kernel_rfl
theorem ok346 (m : Int) : compF Tryz.prog (Gm m) Tryz.f346 = some f346 := by kernel_rfl
theorem ok348 (m : Int) : compF Tryz.prog (Gm m) Tryz.f348 = some f348 := by kernel_rfl
theorem ok349 (m : Int) : compF Tryz.prog (Gm m) Tryz.f349 = some f349 := by kernel_rfl
noncomputable def lst1 : List (Nat × AF) := [(157,f157),(158,f158),(159,f159),(163,f163),(166,f166),(167,f167),(169,f169),(173,f173),(174,f174),(180,f180),(181,f181),(182,f182),(183,f183),(185,f185),(186,f186),(187,f187),(188,f188),(189,f189),(190,f190),(191,f191),(192,f192),(193,f193),(194,f194),(195,f195),(197,f197),(199,f199),(200,f200),(202,f202),(203,f203),(206,f206),(207,f207),(208,f208),(210,f210),(212,f212),(217,f217),(225,f225),(226,f226),(227,f227),(228,f228),(229,f229),(230,f230),(232,f232),(233,f233),(234,f234),(238,f238),(240,f240),(243,f243),(244,f244),(245,f245),(246,f246),(247,f247),(248,f248),(249,f249),(251,f251),(252,f252),(253,f253),(254,f254),(255,f255),(256,f256),(257,f257),(258,f258),(259,f259),(262,f262),(263,f263),(267,f267),(268,f268),(269,f269),(271,f271),(272,f272),(280,f280),(282,f282),(283,f283),(284,f284),(285,f285),(286,f286),(287,f287),(288,f288),(289,f289),(293,f293),(294,f294),(295,f295),(296,f296),(297,f297),(298,f298),(299,f299),(300,f300),(301,f301),(302,f302),(303,f303),(304,f304),(305,f305),(306,f306),(307,f307),(308,f308),(309,f309),(310,f310),(311,f311),(312,f312),(313,f313),(314,f314),(316,f316),(321,f321),(322,f322),(324,f324),(325,f325),(326,f326),(327,f327),(338,f338),(345,f345),(346,f346),(348,f348),(349,f349)]
theorem lst1_ok : ∀ q ∈ lst1, GoodF q :=
  good_cons ⟨Tryz.f157, Tryz.func157, ok157, by kernel_rfl⟩ (
  good_cons ⟨Tryz.f158, Tryz.func158, ok158, by kernel_rfl⟩ (
  good_cons ⟨Tryz.f159, Tryz.func159, ok159, by kernel_rfl⟩ (
  good_cons ⟨Tryz.f163, Tryz.func163, ok163, by kernel_rfl⟩ (
  good_cons ⟨Tryz.f166, Tryz.func166, ok166, by kernel_rfl⟩ (
  good_cons ⟨Tryz.f167, Tryz.func167, ok167, by kernel_rfl⟩ (
  good_cons ⟨Tryz.f169, Tryz.func169, ok169, by kernel_rfl⟩ (
  good_cons ⟨Tryz.f173, Tryz.func173, ok173, by kernel_rfl⟩ (
  good_cons ⟨Tryz.f174, Tryz.func174, ok174, by kernel_rfl⟩ (
  good_cons ⟨Tryz.f180, Tryz.func180, ok180, by kernel_rfl⟩ (
  good_cons ⟨Tryz.f181, Tryz.func181, ok181, by kernel_rfl⟩ (
  good_cons ⟨Tryz.f182, Tryz.func182, ok182, by kernel_rfl⟩ (
  good_cons ⟨Tryz.f183, Tryz.func183, ok183, by kernel_rfl⟩ (
  good_cons ⟨Tryz.f185, Tryz.func185, ok185, by kernel_rfl⟩ (
  good_cons ⟨Tryz.f186, Tryz.func186, ok186, by kernel_rfl⟩ (
  good_cons ⟨Tryz.f187, Tryz.func187, ok187, by kernel_rfl⟩ (
  good_cons ⟨Tryz.f188, Tryz.func188, ok188, by kernel_rfl⟩ (
  good_cons ⟨Tryz.f189, Tryz.func189, ok189, by kernel_rfl⟩ (
  good_cons ⟨Tryz.f190, Tryz.func190, ok190, by kernel_rfl⟩ (
  good_cons ⟨Tryz.f191, Tryz.func191, ok191, by kernel_rfl⟩ (
  good_cons ⟨Tryz.f192, Tryz.func192, ok192, by kernel_rfl⟩ (
  good_cons ⟨Tryz.f193, Tryz.func193, ok193, by kernel_rfl⟩ (
  good_cons ⟨Tryz.f194, Tryz.func194, ok194, by kernel_rfl⟩ (
  good_cons ⟨Tryz.f195, Tryz.func195, ok195, by kernel_rfl⟩ (
  good_cons ⟨Tryz.f197, Tryz.func197, ok197, by kernel_rfl⟩ (
  good_cons ⟨Tryz.f199, Tryz.func199, ok199, by kernel_rfl⟩ (
  good_cons ⟨Tryz.f200, Tryz.func200, ok200, by kernel_rfl⟩ (
  good_cons ⟨Tryz.f202, Tryz.func202, ok202, by kernel_rfl⟩ (
  good_cons ⟨Tryz.f203, Tryz.func203, ok203, by kernel_rfl⟩ (
  good_cons ⟨Tryz.f206, Tryz.func206, ok206, by kernel_rfl⟩ (
  good_cons ⟨Tryz.f207, Tryz.func207, ok207, by kernel_rfl⟩ (
  good_cons ⟨Tryz.f208, Tryz.func208, ok208, by kernel_rfl⟩ (
  good_cons ⟨Tryz.f210, Tryz.func210, ok210, by kernel_rfl⟩ (
  good_cons ⟨Tryz.f212, Tryz.func212, ok212, by kernel_rfl⟩ (
  good_cons ⟨Tryz.f217, Tryz.func217, ok217, by kernel_rfl⟩ (
  good_cons ⟨Tryz.f225, Tryz.func225, ok225, by kernel_rfl⟩ (
  good_cons ⟨Tryz.f226, Tryz.func226, ok226, by kernel_rfl⟩ (
  good_cons ⟨Tryz.f227, Tryz.func227, ok227, by kernel_rfl⟩ (
  good_cons ⟨Tryz.f228, Tryz.func228, ok228, by kernel_rfl⟩ (
  good_cons ⟨Tryz.f229, Tryz.func229, ok229, by kernel_rfl⟩ (
  good_cons ⟨Tryz.f230, Tryz.func230, ok230, by kernel_rfl⟩ (
  good_cons ⟨Tryz.f232, Tryz.func232, ok232, by kernel_rfl⟩ (
  good_cons ⟨Tryz.f233, Tryz.func233, ok233, by kernel_rfl⟩ (
  good_cons ⟨Tryz.f234, Tryz.func234, ok234, by kernel_rfl⟩ (
  good_cons ⟨Tryz.f238, Tryz.func238, ok238, by kernel_rfl⟩ (
  good_cons ⟨Tryz.f240, Tryz.func240, ok240, by kernel_rfl⟩ (
  good_cons ⟨Tryz.f243, Tryz.func243, ok243, by kernel_rfl⟩ (
  good_cons ⟨Tryz.f244, Tryz.func244, ok244, by kernel_rfl⟩ (
  good_cons ⟨Tryz.f245, Tryz.func245, ok245, by kernel_rfl⟩ (
  good_cons ⟨Tryz.f246, Tryz.func246, ok246, by kernel_rfl⟩ (
  good_cons ⟨Tryz.f247, Tryz.func247, ok247, by kernel_rfl⟩ (
  good_cons ⟨Tryz.f248, Tryz.func248, ok248, by kernel_rfl⟩ (
  good_cons ⟨Tryz.f249, Tryz.func249, ok249, by kernel_rfl⟩ (
  good_cons ⟨Tryz.f251, Tryz.func251, ok251, by kernel_rfl⟩ (
  good_cons ⟨Tryz.f252, Tryz.func252, ok252, by kernel_rfl⟩ (
  good_cons ⟨Tryz.f253, Tryz.func253, ok253, by kernel_rfl⟩ (
  good_cons ⟨Tryz.f254, Tryz.func254, ok254, by kernel_rfl⟩ (
  good_cons ⟨Tryz.f255, Tryz.func255, ok255, by kernel_rfl⟩ (
  good_cons ⟨Tryz.f256, Tryz.func256, ok256, by kernel_rfl⟩ (
  good_cons ⟨Tryz.f257, Tryz.func257, ok257, by kernel_rfl⟩ (
  good_cons ⟨Tryz.f258, Tryz.func258, ok258, by kernel_rfl⟩ (
  good_cons ⟨Tryz.f259, Tryz.func259, ok259, by kernel_rfl⟩ (
  good_cons ⟨Tryz.f262, Tryz.func262, ok262, by kernel_rfl⟩ (
  good_cons ⟨Tryz.f263, Tryz.func263, ok263, by kernel_rfl⟩ (
  good_cons ⟨Tryz.f267, Tryz.func267, ok267, by kernel_rfl⟩ (
  good_cons ⟨Tryz.f268, Tryz.func268, ok268, by kernel_rfl⟩ (
  good_cons ⟨Tryz.f269, Tryz.func269, ok269, by kernel_rfl⟩ (
  good_cons ⟨Tryz.f271, Tryz.func271, ok271, by kernel_rfl⟩ (
  good_cons ⟨Tryz.f272, Tryz.func272, ok272, by kernel_rfl⟩ (
  good_cons ⟨Tryz.f280, Tryz.func280, ok280, by kernel_rfl⟩ (
  good_cons ⟨Tryz.f282, Tryz.func282, ok282, by kernel_rfl⟩ (
  good_cons ⟨Tryz.f283, Tryz.func283, ok283, by kernel_rfl⟩ (
  good_cons ⟨Tryz.f284, Tryz.func284, ok284, by kernel_rfl⟩ (
  good_cons ⟨Tryz.f285, Tryz.func285, ok285, by kernel_rfl⟩ (
  good_cons ⟨Tryz.f286, Tryz.func286, ok286, by kernel_rfl⟩ (
  good_cons ⟨Tryz.f287, Tryz.func287, ok287, by kernel_rfl⟩ (
  good_cons ⟨Tryz.f288, Tryz.func288, ok288, by kernel_rfl⟩ (
  good_cons ⟨Tryz.f289, Tryz.func289, ok289, by kernel_rfl⟩ (
  good_cons ⟨Tryz.f293, Tryz.func293, ok293, by kernel_rfl⟩ (
  good_cons ⟨Tryz.f294, Tryz.func294, ok294, by kernel_rfl⟩ (
  good_cons ⟨Tryz.f295, Tryz.func295, ok295, by kernel_rfl⟩ (
  good_cons ⟨Tryz.f296, Tryz.func296, ok296, by kernel_rfl⟩ (
  good_cons ⟨Tryz.f297, Tryz.func297, ok297, by kernel_rfl⟩ (
  good_cons ⟨Tryz.f298, Tryz.func298, ok298, by kernel_rfl⟩ (
  good_cons ⟨Tryz.f299, Tryz.func299, ok299, by kernel_rfl⟩ (
  good_cons ⟨Tryz.f300, Tryz.func300, ok300, by kernel_rfl⟩ (
  good_cons ⟨Tryz.f301, Tryz.func301, ok301, by kernel_rfl⟩ (
  good_cons ⟨Tryz.f302, Tryz.func302, ok302, by kernel_rfl⟩ (
  good_cons ⟨Tryz.f303, Tryz.func303, ok303, by kernel_rfl⟩ (
  good_cons ⟨Tryz.f304, Tryz.func304, ok304, by kernel_rfl⟩ (
  good_cons ⟨Tryz.f305, Tryz.func305, ok305, by kernel_rfl⟩ (
  good_cons ⟨Tryz.f306, Tryz.func306, ok306, by kernel_rfl⟩ (
  good_cons ⟨Tryz.f307, Tryz.func307, ok307, by kernel_rfl⟩ (
  good_cons ⟨Tryz.f308, Tryz.func308, ok308, by kernel_rfl⟩ (
  good_cons ⟨Tryz.f309, Tryz.func309, ok309, by kernel_rfl⟩ (
  good_cons ⟨Tryz.f310, Tryz.func310, ok310, by kernel_rfl⟩ (
  good_cons ⟨Tryz.f311, Tryz.func311, ok311, by kernel_rfl⟩ (
  good_cons ⟨Tryz.f312, Tryz.func312, ok312, by kernel_rfl⟩ (
  good_cons ⟨Tryz.f313, Tryz.func313, ok313, by kernel_rfl⟩ (
  good_cons ⟨Tryz.f314, Tryz.func314, ok314, by kernel_rfl⟩ (
  good_cons ⟨Tryz.f316, Tryz.func316, ok316, by kernel_rfl⟩ (
  good_cons ⟨Tryz.f321, Tryz.func321, ok321, by kernel_rfl⟩ (
  good_cons ⟨Tryz.f322, Tryz.func322, ok322, by kernel_rfl⟩ (
  good_cons ⟨Tryz.f324, Tryz.func324, ok324, by kernel_rfl⟩ (
  good_cons ⟨Tryz.f325, Tryz.func325, ok325, by kernel_rfl⟩ (
  good_cons ⟨Tryz.f326, Tryz.func326, ok326, by kernel_rfl⟩ (
  good_cons ⟨Tryz.f327, Tryz.func327, ok327, by kernel_rfl⟩ (
  good_cons ⟨Tryz.f338, Tryz.func338, ok338, by kernel_rfl⟩ (
  good_cons ⟨Tryz.f345, Tryz.func345, ok345, by kernel_rfl⟩ (
  good_cons ⟨Tryz.f346, Tryz.func346, ok346, by kernel_rfl⟩ (
  good_cons ⟨Tryz.f348, Tryz.func348, ok348, by kernel_rfl⟩ (
  good_cons ⟨Tryz.f349, Tryz.func349, ok349, by kernel_rfl⟩ (
  good_nil))))))))))))))))))))))))))))))))))))))))))))))))))))))))))))))))))))))))))))))))))))))))))))))))))))))))))))))))
end Go.Ev
