/- The compiled functions are what the compiler gives, part 0 (printed by a program). -/
import Derived.Test.YtghnkhippmmdmaaGreatDoorEvTt0
import Derived.Test.YtghnkhippmmdmaaGreatDoorEvG
import Derived.KernelRfl
import Derived.Test.YtghnkhippmmdmaaGreatDoorProg
set_option linter.unusedVariables false
set_option linter.unusedSimpArgs false
set_option linter.all false

namespace Go.Ev
open Go.Proofs
set_option maxRecDepth 100000
theorem ok2 (m : Int) : compF Tryz.prog (Gm m) Tryz.f2 = some f2 := by kernel_rfl
theorem ok3 (m : Int) : compF Tryz.prog (Gm m) Tryz.f3 = some f3 := by kernel_rfl
theorem ok4 (m : Int) : compF Tryz.prog (Gm m) Tryz.f4 = some f4 := by kernel_rfl
theorem ok5 (m : Int) : compF Tryz.prog (Gm m) Tryz.f5 = some f5 := by kernel_rfl
theorem ok6 (m : Int) : compF Tryz.prog (Gm m) Tryz.f6 = some f6 := by kernel_rfl
theorem ok7 (m : Int) : compF Tryz.prog (Gm m) Tryz.f7 = some f7 := by kernel_rfl
theorem ok8 (m : Int) : compF Tryz.prog (Gm m) Tryz.f8 = some f8 := by kernel_rfl
theorem ok9 (m : Int) : compF Tryz.prog (Gm m) Tryz.f9 = some f9 := by kernel_rfl
theorem ok10 (m : Int) : compF Tryz.prog (Gm m) Tryz.f10 = some f10 := by kernel_rfl
theorem ok11 (m : Int) : compF Tryz.prog (Gm m) Tryz.f11 = some f11 := by kernel_rfl
theorem ok12 (m : Int) : compF Tryz.prog (Gm m) Tryz.f12 = some f12 := by kernel_rfl
theorem ok13 (m : Int) : compF Tryz.prog (Gm m) Tryz.f13 = some f13 := by kernel_rfl
theorem ok14 (m : Int) : compF Tryz.prog (Gm m) Tryz.f14 = some f14 := by kernel_rfl
theorem ok15 (m : Int) : compF Tryz.prog (Gm m) Tryz.f15 = some f15 := by kernel_rfl
theorem ok16 (m : Int) : compF Tryz.prog (Gm m) Tryz.f16 = some f16 := by kernel_rfl
theorem ok17 (m : Int) : compF Tryz.prog (Gm m) Tryz.f17 = some f17 := by kernel_rfl
theorem ok18 (m : Int) : compF Tryz.prog (Gm m) Tryz.f18 = some f18 := by kernel_rfl
theorem ok19 (m : Int) : compF Tryz.prog (Gm m) Tryz.f19 = some f19 := by kernel_rfl
theorem ok20 (m : Int) : compF Tryz.prog (Gm m) Tryz.f20 = some f20 := by kernel_rfl
theorem ok21 (m : Int) : compF Tryz.prog (Gm m) Tryz.f21 = some f21 := by kernel_rfl
theorem ok22 (m : Int) : compF Tryz.prog (Gm m) Tryz.f22 = some f22 := by kernel_rfl
theorem ok23 (m : Int) : compF Tryz.prog (Gm m) Tryz.f23 = some f23 := by kernel_rfl
theorem ok24 (m : Int) : compF Tryz.prog (Gm m) Tryz.f24 = some f24 := by kernel_rfl
theorem ok25 (m : Int) : compF Tryz.prog (Gm m) Tryz.f25 = some f25 := by kernel_rfl
theorem ok26 (m : Int) : compF Tryz.prog (Gm m) Tryz.f26 = some f26 := by kernel_rfl
theorem ok27 (m : Int) : compF Tryz.prog (Gm m) Tryz.f27 = some f27 := by kernel_rfl
theorem ok28 (m : Int) : compF Tryz.prog (Gm m) Tryz.f28 = some f28 := by kernel_rfl
theorem ok29 (m : Int) : compF Tryz.prog (Gm m) Tryz.f29 = some f29 := by kernel_rfl
theorem ok30 (m : Int) : compF Tryz.prog (Gm m) Tryz.f30 = some f30 := by kernel_rfl
theorem ok32 (m : Int) : compF Tryz.prog (Gm m) Tryz.f32 = some f32 := by kernel_rfl
theorem ok33 (m : Int) : compF Tryz.prog (Gm m) Tryz.f33 = some f33 := by kernel_rfl
theorem ok34 (m : Int) : compF Tryz.prog (Gm m) Tryz.f34 = some f34 := by kernel_rfl
theorem ok35 (m : Int) : compF Tryz.prog (Gm m) Tryz.f35 = some f35 := by kernel_rfl
theorem ok36 (m : Int) : compF Tryz.prog (Gm m) Tryz.f36 = some f36 := by kernel_rfl
theorem ok37 (m : Int) : compF Tryz.prog (Gm m) Tryz.f37 = some f37 := by kernel_rfl
theorem ok38 (m : Int) : compF Tryz.prog (Gm m) Tryz.f38 = some f38 := by kernel_rfl
theorem ok39 (m : Int) : compF Tryz.prog (Gm m) Tryz.f39 = some f39 := by kernel_rfl
theorem ok40 (m : Int) : compF Tryz.prog (Gm m) Tryz.f40 = some f40 := by kernel_rfl
theorem ok41 (m : Int) : compF Tryz.prog (Gm m) Tryz.f41 = some f41 := by kernel_rfl
theorem ok45 (m : Int) : compF Tryz.prog (Gm m) Tryz.f45 = some f45 := by kernel_rfl
theorem ok46 (m : Int) : compF Tryz.prog (Gm m) Tryz.f46 = some f46 := by kernel_rfl
theorem ok47 (m : Int) : compF Tryz.prog (Gm m) Tryz.f47 = some f47 := by kernel_rfl
theorem ok48 (m : Int) : compF Tryz.prog (Gm m) Tryz.f48 = some f48 := by kernel_rfl
theorem ok49 (m : Int) : compF Tryz.prog (Gm m) Tryz.f49 = some f49 := by kernel_rfl
theorem ok50 (m : Int) : compF Tryz.prog (Gm m) Tryz.f50 = some f50 := by kernel_rfl
theorem ok52 (m : Int) : compF Tryz.prog (Gm m) Tryz.f52 = some f52 := by kernel_rfl
theorem ok53 (m : Int) : compF Tryz.prog (Gm m) Tryz.f53 = some f53 := by kernel_rfl
theorem ok54 (m : Int) : compF Tryz.prog (Gm m) Tryz.f54 = some f54 := by kernel_rfl
theorem ok55 (m : Int) : compF Tryz.prog (Gm m) Tryz.f55 = some f55 := by kernel_rfl
theorem ok56 (m : Int) : compF Tryz.prog (Gm m) Tryz.f56 = some f56 := by kernel_rfl
theorem ok57 (m : Int) : compF Tryz.prog (Gm m) Tryz.f57 = some f57 := by kernel_rfl
theorem ok58 (m : Int) : compF Tryz.prog (Gm m) Tryz.f58 = some f58 := by kernel_rfl
theorem ok59 (m : Int) : compF Tryz.prog (Gm m) Tryz.f59 = some f59 := by kernel_rfl
theorem ok60 (m : Int) : compF Tryz.prog (Gm m) Tryz.f60 = some f60 := by kernel_rfl
theorem ok61 (m : Int) : compF Tryz.prog (Gm m) Tryz.f61 = some f61 := by kernel_rfl
theorem ok62 (m : Int) : compF Tryz.prog (Gm m) Tryz.f62 = some f62 := by kernel_rfl
theorem ok63 (m : Int) : compF Tryz.prog (Gm m) Tryz.f63 = some f63 := by kernel_rfl
theorem ok64 (m : Int) : compF Tryz.prog (Gm m) Tryz.f64 = some f64 := by kernel_rfl
theorem ok65 (m : Int) : compF Tryz.prog (Gm m) Tryz.f65 = some f65 := by kernel_rfl
theorem ok66 (m : Int) : compF Tryz.prog (Gm m) Tryz.f66 = some f66 := by kernel_rfl
theorem ok67 (m : Int) : compF Tryz.prog (Gm m) Tryz.f67 = some f67 := by kernel_rfl
theorem ok68 (m : Int) : compF Tryz.prog (Gm m) Tryz.f68 = some f68 := by kernel_rfl
theorem ok70 (m : Int) : compF Tryz.prog (Gm m) Tryz.f70 = some f70 := by kernel_rfl
theorem ok71 (m : Int) : compF Tryz.prog (Gm m) Tryz.f71 = some f71 := by kernel_rfl
theorem ok72 (m : Int) : compF Tryz.prog (Gm m) Tryz.f72 = some f72 := by kernel_rfl
theorem ok73 (m : Int) : compF Tryz.prog (Gm m) Tryz.f73 = some f73 := by kernel_rfl
theorem ok74 (m : Int) : compF Tryz.prog (Gm m) Tryz.f74 = some f74 := by kernel_rfl
theorem ok78 (m : Int) : compF Tryz.prog (Gm m) Tryz.f78 = some f78 := by kernel_rfl
theorem ok79 (m : Int) : compF Tryz.prog (Gm m) Tryz.f79 = some f79 := by kernel_rfl
theorem ok80 (m : Int) : compF Tryz.prog (Gm m) Tryz.f80 = some f80 := by kernel_rfl
theorem ok81 (m : Int) : compF Tryz.prog (Gm m) Tryz.f81 = some f81 := by kernel_rfl
theorem ok82 (m : Int) : compF Tryz.prog (Gm m) Tryz.f82 = some f82 := by kernel_rfl
theorem ok83 (m : Int) : compF Tryz.prog (Gm m) Tryz.f83 = some f83 := by kernel_rfl
theorem ok85 (m : Int) : compF Tryz.prog (Gm m) Tryz.f85 = some f85 := by kernel_rfl
theorem ok86 (m : Int) : compF Tryz.prog (Gm m) Tryz.f86 = some f86 := by kernel_rfl
theorem ok87 (m : Int) : compF Tryz.prog (Gm m) Tryz.f87 = some f87 := by kernel_rfl
theorem ok88 (m : Int) : compF Tryz.prog (Gm m) Tryz.f88 = some f88 := by kernel_rfl
theorem ok90 (m : Int) : compF Tryz.prog (Gm m) Tryz.f90 = some f90 := by kernel_rfl
theorem ok92 (m : Int) : compF Tryz.prog (Gm m) Tryz.f92 = some f92 := by kernel_rfl
theorem ok93 (m : Int) : compF Tryz.prog (Gm m) Tryz.f93 = some f93 := by kernel_rfl
theorem ok94 (m : Int) : compF Tryz.prog (Gm m) Tryz.f94 = some f94 := by kernel_rfl
theorem ok95 (m : Int) : compF Tryz.prog (Gm m) Tryz.f95 = some f95 := by kernel_rfl
theorem ok96 (m : Int) : compF Tryz.prog (Gm m) Tryz.f96 = some f96 := by kernel_rfl
theorem ok103 (m : Int) : compF Tryz.prog (Gm m) Tryz.f103 = some f103 := by kernel_rfl
theorem ok104 (m : Int) : compF Tryz.prog (Gm m) Tryz.f104 = some f104 := by kernel_rfl
theorem ok105 (m : Int) : compF Tryz.prog (Gm m) Tryz.f105 = some f105 := by kernel_rfl
theorem ok106 (m : Int) : compF Tryz.prog (Gm m) Tryz.f106 = some f106 := by kernel_rfl
theorem ok107 (m : Int) : compF Tryz.prog (Gm m) Tryz.f107 = some f107 := by kernel_rfl
theorem ok116 (m : Int) : compF Tryz.prog (Gm m) Tryz.f116 = some f116 := by kernel_rfl
theorem ok117 (m : Int) : compF Tryz.prog (Gm m) Tryz.f117 = some f117 := by kernel_rfl
theorem ok118 (m : Int) : compF Tryz.prog (Gm m) Tryz.f118 = some f118 := by kernel_rfl
theorem ok119 (m : Int) : compF Tryz.prog (Gm m) Tryz.f119 = some f119 := by kernel_rfl
theorem ok120 (m : Int) : compF Tryz.prog (Gm m) Tryz.f120 = some f120 := by kernel_rfl
theorem ok124 (m : Int) : compF Tryz.prog (Gm m) Tryz.f124 = some f124 := by kernel_rfl
theorem ok125 (m : Int) : compF Tryz.prog (Gm m) Tryz.f125 = some f125 := by kernel_rfl
theorem ok126 (m : Int) : compF Tryz.prog (Gm m) Tryz.f126 = some f126 := by kernel_rfl
theorem ok127 (m : Int) : compF Tryz.prog (Gm m) Tryz.f127 = some f127 := by kernel_rfl
theorem ok128 (m : Int) : compF Tryz.prog (Gm m) Tryz.f128 = some f128 := by kernel_rfl
theorem ok129 (m : Int) : compF Tryz.prog (Gm m) Tryz.f129 = some f129 := by kernel_rfl
theorem ok130 (m : Int) : compF Tryz.prog (Gm m) Tryz.f130 = some f130 := by kernel_rfl
theorem ok131 (m : Int) : compF Tryz.prog (Gm m) Tryz.f131 = some f131 := by kernel_rfl
theorem ok132 (m : Int) : compF Tryz.prog (Gm m) Tryz.f132 = some f132 := by kernel_rfl
theorem ok133 (m : Int) : compF Tryz.prog (Gm m) Tryz.f133 = some f133 := by kernel_rfl
theorem ok135 (m : Int) : compF Tryz.prog (Gm m) Tryz.f135 = some f135 := by kernel_rfl
theorem ok136 (m : Int) : compF Tryz.prog (Gm m) Tryz.f136 = some f136 := by kernel_rfl
theorem ok137 (m : Int) : compF Tryz.prog (Gm m) Tryz.f137 = some f137 := by kernel_rfl
theorem ok138 (m : Int) : compF Tryz.prog (Gm m) Tryz.f138 = some f138 := by kernel_rfl
theorem ok139 (m : Int) : compF Tryz.prog (Gm m) Tryz.f139 = some f139 := by kernel_rfl
theorem ok140 (m : Int) : compF Tryz.prog (Gm m) Tryz.f140 = some f140 := by kernel_rfl
theorem ok141 (m : Int) : compF Tryz.prog (Gm m) Tryz.f141 = some f141 := by kernel_rfl
theorem ok142 (m : Int) : compF Tryz.prog (Gm m) Tryz.f142 = some f142 := by kernel_rfl
theorem ok143 (m : Int) : compF Tryz.prog (Gm m) Tryz.f143 = some f143 := by kernel_rfl
theorem ok144 (m : Int) : compF Tryz.prog (Gm m) Tryz.f144 = some f144 := by kernel_rfl
theorem ok146 (m : Int) : compF Tryz.prog (Gm m) Tryz.f146 = some f146 := by kernel_rfl
theorem ok147 (m : Int) : compF Tryz.prog (Gm m) Tryz.f147 = some f147 := by kernel_rfl
theorem ok149 (m : Int) : compF Tryz.prog (Gm m) Tryz.f149 = some f149 := by kernel_rfl
theorem ok151 (m : Int) : compF Tryz.prog (Gm m) Tryz.f151 = some f151 := by kernel_rfl
theorem ok152 (m : Int) : compF Tryz.prog (Gm m) Tryz.f152 = some f152 := by kernel_rfl
theorem ok154 (m : Int) : compF Tryz.prog (Gm m) Tryz.f154 = some f154 := by kernel_rfl
theorem ok155 (m : Int) : compF Tryz.prog (Gm m) Tryz.f155 = some f155 := by kernel_rfl
theorem ok156 (m : Int) : compF Tryz.prog (Gm m) Tryz.f156 = some f156 := by kernel_rfl
noncomputable def lst0 : List (Nat × AF) := [(2,f2),(3,f3),(4,f4),(5,f5),(6,f6),(7,f7),(8,f8),(9,f9),(10,f10),(11,f11),(12,f12),(13,f13),(14,f14),(15,f15),(16,f16),(17,f17),(18,f18),(19,f19),(20,f20),(21,f21),(22,f22),(23,f23),(24,f24),(25,f25),(26,f26),(27,f27),(28,f28),(29,f29),(30,f30),(32,f32),(33,f33),(34,f34),(35,f35),(36,f36),(37,f37),(38,f38),(39,f39),(40,f40),(41,f41),(45,f45),(46,f46),(47,f47),(48,f48),(49,f49),(50,f50),(52,f52),(53,f53),(54,f54),(55,f55),(56,f56),(57,f57),(58,f58),(59,f59),(60,f60),(61,f61),(62,f62),(63,f63),(64,f64),(65,f65),(66,f66),(67,f67),(68,f68),(70,f70),(71,f71),(72,f72),(73,f73),(74,f74),(78,f78),(79,f79),(80,f80),(81,f81),(82,f82),(83,f83),(85,f85),(86,f86),(87,f87),(88,f88),(90,f90),(92,f92),(93,f93),(94,f94),(95,f95),(96,f96),(103,f103),(104,f104),(105,f105),(106,f106),(107,f107),(116,f116),(117,f117),(118,f118),(119,f119),(120,f120),(124,f124),(125,f125),(126,f126),(127,f127),(128,f128),(129,f129),(130,f130),(131,f131),(132,f132),(133,f133),(135,f135),(136,f136),(137,f137),(138,f138),(139,f139),(140,f140),(141,f141),(142,f142),(143,f143),(144,f144),(146,f146),(147,f147),(149,f149),(151,f151),(152,f152),(154,f154),(155,f155),(156,f156)]
theorem lst0_ok : ∀ q ∈ lst0, GoodF q :=
  good_cons ⟨Tryz.f2, Tryz.func2, ok2, by kernel_rfl⟩ (
  good_cons ⟨Tryz.f3, Tryz.func3, ok3, by kernel_rfl⟩ (
  good_cons ⟨Tryz.f4, Tryz.func4, ok4, by kernel_rfl⟩ (
  good_cons ⟨Tryz.f5, Tryz.func5, ok5, by kernel_rfl⟩ (
  good_cons ⟨Tryz.f6, Tryz.func6, ok6, by kernel_rfl⟩ (
  good_cons ⟨Tryz.f7, Tryz.func7, ok7, by kernel_rfl⟩ (
  good_cons ⟨Tryz.f8, Tryz.func8, ok8, by kernel_rfl⟩ (
  good_cons ⟨Tryz.f9, Tryz.func9, ok9, by kernel_rfl⟩ (
  good_cons ⟨Tryz.f10, Tryz.func10, ok10, by kernel_rfl⟩ (
  good_cons ⟨Tryz.f11, Tryz.func11, ok11, by kernel_rfl⟩ (
  good_cons ⟨Tryz.f12, Tryz.func12, ok12, by kernel_rfl⟩ (
  good_cons ⟨Tryz.f13, Tryz.func13, ok13, by kernel_rfl⟩ (
  good_cons ⟨Tryz.f14, Tryz.func14, ok14, by kernel_rfl⟩ (
  good_cons ⟨Tryz.f15, Tryz.func15, ok15, by kernel_rfl⟩ (
  good_cons ⟨Tryz.f16, Tryz.func16, ok16, by kernel_rfl⟩ (
  good_cons ⟨Tryz.f17, Tryz.func17, ok17, by kernel_rfl⟩ (
  good_cons ⟨Tryz.f18, Tryz.func18, ok18, by kernel_rfl⟩ (
  good_cons ⟨Tryz.f19, Tryz.func19, ok19, by kernel_rfl⟩ (
  good_cons ⟨Tryz.f20, Tryz.func20, ok20, by kernel_rfl⟩ (
  good_cons ⟨Tryz.f21, Tryz.func21, ok21, by kernel_rfl⟩ (
  good_cons ⟨Tryz.f22, Tryz.func22, ok22, by kernel_rfl⟩ (
  good_cons ⟨Tryz.f23, Tryz.func23, ok23, by kernel_rfl⟩ (
  good_cons ⟨Tryz.f24, Tryz.func24, ok24, by kernel_rfl⟩ (
  good_cons ⟨Tryz.f25, Tryz.func25, ok25, by kernel_rfl⟩ (
  good_cons ⟨Tryz.f26, Tryz.func26, ok26, by kernel_rfl⟩ (
  good_cons ⟨Tryz.f27, Tryz.func27, ok27, by kernel_rfl⟩ (
  good_cons ⟨Tryz.f28, Tryz.func28, ok28, by kernel_rfl⟩ (
  good_cons ⟨Tryz.f29, Tryz.func29, ok29, by kernel_rfl⟩ (
  good_cons ⟨Tryz.f30, Tryz.func30, ok30, by kernel_rfl⟩ (
  good_cons ⟨Tryz.f32, Tryz.func32, ok32, by kernel_rfl⟩ (
  good_cons ⟨Tryz.f33, Tryz.func33, ok33, by kernel_rfl⟩ (
  good_cons ⟨Tryz.f34, Tryz.func34, ok34, by kernel_rfl⟩ (
  good_cons ⟨Tryz.f35, Tryz.func35, ok35, by kernel_rfl⟩ (
  good_cons ⟨Tryz.f36, Tryz.func36, ok36, by kernel_rfl⟩ (
  good_cons ⟨Tryz.f37, Tryz.func37, ok37, by kernel_rfl⟩ (
  good_cons ⟨Tryz.f38, Tryz.func38, ok38, by kernel_rfl⟩ (
  good_cons ⟨Tryz.f39, Tryz.func39, ok39, by kernel_rfl⟩ (
  good_cons ⟨Tryz.f40, Tryz.func40, ok40, by kernel_rfl⟩ (
  good_cons ⟨Tryz.f41, Tryz.func41, ok41, by kernel_rfl⟩ (
  good_cons ⟨Tryz.f45, Tryz.func45, ok45, by kernel_rfl⟩ (
  good_cons ⟨Tryz.f46, Tryz.func46, ok46, by kernel_rfl⟩ (
  good_cons ⟨Tryz.f47, Tryz.func47, ok47, by kernel_rfl⟩ (
  good_cons ⟨Tryz.f48, Tryz.func48, ok48, by kernel_rfl⟩ (
  good_cons ⟨Tryz.f49, Tryz.func49, ok49, by kernel_rfl⟩ (
  good_cons ⟨Tryz.f50, Tryz.func50, ok50, by kernel_rfl⟩ (
  good_cons ⟨Tryz.f52, Tryz.func52, ok52, by kernel_rfl⟩ (
  good_cons ⟨Tryz.f53, Tryz.func53, ok53, by kernel_rfl⟩ (
  good_cons ⟨Tryz.f54, Tryz.func54, ok54, by kernel_rfl⟩ (
  good_cons ⟨Tryz.f55, Tryz.func55, ok55, by kernel_rfl⟩ (
  good_cons ⟨Tryz.f56, Tryz.func56, ok56, by kernel_rfl⟩ (
  good_cons ⟨Tryz.f57, Tryz.func57, ok57, by kernel_rfl⟩ (
  good_cons ⟨Tryz.f58, Tryz.func58, ok58, by kernel_rfl⟩ (
  good_cons ⟨Tryz.f59, Tryz.func59, ok59, by kernel_rfl⟩ (
  good_cons ⟨Tryz.f60, Tryz.func60, ok60, by kernel_rfl⟩ (
  good_cons ⟨Tryz.f61, Tryz.func61, ok61, by kernel_rfl⟩ (
  good_cons ⟨Tryz.f62, Tryz.func62, ok62, by kernel_rfl⟩ (
  good_cons ⟨Tryz.f63, Tryz.func63, ok63, by kernel_rfl⟩ (
  good_cons ⟨Tryz.f64, Tryz.func64, ok64, by kernel_rfl⟩ (
  good_cons ⟨Tryz.f65, Tryz.func65, ok65, by kernel_rfl⟩ (
  good_cons ⟨Tryz.f66, Tryz.func66, ok66, by kernel_rfl⟩ (
  good_cons ⟨Tryz.f67, Tryz.func67, ok67, by kernel_rfl⟩ (
  good_cons ⟨Tryz.f68, Tryz.func68, ok68, by kernel_rfl⟩ (
  good_cons ⟨Tryz.f70, Tryz.func70, ok70, by kernel_rfl⟩ (
  good_cons ⟨Tryz.f71, Tryz.func71, ok71, by kernel_rfl⟩ (
  good_cons ⟨Tryz.f72, Tryz.func72, ok72, by kernel_rfl⟩ (
  good_cons ⟨Tryz.f73, Tryz.func73, ok73, by kernel_rfl⟩ (
  good_cons ⟨Tryz.f74, Tryz.func74, ok74, by kernel_rfl⟩ (
  good_cons ⟨Tryz.f78, Tryz.func78, ok78, by kernel_rfl⟩ (
  good_cons ⟨Tryz.f79, Tryz.func79, ok79, by kernel_rfl⟩ (
  good_cons ⟨Tryz.f80, Tryz.func80, ok80, by kernel_rfl⟩ (
  good_cons ⟨Tryz.f81, Tryz.func81, ok81, by kernel_rfl⟩ (
  good_cons ⟨Tryz.f82, Tryz.func82, ok82, by kernel_rfl⟩ (
  good_cons ⟨Tryz.f83, Tryz.func83, ok83, by kernel_rfl⟩ (
  good_cons ⟨Tryz.f85, Tryz.func85, ok85, by kernel_rfl⟩ (
  good_cons ⟨Tryz.f86, Tryz.func86, ok86, by kernel_rfl⟩ (
  good_cons ⟨Tryz.f87, Tryz.func87, ok87, by kernel_rfl⟩ (
  good_cons ⟨Tryz.f88, Tryz.func88, ok88, by kernel_rfl⟩ (
  good_cons ⟨Tryz.f90, Tryz.func90, ok90, by kernel_rfl⟩ (
  good_cons ⟨Tryz.f92, Tryz.func92, ok92, by kernel_rfl⟩ (
  good_cons ⟨Tryz.f93, Tryz.func93, ok93, by kernel_rfl⟩ (
  good_cons ⟨Tryz.f94, Tryz.func94, ok94, by kernel_rfl⟩ (
  good_cons ⟨Tryz.f95, Tryz.func95, ok95, by kernel_rfl⟩ (
  good_cons ⟨Tryz.f96, Tryz.func96, ok96, by kernel_rfl⟩ (
  good_cons ⟨Tryz.f103, Tryz.func103, ok103, by kernel_rfl⟩ (
  good_cons ⟨Tryz.f104, Tryz.func104, ok104, by kernel_rfl⟩ (
  good_cons ⟨Tryz.f105, Tryz.func105, ok105, by kernel_rfl⟩ (
  good_cons ⟨Tryz.f106, Tryz.func106, ok106, by kernel_rfl⟩ (
  good_cons ⟨Tryz.f107, Tryz.func107, ok107, by kernel_rfl⟩ (
  good_cons ⟨Tryz.f116, Tryz.func116, ok116, by kernel_rfl⟩ (
  good_cons ⟨Tryz.f117, Tryz.func117, ok117, by kernel_rfl⟩ (
  good_cons ⟨Tryz.f118, Tryz.func118, ok118, by kernel_rfl⟩ (
  good_cons ⟨Tryz.f119, Tryz.func119, ok119, by kernel_rfl⟩ (
  good_cons ⟨Tryz.f120, Tryz.func120, ok120, by kernel_rfl⟩ (
  good_cons ⟨Tryz.f124, Tryz.func124, ok124, by kernel_rfl⟩ (
  good_cons ⟨Tryz.f125, Tryz.func125, ok125, by kernel_rfl⟩ (
  good_cons ⟨Tryz.f126, Tryz.func126, ok126, by kernel_rfl⟩ (
  good_cons ⟨Tryz.f127, Tryz.func127, ok127, by kernel_rfl⟩ (
  good_cons ⟨Tryz.f128, Tryz.func128, ok128, by kernel_rfl⟩ (
  good_cons ⟨Tryz.f129, Tryz.func129, ok129, by kernel_rfl⟩ (
  good_cons ⟨Tryz.f130, Tryz.func130, ok130, by kernel_rfl⟩ (
  good_cons ⟨Tryz.f131, Tryz.func131, ok131, by kernel_rfl⟩ (
  good_cons ⟨Tryz.f132, Tryz.func132, ok132, by kernel_rfl⟩ (
  good_cons ⟨Tryz.f133, Tryz.func133, ok133, by kernel_rfl⟩ (
  good_cons ⟨Tryz.f135, Tryz.func135, ok135, by kernel_rfl⟩ (
  good_cons ⟨Tryz.f136, Tryz.func136, ok136, by kernel_rfl⟩ (
  good_cons ⟨Tryz.f137, Tryz.func137, ok137, by kernel_rfl⟩ (
  good_cons ⟨Tryz.f138, Tryz.func138, ok138, by kernel_rfl⟩ (
  good_cons ⟨Tryz.f139, Tryz.func139, ok139, by kernel_rfl⟩ (
  good_cons ⟨Tryz.f140, Tryz.func140, ok140, by kernel_rfl⟩ (
  good_cons ⟨Tryz.f141, Tryz.func141, ok141, by kernel_rfl⟩ (
  good_cons ⟨Tryz.f142, Tryz.func142, ok142, by kernel_rfl⟩ (
  good_cons ⟨Tryz.f143, Tryz.func143, ok143, by kernel_rfl⟩ (
  good_cons ⟨Tryz.f144, Tryz.func144, ok144, by kernel_rfl⟩ (
  good_cons ⟨Tryz.f146, Tryz.func146, ok146, by kernel_rfl⟩ (
  good_cons ⟨Tryz.f147, Tryz.func147, ok147, by kernel_rfl⟩ (
  good_cons ⟨Tryz.f149, Tryz.func149, ok149, by kernel_rfl⟩ (
  good_cons ⟨Tryz.f151, Tryz.func151, ok151, by kernel_rfl⟩ (
  good_cons ⟨Tryz.f152, Tryz.func152, ok152, by kernel_rfl⟩ (
  good_cons ⟨Tryz.f154, Tryz.func154, ok154, by kernel_rfl⟩ (
  good_cons ⟨Tryz.f155, Tryz.func155, ok155, by kernel_rfl⟩ (
  good_cons ⟨Tryz.f156, Tryz.func156, ok156, by kernel_rfl⟩ (
  good_nil)))))))))))))))))))))))))))))))))))))))))))))))))))))))))))))))))))))))))))))))))))))))))))))))))))))))))))))))))))))))))
end Go.Ev
