/- The closure of FnNaked, out of the parts; and what the card asks of it. -/
import Derived.Test.YtghnkhippmmdmaaGreatDoorEvRc
import Derived.JoinedOf
import Derived.Stop.Joined
set_option linter.unusedVariables false
set_option linter.unusedSimpArgs false

namespace Go.Proofs.YtghnkhippmmdmaaGreatDoor
set_option maxRecDepth 100000

theorem cutMap {α β : Type} (f : α → β) (l : List α) (a n : Nat) : (l.drop a).map f = ((l.drop a).take n).map f ++ (l.drop (a + n)).map f := by
  rw [← List.map_append, ← List.drop_drop, List.take_append_drop]

def leadAll : List (List Nat) := lead0 ++ (lead1 ++ (lead2 ++ (lead3 ++ (lead4 ++ (lead5 ++ (lead6 ++ lead7))))))
theorem funcs_size : Tryz.prog.funcs.toList.length = 488 := by kernel_rfl
theorem leads : Tryz.prog.funcs.toList.map Tryz.prog.leadsTo = leadAll := by
  have h0 : Tryz.prog.funcs.toList.map Tryz.prog.leadsTo = (Tryz.prog.funcs.toList.drop 0).map Tryz.prog.leadsTo := by rw [List.drop_zero]
  have h8 : (Tryz.prog.funcs.toList.drop 488).map Tryz.prog.leadsTo = [] := by rw [List.drop_of_length_le (Nat.le_of_eq funcs_size)]; rfl
  rw [h0, cutMap _ _ 0 61, leads0, cutMap _ _ (0 + 61) 61, leads1, cutMap _ _ (0 + 61 + 61) 61, leads2, cutMap _ _ (0 + 61 + 61 + 61) 61, leads3, cutMap _ _ (0 + 61 + 61 + 61 + 61) 61, leads4,
    cutMap _ _ (0 + 61 + 61 + 61 + 61 + 61) 61, leads5, cutMap _ _ (0 + 61 + 61 + 61 + 61 + 61 + 61) 61, leads6, cutMap _ _ (0 + 61 + 61 + 61 + 61 + 61 + 61 + 61) 61, leads7, h8, List.append_nil]
  rfl

theorem lead_at (f : Nat) : (Tryz.prog.funcs[f]?).elim [] Tryz.prog.leadsTo = (leadAll[f]?).getD [] := by
  rw [← leads, List.getElem?_map, Array.getElem?_toList]
  cases Tryz.prog.funcs[f]? <;> rfl

/-- The closure's walk, over a list of what each names. -/
def closG (lead : Nat → List Nat) : Nat → List Nat → List Nat → List Nat
  | 0, _, seen => seen.reverse
  | _ + 1, [], seen => seen.reverse
  | n + 1, f :: todo, seen => bif seen.contains f then closG lead n todo seen else closG lead n (lead f ++ todo) (f :: seen)

theorem closG_eq : ∀ (n : Nat) (todo seen : List Nat), Tryz.prog.closureVia n todo seen = closG (fun f => (leadAll[f]?).getD []) n todo seen
  | 0, _, _ => by simp only [Program.closureVia, closG]
  | n + 1, [], _ => by simp only [Program.closureVia, closG]
  | n + 1, f :: todo, seen => by
    simp only [Program.closureVia, closG]
    rw [lead_at, closG_eq n, closG_eq n]
    cases seen.contains f <;> rfl

theorem fuel_eq : (Tryz.prog.funcs.toList.map fun g => (Tryz.prog.leadsTo g).length + 1).sum = 1549 := by
  have h : (Tryz.prog.funcs.toList.map fun g => (Tryz.prog.leadsTo g).length + 1) = leadAll.map fun l => l.length + 1 := by
    rw [← leads, List.map_map]
    rfl
  exact (congrArg List.sum h).trans (by kernel_rfl)

def clo : List Nat := [3, 4, 5, 6, 8, 9, 26, 41, 73, 74, 15, 32, 54, 53, 55, 82, 129, 130, 190, 252, 183, 46, 77, 22, 253, 254, 187, 185, 245, 246, 247, 297, 248, 298, 355, 299, 356, 302, 144, 198, 390, 146, 145, 255, 301, 300, 83, 84, 131, 132, 134, 133, 136, 193, 135, 191, 256, 192, 258, 312, 313, 257, 303, 309, 126, 304, 357, 305, 358, 359, 306, 360, 361, 391, 307, 308, 310, 311, 137, 85, 86, 138, 139, 140, 194, 259, 125, 186, 249, 250, 60, 89, 147, 199, 188, 251, 189, 169, 232, 11, 233, 286, 349, 350, 384, 385, 351, 352, 386, 387, 412, 413, 234, 287, 288, 289, 353, 388, 314, 315, 316, 324, 272, 362, 392, 393, 271, 118, 394, 263, 322, 323, 363, 181, 317, 364, 195, 33, 196, 260, 318, 365, 366, 395, 415, 425, 439, 450, 451, 426, 440, 452, 441, 442, 454, 456, 453, 443, 396, 397, 416, 427, 433, 447, 428, 444, 429, 430, 445, 446, 455, 431, 432, 434, 435, 398, 367, 399, 401, 343, 381, 380, 408, 400, 417, 261, 319, 21, 320, 244, 296, 354, 389, 414, 321, 141, 142, 197, 262, 264, 265, 266, 57, 88, 143, 56, 87, 58, 59, 28, 27, 23, 24, 25, 48, 47, 10, 29, 49, 78, 50, 30, 51, 39, 72, 119, 120, 52, 80, 81, 127, 128, 124, 151, 202, 79, 12, 31, 14, 13, 17, 16, 34, 61, 90, 104, 148, 200, 267, 201, 91, 149, 150, 62, 92, 93, 94, 152, 95, 63, 64, 96, 65, 97, 98, 153, 203, 204, 101, 100, 154, 155, 205, 206, 268, 325, 99, 102, 103, 156, 207, 208, 157, 209, 210, 269, 326, 66, 106, 105, 158, 18, 35, 36, 67, 19, 68, 107, 159, 211, 212, 160, 161, 71, 117, 180, 182, 243, 37, 213, 270, 327, 368, 162, 214, 163, 215, 273, 329, 242, 328, 369, 402, 330, 331, 332, 333, 370, 403, 418, 419, 404, 334, 371, 405, 420, 436, 448, 335, 372, 336, 373, 337, 374, 164, 216, 108, 166, 225, 280, 345, 281, 346, 347, 383, 282, 217, 226, 227, 230, 284, 348, 338, 229, 283, 218, 167, 228, 219, 274, 339, 220, 275, 340, 123, 184, 276, 165, 221, 222, 277, 341, 236, 291, 292, 375, 376, 407, 406, 421, 437, 377, 378, 379, 342, 223, 224, 278, 279, 344, 382, 409, 410, 423, 424, 422, 438, 449, 411, 69, 109, 110, 168, 231, 285, 170, 235, 290, 70, 111, 112, 113, 114, 171, 115, 172, 237, 116, 173, 238, 174, 239, 293, 240, 295, 294, 175, 241, 176, 177, 178, 179, 38, 7, 20, 40, 42, 43, 75, 121, 122, 44, 45, 76]
theorem clo_eq : Tryz.prog.closure 3 = clo := by
  unfold Program.closure
  rw [fuel_eq, closG_eq]
  kernel_rfl
end Go.Proofs.YtghnkhippmmdmaaGreatDoor
