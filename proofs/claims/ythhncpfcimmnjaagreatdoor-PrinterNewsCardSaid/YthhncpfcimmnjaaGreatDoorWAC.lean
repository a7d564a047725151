import Derived.Test.YthhncpfcimmnjaaGreatDoorWA
import GoSem.ClaimGoes
set_option linter.unusedVariables false
set_option maxRecDepth 100000
namespace Go.Proofs.YthhncpfcimmnjaaGreatDoor
open Go

def wtL : List (List Nat) := [[], [], [1], [4, 5, 6, 7], [8, 9, 10, 11], [12, 13, 14, 15], [16, 17, 18, 19, 20, 21, 22, 23], [25, 26, 24, 27], [28, 29], [], [30], [], [31, 32], [33], [34], [], [35], [36], [], [], [], [37, 38], [], [36], [4, 27], [], [], [39, 40, 39, 41, 39], [42], [43, 43, 43, 43, 43, 44, 44, 43], [45, 46], [47, 47, 47, 47, 47, 47, 47, 47, 47, 47, 47, 47, 47, 47, 47, 47, 47, 47, 47], [], [], [32, 48], [], [], [], [], [49, 50, 51, 52, 53, 54, 55, 56, 57, 54, 52], [58, 59], [60, 61, 62, 63, 64, 66, 65, 67, 65, 68, 69, 70, 71, 72, 73, 74, 75], [76, 76, 77, 77, 77, 77, 77, 77, 77, 77, 77, 77, 77, 77, 77, 77, 77, 77, 77], [], [], [29, 78, 78, 79, 79], [], [], [80, 80, 81, 81], [], [], [], [82, 83, 84], [], [], [], [], [], [85, 86, 87], [88, 89], [90, 91], [90, 92, 93, 94], [95, 96], [97, 98, 99], [97], [], [100, 55], [100, 55], [90, 101], [102], [103, 104], [103, 103], [], [106, 105], [107, 108, 90, 101], [90, 109], [77], [], [], [110, 110, 110, 110, 110, 110, 110, 110, 110, 110], [], [111, 111, 111, 111, 111, 111, 111, 111, 111, 111], [], [], [], [], [], [], [112, 113, 114, 114, 114, 115, 117, 116, 113], [], [], [119, 121, 120, 121, 122], [8, 123, 124, 125, 126], [58, 127, 86, 128], [129, 130], [130, 131, 132], [], [100, 55, 133], [130, 134, 131], [135, 136, 59, 89, 135, 96], [], [137], [138, 140, 139, 141, 138, 89], [], [142], [114, 143, 144, 116], [146, 147], [146, 147], [10, 104, 148, 89], [62, 63, 101, 102], [], [], [143, 58, 149, 150], [], [], [], [151], [118, 118], [152, 153], [154, 155, 156, 154, 157, 50], [158, 158, 159, 160], [], [158, 159, 160], [28, 161, 162, 163], [164, 165, 166], [], [167], [128, 128], [168], [169], [54], [129], [169, 128, 170], [], [171, 172, 173, 174], [175, 176, 176, 176], [177, 178, 85, 179, 180, 181, 86, 58], [131, 130], [182, 183, 184], [114, 143, 113, 185, 186, 116, 113, 188], [], [182, 189, 190, 182, 191, 192, 193, 194], [79], [45, 195, 196, 197], [145, 118], [198, 199, 201, 200, 200], [], [], [143, 202, 147, 152, 113, 203, 203, 200, 203, 113, 204, 113, 205], [206, 207, 208, 209, 210, 211, 212, 213], [79], [], [214], [215, 152, 147, 216], [217], [], [], [156], [], [], [154, 218], [219, 219, 220, 221], [222, 223], [228, 229], [28, 231, 230], [232], [233, 234, 235, 236, 237, 238], [29], [], [], [172, 128], [173, 174], [], [239], [], [171, 173, 240, 129, 174, 172], [128, 170], [241], [180, 181, 85], [242], [243], [], [82, 83, 84], [], [183, 244, 244, 230], [143, 245], [187, 118], [198, 198, 200], [143, 246, 247], [29], [222, 194], [248, 189, 230, 230], [249], [250], [], [46, 46, 46, 46, 46, 46, 46, 46, 46, 46, 46, 46], [251, 252, 46, 253, 46], [254, 254, 255, 254, 256, 254, 256, 251, 46, 254], [], [], [], [251, 252, 257], [143, 258], [], [259], [248, 260, 200, 261], [262, 263], [264], [], [265, 266, 167, 268, 267, 254, 254, 270, 269], [258], [258, 259, 269, 248], [], [271], [147, 272, 273, 274], [276, 277, 278, 277, 278, 277, 278, 277, 278, 277, 279, 280, 277, 278, 281, 277, 278], [146, 282], [283], [284], [], [285, 286, 287, 288], [227], [289, 290, 289, 289], [224, 225, 227, 226], [222, 225, 226], [291, 292, 293, 294, 295], [296, 297], [296, 293], [298, 299, 300], [28, 222, 301, 302, 303, 303, 304, 305], [], [77, 28], [], [307, 306], [308, 309, 310, 307, 306], [308, 311, 307, 306, 309, 310, 311, 307, 306], [306], [306, 306], [], [312], [313], [314, 315, 316], [317], [318], [], [319, 56, 57], [320, 321, 263], [245, 322, 256, 323], [44, 230, 230, 259], [324, 325, 227], [222, 327, 326], [328], [329, 330], [331, 332], [46], [201, 267], [], [252, 330], [], [29, 44, 333], [200, 261, 261], [334, 335, 336, 337], [79], [255, 338, 339], [79, 340], [], [341], [], [255, 256, 256], [334, 56, 335, 336, 337, 57], [342], [78], [343, 344, 344, 344, 344, 345, 344, 215], [347, 346], [275], [348, 348], [], [], [349, 350, 351], [349, 351], [], [], [147], [], [352], [353, 354, 355, 356, 357], [353, 358], [219], [219, 359, 360, 361], [], [362], [222], [222], [363, 364], [290, 365], [], [222, 222, 366, 367, 327, 327, 84], [363, 368], [28, 222, 222], [227, 369, 371, 373, 374, 375, 374, 376, 377, 374, 226, 378, 374], [302, 379], [], [380, 381, 381], [], [383, 382, 384], [385, 28, 386, 388], [58], [], [], [389, 389], [390], [231], [242, 391, 242, 392, 391, 393], [], [394, 395], [394, 396, 316], [312], [], [313], [251, 397, 398, 399], [78, 244, 230, 244], [79, 340, 244, 244, 340, 340, 340], [398, 397, 400, 399, 401], [251, 252], [], [289, 289, 402, 403, 404], [290, 407, 406], [408, 409], [329], [], [], [251, 410], [342], [230], [411, 252, 413, 412, 412], [411, 252, 413, 412], [411, 252, 252, 413, 412], [328, 414], [], [], [], [29, 44, 333], [], [415], [], [415], [416, 417, 418, 419, 420, 421, 422, 423, 346, 346], [424, 425], [], [], [], [], [426, 426, 426], [217], [353, 427], [353, 428], [429, 430], [431, 432], [433], [353, 429, 434], [426, 426, 435, 436, 437, 436, 437, 438], [439, 440, 441, 442], [], [290, 290, 443, 443, 444, 444, 445, 445, 446, 446], [], [], [347, 447], [], [], [370], [222, 225, 448, 225, 449], [372], [225, 225, 449, 300, 226, 450, 226, 452, 451], [453, 454, 455, 456, 456], [457], [222, 458, 403, 459, 460, 461, 462], [227, 463, 374, 450, 226, 452, 374], [222, 464, 465, 466, 467, 468, 450, 469, 452, 470], [222, 464, 471, 472], [], [], [], [473, 474, 475, 476, 477], [473, 474, 478, 479, 480], [481, 482, 303], [483, 402], [388, 387], [484], [483], [], [485, 485, 486, 486], [], [], [487], [], [488], [], [], [489], [252], [251, 252], [252, 257, 257], [], [347, 490], [275, 275, 405], [], [491], [], [], [275], [252, 492], [329, 29], [493], [], [494, 494, 494], [349], [], [495, 495], [496, 497], [498, 498, 498, 499], [], [], [], [], [], [], [], [500, 501, 502, 503], [504], [353], [217, 217, 217, 506, 506, 505], [353, 507, 508, 508, 507, 508, 366], [353, 509], [], [510, 510], [], [347, 511], [], [512, 512], [], [513, 514], [230, 230], [486, 515, 516, 517, 518], [], [443, 446], [444], [], [519, 520, 521, 522, 523, 524, 525, 526, 527, 447, 447], [222, 227, 528, 227], [529, 451], [302, 325], [], [222, 530, 472, 531, 532, 472, 533, 531], [534, 226], [222, 227, 529, 535, 536, 300], [537, 227, 537, 456, 537, 456, 226], [296, 538], [], [460], [], [], [347, 539], [], [540, 541, 542, 541, 542, 543, 543, 544, 226], [], [378, 545], [378, 545, 300], [529, 470, 536, 300], [546, 530, 547, 403, 549], [550, 297], [], [530, 530], [], [], [302, 551], [480, 552, 553, 553], [554], [302, 555], [480, 553, 553], [556, 477], [], [482, 557, 558, 303, 303, 303], [], [], [], [], [], [], [], [253], [559, 560, 561, 562, 563, 564, 565, 566, 490, 490], [], [], [168, 168, 567, 168, 168, 568], [252], [], [347], [], [499], [569, 569, 569], [353, 507], [], [347, 570], [275, 275, 405], [], [571, 571], [217, 217], [], [], [571, 571, 505, 572], [217, 217, 573, 573], [574, 575, 576, 577, 578, 579, 580, 581, 511, 511], [], [347, 582], [], [230], [347, 583], [], [362, 584, 585, 365], [525], [586, 586], [496, 497], [587, 587, 587, 588], [], [525, 525, 525], [348, 348], [525, 525], [525, 525, 525, 525], [292, 250, 590, 589, 325], [591, 592], [], [593], [594], [], [536, 225], [], [291, 538, 595, 295], [222], [363, 596], [597, 598, 599, 600, 601, 602, 603, 604, 539, 539], [222, 222], [605, 606, 606, 605], [325], [222, 607], [226], [546, 608, 325, 378, 608], [222, 609], [548, 548], [530], [530], [518], [], [480], [], [553, 553, 553, 553], [], [302, 610], [250, 250, 611, 533], [612, 612], [], [613, 613], [496, 497], [614, 614, 614, 615], [], [], [], [], [], [616], [], [617, 618, 619, 620, 621, 622, 623, 624, 570, 570], [283], [571, 283], [333], [], [625, 625], [496, 497], [626, 626, 626, 627], [], [], [], [], [628, 629, 630, 631, 632, 633, 634, 635, 582, 582], [636, 637, 638, 639, 640, 641, 642, 643, 583, 583], [347, 644], [], [525, 525], [588], [645, 645, 645], [646], [647], [222, 648, 436, 649, 650], [651, 653, 652, 651, 653, 652], [], [], [290], [], [], [654, 654], [496, 497], [655, 655, 655, 656], [], [], [], [], [456, 544, 250, 250], [546, 325], [290], [], [657], [], [250], [], [], [615], [658, 658, 658], [425], [], [659, 659], [496, 497], [660, 660, 660, 661], [], [], [], [], [], [627], [662, 662, 662], [], [663, 663], [496, 497], [664, 664, 664, 665], [], [], [], [], [], [666, 666], [496, 497], [667, 667, 667, 668], [], [], [], [], [669, 670, 671, 672, 673, 674, 675, 676, 644, 644], [525], [], [], [677, 297, 678, 297, 678, 678, 678], [], [679, 680, 681, 682, 683], [684, 684], [], [], [], [656], [685, 685, 685], [], [], [], [661], [686, 686, 686], [], [], [665], [687, 687, 687], [], [668], [688, 688, 688], [], [689, 689], [496, 497], [690, 690, 690, 691], [], [], [], [], [], [], [692, 694, 693], [], [], [], [692], [], [], [], [], [], [], [691], [695, 695, 695], [], [], [], [], [], [], [], [], [], [], [], [], [], [], [], [], [], [], [], [], [], [], [], [], [], []]
noncomputable def wtB (i : Nat) : Bool := ((Tryz.prog.funcs[i]?).elim [] Tryz.prog.leadsTo) == wtL.getD i []
theorem wt_0 : ((List.range 60).all fun i => wtB (0 + i)) = true := by kernel_rfl
theorem wt_60 : ((List.range 60).all fun i => wtB (60 + i)) = true := by kernel_rfl
theorem wt_120 : ((List.range 60).all fun i => wtB (120 + i)) = true := by kernel_rfl
theorem wt_180 : ((List.range 60).all fun i => wtB (180 + i)) = true := by kernel_rfl
theorem wt_240 : ((List.range 60).all fun i => wtB (240 + i)) = true := by kernel_rfl
theorem wt_300 : ((List.range 60).all fun i => wtB (300 + i)) = true := by kernel_rfl
theorem wt_360 : ((List.range 60).all fun i => wtB (360 + i)) = true := by kernel_rfl
theorem wt_420 : ((List.range 60).all fun i => wtB (420 + i)) = true := by kernel_rfl
theorem wt_480 : ((List.range 60).all fun i => wtB (480 + i)) = true := by kernel_rfl
theorem wt_540 : ((List.range 60).all fun i => wtB (540 + i)) = true := by kernel_rfl
theorem wt_600 : ((List.range 60).all fun i => wtB (600 + i)) = true := by kernel_rfl
theorem wt_660 : ((List.range 58).all fun i => wtB (660 + i)) = true := by kernel_rfl
theorem wt_ (t : Nat) (ht : t < 718) : wtB t = true := by
  by_cases h0 : t < 60
  · exact all_part 0 60 wt_0 t (by omega) h0
  by_cases h60 : t < 120
  · exact all_part 60 60 wt_60 t (by omega) h60
  by_cases h120 : t < 180
  · exact all_part 120 60 wt_120 t (by omega) h120
  by_cases h180 : t < 240
  · exact all_part 180 60 wt_180 t (by omega) h180
  by_cases h240 : t < 300
  · exact all_part 240 60 wt_240 t (by omega) h240
  by_cases h300 : t < 360
  · exact all_part 300 60 wt_300 t (by omega) h300
  by_cases h360 : t < 420
  · exact all_part 360 60 wt_360 t (by omega) h360
  by_cases h420 : t < 480
  · exact all_part 420 60 wt_420 t (by omega) h420
  by_cases h480 : t < 540
  · exact all_part 480 60 wt_480 t (by omega) h480
  by_cases h540 : t < 600
  · exact all_part 540 60 wt_540 t (by omega) h540
  by_cases h600 : t < 660
  · exact all_part 600 60 wt_600 t (by omega) h600
  by_cases h660 : t < 718
  · exact all_part 660 58 wt_660 t (by omega) h660
  exact absurd ht (by omega)
theorem wt_all (i : Nat) : (Tryz.prog.funcs[i]?).elim [] Tryz.prog.leadsTo = wtL.getD i [] := by
  by_cases h : i < 718
  · exact of_decide_eq_true (by have := wt_ i h; unfold wtB at this; simpa using this)
  · rw [Array.getElem?_eq_none (by rw [wa_fsize]; omega), List.getD_eq_getElem?_getD, List.getElem?_eq_none (by rw [show wtL.length = 718 by decide +kernel]; omega)]; rfl
def clT (T : List (List Nat)) : (fuel : Nat) → (todo seen : List Nat) → List Nat
  | 0, _, seen => seen.reverse
  | _, [], seen => seen.reverse
  | n + 1, f :: todo, seen => if seen.contains f then clT T n todo seen else clT T n (T.getD f [] ++ todo) (f :: seen)
theorem clT_eq {P : Program} {T : List (List Nat)} (h : ∀ i : Nat, (P.funcs[i]?).elim [] P.leadsTo = T.getD i []) : ∀ (n : Nat) (todo seen : List FuncId), P.closureVia n todo seen = clT T n todo seen
  | 0, _, _ => by rw [Program.closureVia, clT]
  | n + 1, [], _ => by simp only [Program.closureVia, clT]
  | n + 1, f :: todo, seen => by
    rw [Program.closureVia, clT, clT_eq h n, clT_eq h n, h f]
theorem fuelT {P : Program} {T : List (List Nat)} (hs : P.funcs.size = T.length) (h : ∀ i : Nat, (P.funcs[i]?).elim [] P.leadsTo = T.getD i []) : (P.funcs.toList.map fun g => (P.leadsTo g).length + 1) = T.map fun l => l.length + 1 := by
  refine List.ext_getElem (by simpa using hs) fun i h1 h2 => ?_
  have h1' : i < P.funcs.size := by simpa using h1
  have h2' : i < T.length := by simpa using h2
  have := h i
  rw [Array.getElem?_eq_getElem h1', List.getD_eq_getElem?_getD, List.getElem?_eq_getElem h2'] at this
  simp only [List.getElem_map, Array.getElem_toList]
  rw [show P.leadsTo P.funcs[i] = T[i] from this]
def wtC : List Nat := [3, 4, 8, 28, 42, 76, 77, 29, 43, 44, 9, 10, 30, 45, 78, 79, 110, 46, 11, 5, 12, 31, 47, 32, 13, 33, 14, 34, 48, 80, 81, 111, 15, 6, 16, 35, 17, 36, 18, 19, 20, 21, 37, 38, 22, 23, 7, 25, 26, 24, 27, 39, 49, 50, 51, 52, 82, 83, 84, 53, 54, 55, 56, 57, 40, 58, 85, 86, 87, 59, 88, 112, 143, 195, 196, 251, 328, 329, 252, 330, 253, 331, 410, 492, 332, 342, 197, 254, 255, 201, 257, 267, 256, 149, 206, 262, 263, 338, 339, 207, 264, 340, 208, 209, 265, 266, 341, 333, 230, 167, 268, 270, 269, 334, 411, 413, 412, 493, 168, 567, 568, 616, 425, 335, 336, 337, 414, 494, 210, 258, 211, 259, 248, 212, 213, 271, 150, 113, 114, 115, 117, 118, 152, 214, 147, 272, 343, 415, 349, 344, 345, 215, 276, 277, 278, 350, 351, 279, 280, 281, 273, 347, 424, 346, 416, 417, 495, 418, 496, 497, 419, 498, 499, 569, 420, 421, 422, 423, 274, 275, 348, 153, 216, 146, 282, 116, 151, 89, 41, 60, 90, 91, 119, 154, 217, 283, 155, 156, 157, 121, 120, 158, 159, 160, 218, 284, 352, 426, 122, 61, 92, 123, 161, 219, 220, 285, 353, 354, 427, 500, 507, 501, 502, 570, 617, 618, 659, 619, 620, 660, 661, 686, 621, 622, 623, 624, 503, 405, 355, 428, 504, 356, 429, 430, 506, 505, 571, 357, 431, 508, 366, 447, 519, 525, 520, 586, 521, 522, 587, 588, 645, 523, 524, 526, 527, 432, 509, 572, 286, 358, 433, 287, 288, 359, 434, 510, 573, 360, 435, 436, 511, 574, 575, 625, 576, 577, 626, 627, 662, 578, 579, 580, 581, 437, 438, 512, 361, 439, 440, 513, 582, 628, 629, 663, 630, 631, 664, 665, 687, 632, 633, 634, 635, 514, 441, 442, 486, 515, 516, 583, 636, 637, 666, 638, 639, 667, 668, 688, 640, 641, 642, 643, 517, 518, 362, 584, 644, 669, 670, 689, 671, 672, 690, 691, 695, 673, 674, 675, 676, 585, 365, 221, 227, 296, 222, 289, 290, 367, 327, 408, 409, 293, 363, 443, 444, 446, 445, 364, 162, 223, 224, 225, 291, 292, 294, 295, 226, 297, 368, 163, 228, 298, 299, 369, 370, 448, 528, 250, 326, 407, 406, 491, 590, 647, 589, 646, 325, 402, 403, 490, 559, 560, 613, 561, 562, 614, 615, 658, 563, 564, 565, 566, 404, 449, 529, 591, 648, 677, 678, 649, 650, 679, 692, 694, 693, 680, 681, 682, 683, 592, 651, 684, 653, 652, 451, 371, 372, 300, 302, 380, 381, 379, 450, 452, 530, 472, 531, 593, 532, 594, 533, 373, 453, 534, 536, 538, 596, 595, 454, 535, 455, 537, 456, 374, 457, 375, 458, 460, 459, 461, 539, 597, 598, 654, 599, 600, 655, 656, 685, 601, 602, 603, 604, 462, 376, 463, 540, 541, 605, 544, 606, 546, 609, 657, 542, 543, 607, 377, 464, 465, 378, 471, 545, 608, 466, 467, 470, 468, 547, 548, 549, 469, 550, 229, 301, 303, 304, 383, 473, 474, 551, 478, 480, 553, 479, 556, 610, 477, 555, 382, 475, 552, 476, 554, 384, 481, 482, 557, 611, 558, 612, 305, 385, 483, 386, 388, 387, 484, 124, 164, 231, 165, 232, 166, 233, 307, 306, 234, 308, 309, 389, 310, 390, 485, 235, 311, 236, 237, 238, 125, 126, 93, 127, 128, 94, 129, 169, 130, 62, 95, 131, 132, 170, 172, 96, 63, 97, 100, 133, 98, 134, 171, 173, 239, 312, 242, 317, 391, 392, 393, 487, 174, 99, 135, 175, 240, 313, 176, 136, 177, 241, 314, 394, 395, 488, 315, 396, 316, 178, 180, 243, 318, 181, 179, 64, 66, 65, 67, 68, 101, 137, 69, 102, 138, 182, 183, 184, 244, 140, 139, 185, 245, 319, 397, 398, 489, 399, 186, 187, 198, 200, 188, 246, 320, 321, 247, 322, 400, 401, 323, 141, 189, 190, 194, 191, 192, 249, 324, 193, 70, 103, 104, 142, 71, 72, 73, 106, 105, 144, 145, 199, 74, 107, 108, 148, 202, 203, 204, 205, 260, 261, 75, 109]
theorem wt_c : Tryz.prog.closure 3 = wtC := by
  unfold Program.closure
  rw [fuelT (by rw [wa_fsize]; decide +kernel) wt_all, clT_eq wt_all]
  decide +kernel
def wiF (i : Nat) : Option String := match ([(0, "main.main"), (1, "gosem.cut"), (317, "internal/bytealg.IndexByteString"), (391, "internal/bytealg.IndexString"), (396, "internal/bytealg.CountString"), (696, "(runtime.boundsError).Error"), (697, "(runtime.boundsError).RuntimeError"), (698, "(runtime.errorString).Error"), (699, "(runtime.errorString).RuntimeError"), (700, "(runtime.plainError).Error"), (701, "(runtime.plainError).RuntimeError"), (702, "(runtime.errorAddressString).Error"), (703, "(runtime.errorAddressString).RuntimeError"), (704, "(*runtime.TypeAssertionError).Error"), (705, "(*runtime.TypeAssertionError).RuntimeError"), (706, "(*runtime.PanicNilError).Error"), (707, "(*runtime.PanicNilError).RuntimeError"), (708, "(*internal/abi.Type).Align"), (709, "(internal/runtime/maps.unhashableTypeError).Error"), (710, "(internal/runtime/maps.unhashableTypeError).RuntimeError"), (711, "(*errors.errorString).Error"), (712, "(internal/abi.Kind).String"), (713, "var's door: gosem.cut.vars holds initialisers alone; see the manifest's row cutvarsword (look 11, test files too)"), (714, "var's door: the look of gosem.cut.vars went over the folder that the caller named as the repository's root (look 11)"), (715, "var's door: unicode/utf8.acceptRanges is laid by its own initialiser, plain data (look 11)"), (716, "var's door: unicode/utf8.first is laid by its text alone (pinned 1)")] : List (Nat × String)).lookup i with | some x => some x | none => none
noncomputable def wiB (i : Nat) : Bool := ((Tryz.prog.funcs[i]?).bind fun fn => if fn.ours || fn.body.isNone || fn.name == "runtime.NumGoroutine" then some fn.name else none) == wiF i
theorem wi_0 : ((List.range 60).all fun i => wiB (0 + i)) = true := by kernel_rfl
theorem wi_60 : ((List.range 60).all fun i => wiB (60 + i)) = true := by kernel_rfl
theorem wi_120 : ((List.range 60).all fun i => wiB (120 + i)) = true := by kernel_rfl
theorem wi_180 : ((List.range 60).all fun i => wiB (180 + i)) = true := by kernel_rfl
theorem wi_240 : ((List.range 60).all fun i => wiB (240 + i)) = true := by kernel_rfl
theorem wi_300 : ((List.range 60).all fun i => wiB (300 + i)) = true := by kernel_rfl
theorem wi_360 : ((List.range 60).all fun i => wiB (360 + i)) = true := by kernel_rfl
theorem wi_420 : ((List.range 60).all fun i => wiB (420 + i)) = true := by kernel_rfl
theorem wi_480 : ((List.range 60).all fun i => wiB (480 + i)) = true := by kernel_rfl
theorem wi_540 : ((List.range 60).all fun i => wiB (540 + i)) = true := by kernel_rfl
theorem wi_600 : ((List.range 60).all fun i => wiB (600 + i)) = true := by kernel_rfl
theorem wi_660 : ((List.range 58).all fun i => wiB (660 + i)) = true := by kernel_rfl
theorem wi_ (t : Nat) (ht : t < 718) : wiB t = true := by
  by_cases h0 : t < 60
  · exact all_part 0 60 wi_0 t (by omega) h0
  by_cases h60 : t < 120
  · exact all_part 60 60 wi_60 t (by omega) h60
  by_cases h120 : t < 180
  · exact all_part 120 60 wi_120 t (by omega) h120
  by_cases h180 : t < 240
  · exact all_part 180 60 wi_180 t (by omega) h180
  by_cases h240 : t < 300
  · exact all_part 240 60 wi_240 t (by omega) h240
  by_cases h300 : t < 360
  · exact all_part 300 60 wi_300 t (by omega) h300
  by_cases h360 : t < 420
  · exact all_part 360 60 wi_360 t (by omega) h360
  by_cases h420 : t < 480
  · exact all_part 420 60 wi_420 t (by omega) h420
  by_cases h480 : t < 540
  · exact all_part 480 60 wi_480 t (by omega) h480
  by_cases h540 : t < 600
  · exact all_part 540 60 wi_540 t (by omega) h540
  by_cases h600 : t < 660
  · exact all_part 600 60 wi_600 t (by omega) h600
  by_cases h660 : t < 718
  · exact all_part 660 58 wi_660 t (by omega) h660
  exact absurd ht (by omega)
theorem wi_all (i : Nat) (h : i < 718) : ((Tryz.prog.funcs[i]?).bind fun fn => if fn.ours || fn.body.isNone || fn.name == "runtime.NumGoroutine" then some fn.name else none) = wiF i := by
  have := wi_ i h; unfold wiB at this; simpa using this
def wgF (i : Nat) : List Nat := match ([(312, [0, 0, 0]), (488, [1, 2]), (568, [3, 4]), (717, [2])] : List (Nat × List Nat)).lookup i with | some x => x | none => []
noncomputable def wgB (i : Nat) : Bool := (((Tryz.prog.funcs[i]?).bind (·.body)).elim [] Code.globalsNamed) == wgF i
theorem wg_0 : ((List.range 60).all fun i => wgB (0 + i)) = true := by kernel_rfl
theorem wg_60 : ((List.range 60).all fun i => wgB (60 + i)) = true := by kernel_rfl
theorem wg_120 : ((List.range 60).all fun i => wgB (120 + i)) = true := by kernel_rfl
theorem wg_180 : ((List.range 60).all fun i => wgB (180 + i)) = true := by kernel_rfl
theorem wg_240 : ((List.range 60).all fun i => wgB (240 + i)) = true := by kernel_rfl
theorem wg_300 : ((List.range 60).all fun i => wgB (300 + i)) = true := by kernel_rfl
theorem wg_360 : ((List.range 60).all fun i => wgB (360 + i)) = true := by kernel_rfl
theorem wg_420 : ((List.range 60).all fun i => wgB (420 + i)) = true := by kernel_rfl
theorem wg_480 : ((List.range 60).all fun i => wgB (480 + i)) = true := by kernel_rfl
theorem wg_540 : ((List.range 60).all fun i => wgB (540 + i)) = true := by kernel_rfl
theorem wg_600 : ((List.range 60).all fun i => wgB (600 + i)) = true := by kernel_rfl
theorem wg_660 : ((List.range 58).all fun i => wgB (660 + i)) = true := by kernel_rfl
theorem wg_ (t : Nat) (ht : t < 718) : wgB t = true := by
  by_cases h0 : t < 60
  · exact all_part 0 60 wg_0 t (by omega) h0
  by_cases h60 : t < 120
  · exact all_part 60 60 wg_60 t (by omega) h60
  by_cases h120 : t < 180
  · exact all_part 120 60 wg_120 t (by omega) h120
  by_cases h180 : t < 240
  · exact all_part 180 60 wg_180 t (by omega) h180
  by_cases h240 : t < 300
  · exact all_part 240 60 wg_240 t (by omega) h240
  by_cases h300 : t < 360
  · exact all_part 300 60 wg_300 t (by omega) h300
  by_cases h360 : t < 420
  · exact all_part 360 60 wg_360 t (by omega) h360
  by_cases h420 : t < 480
  · exact all_part 420 60 wg_420 t (by omega) h420
  by_cases h480 : t < 540
  · exact all_part 480 60 wg_480 t (by omega) h480
  by_cases h540 : t < 600
  · exact all_part 540 60 wg_540 t (by omega) h540
  by_cases h600 : t < 660
  · exact all_part 600 60 wg_600 t (by omega) h600
  by_cases h660 : t < 718
  · exact all_part 660 58 wg_660 t (by omega) h660
  exact absurd ht (by omega)
theorem wg_all (i : Nat) (h : i < 718) : (((Tryz.prog.funcs[i]?).bind (·.body)).elim [] Code.globalsNamed) = wgF i := by
  have := wg_ i h; unfold wgB at this; simpa using this
def weF (i : Nat) : Option String := match ([(391, "internal/bytealg.MaxLen")] : List (Nat × String)).lookup i with | some x => some x | none => none
noncomputable def weB (i : Nat) : Bool := ((Tryz.prog.funcs[i]?).bind fun fn => if fn.body.isNone then entryReads.lookup fn.name else none) == weF i
theorem we_0 : ((List.range 60).all fun i => weB (0 + i)) = true := by kernel_rfl
theorem we_60 : ((List.range 60).all fun i => weB (60 + i)) = true := by kernel_rfl
theorem we_120 : ((List.range 60).all fun i => weB (120 + i)) = true := by kernel_rfl
theorem we_180 : ((List.range 60).all fun i => weB (180 + i)) = true := by kernel_rfl
theorem we_240 : ((List.range 60).all fun i => weB (240 + i)) = true := by kernel_rfl
theorem we_300 : ((List.range 60).all fun i => weB (300 + i)) = true := by kernel_rfl
theorem we_360 : ((List.range 60).all fun i => weB (360 + i)) = true := by kernel_rfl
theorem we_420 : ((List.range 60).all fun i => weB (420 + i)) = true := by kernel_rfl
theorem we_480 : ((List.range 60).all fun i => weB (480 + i)) = true := by kernel_rfl
theorem we_540 : ((List.range 60).all fun i => weB (540 + i)) = true := by kernel_rfl
theorem we_600 : ((List.range 60).all fun i => weB (600 + i)) = true := by kernel_rfl
theorem we_660 : ((List.range 58).all fun i => weB (660 + i)) = true := by kernel_rfl
theorem we_ (t : Nat) (ht : t < 718) : weB t = true := by
  by_cases h0 : t < 60
  · exact all_part 0 60 we_0 t (by omega) h0
  by_cases h60 : t < 120
  · exact all_part 60 60 we_60 t (by omega) h60
  by_cases h120 : t < 180
  · exact all_part 120 60 we_120 t (by omega) h120
  by_cases h180 : t < 240
  · exact all_part 180 60 we_180 t (by omega) h180
  by_cases h240 : t < 300
  · exact all_part 240 60 we_240 t (by omega) h240
  by_cases h300 : t < 360
  · exact all_part 300 60 we_300 t (by omega) h300
  by_cases h360 : t < 420
  · exact all_part 360 60 we_360 t (by omega) h360
  by_cases h420 : t < 480
  · exact all_part 420 60 we_420 t (by omega) h420
  by_cases h480 : t < 540
  · exact all_part 480 60 we_480 t (by omega) h480
  by_cases h540 : t < 600
  · exact all_part 540 60 we_540 t (by omega) h540
  by_cases h600 : t < 660
  · exact all_part 600 60 we_600 t (by omega) h600
  by_cases h660 : t < 718
  · exact all_part 660 58 we_660 t (by omega) h660
  exact absurd ht (by omega)
theorem we_all (i : Nat) (h : i < 718) : ((Tryz.prog.funcs[i]?).bind fun fn => if fn.body.isNone then entryReads.lookup fn.name else none) = weF i := by
  have := we_ i h; unfold weB at this; simpa using this
theorem wt_lt : ∀ g ∈ wtC, g < 718 := by
  have : (wtC.all fun g => decide (g < 718)) = true := by decide +kernel
  exact fun g hg => of_decide_eq_true (List.all_eq_true.1 this g hg)
theorem fm_congr {α β : Type} {l : List α} {p q : α → Option β} (h : ∀ x ∈ l, p x = q x) : l.filterMap p = l.filterMap q := by
  induction l with
  | nil => rfl
  | cons a l ih => rw [List.filterMap_cons, List.filterMap_cons, h a (List.mem_cons_self ..), ih fun x hx => h x (List.mem_cons_of_mem _ hx)]
theorem flm_congr {α β : Type} {l : List α} {p q : α → List β} (h : ∀ x ∈ l, p x = q x) : l.flatMap p = l.flatMap q := by
  induction l with
  | nil => rfl
  | cons a l ih => rw [List.flatMap_cons, List.flatMap_cons, h a (List.mem_cons_self ..), ih fun x hx => h x (List.mem_cons_of_mem _ hx)]
theorem printerNews_inPlace : (Rows.printerNewsRow.inPlace == Tryz.prog.inPlace 3) = true := by
  unfold Program.inPlace; rw [wt_c, fm_congr fun g hg => wi_all g (wt_lt g hg)]; decide +kernel
theorem wt_uf : Tryz.prog.unfollowed 3 = true := by
  unfold Program.unfollowed; rw [wt_c]
  exact List.any_eq_true.2 ⟨112, by decide +kernel, by kernel_rfl⟩
theorem printerNews_unfollowed : (Rows.printerNewsRow.unfollowed == Tryz.prog.unfollowed 3) = true := by rw [wt_uf]; rfl
theorem printerNews_recurses : (Rows.printerNewsRow.recurses == Tryz.prog.recurses 3) = true := by unfold Program.recurses; rw [wt_uf]; rfl
theorem printerNews_named : (Rows.printerNewsRow.named == Tryz.prog.varsNamed 3) = true := by
  unfold Program.varsNamed; rw [wt_c, flm_congr fun g hg => wg_all g (wt_lt g hg), fm_congr fun g hg => we_all g (wt_lt g hg)]; kernel_rfl
noncomputable def wnB (i : Nat) : Bool := !((Tryz.prog.funcs[i]?).any Func.goes)
theorem wn_0 : ((List.range 60).all fun i => wnB (0 + i)) = true := by kernel_rfl
theorem wn_60 : ((List.range 60).all fun i => wnB (60 + i)) = true := by kernel_rfl
theorem wn_120 : ((List.range 60).all fun i => wnB (120 + i)) = true := by kernel_rfl
theorem wn_180 : ((List.range 60).all fun i => wnB (180 + i)) = true := by kernel_rfl
theorem wn_240 : ((List.range 60).all fun i => wnB (240 + i)) = true := by kernel_rfl
theorem wn_300 : ((List.range 60).all fun i => wnB (300 + i)) = true := by kernel_rfl
theorem wn_360 : ((List.range 60).all fun i => wnB (360 + i)) = true := by kernel_rfl
theorem wn_420 : ((List.range 60).all fun i => wnB (420 + i)) = true := by kernel_rfl
theorem wn_480 : ((List.range 60).all fun i => wnB (480 + i)) = true := by kernel_rfl
theorem wn_540 : ((List.range 60).all fun i => wnB (540 + i)) = true := by kernel_rfl
theorem wn_600 : ((List.range 60).all fun i => wnB (600 + i)) = true := by kernel_rfl
theorem wn_660 : ((List.range 58).all fun i => wnB (660 + i)) = true := by kernel_rfl
theorem wn_ (t : Nat) (ht : t < 718) : wnB t = true := by
  by_cases h0 : t < 60
  · exact all_part 0 60 wn_0 t (by omega) h0
  by_cases h60 : t < 120
  · exact all_part 60 60 wn_60 t (by omega) h60
  by_cases h120 : t < 180
  · exact all_part 120 60 wn_120 t (by omega) h120
  by_cases h180 : t < 240
  · exact all_part 180 60 wn_180 t (by omega) h180
  by_cases h240 : t < 300
  · exact all_part 240 60 wn_240 t (by omega) h240
  by_cases h300 : t < 360
  · exact all_part 300 60 wn_300 t (by omega) h300
  by_cases h360 : t < 420
  · exact all_part 360 60 wn_360 t (by omega) h360
  by_cases h420 : t < 480
  · exact all_part 420 60 wn_420 t (by omega) h420
  by_cases h480 : t < 540
  · exact all_part 480 60 wn_480 t (by omega) h480
  by_cases h540 : t < 600
  · exact all_part 540 60 wn_540 t (by omega) h540
  by_cases h600 : t < 660
  · exact all_part 600 60 wn_600 t (by omega) h600
  by_cases h660 : t < 718
  · exact all_part 660 58 wn_660 t (by omega) h660
  exact absurd ht (by omega)
theorem wn_all (i : Nat) : (Tryz.prog.funcs[i]?).any Func.goes = false := by
  by_cases h : i < 718
  · have := wn_ i h; unfold wnB at this; simpa using this
  · rw [Array.getElem?_eq_none (by rw [wa_fsize]; omega)]; rfl
theorem wn_funcs : Tryz.prog.funcs.any Func.goes = false := by
  rw [Array.any_eq_false]
  intro i hi h
  have := wn_all i
  rw [Array.getElem?_eq_getElem hi, Option.any_some, h] at this
  cases this
theorem wn_goes (f : FuncId) : Tryz.prog.goes f = false := by
  unfold Program.goes
  rw [wn_funcs, Bool.and_false, Bool.or_false]
  exact List.any_eq_false.2 fun g _ => by rw [wn_all g]; exact Bool.false_ne_true
theorem printerNews_goes : false = Rows.printerNewsRow.goesBy Tryz.prog := by
  unfold OpenClaim.goesBy Program.goesAt Program.goesFrom
  rw [show Rows.printerNewsRow.start = .entering from rfl, Bool.or_false]
  cases h : Tryz.prog.funcNamed Rows.printerNewsRow.func with
  | none => rfl
  | some f => rw [Option.any_some, wn_goes f]

theorem printerNews_closed : joinedFacts Tryz.prog 3 Tryz.f3 Rows.printerNewsSpec Rows.printerNewsRow = true :=
  joined_of (by kernel_rfl) wa_laid wa_maps (by kernel_rfl) (by kernel_rfl) (by kernel_rfl) wa_stops (by kernel_rfl) wa_knobs printerNews_inPlace printerNews_unfollowed printerNews_recurses printerNews_named (by kernel_rfl) (by kernel_rfl) (by kernel_rfl) (by kernel_rfl) (by kernel_rfl) (by kernel_rfl) (by kernel_rfl) (by kernel_rfl) (by kernel_rfl) wa_keys (by kernel_rfl) wa_heard wa_enter wa_lifted wa_make (by kernel_rfl) (by kernel_rfl) (by kernel_rfl) (by kernel_rfl) (by kernel_rfl)

end Go.Proofs.YthhncpfcimmnjaaGreatDoor
