/- What the row asks of the program, out of the table. -/
import Derived.Test.YtojknjmcmadhcaaGreatDoorDa

section
namespace Go.Proofs.R50.F

def tabs : List (List Row) := [t0, t1, t2, t3, t4, t5, t6, t7, t8, t9, t10, t11, t12, t13, t14, t15, t16, t17, t18, t19, t20, t21, t22, t23, t24, t25, t26, t27, t28, t29, t30, t31, t32, t33, t34, t35, t36, t37, t38, t39, t40]
theorem chunk : ∀ j, j < 41 → tabs.getD j [] = (List.range' (20 * j) (min 20 (814 - 20 * j))).map (item Tryz.prog)
 | 0, _ => k0.symm
 | 1, _ => k1.symm
 | 2, _ => k2.symm
 | 3, _ => k3.symm
 | 4, _ => k4.symm
 | 5, _ => k5.symm
 | 6, _ => k6.symm
 | 7, _ => k7.symm
 | 8, _ => k8.symm
 | 9, _ => k9.symm
 | 10, _ => k10.symm
 | 11, _ => k11.symm
 | 12, _ => k12.symm
 | 13, _ => k13.symm
 | 14, _ => k14.symm
 | 15, _ => k15.symm
 | 16, _ => k16.symm
 | 17, _ => k17.symm
 | 18, _ => k18.symm
 | 19, _ => k19.symm
 | 20, _ => k20.symm
 | 21, _ => k21.symm
 | 22, _ => k22.symm
 | 23, _ => k23.symm
 | 24, _ => k24.symm
 | 25, _ => k25.symm
 | 26, _ => k26.symm
 | 27, _ => k27.symm
 | 28, _ => k28.symm
 | 29, _ => k29.symm
 | 30, _ => k30.symm
 | 31, _ => k31.symm
 | 32, _ => k32.symm
 | 33, _ => k33.symm
 | 34, _ => k34.symm
 | 35, _ => k35.symm
 | 36, _ => k36.symm
 | 37, _ => k37.symm
 | 38, _ => k38.symm
 | 39, _ => k39.symm
 | 40, _ => k40.symm
 | n + 41, h => absurd h (by omega)
def row (g : Nat) : Row := (tabs.getD (g / 20) []).getD (g % 20) ([], none, [], none)
theorem row_eq (g : Nat) : item Tryz.prog g = row g := by
 by_cases h : g < 814
 ·unfold row
  rw [chunk (g / 20) (by omega), List.getD, List.getElem?_map, List.getElem?_range' (by omega)]
  show _ = item Tryz.prog (20 * (g / 20) + 1 * (g % 20))
  rw [Nat.one_mul, Nat.div_add_mod]
 ·have e : Tryz.prog.funcs[g]? = none := Array.getElem?_eq_none (by rw [nfuncs]; omega)
  have e2 : row g = ([], none, [], none) := by
   unfold row
   by_cases h2 : g / 20 < 41
   ·rw [chunk (g / 20) h2, List.getD, List.getElem?_eq_none]
    ·rfl
    ·rw [List.length_map, List.length_range']
     omega
   ·have e3 : tabs.getD (g / 20) [] = [] := by
     rw [List.getD, List.getElem?_eq_none]
     ·rfl
     ·show 41 ≤ _
      omega
    rw [e3]
    rfl
  rw [e2]
  unfold item
  rw [e]
  rfl
theorem row_leads (g : Nat) : (Tryz.prog.funcs[g]?).elim [] Tryz.prog.leadsTo = (row g).1 := by
 have h := row_eq g
 unfold item at h
 rw [← h]
theorem row_name (g : Nat) : ((Tryz.prog.funcs[g]?).bind fun fn => if fn.ours || fn.body.isNone || fn.name == "runtime.NumGoroutine" then some fn.name else none) = (row g).2.1 := by
 have h := row_eq g
 unfold item at h
 rw [← h]
theorem row_globals (g : Nat) : ((Tryz.prog.funcs[g]?).bind (·.body)).elim [] Code.globalsNamed = (row g).2.2.1 := by
 have h := row_eq g
 unfold item at h
 rw [← h]
theorem row_reads (g : Nat) : ((Tryz.prog.funcs[g]?).bind fun fn => if fn.body.isNone then entryReads.lookup fn.name else none) = (row g).2.2.2 := by
 have h := row_eq g
 unfold item at h
 rw [← h]
/-- The walk over what functions lead to; the seen ones are marked in a number. -/
def walk : Nat → List Nat → Nat → List Nat → List Nat
 | 0, _, _, seen => seen.reverse
 | _ + 1, [], _, seen => seen.reverse
 | n + 1, f :: todo, m, seen => bif Nat.testBit m f then walk n todo m seen else walk n ((row f).1 ++ todo) (m ||| 1 <<< f) (f :: seen)
theorem walk_eq : ∀ (n : Nat) (todo : List Nat) (m : Nat) (seen : List Nat), (∀ x, Nat.testBit m x = seen.contains x) → Tryz.prog.closureVia n todo seen = walk n todo m seen
 | 0, _, _, _, _ => by rw [Program.closureVia, walk]
 | n + 1, [], _, _, _ => by rw [Program.closureVia, walk]; simp
 | n + 1, f :: todo, m, seen, h => by
  rw [Program.closureVia, walk, h f, row_leads]
  cases hc : seen.contains f with
  | true => rw [if_pos rfl]; exact walk_eq n todo m seen h
  | false =>
   rw [if_neg (by decide)]
   refine walk_eq n _ _ _ fun x => ?_
   rw [Nat.testBit_or, h x, List.contains_cons, Nat.one_shiftLeft, Nat.testBit_two_pow, Bool.or_comm]
   congr 1
   by_cases e : f = x
   ·subst e; simp
   ·simp [e, Ne.symm e]
theorem sum_eq : (Tryz.prog.funcs.toList.map fun g => (Tryz.prog.leadsTo g).length + 1) = (List.range 814).map fun k => (row k).1.length + 1 := by
 apply List.ext_getElem
 ·rw [List.length_map, List.length_map, List.length_range, Array.length_toList, nfuncs]
 ·intro i h1 h2
  rw [List.getElem_map, List.getElem_map, List.getElem_range, ← row_leads]
  have h3 : i < Tryz.prog.funcs.size := by rw [List.length_map, Array.length_toList] at h1; exact h1
  rw [Array.getElem?_eq_getElem h3]
  rfl
set_option maxRecDepth 100000 in
theorem sum_val : ((List.range 814).map fun k => (row k).1.length + 1).sum = 2400 := by kernel_rfl
theorem closure_eq (f : FuncId) : Tryz.prog.closure f = walk 2401 [f] 0 [] := by
 unfold Program.closure
 rw [sum_eq, sum_val]
 exact walk_eq _ _ _ _ fun x => by rw [Nat.zero_testBit]; rfl
def cl : List Nat := [4, 5, 14, 6, 15, 29, 45, 62, 63, 84, 46, 64, 47, 65, 85, 135, 86, 87, 88, 136, 16, 30, 48, 31, 32, 49, 66, 89, 33, 50, 67, 19, 51, 34, 28, 41, 54, 55, 70, 90, 138, 229, 230, 137, 220, 226, 343, 221, 338, 222, 339, 340, 223, 341, 342, 466, 224, 225, 227, 228, 71, 91, 94, 139, 142, 141, 42, 57, 72, 92, 93, 140, 56, 58, 73, 76, 101, 74, 96, 152, 151, 232, 233, 345, 467, 102, 153, 154, 234, 310, 324, 439, 178, 143, 95, 541, 440, 441, 520, 542, 543, 630, 425, 544, 482, 545, 546, 547, 548, 549, 550, 551, 631, 633, 632, 311, 443, 444, 445, 446, 447, 553, 554, 448, 555, 556, 634, 635, 636, 557, 637, 684, 349, 638, 639, 235, 558, 442, 552, 449, 559, 560, 640, 641, 312, 319, 323, 455, 572, 645, 644, 646, 573, 574, 575, 647, 453, 563, 562, 321, 199, 298, 423, 424, 454, 565, 564, 567, 566, 569, 568, 571, 643, 686, 570, 206, 309, 436, 284, 406, 503, 347, 606, 661, 662, 663, 407, 504, 410, 607, 505, 408, 161, 242, 351, 409, 287, 414, 509, 383, 485, 610, 183, 281, 402, 403, 404, 401, 411, 508, 417, 517, 617, 514, 616, 618, 672, 619, 620, 673, 674, 695, 621, 622, 623, 624, 418, 510, 611, 666, 613, 583, 667, 511, 612, 198, 246, 354, 512, 614, 668, 669, 693, 694, 708, 294, 576, 507, 713, 715, 513, 615, 670, 671, 289, 415, 515, 506, 608, 457, 664, 665, 609, 267, 286, 413, 412, 285, 437, 537, 629, 676, 677, 696, 678, 679, 697, 698, 709, 680, 681, 682, 683, 538, 540, 539, 438, 186, 325, 456, 236, 346, 348, 468, 469, 582, 422, 129, 208, 119, 155, 205, 303, 304, 426, 243, 427, 521, 625, 428, 522, 626, 470, 352, 430, 523, 524, 429, 525, 627, 305, 306, 164, 252, 253, 254, 360, 361, 473, 586, 308, 207, 313, 450, 314, 451, 452, 561, 642, 685, 483, 590, 591, 592, 435, 536, 307, 431, 433, 528, 530, 529, 363, 531, 290, 416, 516, 166, 532, 533, 162, 244, 353, 245, 247, 355, 471, 584, 356, 527, 432, 526, 462, 326, 434, 534, 535, 628, 675, 103, 156, 160, 157, 237, 238, 239, 350, 240, 241, 20, 104, 158, 159, 105, 106, 163, 248, 249, 357, 297, 250, 251, 358, 359, 472, 585, 165, 255, 362, 364, 300, 107, 167, 108, 168, 256, 365, 366, 260, 367, 368, 369, 257, 258, 259, 370, 169, 262, 261, 371, 263, 372, 373, 376, 374, 375, 475, 474, 377, 476, 477, 587, 653, 170, 264, 171, 266, 380, 484, 593, 594, 654, 689, 381, 382, 265, 378, 478, 479, 588, 480, 589, 379, 481, 172, 268, 384, 486, 385, 487, 386, 489, 488, 387, 388, 490, 595, 596, 655, 690, 173, 269, 389, 270, 174, 271, 273, 274, 390, 491, 392, 492, 391, 272, 175, 275, 276, 176, 277, 393, 493, 494, 394, 295, 201, 301, 420, 302, 395, 495, 396, 496, 597, 656, 691, 699, 700, 710, 701, 702, 711, 712, 714, 703, 704, 705, 706, 657, 658, 692, 707, 598, 397, 497, 599, 177, 278, 398, 399, 498, 500, 602, 660, 501, 603, 604, 502, 605, 499, 600, 659, 601, 75, 97, 145, 144, 146, 147, 98, 148, 99, 100, 149, 150, 231, 344, 43, 59, 78, 77, 109, 110, 179, 279, 180, 181, 280, 400, 182, 111, 112, 184, 187, 185, 283, 282, 405, 188, 288, 192, 292, 296, 421, 518, 519, 291, 419, 189, 293, 191, 190, 113, 193, 194, 114, 195, 196, 79, 115, 122, 116, 117, 197, 118, 80, 120, 121, 200, 299, 202, 203, 81, 123, 60, 21, 35, 52, 68, 53, 69, 36, 37, 44, 61, 82, 124, 204, 83, 125, 132, 126, 127, 130, 209, 315, 330, 329, 316, 128, 131, 211, 210, 317, 320, 318, 322, 328, 459, 133, 212, 327, 458, 213, 134, 214, 331, 332, 460, 461, 577, 648, 215, 333, 218, 334, 335, 463, 336, 464, 216, 217, 219, 337, 465, 578, 579, 649, 650, 580, 581, 651, 652, 687, 688, 11, 9, 10, 18, 12, 22, 23, 13, 17, 24, 38, 25, 39, 26, 27, 40, 8]
set_option maxRecDepth 100000 in
theorem walk4 : walk 2401 [4] 0 [] = cl := by kernel_rfl
theorem clos : Tryz.prog.closure 4 = cl := (closure_eq 4).trans walk4
theorem inPlace_eq : Tryz.prog.inPlace 4 = cl.filterMap fun g => (row g).2.1 := by
 unfold Program.inPlace
 rw [clos]
 rw [funext row_name]
theorem vars_eq : Tryz.prog.varsNamed 4 = (((cl.flatMap fun g => (row g).2.2.1).eraseDups).filterMap (fun g => (Tryz.prog.globals[g]?).map (·.name)) ++ cl.filterMap fun g => (row g).2.2.2).eraseDups := by
 unfold Program.varsNamed
 rw [clos]
 rw [funext row_globals, funext row_reads]
theorem unf_at : ((Tryz.prog.funcs[14]?).any fun fn => match fn.body with | some c => c.unfollowed | none => entryCalls fn) = true := by kernel_rfl
set_option maxRecDepth 100000 in
theorem unf_mem : 14 ∈ cl := by decide +kernel
theorem unf_eq : Tryz.prog.unfollowed 4 = true := by
 unfold Program.unfollowed
 rw [clos]
 exact List.any_eq_true.2 ⟨14, unf_mem, unf_at⟩
theorem rec_eq : Tryz.prog.recurses 4 = true := by
 unfold Program.recurses
 rw [unf_eq]
 rfl
theorem r0 : (List.range' 0 40).all (rowFine Tryz.prog) = true := by kernel_rfl
theorem r1 : (List.range' 40 40).all (rowFine Tryz.prog) = true := by kernel_rfl
theorem r2 : (List.range' 80 40).all (rowFine Tryz.prog) = true := by kernel_rfl
theorem r3 : (List.range' 120 40).all (rowFine Tryz.prog) = true := by kernel_rfl
theorem r4 : (List.range' 160 40).all (rowFine Tryz.prog) = true := by kernel_rfl
theorem r5 : (List.range' 200 40).all (rowFine Tryz.prog) = true := by kernel_rfl
theorem r6 : (List.range' 240 40).all (rowFine Tryz.prog) = true := by kernel_rfl
theorem r7 : (List.range' 280 40).all (rowFine Tryz.prog) = true := by kernel_rfl
theorem r8 : (List.range' 320 40).all (rowFine Tryz.prog) = true := by kernel_rfl
theorem r9 : (List.range' 360 40).all (rowFine Tryz.prog) = true := by kernel_rfl
theorem r10 : (List.range' 400 40).all (rowFine Tryz.prog) = true := by kernel_rfl
theorem r11 : (List.range' 440 40).all (rowFine Tryz.prog) = true := by kernel_rfl
theorem r12 : (List.range' 480 40).all (rowFine Tryz.prog) = true := by kernel_rfl
theorem r13 : (List.range' 520 40).all (rowFine Tryz.prog) = true := by kernel_rfl
theorem r14 : (List.range' 560 40).all (rowFine Tryz.prog) = true := by kernel_rfl
theorem r15 : (List.range' 600 40).all (rowFine Tryz.prog) = true := by kernel_rfl
theorem r16 : (List.range' 640 40).all (rowFine Tryz.prog) = true := by kernel_rfl
theorem r17 : (List.range' 680 40).all (rowFine Tryz.prog) = true := by kernel_rfl
theorem r18 : (List.range' 720 40).all (rowFine Tryz.prog) = true := by kernel_rfl
theorem r19 : (List.range' 760 40).all (rowFine Tryz.prog) = true := by kernel_rfl
theorem r20 : (List.range' 800 40).all (rowFine Tryz.prog) = true := by kernel_rfl
theorem r21 : (List.range' 840 40).all (rowFine Tryz.prog) = true := by kernel_rfl
theorem rows : ∀ j, j < 22 → (List.range' (40 * j) 40).all (rowFine Tryz.prog) = true
 | 0, _ => r0
 | 1, _ => r1
 | 2, _ => r2
 | 3, _ => r3
 | 4, _ => r4
 | 5, _ => r5
 | 6, _ => r6
 | 7, _ => r7
 | 8, _ => r8
 | 9, _ => r9
 | 10, _ => r10
 | 11, _ => r11
 | 12, _ => r12
 | 13, _ => r13
 | 14, _ => r14
 | 15, _ => r15
 | 16, _ => r16
 | 17, _ => r17
 | 18, _ => r18
 | 19, _ => r19
 | 20, _ => r20
 | 21, _ => r21
 | n + 22, h => absurd h (by omega)
theorem ntypes : Tryz.prog.types.size = 866 := by kernel_rfl
theorem lay_globals : Tryz.prog.globals.all (fun g => decide (g.type < Tryz.prog.types.size)) = true := by kernel_rfl
theorem lay_funcs : Tryz.prog.funcs.all (fun f => f.params.all fun t => decide (t < Tryz.prog.types.size)) = true := by kernel_rfl
theorem laidOut : laidOutB Tryz.prog = true := by
 unfold laidOutB
 rw [lay_globals, lay_funcs, Bool.and_true, Bool.and_true, List.all_eq_true]
 intro t ht
 have ht' : t < 866 := by rw [← ntypes]; exact List.mem_range.1 ht
 refine List.all_eq_true.1 (rows (t / 40) (by omega)) t ?_
 rw [List.mem_range']
 exact ⟨t % 40, by omega, by omega⟩
end Go.Proofs.R50.F
end
