import Derived.Test.YtojgddnefopdjaaGreatDoorM6
namespace Go.Proofs.YtojgddnefopdjaaGreatDoor
set_option maxRecDepth 20000
theorem ev_32 (k : Option Bool) : newA 1 [33] (newA 2 [33, 50] (newA 3 [33, 50, 3] (newA 4 [33, 50, 3, 20] (newA 5 [33, 50, 3, 20, 37] (newA 6 [33, 50, 3, 20, 37, 54] k))))) = k := by kernel_rfl
theorem ev_33 (k : Option Bool) : newA 1 [34] (newA 2 [34, 51] (newA 3 [34, 51, 4] (newA 4 [34, 51, 4, 21] (newA 5 [34, 51, 4, 21, 38] (newA 6 [34, 51, 4, 21, 38, 55] k))))) = k := by kernel_rfl
theorem ev_34 (k : Option Bool) : newA 1 [35] (newA 2 [35, 52] (newA 3 [35, 52, 5] (newA 4 [35, 52, 5, 22] (newA 5 [35, 52, 5, 22, 39] (newA 6 [35, 52, 5, 22, 39, 56] k))))) = k := by kernel_rfl
theorem ev_35 (k : Option Bool) : newA 1 [36] (newA 2 [36, 53] (newA 3 [36, 53, 6] (newA 4 [36, 53, 6, 23] (newA 5 [36, 53, 6, 23, 40] (newA 6 [36, 53, 6, 23, 40, 57] k))))) = k := by kernel_rfl
theorem ev_36 (k : Option Bool) : newA 1 [37] (newA 2 [37, 54] (newA 3 [37, 54, 7] (newA 4 [37, 54, 7, 24] (newA 5 [37, 54, 7, 24, 41] (newA 6 [37, 54, 7, 24, 41, 58] k))))) = k := by kernel_rfl
theorem ev_37 (k : Option Bool) : newA 1 [38] (newA 2 [38, 55] (newA 3 [38, 55, 8] (newA 4 [38, 55, 8, 25] (newA 5 [38, 55, 8, 25, 42] (newA 6 [38, 55, 8, 25, 42, 59] k))))) = k := by kernel_rfl
theorem ev_38 (k : Option Bool) : newA 1 [39] (newA 2 [39, 56] (newA 3 [39, 56, 9] (newA 4 [39, 56, 9, 26] (newA 5 [39, 56, 9, 26, 43] (newA 6 [39, 56, 9, 26, 43, 60] k))))) = k := by kernel_rfl
theorem ev_39 (k : Option Bool) : newA 1 [40] (newA 2 [40, 57] (newA 3 [40, 57, 10] (newA 4 [40, 57, 10, 27] (newA 5 [40, 57, 10, 27, 44] (newA 6 [40, 57, 10, 27, 44, 61] k))))) = k := by kernel_rfl
theorem ev_40 (k : Option Bool) : newA 1 [41] (newA 2 [41, 58] (newA 3 [41, 58, 11] (newA 4 [41, 58, 11, 28] (newA 5 [41, 58, 11, 28, 45] (newA 6 [41, 58, 11, 28, 45, 62] k))))) = k := by kernel_rfl
theorem ev_41 (k : Option Bool) : newA 1 [42] (newA 2 [42, 59] (newA 3 [42, 59, 12] (newA 4 [42, 59, 12, 29] (newA 5 [42, 59, 12, 29, 46] (newA 6 [42, 59, 12, 29, 46, 63] k))))) = k := by kernel_rfl
theorem ev_42 (k : Option Bool) : newA 1 [43] (newA 2 [43, 60] (newA 3 [43, 60, 13] (newA 4 [43, 60, 13, 30] (newA 5 [43, 60, 13, 30, 47] (newA 6 [43, 60, 13, 30, 47, 64] k))))) = k := by kernel_rfl
theorem ev_43 (k : Option Bool) : newA 1 [44] (newA 2 [44, 61] (newA 3 [44, 61, 14] (newA 4 [44, 61, 14, 31] (newA 5 [44, 61, 14, 31, 48] (newA 6 [44, 61, 14, 31, 48, 1] k))))) = k := by kernel_rfl
theorem ev_44 (k : Option Bool) : newA 1 [45] (newA 2 [45, 62] (newA 3 [45, 62, 15] (newA 4 [45, 62, 15, 32] (newA 5 [45, 62, 15, 32, 49] (newA 6 [45, 62, 15, 32, 49, 2] k))))) = k := by kernel_rfl
theorem ev_45 (k : Option Bool) : newA 1 [46] (newA 2 [46, 63] (newA 3 [46, 63, 16] (newA 4 [46, 63, 16, 33] (newA 5 [46, 63, 16, 33, 50] (newA 6 [46, 63, 16, 33, 50, 3] k))))) = k := by kernel_rfl
theorem ev_46 (k : Option Bool) : newA 1 [47] (newA 2 [47, 64] (newA 3 [47, 64, 17] (newA 4 [47, 64, 17, 34] (newA 5 [47, 64, 17, 34, 51] (newA 6 [47, 64, 17, 34, 51, 4] k))))) = k := by kernel_rfl
theorem ev_47 (k : Option Bool) : newA 1 [48] (newA 2 [48, 1] (newA 3 [48, 1, 18] (newA 4 [48, 1, 18, 35] (newA 5 [48, 1, 18, 35, 52] (newA 6 [48, 1, 18, 35, 52, 5] k))))) = k := by kernel_rfl
end Go.Proofs.YtojgddnefopdjaaGreatDoor
