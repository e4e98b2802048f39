import Derived.Test.YtmnmcobpfpkibaaGreatDoorM4
namespace Go.Proofs.YtmnmcobpfpkibaaGreatDoor
set_option maxRecDepth 20000
theorem ev_32 (k : Option Bool) : newA 1 [33] (newA 2 [33, 56] (newA 3 [33, 56, 15] (newA 4 [33, 56, 15, 38] (newA 5 [33, 56, 15, 38, 61] (newA 6 [33, 56, 15, 38, 61, 20] k))))) = k := by kernel_rfl
theorem ev_33 (k : Option Bool) : newA 1 [34] (newA 2 [34, 57] (newA 3 [34, 57, 16] (newA 4 [34, 57, 16, 39] (newA 5 [34, 57, 16, 39, 62] (newA 6 [34, 57, 16, 39, 62, 21] k))))) = k := by kernel_rfl
theorem ev_34 (k : Option Bool) : newA 1 [35] (newA 2 [35, 58] (newA 3 [35, 58, 17] (newA 4 [35, 58, 17, 40] (newA 5 [35, 58, 17, 40, 63] (newA 6 [35, 58, 17, 40, 63, 22] k))))) = k := by kernel_rfl
theorem ev_35 (k : Option Bool) : newA 1 [36] (newA 2 [36, 59] (newA 3 [36, 59, 18] (newA 4 [36, 59, 18, 41] (newA 5 [36, 59, 18, 41, 64] (newA 6 [36, 59, 18, 41, 64, 23] k))))) = k := by kernel_rfl
theorem ev_36 (k : Option Bool) : newA 1 [37] (newA 2 [37, 60] (newA 3 [37, 60, 19] (newA 4 [37, 60, 19, 42] (newA 5 [37, 60, 19, 42, 1] (newA 6 [37, 60, 19, 42, 1, 24] k))))) = k := by kernel_rfl
theorem ev_37 (k : Option Bool) : newA 1 [38] (newA 2 [38, 61] (newA 3 [38, 61, 20] (newA 4 [38, 61, 20, 43] (newA 5 [38, 61, 20, 43, 2] (newA 6 [38, 61, 20, 43, 2, 25] k))))) = k := by kernel_rfl
theorem ev_38 (k : Option Bool) : newA 1 [39] (newA 2 [39, 62] (newA 3 [39, 62, 21] (newA 4 [39, 62, 21, 44] (newA 5 [39, 62, 21, 44, 3] (newA 6 [39, 62, 21, 44, 3, 26] k))))) = k := by kernel_rfl
theorem ev_39 (k : Option Bool) : newA 1 [40] (newA 2 [40, 63] (newA 3 [40, 63, 22] (newA 4 [40, 63, 22, 45] (newA 5 [40, 63, 22, 45, 4] (newA 6 [40, 63, 22, 45, 4, 27] k))))) = k := by kernel_rfl
theorem ev_40 (k : Option Bool) : newA 1 [41] (newA 2 [41, 64] (newA 3 [41, 64, 23] (newA 4 [41, 64, 23, 46] (newA 5 [41, 64, 23, 46, 5] (newA 6 [41, 64, 23, 46, 5, 28] k))))) = k := by kernel_rfl
theorem ev_41 (k : Option Bool) : newA 1 [42] (newA 2 [42, 1] (newA 3 [42, 1, 24] (newA 4 [42, 1, 24, 47] (newA 5 [42, 1, 24, 47, 6] (newA 6 [42, 1, 24, 47, 6, 29] k))))) = k := by kernel_rfl
theorem ev_42 (k : Option Bool) : newA 1 [43] (newA 2 [43, 2] (newA 3 [43, 2, 25] (newA 4 [43, 2, 25, 48] (newA 5 [43, 2, 25, 48, 7] (newA 6 [43, 2, 25, 48, 7, 30] k))))) = k := by kernel_rfl
theorem ev_43 (k : Option Bool) : newA 1 [44] (newA 2 [44, 3] (newA 3 [44, 3, 26] (newA 4 [44, 3, 26, 49] (newA 5 [44, 3, 26, 49, 8] (newA 6 [44, 3, 26, 49, 8, 31] k))))) = k := by kernel_rfl
theorem ev_44 (k : Option Bool) : newA 1 [45] (newA 2 [45, 4] (newA 3 [45, 4, 27] (newA 4 [45, 4, 27, 50] (newA 5 [45, 4, 27, 50, 9] (newA 6 [45, 4, 27, 50, 9, 32] k))))) = k := by kernel_rfl
theorem ev_45 (k : Option Bool) : newA 1 [46] (newA 2 [46, 5] (newA 3 [46, 5, 28] (newA 4 [46, 5, 28, 51] (newA 5 [46, 5, 28, 51, 10] (newA 6 [46, 5, 28, 51, 10, 33] k))))) = k := by kernel_rfl
theorem ev_46 (k : Option Bool) : newA 1 [47] (newA 2 [47, 6] (newA 3 [47, 6, 29] (newA 4 [47, 6, 29, 52] (newA 5 [47, 6, 29, 52, 11] (newA 6 [47, 6, 29, 52, 11, 34] k))))) = k := by kernel_rfl
theorem ev_47 (k : Option Bool) : newA 1 [48] (newA 2 [48, 7] (newA 3 [48, 7, 30] (newA 4 [48, 7, 30, 53] (newA 5 [48, 7, 30, 53, 12] (newA 6 [48, 7, 30, 53, 12, 35] k))))) = k := by kernel_rfl
end Go.Proofs.YtmnmcobpfpkibaaGreatDoor
