import Derived.Test.YtmnmcobpfpkibaaGreatDoorM4
namespace Go.Proofs.YtmnmcobpfpkibaaGreatDoor
set_option maxRecDepth 20000
theorem ev_16 (k : Option Bool) : newA 1 [17] (newA 2 [17, 40] (newA 3 [17, 40, 63] (newA 4 [17, 40, 63, 22] (newA 5 [17, 40, 63, 22, 45] (newA 6 [17, 40, 63, 22, 45, 4] k))))) = k := by kernel_rfl
theorem ev_17 (k : Option Bool) : newA 1 [18] (newA 2 [18, 41] (newA 3 [18, 41, 64] (newA 4 [18, 41, 64, 23] (newA 5 [18, 41, 64, 23, 46] (newA 6 [18, 41, 64, 23, 46, 5] k))))) = k := by kernel_rfl
theorem ev_18 (k : Option Bool) : newA 1 [19] (newA 2 [19, 42] (newA 3 [19, 42, 1] (newA 4 [19, 42, 1, 24] (newA 5 [19, 42, 1, 24, 47] (newA 6 [19, 42, 1, 24, 47, 6] k))))) = k := by kernel_rfl
theorem ev_19 (k : Option Bool) : newA 1 [20] (newA 2 [20, 43] (newA 3 [20, 43, 2] (newA 4 [20, 43, 2, 25] (newA 5 [20, 43, 2, 25, 48] (newA 6 [20, 43, 2, 25, 48, 7] k))))) = k := by kernel_rfl
theorem ev_20 (k : Option Bool) : newA 1 [21] (newA 2 [21, 44] (newA 3 [21, 44, 3] (newA 4 [21, 44, 3, 26] (newA 5 [21, 44, 3, 26, 49] (newA 6 [21, 44, 3, 26, 49, 8] k))))) = k := by kernel_rfl
theorem ev_21 (k : Option Bool) : newA 1 [22] (newA 2 [22, 45] (newA 3 [22, 45, 4] (newA 4 [22, 45, 4, 27] (newA 5 [22, 45, 4, 27, 50] (newA 6 [22, 45, 4, 27, 50, 9] k))))) = k := by kernel_rfl
theorem ev_22 (k : Option Bool) : newA 1 [23] (newA 2 [23, 46] (newA 3 [23, 46, 5] (newA 4 [23, 46, 5, 28] (newA 5 [23, 46, 5, 28, 51] (newA 6 [23, 46, 5, 28, 51, 10] k))))) = k := by kernel_rfl
theorem ev_23 (k : Option Bool) : newA 1 [24] (newA 2 [24, 47] (newA 3 [24, 47, 6] (newA 4 [24, 47, 6, 29] (newA 5 [24, 47, 6, 29, 52] (newA 6 [24, 47, 6, 29, 52, 11] k))))) = k := by kernel_rfl
theorem ev_24 (k : Option Bool) : newA 1 [25] (newA 2 [25, 48] (newA 3 [25, 48, 7] (newA 4 [25, 48, 7, 30] (newA 5 [25, 48, 7, 30, 53] (newA 6 [25, 48, 7, 30, 53, 12] k))))) = k := by kernel_rfl
theorem ev_25 (k : Option Bool) : newA 1 [26] (newA 2 [26, 49] (newA 3 [26, 49, 8] (newA 4 [26, 49, 8, 31] (newA 5 [26, 49, 8, 31, 54] (newA 6 [26, 49, 8, 31, 54, 13] k))))) = k := by kernel_rfl
theorem ev_26 (k : Option Bool) : newA 1 [27] (newA 2 [27, 50] (newA 3 [27, 50, 9] (newA 4 [27, 50, 9, 32] (newA 5 [27, 50, 9, 32, 55] (newA 6 [27, 50, 9, 32, 55, 14] k))))) = k := by kernel_rfl
theorem ev_27 (k : Option Bool) : newA 1 [28] (newA 2 [28, 51] (newA 3 [28, 51, 10] (newA 4 [28, 51, 10, 33] (newA 5 [28, 51, 10, 33, 56] (newA 6 [28, 51, 10, 33, 56, 15] k))))) = k := by kernel_rfl
theorem ev_28 (k : Option Bool) : newA 1 [29] (newA 2 [29, 52] (newA 3 [29, 52, 11] (newA 4 [29, 52, 11, 34] (newA 5 [29, 52, 11, 34, 57] (newA 6 [29, 52, 11, 34, 57, 16] k))))) = k := by kernel_rfl
theorem ev_29 (k : Option Bool) : newA 1 [30] (newA 2 [30, 53] (newA 3 [30, 53, 12] (newA 4 [30, 53, 12, 35] (newA 5 [30, 53, 12, 35, 58] (newA 6 [30, 53, 12, 35, 58, 17] k))))) = k := by kernel_rfl
theorem ev_30 (k : Option Bool) : newA 1 [31] (newA 2 [31, 54] (newA 3 [31, 54, 13] (newA 4 [31, 54, 13, 36] (newA 5 [31, 54, 13, 36, 59] (newA 6 [31, 54, 13, 36, 59, 18] k))))) = k := by kernel_rfl
theorem ev_31 (k : Option Bool) : newA 1 [32] (newA 2 [32, 55] (newA 3 [32, 55, 14] (newA 4 [32, 55, 14, 37] (newA 5 [32, 55, 14, 37, 60] (newA 6 [32, 55, 14, 37, 60, 19] k))))) = k := by kernel_rfl
end Go.Proofs.YtmnmcobpfpkibaaGreatDoor
