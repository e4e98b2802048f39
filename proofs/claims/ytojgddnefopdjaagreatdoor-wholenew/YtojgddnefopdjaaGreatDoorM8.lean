import Derived.Test.YtojgddnefopdjaaGreatDoorM6
namespace Go.Proofs.YtojgddnefopdjaaGreatDoor
set_option maxRecDepth 20000
theorem ev_16 (k : Option Bool) : newA 1 [17] (newA 2 [17, 34] (newA 3 [17, 34, 51] (newA 4 [17, 34, 51, 4] (newA 5 [17, 34, 51, 4, 21] (newA 6 [17, 34, 51, 4, 21, 38] k))))) = k := by kernel_rfl
theorem ev_17 (k : Option Bool) : newA 1 [18] (newA 2 [18, 35] (newA 3 [18, 35, 52] (newA 4 [18, 35, 52, 5] (newA 5 [18, 35, 52, 5, 22] (newA 6 [18, 35, 52, 5, 22, 39] k))))) = k := by kernel_rfl
theorem ev_18 (k : Option Bool) : newA 1 [19] (newA 2 [19, 36] (newA 3 [19, 36, 53] (newA 4 [19, 36, 53, 6] (newA 5 [19, 36, 53, 6, 23] (newA 6 [19, 36, 53, 6, 23, 40] k))))) = k := by kernel_rfl
theorem ev_19 (k : Option Bool) : newA 1 [20] (newA 2 [20, 37] (newA 3 [20, 37, 54] (newA 4 [20, 37, 54, 7] (newA 5 [20, 37, 54, 7, 24] (newA 6 [20, 37, 54, 7, 24, 41] k))))) = k := by kernel_rfl
theorem ev_20 (k : Option Bool) : newA 1 [21] (newA 2 [21, 38] (newA 3 [21, 38, 55] (newA 4 [21, 38, 55, 8] (newA 5 [21, 38, 55, 8, 25] (newA 6 [21, 38, 55, 8, 25, 42] k))))) = k := by kernel_rfl
theorem ev_21 (k : Option Bool) : newA 1 [22] (newA 2 [22, 39] (newA 3 [22, 39, 56] (newA 4 [22, 39, 56, 9] (newA 5 [22, 39, 56, 9, 26] (newA 6 [22, 39, 56, 9, 26, 43] k))))) = k := by kernel_rfl
theorem ev_22 (k : Option Bool) : newA 1 [23] (newA 2 [23, 40] (newA 3 [23, 40, 57] (newA 4 [23, 40, 57, 10] (newA 5 [23, 40, 57, 10, 27] (newA 6 [23, 40, 57, 10, 27, 44] k))))) = k := by kernel_rfl
theorem ev_23 (k : Option Bool) : newA 1 [24] (newA 2 [24, 41] (newA 3 [24, 41, 58] (newA 4 [24, 41, 58, 11] (newA 5 [24, 41, 58, 11, 28] (newA 6 [24, 41, 58, 11, 28, 45] k))))) = k := by kernel_rfl
theorem ev_24 (k : Option Bool) : newA 1 [25] (newA 2 [25, 42] (newA 3 [25, 42, 59] (newA 4 [25, 42, 59, 12] (newA 5 [25, 42, 59, 12, 29] (newA 6 [25, 42, 59, 12, 29, 46] k))))) = k := by kernel_rfl
theorem ev_25 (k : Option Bool) : newA 1 [26] (newA 2 [26, 43] (newA 3 [26, 43, 60] (newA 4 [26, 43, 60, 13] (newA 5 [26, 43, 60, 13, 30] (newA 6 [26, 43, 60, 13, 30, 47] k))))) = k := by kernel_rfl
theorem ev_26 (k : Option Bool) : newA 1 [27] (newA 2 [27, 44] (newA 3 [27, 44, 61] (newA 4 [27, 44, 61, 14] (newA 5 [27, 44, 61, 14, 31] (newA 6 [27, 44, 61, 14, 31, 48] k))))) = k := by kernel_rfl
theorem ev_27 (k : Option Bool) : newA 1 [28] (newA 2 [28, 45] (newA 3 [28, 45, 62] (newA 4 [28, 45, 62, 15] (newA 5 [28, 45, 62, 15, 32] (newA 6 [28, 45, 62, 15, 32, 49] k))))) = k := by kernel_rfl
theorem ev_28 (k : Option Bool) : newA 1 [29] (newA 2 [29, 46] (newA 3 [29, 46, 63] (newA 4 [29, 46, 63, 16] (newA 5 [29, 46, 63, 16, 33] (newA 6 [29, 46, 63, 16, 33, 50] k))))) = k := by kernel_rfl
theorem ev_29 (k : Option Bool) : newA 1 [30] (newA 2 [30, 47] (newA 3 [30, 47, 64] (newA 4 [30, 47, 64, 17] (newA 5 [30, 47, 64, 17, 34] (newA 6 [30, 47, 64, 17, 34, 51] k))))) = k := by kernel_rfl
theorem ev_30 (k : Option Bool) : newA 1 [31] (newA 2 [31, 48] (newA 3 [31, 48, 1] (newA 4 [31, 48, 1, 18] (newA 5 [31, 48, 1, 18, 35] (newA 6 [31, 48, 1, 18, 35, 52] k))))) = k := by kernel_rfl
theorem ev_31 (k : Option Bool) : newA 1 [32] (newA 2 [32, 49] (newA 3 [32, 49, 2] (newA 4 [32, 49, 2, 19] (newA 5 [32, 49, 2, 19, 36] (newA 6 [32, 49, 2, 19, 36, 53] k))))) = k := by kernel_rfl
end Go.Proofs.YtojgddnefopdjaaGreatDoor
