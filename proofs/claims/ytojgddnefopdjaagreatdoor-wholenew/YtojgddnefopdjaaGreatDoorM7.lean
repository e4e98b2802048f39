import Derived.Test.YtojgddnefopdjaaGreatDoorM6
namespace Go.Proofs.YtojgddnefopdjaaGreatDoor
set_option maxRecDepth 20000
theorem ev_0 (k : Option Bool) : newA 1 [1] (newA 2 [1, 18] (newA 3 [1, 18, 35] (newA 4 [1, 18, 35, 52] (newA 5 [1, 18, 35, 52, 5] (newA 6 [1, 18, 35, 52, 5, 22] k))))) = k := by kernel_rfl
theorem ev_1 (k : Option Bool) : newA 1 [2] (newA 2 [2, 19] (newA 3 [2, 19, 36] (newA 4 [2, 19, 36, 53] (newA 5 [2, 19, 36, 53, 6] (newA 6 [2, 19, 36, 53, 6, 23] k))))) = k := by kernel_rfl
theorem ev_2 (k : Option Bool) : newA 1 [3] (newA 2 [3, 20] (newA 3 [3, 20, 37] (newA 4 [3, 20, 37, 54] (newA 5 [3, 20, 37, 54, 7] (newA 6 [3, 20, 37, 54, 7, 24] k))))) = k := by kernel_rfl
theorem ev_3 (k : Option Bool) : newA 1 [4] (newA 2 [4, 21] (newA 3 [4, 21, 38] (newA 4 [4, 21, 38, 55] (newA 5 [4, 21, 38, 55, 8] (newA 6 [4, 21, 38, 55, 8, 25] k))))) = k := by kernel_rfl
theorem ev_4 (k : Option Bool) : newA 1 [5] (newA 2 [5, 22] (newA 3 [5, 22, 39] (newA 4 [5, 22, 39, 56] (newA 5 [5, 22, 39, 56, 9] (newA 6 [5, 22, 39, 56, 9, 26] k))))) = k := by kernel_rfl
theorem ev_5 (k : Option Bool) : newA 1 [6] (newA 2 [6, 23] (newA 3 [6, 23, 40] (newA 4 [6, 23, 40, 57] (newA 5 [6, 23, 40, 57, 10] (newA 6 [6, 23, 40, 57, 10, 27] k))))) = k := by kernel_rfl
theorem ev_6 (k : Option Bool) : newA 1 [7] (newA 2 [7, 24] (newA 3 [7, 24, 41] (newA 4 [7, 24, 41, 58] (newA 5 [7, 24, 41, 58, 11] (newA 6 [7, 24, 41, 58, 11, 28] k))))) = k := by kernel_rfl
theorem ev_7 (k : Option Bool) : newA 1 [8] (newA 2 [8, 25] (newA 3 [8, 25, 42] (newA 4 [8, 25, 42, 59] (newA 5 [8, 25, 42, 59, 12] (newA 6 [8, 25, 42, 59, 12, 29] k))))) = k := by kernel_rfl
theorem ev_8 (k : Option Bool) : newA 1 [9] (newA 2 [9, 26] (newA 3 [9, 26, 43] (newA 4 [9, 26, 43, 60] (newA 5 [9, 26, 43, 60, 13] (newA 6 [9, 26, 43, 60, 13, 30] k))))) = k := by kernel_rfl
theorem ev_9 (k : Option Bool) : newA 1 [10] (newA 2 [10, 27] (newA 3 [10, 27, 44] (newA 4 [10, 27, 44, 61] (newA 5 [10, 27, 44, 61, 14] (newA 6 [10, 27, 44, 61, 14, 31] k))))) = k := by kernel_rfl
theorem ev_10 (k : Option Bool) : newA 1 [11] (newA 2 [11, 28] (newA 3 [11, 28, 45] (newA 4 [11, 28, 45, 62] (newA 5 [11, 28, 45, 62, 15] (newA 6 [11, 28, 45, 62, 15, 32] k))))) = k := by kernel_rfl
theorem ev_11 (k : Option Bool) : newA 1 [12] (newA 2 [12, 29] (newA 3 [12, 29, 46] (newA 4 [12, 29, 46, 63] (newA 5 [12, 29, 46, 63, 16] (newA 6 [12, 29, 46, 63, 16, 33] k))))) = k := by kernel_rfl
theorem ev_12 (k : Option Bool) : newA 1 [13] (newA 2 [13, 30] (newA 3 [13, 30, 47] (newA 4 [13, 30, 47, 64] (newA 5 [13, 30, 47, 64, 17] (newA 6 [13, 30, 47, 64, 17, 34] k))))) = k := by kernel_rfl
theorem ev_13 (k : Option Bool) : newA 1 [14] (newA 2 [14, 31] (newA 3 [14, 31, 48] (newA 4 [14, 31, 48, 1] (newA 5 [14, 31, 48, 1, 18] (newA 6 [14, 31, 48, 1, 18, 35] k))))) = k := by kernel_rfl
theorem ev_14 (k : Option Bool) : newA 1 [15] (newA 2 [15, 32] (newA 3 [15, 32, 49] (newA 4 [15, 32, 49, 2] (newA 5 [15, 32, 49, 2, 19] (newA 6 [15, 32, 49, 2, 19, 36] k))))) = k := by kernel_rfl
theorem ev_15 (k : Option Bool) : newA 1 [16] (newA 2 [16, 33] (newA 3 [16, 33, 50] (newA 4 [16, 33, 50, 3] (newA 5 [16, 33, 50, 3, 20] (newA 6 [16, 33, 50, 3, 20, 37] k))))) = k := by kernel_rfl
end Go.Proofs.YtojgddnefopdjaaGreatDoor
