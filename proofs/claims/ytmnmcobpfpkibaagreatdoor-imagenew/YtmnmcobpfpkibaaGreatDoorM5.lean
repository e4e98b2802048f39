import Derived.Test.YtmnmcobpfpkibaaGreatDoorM4
namespace Go.Proofs.YtmnmcobpfpkibaaGreatDoor
set_option maxRecDepth 20000
theorem ev_0 (k : Option Bool) : newA 1 [1] (newA 2 [1, 24] (newA 3 [1, 24, 47] (newA 4 [1, 24, 47, 6] (newA 5 [1, 24, 47, 6, 29] (newA 6 [1, 24, 47, 6, 29, 52] k))))) = k := by kernel_rfl
theorem ev_1 (k : Option Bool) : newA 1 [2] (newA 2 [2, 25] (newA 3 [2, 25, 48] (newA 4 [2, 25, 48, 7] (newA 5 [2, 25, 48, 7, 30] (newA 6 [2, 25, 48, 7, 30, 53] k))))) = k := by kernel_rfl
theorem ev_2 (k : Option Bool) : newA 1 [3] (newA 2 [3, 26] (newA 3 [3, 26, 49] (newA 4 [3, 26, 49, 8] (newA 5 [3, 26, 49, 8, 31] (newA 6 [3, 26, 49, 8, 31, 54] k))))) = k := by kernel_rfl
theorem ev_3 (k : Option Bool) : newA 1 [4] (newA 2 [4, 27] (newA 3 [4, 27, 50] (newA 4 [4, 27, 50, 9] (newA 5 [4, 27, 50, 9, 32] (newA 6 [4, 27, 50, 9, 32, 55] k))))) = k := by kernel_rfl
theorem ev_4 (k : Option Bool) : newA 1 [5] (newA 2 [5, 28] (newA 3 [5, 28, 51] (newA 4 [5, 28, 51, 10] (newA 5 [5, 28, 51, 10, 33] (newA 6 [5, 28, 51, 10, 33, 56] k))))) = k := by kernel_rfl
theorem ev_5 (k : Option Bool) : newA 1 [6] (newA 2 [6, 29] (newA 3 [6, 29, 52] (newA 4 [6, 29, 52, 11] (newA 5 [6, 29, 52, 11, 34] (newA 6 [6, 29, 52, 11, 34, 57] k))))) = k := by kernel_rfl
theorem ev_6 (k : Option Bool) : newA 1 [7] (newA 2 [7, 30] (newA 3 [7, 30, 53] (newA 4 [7, 30, 53, 12] (newA 5 [7, 30, 53, 12, 35] (newA 6 [7, 30, 53, 12, 35, 58] k))))) = k := by kernel_rfl
theorem ev_7 (k : Option Bool) : newA 1 [8] (newA 2 [8, 31] (newA 3 [8, 31, 54] (newA 4 [8, 31, 54, 13] (newA 5 [8, 31, 54, 13, 36] (newA 6 [8, 31, 54, 13, 36, 59] k))))) = k := by kernel_rfl
theorem ev_8 (k : Option Bool) : newA 1 [9] (newA 2 [9, 32] (newA 3 [9, 32, 55] (newA 4 [9, 32, 55, 14] (newA 5 [9, 32, 55, 14, 37] (newA 6 [9, 32, 55, 14, 37, 60] k))))) = k := by kernel_rfl
theorem ev_9 (k : Option Bool) : newA 1 [10] (newA 2 [10, 33] (newA 3 [10, 33, 56] (newA 4 [10, 33, 56, 15] (newA 5 [10, 33, 56, 15, 38] (newA 6 [10, 33, 56, 15, 38, 61] k))))) = k := by kernel_rfl
theorem ev_10 (k : Option Bool) : newA 1 [11] (newA 2 [11, 34] (newA 3 [11, 34, 57] (newA 4 [11, 34, 57, 16] (newA 5 [11, 34, 57, 16, 39] (newA 6 [11, 34, 57, 16, 39, 62] k))))) = k := by kernel_rfl
theorem ev_11 (k : Option Bool) : newA 1 [12] (newA 2 [12, 35] (newA 3 [12, 35, 58] (newA 4 [12, 35, 58, 17] (newA 5 [12, 35, 58, 17, 40] (newA 6 [12, 35, 58, 17, 40, 63] k))))) = k := by kernel_rfl
theorem ev_12 (k : Option Bool) : newA 1 [13] (newA 2 [13, 36] (newA 3 [13, 36, 59] (newA 4 [13, 36, 59, 18] (newA 5 [13, 36, 59, 18, 41] (newA 6 [13, 36, 59, 18, 41, 64] k))))) = k := by kernel_rfl
theorem ev_13 (k : Option Bool) : newA 1 [14] (newA 2 [14, 37] (newA 3 [14, 37, 60] (newA 4 [14, 37, 60, 19] (newA 5 [14, 37, 60, 19, 42] (newA 6 [14, 37, 60, 19, 42, 1] k))))) = k := by kernel_rfl
theorem ev_14 (k : Option Bool) : newA 1 [15] (newA 2 [15, 38] (newA 3 [15, 38, 61] (newA 4 [15, 38, 61, 20] (newA 5 [15, 38, 61, 20, 43] (newA 6 [15, 38, 61, 20, 43, 2] k))))) = k := by kernel_rfl
theorem ev_15 (k : Option Bool) : newA 1 [16] (newA 2 [16, 39] (newA 3 [16, 39, 62] (newA 4 [16, 39, 62, 21] (newA 5 [16, 39, 62, 21, 44] (newA 6 [16, 39, 62, 21, 44, 3] k))))) = k := by kernel_rfl
end Go.Proofs.YtmnmcobpfpkibaaGreatDoor
