import Derived.Test.YtojgddnefopdjaaGreatDoorM6
namespace Go.Proofs.YtojgddnefopdjaaGreatDoor
set_option maxRecDepth 20000
theorem ev_48 (k : Option Bool) : newA 1 [49] (newA 2 [49, 2] (newA 3 [49, 2, 19] (newA 4 [49, 2, 19, 36] (newA 5 [49, 2, 19, 36, 53] (newA 6 [49, 2, 19, 36, 53, 6] k))))) = k := by kernel_rfl
theorem ev_49 (k : Option Bool) : newA 1 [50] (newA 2 [50, 3] (newA 3 [50, 3, 20] (newA 4 [50, 3, 20, 37] (newA 5 [50, 3, 20, 37, 54] (newA 6 [50, 3, 20, 37, 54, 7] k))))) = k := by kernel_rfl
theorem ev_50 (k : Option Bool) : newA 1 [51] (newA 2 [51, 4] (newA 3 [51, 4, 21] (newA 4 [51, 4, 21, 38] (newA 5 [51, 4, 21, 38, 55] (newA 6 [51, 4, 21, 38, 55, 8] k))))) = k := by kernel_rfl
theorem ev_51 (k : Option Bool) : newA 1 [52] (newA 2 [52, 5] (newA 3 [52, 5, 22] (newA 4 [52, 5, 22, 39] (newA 5 [52, 5, 22, 39, 56] (newA 6 [52, 5, 22, 39, 56, 9] k))))) = k := by kernel_rfl
theorem ev_52 (k : Option Bool) : newA 1 [53] (newA 2 [53, 6] (newA 3 [53, 6, 23] (newA 4 [53, 6, 23, 40] (newA 5 [53, 6, 23, 40, 57] (newA 6 [53, 6, 23, 40, 57, 10] k))))) = k := by kernel_rfl
theorem ev_53 (k : Option Bool) : newA 1 [54] (newA 2 [54, 7] (newA 3 [54, 7, 24] (newA 4 [54, 7, 24, 41] (newA 5 [54, 7, 24, 41, 58] (newA 6 [54, 7, 24, 41, 58, 11] k))))) = k := by kernel_rfl
theorem ev_54 (k : Option Bool) : newA 1 [55] (newA 2 [55, 8] (newA 3 [55, 8, 25] (newA 4 [55, 8, 25, 42] (newA 5 [55, 8, 25, 42, 59] (newA 6 [55, 8, 25, 42, 59, 12] k))))) = k := by kernel_rfl
theorem ev_55 (k : Option Bool) : newA 1 [56] (newA 2 [56, 9] (newA 3 [56, 9, 26] (newA 4 [56, 9, 26, 43] (newA 5 [56, 9, 26, 43, 60] (newA 6 [56, 9, 26, 43, 60, 13] k))))) = k := by kernel_rfl
theorem ev_56 (k : Option Bool) : newA 1 [57] (newA 2 [57, 10] (newA 3 [57, 10, 27] (newA 4 [57, 10, 27, 44] (newA 5 [57, 10, 27, 44, 61] (newA 6 [57, 10, 27, 44, 61, 14] k))))) = k := by kernel_rfl
theorem ev_57 (k : Option Bool) : newA 1 [58] (newA 2 [58, 11] (newA 3 [58, 11, 28] (newA 4 [58, 11, 28, 45] (newA 5 [58, 11, 28, 45, 62] (newA 6 [58, 11, 28, 45, 62, 15] k))))) = k := by kernel_rfl
theorem ev_58 (k : Option Bool) : newA 1 [59] (newA 2 [59, 12] (newA 3 [59, 12, 29] (newA 4 [59, 12, 29, 46] (newA 5 [59, 12, 29, 46, 63] (newA 6 [59, 12, 29, 46, 63, 16] k))))) = k := by kernel_rfl
theorem ev_59 (k : Option Bool) : newA 1 [60] (newA 2 [60, 13] (newA 3 [60, 13, 30] (newA 4 [60, 13, 30, 47] (newA 5 [60, 13, 30, 47, 64] (newA 6 [60, 13, 30, 47, 64, 17] k))))) = k := by kernel_rfl
theorem ev_60 (k : Option Bool) : newA 1 [61] (newA 2 [61, 14] (newA 3 [61, 14, 31] (newA 4 [61, 14, 31, 48] (newA 5 [61, 14, 31, 48, 1] (newA 6 [61, 14, 31, 48, 1, 18] k))))) = k := by kernel_rfl
theorem ev_61 (k : Option Bool) : newA 1 [62] (newA 2 [62, 15] (newA 3 [62, 15, 32] (newA 4 [62, 15, 32, 49] (newA 5 [62, 15, 32, 49, 2] (newA 6 [62, 15, 32, 49, 2, 19] k))))) = k := by kernel_rfl
theorem ev_62 (k : Option Bool) : newA 1 [63] (newA 2 [63, 16] (newA 3 [63, 16, 33] (newA 4 [63, 16, 33, 50] (newA 5 [63, 16, 33, 50, 3] (newA 6 [63, 16, 33, 50, 3, 20] k))))) = k := by kernel_rfl
theorem ev_63 (k : Option Bool) : newA 1 [64] (newA 2 [64, 17] (newA 3 [64, 17, 34] (newA 4 [64, 17, 34, 51] (newA 5 [64, 17, 34, 51, 4] (newA 6 [64, 17, 34, 51, 4, 21] k))))) = k := by kernel_rfl
end Go.Proofs.YtojgddnefopdjaaGreatDoor
