import Derived.Test.YtmnmcobpfpkibaaGreatDoorM4
namespace Go.Proofs.YtmnmcobpfpkibaaGreatDoor
set_option maxRecDepth 20000
theorem ev_48 (k : Option Bool) : newA 1 [49] (newA 2 [49, 8] (newA 3 [49, 8, 31] (newA 4 [49, 8, 31, 54] (newA 5 [49, 8, 31, 54, 13] (newA 6 [49, 8, 31, 54, 13, 36] k))))) = k := by kernel_rfl
theorem ev_49 (k : Option Bool) : newA 1 [50] (newA 2 [50, 9] (newA 3 [50, 9, 32] (newA 4 [50, 9, 32, 55] (newA 5 [50, 9, 32, 55, 14] (newA 6 [50, 9, 32, 55, 14, 37] k))))) = k := by kernel_rfl
theorem ev_50 (k : Option Bool) : newA 1 [51] (newA 2 [51, 10] (newA 3 [51, 10, 33] (newA 4 [51, 10, 33, 56] (newA 5 [51, 10, 33, 56, 15] (newA 6 [51, 10, 33, 56, 15, 38] k))))) = k := by kernel_rfl
theorem ev_51 (k : Option Bool) : newA 1 [52] (newA 2 [52, 11] (newA 3 [52, 11, 34] (newA 4 [52, 11, 34, 57] (newA 5 [52, 11, 34, 57, 16] (newA 6 [52, 11, 34, 57, 16, 39] k))))) = k := by kernel_rfl
theorem ev_52 (k : Option Bool) : newA 1 [53] (newA 2 [53, 12] (newA 3 [53, 12, 35] (newA 4 [53, 12, 35, 58] (newA 5 [53, 12, 35, 58, 17] (newA 6 [53, 12, 35, 58, 17, 40] k))))) = k := by kernel_rfl
theorem ev_53 (k : Option Bool) : newA 1 [54] (newA 2 [54, 13] (newA 3 [54, 13, 36] (newA 4 [54, 13, 36, 59] (newA 5 [54, 13, 36, 59, 18] (newA 6 [54, 13, 36, 59, 18, 41] k))))) = k := by kernel_rfl
theorem ev_54 (k : Option Bool) : newA 1 [55] (newA 2 [55, 14] (newA 3 [55, 14, 37] (newA 4 [55, 14, 37, 60] (newA 5 [55, 14, 37, 60, 19] (newA 6 [55, 14, 37, 60, 19, 42] k))))) = k := by kernel_rfl
theorem ev_55 (k : Option Bool) : newA 1 [56] (newA 2 [56, 15] (newA 3 [56, 15, 38] (newA 4 [56, 15, 38, 61] (newA 5 [56, 15, 38, 61, 20] (newA 6 [56, 15, 38, 61, 20, 43] k))))) = k := by kernel_rfl
theorem ev_56 (k : Option Bool) : newA 1 [57] (newA 2 [57, 16] (newA 3 [57, 16, 39] (newA 4 [57, 16, 39, 62] (newA 5 [57, 16, 39, 62, 21] (newA 6 [57, 16, 39, 62, 21, 44] k))))) = k := by kernel_rfl
theorem ev_57 (k : Option Bool) : newA 1 [58] (newA 2 [58, 17] (newA 3 [58, 17, 40] (newA 4 [58, 17, 40, 63] (newA 5 [58, 17, 40, 63, 22] (newA 6 [58, 17, 40, 63, 22, 45] k))))) = k := by kernel_rfl
theorem ev_58 (k : Option Bool) : newA 1 [59] (newA 2 [59, 18] (newA 3 [59, 18, 41] (newA 4 [59, 18, 41, 64] (newA 5 [59, 18, 41, 64, 23] (newA 6 [59, 18, 41, 64, 23, 46] k))))) = k := by kernel_rfl
theorem ev_59 (k : Option Bool) : newA 1 [60] (newA 2 [60, 19] (newA 3 [60, 19, 42] (newA 4 [60, 19, 42, 1] (newA 5 [60, 19, 42, 1, 24] (newA 6 [60, 19, 42, 1, 24, 47] k))))) = k := by kernel_rfl
theorem ev_60 (k : Option Bool) : newA 1 [61] (newA 2 [61, 20] (newA 3 [61, 20, 43] (newA 4 [61, 20, 43, 2] (newA 5 [61, 20, 43, 2, 25] (newA 6 [61, 20, 43, 2, 25, 48] k))))) = k := by kernel_rfl
theorem ev_61 (k : Option Bool) : newA 1 [62] (newA 2 [62, 21] (newA 3 [62, 21, 44] (newA 4 [62, 21, 44, 3] (newA 5 [62, 21, 44, 3, 26] (newA 6 [62, 21, 44, 3, 26, 49] k))))) = k := by kernel_rfl
theorem ev_62 (k : Option Bool) : newA 1 [63] (newA 2 [63, 22] (newA 3 [63, 22, 45] (newA 4 [63, 22, 45, 4] (newA 5 [63, 22, 45, 4, 27] (newA 6 [63, 22, 45, 4, 27, 50] k))))) = k := by kernel_rfl
theorem ev_63 (k : Option Bool) : newA 1 [64] (newA 2 [64, 23] (newA 3 [64, 23, 46] (newA 4 [64, 23, 46, 5] (newA 5 [64, 23, 46, 5, 28] (newA 6 [64, 23, 46, 5, 28, 51] k))))) = k := by kernel_rfl
end Go.Proofs.YtmnmcobpfpkibaaGreatDoor
