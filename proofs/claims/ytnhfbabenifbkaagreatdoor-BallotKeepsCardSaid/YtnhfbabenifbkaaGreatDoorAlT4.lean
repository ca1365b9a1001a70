/- The functions in the abstract language, worked out by Lean. -/
import Derived.Test.YtnhfbabenifbkaaGreatDoorAlX
set_option linter.unusedVariables false
set_option maxHeartbeats 1000000
set_option maxRecDepth 100000
namespace Go.Proofs.YtnhfbabenifbkaaGreatDoor
-- internal/strconv.numDigits
noncomputable def T99 : { F : AFunc // CT.func [[2], [4, 5, 6], [0, 3, 7, 8, 9, 10, 11, 12, 13, 14]] Tryz.f99 = some F } := by
  refine ⟨?F, ?h⟩
  case h =>
    conv => lhs; cbv
theorem c99 : Cert 99 T99.1 := cert_of T99.2 Tryz.func99
-- internal/strconv.formatBase10
noncomputable def T100 : { F : AFunc // CT.func [[17, 18], [19], [20, 21, 22, 23], [24, 25], [5, 26, 27, 28, 29], [7, 30, 31, 32, 33, 34, 35], [6, 36, 37, 38, 39, 40, 41], [9, 42, 43, 44, 45, 46, 47, 48, 49, 50, 51, 52, 53, 54], [8, 55, 56, 57, 58, 59, 60, 61, 62, 63, 64, 65, 66, 67], [11, 68, 69, 70, 71, 72, 73, 74, 75, 76, 77, 78, 79, 80], [10, 81, 82, 83, 84, 85, 86, 87, 88, 89, 90, 91, 92, 93], [94, 95], [1, 20, 96, 97], [98], [99, 100, 101], [102, 103], [13, 104, 105, 106, 107, 108, 109], [15, 110, 111, 112, 113, 114, 115, 116, 117, 118, 119, 120, 121, 122], [14, 123, 124, 125, 126, 127, 128, 129, 130, 131, 132, 133, 134, 135], [136, 137], [99, 138], [139, 140, 141, 142], [143, 144], [16, 145, 146, 147, 148, 149, 150, 151, 152, 153, 154, 155, 156, 157], [158, 159], [4, 139, 160], [0, 12, 161, 162, 163, 164, 165, 166]] Tryz.f100 = some F } := by
  refine ⟨?F, ?h⟩
  case h =>
    conv => lhs; cbv
theorem c100 : Cert 100 T100.1 := cert_of T100.2 Tryz.func100
-- internal/strconv.formatBits
noncomputable def T101 : { F : AFunc // CT.func [[], [19, 20, 21, 22, 23, 24, 25, 26, 27], [28, 29], [28], [], [], [30, 31, 32], [30, 33], [34, 35, 36, 37, 38], [39, 40], [2, 41, 42, 43], [44, 45], [46, 47, 48], [49, 50, 51, 52, 53, 54], [55, 56, 57], [14, 15, 16, 46, 58, 59], [1, 60, 61, 62, 63], [2, 34, 64, 65], [66, 67], [68, 69, 70], [71, 72, 73], [1, 74, 75, 76, 77, 78, 79, 80, 81], [18, 82], [17, 68, 83, 84], [1, 85, 86, 87, 88], [3], [89, 90, 91], [92, 93], [4, 89], [0, 12, 13, 94, 95, 96, 97, 98], [0, 12, 13, 94, 99, 100, 101]] Tryz.f101 = some F } := by
  refine ⟨?F, ?h⟩
  case h =>
    conv => lhs; cbv
theorem c101 : Cert 101 T101.1 := cert_of T101.2 Tryz.func101
-- unicode/utf8.RuneCountInString
noncomputable def T102 : { F : AFunc // CT.func [[], [0, 3], [5], [6, 7, 8], [4, 6, 9]] Tryz.f102 = some F } := by
  refine ⟨?F, ?h⟩
  case h =>
    conv => lhs; cbv
theorem c102 : Cert 102 T102.1 := cert_of T102.2 Tryz.func102
-- unicode/utf8.DecodeRuneInString
noncomputable def T103 : { F : AFunc // CT.func [[2, 3], [4, 5, 6, 7, 8, 9], [0, 10, 11, 12, 13], [0, 10, 14, 15, 16, 17, 18]] Tryz.f103 = some F } := by
  refine ⟨?F, ?h⟩
  case h =>
    conv => lhs; cbv
theorem c103 : Cert 103 T103.1 := cert_of T103.2 Tryz.func103
-- internal/stringslite.Index
noncomputable def T105 : { F : AFunc // CT.func [[4], [14, 15], [17, 18, 19, 20, 21, 22, 23], [0, 1, 5, 16], [16, 25, 26], [0, 1, 5, 24, 27, 28, 29, 30], [24, 32, 33, 34, 35], [0, 1, 5, 31], [31, 37, 38, 39, 40, 41, 42, 43, 44], [0, 1, 5, 36, 45, 46, 47], [36, 48, 49], [50, 51], [], [52, 53, 54, 55, 56], [], [57, 58, 132], [59, 60, 61, 62, 63], [64, 65, 66, 67, 68, 69, 70, 71], [72], [0, 1, 5, 6, 7, 8, 9, 10, 11, 73], [11, 73, 74, 75, 76, 77], [64, 78, 79, 80, 81, 82, 83, 84, 85, 86, 87, 88, 89, 90, 91, 92], [0, 1, 5, 6, 7, 8, 9, 10, 93, 94], [93, 95, 96], [97, 98], [99, 100, 101, 102, 103, 104, 105, 106], [0, 1, 5, 6, 7, 9, 10, 107, 108, 109, 110, 111, 112], [113], [8, 12, 114, 115, 116, 117], [8, 12, 114], [107, 118, 119, 120, 121, 122, 123, 124, 125, 126, 127, 128, 129, 130, 131], [0, 1, 5, 6, 7, 9, 10, 132, 133, 134, 135, 136, 137], [138], [8, 13, 139], [8, 13, 139, 140, 141, 142], [0, 1, 5, 6, 7, 8, 9, 10, 59]] Tryz.f105 = some F } := by
  refine ⟨?F, ?h⟩
  case h =>
    conv => lhs; cbv
theorem c105 : Cert 105 T105.1 := cert_of T105.2 Tryz.func105
-- internal/strconv.ParseUint
noncomputable def T106 : { F : AFunc // CT.func [[6, 7], [18], [0, 1, 2, 19, 20], [19, 21, 22], [23], [0, 2, 8, 9, 24, 32], [26, 27, 28, 29, 30, 31], [1, 25, 33, 34], [32], [35, 36], [64], [38, 39], [1, 37, 41, 42, 43, 44, 45, 46, 47, 48, 49], [40], [50, 51], [40, 53, 54, 55, 56, 57, 58, 59, 60, 61], [52], [62, 63], [52, 65, 66, 67, 68, 69, 70, 71, 72, 73], [64], [74, 75], [25, 37, 76], [77], [77, 78, 79, 80, 81, 82], [0, 1, 2, 8, 9, 83, 84], [10, 83], [], [86, 87, 88, 89, 92], [91], [85, 90], [85, 90, 93], [92], [2, 94, 95, 96, 97], [], [], [0, 98], [], [102, 103, 104], [16], [1, 8, 9, 10, 11, 12, 13, 15, 99, 100, 101, 105, 121], [107, 108, 109, 110, 111], [15, 106], [106, 113, 114, 115, 116, 117, 118], [15, 112, 119, 120], [112, 122, 123, 124, 125, 126, 127, 128, 129], [15, 121, 130, 131, 132, 133], [134, 135, 136], [1, 8, 9, 10, 11, 12, 13, 16, 99, 100, 101, 137, 138], [137, 139, 140], [1, 8, 9, 10, 11, 12, 13, 16, 99, 100, 101, 141, 142, 143], [141, 144, 145, 146, 147], [16, 148, 149, 150, 151], [13, 152, 153, 154, 155, 156, 157, 158], [1, 8, 9, 10, 11, 12, 17, 99, 100, 101, 159, 160, 161], [17, 159, 162], [163], [1, 8, 9, 10, 11, 12, 99, 100, 101, 102, 164, 165, 166, 167, 168], [13, 169, 170], [13, 169, 171]] Tryz.f106 = some F } := by
  refine ⟨?F, ?h⟩
  case h =>
    conv => lhs; cbv
theorem c106 : Cert 106 T106.1 := cert_of T106.2 Tryz.func106
-- internal/stringslite.Clone
noncomputable def T107 : { F : AFunc // CT.func [[2], [4, 5], [0, 6], [6, 7, 8, 9], [0, 10, 11, 12], [3, 13, 14, 15, 16, 17]] Tryz.f107 = some F } := by
  refine ⟨?F, ?h⟩
  case h =>
    conv => lhs; cbv
theorem c107 : Cert 107 T107.1 := cert_of T107.2 Tryz.func107
-- errors.New
noncomputable def T108 : { F : AFunc // CT.func [[2], [0, 3, 4, 5, 6]] Tryz.f108 = some F } := by
  refine ⟨?F, ?h⟩
  case h =>
    conv => lhs; cbv
theorem c108 : Cert 108 T108.1 := cert_of T108.2 Tryz.func108
-- slices.order2Ordered[int]
noncomputable def T109 : { F : AFunc // CT.func [[8, 9], [0, 10, 11, 12, 13, 14, 15, 16, 17], [3, 18, 19, 20, 21, 22, 23], [1, 2, 24, 25], [1, 2, 3, 18, 26, 27]] Tryz.f109 = some F } := by
  refine ⟨?F, ?h⟩
  case h =>
    conv => lhs; cbv
theorem c109 : Cert 109 T109.1 := cert_of T109.2 Tryz.func109
-- internal/strconv.log10Pow2
noncomputable def T110 : { F : AFunc // CT.func [[2], [0, 3, 4, 5]] Tryz.f110 = some F } := by
  refine ⟨?F, ?h⟩
  case h =>
    conv => lhs; cbv
theorem c110 : Cert 110 T110.1 := cert_of T110.2 Tryz.func110
-- internal/strconv.bool2[int]
noncomputable def T111 : { F : AFunc // CT.func [[2], [0], [3], [3]] Tryz.f111 = some F } := by
  refine ⟨?F, ?h⟩
  case h =>
    conv => lhs; cbv
theorem c111 : Cert 111 T111.1 := cert_of T111.2 Tryz.func111
-- internal/strconv.isPowerOfTwo
noncomputable def T112 : { F : AFunc // CT.func [[2], [0, 3, 4, 5, 6, 7]] Tryz.f112 = some F } := by
  refine ⟨?F, ?h⟩
  case h =>
    conv => lhs; cbv
theorem c112 : Cert 112 T112.1 := cert_of T112.2 Tryz.func112
-- math/bits.TrailingZeros
noncomputable def T113 : { F : AFunc // CT.func [[2], [0, 3, 4, 5], [0, 6, 7]] Tryz.f113 = some F } := by
  refine ⟨?F, ?h⟩
  case h =>
    conv => lhs; cbv
theorem c113 : Cert 113 T113.1 := cert_of T113.2 Tryz.func113
-- unicode/utf8.decodeRuneInStringSlow
noncomputable def T114 : { F : AFunc // CT.func [[2, 3], [13, 14], [15], [0, 4, 16], [16, 17, 18], [19, 20, 21], [22], [4, 5, 6, 23, 24, 25, 26, 27], [0, 7, 28, 29, 30, 31, 32, 33, 34, 35], [23, 36, 37, 38], [6, 39, 40, 41, 42], [4, 43, 44], [0, 5, 8, 9, 45], [45, 46, 47], [9, 48, 49, 50, 51, 52, 53, 54, 55, 56], [0, 5, 8, 10, 57], [57, 58], [0, 5, 8, 10, 59, 60, 61, 62, 63, 64, 65, 66, 67], [59, 68, 69], [70, 71, 72, 73, 74], [0, 5, 8, 10, 11, 75], [8, 75, 76], [0, 5, 10, 11, 77, 78, 79, 80, 81, 82, 83, 84, 85, 86, 87, 88, 89, 90], [0, 77, 91, 92], [93, 94, 95, 96, 97], [5, 10, 11, 12, 98], [5, 10, 11, 12, 98, 99, 100, 101, 102, 103, 104, 105, 106, 107, 108, 109, 110, 111, 112, 113, 114, 115, 116]] Tryz.f114 = some F } := by
  refine ⟨?F, ?h⟩
  case h =>
    conv => lhs; cbv
theorem c114 : Cert 114 T114.1 := cert_of T114.2 Tryz.func114
-- internal/stringslite.IndexByte
noncomputable def T115 : { F : AFunc // CT.func [[4], [0, 1, 5, 6, 7]] Tryz.f115 = some F } := by
  refine ⟨?F, ?h⟩
  case h =>
    conv => lhs; cbv
theorem c115 : Cert 115 T115.1 := cert_of T115.2 Tryz.func115
-- internal/bytealg.Cutover
noncomputable def T117 : { F : AFunc // CT.func [[2], [0, 3, 4, 5]] Tryz.f117 = some F } := by
  refine ⟨?F, ?h⟩
  case h =>
    conv => lhs; cbv
theorem c117 : Cert 117 T117.1 := cert_of T117.2 Tryz.func117
-- internal/bytealg.IndexRabinKarp[string]
noncomputable def T118 : { F : AFunc // CT.func [[4], [11, 12, 13, 14, 15], [16, 17], [], [], [18, 19], [21, 22], [20, 23, 24, 25, 26, 27, 28, 29], [9, 20, 30, 31, 32, 33, 34, 35, 36, 37, 38], [0, 1, 5, 6, 7, 8, 39], [39, 40], [41, 42, 43, 77], [44, 45, 46], [47, 48, 49, 50, 51, 52], [53, 54, 55, 56, 57, 58, 59, 60, 61, 62], [63, 64], [65, 66, 67, 68, 69, 70, 71, 72, 73, 74, 75, 76], [0, 1, 5, 6, 7, 8, 10, 77, 78, 79, 80], [0, 1, 5, 6, 7, 8, 10, 44]] Tryz.f118 = some F } := by
  refine ⟨?F, ?h⟩
  case h =>
    conv => lhs; cbv
theorem c118 : Cert 118 T118.1 := cert_of T118.2 Tryz.func118
-- internal/strconv.lower
noncomputable def T119 : { F : AFunc // CT.func [[2], [0, 3, 4]] Tryz.f119 = some F } := by
  refine ⟨?F, ?h⟩
  case h =>
    conv => lhs; cbv
theorem c119 : Cert 119 T119.1 := cert_of T119.2 Tryz.func119
-- internal/strconv.underscoreOK
noncomputable def T120 : { F : AFunc // CT.func [[2], [], [], [6, 7, 8, 9, 10, 11, 12, 13, 14, 15, 16, 17], [18, 19, 20], [18], [21, 22, 23, 24, 25, 26, 27, 28, 29, 30, 31, 32, 33, 34, 35, 36, 37, 38, 39, 40, 41, 42, 43, 44, 45], [3, 5, 46], [], [47, 48, 49, 50], [46, 51, 52, 53], [55, 56], [54, 57, 58, 59, 60, 61, 62, 63, 64, 65, 66, 67, 68, 69, 70, 71, 72, 73, 74, 75, 76, 77, 78, 79, 80, 81, 82], [83], [83, 84, 85, 86], [3, 87, 88], [0, 4, 5, 89], [89], [3, 87, 90], [0, 4, 5, 91], [91], [0, 3, 4, 5, 54, 92, 93]] Tryz.f120 = some F } := by
  refine ⟨?F, ?h⟩
  case h =>
    conv => lhs; cbv
theorem c120 : Cert 120 T120.1 := cert_of T120.2 Tryz.func120
-- math/bits.TrailingZeros32
noncomputable def T121 : { F : AFunc // CT.func [[2], [3], [0, 4], [0, 4, 5, 6, 7, 8, 9, 10, 11, 12, 13]] Tryz.f121 = some F } := by
  refine ⟨?F, ?h⟩
  case h =>
    conv => lhs; cbv
theorem c121 : Cert 121 T121.1 := cert_of T121.2 Tryz.func121
-- math/bits.TrailingZeros64
noncomputable def T122 : { F : AFunc // CT.func [[2], [3], [0, 4], [0, 4, 5, 6, 7, 8, 9, 10, 11, 12, 13]] Tryz.f122 = some F } := by
  refine ⟨?F, ?h⟩
  case h =>
    conv => lhs; cbv
theorem c122 : Cert 122 T122.1 := cert_of T122.2 Tryz.func122
-- internal/bytealg.hashStr[string]
noncomputable def T124 : { F : AFunc // CT.func [[2, 3], [], [], [9, 10, 11], [13, 14], [12, 15, 16, 17, 18, 19, 20, 21], [5, 12], [0, 22, 23], [24], [26, 27], [25, 28, 29], [30, 31, 32, 33], [30, 34, 35, 36], [4, 6, 7, 8, 25, 37, 38]] Tryz.f124 = some F } := by
  refine ⟨?F, ?h⟩
  case h =>
    conv => lhs; cbv
theorem c124 : Cert 124 T124.1 := cert_of T124.2 Tryz.func124
end Go.Proofs.YtnhfbabenifbkaaGreatDoor
