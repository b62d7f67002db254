/- The functions of the cut, written down in the small language. Conditions: none. -/
import Derived.Test.YtmfbmdbabebhmaaGreatLim
set_option maxRecDepth 100000
namespace Mir

def z108 : List V := z27 ++ (z27 ++ (z27 ++ z27))
abbrev f_curvettop_TopForged : Nat := 220
abbrev f_curvettop_awake : Nat := 176
abbrev f_curve_Get : Nat := 177
abbrev f_curvetlaw0_Num : Nat := 15
abbrev f_base_Mul : Nat := 178
abbrev f_curvetlaw0_One : Nat := 24
abbrev f_ecdsa_Verify : Nat := 222
abbrev f_ecdsa_Digest : Nat := 223
abbrev f_divide_Inverse : Nat := 56
abbrev f_affine_Mul : Nat := 182
abbrev f_curve_Open : Nat := 191
abbrev f_nat_Cmp : Nat := 35
abbrev f_base_Times : Nat := 192
abbrev f_hash_Size : Nat := 225
abbrev f_curve_Curve_On : Nat := 193
abbrev f_curve_Curve_Key : Nat := 211
abbrev f_ecdsa_of : Nat := 226
abbrev f_ecdsa_scalars_inv : Nat := 227
abbrev f_dual_Times : Nat := 228
abbrev f_ecdsa_scalars_mul : Nat := 229
abbrev f_ecdsa_digest : Nat := 230
abbrev f_ecdsa_rest : Nat := 231
abbrev f_divide_zero : Nat := 66
abbrev f_divide_Div : Nat := 60
abbrev f_nat_Small : Nat := 38
abbrev f_divide_By : Nat := 67
abbrev f_divide_Modulus_Mul : Nat := 69
abbrev f_nat_Sub : Nat := 25
abbrev f_nat_Add : Nat := 21
abbrev f_affine_do : Nat := 195
abbrev f_affine_Mul_1 : Nat := 197
abbrev f_curve_Curve_Plain : Nat := 198
abbrev f_curve_Curve_Times : Nat := 199
abbrev f_curve_Triple : Nat := 200
abbrev f_field_Of : Nat := 158
abbrev f_curve_rows : Nat := 206
abbrev f_field_Hex : Nat := 168
abbrev f_nat_Bits : Nat := 19
abbrev f_field_Field_Add : Nat := 164
abbrev f_mult_Times : Nat := 202
abbrev f_table_Of : Nat := 203
abbrev f_hash_of : Nat := 232
abbrev f_field_Field_Has : Nat := 159
abbrev f_field_Field_Mul : Nat := 163
abbrev f_curve_Curve_Right : Nat := 207
abbrev f_mont_New : Nat := 88
abbrev f_mont_Mont_To : Nat := 89
abbrev f_mont_Mont_Inv : Nat := 94
abbrev f_mont_Mont_From : Nat := 91
abbrev f_curve_None : Nat := 209
abbrev f_curve_Curve_Sum : Nat := 210
abbrev f_nat_Bit : Nat := 27
abbrev f_mont_Mont_Mul : Nat := 90
abbrev f_hash_Of : Nat := 233
abbrev f_nat_Of : Nat := 11
abbrev f_nat_Shr : Nat := 36
abbrev f_divide_of : Nat := 72
abbrev f_divide_divisor_divide : Nat := 73
abbrev f_nat_Mul : Nat := 23
abbrev f_divide_length : Nat := 76
abbrev f_field_Field_Inv : Nat := 160
abbrev f_field_prime : Nat := 167
abbrev f_nat_used : Nat := 43
abbrev f_bits_Len64 : Nat := 44
abbrev f_window_Digits : Nat := 104
abbrev f_table_Table_Pick : Nat := 212
abbrev f_divide_Modulus_Rest : Nat := 95
abbrev f_mont_Mont_may : Nat := 96
abbrev f_mont_Mont_Raw : Nat := 97
abbrev f_field_Field_Sub : Nat := 165
abbrev f_hash_New : Nat := 234
abbrev f_hash_Stream_Write : Nat := 235
abbrev f_hash_Stream_Sum : Nat := 236
abbrev f_bits_LeadingZeros64 : Nat := 77
abbrev f_divide_divisor_guess : Nat := 78
abbrev f_divide_divisor_take : Nat := 79
abbrev f_divide_divisor_back : Nat := 80
abbrev f_bits_Mul64 : Nat := 45
abbrev f_window_wide : Nat := 113
abbrev f_trace_Trace_Index : Nat := 213
abbrev f_mask_Equal : Nat := 214
abbrev f_mask_Select : Nat := 215
abbrev f_mont_Mont_round : Nat := 98
abbrev f_sha256_New : Nat := 237
abbrev f_hash_bind_sha256_Hash : Nat := 238
abbrev f_sha256_Hash_Write : Nat := 239
abbrev f_sha256_Hash_Sum : Nat := 240
abbrev f_sha512_New : Nat := 241
abbrev f_hash_bind_sha512_Hash : Nat := 242
abbrev f_sha512_Hash_Write : Nat := 243
abbrev f_sha512_Hash_Sum : Nat := 244
abbrev f_bits_Div64 : Nat := 81
abbrev f_mask_Zero : Nat := 216
abbrev f_mask_nat : Nat := 217
abbrev f_mask_chooser_word : Nat := 218
abbrev f_sha256_beginning : Nat := 245
abbrev f_sha256_constants : Nat := 246
abbrev f_hash_bind_sha256_Hash_1 : Nat := 247
abbrev f_hash_bind_sha256_Hash_2 : Nat := 248
abbrev f_sha256_blocks : Nat := 249
abbrev f_sha256_Hash_turn : Nat := 250
abbrev f_mask_spread : Nat := 219
abbrev f_sha256_schedule : Nat := 257
abbrev f_sha256_rotate : Nat := 258
abbrev f_bits_RotateLeft32 : Nat := 261
/-- curvet/curvettop.TopForged -/
def c_curvettop_TopForged : Stm :=
 .seq (
 .reg [
 op 8 (.mov (.c (.b false)))] [0, 1, 2, 3]) (
 .seq (
 .seq (
 .reg [
 op 22 (.call f_curvettop_awake [] []),
 op 23 (.un .not (.t 22))] [0, 1, 2, 3, 23]) (
 .cond (.t 23) (
 .seq (
 .reg [
 op 8 (.mov (.c (.b false)))] [8]) (
 .ret)) (
 .reg [] [0, 1, 2, 3]))) (
 .seq (
 .reg [
 mv 24 0,
 op 25 (.cvu 64 (.t 24)),
 op 26 (.bin .rem (.t 25) (.c (.u 64 3))),
 op 27 (.cvi (.t 26)),
 op 28 (.bin .add (.c (.i 13)) (.t 27)),
 mv 9 28] [1, 2, 3, 9]) (
 .seq (
 .reg [
 mv 30 9,
 op 31 (.call f_curve_Get [] [(.t 30)]),
 mv 29 31,
 op 32 (.ext 0 (.t 29)),
 op 33 (.ext 1 (.t 29)),
 op 10 (.box (.c (.agg z59))),
 ⟨none, none, .stl 10 59 (.t 10) (.t 32)⟩,
 mv 11 33] [1, 2, 3, 9, 10, 11]) (
 .seq (
 .seq (
 .reg [
 mv 34 11,
 op 35 (.call f_curvetlaw0_Num [] [(.t 34)]),
 op 36 (.bin .neq (.t 35) (.c (.i 0))),
 mv 37 36,
 ⟨some 38, (some (37, false)), .off 28 (.t 10)⟩,
 ⟨some 39, (some (37, false)), .off 0 (.t 38)⟩,
 ⟨some 40, (some (37, false)), .idx 9 1 (.t 39) (.c (.i 0))⟩,
 ⟨some 41, (some (37, false)), .ldl 10 none (.t 40)⟩,
 ⟨some 42, (some (37, false)), .bin .gtr (.t 41) (.c (.u 64 255))⟩,
 op 43 (.pick (.t 37) (.c (.b true)) (.t 42)),
 mv 44 43,
 ⟨some 45, (some (44, false)), .off 28 (.t 10)⟩,
 ⟨some 46, (some (44, false)), .off 0 (.t 45)⟩,
 ⟨some 47, (some (44, false)), .idx 9 1 (.t 46) (.c (.i 0))⟩,
 ⟨some 48, (some (44, false)), .ldl 10 none (.t 47)⟩,
 ⟨some 49, (some (44, false)), .bin .lss (.t 48) (.c (.u 64 3))⟩,
 op 50 (.pick (.t 44) (.c (.b true)) (.t 49))] [1, 2, 3, 9, 10, 50]) (
 .cond (.t 50) (
 .seq (
 .reg [
 op 8 (.mov (.c (.b false)))] [8]) (
 .ret)) (
 .reg [] [1, 2, 3, 9, 10]))) (
 .seq (
 .reg [
 op 51 (.off 28 (.t 10)),
 op 52 (.off 0 (.t 51)),
 op 53 (.idx 9 1 (.t 52) (.c (.i 0))),
 op 54 (.ldl 10 none (.t 53)),
 op 55 (.cvi (.t 54)),
 mv 12 55] [1, 2, 3, 9, 12]) (
 .seq (
 .reg [
 mv 57 9,
 mv 58 1,
 op 59 (.cvu 64 (.t 58)),
 mv 60 12,
 op 61 (.bin .sub (.t 60) (.c (.i 1))),
 op 62 (.cvu 64 (.t 61)),
 op 63 (.bin .rem (.t 59) (.t 62)),
 op 64 (.cvi (.t 63)),
 op 65 (.bin .add (.c (.i 1)) (.t 64)),
 op 66 (.cvu 64 (.t 65)),
 op 67 (.call f_curvetlaw0_One [] [(.t 66)]),
 op 68 (.callo f_base_Mul [(.c (.nilp)), (.t 57), (.t 67)]),
 mv 56 68,
 op 69 (.ext 0 (.t 56)),
 op 70 (.ext 1 (.t 56)),
 op 13 (.box (.c (.agg z19))),
 ⟨none, none, .stl 13 19 (.t 13) (.t 69)⟩,
 mv 14 70] [2, 3, 9, 12, 13, 14]) (
 .seq (
 .reg [
 mv 71 3,
 op 72 (.cvu 64 (.t 71)),
 mv 73 12,
 op 74 (.bin .sub (.t 73) (.c (.i 1))),
 op 75 (.cvu 64 (.t 74)),
 op 76 (.bin .rem (.t 72) (.t 75)),
 op 77 (.cvi (.t 76)),
 op 78 (.bin .add (.c (.i 1)) (.t 77)),
 op 79 (.cvu 64 (.t 78)),
 op 80 (.call f_curvetlaw0_One [] [(.t 79)]),
 op 15 (.box (.c (.agg z9))),
 ⟨none, none, .stl 15 9 (.t 15) (.t 80)⟩] [2, 9, 12, 13, 14, 15]) (
 .seq (
 .reg [
 op 16 (.mov (.c (.i 0)))] [2, 9, 12, 13, 14, 15, 16]) (
 .seq (
 .seq (
 .reg [
 op 17 (.mov (.c (.i 1)))] [2, 9, 12, 13, 14, 15, 16, 17]) (
 .block 0 (
 .loop [2, 9, 12, 13, 14, 15, 16, 17] (
 .seq (
 .seq (
 .reg [
 mv 81 17,
 mv 82 12,
 op 83 (.bin .lss (.t 81) (.t 82))] [2, 9, 12, 13, 14, 15, 16, 17, 83]) (
 .cond (.t 83) (
 .reg [] [2, 9, 12, 13, 14, 15, 16, 17]) (
 .exit 0 [9, 12, 14, 15, 16]))) (
 .seq (
 .block 1 (
 .seq (
 .reg [
 mv 86 9,
 op 87 (.ldl 13 (some 19) (.t 13)),
 mv 88 2,
 op 89 (.ldl 15 (some 9) (.t 15)),
 mv 90 17,
 op 91 (.cvu 64 (.t 90)),
 op 92 (.call f_curvetlaw0_One [] [(.t 91)]),
 op 93 (.build z18 [(0, 9, (.t 89)), (9, 9, (.t 92))]),
 op 94 (.call f_ecdsa_Verify [] [(.t 86), (.c (.i 2)), (.t 87), (.t 88), (.t 93)])] [2, 9, 12, 13, 14, 15, 16, 17, 94]) (
 .cond (.t 94) (
 .reg [
 mv 95 16,
 op 96 (.bin .add (.t 95) (.c (.i 1))),
 mv 16 96] [2, 9, 12, 13, 14, 15, 16, 17]) (
 .reg [] [2, 9, 12, 13, 14, 15, 16, 17])))) (
 .reg [
 mv 84 17,
 op 85 (.bin .add (.t 84) (.c (.i 1))),
 mv 17 85] [2, 9, 12, 13, 14, 15, 16, 17])))))) (
 .seq (
 .reg [
 op 18 (.mov (.c (.i 0)))] [9, 12, 14, 15, 16, 18]) (
 .seq (
 .seq (
 .reg [
 op 19 (.mov (.c (.i 1)))] [9, 12, 14, 15, 16, 18, 19]) (
 .block 2 (
 .loop [9, 12, 14, 15, 16, 18, 19] (
 .seq (
 .seq (
 .reg [
 mv 97 19,
 mv 98 12,
 op 99 (.bin .lss (.t 97) (.t 98))] [9, 12, 14, 15, 16, 18, 19, 99]) (
 .cond (.t 99) (
 .reg [] [9, 12, 14, 15, 16, 18, 19]) (
 .exit 2 [14, 16, 18]))) (
 .seq (
 .block 3 (
 .seq (
 .reg [
 mv 103 9,
 mv 104 19,
 op 105 (.cvu 64 (.t 104)),
 op 106 (.call f_curvetlaw0_One [] [(.t 105)]),
 op 107 (.callo f_base_Mul [(.c (.nilp)), (.t 103), (.t 106)]),
 mv 102 107,
 op 108 (.ext 0 (.t 102)),
 op 109 (.ext 1 (.t 102)),
 op 20 (.box (.c (.agg z19))),
 ⟨none, none, .stl 20 19 (.t 20) (.t 108)⟩,
 mv 21 109] [9, 12, 14, 15, 16, 18, 19, 20, 21]) (
 .seq (
 .seq (
 .reg [
 mv 110 21,
 op 111 (.call f_curvetlaw0_Num [] [(.t 110)]),
 op 112 (.bin .neq (.t 111) (.c (.i 0)))] [9, 12, 14, 15, 16, 18, 19, 20, 112]) (
 .cond (.t 112) (
 .seq (
 .reg [
 op 8 (.mov (.c (.b false)))] [8]) (
 .ret)) (
 .reg [] [9, 12, 14, 15, 16, 18, 19, 20]))) (
 .seq (
 .reg [
 op 113 (.off 0 (.t 20)),
 op 114 (.off 0 (.t 113)),
 op 115 (.idx 9 1 (.t 114) (.c (.i 0))),
 op 116 (.ldl 20 none (.t 115)),
 mv 117 12,
 op 118 (.cvu 64 (.t 117)),
 op 119 (.bin .rem (.t 116) (.t 118)),
 op 120 (.off 0 (.t 15)),
 op 121 (.idx 9 1 (.t 120) (.c (.i 0))),
 op 122 (.ldl 15 none (.t 121)),
 op 123 (.bin .eql (.t 119) (.t 122))] [9, 12, 14, 15, 16, 18, 19, 123]) (
 .cond (.t 123) (
 .reg [
 mv 124 18,
 op 125 (.bin .add (.t 124) (.c (.i 1))),
 mv 18 125] [9, 12, 14, 15, 16, 18, 19]) (
 .reg [] [9, 12, 14, 15, 16, 18, 19])))))) (
 .reg [
 mv 100 19,
 op 101 (.bin .add (.t 100) (.c (.i 1))),
 mv 19 101] [9, 12, 14, 15, 16, 18, 19])))))) (
 .seq (
 .reg [
 mv 126 14,
 op 127 (.call f_curvetlaw0_Num [] [(.t 126)]),
 op 128 (.bin .eql (.t 127) (.c (.i 0))),
 mv 129 128,
 ⟨some 130, (some (129, true)), .mov (.t 16)⟩,
 ⟨some 131, (some (129, true)), .mov (.t 18)⟩,
 ⟨some 132, (some (129, true)), .bin .eql (.t 130) (.t 131)⟩,
 ⟨some 133, (some (129, true)), .mov (.t 132)⟩,
 ⟨some 134, (some (133, false)), .mov (.t 16)⟩,
 ⟨some 135, (some (133, false)), .bin .eql (.t 134) (.c (.i 0))⟩,
 ⟨some 136, (some (129, true)), .pick (.t 133) (.c (.b true)) (.t 135)⟩,
 op 137 (.pick (.t 129) (.t 136) (.c (.b false))),
 mv 138 137,
 ⟨some 139, (some (138, true)), .mov (.t 18)⟩,
 ⟨some 140, (some (138, true)), .bin .rem (.t 139) (.c (.i 2))⟩,
 ⟨some 141, (some (138, true)), .bin .eql (.t 140) (.c (.i 0))⟩,
 op 142 (.pick (.t 138) (.t 141) (.c (.b false))),
 mv 8 142] [8]) (
 .ret)))))))))))))
def m_curvettop_TopForged : MFn := ⟨c_curvettop_TopForged, [.tmp 8], 0⟩

/-- curvet/curvettop.awake -/
def c_curvettop_awake : Stm :=
 .seq (
 .reg [
 op 0 (.mov (.c (.b false)))] []) (
 .seq (
 .reg [
 op 8 (.call f_curve_Get [] [(.c (.i 13))]),
 mv 7 8,
 op 9 (.ext 0 (.t 7)),
 op 10 (.ext 1 (.t 7)),
 op 1 (.box (.c (.agg z59))),
 ⟨none, none, .stl 1 59 (.t 1) (.t 9)⟩,
 mv 2 10] [1, 2]) (
 .seq (
 .reg [
 op 12 (.off 28 (.t 1)),
 op 13 (.ldl 1 (some 9) (.t 12)),
 op 14 (.off 37 (.t 1)),
 op 15 (.ldl 1 (some 19) (.t 14)),
 op 16 (.call f_affine_Mul [] [(.c (.i 13)), (.t 13), (.t 15)]),
 mv 11 16,
 op 17 (.ext 0 (.t 11)),
 op 18 (.ext 1 (.t 11)),
 op 3 (.box (.c (.agg z19))),
 ⟨none, none, .stl 3 19 (.t 3) (.t 17)⟩,
 mv 4 18] [1, 2, 3, 4]) (
 .seq (
 .reg [
 op 20 (.call f_curvetlaw0_One [] [(.c (.u 64 1))]),
 op 21 (.callo f_base_Mul [(.c (.nilp)), (.c (.i 13)), (.t 20)]),
 mv 19 21,
 op 22 (.ext 0 (.t 19)),
 op 23 (.ext 1 (.t 19)),
 op 5 (.box (.c (.agg z19))),
 ⟨none, none, .stl 5 19 (.t 5) (.t 22)⟩,
 mv 6 23] [1, 2, 3, 4, 5, 6]) (
 .seq (
 .reg [
 mv 24 2,
 op 25 (.call f_curvetlaw0_Num [] [(.t 24)]),
 op 26 (.bin .eql (.t 25) (.c (.i 0))),
 mv 27 26,
 ⟨some 28, (some (27, true)), .mov (.t 4)⟩,
 ⟨some 29, (some (27, true)), .call f_curvetlaw0_Num [] [(.t 28)]⟩,
 ⟨some 30, (some (27, true)), .bin .eql (.t 29) (.c (.i 0))⟩,
 op 31 (.pick (.t 27) (.t 30) (.c (.b false))),
 mv 32 31,
 ⟨some 33, (some (32, true)), .off 18 (.t 3)⟩,
 ⟨some 34, (some (32, true)), .ldl 3 none (.t 33)⟩,
 op 35 (.pick (.t 32) (.t 34) (.c (.b false))),
 mv 36 35,
 ⟨some 37, (some (36, true)), .mov (.t 6)⟩,
 ⟨some 38, (some (36, true)), .call f_curvetlaw0_Num [] [(.t 37)]⟩,
 ⟨some 39, (some (36, true)), .bin .eql (.t 38) (.c (.i 0))⟩,
 op 40 (.pick (.t 36) (.t 39) (.c (.b false))),
 mv 41 40,
 ⟨some 42, (some (41, true)), .ldl 5 (some 19) (.t 5)⟩,
 ⟨some 43, (some (41, true)), .off 37 (.t 1)⟩,
 ⟨some 44, (some (41, true)), .ldl 1 (some 19) (.t 43)⟩,
 ⟨some 45, (some (41, true)), .eqv (.agg [.u 64, .u 64, .u 64, .u 64, .u 64, .u 64, .u 64, .u 64, .u 64, .u 64, .u 64, .u 64, .u 64, .u 64, .u 64, .u 64, .u 64, .u 64, .b]) false (.t 42) (.t 44)⟩,
 op 46 (.pick (.t 41) (.t 45) (.c (.b false))),
 mv 47 46,
 ⟨some 48, (some (47, true)), .off 37 (.t 1)⟩,
 ⟨some 49, (some (47, true)), .off 18 (.t 48)⟩,
 ⟨some 50, (some (47, true)), .ldl 1 none (.t 49)⟩,
 ⟨some 51, (some (47, true)), .un .not (.t 50)⟩,
 op 52 (.pick (.t 47) (.t 51) (.c (.b false))),
 mv 0 52] [0]) (
 .ret)))))
def m_curvettop_awake : MFn := ⟨c_curvettop_awake, [.tmp 0], 0⟩

/-- curvet/curve.Get -/
def c_curve_Get : Stm :=
 .seq (
 .reg [
 op 2 (.box (.c (.agg z59))),
 op 3 (.mov (.c (.i 0)))] [0, 2]) (
 .seq (
 .reg [
 mv 5 0,
 op 6 (.call f_curve_Open [] [(.t 5)]),
 mv 4 6] [2, 4]) (
 .seq (
 .seq (
 .reg [
 mv 7 4,
 op 8 (.eqv .ptr false (.t 7) (.c (.nilp)))] [2, 4, 8]) (
 .cond (.t 8) (
 .seq (
 .reg [
 op 9 (.build z59 []),
 ⟨none, none, .stl 2 59 (.t 2) (.t 9)⟩,
 op 3 (.mov (.c (.i 1300)))] [2, 3]) (
 .ret)) (
 .reg [] [2, 4]))) (
 .seq (
 .reg [
 mv 10 4,
 op 11 (.nck (.t 10)),
 op 12 (.off 0 (.t 11)),
 op 13 (.ld false (some 59) (.t 12)),
 ⟨none, none, .stl 2 59 (.t 2) (.t 13)⟩,
 op 3 (.mov (.c (.i 0)))] [2, 3]) (
 .ret))))
def m_curve_Get : MFn := ⟨c_curve_Get, [.cell 2 (some 59), .tmp 3], 0⟩

/-- curvet/curvetlaw0.Num -/
def c_curvetlaw0_Num : Stm :=
 .seq (
 .reg [
 op 2 (.mov (.c (.i 0)))] [0]) (
 .seq (
 .reg [
 mv 3 0,
 mv 2 3] [2]) (
 .ret))
def m_curvetlaw0_Num : MFn := ⟨c_curvetlaw0_Num, [.tmp 2], 0⟩

/-- curvet/base.Mul -/
def c_base_Mul : Stm :=
 .seq (
 .reg [
 op 5 (.boxv (.t 2)),
 op 6 (.box (.c (.agg z19))),
 op 7 (.mov (.c (.i 0)))] [0, 1, 5, 6]) (
 .seq (
 .reg [
 mv 9 1,
 op 10 (.call f_curve_Open [] [(.t 9)]),
 mv 8 10] [0, 5, 6, 8]) (
 .seq (
 .block 0 (
 .seq (
 .reg [
 mv 12 8,
 op 13 (.eqv .ptr false (.t 12) (.c (.nilp))),
 mv 11 13] [0, 5, 6, 8, 11]) (
 .cond (.t 11) (
 .seq (
 .reg [
 op 14 (.build z19 []),
 ⟨none, none, .stl 6 19 (.t 6) (.t 14)⟩,
 op 7 (.mov (.c (.i 1900)))] [6, 7]) (
 .ret)) (
 .seq (
 .reg [
 op 16 (.ld true (some 9) (.t 5)),
 mv 17 8,
 op 18 (.nck (.t 17)),
 op 19 (.off 0 (.t 18)),
 op 20 (.off 28 (.t 19)),
 op 21 (.ld false (some 9) (.t 20)),
 op 22 (.call f_nat_Cmp [] [(.t 16), (.t 21)]),
 op 23 (.bin .geq (.t 22) (.c (.i 0))),
 mv 15 23] [0, 5, 6, 8, 15]) (
 .cond (.t 15) (
 .seq (
 .reg [
 op 24 (.build z19 []),
 ⟨none, none, .stl 6 19 (.t 6) (.t 24)⟩,
 op 7 (.mov (.c (.i 1901)))] [6, 7]) (
 .ret)) (
 .reg [] [0, 5, 6, 8])))))) (
 .seq (
 .reg [
 mv 25 0,
 mv 26 8,
 op 27 (.ld true (some 9) (.t 5)),
 op 28 (.callo f_base_Times [(.t 25), (.t 26), (.t 27)]),
 ⟨none, none, .stl 6 19 (.t 6) (.t 28)⟩,
 op 7 (.mov (.c (.i 0)))] [6, 7]) (
 .ret))))
def m_base_Mul : MFn := ⟨c_base_Mul, [.cell 6 (some 19), .tmp 7], 3⟩

/-- curvet/curvetlaw0.One -/
def c_curvetlaw0_One : Stm :=
 .seq (
 .reg [
 op 2 (.box (.c (.agg z9)))] [0, 2]) (
 .seq (
 .reg [
 op 3 (.box (.c (.agg z9)))] [0, 2, 3]) (
 .seq (
 .reg [
 mv 4 0,
 op 5 (.off 0 (.t 3)),
 op 6 (.idx 9 1 (.t 5) (.c (.i 0))),
 ⟨none, none, .stl 3 1 (.t 6) (.t 4)⟩] [2, 3]) (
 .seq (
 .reg [
 op 7 (.ldl 3 (some 9) (.t 3)),
 ⟨none, none, .stl 2 9 (.t 2) (.t 7)⟩] [2]) (
 .ret))))
def m_curvetlaw0_One : MFn := ⟨c_curvetlaw0_One, [.cell 2 (some 9)], 0⟩

/-- curvet/ecdsa.Verify -/
def c_ecdsa_Verify : Stm :=
 .seq (
 .reg [
 op 7 (.boxv (.t 2)),
 op 9 (.boxv (.t 4)),
 op 10 (.mov (.c (.b false)))] [0, 1, 3, 7, 9]) (
 .seq (
 .reg [
 mv 15 0,
 op 16 (.call f_curve_Open [] [(.t 15)]),
 mv 11 16] [1, 3, 7, 9, 11]) (
 .seq (
 .seq (
 .reg [
 mv 17 11,
 op 18 (.eqv .ptr false (.t 17) (.c (.nilp))),
 mv 19 18,
 ⟨some 20, (some (19, false)), .mov (.t 1)⟩,
 ⟨some 21, (some (19, false)), .call f_hash_Size [] [(.t 20)]⟩,
 ⟨some 22, (some (19, false)), .bin .eql (.t 21) (.c (.i 0))⟩,
 op 23 (.pick (.t 19) (.c (.b true)) (.t 22)),
 mv 24 23,
 ⟨some 25, (some (24, false)), .off 18 (.t 7)⟩,
 ⟨some 26, (some (24, false)), .ld true none (.t 25)⟩,
 op 27 (.pick (.t 24) (.c (.b true)) (.t 26)),
 mv 28 27,
 ⟨some 29, (some (28, false)), .mov (.t 11)⟩,
 ⟨some 30, (some (28, false)), .ld true (some 19) (.t 7)⟩,
 ⟨some 31, (some (28, false)), .call f_curve_Curve_On [] [(.t 29), (.t 30)]⟩,
 ⟨some 32, (some (28, false)), .un .not (.t 31)⟩,
 op 33 (.pick (.t 28) (.c (.b true)) (.t 32)),
 mv 34 33,
 ⟨some 35, (some (34, false)), .mov (.t 11)⟩,
 ⟨some 36, (some (34, false)), .off 0 (.t 9)⟩,
 ⟨some 37, (some (34, false)), .ld true (some 9) (.t 36)⟩,
 ⟨some 38, (some (34, false)), .call f_curve_Curve_Key [] [(.t 35), (.t 37)]⟩,
 ⟨some 39, (some (34, false)), .un .not (.t 38)⟩,
 op 40 (.pick (.t 34) (.c (.b true)) (.t 39)),
 mv 41 40,
 ⟨some 42, (some (41, false)), .mov (.t 11)⟩,
 ⟨some 43, (some (41, false)), .off 9 (.t 9)⟩,
 ⟨some 44, (some (41, false)), .ld true (some 9) (.t 43)⟩,
 ⟨some 45, (some (41, false)), .call f_curve_Curve_Key [] [(.t 42), (.t 44)]⟩,
 ⟨some 46, (some (41, false)), .un .not (.t 45)⟩,
 op 47 (.pick (.t 41) (.c (.b true)) (.t 46))] [1, 3, 7, 9, 11, 47]) (
 .cond (.t 47) (
 .seq (
 .reg [
 op 10 (.mov (.c (.b false)))] [10]) (
 .ret)) (
 .reg [] [1, 3, 7, 9, 11]))) (
 .seq (
 .reg [
 mv 48 11,
 op 49 (.call f_ecdsa_of [] [(.t 48)]),
 op 12 (.box (.c (.agg [.nilp, .nilp]))),
 ⟨none, none, .stl 12 2 (.t 12) (.t 49)⟩] [1, 3, 7, 9, 11, 12]) (
 .seq (
 .reg [
 op 50 (.ldl 12 (some 2) (.t 12)),
 op 51 (.off 9 (.t 9)),
 op 52 (.ld true (some 9) (.t 51)),
 op 53 (.call f_ecdsa_scalars_inv [] [(.t 50), (.t 52)]),
 op 13 (.box (.c (.agg z9))),
 ⟨none, none, .stl 13 9 (.t 13) (.t 53)⟩] [1, 3, 7, 9, 11, 12, 13]) (
 .seq (
 .reg [
 mv 54 11,
 op 55 (.ldl 12 (some 2) (.t 12)),
 mv 56 11,
 mv 57 1,
 mv 58 3,
 op 59 (.call f_ecdsa_digest [] [(.t 56), (.t 57), (.t 58)]),
 op 60 (.ldl 13 (some 9) (.t 13)),
 op 61 (.call f_ecdsa_scalars_mul [] [(.t 55), (.t 59), (.t 60)]),
 op 62 (.ldl 12 (some 2) (.t 12)),
 op 63 (.off 0 (.t 9)),
 op 64 (.ld true (some 9) (.t 63)),
 op 65 (.ldl 13 (some 9) (.t 13)),
 op 66 (.call f_ecdsa_scalars_mul [] [(.t 62), (.t 64), (.t 65)]),
 op 67 (.ld true (some 19) (.t 7)),
 op 68 (.call f_dual_Times [] [(.t 54), (.t 61), (.t 66), (.t 67)]),
 op 14 (.box (.c (.agg z19))),
 ⟨none, none, .stl 14 19 (.t 14) (.t 68)⟩] [9, 11, 14]) (
 .seq (
 .reg [
 op 69 (.off 18 (.t 14)),
 op 70 (.ldl 14 none (.t 69)),
 op 71 (.un .not (.t 70)),
 mv 72 71,
 ⟨some 73, (some (72, true)), .mov (.t 11)⟩,
 ⟨some 74, (some (72, true)), .off 0 (.t 14)⟩,
 ⟨some 75, (some (72, true)), .ldl 14 (some 9) (.t 74)⟩,
 ⟨some 76, (some (72, true)), .call f_ecdsa_rest [] [(.t 73), (.t 75)]⟩,
 ⟨some 77, (some (72, true)), .off 0 (.t 9)⟩,
 ⟨some 78, (some (72, true)), .ld true (some 9) (.t 77)⟩,
 ⟨some 79, (some (72, true)), .eqv (.agg [.u 64, .u 64, .u 64, .u 64, .u 64, .u 64, .u 64, .u 64, .u 64]) false (.t 76) (.t 78)⟩,
 op 80 (.pick (.t 72) (.t 79) (.c (.b false))),
 mv 10 80] [10]) (
 .ret)))))))
def m_ecdsa_Verify : MFn := ⟨c_ecdsa_Verify, [.tmp 10], 0⟩

/-- curvet/ecdsa.Digest -/
def c_ecdsa_Digest : Stm :=
 .seq (
 .reg [
 op 6 (.box (.c (.agg z9))),
 op 7 (.mov (.c (.i 0)))] [0, 1, 2, 6]) (
 .seq (
 .reg [
 mv 9 0,
 op 10 (.call f_curve_Open [] [(.t 9)]),
 mv 8 10] [1, 2, 6, 8]) (
 .seq (
 .block 0 (
 .seq (
 .reg [
 mv 12 8,
 op 13 (.eqv .ptr false (.t 12) (.c (.nilp))),
 mv 11 13] [1, 2, 6, 8, 11]) (
 .cond (.t 11) (
 .seq (
 .reg [
 op 14 (.build z9 []),
 ⟨none, none, .stl 6 9 (.t 6) (.t 14)⟩,
 op 7 (.mov (.c (.i 2600)))] [6, 7]) (
 .ret)) (
 .seq (
 .reg [
 mv 16 1,
 op 17 (.call f_hash_Size [] [(.t 16)]),
 op 18 (.bin .eql (.t 17) (.c (.i 0))),
 mv 15 18] [1, 2, 6, 8, 15]) (
 .cond (.t 15) (
 .seq (
 .reg [
 op 19 (.build z9 []),
 ⟨none, none, .stl 6 9 (.t 6) (.t 19)⟩,
 op 7 (.mov (.c (.i 2601)))] [6, 7]) (
 .ret)) (
 .reg [] [1, 2, 6, 8])))))) (
 .seq (
 .reg [
 mv 20 8,
 mv 21 1,
 mv 22 2,
 op 23 (.call f_ecdsa_digest [] [(.t 20), (.t 21), (.t 22)]),
 ⟨none, none, .stl 6 9 (.t 6) (.t 23)⟩,
 op 7 (.mov (.c (.i 0)))] [6, 7]) (
 .ret))))
def m_ecdsa_Digest : MFn := ⟨c_ecdsa_Digest, [.cell 6 (some 9), .tmp 7], 0⟩

/-- curvet/divide.Inverse -/
def c_divide_Inverse : Stm :=
 .seq (
 .reg [
 op 2 (.boxv (.t 0)),
 op 3 (.boxv (.t 1)),
 op 4 (.box (.c (.agg z9))),
 op 5 (.mov (.c (.i 0)))] [2, 3, 4]) (
 .seq (
 .seq (
 .reg [
 op 20 (.call f_divide_zero [] [(.t 3)])] [2, 3, 4, 20]) (
 .cond (.t 20) (
 .seq (
 .reg [
 op 21 (.build z9 []),
 ⟨none, none, .stl 4 9 (.t 4) (.t 21)⟩,
 op 5 (.mov (.c (.i 400)))] [4, 5]) (
 .ret)) (
 .reg [] [2, 3, 4]))) (
 .seq (
 .reg [
 op 23 (.ld true (some 9) (.t 2)),
 op 24 (.ld true (some 9) (.t 3)),
 op 25 (.call f_divide_Div [] [(.t 23), (.t 24)]),
 mv 22 25,
 op 26 (.ext 0 (.t 22)),
 op 27 (.ext 1 (.t 22)),
 op 28 (.ext 2 (.t 22)),
 op 6 (.box (.c (.agg z9))),
 op 7 (.box (.c (.agg z9))),
 ⟨none, none, .stl 6 9 (.t 6) (.t 26)⟩,
 ⟨none, none, .stl 7 9 (.t 7) (.t 27)⟩,
 mv 8 28] [3, 4, 7]) (
 .seq (
 .reg [
 op 29 (.ld true (some 9) (.t 3)),
 op 30 (.ldl 7 (some 9) (.t 7)),
 op 9 (.box (.c (.agg z9))),
 op 10 (.box (.c (.agg z9))),
 ⟨none, none, .stl 9 9 (.t 9) (.t 29)⟩,
 ⟨none, none, .stl 10 9 (.t 10) (.t 30)⟩] [3, 4, 9, 10]) (
 .seq (
 .reg [
 op 31 (.build z9 []),
 op 32 (.call f_nat_Small [] [(.c (.i 1))]),
 op 11 (.box (.c (.agg z9))),
 op 12 (.box (.c (.agg z9))),
 ⟨none, none, .stl 11 9 (.t 11) (.t 31)⟩,
 ⟨none, none, .stl 12 9 (.t 12) (.t 32)⟩] [3, 4, 9, 10, 11, 12]) (
 .seq (
 .reg [
 op 33 (.ld true (some 9) (.t 3)),
 op 34 (.call f_divide_By [] [(.t 33)]),
 op 13 (.box (.c (.agg [.nilp]))),
 ⟨none, none, .stl 13 1 (.t 13) (.t 34)⟩] [3, 4, 9, 10, 11, 12, 13]) (
 .seq (
 .block 0 (
 .loop [3, 4, 9, 10, 11, 12, 13] (
 .seq (
 .seq (
 .reg [
 op 35 (.call f_divide_zero [10] [(.t 10)]),
 op 36 (.un .not (.t 35))] [3, 4, 9, 10, 11, 12, 13, 36]) (
 .cond (.t 36) (
 .reg [] [3, 4, 9, 10, 11, 12, 13]) (
 .exit 0 [3, 4, 9, 11]))) (
 .block 1 (
 .seq (
 .reg [
 op 38 (.ldl 9 (some 9) (.t 9)),
 op 39 (.ldl 10 (some 9) (.t 10)),
 op 40 (.call f_divide_Div [] [(.t 38), (.t 39)]),
 mv 37 40,
 op 41 (.ext 0 (.t 37)),
 op 42 (.ext 1 (.t 37)),
 op 43 (.ext 2 (.t 37)),
 op 14 (.box (.c (.agg z9))),
 op 15 (.box (.c (.agg z9))),
 ⟨none, none, .stl 14 9 (.t 14) (.t 41)⟩,
 ⟨none, none, .stl 15 9 (.t 15) (.t 42)⟩,
 mv 16 43] [3, 4, 9, 10, 11, 12, 13, 14, 15]) (
 .seq (
 .reg [
 op 44 (.ldl 10 (some 9) (.t 10)),
 op 45 (.ldl 15 (some 9) (.t 15)),
 ⟨none, none, .stl 9 9 (.t 9) (.t 44)⟩,
 ⟨none, none, .stl 10 9 (.t 10) (.t 45)⟩] [3, 4, 9, 10, 11, 12, 13, 14]) (
 .seq (
 .reg [
 op 46 (.ldl 13 (some 1) (.t 13)),
 op 47 (.ldl 14 (some 9) (.t 14)),
 op 48 (.ldl 12 (some 9) (.t 12)),
 op 49 (.call f_divide_Modulus_Mul [] [(.t 46), (.t 47), (.t 48)]),
 op 17 (.box (.c (.agg z9))),
 ⟨none, none, .stl 17 9 (.t 17) (.t 49)⟩] [3, 4, 9, 10, 11, 12, 13, 17]) (
 .seq (
 .reg [
 op 51 (.ldl 11 (some 9) (.t 11)),
 op 52 (.ldl 17 (some 9) (.t 17)),
 op 53 (.call f_nat_Sub [] [(.t 51), (.t 52)]),
 mv 50 53,
 op 54 (.ext 0 (.t 50)),
 op 55 (.ext 1 (.t 50)),
 op 18 (.box (.c (.agg z9))),
 ⟨none, none, .stl 18 9 (.t 18) (.t 54)⟩,
 mv 19 55] [3, 4, 9, 10, 11, 12, 13, 18, 19]) (
 .seq (
 .seq (
 .reg [
 mv 56 19] [3, 4, 9, 10, 11, 12, 13, 18, 56]) (
 .cond (.t 56) (
 .reg [
 op 58 (.ldl 18 (some 9) (.t 18)),
 op 59 (.ld true (some 9) (.t 3)),
 op 60 (.call f_nat_Add [] [(.t 58), (.t 59)]),
 mv 57 60,
 op 61 (.ext 0 (.t 57)),
 op 62 (.ext 1 (.t 57)),
 ⟨none, none, .stl 18 9 (.t 18) (.t 61)⟩] [3, 4, 9, 10, 11, 12, 13, 18]) (
 .reg [] [3, 4, 9, 10, 11, 12, 13, 18]))) (
 .reg [
 op 63 (.ldl 12 (some 9) (.t 12)),
 op 64 (.ldl 18 (some 9) (.t 18)),
 ⟨none, none, .stl 11 9 (.t 11) (.t 63)⟩,
 ⟨none, none, .stl 12 9 (.t 12) (.t 64)⟩] [3, 4, 9, 10, 11, 12, 13])))))))))) (
 .seq (
 .seq (
 .reg [
 op 65 (.ldl 9 (some 9) (.t 9)),
 op 66 (.call f_nat_Small [] [(.c (.i 1))]),
 op 67 (.eqv (.agg [.u 64, .u 64, .u 64, .u 64, .u 64, .u 64, .u 64, .u 64, .u 64]) true (.t 65) (.t 66)),
 mv 68 67,
 ⟨some 69, (some (68, false)), .ld true (some 9) (.t 3)⟩,
 ⟨some 70, (some (68, false)), .call f_nat_Small [] [(.c (.i 1))]⟩,
 ⟨some 71, (some (68, false)), .eqv (.agg [.u 64, .u 64, .u 64, .u 64, .u 64, .u 64, .u 64, .u 64, .u 64]) false (.t 69) (.t 70)⟩,
 op 72 (.pick (.t 68) (.c (.b true)) (.t 71))] [4, 11, 72]) (
 .cond (.t 72) (
 .seq (
 .reg [
 op 73 (.build z9 []),
 ⟨none, none, .stl 4 9 (.t 4) (.t 73)⟩,
 op 5 (.mov (.c (.i 401)))] [4, 5]) (
 .ret)) (
 .reg [] [4, 11]))) (
 .seq (
 .reg [
 op 74 (.ldl 11 (some 9) (.t 11)),
 ⟨none, none, .stl 4 9 (.t 4) (.t 74)⟩,
 op 5 (.mov (.c (.i 0)))] [4, 5]) (
 .ret)))))))))
def m_divide_Inverse : MFn := ⟨c_divide_Inverse, [.cell 4 (some 9), .tmp 5], 0⟩

/-- curvet/affine.Mul -/
def c_affine_Mul : Stm :=
 .seq (
 .reg [
 op 4 (.boxv (.t 1)),
 op 5 (.boxv (.t 2)),
 op 6 (.box (.c (.agg z19))),
 op 7 (.mov (.c (.i 0)))] [0, 4, 5, 6]) (
 .seq (
 .reg [
 mv 8 0,
 op 9 (.ld true (some 19) (.t 5)),
 op 10 (.ld true (some 19) (.t 5)),
 op 11 (.fun_ f_affine_Mul_1 [] [(.t 4)]),
 op 12 (.call f_affine_do [] [(.t 8), (.t 9), (.t 10), (.t 11)]),
 op 13 (.ext 0 (.t 12)),
 op 14 (.ext 1 (.t 12)),
 ⟨none, none, .stl 6 19 (.t 6) (.t 13)⟩,
 mv 7 14] [6, 7]) (
 .ret))
def m_affine_Mul : MFn := ⟨c_affine_Mul, [.cell 6 (some 19), .tmp 7], 0⟩

/-- curvet/curve.Open -/
def c_curve_Open : Stm :=
 .seq (
 .reg [
 op 2 (.mov (.c (.nilp)))] [0]) (
 .seq (
 .reg [
 mv 6 0,
 op 7 (.call f_field_Of [] [(.t 6)]),
 mv 3 7] [0, 3]) (
 .seq (
 .seq (
 .reg [
 mv 8 3,
 op 9 (.eqv .ptr false (.t 8) (.c (.nilp)))] [0, 3, 9]) (
 .cond (.t 9) (
 .seq (
 .reg [
 op 2 (.mov (.c (.nilp)))] [2]) (
 .ret)) (
 .reg [] [0, 3]))) (
 .seq (
 .reg [
 mv 10 0,
 op 11 (.call f_curve_rows [] [(.t 10)]),
 op 4 (.box (.c (.agg [.s [], .s [], .s [], .s [], .s []]))),
 ⟨none, none, .stl 4 5 (.t 4) (.t 11)⟩] [0, 3, 4]) (
 .seq (
 .reg [
 mv 12 3,
 op 13 (.build [.i 0, .u 64 0, .u 64 0, .u 64 0, .u 64 0, .u 64 0, .u 64 0, .u 64 0, .u 64 0, .u 64 0, .u 64 0, .u 64 0, .u 64 0, .u 64 0, .u 64 0, .u 64 0, .u 64 0, .u 64 0, .u 64 0, .u 64 0, .u 64 0, .u 64 0, .u 64 0, .u 64 0, .u 64 0, .u 64 0, .u 64 0, .u 64 0, .u 64 0, .u 64 0, .u 64 0, .u 64 0, .u 64 0, .u 64 0, .u 64 0, .u 64 0, .u 64 0, .u 64 0, .u 64 0, .u 64 0, .u 64 0, .u 64 0, .u 64 0, .u 64 0, .u 64 0, .u 64 0, .u 64 0, .u 64 0, .u 64 0, .u 64 0, .u 64 0, .u 64 0, .u 64 0, .u 64 0, .u 64 0, .b false, .i 0, .i 0, .b false, .nilp, .u 64 0, .u 64 0, .u 64 0, .u 64 0, .u 64 0, .u 64 0, .u 64 0, .u 64 0, .u 64 0] [(59, 1, (.t 12))]),
 op 14 (.boxh (.t 13)),
 mv 5 14] [0, 3, 4, 5]) (
 .seq (
 .reg [
 mv 15 5,
 mv 16 5,
 mv 17 5,
 mv 18 5,
 mv 19 0,
 mv 20 3,
 op 21 (.nck (.t 20)),
 op 22 (.off 0 (.t 21)),
 op 23 (.ld true (some 9) (.t 22)),
 op 24 (.off 1 (.t 4)),
 op 25 (.ldl 4 none (.t 24)),
 op 26 (.call f_field_Hex [] [(.t 25)]),
 op 27 (.off 2 (.t 4)),
 op 28 (.ldl 4 none (.t 27)),
 op 29 (.call f_field_Hex [] [(.t 28)]),
 op 30 (.nck (.t 15)),
 op 31 (.off 0 (.t 30)),
 op 32 (.off 0 (.t 31)),
 ⟨none, none, .st 1 (.t 32) (.t 19)⟩,
 op 33 (.nck (.t 16)),
 op 34 (.off 0 (.t 33)),
 op 35 (.off 1 (.t 34)),
 ⟨none, none, .st 9 (.t 35) (.t 23)⟩,
 op 36 (.nck (.t 17)),
 op 37 (.off 0 (.t 36)),
 op 38 (.off 19 (.t 37)),
 ⟨none, none, .st 9 (.t 38) (.t 26)⟩,
 op 39 (.nck (.t 18)),
 op 40 (.off 0 (.t 39)),
 op 41 (.off 28 (.t 40)),
 ⟨none, none, .st 9 (.t 41) (.t 29)⟩] [0, 3, 4, 5]) (
 .seq (
 .seq (
 .reg [
 op 42 (.off 0 (.t 4)),
 op 43 (.ldl 4 none (.t 42)),
 op 44 (.bin .eql (.t 43) (.c (.s [45, 51])))] [0, 3, 4, 5, 44]) (
 .cond (.t 44) (
 .reg [
 mv 46 5,
 mv 47 3,
 op 48 (.nck (.t 47)),
 op 49 (.off 0 (.t 48)),
 op 50 (.ld true (some 9) (.t 49)),
 op 51 (.call f_nat_Small [] [(.c (.i 3))]),
 op 52 (.call f_nat_Sub [] [(.t 50), (.t 51)]),
 mv 45 52,
 op 53 (.ext 0 (.t 45)),
 op 54 (.ext 1 (.t 45)),
 op 55 (.nck (.t 46)),
 op 56 (.off 0 (.t 55)),
 op 57 (.off 10 (.t 56)),
 ⟨none, none, .st 9 (.t 57) (.t 53)⟩] [0, 3, 4, 5]) (
 .reg [
 mv 58 5,
 op 59 (.off 0 (.t 4)),
 op 60 (.ldl 4 none (.t 59)),
 op 61 (.call f_field_Hex [] [(.t 60)]),
 op 62 (.nck (.t 58)),
 op 63 (.off 0 (.t 62)),
 op 64 (.off 10 (.t 63)),
 ⟨none, none, .st 9 (.t 64) (.t 61)⟩] [0, 3, 4, 5]))) (
 .seq (
 .reg [
 mv 65 5,
 op 66 (.off 3 (.t 4)),
 op 67 (.ldl 4 none (.t 66)),
 op 68 (.call f_field_Hex [] [(.t 67)]),
 op 69 (.off 4 (.t 4)),
 op 70 (.ldl 4 none (.t 69)),
 op 71 (.call f_field_Hex [] [(.t 70)]),
 op 72 (.build z19 [(0, 9, (.t 68)), (9, 9, (.t 71))]),
 op 73 (.nck (.t 65)),
 op 74 (.off 0 (.t 73)),
 op 75 (.off 37 (.t 74)),
 ⟨none, none, .st 19 (.t 75) (.t 72)⟩] [0, 3, 5]) (
 .seq (
 .reg [
 mv 76 5,
 mv 77 5,
 mv 78 5,
 op 79 (.nck (.t 78)),
 op 80 (.off 0 (.t 79)),
 op 81 (.off 28 (.t 80)),
 op 82 (.ld false (some 9) (.t 81)),
 op 83 (.call f_nat_Bits [] [(.t 82)]),
 mv 84 3,
 op 85 (.nck (.t 84)),
 op 86 (.off 0 (.t 85)),
 op 87 (.ld true (some 9) (.t 86)),
 op 88 (.call f_nat_Bits [] [(.t 87)]),
 op 89 (.bin .add (.t 88) (.c (.i 7))),
 op 90 (.bin .quo (.t 89) (.c (.i 8))),
 op 91 (.nck (.t 76)),
 op 92 (.off 0 (.t 91)),
 op 93 (.off 56 (.t 92)),
 ⟨none, none, .st 1 (.t 93) (.t 83)⟩,
 op 94 (.nck (.t 77)),
 op 95 (.off 0 (.t 94)),
 op 96 (.off 57 (.t 95)),
 ⟨none, none, .st 1 (.t 96) (.t 90)⟩] [0, 3, 5]) (
 .seq (
 .reg [
 mv 97 5,
 mv 98 0,
 op 99 (.bin .eql (.t 98) (.c (.i 1))),
 mv 100 99,
 ⟨some 101, (some (100, false)), .mov (.t 0)⟩,
 ⟨some 102, (some (100, false)), .bin .eql (.t 101) (.c (.i 7))⟩,
 op 103 (.pick (.t 100) (.c (.b true)) (.t 102)),
 op 104 (.nck (.t 97)),
 op 105 (.off 0 (.t 104)),
 op 106 (.off 58 (.t 105)),
 ⟨none, none, .st 1 (.t 106) (.t 103)⟩] [3, 5]) (
 .seq (
 .reg [
 mv 107 5,
 mv 108 3,
 mv 109 3,
 mv 110 5,
 op 111 (.nck (.t 110)),
 op 112 (.off 0 (.t 111)),
 op 113 (.off 19 (.t 112)),
 op 114 (.ld false (some 9) (.t 113)),
 mv 115 5,
 op 116 (.nck (.t 115)),
 op 117 (.off 0 (.t 116)),
 op 118 (.off 19 (.t 117)),
 op 119 (.ld false (some 9) (.t 118)),
 op 120 (.callp f_field_Field_Add [(.t 109), (.t 114), (.t 119)]),
 mv 121 5,
 op 122 (.nck (.t 121)),
 op 123 (.off 0 (.t 122)),
 op 124 (.off 19 (.t 123)),
 op 125 (.ld false (some 9) (.t 124)),
 op 126 (.call f_field_Field_Add [] [(.t 108), (.t 120), (.t 125)]),
 op 127 (.nck (.t 107)),
 op 128 (.off 60 (.t 127)),
 ⟨none, none, .st 9 (.t 128) (.t 126)⟩] [5]) (
 .seq (
 .reg [
 mv 129 5,
 mv 2 129] [2]) (
 .ret))))))))))))
def m_curve_Open : MFn := ⟨c_curve_Open, [.tmp 2], 0⟩

/-- curvet/nat.Cmp -/
def c_nat_Cmp : Stm :=
 .seq (
 .reg [
 op 2 (.boxv (.t 0)),
 op 3 (.boxv (.t 1)),
 op 4 (.mov (.c (.i 0)))] [2, 3]) (
 .seq (
 .seq (
 .reg [
 op 5 (.mov (.c (.i 8)))] [2, 3, 5]) (
 .block 0 (
 .loop [2, 3, 5] (
 .seq (
 .seq (
 .reg [
 mv 6 5,
 op 7 (.bin .geq (.t 6) (.c (.i 0)))] [2, 3, 5, 7]) (
 .cond (.t 7) (
 .reg [] [2, 3, 5]) (
 .exit 0 []))) (
 .seq (
 .block 1 (
 .block 2 (
 .seq (
 .reg [
 mv 11 5,
 op 12 (.off 0 (.t 2)),
 op 13 (.idx 9 1 (.t 12) (.t 11)),
 op 14 (.ld true none (.t 13)),
 mv 15 5,
 op 16 (.off 0 (.t 3)),
 op 17 (.idx 9 1 (.t 16) (.t 15)),
 op 18 (.ld true none (.t 17)),
 op 19 (.bin .lss (.t 14) (.t 18)),
 mv 10 19] [2, 3, 5, 10]) (
 .cond (.t 10) (
 .seq (
 .reg [
 op 4 (.mov (.c (.i (-1))))] [4]) (
 .ret)) (
 .seq (
 .reg [
 mv 21 5,
 op 22 (.off 0 (.t 2)),
 op 23 (.idx 9 1 (.t 22) (.t 21)),
 op 24 (.ld true none (.t 23)),
 mv 25 5,
 op 26 (.off 0 (.t 3)),
 op 27 (.idx 9 1 (.t 26) (.t 25)),
 op 28 (.ld true none (.t 27)),
 op 29 (.bin .gtr (.t 24) (.t 28)),
 mv 20 29] [2, 3, 5, 20]) (
 .cond (.t 20) (
 .seq (
 .reg [
 op 4 (.mov (.c (.i 1)))] [4]) (
 .ret)) (
 .reg [] [2, 3, 5]))))))) (
 .reg [
 mv 8 5,
 op 9 (.bin .sub (.t 8) (.c (.i 1))),
 mv 5 9] [2, 3, 5])))))) (
 .seq (
 .reg [
 op 4 (.mov (.c (.i 0)))] [4]) (
 .ret)))
def m_nat_Cmp : MFn := ⟨c_nat_Cmp, [.tmp 4], 0⟩

/-- curvet/base.Times -/
def c_base_Times : Stm :=
 .seq (
 .reg [
 op 5 (.boxv (.t 2)),
 op 6 (.box (.c (.agg z19)))] [0, 1, 5, 6]) (
 .seq (
 .reg [
 mv 7 0,
 mv 8 1,
 op 9 (.ld true (some 9) (.t 5)),
 mv 10 1,
 mv 11 1,
 op 12 (.nck (.t 11)),
 op 13 (.off 0 (.t 12)),
 op 14 (.off 37 (.t 13)),
 op 15 (.ld false (some 19) (.t 14)),
 op 16 (.call f_table_Of [] [(.t 10), (.t 15), (.c (.i 16))]),
 op 17 (.callo f_mult_Times [(.t 7), (.t 8), (.t 9), (.t 16)]),
 ⟨none, none, .stl 6 19 (.t 6) (.t 17)⟩] [6]) (
 .ret))
def m_base_Times : MFn := ⟨c_base_Times, [.cell 6 (some 19)], 3⟩

/-- curvet/hash.Size -/
def c_hash_Size : Stm :=
 .seq (
 .reg [
 op 2 (.mov (.c (.i 0)))] [0]) (
 .seq (
 .reg [
 mv 6 0,
 op 7 (.call f_hash_of [] [(.t 6)]),
 mv 5 7,
 op 8 (.ext 0 (.t 5)),
 op 9 (.ext 1 (.t 5)),
 op 3 (.box (.c (.agg [.i 0, .i 0, .i 0]))),
 ⟨none, none, .stl 3 3 (.t 3) (.t 8)⟩,
 mv 4 9] [3]) (
 .seq (
 .reg [
 op 10 (.off 1 (.t 3)),
 op 11 (.ldl 3 none (.t 10)),
 mv 2 11] [2]) (
 .ret)))
def m_hash_Size : MFn := ⟨c_hash_Size, [.tmp 2], 0⟩

/-- (*curvet/curve.Curve).On -/
def c_curve_Curve_On : Stm :=
 .seq (
 .reg [
 op 3 (.boxv (.t 1)),
 op 4 (.mov (.c (.b false)))] [0, 3]) (
 .seq (
 .seq (
 .reg [
 op 5 (.off 18 (.t 3)),
 op 6 (.ld true none (.t 5))] [0, 3, 6]) (
 .cond (.t 6) (
 .seq (
 .reg [
 op 7 (.ld true (some 19) (.t 3)),
 op 8 (.build z19 [(18, 1, (.c (.b true)))]),
 op 9 (.eqv (.agg [.u 64, .u 64, .u 64, .u 64, .u 64, .u 64, .u 64, .u 64, .u 64, .u 64, .u 64, .u 64, .u 64, .u 64, .u 64, .u 64, .u 64, .u 64, .b]) false (.t 7) (.t 8)),
 mv 4 9] [4]) (
 .ret)) (
 .reg [] [0, 3]))) (
 .seq (
 .reg [
 mv 10 0,
 op 11 (.nck (.t 10)),
 op 12 (.off 59 (.t 11)),
 op 13 (.ld false none (.t 12)),
 op 14 (.off 0 (.t 3)),
 op 15 (.ld true (some 9) (.t 14)),
 op 16 (.call f_field_Field_Has [] [(.t 13), (.t 15)]),
 mv 17 16,
 ⟨some 18, (some (17, true)), .mov (.t 0)⟩,
 ⟨some 19, (some (17, true)), .nck (.t 18)⟩,
 ⟨some 20, (some (17, true)), .off 59 (.t 19)⟩,
 ⟨some 21, (some (17, true)), .ld false none (.t 20)⟩,
 ⟨some 22, (some (17, true)), .off 9 (.t 3)⟩,
 ⟨some 23, (some (17, true)), .ld true (some 9) (.t 22)⟩,
 ⟨some 24, (some (17, true)), .call f_field_Field_Has [] [(.t 21), (.t 23)]⟩,
 op 25 (.pick (.t 17) (.t 24) (.c (.b false))),
 mv 26 25,
 ⟨some 27, (some (26, true)), .mov (.t 0)⟩,
 ⟨some 28, (some (26, true)), .nck (.t 27)⟩,
 ⟨some 29, (some (26, true)), .off 59 (.t 28)⟩,
 ⟨some 30, (some (26, true)), .ld false none (.t 29)⟩,
 ⟨some 31, (some (26, true)), .off 9 (.t 3)⟩,
 ⟨some 32, (some (26, true)), .ld true (some 9) (.t 31)⟩,
 ⟨some 33, (some (26, true)), .off 9 (.t 3)⟩,
 ⟨some 34, (some (26, true)), .ld true (some 9) (.t 33)⟩,
 ⟨some 35, (some (26, true)), .call f_field_Field_Mul [] [(.t 30), (.t 32), (.t 34)]⟩,
 ⟨some 36, (some (26, true)), .mov (.t 0)⟩,
 ⟨some 37, (some (26, true)), .off 0 (.t 3)⟩,
 ⟨some 38, (some (26, true)), .ld true (some 9) (.t 37)⟩,
 ⟨some 39, (some (26, true)), .call f_curve_Curve_Right [] [(.t 36), (.t 38)]⟩,
 ⟨some 40, (some (26, true)), .eqv (.agg [.u 64, .u 64, .u 64, .u 64, .u 64, .u 64, .u 64, .u 64, .u 64]) false (.t 35) (.t 39)⟩,
 op 41 (.pick (.t 26) (.t 40) (.c (.b false))),
 mv 4 41] [4]) (
 .ret)))
def m_curve_Curve_On : MFn := ⟨c_curve_Curve_On, [.tmp 4], 0⟩

/-- (*curvet/curve.Curve).Key -/
def c_curve_Curve_Key : Stm :=
 .seq (
 .reg [
 op 3 (.boxv (.t 1)),
 op 4 (.mov (.c (.b false)))] [0, 3]) (
 .seq (
 .reg [
 op 5 (.ld true (some 9) (.t 3)),
 op 6 (.build z9 []),
 op 7 (.eqv (.agg [.u 64, .u 64, .u 64, .u 64, .u 64, .u 64, .u 64, .u 64, .u 64]) true (.t 5) (.t 6)),
 mv 8 7,
 ⟨some 9, (some (8, true)), .ld true (some 9) (.t 3)⟩,
 ⟨some 10, (some (8, true)), .mov (.t 0)⟩,
 ⟨some 11, (some (8, true)), .nck (.t 10)⟩,
 ⟨some 12, (some (8, true)), .off 0 (.t 11)⟩,
 ⟨some 13, (some (8, true)), .off 28 (.t 12)⟩,
 ⟨some 14, (some (8, true)), .ld false (some 9) (.t 13)⟩,
 ⟨some 15, (some (8, true)), .call f_nat_Cmp [] [(.t 9), (.t 14)]⟩,
 ⟨some 16, (some (8, true)), .bin .lss (.t 15) (.c (.i 0))⟩,
 op 17 (.pick (.t 8) (.t 16) (.c (.b false))),
 mv 4 17] [4]) (
 .ret))
def m_curve_Curve_Key : MFn := ⟨c_curve_Curve_Key, [.tmp 4], 0⟩

/-- curvet/ecdsa.of -/
def c_ecdsa_of : Stm :=
 .seq (
 .reg [
 op 2 (.box (.c (.agg [.nilp, .nilp])))] [0, 2]) (
 .seq (
 .reg [
 mv 6 0,
 op 7 (.nck (.t 6)),
 op 8 (.off 0 (.t 7)),
 op 9 (.off 28 (.t 8)),
 op 10 (.ld false (some 9) (.t 9)),
 op 11 (.call f_mont_New [] [(.t 10)]),
 mv 5 11,
 op 12 (.ext 0 (.t 5)),
 op 13 (.ext 1 (.t 5)),
 mv 3 12,
 mv 4 13] [0, 2, 3]) (
 .seq (
 .reg [
 mv 14 0,
 mv 15 3,
 op 16 (.build [.nilp, .nilp] [(0, 1, (.t 14)), (1, 1, (.t 15))]),
 ⟨none, none, .stl 2 2 (.t 2) (.t 16)⟩] [2]) (
 .ret)))
def m_ecdsa_of : MFn := ⟨c_ecdsa_of, [.cell 2 (some 2)], 0⟩

/-- (curvet/ecdsa.scalars).inv -/
def c_ecdsa_scalars_inv : Stm :=
 .seq (
 .reg [
 op 2 (.boxv (.t 0)),
 op 3 (.boxv (.t 1)),
 op 4 (.box (.c (.agg z9)))] [2, 3, 4]) (
 .seq (
 .reg [
 op 8 (.off 1 (.t 2)),
 op 9 (.ld true none (.t 8)),
 op 10 (.ld true (some 9) (.t 3)),
 op 11 (.call f_mont_Mont_To [] [(.t 9), (.t 10)]),
 mv 7 11,
 op 12 (.ext 0 (.t 7)),
 op 13 (.ext 1 (.t 7)),
 op 5 (.box (.c (.agg z9))),
 ⟨none, none, .stl 5 9 (.t 5) (.t 12)⟩,
 mv 6 13] [2, 4, 5]) (
 .seq (
 .reg [
 op 15 (.off 1 (.t 2)),
 op 16 (.ld true none (.t 15)),
 op 17 (.ldl 5 (some 9) (.t 5)),
 op 18 (.call f_mont_Mont_Inv [] [(.t 16), (.t 17)]),
 mv 14 18,
 op 19 (.ext 0 (.t 14)),
 op 20 (.ext 1 (.t 14)),
 ⟨none, none, .stl 5 9 (.t 5) (.t 19)⟩] [2, 4, 5]) (
 .seq (
 .reg [
 op 22 (.off 1 (.t 2)),
 op 23 (.ld true none (.t 22)),
 op 24 (.ldl 5 (some 9) (.t 5)),
 op 25 (.call f_mont_Mont_From [] [(.t 23), (.t 24)]),
 mv 21 25,
 op 26 (.ext 0 (.t 21)),
 op 27 (.ext 1 (.t 21)),
 ⟨none, none, .stl 5 9 (.t 5) (.t 26)⟩] [4, 5]) (
 .seq (
 .reg [
 op 28 (.ldl 5 (some 9) (.t 5)),
 ⟨none, none, .stl 4 9 (.t 4) (.t 28)⟩] [4]) (
 .ret)))))
def m_ecdsa_scalars_inv : MFn := ⟨c_ecdsa_scalars_inv, [.cell 4 (some 9)], 0⟩

/-- curvet/dual.Times -/
def c_dual_Times : Stm :=
 .seq (
 .reg [
 op 5 (.boxv (.t 1)),
 op 6 (.boxv (.t 2)),
 op 7 (.boxv (.t 3)),
 op 8 (.box (.c (.agg z19)))] [0, 5, 6, 7, 8]) (
 .seq (
 .reg [
 mv 15 0,
 op 16 (.nck (.t 15)),
 op 17 (.off 0 (.t 16)),
 op 18 (.off 37 (.t 17)),
 op 19 (.ld false (some 19) (.t 18)),
 op 20 (.call f_curve_Triple [] [(.t 19)]),
 op 21 (.ld true (some 19) (.t 7)),
 op 22 (.call f_curve_Triple [] [(.t 21)]),
 op 9 (.box (.c (.agg z27))),
 op 10 (.box (.c (.agg z27))),
 ⟨none, none, .stl 9 27 (.t 9) (.t 20)⟩,
 ⟨none, none, .stl 10 27 (.t 10) (.t 22)⟩] [0, 5, 6, 8, 9, 10]) (
 .seq (
 .reg [
 op 23 (.call f_curve_None [] []),
 op 24 (.ldl 9 (some 27) (.t 9)),
 op 25 (.ldl 10 (some 27) (.t 10)),
 mv 26 0,
 op 27 (.ldl 9 (some 27) (.t 9)),
 op 28 (.ldl 10 (some 27) (.t 10)),
 op 29 (.call f_curve_Curve_Sum [] [(.t 26), (.t 27), (.t 28)]),
 op 30 (.build z108 [(0, 27, (.t 23)), (27, 27, (.t 24)), (54, 27, (.t 25)), (81, 27, (.t 29))]),
 op 11 (.box (.c (.agg z108))),
 ⟨none, none, .stl 11 108 (.t 11) (.t 30)⟩] [0, 5, 6, 8, 11]) (
 .seq (
 .reg [
 op 31 (.call f_curve_None [] []),
 op 12 (.box (.c (.agg z27))),
 ⟨none, none, .stl 12 27 (.t 12) (.t 31)⟩] [0, 5, 6, 8, 11, 12]) (
 .seq (
 .seq (
 .reg [
 mv 32 0,
 op 33 (.nck (.t 32)),
 op 34 (.off 0 (.t 33)),
 op 35 (.off 56 (.t 34)),
 op 36 (.ld false none (.t 35)),
 op 37 (.bin .sub (.t 36) (.c (.i 1))),
 mv 13 37] [0, 5, 6, 8, 11, 12, 13]) (
 .block 0 (
 .loop [0, 5, 6, 8, 11, 12, 13] (
 .seq (
 .seq (
 .reg [
 mv 38 13,
 op 39 (.bin .geq (.t 38) (.c (.i 0)))] [0, 5, 6, 8, 11, 12, 13, 39]) (
 .cond (.t 39) (
 .reg [] [0, 5, 6, 8, 11, 12, 13]) (
 .exit 0 [0, 8, 12]))) (
 .seq (
 .block 1 (
 .seq (
 .reg [
 mv 42 0,
 op 43 (.ldl 12 (some 27) (.t 12)),
 op 44 (.ldl 12 (some 27) (.t 12)),
 op 45 (.call f_curve_Curve_Sum [] [(.t 42), (.t 43), (.t 44)]),
 ⟨none, none, .stl 12 27 (.t 12) (.t 45)⟩] [0, 5, 6, 8, 11, 12, 13]) (
 .seq (
 .reg [
 op 46 (.ld true (some 9) (.t 5)),
 mv 47 13,
 op 48 (.call f_nat_Bit [] [(.t 46), (.t 47)]),
 op 49 (.ld true (some 9) (.t 6)),
 mv 50 13,
 op 51 (.call f_nat_Bit [] [(.t 49), (.t 50)]),
 op 52 (.bin .mul (.c (.i 2)) (.t 51)),
 op 53 (.bin .add (.t 48) (.t 52)),
 mv 14 53] [0, 5, 6, 8, 11, 12, 13, 14]) (
 .seq (
 .reg [
 mv 54 14,
 op 55 (.bin .gtr (.t 54) (.c (.i 0)))] [0, 5, 6, 8, 11, 12, 13, 14, 55]) (
 .cond (.t 55) (
 .reg [
 mv 56 0,
 op 57 (.ldl 12 (some 27) (.t 12)),
 mv 58 14,
 op 59 (.idx 4 27 (.t 11) (.t 58)),
 op 60 (.ldl 11 (some 27) (.t 59)),
 op 61 (.call f_curve_Curve_Sum [] [(.t 56), (.t 57), (.t 60)]),
 ⟨none, none, .stl 12 27 (.t 12) (.t 61)⟩] [0, 5, 6, 8, 11, 12, 13]) (
 .reg [] [0, 5, 6, 8, 11, 12, 13])))))) (
 .reg [
 mv 40 13,
 op 41 (.bin .sub (.t 40) (.c (.i 1))),
 mv 13 41] [0, 5, 6, 8, 11, 12, 13])))))) (
 .seq (
 .reg [
 mv 62 0,
 op 63 (.ldl 12 (some 27) (.t 12)),
 op 64 (.call f_curve_Curve_Plain [] [(.t 62), (.t 63)]),
 ⟨none, none, .stl 8 19 (.t 8) (.t 64)⟩] [8]) (
 .ret))))))
def m_dual_Times : MFn := ⟨c_dual_Times, [.cell 8 (some 19)], 0⟩

/-- (curvet/ecdsa.scalars).mul -/
def c_ecdsa_scalars_mul : Stm :=
 .seq (
 .reg [
 op 3 (.boxv (.t 0)),
 op 4 (.boxv (.t 1)),
 op 5 (.boxv (.t 2)),
 op 6 (.box (.c (.agg z9)))] [3, 4, 5, 6]) (
 .seq (
 .reg [
 op 11 (.off 1 (.t 3)),
 op 12 (.ld true none (.t 11)),
 op 13 (.fun_ f_mont_Mont_To [(.t 12)] []),
 op 14 (.off 1 (.t 3)),
 op 15 (.ld true none (.t 14)),
 op 16 (.fun_ f_mont_Mont_Mul [(.t 15)] []),
 mv 7 13,
 mv 8 16] [4, 5, 6, 7, 8]) (
 .seq (
 .reg [
 mv 18 7,
 op 19 (.ld true (some 9) (.t 4)),
 op 20 (.cal (.t 18) [(.t 19)]),
 mv 17 20,
 op 21 (.ext 0 (.t 17)),
 op 22 (.ext 1 (.t 17)),
 op 9 (.box (.c (.agg z9))),
 ⟨none, none, .stl 9 9 (.t 9) (.t 21)⟩,
 mv 10 22] [5, 6, 8, 9]) (
 .seq (
 .reg [
 mv 24 8,
 op 25 (.ldl 9 (some 9) (.t 9)),
 op 26 (.ld true (some 9) (.t 5)),
 op 27 (.cal (.t 24) [(.t 25), (.t 26)]),
 mv 23 27,
 op 28 (.ext 0 (.t 23)),
 op 29 (.ext 1 (.t 23)),
 ⟨none, none, .stl 9 9 (.t 9) (.t 28)⟩] [6, 9]) (
 .seq (
 .reg [
 op 30 (.ldl 9 (some 9) (.t 9)),
 ⟨none, none, .stl 6 9 (.t 6) (.t 30)⟩] [6]) (
 .ret)))))
def m_ecdsa_scalars_mul : MFn := ⟨c_ecdsa_scalars_mul, [.cell 6 (some 9)], 0⟩

/-- curvet/ecdsa.digest -/
def c_ecdsa_digest : Stm :=
 .seq (
 .reg [
 op 6 (.box (.c (.agg z9)))] [0, 1, 2, 6]) (
 .seq (
 .reg [
 mv 12 1,
 mv 13 2,
 op 14 (.call f_hash_Of [] [(.t 12), (.t 13)]),
 mv 11 14,
 op 15 (.ext 0 (.t 11)),
 op 16 (.ext 1 (.t 11)),
 mv 7 15,
 mv 8 16] [0, 6, 7]) (
 .seq (
 .reg [
 mv 18 7,
 op 19 (.call f_nat_Of [] [(.t 18)]),
 mv 17 19,
 op 20 (.ext 0 (.t 17)),
 op 21 (.ext 1 (.t 17)),
 op 9 (.box (.c (.agg z9))),
 ⟨none, none, .stl 9 9 (.t 9) (.t 20)⟩,
 mv 10 21] [0, 6, 7, 9]) (
 .seq (
 .reg [
 op 23 (.ldl 9 (some 9) (.t 9)),
 mv 24 7,
 op 25 (.lens (.t 24)),
 op 26 (.bin .mul (.c (.i 8)) (.t 25)),
 mv 27 0,
 op 28 (.nck (.t 27)),
 op 29 (.off 0 (.t 28)),
 op 30 (.off 56 (.t 29)),
 op 31 (.ld false none (.t 30)),
 op 32 (.bin .sub (.t 26) (.t 31)),
 op 33 (.mx (.c (.i 0)) (.t 32)),
 op 34 (.call f_nat_Shr [] [(.t 23), (.t 33)]),
 mv 22 34,
 op 35 (.ext 0 (.t 22)),
 op 36 (.ext 1 (.t 22)),
 ⟨none, none, .stl 9 9 (.t 9) (.t 35)⟩] [0, 6, 9]) (
 .seq (
 .reg [
 mv 37 0,
 op 38 (.ldl 9 (some 9) (.t 9)),
 op 39 (.call f_ecdsa_rest [] [(.t 37), (.t 38)]),
 ⟨none, none, .stl 6 9 (.t 6) (.t 39)⟩] [6]) (
 .ret)))))
def m_ecdsa_digest : MFn := ⟨c_ecdsa_digest, [.cell 6 (some 9)], 0⟩

/-- curvet/ecdsa.rest -/
def c_ecdsa_rest : Stm :=
 .seq (
 .reg [
 op 3 (.boxv (.t 1)),
 op 4 (.box (.c (.agg z9)))] [0, 3, 4]) (
 .seq (
 .reg [
 op 9 (.ld true (some 9) (.t 3)),
 mv 10 0,
 op 11 (.nck (.t 10)),
 op 12 (.off 0 (.t 11)),
 op 13 (.off 28 (.t 12)),
 op 14 (.ld false (some 9) (.t 13)),
 op 15 (.call f_divide_Div [] [(.t 9), (.t 14)]),
 mv 8 15,
 op 16 (.ext 0 (.t 8)),
 op 17 (.ext 1 (.t 8)),
 op 18 (.ext 2 (.t 8)),
 op 5 (.box (.c (.agg z9))),
 op 6 (.box (.c (.agg z9))),
 ⟨none, none, .stl 5 9 (.t 5) (.t 16)⟩,
 ⟨none, none, .stl 6 9 (.t 6) (.t 17)⟩,
 mv 7 18] [4, 6]) (
 .seq (
 .reg [
 op 19 (.ldl 6 (some 9) (.t 6)),
 ⟨none, none, .stl 4 9 (.t 4) (.t 19)⟩] [4]) (
 .ret)))
def m_ecdsa_rest : MFn := ⟨c_ecdsa_rest, [.cell 4 (some 9)], 0⟩

/-- curvet/divide.zero -/
def c_divide_zero : Stm :=
 .seq (
 .reg [
 op 2 (.mov (.c (.b false)))] [0]) (
 .seq (
 .reg [
 mv 3 0,
 op 4 (.nck (.t 3)),
 op 5 (.ld false (some 9) (.t 4)),
 op 6 (.build z9 []),
 op 7 (.eqv (.agg [.u 64, .u 64, .u 64, .u 64, .u 64, .u 64, .u 64, .u 64, .u 64]) false (.t 5) (.t 6)),
 mv 2 7] [2]) (
 .ret))
def m_divide_zero : MFn := ⟨c_divide_zero, [.tmp 2], 0⟩

/-- curvet/divide.Div -/
def c_divide_Div : Stm :=
 .seq (
 .reg [
 op 2 (.boxv (.t 0)),
 op 3 (.boxv (.t 1)),
 op 4 (.box (.c (.agg z9))),
 op 5 (.box (.c (.agg z9))),
 op 6 (.mov (.c (.i 0)))] [2, 3, 4, 5]) (
 .seq (
 .seq (
 .reg [
 op 9 (.call f_divide_zero [] [(.t 3)])] [2, 3, 4, 5, 9]) (
 .cond (.t 9) (
 .seq (
 .reg [
 op 10 (.build z9 []),
 op 11 (.build z9 []),
 ⟨none, none, .stl 4 9 (.t 4) (.t 10)⟩,
 ⟨none, none, .stl 5 9 (.t 5) (.t 11)⟩,
 op 6 (.mov (.c (.i 400)))] [4, 5, 6]) (
 .ret)) (
 .reg [] [2, 3, 4, 5]))) (
 .seq (
 .reg [
 op 13 (.call f_divide_of [] [(.t 3)]),
 op 14 (.off 0 (.t 2)),
 op 15 (.sla true 9 1 (.t 14) none none),
 op 16 (.call f_divide_divisor_divide [] [(.t 13), (.t 15)]),
 mv 12 16,
 op 17 (.ext 0 (.t 12)),
 op 18 (.ext 1 (.t 12)),
 op 7 (.box (.c (.agg z18))),
 op 8 (.box (.c (.agg z9))),
 ⟨none, none, .stl 7 18 (.t 7) (.t 17)⟩,
 ⟨none, none, .stl 8 9 (.t 8) (.t 18)⟩] [4, 5, 7, 8]) (
 .seq (
 .reg [
 op 19 (.off 0 (.t 7)),
 op 20 (.sla true 18 1 (.t 19) none (some (.c (.i 9)))),
 op 21 (.s2a 9 (.t 20)),
 op 22 (.ldl 7 (some 9) (.t 21)),
 op 23 (.build z9 [(0, 9, (.t 22))]),
 op 24 (.ldl 8 (some 9) (.t 8)),
 ⟨none, none, .stl 4 9 (.t 4) (.t 23)⟩,
 ⟨none, none, .stl 5 9 (.t 5) (.t 24)⟩,
 op 6 (.mov (.c (.i 0)))] [4, 5, 6]) (
 .ret))))
def m_divide_Div : MFn := ⟨c_divide_Div, [.cell 4 (some 9), .cell 5 (some 9), .tmp 6], 0⟩

/-- curvet/nat.Small -/
def c_nat_Small : Stm :=
 .seq (
 .reg [
 op 2 (.box (.c (.agg z9)))] [0, 2]) (
 .seq (
 .reg [
 mv 3 0,
 op 4 (.mx (.t 3) (.c (.i 0))),
 op 5 (.cvu 64 (.t 4)),
 op 6 (.build z9 [(0, 1, (.t 5))]),
 op 7 (.build z9 [(0, 9, (.t 6))]),
 ⟨none, none, .stl 2 9 (.t 2) (.t 7)⟩] [2]) (
 .ret))
def m_nat_Small : MFn := ⟨c_nat_Small, [.cell 2 (some 9)], 0⟩

/-- curvet/divide.By -/
def c_divide_By : Stm :=
 .seq (
 .reg [
 op 1 (.boxv (.t 0)),
 op 2 (.box (.c (.agg [.nilp])))] [1, 2]) (
 .seq (
 .reg [
 op 3 (.call f_divide_of [] [(.t 1)]),
 op 4 (.build [.nilp] [(0, 1, (.t 3))]),
 ⟨none, none, .stl 2 1 (.t 2) (.t 4)⟩] [2]) (
 .ret))
def m_divide_By : MFn := ⟨c_divide_By, [.cell 2 (some 1)], 0⟩

/-- (curvet/divide.Modulus).Mul -/
def c_divide_Modulus_Mul : Stm :=
 .seq (
 .reg [
 op 3 (.boxv (.t 0)),
 op 4 (.boxv (.t 1)),
 op 5 (.boxv (.t 2)),
 op 6 (.box (.c (.agg z9)))] [3, 4, 5, 6]) (
 .seq (
 .reg [
 op 10 (.ld true (some 9) (.t 4)),
 op 11 (.ld true (some 9) (.t 5)),
 op 12 (.call f_nat_Mul [] [(.t 10), (.t 11)]),
 op 7 (.box (.c (.agg z18))),
 ⟨none, none, .stl 7 18 (.t 7) (.t 12)⟩] [3, 6, 7]) (
 .seq (
 .reg [
 op 14 (.off 0 (.t 3)),
 op 15 (.ld true none (.t 14)),
 op 16 (.off 0 (.t 7)),
 op 17 (.off 0 (.t 7)),
 op 18 (.sla true 18 1 (.t 17) none none),
 op 19 (.call f_divide_length [7] [(.t 18)]),
 op 20 (.sla true 18 1 (.t 16) none (some (.t 19))),
 op 21 (.call f_divide_divisor_divide [7] [(.t 15), (.t 20)]),
 mv 13 21,
 op 22 (.ext 0 (.t 13)),
 op 23 (.ext 1 (.t 13)),
 op 8 (.box (.c (.agg z18))),
 op 9 (.box (.c (.agg z9))),
 ⟨none, none, .stl 8 18 (.t 8) (.t 22)⟩,
 ⟨none, none, .stl 9 9 (.t 9) (.t 23)⟩] [6, 9]) (
 .seq (
 .reg [
 op 24 (.ldl 9 (some 9) (.t 9)),
 ⟨none, none, .stl 6 9 (.t 6) (.t 24)⟩] [6]) (
 .ret))))
def m_divide_Modulus_Mul : MFn := ⟨c_divide_Modulus_Mul, [.cell 6 (some 9)], 0⟩

/-- curvet/nat.Sub -/
def c_nat_Sub : Stm :=
 .seq (
 .reg [
 op 2 (.box (.t 0)),
 op 3 (.boxv (.t 1)),
 op 4 (.box (.c (.agg z9))),
 op 5 (.mov (.c (.b false)))] [2, 3, 4]) (
 .seq (
 .reg [
 op 6 (.mov (.c (.u 64 0)))] [2, 3, 4, 6]) (
 .seq (
 .seq (
 .reg [
 op 8 (.mov (.c (.i 0)))] [2, 3, 4, 6, 8]) (
 .block 0 (
 .loop [2, 3, 4, 6, 8] (
 .seq (
 .reg [
 op 9 (.bin .lss (.t 8) (.c (.i 9)))] [2, 3, 4, 6, 8, 9]) (
 .seq (
 .cond (.t 9) (
 .reg [] [2, 3, 4, 6, 8]) (
 .exit 0 [2, 4, 6])) (
 .seq (
 .block 1 (
 .seq (
 .reg [
 mv 10 8,
 mv 7 10] [2, 3, 4, 6, 7, 8]) (
 .reg [
 mv 12 7,
 mv 13 7,
 op 14 (.off 0 (.t 2)),
 op 15 (.idx 9 1 (.t 14) (.t 13)),
 op 16 (.ldl 2 none (.t 15)),
 mv 17 7,
 op 18 (.off 0 (.t 3)),
 op 19 (.idx 9 1 (.t 18) (.t 17)),
 op 20 (.ld true none (.t 19)),
 mv 21 6,
 op 22 (.prim .sub64 [(.t 16), (.t 20), (.t 21)]),
 mv 11 22,
 op 23 (.ext 0 (.t 11)),
 op 24 (.ext 1 (.t 11)),
 op 25 (.off 0 (.t 2)),
 op 26 (.idx 9 1 (.t 25) (.t 12)),
 ⟨none, none, .stl 2 1 (.t 26) (.t 23)⟩,
 mv 6 24] [2, 3, 4, 6, 8]))) (
 .reg [
 op 27 (.bin .add (.t 8) (.c (.i 1))),
 mv 8 27] [2, 3, 4, 6, 8]))))))) (
 .seq (
 .reg [
 op 28 (.ldl 2 (some 9) (.t 2)),
 mv 29 6,
 op 30 (.bin .eql (.t 29) (.c (.u 64 1))),
 ⟨none, none, .stl 4 9 (.t 4) (.t 28)⟩,
 mv 5 30] [4, 5]) (
 .ret))))
def m_nat_Sub : MFn := ⟨c_nat_Sub, [.cell 4 (some 9), .tmp 5], 0⟩

/-- curvet/nat.Add -/
def c_nat_Add : Stm :=
 .seq (
 .reg [
 op 2 (.box (.t 0)),
 op 3 (.boxv (.t 1)),
 op 4 (.box (.c (.agg z9))),
 op 5 (.mov (.c (.b false)))] [2, 3, 4]) (
 .seq (
 .reg [
 op 6 (.mov (.c (.u 64 0)))] [2, 3, 4, 6]) (
 .seq (
 .seq (
 .reg [
 op 8 (.mov (.c (.i 0)))] [2, 3, 4, 6, 8]) (
 .block 0 (
 .loop [2, 3, 4, 6, 8] (
 .seq (
 .reg [
 op 9 (.bin .lss (.t 8) (.c (.i 9)))] [2, 3, 4, 6, 8, 9]) (
 .seq (
 .cond (.t 9) (
 .reg [] [2, 3, 4, 6, 8]) (
 .exit 0 [2, 4, 6])) (
 .seq (
 .block 1 (
 .seq (
 .reg [
 mv 10 8,
 mv 7 10] [2, 3, 4, 6, 7, 8]) (
 .reg [
 mv 12 7,
 mv 13 7,
 op 14 (.off 0 (.t 2)),
 op 15 (.idx 9 1 (.t 14) (.t 13)),
 op 16 (.ldl 2 none (.t 15)),
 mv 17 7,
 op 18 (.off 0 (.t 3)),
 op 19 (.idx 9 1 (.t 18) (.t 17)),
 op 20 (.ld true none (.t 19)),
 mv 21 6,
 op 22 (.prim .add64 [(.t 16), (.t 20), (.t 21)]),
 mv 11 22,
 op 23 (.ext 0 (.t 11)),
 op 24 (.ext 1 (.t 11)),
 op 25 (.off 0 (.t 2)),
 op 26 (.idx 9 1 (.t 25) (.t 12)),
 ⟨none, none, .stl 2 1 (.t 26) (.t 23)⟩,
 mv 6 24] [2, 3, 4, 6, 8]))) (
 .reg [
 op 27 (.bin .add (.t 8) (.c (.i 1))),
 mv 8 27] [2, 3, 4, 6, 8]))))))) (
 .seq (
 .reg [
 op 28 (.ldl 2 (some 9) (.t 2)),
 mv 29 6,
 op 30 (.bin .eql (.t 29) (.c (.u 64 1))),
 ⟨none, none, .stl 4 9 (.t 4) (.t 28)⟩,
 mv 5 30] [4, 5]) (
 .ret))))
def m_nat_Add : MFn := ⟨c_nat_Add, [.cell 4 (some 9), .tmp 5], 0⟩

/-- curvet/affine.do -/
def c_affine_do : Stm :=
 .seq (
 .reg [
 op 5 (.boxv (.t 1)),
 op 6 (.boxv (.t 2)),
 op 8 (.box (.c (.agg z19))),
 op 9 (.mov (.c (.i 0)))] [0, 3, 5, 6, 8]) (
 .seq (
 .reg [
 mv 11 0,
 op 12 (.call f_curve_Open [] [(.t 11)]),
 mv 10 12] [3, 5, 6, 8, 10]) (
 .seq (
 .block 0 (
 .seq (
 .reg [
 mv 14 10,
 op 15 (.eqv .ptr false (.t 14) (.c (.nilp))),
 mv 13 15] [3, 5, 6, 8, 10, 13]) (
 .cond (.t 13) (
 .seq (
 .reg [
 op 16 (.build z19 []),
 ⟨none, none, .stl 8 19 (.t 8) (.t 16)⟩,
 op 9 (.mov (.c (.i 1400)))] [8, 9]) (
 .ret)) (
 .seq (
 .reg [
 mv 18 10,
 op 19 (.ld true (some 19) (.t 5)),
 op 20 (.call f_curve_Curve_On [] [(.t 18), (.t 19)]),
 op 21 (.un .not (.t 20)),
 mv 22 21,
 ⟨some 23, (some (22, false)), .mov (.t 10)⟩,
 ⟨some 24, (some (22, false)), .ld true (some 19) (.t 6)⟩,
 ⟨some 25, (some (22, false)), .call f_curve_Curve_On [] [(.t 23), (.t 24)]⟩,
 ⟨some 26, (some (22, false)), .un .not (.t 25)⟩,
 op 27 (.pick (.t 22) (.c (.b true)) (.t 26)),
 mv 17 27] [3, 5, 6, 8, 10, 17]) (
 .cond (.t 17) (
 .seq (
 .reg [
 op 28 (.build z19 []),
 ⟨none, none, .stl 8 19 (.t 8) (.t 28)⟩,
 op 9 (.mov (.c (.i 1401)))] [8, 9]) (
 .ret)) (
 .reg [] [3, 5, 6, 8, 10])))))) (
 .seq (
 .reg [
 mv 29 3,
 mv 30 10,
 op 31 (.build [.nilp] [(0, 1, (.t 30))]),
 op 32 (.ld true (some 19) (.t 5)),
 op 33 (.ld true (some 19) (.t 6)),
 op 34 (.cal (.t 29) [(.t 31), (.t 32), (.t 33)]),
 ⟨none, none, .stl 8 19 (.t 8) (.t 34)⟩,
 op 9 (.mov (.c (.i 0)))] [8, 9]) (
 .ret))))
def m_affine_do : MFn := ⟨c_affine_do, [.cell 8 (some 19), .tmp 9], 0⟩

/-- curvet/affine.Mul$1 -/
def c_affine_Mul_1 : Stm :=
 .seq (
 .reg [
 op 4 (.boxv (.t 0)),
 op 5 (.boxv (.t 1)),
 op 6 (.boxv (.t 2)),
 op 7 (.box (.c (.agg z19)))] [3, 4, 5, 7]) (
 .seq (
 .reg [
 op 8 (.off 0 (.t 4)),
 op 9 (.ld true none (.t 8)),
 op 10 (.off 0 (.t 4)),
 op 11 (.ld true none (.t 10)),
 op 12 (.ld true (some 9) (.t 3)),
 op 13 (.ld true (some 19) (.t 5)),
 op 14 (.call f_curve_Triple [] [(.t 13)]),
 op 15 (.call f_curve_Curve_Times [] [(.t 11), (.t 12), (.t 14)]),
 op 16 (.call f_curve_Curve_Plain [] [(.t 9), (.t 15)]),
 ⟨none, none, .stl 7 19 (.t 7) (.t 16)⟩] [7]) (
 .ret))
def m_affine_Mul_1 : MFn := ⟨c_affine_Mul_1, [.cell 7 (some 19)], 0⟩

/-- (*curvet/curve.Curve).Plain -/
def c_curve_Curve_Plain : Stm :=
 .seq (
 .reg [
 op 3 (.boxv (.t 1)),
 op 4 (.box (.c (.agg z19)))] [0, 3, 4]) (
 .seq (
 .seq (
 .reg [
 op 6 (.off 18 (.t 3)),
 op 7 (.ld true (some 9) (.t 6)),
 op 8 (.build z9 []),
 op 9 (.eqv (.agg [.u 64, .u 64, .u 64, .u 64, .u 64, .u 64, .u 64, .u 64, .u 64]) false (.t 7) (.t 8))] [0, 3, 4, 9]) (
 .cond (.t 9) (
 .seq (
 .reg [
 op 10 (.build z19 [(18, 1, (.c (.b true)))]),
 ⟨none, none, .stl 4 19 (.t 4) (.t 10)⟩] [4]) (
 .ret)) (
 .reg [] [0, 3, 4]))) (
 .seq (
 .reg [
 mv 11 0,
 op 12 (.nck (.t 11)),
 op 13 (.off 59 (.t 12)),
 op 14 (.ld false none (.t 13)),
 op 15 (.off 18 (.t 3)),
 op 16 (.ld true (some 9) (.t 15)),
 op 17 (.call f_field_Field_Inv [] [(.t 14), (.t 16)]),
 op 5 (.box (.c (.agg z9))),
 ⟨none, none, .stl 5 9 (.t 5) (.t 17)⟩] [0, 3, 4, 5]) (
 .seq (
 .reg [
 mv 18 0,
 op 19 (.nck (.t 18)),
 op 20 (.off 59 (.t 19)),
 op 21 (.ld false none (.t 20)),
 op 22 (.off 0 (.t 3)),
 op 23 (.ld true (some 9) (.t 22)),
 op 24 (.ldl 5 (some 9) (.t 5)),
 op 25 (.call f_field_Field_Mul [] [(.t 21), (.t 23), (.t 24)]),
 mv 26 0,
 op 27 (.nck (.t 26)),
 op 28 (.off 59 (.t 27)),
 op 29 (.ld true none (.t 28)),
 op 30 (.off 9 (.t 3)),
 op 31 (.ld true (some 9) (.t 30)),
 op 32 (.ldl 5 (some 9) (.t 5)),
 op 33 (.call f_field_Field_Mul [] [(.t 29), (.t 31), (.t 32)]),
 op 34 (.build z19 [(0, 9, (.t 25)), (9, 9, (.t 33))]),
 ⟨none, none, .stl 4 19 (.t 4) (.t 34)⟩] [4]) (
 .ret))))
def m_curve_Curve_Plain : MFn := ⟨c_curve_Curve_Plain, [.cell 4 (some 19)], 0⟩

/-- (*curvet/curve.Curve).Times -/
def c_curve_Curve_Times : Stm :=
 .seq (
 .reg [
 op 4 (.boxv (.t 1)),
 op 5 (.boxv (.t 2)),
 op 6 (.box (.c (.agg z27)))] [0, 4, 5, 6]) (
 .seq (
 .reg [
 op 9 (.call f_curve_None [] []),
 op 7 (.box (.c (.agg z27))),
 ⟨none, none, .stl 7 27 (.t 7) (.t 9)⟩] [0, 4, 5, 6, 7]) (
 .seq (
 .seq (
 .reg [
 op 10 (.ld true (some 9) (.t 4)),
 op 11 (.call f_nat_Bits [] [(.t 10)]),
 op 12 (.bin .sub (.t 11) (.c (.i 1))),
 mv 8 12] [0, 4, 5, 6, 7, 8]) (
 .block 0 (
 .loop [0, 4, 5, 6, 7, 8] (
 .seq (
 .seq (
 .reg [
 mv 13 8,
 op 14 (.bin .geq (.t 13) (.c (.i 0)))] [0, 4, 5, 6, 7, 8, 14]) (
 .cond (.t 14) (
 .reg [] [0, 4, 5, 6, 7, 8]) (
 .exit 0 [6, 7]))) (
 .seq (
 .block 1 (
 .seq (
 .reg [
 mv 17 0,
 op 18 (.ldl 7 (some 27) (.t 7)),
 op 19 (.ldl 7 (some 27) (.t 7)),
 op 20 (.call f_curve_Curve_Sum [] [(.t 17), (.t 18), (.t 19)]),
 ⟨none, none, .stl 7 27 (.t 7) (.t 20)⟩] [0, 4, 5, 6, 7, 8]) (
 .seq (
 .reg [
 op 21 (.ld true (some 9) (.t 4)),
 mv 22 8,
 op 23 (.call f_nat_Bit [] [(.t 21), (.t 22)]),
 op 24 (.bin .eql (.t 23) (.c (.i 1)))] [0, 4, 5, 6, 7, 8, 24]) (
 .cond (.t 24) (
 .reg [
 mv 25 0,
 op 26 (.ldl 7 (some 27) (.t 7)),
 op 27 (.ld true (some 27) (.t 5)),
 op 28 (.call f_curve_Curve_Sum [] [(.t 25), (.t 26), (.t 27)]),
 ⟨none, none, .stl 7 27 (.t 7) (.t 28)⟩] [0, 4, 5, 6, 7, 8]) (
 .reg [] [0, 4, 5, 6, 7, 8]))))) (
 .reg [
 mv 15 8,
 op 16 (.bin .sub (.t 15) (.c (.i 1))),
 mv 8 16] [0, 4, 5, 6, 7, 8])))))) (
 .seq (
 .reg [
 op 29 (.ldl 7 (some 27) (.t 7)),
 ⟨none, none, .stl 6 27 (.t 6) (.t 29)⟩] [6]) (
 .ret))))
def m_curve_Curve_Times : MFn := ⟨c_curve_Curve_Times, [.cell 6 (some 27)], 0⟩

/-- curvet/curve.Triple -/
def c_curve_Triple : Stm :=
 .seq (
 .reg [
 op 1 (.boxv (.t 0)),
 op 2 (.box (.c (.agg z27)))] [1, 2]) (
 .seq (
 .seq (
 .reg [
 op 3 (.off 18 (.t 1)),
 op 4 (.ld true none (.t 3))] [1, 2, 4]) (
 .cond (.t 4) (
 .seq (
 .reg [
 op 5 (.call f_curve_None [] []),
 ⟨none, none, .stl 2 27 (.t 2) (.t 5)⟩] [2]) (
 .ret)) (
 .reg [] [1, 2]))) (
 .seq (
 .reg [
 op 6 (.off 0 (.t 1)),
 op 7 (.ld true (some 9) (.t 6)),
 op 8 (.off 9 (.t 1)),
 op 9 (.ld true (some 9) (.t 8)),
 op 10 (.call f_nat_Small [] [(.c (.i 1))]),
 op 11 (.build z27 [(0, 9, (.t 7)), (9, 9, (.t 9)), (18, 9, (.t 10))]),
 ⟨none, none, .stl 2 27 (.t 2) (.t 11)⟩] [2]) (
 .ret)))
def m_curve_Triple : MFn := ⟨c_curve_Triple, [.cell 2 (some 27)], 0⟩

/-- curvet/field.Of -/
def c_field_Of : Stm :=
 .seq (
 .reg [
 op 2 (.mov (.c (.nilp)))] [0]) (
 .seq (
 .reg [
 mv 5 0,
 op 6 (.call f_field_prime [] [(.t 5)]),
 mv 3 6] [3]) (
 .seq (
 .seq (
 .reg [
 mv 7 3,
 op 8 (.bin .eql (.t 7) (.c (.s [])))] [3, 8]) (
 .cond (.t 8) (
 .seq (
 .reg [
 op 2 (.mov (.c (.nilp)))] [2]) (
 .ret)) (
 .reg [] [3]))) (
 .seq (
 .reg [
 mv 9 3,
 op 10 (.call f_field_Hex [] [(.t 9)]),
 op 4 (.box (.c (.agg z9))),
 ⟨none, none, .stl 4 9 (.t 4) (.t 10)⟩] [4]) (
 .seq (
 .reg [
 op 11 (.ldl 4 (some 9) (.t 4)),
 op 12 (.ldl 4 (some 9) (.t 4)),
 op 13 (.call f_divide_By [] [(.t 12)]),
 op 14 (.build [.u 64 0, .u 64 0, .u 64 0, .u 64 0, .u 64 0, .u 64 0, .u 64 0, .u 64 0, .u 64 0, .nilp] [(0, 9, (.t 11)), (9, 1, (.t 13))]),
 op 15 (.boxv (.t 14)),
 mv 2 15] [2]) (
 .ret)))))
def m_field_Of : MFn := ⟨c_field_Of, [.tmp 2], 0⟩

/-- curvet/curve.rows -/
def c_curve_rows : Stm :=
 .seq (
 .reg [
 op 2 (.box (.c (.agg [.s [], .s [], .s [], .s [], .s []])))] [0, 2]) (
 .seq (
 .seq (
 .reg [
 mv 3 0] [2, 3]) (
 .block 0 (
 .seq (
 .reg [
 op 5 (.bin .eql (.t 3) (.c (.i 1))),
 mv 4 5] [2, 3, 4]) (
 .cond (.t 4) (
 .seq (
 .reg [
 op 6 (.build [.s [], .s [], .s [], .s [], .s []] [(0, 1, (.c (.s [45, 51]))), (1, 1, (.c (.s [54, 52, 50, 49, 48, 53, 49, 57, 101, 53, 57, 99, 56, 48, 101, 55, 48, 102, 97, 55, 101, 57, 97, 98, 55, 50, 50, 52, 51, 48, 52, 57, 102, 101, 98, 56, 100, 101, 101, 99, 99, 49, 52, 54, 98, 57, 98, 49]))), (2, 1, (.c (.s [102, 102, 102, 102, 102, 102, 102, 102, 102, 102, 102, 102, 102, 102, 102, 102, 102, 102, 102, 102, 102, 102, 102, 102, 57, 57, 100, 101, 102, 56, 51, 54, 49, 52, 54, 98, 99, 57, 98, 49, 98, 52, 100, 50, 50, 56, 51, 49]))), (3, 1, (.c (.s [49, 56, 56, 100, 97, 56, 48, 101, 98, 48, 51, 48, 57, 48, 102, 54, 55, 99, 98, 102, 50, 48, 101, 98, 52, 51, 97, 49, 56, 56, 48, 48, 102, 52, 102, 102, 48, 97, 102, 100, 56, 50, 102, 102, 49, 48, 49, 50]))), (4, 1, (.c (.s [48, 55, 49, 57, 50, 98, 57, 53, 102, 102, 99, 56, 100, 97, 55, 56, 54, 51, 49, 48, 49, 49, 101, 100, 54, 98, 50, 52, 99, 100, 100, 53, 55, 51, 102, 57, 55, 55, 97, 49, 49, 101, 55, 57, 52, 56, 49, 49])))]),
 ⟨none, none, .stl 2 5 (.t 2) (.t 6)⟩] [2]) (
 .ret)) (
 .seq (
 .reg [
 op 8 (.bin .eql (.t 3) (.c (.i 2))),
 mv 7 8] [2, 3, 7]) (
 .cond (.t 7) (
 .seq (
 .reg [
 op 9 (.build [.s [], .s [], .s [], .s [], .s []] [(0, 1, (.c (.s [45, 51]))), (1, 1, (.c (.s [98, 52, 48, 53, 48, 97, 56, 53, 48, 99, 48, 52, 98, 51, 97, 98, 102, 53, 52, 49, 51, 50, 53, 54, 53, 48, 52, 52, 98, 48, 98, 55, 100, 55, 98, 102, 100, 56, 98, 97, 50, 55, 48, 98, 51, 57, 52, 51, 50, 51, 53, 53, 102, 102, 98, 52]))), (2, 1, (.c (.s [102, 102, 102, 102, 102, 102, 102, 102, 102, 102, 102, 102, 102, 102, 102, 102, 102, 102, 102, 102, 102, 102, 102, 102, 102, 102, 102, 102, 49, 54, 97, 50, 101, 48, 98, 56, 102, 48, 51, 101, 49, 51, 100, 100, 50, 57, 52, 53, 53, 99, 53, 99, 50, 97, 51, 100]))), (3, 1, (.c (.s [98, 55, 48, 101, 48, 99, 98, 100, 54, 98, 98, 52, 98, 102, 55, 102, 51, 50, 49, 51, 57, 48, 98, 57, 52, 97, 48, 51, 99, 49, 100, 51, 53, 54, 99, 50, 49, 49, 50, 50, 51, 52, 51, 50, 56, 48, 100, 54, 49, 49, 53, 99, 49, 100, 50, 49]))), (4, 1, (.c (.s [98, 100, 51, 55, 54, 51, 56, 56, 98, 53, 102, 55, 50, 51, 102, 98, 52, 99, 50, 50, 100, 102, 101, 54, 99, 100, 52, 51, 55, 53, 97, 48, 53, 97, 48, 55, 52, 55, 54, 52, 52, 52, 100, 53, 56, 49, 57, 57, 56, 53, 48, 48, 55, 101, 51, 52])))]),
 ⟨none, none, .stl 2 5 (.t 2) (.t 9)⟩] [2]) (
 .ret)) (
 .seq (
 .reg [
 op 11 (.bin .eql (.t 3) (.c (.i 3))),
 mv 10 11] [2, 3, 10]) (
 .cond (.t 10) (
 .seq (
 .reg [
 op 12 (.build [.s [], .s [], .s [], .s [], .s []] [(0, 1, (.c (.s [45, 51]))), (1, 1, (.c (.s [53, 97, 99, 54, 51, 53, 100, 56, 97, 97, 51, 97, 57, 51, 101, 55, 98, 51, 101, 98, 98, 100, 53, 53, 55, 54, 57, 56, 56, 54, 98, 99, 54, 53, 49, 100, 48, 54, 98, 48, 99, 99, 53, 51, 98, 48, 102, 54, 51, 98, 99, 101, 51, 99, 51, 101, 50, 55, 100, 50, 54, 48, 52, 98]))), (2, 1, (.c (.s [102, 102, 102, 102, 102, 102, 102, 102, 48, 48, 48, 48, 48, 48, 48, 48, 102, 102, 102, 102, 102, 102, 102, 102, 102, 102, 102, 102, 102, 102, 102, 102, 98, 99, 101, 54, 102, 97, 97, 100, 97, 55, 49, 55, 57, 101, 56, 52, 102, 51, 98, 57, 99, 97, 99, 50, 102, 99, 54, 51, 50, 53, 53, 49]))), (3, 1, (.c (.s [54, 98, 49, 55, 100, 49, 102, 50, 101, 49, 50, 99, 52, 50, 52, 55, 102, 56, 98, 99, 101, 54, 101, 53, 54, 51, 97, 52, 52, 48, 102, 50, 55, 55, 48, 51, 55, 100, 56, 49, 50, 100, 101, 98, 51, 51, 97, 48, 102, 52, 97, 49, 51, 57, 52, 53, 100, 56, 57, 56, 99, 50, 57, 54]))), (4, 1, (.c (.s [52, 102, 101, 51, 52, 50, 101, 50, 102, 101, 49, 97, 55, 102, 57, 98, 56, 101, 101, 55, 101, 98, 52, 97, 55, 99, 48, 102, 57, 101, 49, 54, 50, 98, 99, 101, 51, 51, 53, 55, 54, 98, 51, 49, 53, 101, 99, 101, 99, 98, 98, 54, 52, 48, 54, 56, 51, 55, 98, 102, 53, 49, 102, 53])))]),
 ⟨none, none, .stl 2 5 (.t 2) (.t 12)⟩] [2]) (
 .ret)) (
 .seq (
 .reg [
 op 14 (.bin .eql (.t 3) (.c (.i 4))),
 mv 13 14] [2, 3, 13]) (
 .cond (.t 13) (
 .seq (
 .reg [
 op 15 (.build [.s [], .s [], .s [], .s [], .s []] [(0, 1, (.c (.s [45, 51]))), (1, 1, (.c (.s [98, 51, 51, 49, 50, 102, 97, 55, 101, 50, 51, 101, 101, 55, 101, 52, 57, 56, 56, 101, 48, 53, 54, 98, 101, 51, 102, 56, 50, 100, 49, 57, 49, 56, 49, 100, 57, 99, 54, 101, 102, 101, 56, 49, 52, 49, 49, 50, 48, 51, 49, 52, 48, 56, 56, 102, 53, 48, 49, 51, 56, 55, 53, 97, 99, 54, 53, 54, 51, 57, 56, 100, 56, 97, 50, 101, 100, 49, 57, 100, 50, 97, 56, 53, 99, 56, 101, 100, 100, 51, 101, 99, 50, 97, 101, 102]))), (2, 1, (.c (.s [102, 102, 102, 102, 102, 102, 102, 102, 102, 102, 102, 102, 102, 102, 102, 102, 102, 102, 102, 102, 102, 102, 102, 102, 102, 102, 102, 102, 102, 102, 102, 102, 102, 102, 102, 102, 102, 102, 102, 102, 102, 102, 102, 102, 102, 102, 102, 102, 99, 55, 54, 51, 52, 100, 56, 49, 102, 52, 51, 55, 50, 100, 100, 102, 53, 56, 49, 97, 48, 100, 98, 50, 52, 56, 98, 48, 97, 55, 55, 97, 101, 99, 101, 99, 49, 57, 54, 97, 99, 99, 99, 53, 50, 57, 55, 51]))), (3, 1, (.c (.s [97, 97, 56, 55, 99, 97, 50, 50, 98, 101, 56, 98, 48, 53, 51, 55, 56, 101, 98, 49, 99, 55, 49, 101, 102, 51, 50, 48, 97, 100, 55, 52, 54, 101, 49, 100, 51, 98, 54, 50, 56, 98, 97, 55, 57, 98, 57, 56, 53, 57, 102, 55, 52, 49, 101, 48, 56, 50, 53, 52, 50, 97, 51, 56, 53, 53, 48, 50, 102, 50, 53, 100, 98, 102, 53, 53, 50, 57, 54, 99, 51, 97, 53, 52, 53, 101, 51, 56, 55, 50, 55, 54, 48, 97, 98, 55]))), (4, 1, (.c (.s [51, 54, 49, 55, 100, 101, 52, 97, 57, 54, 50, 54, 50, 99, 54, 102, 53, 100, 57, 101, 57, 56, 98, 102, 57, 50, 57, 50, 100, 99, 50, 57, 102, 56, 102, 52, 49, 100, 98, 100, 50, 56, 57, 97, 49, 52, 55, 99, 101, 57, 100, 97, 51, 49, 49, 51, 98, 53, 102, 48, 98, 56, 99, 48, 48, 97, 54, 48, 98, 49, 99, 101, 49, 100, 55, 101, 56, 49, 57, 100, 55, 97, 52, 51, 49, 100, 55, 99, 57, 48, 101, 97, 48, 101, 53, 102])))]),
 ⟨none, none, .stl 2 5 (.t 2) (.t 15)⟩] [2]) (
 .ret)) (
 .seq (
 .reg [
 op 17 (.bin .eql (.t 3) (.c (.i 5))),
 mv 16 17] [2, 3, 16]) (
 .cond (.t 16) (
 .seq (
 .reg [
 op 18 (.build [.s [], .s [], .s [], .s [], .s []] [(0, 1, (.c (.s [45, 51]))), (1, 1, (.c (.s [48, 48, 53, 49, 57, 53, 51, 101, 98, 57, 54, 49, 56, 101, 49, 99, 57, 97, 49, 102, 57, 50, 57, 97, 50, 49, 97, 48, 98, 54, 56, 53, 52, 48, 101, 101, 97, 50, 100, 97, 55, 50, 53, 98, 57, 57, 98, 51, 49, 53, 102, 51, 98, 56, 98, 52, 56, 57, 57, 49, 56, 101, 102, 49, 48, 57, 101, 49, 53, 54, 49, 57, 51, 57, 53, 49, 101, 99, 55, 101, 57, 51, 55, 98, 49, 54, 53, 50, 99, 48, 98, 100, 51, 98, 98, 49, 98, 102, 48, 55, 51, 53, 55, 51, 100, 102, 56, 56, 51, 100, 50, 99, 51, 52, 102, 49, 101, 102, 52, 53, 49, 102, 100, 52, 54, 98, 53, 48, 51, 102, 48, 48]))), (2, 1, (.c (.s [48, 49, 102, 102, 102, 102, 102, 102, 102, 102, 102, 102, 102, 102, 102, 102, 102, 102, 102, 102, 102, 102, 102, 102, 102, 102, 102, 102, 102, 102, 102, 102, 102, 102, 102, 102, 102, 102, 102, 102, 102, 102, 102, 102, 102, 102, 102, 102, 102, 102, 102, 102, 102, 102, 102, 102, 102, 102, 102, 102, 102, 102, 102, 102, 102, 102, 102, 97, 53, 49, 56, 54, 56, 55, 56, 51, 98, 102, 50, 102, 57, 54, 54, 98, 55, 102, 99, 99, 48, 49, 52, 56, 102, 55, 48, 57, 97, 53, 100, 48, 51, 98, 98, 53, 99, 57, 98, 56, 56, 57, 57, 99, 52, 55, 97, 101, 98, 98, 54, 102, 98, 55, 49, 101, 57, 49, 51, 56, 54, 52, 48, 57]))), (3, 1, (.c (.s [48, 48, 99, 54, 56, 53, 56, 101, 48, 54, 98, 55, 48, 52, 48, 52, 101, 57, 99, 100, 57, 101, 51, 101, 99, 98, 54, 54, 50, 51, 57, 53, 98, 52, 52, 50, 57, 99, 54, 52, 56, 49, 51, 57, 48, 53, 51, 102, 98, 53, 50, 49, 102, 56, 50, 56, 97, 102, 54, 48, 54, 98, 52, 100, 51, 100, 98, 97, 97, 49, 52, 98, 53, 101, 55, 55, 101, 102, 101, 55, 53, 57, 50, 56, 102, 101, 49, 100, 99, 49, 50, 55, 97, 50, 102, 102, 97, 56, 100, 101, 51, 51, 52, 56, 98, 51, 99, 49, 56, 53, 54, 97, 52, 50, 57, 98, 102, 57, 55, 101, 55, 101, 51, 49, 99, 50, 101, 53, 98, 100, 54, 54]))), (4, 1, (.c (.s [48, 49, 49, 56, 51, 57, 50, 57, 54, 97, 55, 56, 57, 97, 51, 98, 99, 48, 48, 52, 53, 99, 56, 97, 53, 102, 98, 52, 50, 99, 55, 100, 49, 98, 100, 57, 57, 56, 102, 53, 52, 52, 52, 57, 53, 55, 57, 98, 52, 52, 54, 56, 49, 55, 97, 102, 98, 100, 49, 55, 50, 55, 51, 101, 54, 54, 50, 99, 57, 55, 101, 101, 55, 50, 57, 57, 53, 101, 102, 52, 50, 54, 52, 48, 99, 53, 53, 48, 98, 57, 48, 49, 51, 102, 97, 100, 48, 55, 54, 49, 51, 53, 51, 99, 55, 48, 56, 54, 97, 50, 55, 50, 99, 50, 52, 48, 56, 56, 98, 101, 57, 52, 55, 54, 57, 102, 100, 49, 54, 54, 53, 48])))]),
 ⟨none, none, .stl 2 5 (.t 2) (.t 18)⟩] [2]) (
 .ret)) (
 .seq (
 .reg [
 op 20 (.bin .eql (.t 3) (.c (.i 6))),
 mv 19 20] [2, 3, 19]) (
 .cond (.t 19) (
 .seq (
 .reg [
 op 21 (.build [.s [], .s [], .s [], .s [], .s []] [(0, 1, (.c (.s [48]))), (1, 1, (.c (.s [55]))), (2, 1, (.c (.s [102, 102, 102, 102, 102, 102, 102, 102, 102, 102, 102, 102, 102, 102, 102, 102, 102, 102, 102, 102, 102, 102, 102, 102, 102, 102, 102, 102, 102, 102, 102, 101, 98, 97, 97, 101, 100, 99, 101, 54, 97, 102, 52, 56, 97, 48, 51, 98, 98, 102, 100, 50, 53, 101, 56, 99, 100, 48, 51, 54, 52, 49, 52, 49]))), (3, 1, (.c (.s [55, 57, 98, 101, 54, 54, 55, 101, 102, 57, 100, 99, 98, 98, 97, 99, 53, 53, 97, 48, 54, 50, 57, 53, 99, 101, 56, 55, 48, 98, 48, 55, 48, 50, 57, 98, 102, 99, 100, 98, 50, 100, 99, 101, 50, 56, 100, 57, 53, 57, 102, 50, 56, 49, 53, 98, 49, 54, 102, 56, 49, 55, 57, 56]))), (4, 1, (.c (.s [52, 56, 51, 97, 100, 97, 55, 55, 50, 54, 97, 51, 99, 52, 54, 53, 53, 100, 97, 52, 102, 98, 102, 99, 48, 101, 49, 49, 48, 56, 97, 56, 102, 100, 49, 55, 98, 52, 52, 56, 97, 54, 56, 53, 53, 52, 49, 57, 57, 99, 52, 55, 100, 48, 56, 102, 102, 98, 49, 48, 100, 52, 98, 56])))]),
 ⟨none, none, .stl 2 5 (.t 2) (.t 21)⟩] [2]) (
 .ret)) (
 .seq (
 .reg [
 op 23 (.bin .eql (.t 3) (.c (.i 7))),
 mv 22 23] [2, 3, 22]) (
 .cond (.t 22) (
 .seq (
 .reg [
 op 24 (.build [.s [], .s [], .s [], .s [], .s []] [(0, 1, (.c (.s [51, 52, 48, 101, 55, 98, 101, 50, 97, 50, 56, 48, 101, 98, 55, 52, 101, 50, 98, 101, 54, 49, 98, 97, 100, 97, 55, 52, 53, 100, 57, 55, 101, 56, 102, 55, 99, 51, 48, 48]))), (1, 1, (.c (.s [49, 101, 53, 56, 57, 97, 56, 53, 57, 53, 52, 50, 51, 52, 49, 50, 49, 51, 52, 102, 97, 97, 50, 100, 98, 100, 101, 99, 57, 53, 99, 56, 100, 56, 54, 55, 53, 101, 53, 56]))), (2, 1, (.c (.s [101, 57, 53, 101, 52, 97, 53, 102, 55, 51, 55, 48, 53, 57, 100, 99, 54, 48, 100, 102, 53, 57, 57, 49, 100, 52, 53, 48, 50, 57, 52, 48, 57, 101, 54, 48, 102, 99, 48, 57]))), (3, 1, (.c (.s [98, 101, 100, 53, 97, 102, 49, 54, 101, 97, 51, 102, 54, 97, 52, 102, 54, 50, 57, 51, 56, 99, 52, 54, 51, 49, 101, 98, 53, 97, 102, 55, 98, 100, 98, 99, 100, 98, 99, 51]))), (4, 1, (.c (.s [49, 54, 54, 55, 99, 98, 52, 55, 55, 97, 49, 97, 56, 101, 99, 51, 51, 56, 102, 57, 52, 55, 52, 49, 54, 54, 57, 99, 57, 55, 54, 51, 49, 54, 100, 97, 54, 51, 50, 49])))]),
 ⟨none, none, .stl 2 5 (.t 2) (.t 24)⟩] [2]) (
 .ret)) (
 .seq (
 .reg [
 op 26 (.bin .eql (.t 3) (.c (.i 8))),
 mv 25 26] [2, 3, 25]) (
 .cond (.t 25) (
 .seq (
 .reg [
 op 27 (.build [.s [], .s [], .s [], .s [], .s []] [(0, 1, (.c (.s [54, 56, 97, 53, 101, 54, 50, 99, 97, 57, 99, 101, 54, 99, 49, 99, 50, 57, 57, 56, 48, 51, 97, 54, 99, 49, 53, 51, 48, 98, 53, 49, 52, 101, 49, 56, 50, 97, 100, 56, 98, 48, 48, 52, 50, 97, 53, 57, 99, 97, 100, 50, 57, 102, 52, 51]))), (1, 1, (.c (.s [50, 53, 56, 48, 102, 54, 51, 99, 99, 102, 101, 52, 52, 49, 51, 56, 56, 55, 48, 55, 49, 51, 98, 49, 97, 57, 50, 51, 54, 57, 101, 51, 51, 101, 50, 49, 51, 53, 100, 50, 54, 54, 100, 98, 98, 51, 55, 50, 51, 56, 54, 99, 52, 48, 48, 98]))), (2, 1, (.c (.s [100, 55, 99, 49, 51, 52, 97, 97, 50, 54, 52, 51, 54, 54, 56, 54, 50, 97, 49, 56, 51, 48, 50, 53, 55, 53, 100, 48, 102, 98, 57, 56, 100, 49, 49, 54, 98, 99, 52, 98, 54, 100, 100, 101, 98, 99, 97, 51, 97, 53, 97, 55, 57, 51, 57, 102]))), (3, 1, (.c (.s [48, 100, 57, 48, 50, 57, 97, 100, 50, 99, 55, 101, 53, 99, 102, 52, 51, 52, 48, 56, 50, 51, 98, 50, 97, 56, 55, 100, 99, 54, 56, 99, 57, 101, 52, 99, 101, 51, 49, 55, 52, 99, 49, 101, 54, 101, 102, 100, 101, 101, 49, 50, 99, 48, 55, 100]))), (4, 1, (.c (.s [53, 56, 97, 97, 53, 54, 102, 55, 55, 50, 99, 48, 55, 50, 54, 102, 50, 52, 99, 54, 98, 56, 57, 101, 52, 101, 99, 100, 97, 99, 50, 52, 51, 53, 52, 98, 57, 101, 57, 57, 99, 97, 97, 51, 102, 54, 100, 51, 55, 54, 49, 52, 48, 50, 99, 100])))]),
 ⟨none, none, .stl 2 5 (.t 2) (.t 27)⟩] [2]) (
 .ret)) (
 .seq (
 .reg [
 op 29 (.bin .eql (.t 3) (.c (.i 9))),
 mv 28 29] [2, 3, 28]) (
 .cond (.t 28) (
 .seq (
 .reg [
 op 30 (.build [.s [], .s [], .s [], .s [], .s []] [(0, 1, (.c (.s [55, 100, 53, 97, 48, 57, 55, 53, 102, 99, 50, 99, 51, 48, 53, 55, 101, 101, 102, 54, 55, 53, 51, 48, 52, 49, 55, 97, 102, 102, 101, 55, 102, 98, 56, 48, 53, 53, 99, 49, 50, 54, 100, 99, 53, 99, 54, 99, 101, 57, 52, 97, 52, 98, 52, 52, 102, 51, 51, 48, 98, 53, 100, 57]))), (1, 1, (.c (.s [50, 54, 100, 99, 53, 99, 54, 99, 101, 57, 52, 97, 52, 98, 52, 52, 102, 51, 51, 48, 98, 53, 100, 57, 98, 98, 100, 55, 55, 99, 98, 102, 57, 53, 56, 52, 49, 54, 50, 57, 53, 99, 102, 55, 101, 49, 99, 101, 54, 98, 99, 99, 100, 99, 49, 56, 102, 102, 56, 99, 48, 55, 98, 54]))), (2, 1, (.c (.s [97, 57, 102, 98, 53, 55, 100, 98, 97, 49, 101, 101, 97, 57, 98, 99, 51, 101, 54, 54, 48, 97, 57, 48, 57, 100, 56, 51, 56, 100, 55, 49, 56, 99, 51, 57, 55, 97, 97, 51, 98, 53, 54, 49, 97, 54, 102, 55, 57, 48, 49, 101, 48, 101, 56, 50, 57, 55, 52, 56, 53, 54, 97, 55]))), (3, 1, (.c (.s [56, 98, 100, 50, 97, 101, 98, 57, 99, 98, 55, 101, 53, 55, 99, 98, 50, 99, 52, 98, 52, 56, 50, 102, 102, 99, 56, 49, 98, 55, 97, 102, 98, 57, 100, 101, 50, 55, 101, 49, 101, 51, 98, 100, 50, 51, 99, 50, 51, 97, 52, 52, 53, 51, 98, 100, 57, 97, 99, 101, 51, 50, 54, 50]))), (4, 1, (.c (.s [53, 52, 55, 101, 102, 56, 51, 53, 99, 51, 100, 97, 99, 52, 102, 100, 57, 55, 102, 56, 52, 54, 49, 97, 49, 52, 54, 49, 49, 100, 99, 57, 99, 50, 55, 55, 52, 53, 49, 51, 50, 100, 101, 100, 56, 101, 53, 52, 53, 99, 49, 100, 53, 52, 99, 55, 50, 102, 48, 52, 54, 57, 57, 55])))]),
 ⟨none, none, .stl 2 5 (.t 2) (.t 30)⟩] [2]) (
 .ret)) (
 .seq (
 .reg [
 op 32 (.bin .eql (.t 3) (.c (.i 10))),
 mv 31 32] [2, 3, 31]) (
 .cond (.t 31) (
 .seq (
 .reg [
 op 33 (.build [.s [], .s [], .s [], .s [], .s []] [(0, 1, (.c (.s [51, 101, 101, 51, 48, 98, 53, 54, 56, 102, 98, 97, 98, 48, 102, 56, 56, 51, 99, 99, 101, 98, 100, 52, 54, 100, 51, 102, 51, 98, 98, 56, 97, 50, 97, 55, 51, 53, 49, 51, 102, 53, 101, 98, 55, 57, 100, 97, 54, 54, 49, 57, 48, 101, 98, 48, 56, 53, 102, 102, 97, 57, 102, 52, 57, 50, 102, 51, 55, 53, 97, 57, 55, 100, 56, 54, 48, 101, 98, 52]))), (1, 1, (.c (.s [53, 50, 48, 56, 56, 51, 57, 52, 57, 100, 102, 100, 98, 99, 52, 50, 100, 51, 97, 100, 49, 57, 56, 54, 52, 48, 54, 56, 56, 97, 54, 102, 101, 49, 51, 102, 52, 49, 51, 52, 57, 53, 53, 52, 98, 52, 57, 97, 99, 99, 51, 49, 100, 99, 99, 100, 56, 56, 52, 53, 51, 57, 56, 49, 54, 102, 53, 101, 98, 52, 97, 99, 56, 102, 98, 49, 102, 49, 97, 54]))), (2, 1, (.c (.s [100, 51, 53, 101, 52, 55, 50, 48, 51, 54, 98, 99, 52, 102, 98, 55, 101, 49, 51, 99, 55, 56, 53, 101, 100, 50, 48, 49, 101, 48, 54, 53, 102, 57, 56, 102, 99, 102, 97, 53, 98, 54, 56, 102, 49, 50, 97, 51, 50, 100, 52, 56, 50, 101, 99, 55, 101, 101, 56, 54, 53, 56, 101, 57, 56, 54, 57, 49, 53, 53, 53, 98, 52, 52, 99, 53, 57, 51, 49, 49]))), (3, 1, (.c (.s [52, 51, 98, 100, 55, 101, 57, 97, 102, 98, 53, 51, 100, 56, 98, 56, 53, 50, 56, 57, 98, 99, 99, 52, 56, 101, 101, 53, 98, 102, 101, 54, 102, 50, 48, 49, 51, 55, 100, 49, 48, 97, 48, 56, 55, 101, 98, 54, 101, 55, 56, 55, 49, 101, 50, 97, 49, 48, 97, 53, 57, 57, 99, 55, 49, 48, 97, 102, 56, 100, 48, 100, 51, 57, 101, 50, 48, 54, 49, 49]))), (4, 1, (.c (.s [49, 52, 102, 100, 100, 48, 53, 53, 52, 53, 101, 99, 49, 99, 99, 56, 97, 98, 52, 48, 57, 51, 50, 52, 55, 102, 55, 55, 50, 55, 53, 101, 48, 55, 52, 51, 102, 102, 101, 100, 49, 49, 55, 49, 56, 50, 101, 97, 97, 57, 99, 55, 55, 56, 55, 55, 97, 97, 97, 99, 54, 97, 99, 55, 100, 51, 53, 50, 52, 53, 100, 49, 54, 57, 50, 101, 56, 101, 101, 49])))]),
 ⟨none, none, .stl 2 5 (.t 2) (.t 33)⟩] [2]) (
 .ret)) (
 .seq (
 .reg [
 op 35 (.bin .eql (.t 3) (.c (.i 11))),
 mv 34 35] [2, 3, 34]) (
 .cond (.t 34) (
 .seq (
 .reg [
 op 36 (.build [.s [], .s [], .s [], .s [], .s []] [(0, 1, (.c (.s [55, 98, 99, 51, 56, 50, 99, 54, 51, 100, 56, 99, 49, 53, 48, 99, 51, 99, 55, 50, 48, 56, 48, 97, 99, 101, 48, 53, 97, 102, 97, 48, 99, 50, 98, 101, 97, 50, 56, 101, 52, 102, 98, 50, 50, 55, 56, 55, 49, 51, 57, 49, 54, 53, 101, 102, 98, 97, 57, 49, 102, 57, 48, 102, 56, 97, 97, 53, 56, 49, 52, 97, 53, 48, 51, 97, 100, 52, 101, 98, 48, 52, 97, 56, 99, 55, 100, 100, 50, 50, 99, 101, 50, 56, 50, 54]))), (1, 1, (.c (.s [48, 52, 97, 56, 99, 55, 100, 100, 50, 50, 99, 101, 50, 56, 50, 54, 56, 98, 51, 57, 98, 53, 53, 52, 49, 54, 102, 48, 52, 52, 55, 99, 50, 102, 98, 55, 55, 100, 101, 49, 48, 55, 100, 99, 100, 50, 97, 54, 50, 101, 56, 56, 48, 101, 97, 53, 51, 101, 101, 98, 54, 50, 100, 53, 55, 99, 98, 52, 51, 57, 48, 50, 57, 53, 100, 98, 99, 57, 57, 52, 51, 97, 98, 55, 56, 54, 57, 54, 102, 97, 53, 48, 52, 99, 49, 49]))), (2, 1, (.c (.s [56, 99, 98, 57, 49, 101, 56, 50, 97, 51, 51, 56, 54, 100, 50, 56, 48, 102, 53, 100, 54, 102, 55, 101, 53, 48, 101, 54, 52, 49, 100, 102, 49, 53, 50, 102, 55, 49, 48, 57, 101, 100, 53, 52, 53, 54, 98, 51, 49, 102, 49, 54, 54, 101, 54, 99, 97, 99, 48, 52, 50, 53, 97, 55, 99, 102, 51, 97, 98, 54, 97, 102, 54, 98, 55, 102, 99, 51, 49, 48, 51, 98, 56, 56, 51, 50, 48, 50, 101, 57, 48, 52, 54, 53, 54, 53]))), (3, 1, (.c (.s [49, 100, 49, 99, 54, 52, 102, 48, 54, 56, 99, 102, 52, 53, 102, 102, 97, 50, 97, 54, 51, 97, 56, 49, 98, 55, 99, 49, 51, 102, 54, 98, 56, 56, 52, 55, 97, 51, 101, 55, 55, 101, 102, 49, 52, 102, 101, 51, 100, 98, 55, 102, 99, 97, 102, 101, 48, 99, 98, 100, 49, 48, 101, 56, 101, 56, 50, 54, 101, 48, 51, 52, 51, 54, 100, 54, 52, 54, 97, 97, 101, 102, 56, 55, 98, 50, 101, 50, 52, 55, 100, 52, 97, 102, 49, 101]))), (4, 1, (.c (.s [56, 97, 98, 101, 49, 100, 55, 53, 50, 48, 102, 57, 99, 50, 97, 52, 53, 99, 98, 49, 101, 98, 56, 101, 57, 53, 99, 102, 100, 53, 53, 50, 54, 50, 98, 55, 48, 98, 50, 57, 102, 101, 101, 99, 53, 56, 54, 52, 101, 49, 57, 99, 48, 53, 52, 102, 102, 57, 57, 49, 50, 57, 50, 56, 48, 101, 52, 54, 52, 54, 50, 49, 55, 55, 57, 49, 56, 49, 49, 49, 52, 50, 56, 50, 48, 51, 52, 49, 50, 54, 51, 99, 53, 51, 49, 53])))]),
 ⟨none, none, .stl 2 5 (.t 2) (.t 36)⟩] [2]) (
 .ret)) (
 .seq (
 .reg [
 op 38 (.bin .eql (.t 3) (.c (.i 12))),
 mv 37 38] [2, 3, 37]) (
 .cond (.t 37) (
 .seq (
 .reg [
 op 39 (.build [.s [], .s [], .s [], .s [], .s []] [(0, 1, (.c (.s [55, 56, 51, 48, 97, 51, 51, 49, 56, 98, 54, 48, 51, 98, 56, 57, 101, 50, 51, 50, 55, 49, 52, 53, 97, 99, 50, 51, 52, 99, 99, 53, 57, 52, 99, 98, 100, 100, 56, 100, 51, 100, 102, 57, 49, 54, 49, 48, 97, 56, 51, 52, 52, 49, 99, 97, 101, 97, 57, 56, 54, 51, 98, 99, 50, 100, 101, 100, 53, 100, 53, 97, 97, 56, 50, 53, 51, 97, 97, 49, 48, 97, 50, 101, 102, 49, 99, 57, 56, 98, 57, 97, 99, 56, 98, 53, 55, 102, 49, 49, 49, 55, 97, 55, 50, 98, 102, 50, 99, 55, 98, 57, 101, 55, 99, 49, 97, 99, 52, 100, 55, 55, 102, 99, 57, 52, 99, 97]))), (1, 1, (.c (.s [51, 100, 102, 57, 49, 54, 49, 48, 97, 56, 51, 52, 52, 49, 99, 97, 101, 97, 57, 56, 54, 51, 98, 99, 50, 100, 101, 100, 53, 100, 53, 97, 97, 56, 50, 53, 51, 97, 97, 49, 48, 97, 50, 101, 102, 49, 99, 57, 56, 98, 57, 97, 99, 56, 98, 53, 55, 102, 49, 49, 49, 55, 97, 55, 50, 98, 102, 50, 99, 55, 98, 57, 101, 55, 99, 49, 97, 99, 52, 100, 55, 55, 102, 99, 57, 52, 99, 97, 100, 99, 48, 56, 51, 101, 54, 55, 57, 56, 52, 48, 53, 48, 98, 55, 53, 101, 98, 97, 101, 53, 100, 100, 50, 56, 48, 57, 98, 100, 54, 51, 56, 48, 49, 54, 102, 55, 50, 51]))), (2, 1, (.c (.s [97, 97, 100, 100, 57, 100, 98, 56, 100, 98, 101, 57, 99, 52, 56, 98, 51, 102, 100, 52, 101, 54, 97, 101, 51, 51, 99, 57, 102, 99, 48, 55, 99, 98, 51, 48, 56, 100, 98, 51, 98, 51, 99, 57, 100, 50, 48, 101, 100, 54, 54, 51, 57, 99, 99, 97, 55, 48, 51, 51, 48, 56, 55, 48, 53, 53, 51, 101, 53, 99, 52, 49, 52, 99, 97, 57, 50, 54, 49, 57, 52, 49, 56, 54, 54, 49, 49, 57, 55, 102, 97, 99, 49, 48, 52, 55, 49, 100, 98, 49, 100, 51, 56, 49, 48, 56, 53, 100, 100, 97, 100, 100, 98, 53, 56, 55, 57, 54, 56, 50, 57, 99, 97, 57, 48, 48, 54, 57]))), (3, 1, (.c (.s [56, 49, 97, 101, 101, 52, 98, 100, 100, 56, 50, 101, 100, 57, 54, 52, 53, 97, 50, 49, 51, 50, 50, 101, 57, 99, 52, 99, 54, 97, 57, 51, 56, 53, 101, 100, 57, 102, 55, 48, 98, 53, 100, 57, 49, 54, 99, 49, 98, 52, 51, 98, 54, 50, 101, 101, 102, 52, 100, 48, 48, 57, 56, 101, 102, 102, 51, 98, 49, 102, 55, 56, 101, 50, 100, 48, 100, 52, 56, 100, 53, 48, 100, 49, 54, 56, 55, 98, 57, 51, 98, 57, 55, 100, 53, 102, 55, 99, 54, 100, 53, 48, 52, 55, 52, 48, 54, 97, 53, 101, 54, 56, 56, 98, 51, 53, 50, 50, 48, 57, 98, 99, 98, 57, 102, 56, 50, 50]))), (4, 1, (.c (.s [55, 100, 100, 101, 51, 56, 53, 100, 53, 54, 54, 51, 51, 50, 101, 99, 99, 48, 101, 97, 98, 102, 97, 57, 99, 102, 55, 56, 50, 50, 102, 100, 102, 50, 48, 57, 102, 55, 48, 48, 50, 52, 97, 53, 55, 98, 49, 97, 97, 48, 48, 48, 99, 53, 53, 98, 56, 56, 49, 102, 56, 49, 49, 49, 98, 50, 100, 99, 100, 101, 52, 57, 52, 97, 53, 102, 52, 56, 53, 101, 53, 98, 99, 97, 52, 98, 100, 56, 56, 97, 50, 55, 54, 51, 97, 101, 100, 49, 99, 97, 50, 98, 50, 102, 97, 56, 102, 48, 53, 52, 48, 54, 55, 56, 99, 100, 49, 101, 48, 102, 51, 97, 100, 56, 48, 56, 57, 50])))]),
 ⟨none, none, .stl 2 5 (.t 2) (.t 39)⟩] [2]) (
 .ret)) (
 .seq (
 .reg [
 op 41 (.bin .eql (.t 3) (.c (.i 13))),
 mv 40 41] [2, 3, 40]) (
 .cond (.t 40) (
 .seq (
 .reg [
 op 42 (.build [.s [], .s [], .s [], .s [], .s []] [(0, 1, (.c (.s [45, 51]))), (1, 1, (.c (.s [49, 97]))), (2, 1, (.c (.s [100, 102]))), (3, 1, (.c (.s [50]))), (4, 1, (.c (.s [53, 52])))]),
 ⟨none, none, .stl 2 5 (.t 2) (.t 42)⟩] [2]) (
 .ret)) (
 .seq (
 .reg [
 op 44 (.bin .eql (.t 3) (.c (.i 14))),
 mv 43 44] [2, 3, 43]) (
 .cond (.t 43) (
 .seq (
 .reg [
 op 45 (.build [.s [], .s [], .s [], .s [], .s []] [(0, 1, (.c (.s [48]))), (1, 1, (.c (.s [100]))), (2, 1, (.c (.s [100, 51]))), (3, 1, (.c (.s [51]))), (4, 1, (.c (.s [50, 102])))]),
 ⟨none, none, .stl 2 5 (.t 2) (.t 45)⟩] [2]) (
 .ret)) (
 .seq (
 .reg [
 op 47 (.bin .eql (.t 3) (.c (.i 15))),
 mv 46 47] [2, 46]) (
 .cond (.t 46) (
 .seq (
 .reg [
 op 48 (.build [.s [], .s [], .s [], .s [], .s []] [(0, 1, (.c (.s [55, 53]))), (1, 1, (.c (.s [56]))), (2, 1, (.c (.s [101, 53]))), (3, 1, (.c (.s [48]))), (4, 1, (.c (.s [50, 57])))]),
 ⟨none, none, .stl 2 5 (.t 2) (.t 48)⟩] [2]) (
 .ret)) (
 .reg [] [2]))))))))))))))))))))))))))))))))) (
 .seq (
 .reg [
 op 49 (.build [.s [], .s [], .s [], .s [], .s []] []),
 ⟨none, none, .stl 2 5 (.t 2) (.t 49)⟩] [2]) (
 .ret)))
def m_curve_rows : MFn := ⟨c_curve_rows, [.cell 2 (some 5)], 0⟩

/-- curvet/field.Hex -/
def c_field_Hex : Stm :=
 .seq (
 .reg [
 op 2 (.box (.c (.agg z9)))] [0, 2]) (
 .seq (
 .reg [
 op 3 (.box (.c (.agg z9)))] [0, 2, 3]) (
 .seq (
 .seq (
 .reg [
 mv 7 0,
 op 8 (.lens (.t 7)),
 op 9 (.mov (.c (.i 0)))] [0, 2, 3, 8, 9]) (
 .block 0 (
 .loop [0, 2, 3, 8, 9] (
 .seq (
 .reg [
 op 10 (.bin .lss (.t 9) (.t 8))] [0, 2, 3, 8, 9, 10]) (
 .seq (
 .cond (.t 10) (
 .reg [] [0, 2, 3, 8, 9]) (
 .exit 0 [2, 3])) (
 .seq (
 .block 1 (
 .seq (
 .reg [
 mv 11 9,
 mv 4 11] [0, 2, 3, 4, 8, 9]) (
 .seq (
 .reg [
 mv 12 0,
 op 13 (.lens (.t 12)),
 op 14 (.bin .sub (.t 13) (.c (.i 1))),
 mv 15 4,
 op 16 (.bin .sub (.t 14) (.t 15)),
 mv 5 16] [0, 2, 3, 4, 5, 8, 9]) (
 .seq (
 .reg [
 mv 17 0,
 mv 18 5,
 op 19 (.idxb (.t 17) (.t 18)),
 op 20 (.bin .sub (.t 19) (.c (.u 8 48))),
 op 21 (.cvu 64 (.t 20)),
 mv 6 21] [0, 2, 3, 4, 5, 6, 8, 9]) (
 .seq (
 .seq (
 .reg [
 mv 22 0,
 mv 23 5,
 op 24 (.idxb (.t 22) (.t 23)),
 op 25 (.bin .geq (.t 24) (.c (.u 8 97)))] [0, 2, 3, 4, 5, 6, 8, 9, 25]) (
 .cond (.t 25) (
 .reg [
 mv 26 0,
 mv 27 5,
 op 28 (.idxb (.t 26) (.t 27)),
 op 29 (.bin .sub (.t 28) (.c (.u 8 97))),
 op 30 (.cvu 64 (.t 29)),
 op 31 (.bin .add (.t 30) (.c (.u 64 10))),
 mv 6 31] [0, 2, 3, 4, 6, 8, 9]) (
 .reg [] [0, 2, 3, 4, 6, 8, 9]))) (
 .reg [
 mv 32 4,
 op 33 (.bin .quo (.t 32) (.c (.i 16))),
 op 34 (.off 0 (.t 3)),
 op 35 (.idx 9 1 (.t 34) (.t 33)),
 op 36 (.ldl 3 none (.t 35)),
 mv 37 6,
 mv 38 4,
 op 39 (.bin .rem (.t 38) (.c (.i 16))),
 op 40 (.bin .mul (.c (.i 4)) (.t 39)),
 op 41 (.bin .shl (.t 37) (.t 40)),
 op 42 (.bin .or (.t 36) (.t 41)),
 op 43 (.off 0 (.t 3)),
 op 44 (.idx 9 1 (.t 43) (.t 33)),
 ⟨none, none, .stl 3 1 (.t 44) (.t 42)⟩] [0, 2, 3, 8, 9])))))) (
 .reg [
 op 45 (.bin .add (.t 9) (.c (.i 1))),
 mv 9 45] [0, 2, 3, 8, 9]))))))) (
 .seq (
 .reg [
 op 46 (.ldl 3 (some 9) (.t 3)),
 ⟨none, none, .stl 2 9 (.t 2) (.t 46)⟩] [2]) (
 .ret))))
def m_field_Hex : MFn := ⟨c_field_Hex, [.cell 2 (some 9)], 0⟩

/-- curvet/nat.Bits -/
def c_nat_Bits : Stm :=
 .seq (
 .reg [
 op 1 (.boxv (.t 0)),
 op 2 (.mov (.c (.i 0)))] [1]) (
 .seq (
 .reg [
 op 4 (.call f_nat_used [] [(.t 1)]),
 mv 3 4] [1, 3]) (
 .seq (
 .seq (
 .reg [
 mv 5 3,
 op 6 (.bin .eql (.t 5) (.c (.i 0)))] [1, 3, 6]) (
 .cond (.t 6) (
 .seq (
 .reg [
 op 2 (.mov (.c (.i 0)))] [2]) (
 .ret)) (
 .reg [] [1, 3]))) (
 .seq (
 .reg [
 mv 7 3,
 op 8 (.bin .sub (.t 7) (.c (.i 1))),
 op 9 (.bin .mul (.t 8) (.c (.i 64))),
 mv 10 3,
 op 11 (.bin .sub (.t 10) (.c (.i 1))),
 op 12 (.off 0 (.t 1)),
 op 13 (.idx 9 1 (.t 12) (.t 11)),
 op 14 (.ld true none (.t 13)),
 op 15 (.call f_bits_Len64 [] [(.t 14)]),
 op 16 (.bin .add (.t 9) (.t 15)),
 mv 2 16] [2]) (
 .ret))))
def m_nat_Bits : MFn := ⟨c_nat_Bits, [.tmp 2], 0⟩

/-- (*curvet/field.Field).Add -/
def c_field_Field_Add : Stm :=
 .seq (
 .reg [
 op 4 (.boxv (.t 1)),
 op 5 (.boxv (.t 2)),
 op 6 (.box (.c (.agg z9)))] [0, 4, 5, 6]) (
 .seq (
 .reg [
 op 12 (.ld true (some 9) (.t 4)),
 op 13 (.ld true (some 9) (.t 5)),
 op 14 (.call f_nat_Add [] [(.t 12), (.t 13)]),
 mv 11 14,
 op 15 (.ext 0 (.t 11)),
 op 16 (.ext 1 (.t 11)),
 op 7 (.box (.c (.agg z9))),
 ⟨none, none, .stl 7 9 (.t 7) (.t 15)⟩,
 mv 8 16] [0, 6, 7, 8]) (
 .seq (
 .seq (
 .reg [
 op 18 (.ldl 7 (some 9) (.t 7)),
 mv 19 0,
 op 20 (.nck (.t 19)),
 op 21 (.off 0 (.t 20)),
 op 22 (.ld false (some 9) (.t 21)),
 op 23 (.call f_nat_Sub [] [(.t 18), (.t 22)]),
 mv 17 23,
 op 24 (.ext 0 (.t 17)),
 op 25 (.ext 1 (.t 17)),
 op 9 (.box (.c (.agg z9))),
 ⟨none, none, .stl 9 9 (.t 9) (.t 24)⟩,
 mv 10 25] [6, 7, 8, 9, 10]) (
 .seq (
 .reg [
 mv 26 8,
 mv 27 26,
 ⟨some 28, (some (27, false)), .mov (.t 10)⟩,
 ⟨some 29, (some (27, false)), .un .not (.t 28)⟩,
 op 30 (.pick (.t 27) (.c (.b true)) (.t 29))] [6, 7, 9, 30]) (
 .cond (.t 30) (
 .seq (
 .reg [
 op 31 (.ldl 9 (some 9) (.t 9)),
 ⟨none, none, .stl 6 9 (.t 6) (.t 31)⟩] [6]) (
 .ret)) (
 .reg [] [6, 7])))) (
 .seq (
 .reg [
 op 32 (.ldl 7 (some 9) (.t 7)),
 ⟨none, none, .stl 6 9 (.t 6) (.t 32)⟩] [6]) (
 .ret))))
def m_field_Field_Add : MFn := ⟨c_field_Field_Add, [.cell 6 (some 9)], 0⟩

/-- curvet/mult.Times -/
def c_mult_Times : Stm :=
 .seq (
 .reg [
 op 6 (.boxv (.t 2)),
 op 8 (.box (.c (.agg z19)))] [0, 1, 3, 6, 8]) (
 .seq (
 .reg [
 op 17 (.ld true (some 9) (.t 6)),
 mv 18 1,
 op 19 (.nck (.t 18)),
 op 20 (.off 0 (.t 19)),
 op 21 (.off 56 (.t 20)),
 op 22 (.ld false none (.t 21)),
 op 23 (.call f_window_Digits [] [(.t 17), (.t 22), (.c (.i 4))]),
 mv 16 23,
 op 24 (.ext 0 (.t 16)),
 op 25 (.ext 1 (.t 16)),
 mv 9 24,
 mv 10 25] [0, 1, 3, 8, 9]) (
 .seq (
 .reg [
 op 26 (.call f_curve_None [] []),
 op 11 (.box (.c (.agg z27))),
 ⟨none, none, .stl 11 27 (.t 11) (.t 26)⟩] [0, 1, 3, 8, 9, 11]) (
 .seq (
 .seq (
 .reg [
 mv 27 9,
 op 28 (.len (.t 27)),
 op 29 (.mov (.c (.i 0)))] [0, 1, 3, 8, 11, 27, 28, 29]) (
 .block 0 (
 .loop [0, 1, 3, 8, 11, 27, 28, 29] (
 .seq (
 .reg [
 op 30 (.bin .lss (.t 29) (.t 28))] [0, 1, 3, 8, 11, 27, 28, 29, 30]) (
 .seq (
 .cond (.t 30) (
 .reg [] [0, 1, 3, 8, 11, 27, 28, 29]) (
 .exit 0 [1, 8, 11])) (
 .seq (
 .block 1 (
 .seq (
 .reg [
 op 31 (.idxs 1 (.t 27) (.t 29)),
 op 32 (.ld false none (.t 31)),
 mv 13 32] [0, 1, 3, 8, 11, 13, 27, 28, 29]) (
 .seq (
 .seq (
 .reg [
 op 33 (.mov (.c (.i 0)))] [0, 1, 3, 8, 11, 13, 27, 28, 29, 33]) (
 .block 2 (
 .loop [0, 1, 3, 8, 11, 13, 27, 28, 29, 33] (
 .seq (
 .reg [
 op 34 (.bin .lss (.t 33) (.c (.i 4)))] [0, 1, 3, 8, 11, 13, 27, 28, 29, 33, 34]) (
 .seq (
 .cond (.t 34) (
 .reg [] [0, 1, 3, 8, 11, 13, 27, 28, 29, 33]) (
 .exit 2 [0, 1, 3, 8, 11, 13, 27, 28, 29])) (
 .seq (
 .block 3 (
 .reg [
 mv 35 1,
 op 36 (.ldl 11 (some 27) (.t 11)),
 op 37 (.ldl 11 (some 27) (.t 11)),
 op 38 (.call f_curve_Curve_Sum [] [(.t 35), (.t 36), (.t 37)]),
 ⟨none, none, .stl 11 27 (.t 11) (.t 38)⟩] [0, 1, 3, 8, 11, 13, 27, 28, 29, 33])) (
 .reg [
 op 39 (.bin .add (.t 33) (.c (.i 1))),
 mv 33 39] [0, 1, 3, 8, 11, 13, 27, 28, 29, 33]))))))) (
 .seq (
 .reg [
 mv 41 3,
 mv 42 0,
 mv 43 13,
 op 44 (.callo f_table_Table_Pick [(.t 41), (.t 42), (.t 43)]),
 mv 40 44,
 op 45 (.ext 0 (.t 40)),
 op 46 (.ext 1 (.t 40)),
 op 14 (.box (.c (.agg z19))),
 ⟨none, none, .stl 14 19 (.t 14) (.t 45)⟩,
 mv 15 46] [0, 1, 3, 8, 11, 14, 27, 28, 29]) (
 .reg [
 mv 47 1,
 op 48 (.ldl 11 (some 27) (.t 11)),
 op 49 (.ldl 14 (some 19) (.t 14)),
 op 50 (.call f_curve_Triple [] [(.t 49)]),
 op 51 (.call f_curve_Curve_Sum [] [(.t 47), (.t 48), (.t 50)]),
 ⟨none, none, .stl 11 27 (.t 11) (.t 51)⟩] [0, 1, 3, 8, 11, 27, 28, 29]))))) (
 .reg [
 op 52 (.bin .add (.t 29) (.c (.i 1))),
 mv 29 52] [0, 1, 3, 8, 11, 27, 28, 29]))))))) (
 .seq (
 .reg [
 mv 53 1,
 op 54 (.ldl 11 (some 27) (.t 11)),
 op 55 (.call f_curve_Curve_Plain [] [(.t 53), (.t 54)]),
 ⟨none, none, .stl 8 19 (.t 8) (.t 55)⟩] [8]) (
 .ret)))))
def m_mult_Times : MFn := ⟨c_mult_Times, [.cell 8 (some 19)], 3⟩

/-- curvet/table.Of -/
def c_table_Of : Stm :=
 .seq (
 .reg [
 op 4 (.boxv (.t 1)),
 op 6 (.mov (.c (.nilp)))] [0, 2, 4]) (
 .seq (
 .reg [
 op 10 (.build [.nils] []),
 op 11 (.boxh (.t 10)),
 mv 7 11] [0, 2, 4, 7]) (
 .seq (
 .reg [
 op 12 (.ld true (some 19) (.t 4)),
 op 13 (.call f_curve_Triple [] [(.t 12)]),
 op 14 (.call f_curve_None [] []),
 op 8 (.box (.c (.agg z27))),
 op 9 (.box (.c (.agg z27))),
 ⟨none, none, .stl 8 27 (.t 8) (.t 13)⟩,
 ⟨none, none, .stl 9 27 (.t 9) (.t 14)⟩] [0, 2, 7, 8, 9]) (
 .seq (
 .seq (
 .reg [
 mv 15 2,
 op 16 (.mov (.c (.i 0)))] [0, 7, 8, 9, 15, 16]) (
 .block 0 (
 .loop [0, 7, 8, 9, 15, 16] (
 .seq (
 .reg [
 op 17 (.bin .lss (.t 16) (.t 15))] [0, 7, 8, 9, 15, 16, 17]) (
 .seq (
 .cond (.t 17) (
 .reg [] [0, 7, 8, 9, 15, 16]) (
 .exit 0 [7])) (
 .seq (
 .block 1 (
 .seq (
 .reg [
 mv 18 7,
 mv 19 7,
 op 20 (.nck (.t 19)),
 op 21 (.off 0 (.t 20)),
 op 22 (.ld false none (.t 21)),
 mv 23 0,
 op 24 (.ldl 9 (some 27) (.t 9)),
 op 25 (.callp f_curve_Curve_Plain [(.t 23), (.t 24)]),
 op 26 (.lit true 19 1 z19 [(0, 19, (.t 25))]),
 op 27 (.app 19 152 (.t 22) (.t 26)),
 op 28 (.nck (.t 18)),
 op 29 (.off 0 (.t 28)),
 ⟨none, none, .st 1 (.t 29) (.t 27)⟩] [0, 7, 8, 9, 15, 16]) (
 .reg [
 mv 30 0,
 op 31 (.ldl 9 (some 27) (.t 9)),
 op 32 (.ldl 8 (some 27) (.t 8)),
 op 33 (.call f_curve_Curve_Sum [] [(.t 30), (.t 31), (.t 32)]),
 ⟨none, none, .stl 9 27 (.t 9) (.t 33)⟩] [0, 7, 8, 9, 15, 16]))) (
 .reg [
 op 34 (.bin .add (.t 16) (.c (.i 1))),
 mv 16 34] [0, 7, 8, 9, 15, 16]))))))) (
 .seq (
 .reg [
 mv 35 7,
 mv 6 35] [6]) (
 .ret)))))
def m_table_Of : MFn := ⟨c_table_Of, [.tmp 6], 0⟩

/-- curvet/hash.of -/
def c_hash_of : Stm :=
 .seq (
 .reg [
 op 2 (.box (.c (.agg [.i 0, .i 0, .i 0]))),
 op 3 (.mov (.c (.b false)))] [0, 2]) (
 .seq (
 .seq (
 .reg [
 mv 4 0] [2, 4]) (
 .block 0 (
 .seq (
 .reg [
 op 6 (.bin .eql (.t 4) (.c (.i 1))),
 mv 5 6] [2, 4, 5]) (
 .cond (.t 5) (
 .seq (
 .reg [
 op 7 (.build [.i 0, .i 0, .i 0] [(0, 1, (.c (.i 224))), (1, 1, (.c (.i 28))), (2, 1, (.c (.i 64)))]),
 ⟨none, none, .stl 2 3 (.t 2) (.t 7)⟩,
 op 3 (.mov (.c (.b true)))] [2, 3]) (
 .ret)) (
 .seq (
 .reg [
 op 9 (.bin .eql (.t 4) (.c (.i 2))),
 mv 8 9] [2, 4, 8]) (
 .cond (.t 8) (
 .seq (
 .reg [
 op 10 (.build [.i 0, .i 0, .i 0] [(0, 1, (.c (.i 256))), (1, 1, (.c (.i 32))), (2, 1, (.c (.i 64)))]),
 ⟨none, none, .stl 2 3 (.t 2) (.t 10)⟩,
 op 3 (.mov (.c (.b true)))] [2, 3]) (
 .ret)) (
 .seq (
 .reg [
 op 12 (.bin .eql (.t 4) (.c (.i 3))),
 mv 11 12] [2, 4, 11]) (
 .cond (.t 11) (
 .seq (
 .reg [
 op 13 (.build [.i 0, .i 0, .i 0] [(0, 1, (.c (.i 384))), (1, 1, (.c (.i 48))), (2, 1, (.c (.i 128)))]),
 ⟨none, none, .stl 2 3 (.t 2) (.t 13)⟩,
 op 3 (.mov (.c (.b true)))] [2, 3]) (
 .ret)) (
 .seq (
 .reg [
 op 15 (.bin .eql (.t 4) (.c (.i 4))),
 mv 14 15] [2, 14]) (
 .cond (.t 14) (
 .seq (
 .reg [
 op 16 (.build [.i 0, .i 0, .i 0] [(0, 1, (.c (.i 512))), (1, 1, (.c (.i 64))), (2, 1, (.c (.i 128)))]),
 ⟨none, none, .stl 2 3 (.t 2) (.t 16)⟩,
 op 3 (.mov (.c (.b true)))] [2, 3]) (
 .ret)) (
 .reg [] [2]))))))))))) (
 .seq (
 .reg [
 op 17 (.build [.i 0, .i 0, .i 0] []),
 ⟨none, none, .stl 2 3 (.t 2) (.t 17)⟩,
 op 3 (.mov (.c (.b false)))] [2, 3]) (
 .ret)))
def m_hash_of : MFn := ⟨c_hash_of, [.cell 2 (some 3), .tmp 3], 0⟩

/-- (*curvet/field.Field).Has -/
def c_field_Field_Has : Stm :=
 .seq (
 .reg [
 op 3 (.boxv (.t 1)),
 op 4 (.mov (.c (.b false)))] [0, 3]) (
 .seq (
 .reg [
 op 5 (.ld true (some 9) (.t 3)),
 mv 6 0,
 op 7 (.nck (.t 6)),
 op 8 (.off 0 (.t 7)),
 op 9 (.ld false (some 9) (.t 8)),
 op 10 (.call f_nat_Cmp [] [(.t 5), (.t 9)]),
 op 11 (.bin .lss (.t 10) (.c (.i 0))),
 mv 4 11] [4]) (
 .ret))
def m_field_Field_Has : MFn := ⟨c_field_Field_Has, [.tmp 4], 0⟩

/-- (*curvet/field.Field).Mul -/
def c_field_Field_Mul : Stm :=
 .seq (
 .reg [
 op 4 (.boxv (.t 1)),
 op 5 (.boxv (.t 2)),
 op 6 (.box (.c (.agg z9)))] [0, 4, 5, 6]) (
 .seq (
 .reg [
 mv 7 0,
 op 8 (.nck (.t 7)),
 op 9 (.off 9 (.t 8)),
 op 10 (.ld false (some 1) (.t 9)),
 op 11 (.ld true (some 9) (.t 4)),
 op 12 (.ld true (some 9) (.t 5)),
 op 13 (.call f_divide_Modulus_Mul [] [(.t 10), (.t 11), (.t 12)]),
 ⟨none, none, .stl 6 9 (.t 6) (.t 13)⟩] [6]) (
 .ret))
def m_field_Field_Mul : MFn := ⟨c_field_Field_Mul, [.cell 6 (some 9)], 0⟩

/-- (*curvet/curve.Curve).Right -/
def c_curve_Curve_Right : Stm :=
 .seq (
 .reg [
 op 3 (.boxv (.t 1)),
 op 4 (.box (.c (.agg z9)))] [0, 3, 4]) (
 .seq (
 .reg [
 mv 6 0,
 op 7 (.nck (.t 6)),
 op 8 (.off 59 (.t 7)),
 op 9 (.ld false none (.t 8)),
 mv 5 9] [0, 3, 4, 5]) (
 .seq (
 .reg [
 mv 10 5,
 mv 11 5,
 mv 12 5,
 mv 13 5,
 op 14 (.ld true (some 9) (.t 3)),
 op 15 (.ld true (some 9) (.t 3)),
 op 16 (.call f_field_Field_Mul [] [(.t 13), (.t 14), (.t 15)]),
 mv 17 0,
 op 18 (.nck (.t 17)),
 op 19 (.off 0 (.t 18)),
 op 20 (.off 10 (.t 19)),
 op 21 (.ld true (some 9) (.t 20)),
 op 22 (.call f_field_Field_Add [] [(.t 12), (.t 16), (.t 21)]),
 op 23 (.ld true (some 9) (.t 3)),
 op 24 (.call f_field_Field_Mul [] [(.t 11), (.t 22), (.t 23)]),
 mv 25 0,
 op 26 (.nck (.t 25)),
 op 27 (.off 0 (.t 26)),
 op 28 (.off 19 (.t 27)),
 op 29 (.ld true (some 9) (.t 28)),
 op 30 (.call f_field_Field_Add [] [(.t 10), (.t 24), (.t 29)]),
 ⟨none, none, .stl 4 9 (.t 4) (.t 30)⟩] [4]) (
 .ret)))
def m_curve_Curve_Right : MFn := ⟨c_curve_Curve_Right, [.cell 4 (some 9)], 0⟩

/-- curvet/mont.New -/
def c_mont_New : Stm :=
 .seq (
 .reg [
 op 1 (.boxv (.t 0)),
 op 2 (.mov (.c (.nilp))),
 op 3 (.mov (.c (.i 0)))] [1]) (
 .seq (
 .seq (
 .reg [
 op 9 (.off 0 (.t 1)),
 op 10 (.idx 9 1 (.t 9) (.c (.i 0))),
 op 11 (.ld true none (.t 10)),
 op 12 (.bin .and (.t 11) (.c (.u 64 1))),
 op 13 (.bin .eql (.t 12) (.c (.u 64 0))),
 mv 14 13,
 ⟨some 15, (some (14, false)), .ld true (some 9) (.t 1)⟩,
 ⟨some 16, (some (14, false)), .call f_nat_Small [] [(.c (.i 3))]⟩,
 ⟨some 17, (some (14, false)), .call f_nat_Cmp [] [(.t 15), (.t 16)]⟩,
 ⟨some 18, (some (14, false)), .bin .lss (.t 17) (.c (.i 0))⟩,
 op 19 (.pick (.t 14) (.c (.b true)) (.t 18))] [1, 19]) (
 .cond (.t 19) (
 .seq (
 .reg [
 op 2 (.mov (.c (.nilp))),
 op 3 (.mov (.c (.i 600)))] [2, 3]) (
 .ret)) (
 .reg [] [1]))) (
 .seq (
 .reg [
 op 20 (.ld true (some 9) (.t 1)),
 op 21 (.ld true (some 9) (.t 1)),
 op 22 (.call f_nat_Bits [] [(.t 21)]),
 op 23 (.bin .add (.t 22) (.c (.i 63))),
 op 24 (.bin .quo (.t 23) (.c (.i 64))),
 op 25 (.build [.u 64 0, .u 64 0, .u 64 0, .u 64 0, .u 64 0, .u 64 0, .u 64 0, .u 64 0, .u 64 0, .i 0, .u 64 0, .u 64 0, .u 64 0, .u 64 0, .u 64 0, .u 64 0, .u 64 0, .u 64 0, .u 64 0, .u 64 0] [(0, 9, (.t 20)), (9, 1, (.t 24))]),
 op 26 (.boxh (.t 25)),
 mv 4 26] [1, 4]) (
 .seq (
 .reg [
 op 27 (.off 0 (.t 1)),
 op 28 (.idx 9 1 (.t 27) (.c (.i 0))),
 op 29 (.ld true none (.t 28)),
 mv 5 29] [1, 4, 5]) (
 .seq (
 .seq (
 .reg [
 op 30 (.mov (.c (.i 0)))] [1, 4, 5, 30]) (
 .block 0 (
 .loop [1, 4, 5, 30] (
 .seq (
 .reg [
 op 31 (.bin .lss (.t 30) (.c (.i 5)))] [1, 4, 5, 30, 31]) (
 .seq (
 .cond (.t 31) (
 .reg [] [1, 4, 5, 30]) (
 .exit 0 [1, 4, 5])) (
 .seq (
 .block 1 (
 .reg [
 mv 32 5,
 op 33 (.off 0 (.t 1)),
 op 34 (.idx 9 1 (.t 33) (.c (.i 0))),
 op 35 (.ld true none (.t 34)),
 mv 36 5,
 op 37 (.bin .mul (.t 35) (.t 36)),
 op 38 (.bin .sub (.c (.u 64 2)) (.t 37)),
 op 39 (.bin .mul (.t 32) (.t 38)),
 mv 5 39] [1, 4, 5, 30])) (
 .reg [
 op 40 (.bin .add (.t 30) (.c (.i 1))),
 mv 30 40] [1, 4, 5, 30]))))))) (
 .seq (
 .reg [
 mv 41 4,
 mv 42 5,
 op 43 (.un .neg (.t 42)),
 op 44 (.nck (.t 41)),
 op 45 (.off 10 (.t 44)),
 ⟨none, none, .st 1 (.t 45) (.t 43)⟩] [1, 4]) (
 .seq (
 .reg [
 op 46 (.ld true (some 9) (.t 1)),
 op 47 (.call f_divide_By [] [(.t 46)]),
 op 6 (.box (.c (.agg [.nilp]))),
 ⟨none, none, .stl 6 1 (.t 6) (.t 47)⟩] [4, 6]) (
 .seq (
 .reg [
 op 48 (.ldl 6 (some 1) (.t 6)),
 op 49 (.call f_nat_Small [] [(.c (.i 1))]),
 op 50 (.call f_nat_Small [] [(.c (.i 1))]),
 op 51 (.call f_divide_Modulus_Mul [] [(.t 48), (.t 49), (.t 50)]),
 op 7 (.box (.c (.agg z9))),
 ⟨none, none, .stl 7 9 (.t 7) (.t 51)⟩] [4, 6, 7]) (
 .seq (
 .seq (
 .reg [
 mv 52 4,
 op 53 (.nck (.t 52)),
 op 54 (.off 9 (.t 53)),
 op 55 (.ld false none (.t 54)),
 op 56 (.mov (.c (.i 0)))] [4, 6, 7, 55, 56]) (
 .block 2 (
 .loop [4, 6, 7, 55, 56] (
 .seq (
 .reg [
 op 57 (.bin .lss (.t 56) (.t 55))] [4, 6, 7, 55, 56, 57]) (
 .seq (
 .cond (.t 57) (
 .reg [] [4, 6, 7, 55, 56]) (
 .exit 2 [4, 6, 7])) (
 .seq (
 .block 3 (
 .seq (
 .reg [
 op 8 (.box (.c (.agg z18)))] [4, 6, 7, 8, 55, 56]) (
 .seq (
 .reg [
 op 58 (.off 0 (.t 8)),
 op 59 (.sla true 18 1 (.t 58) (some (.c (.i 1))) none),
 op 60 (.off 0 (.t 7)),
 op 61 (.sla true 9 1 (.t 60) none none),
 op 62 (.cpyl 8 1 [7] (.t 59) (.t 61))] [4, 6, 7, 8, 55, 56]) (
 .reg [
 op 63 (.ldl 6 (some 1) (.t 6)),
 op 64 (.ldl 8 (some 18) (.t 8)),
 op 65 (.call f_divide_Modulus_Rest [] [(.t 63), (.t 64)]),
 ⟨none, none, .stl 7 9 (.t 7) (.t 65)⟩] [4, 6, 7, 55, 56])))) (
 .reg [
 op 66 (.bin .add (.t 56) (.c (.i 1))),
 mv 56 66] [4, 6, 7, 55, 56]))))))) (
 .seq (
 .reg [
 mv 67 4,
 op 68 (.ldl 6 (some 1) (.t 6)),
 op 69 (.ldl 7 (some 9) (.t 7)),
 op 70 (.ldl 7 (some 9) (.t 7)),
 op 71 (.call f_divide_Modulus_Mul [] [(.t 68), (.t 69), (.t 70)]),
 op 72 (.nck (.t 67)),
 op 73 (.off 11 (.t 72)),
 ⟨none, none, .st 9 (.t 73) (.t 71)⟩] [4]) (
 .seq (
 .reg [
 mv 74 4,
 mv 2 74,
 op 3 (.mov (.c (.i 0)))] [2, 3]) (
 .ret)))))))))))
def m_mont_New : MFn := ⟨c_mont_New, [.tmp 2, .tmp 3], 0⟩

/-- (*curvet/mont.Mont).To -/
def c_mont_Mont_To : Stm :=
 .seq (
 .reg [
 op 3 (.boxv (.t 1)),
 op 4 (.box (.c (.agg z9))),
 op 5 (.mov (.c (.i 0)))] [0, 3, 4]) (
 .seq (
 .seq (
 .reg [
 mv 7 0,
 op 8 (.ld true (some 9) (.t 3)),
 op 9 (.lit true 9 1 z9 [(0, 9, (.t 8))]),
 op 10 (.call f_mont_Mont_may [] [(.t 7), (.t 9)]),
 mv 6 10] [0, 3, 4, 6]) (
 .seq (
 .reg [
 mv 11 6,
 op 12 (.bin .neq (.t 11) (.c (.i 0)))] [0, 3, 4, 6, 12]) (
 .cond (.t 12) (
 .seq (
 .reg [
 op 13 (.build z9 []),
 mv 14 6,
 ⟨none, none, .stl 4 9 (.t 4) (.t 13)⟩,
 mv 5 14] [4, 5]) (
 .ret)) (
 .reg [] [0, 3, 4])))) (
 .seq (
 .reg [
 mv 15 0,
 op 16 (.ld true (some 9) (.t 3)),
 mv 17 0,
 op 18 (.nck (.t 17)),
 op 19 (.off 11 (.t 18)),
 op 20 (.ld false (some 9) (.t 19)),
 op 21 (.call f_mont_Mont_Raw [] [(.t 15), (.t 16), (.t 20)]),
 ⟨none, none, .stl 4 9 (.t 4) (.t 21)⟩,
 op 5 (.mov (.c (.i 0)))] [4, 5]) (
 .ret)))
def m_mont_Mont_To : MFn := ⟨c_mont_Mont_To, [.cell 4 (some 9), .tmp 5], 0⟩

/-- (*curvet/mont.Mont).Inv -/
def c_mont_Mont_Inv : Stm :=
 .seq (
 .reg [
 op 3 (.boxv (.t 1)),
 op 4 (.box (.c (.agg z9))),
 op 5 (.mov (.c (.i 0)))] [0, 3, 4]) (
 .seq (
 .seq (
 .reg [
 mv 9 0,
 op 10 (.ld true (some 9) (.t 3)),
 op 11 (.lit true 9 1 z9 [(0, 9, (.t 10))]),
 op 12 (.call f_mont_Mont_may [] [(.t 9), (.t 11)]),
 mv 6 12] [0, 3, 4, 6]) (
 .seq (
 .reg [
 mv 13 6,
 op 14 (.bin .neq (.t 13) (.c (.i 0)))] [0, 3, 4, 6, 14]) (
 .cond (.t 14) (
 .seq (
 .reg [
 op 15 (.build z9 []),
 mv 16 6,
 ⟨none, none, .stl 4 9 (.t 4) (.t 15)⟩,
 mv 5 16] [4, 5]) (
 .ret)) (
 .reg [] [0, 3, 4])))) (
 .seq (
 .reg [
 op 18 (.ld true (some 9) (.t 3)),
 mv 19 0,
 op 20 (.nck (.t 19)),
 op 21 (.off 0 (.t 20)),
 op 22 (.ld false (some 9) (.t 21)),
 op 23 (.call f_divide_Inverse [] [(.t 18), (.t 22)]),
 mv 17 23,
 op 24 (.ext 0 (.t 17)),
 op 25 (.ext 1 (.t 17)),
 op 7 (.box (.c (.agg z9))),
 ⟨none, none, .stl 7 9 (.t 7) (.t 24)⟩,
 mv 8 25] [0, 4, 7, 8]) (
 .seq (
 .seq (
 .reg [
 mv 26 8,
 op 27 (.bin .neq (.t 26) (.c (.i 0)))] [0, 4, 7, 8, 27]) (
 .cond (.t 27) (
 .seq (
 .reg [
 op 28 (.build z9 []),
 mv 29 8,
 ⟨none, none, .stl 4 9 (.t 4) (.t 28)⟩,
 mv 5 29] [4, 5]) (
 .ret)) (
 .reg [] [0, 4, 7]))) (
 .seq (
 .reg [
 mv 30 0,
 mv 31 0,
 op 32 (.ldl 7 (some 9) (.t 7)),
 mv 33 0,
 op 34 (.nck (.t 33)),
 op 35 (.off 11 (.t 34)),
 op 36 (.ld false (some 9) (.t 35)),
 op 37 (.call f_mont_Mont_Raw [] [(.t 31), (.t 32), (.t 36)]),
 mv 38 0,
 op 39 (.nck (.t 38)),
 op 40 (.off 11 (.t 39)),
 op 41 (.ld true (some 9) (.t 40)),
 op 42 (.call f_mont_Mont_Raw [] [(.t 30), (.t 37), (.t 41)]),
 ⟨none, none, .stl 4 9 (.t 4) (.t 42)⟩,
 op 5 (.mov (.c (.i 0)))] [4, 5]) (
 .ret)))))
def m_mont_Mont_Inv : MFn := ⟨c_mont_Mont_Inv, [.cell 4 (some 9), .tmp 5], 0⟩

/-- (*curvet/mont.Mont).From -/
def c_mont_Mont_From : Stm :=
 .seq (
 .reg [
 op 3 (.boxv (.t 1)),
 op 4 (.box (.c (.agg z9))),
 op 5 (.mov (.c (.i 0)))] [0, 3, 4]) (
 .seq (
 .seq (
 .reg [
 mv 7 0,
 op 8 (.ld true (some 9) (.t 3)),
 op 9 (.lit true 9 1 z9 [(0, 9, (.t 8))]),
 op 10 (.call f_mont_Mont_may [] [(.t 7), (.t 9)]),
 mv 6 10] [0, 3, 4, 6]) (
 .seq (
 .reg [
 mv 11 6,
 op 12 (.bin .neq (.t 11) (.c (.i 0)))] [0, 3, 4, 6, 12]) (
 .cond (.t 12) (
 .seq (
 .reg [
 op 13 (.build z9 []),
 mv 14 6,
 ⟨none, none, .stl 4 9 (.t 4) (.t 13)⟩,
 mv 5 14] [4, 5]) (
 .ret)) (
 .reg [] [0, 3, 4])))) (
 .seq (
 .reg [
 mv 15 0,
 op 16 (.ld true (some 9) (.t 3)),
 op 17 (.call f_nat_Small [] [(.c (.i 1))]),
 op 18 (.call f_mont_Mont_Raw [] [(.t 15), (.t 16), (.t 17)]),
 ⟨none, none, .stl 4 9 (.t 4) (.t 18)⟩,
 op 5 (.mov (.c (.i 0)))] [4, 5]) (
 .ret)))
def m_mont_Mont_From : MFn := ⟨c_mont_Mont_From, [.cell 4 (some 9), .tmp 5], 0⟩

/-- curvet/curve.None -/
def c_curve_None : Stm :=
 .seq (
 .reg [
 op 0 (.box (.c (.agg z27)))] [0]) (
 .seq (
 .reg [
 op 1 (.call f_nat_Small [] [(.c (.i 1))]),
 op 2 (.build z27 [(9, 9, (.t 1))]),
 ⟨none, none, .stl 0 27 (.t 0) (.t 2)⟩] [0]) (
 .ret))
def m_curve_None : MFn := ⟨c_curve_None, [.cell 0 (some 27)], 0⟩

/-- (*curvet/curve.Curve).Sum -/
def c_curve_Curve_Sum : Stm :=
 .seq (
 .reg [
 op 4 (.boxv (.t 1)),
 op 5 (.boxv (.t 2)),
 op 6 (.box (.c (.agg z27)))] [0, 4, 5, 6]) (
 .seq (
 .reg [
 mv 19 0,
 op 20 (.nck (.t 19)),
 op 21 (.off 59 (.t 20)),
 op 22 (.ld false none (.t 21)),
 op 23 (.fun_ f_field_Field_Add [(.t 22)] []),
 mv 24 0,
 op 25 (.nck (.t 24)),
 op 26 (.off 59 (.t 25)),
 op 27 (.ld false none (.t 26)),
 op 28 (.fun_ f_field_Field_Sub [(.t 27)] []),
 mv 29 0,
 op 30 (.nck (.t 29)),
 op 31 (.off 59 (.t 30)),
 op 32 (.ld false none (.t 31)),
 op 33 (.fun_ f_field_Field_Mul [(.t 32)] []),
 mv 7 23,
 mv 8 28,
 mv 9 33] [0, 4, 5, 6, 7, 8, 9]) (
 .seq (
 .reg [
 mv 34 9,
 op 35 (.off 0 (.t 4)),
 op 36 (.ld true (some 9) (.t 35)),
 op 37 (.off 0 (.t 5)),
 op 38 (.ld true (some 9) (.t 37)),
 op 39 (.cal (.t 34) [(.t 36), (.t 38)]),
 mv 40 9,
 op 41 (.off 9 (.t 4)),
 op 42 (.ld true (some 9) (.t 41)),
 op 43 (.off 9 (.t 5)),
 op 44 (.ld true (some 9) (.t 43)),
 op 45 (.cal (.t 40) [(.t 42), (.t 44)]),
 mv 46 9,
 op 47 (.off 18 (.t 4)),
 op 48 (.ld true (some 9) (.t 47)),
 op 49 (.off 18 (.t 5)),
 op 50 (.ld true (some 9) (.t 49)),
 op 51 (.cal (.t 46) [(.t 48), (.t 50)]),
 op 10 (.box (.c (.agg z9))),
 op 11 (.box (.c (.agg z9))),
 op 12 (.box (.c (.agg z9))),
 ⟨none, none, .stl 10 9 (.t 10) (.t 39)⟩,
 ⟨none, none, .stl 11 9 (.t 11) (.t 45)⟩,
 ⟨none, none, .stl 12 9 (.t 12) (.t 51)⟩] [0, 4, 5, 6, 7, 8, 9, 10, 11, 12]) (
 .seq (
 .reg [
 mv 52 8,
 mv 53 9,
 mv 54 7,
 op 55 (.off 0 (.t 4)),
 op 56 (.ld true (some 9) (.t 55)),
 op 57 (.off 9 (.t 4)),
 op 58 (.ld true (some 9) (.t 57)),
 op 59 (.cal (.t 54) [(.t 56), (.t 58)]),
 mv 60 7,
 op 61 (.off 0 (.t 5)),
 op 62 (.ld true (some 9) (.t 61)),
 op 63 (.off 9 (.t 5)),
 op 64 (.ld true (some 9) (.t 63)),
 op 65 (.cal (.t 60) [(.t 62), (.t 64)]),
 op 66 (.cal (.t 53) [(.t 59), (.t 65)]),
 mv 67 7,
 op 68 (.ldl 10 (some 9) (.t 10)),
 op 69 (.ldl 11 (some 9) (.t 11)),
 op 70 (.cal (.t 67) [(.t 68), (.t 69)]),
 op 71 (.cal (.t 52) [(.t 66), (.t 70)]),
 op 13 (.box (.c (.agg z9))),
 ⟨none, none, .stl 13 9 (.t 13) (.t 71)⟩] [0, 4, 5, 6, 7, 8, 9, 10, 11, 12, 13]) (
 .seq (
 .reg [
 mv 72 8,
 mv 73 9,
 mv 74 7,
 op 75 (.off 0 (.t 4)),
 op 76 (.ld true (some 9) (.t 75)),
 op 77 (.off 18 (.t 4)),
 op 78 (.ld true (some 9) (.t 77)),
 op 79 (.cal (.t 74) [(.t 76), (.t 78)]),
 mv 80 7,
 op 81 (.off 0 (.t 5)),
 op 82 (.ld true (some 9) (.t 81)),
 op 83 (.off 18 (.t 5)),
 op 84 (.ld true (some 9) (.t 83)),
 op 85 (.cal (.t 80) [(.t 82), (.t 84)]),
 op 86 (.cal (.t 73) [(.t 79), (.t 85)]),
 mv 87 7,
 op 88 (.ldl 10 (some 9) (.t 10)),
 op 89 (.ldl 12 (some 9) (.t 12)),
 op 90 (.cal (.t 87) [(.t 88), (.t 89)]),
 op 91 (.cal (.t 72) [(.t 86), (.t 90)]),
 op 14 (.box (.c (.agg z9))),
 ⟨none, none, .stl 14 9 (.t 14) (.t 91)⟩] [0, 4, 5, 6, 7, 8, 9, 10, 11, 12, 13, 14]) (
 .seq (
 .reg [
 mv 92 8,
 mv 93 9,
 mv 94 7,
 op 95 (.off 9 (.t 4)),
 op 96 (.ld true (some 9) (.t 95)),
 op 97 (.off 18 (.t 4)),
 op 98 (.ld true (some 9) (.t 97)),
 op 99 (.cal (.t 94) [(.t 96), (.t 98)]),
 mv 100 7,
 op 101 (.off 9 (.t 5)),
 op 102 (.ld true (some 9) (.t 101)),
 op 103 (.off 18 (.t 5)),
 op 104 (.ld true (some 9) (.t 103)),
 op 105 (.cal (.t 100) [(.t 102), (.t 104)]),
 op 106 (.cal (.t 93) [(.t 99), (.t 105)]),
 mv 107 7,
 op 108 (.ldl 11 (some 9) (.t 11)),
 op 109 (.ldl 12 (some 9) (.t 12)),
 op 110 (.cal (.t 107) [(.t 108), (.t 109)]),
 op 111 (.cal (.t 92) [(.t 106), (.t 110)]),
 op 15 (.box (.c (.agg z9))),
 ⟨none, none, .stl 15 9 (.t 15) (.t 111)⟩] [0, 6, 7, 8, 9, 10, 11, 12, 13, 14, 15]) (
 .seq (
 .reg [
 mv 112 7,
 mv 113 9,
 mv 114 0,
 op 115 (.nck (.t 114)),
 op 116 (.off 60 (.t 115)),
 op 117 (.ld false (some 9) (.t 116)),
 op 118 (.ldl 12 (some 9) (.t 12)),
 op 119 (.cal (.t 113) [(.t 117), (.t 118)]),
 mv 120 9,
 mv 121 0,
 op 122 (.nck (.t 121)),
 op 123 (.off 0 (.t 122)),
 op 124 (.off 10 (.t 123)),
 op 125 (.ld true (some 9) (.t 124)),
 op 126 (.ldl 14 (some 9) (.t 14)),
 op 127 (.cal (.t 120) [(.t 125), (.t 126)]),
 op 128 (.cal (.t 112) [(.t 119), (.t 127)]),
 op 16 (.box (.c (.agg z9))),
 ⟨none, none, .stl 16 9 (.t 16) (.t 128)⟩] [0, 6, 7, 8, 9, 10, 11, 12, 13, 14, 15, 16]) (
 .seq (
 .reg [
 mv 129 8,
 op 130 (.ldl 11 (some 9) (.t 11)),
 op 131 (.ldl 16 (some 9) (.t 16)),
 op 132 (.cal (.t 129) [(.t 130), (.t 131)]),
 op 17 (.box (.c (.agg z9))),
 ⟨none, none, .stl 17 9 (.t 17) (.t 132)⟩] [0, 6, 7, 8, 9, 10, 11, 12, 13, 14, 15, 16, 17]) (
 .seq (
 .reg [
 mv 133 7,
 op 134 (.ldl 11 (some 9) (.t 11)),
 op 135 (.ldl 16 (some 9) (.t 16)),
 op 136 (.cal (.t 133) [(.t 134), (.t 135)]),
 ⟨none, none, .stl 16 9 (.t 16) (.t 136)⟩] [0, 6, 7, 8, 9, 10, 11, 12, 13, 14, 15, 16, 17]) (
 .seq (
 .reg [
 mv 137 9,
 op 138 (.ldl 17 (some 9) (.t 17)),
 op 139 (.ldl 16 (some 9) (.t 16)),
 op 140 (.cal (.t 137) [(.t 138), (.t 139)]),
 op 18 (.box (.c (.agg z9))),
 ⟨none, none, .stl 18 9 (.t 18) (.t 140)⟩] [0, 6, 7, 8, 9, 10, 11, 12, 13, 14, 15, 16, 17, 18]) (
 .seq (
 .reg [
 mv 141 7,
 mv 142 7,
 op 143 (.ldl 10 (some 9) (.t 10)),
 op 144 (.ldl 10 (some 9) (.t 10)),
 op 145 (.cal (.t 142) [(.t 143), (.t 144)]),
 op 146 (.ldl 10 (some 9) (.t 10)),
 op 147 (.cal (.t 141) [(.t 145), (.t 146)]),
 ⟨none, none, .stl 11 9 (.t 11) (.t 147)⟩] [0, 6, 7, 8, 9, 10, 11, 12, 13, 14, 15, 16, 17, 18]) (
 .seq (
 .reg [
 mv 148 9,
 mv 149 0,
 op 150 (.nck (.t 149)),
 op 151 (.off 0 (.t 150)),
 op 152 (.off 10 (.t 151)),
 op 153 (.ld false (some 9) (.t 152)),
 op 154 (.ldl 12 (some 9) (.t 12)),
 op 155 (.cal (.t 148) [(.t 153), (.t 154)]),
 ⟨none, none, .stl 12 9 (.t 12) (.t 155)⟩] [0, 6, 7, 8, 9, 10, 11, 12, 13, 14, 15, 16, 17, 18]) (
 .seq (
 .reg [
 mv 156 9,
 mv 157 0,
 op 158 (.nck (.t 157)),
 op 159 (.off 60 (.t 158)),
 op 160 (.ld false (some 9) (.t 159)),
 op 161 (.ldl 14 (some 9) (.t 14)),
 op 162 (.cal (.t 156) [(.t 160), (.t 161)]),
 ⟨none, none, .stl 14 9 (.t 14) (.t 162)⟩] [0, 6, 7, 8, 9, 10, 11, 12, 13, 14, 15, 16, 17, 18]) (
 .seq (
 .reg [
 mv 163 7,
 op 164 (.ldl 11 (some 9) (.t 11)),
 op 165 (.ldl 12 (some 9) (.t 12)),
 op 166 (.cal (.t 163) [(.t 164), (.t 165)]),
 ⟨none, none, .stl 11 9 (.t 11) (.t 166)⟩] [0, 6, 7, 8, 9, 10, 11, 12, 13, 14, 15, 16, 17, 18]) (
 .seq (
 .reg [
 mv 167 9,
 mv 168 0,
 op 169 (.nck (.t 168)),
 op 170 (.off 0 (.t 169)),
 op 171 (.off 10 (.t 170)),
 op 172 (.ld true (some 9) (.t 171)),
 mv 173 8,
 op 174 (.ldl 10 (some 9) (.t 10)),
 op 175 (.ldl 12 (some 9) (.t 12)),
 op 176 (.cal (.t 173) [(.t 174), (.t 175)]),
 op 177 (.cal (.t 167) [(.t 172), (.t 176)]),
 ⟨none, none, .stl 12 9 (.t 12) (.t 177)⟩] [6, 7, 8, 9, 11, 12, 13, 14, 15, 16, 17, 18]) (
 .seq (
 .reg [
 mv 178 7,
 op 179 (.ldl 14 (some 9) (.t 14)),
 op 180 (.ldl 12 (some 9) (.t 12)),
 op 181 (.cal (.t 178) [(.t 179), (.t 180)]),
 ⟨none, none, .stl 14 9 (.t 14) (.t 181)⟩] [6, 7, 8, 9, 11, 13, 14, 15, 16, 17, 18]) (
 .seq (
 .reg [
 mv 182 7,
 op 183 (.ldl 18 (some 9) (.t 18)),
 mv 184 9,
 op 185 (.ldl 11 (some 9) (.t 11)),
 op 186 (.ldl 14 (some 9) (.t 14)),
 op 187 (.cal (.t 184) [(.t 185), (.t 186)]),
 op 188 (.cal (.t 182) [(.t 183), (.t 187)]),
 ⟨none, none, .stl 18 9 (.t 18) (.t 188)⟩] [6, 7, 8, 9, 11, 13, 14, 15, 16, 17, 18]) (
 .seq (
 .reg [
 mv 189 8,
 mv 190 9,
 op 191 (.ldl 13 (some 9) (.t 13)),
 op 192 (.ldl 17 (some 9) (.t 17)),
 op 193 (.cal (.t 190) [(.t 191), (.t 192)]),
 mv 194 9,
 op 195 (.ldl 15 (some 9) (.t 15)),
 op 196 (.ldl 14 (some 9) (.t 14)),
 op 197 (.cal (.t 194) [(.t 195), (.t 196)]),
 op 198 (.cal (.t 189) [(.t 193), (.t 197)]),
 ⟨none, none, .stl 17 9 (.t 17) (.t 198)⟩] [6, 7, 9, 11, 13, 15, 16, 17, 18]) (
 .seq (
 .reg [
 mv 199 7,
 mv 200 9,
 op 201 (.ldl 15 (some 9) (.t 15)),
 op 202 (.ldl 16 (some 9) (.t 16)),
 op 203 (.cal (.t 200) [(.t 201), (.t 202)]),
 mv 204 9,
 op 205 (.ldl 13 (some 9) (.t 13)),
 op 206 (.ldl 11 (some 9) (.t 11)),
 op 207 (.cal (.t 204) [(.t 205), (.t 206)]),
 op 208 (.cal (.t 199) [(.t 203), (.t 207)]),
 ⟨none, none, .stl 16 9 (.t 16) (.t 208)⟩] [6, 16, 17, 18]) (
 .seq (
 .reg [
 op 209 (.ldl 17 (some 9) (.t 17)),
 op 210 (.ldl 18 (some 9) (.t 18)),
 op 211 (.ldl 16 (some 9) (.t 16)),
 op 212 (.build z27 [(0, 9, (.t 209)), (9, 9, (.t 210)), (18, 9, (.t 211))]),
 ⟨none, none, .stl 6 27 (.t 6) (.t 212)⟩] [6]) (
 .ret))))))))))))))))))))
def m_curve_Curve_Sum : MFn := ⟨c_curve_Curve_Sum, [.cell 6 (some 27)], 0⟩

/-- curvet/nat.Bit -/
def c_nat_Bit : Stm :=
 .seq (
 .reg [
 op 2 (.boxv (.t 0)),
 op 4 (.mov (.c (.i 0)))] [1, 2]) (
 .seq (
 .seq (
 .reg [
 mv 5 1,
 op 6 (.bin .lss (.t 5) (.c (.i 0))),
 mv 7 6,
 ⟨some 8, (some (7, false)), .mov (.t 1)⟩,
 ⟨some 9, (some (7, false)), .bin .geq (.t 8) (.c (.i 576))⟩,
 op 10 (.pick (.t 7) (.c (.b true)) (.t 9))] [1, 2, 10]) (
 .cond (.t 10) (
 .seq (
 .reg [
 op 4 (.mov (.c (.i 0)))] [4]) (
 .ret)) (
 .reg [] [1, 2]))) (
 .seq (
 .reg [
 mv 11 1,
 op 12 (.bin .quo (.t 11) (.c (.i 64))),
 op 13 (.off 0 (.t 2)),
 op 14 (.idx 9 1 (.t 13) (.t 12)),
 op 15 (.ld true none (.t 14)),
 mv 16 1,
 op 17 (.bin .rem (.t 16) (.c (.i 64))),
 op 18 (.bin .shr (.t 15) (.t 17)),
 op 19 (.bin .and (.t 18) (.c (.u 64 1))),
 op 20 (.cvi (.t 19)),
 mv 4 20] [4]) (
 .ret)))
def m_nat_Bit : MFn := ⟨c_nat_Bit, [.tmp 4], 0⟩

/-- (*curvet/mont.Mont).Mul -/
def c_mont_Mont_Mul : Stm :=
 .seq (
 .reg [
 op 4 (.boxv (.t 1)),
 op 5 (.boxv (.t 2)),
 op 6 (.box (.c (.agg z9))),
 op 7 (.mov (.c (.i 0)))] [0, 4, 5, 6]) (
 .seq (
 .seq (
 .reg [
 mv 9 0,
 op 10 (.ld true (some 9) (.t 4)),
 op 11 (.ld true (some 9) (.t 5)),
 op 12 (.lit true 9 2 z18 [(0, 9, (.t 10)), (9, 9, (.t 11))]),
 op 13 (.call f_mont_Mont_may [] [(.t 9), (.t 12)]),
 mv 8 13] [0, 4, 5, 6, 8]) (
 .seq (
 .reg [
 mv 14 8,
 op 15 (.bin .neq (.t 14) (.c (.i 0)))] [0, 4, 5, 6, 8, 15]) (
 .cond (.t 15) (
 .seq (
 .reg [
 op 16 (.build z9 []),
 mv 17 8,
 ⟨none, none, .stl 6 9 (.t 6) (.t 16)⟩,
 mv 7 17] [6, 7]) (
 .ret)) (
 .reg [] [0, 4, 5, 6])))) (
 .seq (
 .reg [
 mv 18 0,
 op 19 (.ld true (some 9) (.t 4)),
 op 20 (.ld true (some 9) (.t 5)),
 op 21 (.call f_mont_Mont_Raw [] [(.t 18), (.t 19), (.t 20)]),
 ⟨none, none, .stl 6 9 (.t 6) (.t 21)⟩,
 op 7 (.mov (.c (.i 0)))] [6, 7]) (
 .ret)))
def m_mont_Mont_Mul : MFn := ⟨c_mont_Mont_Mul, [.cell 6 (some 9), .tmp 7], 0⟩

/-- curvet/hash.Of -/
def c_hash_Of : Stm :=
 .seq (
 .reg [
 op 4 (.mov (.c (.s []))),
 op 5 (.mov (.c (.i 0)))] [0, 1]) (
 .seq (
 .reg [
 mv 9 0,
 op 10 (.callo f_hash_New [(.t 9)]),
 mv 8 10,
 op 11 (.ext 0 (.t 8)),
 op 12 (.ext 1 (.t 8)),
 mv 6 11,
 mv 7 12] [1, 6, 7]) (
 .seq (
 .seq (
 .reg [
 mv 13 7,
 op 14 (.bin .neq (.t 13) (.c (.i 0)))] [1, 6, 7, 14]) (
 .cond (.t 14) (
 .seq (
 .reg [
 mv 15 7,
 op 4 (.mov (.c (.s []))),
 mv 5 15] [4, 5]) (
 .ret)) (
 .reg [] [1, 6]))) (
 .seq (
 .reg [
 mv 16 6,
 mv 17 1,
 op 18 (.callo f_hash_Stream_Write [(.t 16), (.t 17)])] [6]) (
 .seq (
 .reg [
 mv 19 6,
 op 20 (.callo f_hash_Stream_Sum [(.t 19)]),
 mv 4 20,
 op 5 (.mov (.c (.i 0)))] [4, 5]) (
 .ret)))))
def m_hash_Of : MFn := ⟨c_hash_Of, [.tmp 4, .tmp 5], 0⟩

/-- curvet/nat.Of -/
def c_nat_Of : Stm :=
 .seq (
 .reg [
 op 2 (.box (.c (.agg z9))),
 op 3 (.mov (.c (.i 0)))] [0, 2]) (
 .seq (
 .seq (
 .reg [
 mv 7 0,
 op 8 (.lens (.t 7)),
 op 9 (.bin .gtr (.t 8) (.c (.i 72)))] [0, 2, 9]) (
 .cond (.t 9) (
 .seq (
 .reg [
 op 10 (.build z9 []),
 ⟨none, none, .stl 2 9 (.t 2) (.t 10)⟩,
 op 3 (.mov (.c (.i 100)))] [2, 3]) (
 .ret)) (
 .reg [] [0, 2]))) (
 .seq (
 .reg [
 op 4 (.box (.c (.agg z9)))] [0, 2, 4]) (
 .seq (
 .seq (
 .reg [
 mv 11 0,
 op 12 (.lens (.t 11)),
 op 13 (.mov (.c (.i 0)))] [0, 2, 4, 12, 13]) (
 .block 0 (
 .loop [0, 2, 4, 12, 13] (
 .seq (
 .reg [
 op 14 (.bin .lss (.t 13) (.t 12))] [0, 2, 4, 12, 13, 14]) (
 .seq (
 .cond (.t 14) (
 .reg [] [0, 2, 4, 12, 13]) (
 .exit 0 [2, 4])) (
 .seq (
 .block 1 (
 .seq (
 .reg [
 mv 15 13,
 mv 5 15] [0, 2, 4, 5, 12, 13]) (
 .seq (
 .reg [
 mv 16 0,
 op 17 (.lens (.t 16)),
 op 18 (.bin .sub (.t 17) (.c (.i 1))),
 mv 19 5,
 op 20 (.bin .sub (.t 18) (.t 19)),
 mv 6 20] [0, 2, 4, 5, 6, 12, 13]) (
 .reg [
 mv 21 5,
 op 22 (.bin .quo (.t 21) (.c (.i 8))),
 op 23 (.off 0 (.t 4)),
 op 24 (.idx 9 1 (.t 23) (.t 22)),
 op 25 (.ldl 4 none (.t 24)),
 mv 26 0,
 mv 27 6,
 op 28 (.idxb (.t 26) (.t 27)),
 op 29 (.cvu 64 (.t 28)),
 mv 30 5,
 op 31 (.bin .rem (.t 30) (.c (.i 8))),
 op 32 (.bin .mul (.c (.i 8)) (.t 31)),
 op 33 (.bin .shl (.t 29) (.t 32)),
 op 34 (.bin .or (.t 25) (.t 33)),
 op 35 (.off 0 (.t 4)),
 op 36 (.idx 9 1 (.t 35) (.t 22)),
 ⟨none, none, .stl 4 1 (.t 36) (.t 34)⟩] [0, 2, 4, 12, 13])))) (
 .reg [
 op 37 (.bin .add (.t 13) (.c (.i 1))),
 mv 13 37] [0, 2, 4, 12, 13]))))))) (
 .seq (
 .reg [
 op 38 (.ldl 4 (some 9) (.t 4)),
 ⟨none, none, .stl 2 9 (.t 2) (.t 38)⟩,
 op 3 (.mov (.c (.i 0)))] [2, 3]) (
 .ret)))))
def m_nat_Of : MFn := ⟨c_nat_Of, [.cell 2 (some 9), .tmp 3], 0⟩

/-- curvet/nat.Shr -/
def c_nat_Shr : Stm :=
 .seq (
 .reg [
 op 2 (.boxv (.t 0)),
 op 4 (.box (.c (.agg z9))),
 op 5 (.mov (.c (.i 0)))] [1, 2, 4]) (
 .seq (
 .seq (
 .reg [
 mv 10 1,
 op 11 (.bin .lss (.t 10) (.c (.i 0))),
 mv 12 11,
 ⟨some 13, (some (12, false)), .mov (.t 1)⟩,
 ⟨some 14, (some (12, false)), .bin .gtr (.t 13) (.c (.i 576))⟩,
 op 15 (.pick (.t 12) (.c (.b true)) (.t 14))] [1, 2, 4, 15]) (
 .cond (.t 15) (
 .seq (
 .reg [
 op 16 (.build z9 []),
 ⟨none, none, .stl 4 9 (.t 4) (.t 16)⟩,
 op 5 (.mov (.c (.i 102)))] [4, 5]) (
 .ret)) (
 .reg [] [1, 2, 4]))) (
 .seq (
 .reg [
 op 6 (.box (.c (.agg z9)))] [1, 2, 4, 6]) (
 .seq (
 .reg [
 mv 17 1,
 op 18 (.bin .quo (.t 17) (.c (.i 64))),
 mv 19 1,
 op 20 (.bin .rem (.t 19) (.c (.i 64))),
 mv 7 18,
 mv 8 20] [2, 4, 6, 7, 8]) (
 .seq (
 .seq (
 .reg [
 mv 21 7,
 op 22 (.bin .sub (.c (.i 9)) (.t 21)),
 op 23 (.mov (.c (.i 0)))] [2, 4, 6, 7, 8, 22, 23]) (
 .block 0 (
 .loop [2, 4, 6, 7, 8, 22, 23] (
 .seq (
 .reg [
 op 24 (.bin .lss (.t 23) (.t 22))] [2, 4, 6, 7, 8, 22, 23, 24]) (
 .seq (
 .cond (.t 24) (
 .reg [] [2, 4, 6, 7, 8, 22, 23]) (
 .exit 0 [4, 6])) (
 .seq (
 .block 1 (
 .seq (
 .reg [
 mv 25 23,
 mv 9 25] [2, 4, 6, 7, 8, 9, 22, 23]) (
 .seq (
 .reg [
 mv 26 9,
 mv 27 9,
 mv 28 7,
 op 29 (.bin .add (.t 27) (.t 28)),
 op 30 (.off 0 (.t 2)),
 op 31 (.idx 9 1 (.t 30) (.t 29)),
 op 32 (.ld true none (.t 31)),
 mv 33 8,
 op 34 (.bin .shr (.t 32) (.t 33)),
 op 35 (.off 0 (.t 6)),
 op 36 (.idx 9 1 (.t 35) (.t 26)),
 ⟨none, none, .stl 6 1 (.t 36) (.t 34)⟩] [2, 4, 6, 7, 8, 9, 22, 23]) (
 .seq (
 .reg [
 mv 37 9,
 mv 38 7,
 op 39 (.bin .add (.t 37) (.t 38)),
 op 40 (.bin .add (.t 39) (.c (.i 1))),
 op 41 (.bin .lss (.t 40) (.c (.i 9)))] [2, 4, 6, 7, 8, 9, 22, 23, 41]) (
 .cond (.t 41) (
 .reg [
 mv 42 9,
 op 43 (.off 0 (.t 6)),
 op 44 (.idx 9 1 (.t 43) (.t 42)),
 op 45 (.ldl 6 none (.t 44)),
 mv 46 9,
 mv 47 7,
 op 48 (.bin .add (.t 46) (.t 47)),
 op 49 (.bin .add (.t 48) (.c (.i 1))),
 op 50 (.off 0 (.t 2)),
 op 51 (.idx 9 1 (.t 50) (.t 49)),
 op 52 (.ld true none (.t 51)),
 mv 53 8,
 op 54 (.bin .sub (.c (.i 64)) (.t 53)),
 op 55 (.bin .shl (.t 52) (.t 54)),
 op 56 (.bin .or (.t 45) (.t 55)),
 op 57 (.off 0 (.t 6)),
 op 58 (.idx 9 1 (.t 57) (.t 42)),
 ⟨none, none, .stl 6 1 (.t 58) (.t 56)⟩] [2, 4, 6, 7, 8, 22, 23]) (
 .reg [] [2, 4, 6, 7, 8, 22, 23])))))) (
 .reg [
 op 59 (.bin .add (.t 23) (.c (.i 1))),
 mv 23 59] [2, 4, 6, 7, 8, 22, 23]))))))) (
 .seq (
 .reg [
 op 60 (.ldl 6 (some 9) (.t 6)),
 ⟨none, none, .stl 4 9 (.t 4) (.t 60)⟩,
 op 5 (.mov (.c (.i 0)))] [4, 5]) (
 .ret))))))
def m_nat_Shr : MFn := ⟨c_nat_Shr, [.cell 4 (some 9), .tmp 5], 0⟩

/-- curvet/divide.of -/
def c_divide_of : Stm :=
 .seq (
 .reg [
 op 2 (.mov (.c (.nilp)))] [0]) (
 .seq (
 .reg [
 mv 5 0,
 op 6 (.nck (.t 5)),
 op 7 (.off 0 (.t 6)),
 op 8 (.ld true (some 9) (.t 7)),
 mv 9 0,
 op 10 (.nck (.t 9)),
 op 11 (.off 0 (.t 10)),
 op 12 (.sla false 9 1 (.t 11) none none),
 op 13 (.call f_divide_length [] [(.t 12)]),
 op 14 (.build [.u 64 0, .u 64 0, .u 64 0, .u 64 0, .u 64 0, .u 64 0, .u 64 0, .u 64 0, .u 64 0, .i 0, .i 0] [(0, 9, (.t 8)), (9, 1, (.t 13))]),
 op 15 (.boxh (.t 14)),
 mv 3 15] [3]) (
 .seq (
 .reg [
 mv 16 3,
 mv 17 3,
 mv 18 3,
 op 19 (.nck (.t 18)),
 op 20 (.off 9 (.t 19)),
 op 21 (.ld false none (.t 20)),
 op 22 (.bin .sub (.t 21) (.c (.i 1))),
 op 23 (.nck (.t 17)),
 op 24 (.off 0 (.t 23)),
 op 25 (.idx 9 1 (.t 24) (.t 22)),
 op 26 (.ld false none (.t 25)),
 op 27 (.call f_bits_LeadingZeros64 [] [(.t 26)]),
 op 28 (.nck (.t 16)),
 op 29 (.off 10 (.t 28)),
 ⟨none, none, .st 1 (.t 29) (.t 27)⟩] [3]) (
 .seq (
 .seq (
 .reg [
 mv 30 3,
 op 31 (.nck (.t 30)),
 op 32 (.off 9 (.t 31)),
 op 33 (.ld false none (.t 32)),
 op 34 (.bin .sub (.t 33) (.c (.i 1))),
 mv 4 34] [3, 4]) (
 .block 0 (
 .loop [3, 4] (
 .seq (
 .seq (
 .reg [
 mv 35 4,
 op 36 (.bin .geq (.t 35) (.c (.i 0)))] [3, 4, 36]) (
 .cond (.t 36) (
 .reg [] [3, 4]) (
 .exit 0 [3]))) (
 .seq (
 .block 1 (
 .seq (
 .reg [
 mv 39 3,
 mv 40 4,
 op 41 (.nck (.t 39)),
 op 42 (.off 0 (.t 41)),
 op 43 (.idx 9 1 (.t 42) (.t 40)),
 op 44 (.ld false none (.t 43)),
 mv 45 3,
 op 46 (.nck (.t 45)),
 op 47 (.off 10 (.t 46)),
 op 48 (.ld false none (.t 47)),
 op 49 (.bin .shl (.t 44) (.t 48)),
 op 50 (.nck (.t 39)),
 op 51 (.off 0 (.t 50)),
 op 52 (.idx 9 1 (.t 51) (.t 40)),
 ⟨none, none, .st 1 (.t 52) (.t 49)⟩] [3, 4]) (
 .seq (
 .reg [
 mv 53 4,
 op 54 (.bin .gtr (.t 53) (.c (.i 0))),
 mv 55 54,
 ⟨some 56, (some (55, true)), .mov (.t 3)⟩,
 ⟨some 57, (some (55, true)), .nck (.t 56)⟩,
 ⟨some 58, (some (55, true)), .off 10 (.t 57)⟩,
 ⟨some 59, (some (55, true)), .ld false none (.t 58)⟩,
 ⟨some 60, (some (55, true)), .bin .gtr (.t 59) (.c (.i 0))⟩,
 op 61 (.pick (.t 55) (.t 60) (.c (.b false)))] [3, 4, 61]) (
 .cond (.t 61) (
 .reg [
 mv 62 3,
 mv 63 4,
 op 64 (.nck (.t 62)),
 op 65 (.off 0 (.t 64)),
 op 66 (.idx 9 1 (.t 65) (.t 63)),
 op 67 (.ld false none (.t 66)),
 mv 68 3,
 mv 69 4,
 op 70 (.bin .sub (.t 69) (.c (.i 1))),
 op 71 (.nck (.t 68)),
 op 72 (.off 0 (.t 71)),
 op 73 (.idx 9 1 (.t 72) (.t 70)),
 op 74 (.ld false none (.t 73)),
 mv 75 3,
 op 76 (.nck (.t 75)),
 op 77 (.off 10 (.t 76)),
 op 78 (.ld false none (.t 77)),
 op 79 (.bin .sub (.c (.i 64)) (.t 78)),
 op 80 (.bin .shr (.t 74) (.t 79)),
 op 81 (.bin .or (.t 67) (.t 80)),
 op 82 (.nck (.t 62)),
 op 83 (.off 0 (.t 82)),
 op 84 (.idx 9 1 (.t 83) (.t 63)),
 ⟨none, none, .st 1 (.t 84) (.t 81)⟩] [3, 4]) (
 .reg [] [3, 4]))))) (
 .reg [
 mv 37 4,
 op 38 (.bin .sub (.t 37) (.c (.i 1))),
 mv 4 38] [3, 4])))))) (
 .seq (
 .reg [
 mv 85 3,
 mv 2 85] [2]) (
 .ret)))))
def m_divide_of : MFn := ⟨c_divide_of, [.tmp 2], 0⟩

/-- (*curvet/divide.divisor).divide -/
def c_divide_divisor_divide : Stm :=
 .seq (
 .reg [
 op 4 (.box (.c (.agg z18))),
 op 5 (.box (.c (.agg z9)))] [0, 1, 4, 5]) (
 .seq (
 .reg [
 op 6 (.boxh (.c (.agg [.u 64 0, .u 64 0, .u 64 0, .u 64 0, .u 64 0, .u 64 0, .u 64 0, .u 64 0, .u 64 0, .u 64 0, .u 64 0, .u 64 0, .u 64 0, .u 64 0, .u 64 0, .u 64 0, .u 64 0, .u 64 0, .u 64 0])))] [0, 1, 4, 5, 6]) (
 .seq (
 .reg [
 op 7 (.box (.c (.agg z18)))] [0, 1, 4, 5, 6, 7]) (
 .seq (
 .seq (
 .reg [
 mv 15 1,
 op 16 (.len (.t 15)),
 op 17 (.mov (.c (.i 0)))] [0, 1, 4, 5, 6, 7, 15, 16, 17]) (
 .block 0 (
 .loop [0, 1, 4, 5, 6, 7, 15, 16, 17] (
 .seq (
 .reg [
 op 18 (.bin .lss (.t 17) (.t 16))] [0, 1, 4, 5, 6, 7, 15, 16, 17, 18]) (
 .seq (
 .cond (.t 18) (
 .reg [] [0, 1, 4, 5, 6, 7, 15, 16, 17]) (
 .exit 0 [0, 1, 4, 5, 6, 7])) (
 .seq (
 .block 1 (
 .seq (
 .reg [
 mv 19 17,
 op 20 (.idxs 1 (.t 15) (.t 17)),
 op 21 (.ld false none (.t 20)),
 mv 8 19,
 mv 9 21] [0, 1, 4, 5, 6, 7, 8, 9, 15, 16, 17]) (
 .seq (
 .reg [
 mv 22 8,
 op 23 (.idx 19 1 (.t 6) (.t 22)),
 op 24 (.ld false none (.t 23)),
 mv 25 9,
 mv 26 0,
 op 27 (.nck (.t 26)),
 op 28 (.off 10 (.t 27)),
 op 29 (.ld false none (.t 28)),
 op 30 (.bin .shl (.t 25) (.t 29)),
 op 31 (.bin .or (.t 24) (.t 30)),
 op 32 (.idx 19 1 (.t 6) (.t 22)),
 ⟨none, none, .st 1 (.t 32) (.t 31)⟩] [0, 1, 4, 5, 6, 7, 8, 9, 15, 16, 17]) (
 .seq (
 .reg [
 mv 33 0,
 op 34 (.nck (.t 33)),
 op 35 (.off 10 (.t 34)),
 op 36 (.ld false none (.t 35)),
 op 37 (.bin .gtr (.t 36) (.c (.i 0)))] [0, 1, 4, 5, 6, 7, 8, 9, 15, 16, 17, 37]) (
 .cond (.t 37) (
 .reg [
 mv 38 8,
 op 39 (.bin .add (.t 38) (.c (.i 1))),
 mv 40 9,
 mv 41 0,
 op 42 (.nck (.t 41)),
 op 43 (.off 10 (.t 42)),
 op 44 (.ld false none (.t 43)),
 op 45 (.bin .sub (.c (.i 64)) (.t 44)),
 op 46 (.bin .shr (.t 40) (.t 45)),
 op 47 (.idx 19 1 (.t 6) (.t 39)),
 ⟨none, none, .st 1 (.t 47) (.t 46)⟩] [0, 1, 4, 5, 6, 7, 15, 16, 17]) (
 .reg [] [0, 1, 4, 5, 6, 7, 15, 16, 17])))))) (
 .reg [
 op 48 (.bin .add (.t 17) (.c (.i 1))),
 mv 17 48] [0, 1, 4, 5, 6, 7, 15, 16, 17]))))))) (
 .seq (
 .seq (
 .reg [
 mv 49 1,
 op 50 (.len (.t 49)),
 mv 51 0,
 op 52 (.nck (.t 51)),
 op 53 (.off 9 (.t 52)),
 op 54 (.ld false none (.t 53)),
 op 55 (.bin .sub (.t 50) (.t 54)),
 mv 10 55] [0, 4, 5, 6, 7, 10]) (
 .block 2 (
 .loop [0, 4, 5, 6, 7, 10] (
 .seq (
 .seq (
 .reg [
 mv 56 10,
 op 57 (.bin .geq (.t 56) (.c (.i 0)))] [0, 4, 5, 6, 7, 10, 57]) (
 .cond (.t 57) (
 .reg [] [0, 4, 5, 6, 7, 10]) (
 .exit 2 [0, 4, 5, 6, 7]))) (
 .seq (
 .block 3 (
 .seq (
 .reg [
 mv 60 0,
 op 61 (.sla false 19 1 (.t 6) none none),
 mv 62 10,
 op 63 (.call f_divide_divisor_guess [] [(.t 60), (.t 61), (.t 62)]),
 mv 11 63] [0, 4, 5, 6, 7, 10, 11]) (
 .seq (
 .seq (
 .reg [
 mv 64 0,
 op 65 (.sla false 19 1 (.t 6) none none),
 mv 66 10,
 mv 67 11,
 op 68 (.call f_divide_divisor_take [] [(.t 64), (.t 65), (.t 66), (.t 67)]),
 mv 12 68] [0, 4, 5, 6, 7, 10, 11, 12]) (
 .block 4 (
 .loop [0, 4, 5, 6, 7, 10, 11, 12] (
 .seq (
 .seq (
 .reg [
 mv 69 12] [0, 4, 5, 6, 7, 10, 11, 69]) (
 .cond (.t 69) (
 .reg [] [0, 4, 5, 6, 7, 10, 11]) (
 .exit 4 [0, 4, 5, 6, 7, 10, 11]))) (
 .seq (
 .block 5 (
 .reg [
 mv 75 11,
 op 76 (.bin .sub (.t 75) (.c (.u 64 1))),
 mv 11 76] [0, 4, 5, 6, 7, 10, 11])) (
 .reg [
 mv 70 0,
 op 71 (.sla false 19 1 (.t 6) none none),
 mv 72 10,
 op 73 (.call f_divide_divisor_back [] [(.t 70), (.t 71), (.t 72)]),
 op 74 (.un .not (.t 73)),
 mv 12 74] [0, 4, 5, 6, 7, 10, 11, 12])))))) (
 .reg [
 mv 77 10,
 mv 78 11,
 op 79 (.off 0 (.t 7)),
 op 80 (.idx 18 1 (.t 79) (.t 77)),
 ⟨none, none, .stl 7 1 (.t 80) (.t 78)⟩] [0, 4, 5, 6, 7, 10])))) (
 .reg [
 mv 58 10,
 op 59 (.bin .sub (.t 58) (.c (.i 1))),
 mv 10 59] [0, 4, 5, 6, 7, 10])))))) (
 .seq (
 .reg [
 op 13 (.box (.c (.agg z9)))] [0, 4, 5, 6, 7, 13]) (
 .seq (
 .seq (
 .reg [
 mv 81 0,
 op 82 (.nck (.t 81)),
 op 83 (.off 9 (.t 82)),
 op 84 (.ld false none (.t 83)),
 op 85 (.mov (.c (.i 0)))] [0, 4, 5, 6, 7, 13, 84, 85]) (
 .block 6 (
 .loop [0, 4, 5, 6, 7, 13, 84, 85] (
 .seq (
 .reg [
 op 86 (.bin .lss (.t 85) (.t 84))] [0, 4, 5, 6, 7, 13, 84, 85, 86]) (
 .seq (
 .cond (.t 86) (
 .reg [] [0, 4, 5, 6, 7, 13, 84, 85]) (
 .exit 6 [4, 5, 7, 13])) (
 .seq (
 .block 7 (
 .seq (
 .reg [
 mv 87 85,
 mv 14 87] [0, 4, 5, 6, 7, 13, 14, 84, 85]) (
 .seq (
 .reg [
 mv 88 14,
 mv 89 14,
 op 90 (.idx 19 1 (.t 6) (.t 89)),
 op 91 (.ld false none (.t 90)),
 mv 92 0,
 op 93 (.nck (.t 92)),
 op 94 (.off 10 (.t 93)),
 op 95 (.ld false none (.t 94)),
 op 96 (.bin .shr (.t 91) (.t 95)),
 op 97 (.off 0 (.t 13)),
 op 98 (.idx 9 1 (.t 97) (.t 88)),
 ⟨none, none, .stl 13 1 (.t 98) (.t 96)⟩] [0, 4, 5, 6, 7, 13, 14, 84, 85]) (
 .seq (
 .reg [
 mv 99 0,
 op 100 (.nck (.t 99)),
 op 101 (.off 10 (.t 100)),
 op 102 (.ld false none (.t 101)),
 op 103 (.bin .gtr (.t 102) (.c (.i 0)))] [0, 4, 5, 6, 7, 13, 14, 84, 85, 103]) (
 .cond (.t 103) (
 .reg [
 mv 104 14,
 op 105 (.off 0 (.t 13)),
 op 106 (.idx 9 1 (.t 105) (.t 104)),
 op 107 (.ldl 13 none (.t 106)),
 mv 108 14,
 op 109 (.bin .add (.t 108) (.c (.i 1))),
 op 110 (.idx 19 1 (.t 6) (.t 109)),
 op 111 (.ld false none (.t 110)),
 mv 112 0,
 op 113 (.nck (.t 112)),
 op 114 (.off 10 (.t 113)),
 op 115 (.ld false none (.t 114)),
 op 116 (.bin .sub (.c (.i 64)) (.t 115)),
 op 117 (.bin .shl (.t 111) (.t 116)),
 op 118 (.bin .or (.t 107) (.t 117)),
 op 119 (.off 0 (.t 13)),
 op 120 (.idx 9 1 (.t 119) (.t 104)),
 ⟨none, none, .stl 13 1 (.t 120) (.t 118)⟩] [0, 4, 5, 6, 7, 13, 84, 85]) (
 .reg [] [0, 4, 5, 6, 7, 13, 84, 85])))))) (
 .reg [
 op 121 (.bin .add (.t 85) (.c (.i 1))),
 mv 85 121] [0, 4, 5, 6, 7, 13, 84, 85]))))))) (
 .seq (
 .reg [
 op 122 (.ldl 7 (some 18) (.t 7)),
 op 123 (.ldl 13 (some 9) (.t 13)),
 ⟨none, none, .stl 4 18 (.t 4) (.t 122)⟩,
 ⟨none, none, .stl 5 9 (.t 5) (.t 123)⟩] [4, 5]) (
 .ret))))))))
def m_divide_divisor_divide : MFn := ⟨c_divide_divisor_divide, [.cell 4 (some 18), .cell 5 (some 9)], 0⟩

/-- curvet/nat.Mul -/
def c_nat_Mul : Stm :=
 .seq (
 .reg [
 op 2 (.boxv (.t 0)),
 op 3 (.boxv (.t 1)),
 op 4 (.box (.c (.agg z18)))] [2, 3, 4]) (
 .seq (
 .reg [
 op 5 (.box (.c (.agg z18)))] [2, 3, 4, 5]) (
 .seq (
 .reg [
 op 14 (.call f_nat_used [] [(.t 2)]),
 op 15 (.call f_nat_used [] [(.t 3)]),
 mv 6 14,
 mv 7 15] [2, 3, 4, 5, 6, 7]) (
 .seq (
 .seq (
 .reg [
 mv 16 6,
 op 17 (.mov (.c (.i 0)))] [2, 3, 4, 5, 7, 16, 17]) (
 .block 0 (
 .loop [2, 3, 4, 5, 7, 16, 17] (
 .seq (
 .reg [
 op 18 (.bin .lss (.t 17) (.t 16))] [2, 3, 4, 5, 7, 16, 17, 18]) (
 .seq (
 .cond (.t 18) (
 .reg [] [2, 3, 4, 5, 7, 16, 17]) (
 .exit 0 [4, 5])) (
 .seq (
 .block 1 (
 .seq (
 .reg [
 mv 19 17,
 mv 8 19] [2, 3, 4, 5, 7, 8, 16, 17]) (
 .seq (
 .reg [
 op 9 (.mov (.c (.u 64 0)))] [2, 3, 4, 5, 7, 8, 9, 16, 17]) (
 .seq (
 .seq (
 .reg [
 mv 20 7,
 op 21 (.mov (.c (.i 0)))] [2, 3, 4, 5, 7, 8, 9, 16, 17, 20, 21]) (
 .block 2 (
 .loop [2, 3, 4, 5, 7, 8, 9, 16, 17, 20, 21] (
 .seq (
 .reg [
 op 22 (.bin .lss (.t 21) (.t 20))] [2, 3, 4, 5, 7, 8, 9, 16, 17, 20, 21, 22]) (
 .seq (
 .cond (.t 22) (
 .reg [] [2, 3, 4, 5, 7, 8, 9, 16, 17, 20, 21]) (
 .exit 2 [2, 3, 4, 5, 7, 8, 9, 16, 17])) (
 .seq (
 .block 3 (
 .seq (
 .reg [
 mv 23 21,
 mv 10 23] [2, 3, 4, 5, 7, 8, 9, 10, 16, 17, 20, 21]) (
 .seq (
 .reg [
 mv 25 8,
 op 26 (.off 0 (.t 2)),
 op 27 (.idx 9 1 (.t 26) (.t 25)),
 op 28 (.ld true none (.t 27)),
 mv 29 10,
 op 30 (.off 0 (.t 3)),
 op 31 (.idx 9 1 (.t 30) (.t 29)),
 op 32 (.ld true none (.t 31)),
 op 33 (.call f_bits_Mul64 [] [(.t 28), (.t 32)]),
 mv 24 33,
 op 34 (.ext 0 (.t 24)),
 op 35 (.ext 1 (.t 24)),
 mv 11 34,
 mv 12 35] [2, 3, 4, 5, 7, 8, 9, 10, 11, 12, 16, 17, 20, 21]) (
 .seq (
 .reg [
 op 13 (.mov (.c (.u 64 0)))] [2, 3, 4, 5, 7, 8, 9, 10, 11, 12, 16, 17, 20, 21]) (
 .seq (
 .reg [
 mv 37 12,
 mv 38 8,
 mv 39 10,
 op 40 (.bin .add (.t 38) (.t 39)),
 op 41 (.off 0 (.t 5)),
 op 42 (.idx 18 1 (.t 41) (.t 40)),
 op 43 (.ldl 5 none (.t 42)),
 op 44 (.prim .add64 [(.t 37), (.t 43), (.c (.u 64 0))]),
 mv 36 44,
 op 45 (.ext 0 (.t 36)),
 op 46 (.ext 1 (.t 36)),
 mv 12 45,
 mv 13 46] [2, 3, 4, 5, 7, 8, 9, 10, 11, 12, 13, 16, 17, 20, 21]) (
 .seq (
 .reg [
 mv 47 11,
 mv 48 13,
 op 49 (.bin .add (.t 47) (.t 48)),
 mv 11 49] [2, 3, 4, 5, 7, 8, 9, 10, 11, 12, 16, 17, 20, 21]) (
 .seq (
 .reg [
 mv 51 12,
 mv 52 9,
 op 53 (.prim .add64 [(.t 51), (.t 52), (.c (.u 64 0))]),
 mv 50 53,
 op 54 (.ext 0 (.t 50)),
 op 55 (.ext 1 (.t 50)),
 mv 12 54,
 mv 13 55] [2, 3, 4, 5, 7, 8, 10, 11, 12, 13, 16, 17, 20, 21]) (
 .reg [
 mv 56 8,
 mv 57 10,
 op 58 (.bin .add (.t 56) (.t 57)),
 mv 59 12,
 mv 60 11,
 mv 61 13,
 op 62 (.bin .add (.t 60) (.t 61)),
 op 63 (.off 0 (.t 5)),
 op 64 (.idx 18 1 (.t 63) (.t 58)),
 ⟨none, none, .stl 5 1 (.t 64) (.t 59)⟩,
 mv 9 62] [2, 3, 4, 5, 7, 8, 9, 16, 17, 20, 21])))))))) (
 .reg [
 op 65 (.bin .add (.t 21) (.c (.i 1))),
 mv 21 65] [2, 3, 4, 5, 7, 8, 9, 16, 17, 20, 21]))))))) (
 .reg [
 mv 66 8,
 mv 67 7,
 op 68 (.bin .add (.t 66) (.t 67)),
 mv 69 9,
 op 70 (.off 0 (.t 5)),
 op 71 (.idx 18 1 (.t 70) (.t 68)),
 ⟨none, none, .stl 5 1 (.t 71) (.t 69)⟩] [2, 3, 4, 5, 7, 16, 17]))))) (
 .reg [
 op 72 (.bin .add (.t 17) (.c (.i 1))),
 mv 17 72] [2, 3, 4, 5, 7, 16, 17]))))))) (
 .seq (
 .reg [
 op 73 (.ldl 5 (some 18) (.t 5)),
 ⟨none, none, .stl 4 18 (.t 4) (.t 73)⟩] [4]) (
 .ret)))))
def m_nat_Mul : MFn := ⟨c_nat_Mul, [.cell 4 (some 18)], 0⟩

/-- curvet/divide.length -/
def c_divide_length : Stm :=
 .seq (
 .reg [
 op 2 (.mov (.c (.i 0)))] [0]) (
 .seq (
 .reg [
 mv 4 0,
 op 5 (.len (.t 4)),
 mv 3 5] [0, 3]) (
 .seq (
 .block 0 (
 .loop [0, 3] (
 .seq (
 .seq (
 .reg [
 mv 6 3,
 op 7 (.bin .gtr (.t 6) (.c (.i 0))),
 mv 8 7,
 ⟨some 9, (some (8, true)), .mov (.t 0)⟩,
 ⟨some 10, (some (8, true)), .mov (.t 3)⟩,
 ⟨some 11, (some (8, true)), .bin .sub (.t 10) (.c (.i 1))⟩,
 ⟨some 12, (some (8, true)), .idxs 1 (.t 9) (.t 11)⟩,
 ⟨some 13, (some (8, true)), .ld false none (.t 12)⟩,
 ⟨some 14, (some (8, true)), .bin .eql (.t 13) (.c (.u 64 0))⟩,
 op 15 (.pick (.t 8) (.t 14) (.c (.b false)))] [0, 3, 15]) (
 .cond (.t 15) (
 .reg [] [0, 3]) (
 .exit 0 [3]))) (
 .block 1 (
 .reg [
 mv 16 3,
 op 17 (.bin .sub (.t 16) (.c (.i 1))),
 mv 3 17] [0, 3]))))) (
 .seq (
 .reg [
 mv 18 3,
 mv 2 18] [2]) (
 .ret))))
def m_divide_length : MFn := ⟨c_divide_length, [.tmp 2], 0⟩

/-- (*curvet/field.Field).Inv -/
def c_field_Field_Inv : Stm :=
 .seq (
 .reg [
 op 3 (.boxv (.t 1)),
 op 4 (.box (.c (.agg z9)))] [0, 3, 4]) (
 .seq (
 .reg [
 op 8 (.ld true (some 9) (.t 3)),
 mv 9 0,
 op 10 (.nck (.t 9)),
 op 11 (.off 0 (.t 10)),
 op 12 (.ld false (some 9) (.t 11)),
 op 13 (.call f_divide_Inverse [] [(.t 8), (.t 12)]),
 mv 7 13,
 op 14 (.ext 0 (.t 7)),
 op 15 (.ext 1 (.t 7)),
 op 5 (.box (.c (.agg z9))),
 ⟨none, none, .stl 5 9 (.t 5) (.t 14)⟩,
 mv 6 15] [4, 5]) (
 .seq (
 .reg [
 op 16 (.ldl 5 (some 9) (.t 5)),
 ⟨none, none, .stl 4 9 (.t 4) (.t 16)⟩] [4]) (
 .ret)))
def m_field_Field_Inv : MFn := ⟨c_field_Field_Inv, [.cell 4 (some 9)], 0⟩

/-- curvet/field.prime -/
def c_field_prime : Stm :=
 .seq (
 .reg [
 op 2 (.mov (.c (.s [])))] [0]) (
 .seq (
 .seq (
 .reg [
 mv 3 0] [3]) (
 .block 0 (
 .seq (
 .reg [
 op 5 (.bin .eql (.t 3) (.c (.i 1))),
 mv 4 5] [3, 4]) (
 .cond (.t 4) (
 .seq (
 .reg [
 op 2 (.mov (.c (.s [102, 102, 102, 102, 102, 102, 102, 102, 102, 102, 102, 102, 102, 102, 102, 102, 102, 102, 102, 102, 102, 102, 102, 102, 102, 102, 102, 102, 102, 102, 102, 101, 102, 102, 102, 102, 102, 102, 102, 102, 102, 102, 102, 102, 102, 102, 102, 102])))] [2]) (
 .ret)) (
 .seq (
 .reg [
 op 7 (.bin .eql (.t 3) (.c (.i 2))),
 mv 6 7] [3, 6]) (
 .cond (.t 6) (
 .seq (
 .reg [
 op 2 (.mov (.c (.s [102, 102, 102, 102, 102, 102, 102, 102, 102, 102, 102, 102, 102, 102, 102, 102, 102, 102, 102, 102, 102, 102, 102, 102, 102, 102, 102, 102, 102, 102, 102, 102, 48, 48, 48, 48, 48, 48, 48, 48, 48, 48, 48, 48, 48, 48, 48, 48, 48, 48, 48, 48, 48, 48, 48, 49])))] [2]) (
 .ret)) (
 .seq (
 .reg [
 op 9 (.bin .eql (.t 3) (.c (.i 3))),
 mv 8 9] [3, 8]) (
 .cond (.t 8) (
 .seq (
 .reg [
 op 2 (.mov (.c (.s [102, 102, 102, 102, 102, 102, 102, 102, 48, 48, 48, 48, 48, 48, 48, 49, 48, 48, 48, 48, 48, 48, 48, 48, 48, 48, 48, 48, 48, 48, 48, 48, 48, 48, 48, 48, 48, 48, 48, 48, 102, 102, 102, 102, 102, 102, 102, 102, 102, 102, 102, 102, 102, 102, 102, 102, 102, 102, 102, 102, 102, 102, 102, 102])))] [2]) (
 .ret)) (
 .seq (
 .reg [
 op 11 (.bin .eql (.t 3) (.c (.i 4))),
 mv 10 11] [3, 10]) (
 .cond (.t 10) (
 .seq (
 .reg [
 op 2 (.mov (.c (.s [102, 102, 102, 102, 102, 102, 102, 102, 102, 102, 102, 102, 102, 102, 102, 102, 102, 102, 102, 102, 102, 102, 102, 102, 102, 102, 102, 102, 102, 102, 102, 102, 102, 102, 102, 102, 102, 102, 102, 102, 102, 102, 102, 102, 102, 102, 102, 102, 102, 102, 102, 102, 102, 102, 102, 102, 102, 102, 102, 102, 102, 102, 102, 101, 102, 102, 102, 102, 102, 102, 102, 102, 48, 48, 48, 48, 48, 48, 48, 48, 48, 48, 48, 48, 48, 48, 48, 48, 102, 102, 102, 102, 102, 102, 102, 102])))] [2]) (
 .ret)) (
 .seq (
 .reg [
 op 13 (.bin .eql (.t 3) (.c (.i 5))),
 mv 12 13] [3, 12]) (
 .cond (.t 12) (
 .seq (
 .reg [
 op 2 (.mov (.c (.s [48, 49, 102, 102, 102, 102, 102, 102, 102, 102, 102, 102, 102, 102, 102, 102, 102, 102, 102, 102, 102, 102, 102, 102, 102, 102, 102, 102, 102, 102, 102, 102, 102, 102, 102, 102, 102, 102, 102, 102, 102, 102, 102, 102, 102, 102, 102, 102, 102, 102, 102, 102, 102, 102, 102, 102, 102, 102, 102, 102, 102, 102, 102, 102, 102, 102, 102, 102, 102, 102, 102, 102, 102, 102, 102, 102, 102, 102, 102, 102, 102, 102, 102, 102, 102, 102, 102, 102, 102, 102, 102, 102, 102, 102, 102, 102, 102, 102, 102, 102, 102, 102, 102, 102, 102, 102, 102, 102, 102, 102, 102, 102, 102, 102, 102, 102, 102, 102, 102, 102, 102, 102, 102, 102, 102, 102, 102, 102, 102, 102, 102, 102])))] [2]) (
 .ret)) (
 .seq (
 .reg [
 op 15 (.bin .eql (.t 3) (.c (.i 6))),
 mv 14 15] [3, 14]) (
 .cond (.t 14) (
 .seq (
 .reg [
 op 2 (.mov (.c (.s [102, 102, 102, 102, 102, 102, 102, 102, 102, 102, 102, 102, 102, 102, 102, 102, 102, 102, 102, 102, 102, 102, 102, 102, 102, 102, 102, 102, 102, 102, 102, 102, 102, 102, 102, 102, 102, 102, 102, 102, 102, 102, 102, 102, 102, 102, 102, 102, 102, 102, 102, 102, 102, 102, 102, 101, 102, 102, 102, 102, 102, 99, 50, 102])))] [2]) (
 .ret)) (
 .seq (
 .reg [
 op 17 (.bin .eql (.t 3) (.c (.i 7))),
 mv 16 17] [3, 16]) (
 .cond (.t 16) (
 .seq (
 .reg [
 op 2 (.mov (.c (.s [101, 57, 53, 101, 52, 97, 53, 102, 55, 51, 55, 48, 53, 57, 100, 99, 54, 48, 100, 102, 99, 55, 97, 100, 57, 53, 98, 51, 100, 56, 49, 51, 57, 53, 49, 53, 54, 50, 48, 102])))] [2]) (
 .ret)) (
 .seq (
 .reg [
 op 19 (.bin .eql (.t 3) (.c (.i 8))),
 mv 18 19] [3, 18]) (
 .cond (.t 18) (
 .seq (
 .reg [
 op 2 (.mov (.c (.s [100, 55, 99, 49, 51, 52, 97, 97, 50, 54, 52, 51, 54, 54, 56, 54, 50, 97, 49, 56, 51, 48, 50, 53, 55, 53, 100, 49, 100, 55, 56, 55, 98, 48, 57, 102, 48, 55, 53, 55, 57, 55, 100, 97, 56, 57, 102, 53, 55, 101, 99, 56, 99, 48, 102, 102])))] [2]) (
 .ret)) (
 .seq (
 .reg [
 op 21 (.bin .eql (.t 3) (.c (.i 9))),
 mv 20 21] [3, 20]) (
 .cond (.t 20) (
 .seq (
 .reg [
 op 2 (.mov (.c (.s [97, 57, 102, 98, 53, 55, 100, 98, 97, 49, 101, 101, 97, 57, 98, 99, 51, 101, 54, 54, 48, 97, 57, 48, 57, 100, 56, 51, 56, 100, 55, 50, 54, 101, 51, 98, 102, 54, 50, 51, 100, 53, 50, 54, 50, 48, 50, 56, 50, 48, 49, 51, 52, 56, 49, 100, 49, 102, 54, 101, 53, 51, 55, 55])))] [2]) (
 .ret)) (
 .seq (
 .reg [
 op 23 (.bin .eql (.t 3) (.c (.i 10))),
 mv 22 23] [3, 22]) (
 .cond (.t 22) (
 .seq (
 .reg [
 op 2 (.mov (.c (.s [100, 51, 53, 101, 52, 55, 50, 48, 51, 54, 98, 99, 52, 102, 98, 55, 101, 49, 51, 99, 55, 56, 53, 101, 100, 50, 48, 49, 101, 48, 54, 53, 102, 57, 56, 102, 99, 102, 97, 54, 102, 54, 102, 52, 48, 100, 101, 102, 52, 102, 57, 50, 98, 57, 101, 99, 55, 56, 57, 51, 101, 99, 50, 56, 102, 99, 100, 52, 49, 50, 98, 49, 102, 49, 98, 51, 50, 101, 50, 55])))] [2]) (
 .ret)) (
 .seq (
 .reg [
 op 25 (.bin .eql (.t 3) (.c (.i 11))),
 mv 24 25] [3, 24]) (
 .cond (.t 24) (
 .seq (
 .reg [
 op 2 (.mov (.c (.s [56, 99, 98, 57, 49, 101, 56, 50, 97, 51, 51, 56, 54, 100, 50, 56, 48, 102, 53, 100, 54, 102, 55, 101, 53, 48, 101, 54, 52, 49, 100, 102, 49, 53, 50, 102, 55, 49, 48, 57, 101, 100, 53, 52, 53, 54, 98, 52, 49, 50, 98, 49, 100, 97, 49, 57, 55, 102, 98, 55, 49, 49, 50, 51, 97, 99, 100, 51, 97, 55, 50, 57, 57, 48, 49, 100, 49, 97, 55, 49, 56, 55, 52, 55, 48, 48, 49, 51, 51, 49, 48, 55, 101, 99, 53, 51])))] [2]) (
 .ret)) (
 .seq (
 .reg [
 op 27 (.bin .eql (.t 3) (.c (.i 12))),
 mv 26 27] [3, 26]) (
 .cond (.t 26) (
 .seq (
 .reg [
 op 2 (.mov (.c (.s [97, 97, 100, 100, 57, 100, 98, 56, 100, 98, 101, 57, 99, 52, 56, 98, 51, 102, 100, 52, 101, 54, 97, 101, 51, 51, 99, 57, 102, 99, 48, 55, 99, 98, 51, 48, 56, 100, 98, 51, 98, 51, 99, 57, 100, 50, 48, 101, 100, 54, 54, 51, 57, 99, 99, 97, 55, 48, 51, 51, 48, 56, 55, 49, 55, 100, 52, 100, 57, 98, 48, 48, 57, 98, 99, 54, 54, 56, 52, 50, 97, 101, 99, 100, 97, 49, 50, 97, 101, 54, 97, 51, 56, 48, 101, 54, 50, 56, 56, 49, 102, 102, 50, 102, 50, 100, 56, 50, 99, 54, 56, 53, 50, 56, 97, 97, 54, 48, 53, 54, 53, 56, 51, 97, 52, 56, 102, 51])))] [2]) (
 .ret)) (
 .seq (
 .reg [
 op 29 (.bin .eql (.t 3) (.c (.i 13))),
 mv 28 29] [3, 28]) (
 .cond (.t 28) (
 .seq (
 .reg [
 op 2 (.mov (.c (.s [102, 98])))] [2]) (
 .ret)) (
 .seq (
 .reg [
 op 31 (.bin .eql (.t 3) (.c (.i 14))),
 mv 30 31] [3, 30]) (
 .cond (.t 30) (
 .seq (
 .reg [
 op 2 (.mov (.c (.s [102, 49])))] [2]) (
 .ret)) (
 .seq (
 .reg [
 op 33 (.bin .eql (.t 3) (.c (.i 15))),
 mv 32 33] [32]) (
 .cond (.t 32) (
 .seq (
 .reg [
 op 2 (.mov (.c (.s [101, 102])))] [2]) (
 .ret)) (
 .reg [] []))))))))))))))))))))))))))))))))) (
 .seq (
 .reg [
 op 2 (.mov (.c (.s [])))] [2]) (
 .ret)))
def m_field_prime : MFn := ⟨c_field_prime, [.tmp 2], 0⟩

/-- curvet/nat.used -/
def c_nat_used : Stm :=
 .seq (
 .reg [
 op 2 (.mov (.c (.i 0)))] [0]) (
 .seq (
 .reg [
 op 3 (.mov (.c (.i 9)))] [0, 3]) (
 .seq (
 .block 0 (
 .loop [0, 3] (
 .seq (
 .seq (
 .reg [
 mv 4 3,
 op 5 (.bin .gtr (.t 4) (.c (.i 0))),
 mv 6 5,
 ⟨some 7, (some (6, true)), .mov (.t 0)⟩,
 ⟨some 8, (some (6, true)), .mov (.t 3)⟩,
 ⟨some 9, (some (6, true)), .bin .sub (.t 8) (.c (.i 1))⟩,
 ⟨some 10, (some (6, true)), .nck (.t 7)⟩,
 ⟨some 11, (some (6, true)), .off 0 (.t 10)⟩,
 ⟨some 12, (some (6, true)), .idx 9 1 (.t 11) (.t 9)⟩,
 ⟨some 13, (some (6, true)), .ld false none (.t 12)⟩,
 ⟨some 14, (some (6, true)), .bin .eql (.t 13) (.c (.u 64 0))⟩,
 op 15 (.pick (.t 6) (.t 14) (.c (.b false)))] [0, 3, 15]) (
 .cond (.t 15) (
 .reg [] [0, 3]) (
 .exit 0 [3]))) (
 .block 1 (
 .reg [
 mv 16 3,
 op 17 (.bin .sub (.t 16) (.c (.i 1))),
 mv 3 17] [0, 3]))))) (
 .seq (
 .reg [
 mv 18 3,
 mv 2 18] [2]) (
 .ret))))
def m_nat_used : MFn := ⟨c_nat_used, [.tmp 2], 0⟩

/-- math/bits.Len64 -/
def c_bits_Len64 : Stm :=
 .seq (
 .reg [
 op 2 (.mov (.c (.i 0)))] [0, 2]) (
 .seq (
 .seq (
 .reg [
 mv 3 0,
 op 4 (.bin .geq (.t 3) (.c (.u 64 4294967296)))] [0, 2, 4]) (
 .cond (.t 4) (
 .seq (
 .reg [
 mv 5 0,
 op 6 (.bin .shr (.t 5) (.c (.u 64 32))),
 mv 0 6] [0]) (
 .reg [
 op 2 (.mov (.c (.i 32)))] [0, 2])) (
 .reg [] [0, 2]))) (
 .seq (
 .seq (
 .reg [
 mv 7 0,
 op 8 (.bin .geq (.t 7) (.c (.u 64 65536)))] [0, 2, 8]) (
 .cond (.t 8) (
 .seq (
 .reg [
 mv 9 0,
 op 10 (.bin .shr (.t 9) (.c (.u 64 16))),
 mv 0 10] [0, 2]) (
 .reg [
 mv 11 2,
 op 12 (.bin .add (.t 11) (.c (.i 16))),
 mv 2 12] [0, 2])) (
 .reg [] [0, 2]))) (
 .seq (
 .seq (
 .reg [
 mv 13 0,
 op 14 (.bin .geq (.t 13) (.c (.u 64 256)))] [0, 2, 14]) (
 .cond (.t 14) (
 .seq (
 .reg [
 mv 15 0,
 op 16 (.bin .shr (.t 15) (.c (.u 64 8))),
 mv 0 16] [0, 2]) (
 .reg [
 mv 17 2,
 op 18 (.bin .add (.t 17) (.c (.i 8))),
 mv 2 18] [0, 2])) (
 .reg [] [0, 2]))) (
 .seq (
 .reg [
 mv 19 2,
 mv 20 0,
 op 21 (.cvu 8 (.t 20)),
 op 22 (.idxb (.c (.s [0, 1, 2, 2, 3, 3, 3, 3, 4, 4, 4, 4, 4, 4, 4, 4, 5, 5, 5, 5, 5, 5, 5, 5, 5, 5, 5, 5, 5, 5, 5, 5, 6, 6, 6, 6, 6, 6, 6, 6, 6, 6, 6, 6, 6, 6, 6, 6, 6, 6, 6, 6, 6, 6, 6, 6, 6, 6, 6, 6, 6, 6, 6, 6, 7, 7, 7, 7, 7, 7, 7, 7, 7, 7, 7, 7, 7, 7, 7, 7, 7, 7, 7, 7, 7, 7, 7, 7, 7, 7, 7, 7, 7, 7, 7, 7, 7, 7, 7, 7, 7, 7, 7, 7, 7, 7, 7, 7, 7, 7, 7, 7, 7, 7, 7, 7, 7, 7, 7, 7, 7, 7, 7, 7, 7, 7, 7, 7, 8, 8, 8, 8, 8, 8, 8, 8, 8, 8, 8, 8, 8, 8, 8, 8, 8, 8, 8, 8, 8, 8, 8, 8, 8, 8, 8, 8, 8, 8, 8, 8, 8, 8, 8, 8, 8, 8, 8, 8, 8, 8, 8, 8, 8, 8, 8, 8, 8, 8, 8, 8, 8, 8, 8, 8, 8, 8, 8, 8, 8, 8, 8, 8, 8, 8, 8, 8, 8, 8, 8, 8, 8, 8, 8, 8, 8, 8, 8, 8, 8, 8, 8, 8, 8, 8, 8, 8, 8, 8, 8, 8, 8, 8, 8, 8, 8, 8, 8, 8, 8, 8, 8, 8, 8, 8, 8, 8, 8, 8, 8, 8, 8, 8, 8, 8, 8, 8, 8, 8, 8, 8, 8, 8, 8, 8, 8, 8])) (.t 21)),
 op 23 (.cvi (.t 22)),
 op 24 (.bin .add (.t 19) (.t 23)),
 mv 2 24] [2]) (
 .ret)))))
def m_bits_Len64 : MFn := ⟨c_bits_Len64, [.tmp 2], 0⟩

/-- curvet/window.Digits -/
def c_window_Digits : Stm :=
 .seq (
 .reg [
 op 3 (.boxv (.t 0)),
 op 6 (.mov (.c (.nils))),
 op 7 (.mov (.c (.i 0)))] [1, 2, 3]) (
 .seq (
 .seq (
 .reg [
 mv 12 2,
 op 13 (.call f_window_wide [] [(.t 12)]),
 op 14 (.un .not (.t 13)),
 mv 15 14,
 ⟨some 16, (some (15, false)), .mov (.t 1)⟩,
 ⟨some 17, (some (15, false)), .bin .lss (.t 16) (.c (.i 1))⟩,
 op 18 (.pick (.t 15) (.c (.b true)) (.t 17)),
 mv 19 18,
 ⟨some 20, (some (19, false)), .mov (.t 1)⟩,
 ⟨some 21, (some (19, false)), .bin .gtr (.t 20) (.c (.i 576))⟩,
 op 22 (.pick (.t 19) (.c (.b true)) (.t 21)),
 mv 23 22,
 ⟨some 24, (some (23, false)), .ld true (some 9) (.t 3)⟩,
 ⟨some 25, (some (23, false)), .call f_nat_Bits [] [(.t 24)]⟩,
 ⟨some 26, (some (23, false)), .mov (.t 1)⟩,
 ⟨some 27, (some (23, false)), .bin .gtr (.t 25) (.t 26)⟩,
 op 28 (.pick (.t 23) (.c (.b true)) (.t 27))] [1, 2, 3, 28]) (
 .cond (.t 28) (
 .seq (
 .reg [
 op 6 (.mov (.c (.nils))),
 op 7 (.mov (.c (.i 1700)))] [6, 7]) (
 .ret)) (
 .reg [] [1, 2, 3]))) (
 .seq (
 .reg [
 op 8 (.mov (.c (.nils)))] [1, 2, 3, 8]) (
 .seq (
 .seq (
 .reg [
 mv 29 1,
 mv 30 2,
 op 31 (.bin .add (.t 29) (.t 30)),
 op 32 (.bin .sub (.t 31) (.c (.i 1))),
 mv 33 2,
 op 34 (.bin .quo (.t 32) (.t 33)),
 op 35 (.bin .sub (.t 34) (.c (.i 1))),
 mv 9 35] [2, 3, 8, 9]) (
 .block 0 (
 .loop [2, 3, 8, 9] (
 .seq (
 .seq (
 .reg [
 mv 36 9,
 op 37 (.bin .geq (.t 36) (.c (.i 0)))] [2, 3, 8, 9, 37]) (
 .cond (.t 37) (
 .reg [] [2, 3, 8, 9]) (
 .exit 0 [8]))) (
 .seq (
 .block 1 (
 .seq (
 .reg [
 op 41 (.ld true (some 9) (.t 3)),
 mv 42 9,
 mv 43 2,
 op 44 (.bin .mul (.t 42) (.t 43)),
 op 45 (.mn (.t 44) (.c (.i 576))),
 op 46 (.call f_nat_Shr [] [(.t 41), (.t 45)]),
 mv 40 46,
 op 47 (.ext 0 (.t 40)),
 op 48 (.ext 1 (.t 40)),
 op 10 (.box (.c (.agg z9))),
 ⟨none, none, .stl 10 9 (.t 10) (.t 47)⟩,
 mv 11 48] [2, 3, 8, 9, 10]) (
 .reg [
 mv 49 8,
 op 50 (.off 0 (.t 10)),
 op 51 (.idx 9 1 (.t 50) (.c (.i 0))),
 op 52 (.ldl 10 none (.t 51)),
 mv 53 2,
 op 54 (.bin .shl (.c (.u 64 1)) (.t 53)),
 op 55 (.bin .sub (.t 54) (.c (.u 64 1))),
 op 56 (.bin .and (.t 52) (.t 55)),
 op 57 (.cvi (.t 56)),
 op 58 (.lit true 1 1 [.i 0] [(0, 1, (.t 57))]),
 op 59 (.app 1 8 (.t 49) (.t 58)),
 mv 8 59] [2, 3, 8, 9]))) (
 .reg [
 mv 38 9,
 op 39 (.bin .sub (.t 38) (.c (.i 1))),
 mv 9 39] [2, 3, 8, 9])))))) (
 .seq (
 .reg [
 mv 60 8,
 mv 6 60,
 op 7 (.mov (.c (.i 0)))] [6, 7]) (
 .ret)))))
def m_window_Digits : MFn := ⟨c_window_Digits, [.tmp 6, .tmp 7], 0⟩

/-- (*curvet/table.Table).Pick -/
def c_table_Table_Pick : Stm :=
 .seq (
 .reg [
 op 6 (.box (.c (.agg z19))),
 op 7 (.mov (.c (.i 0)))] [0, 1, 2, 6]) (
 .seq (
 .block 0 (
 .seq (
 .reg [
 mv 15 0,
 op 16 (.eqv .ptr false (.t 15) (.c (.nilp))),
 mv 14 16] [0, 1, 2, 6, 14]) (
 .cond (.t 14) (
 .seq (
 .reg [
 op 17 (.build z19 []),
 ⟨none, none, .stl 6 19 (.t 6) (.t 17)⟩,
 op 7 (.mov (.c (.i 1)))] [6, 7]) (
 .ret)) (
 .seq (
 .reg [
 mv 19 2,
 op 20 (.bin .lss (.t 19) (.c (.i 0))),
 mv 21 20,
 ⟨some 22, (some (21, false)), .mov (.t 2)⟩,
 ⟨some 23, (some (21, false)), .mov (.t 0)⟩,
 ⟨some 24, (some (21, false)), .nck (.t 23)⟩,
 ⟨some 25, (some (21, false)), .off 0 (.t 24)⟩,
 ⟨some 26, (some (21, false)), .ld false none (.t 25)⟩,
 ⟨some 27, (some (21, false)), .len (.t 26)⟩,
 ⟨some 28, (some (21, false)), .bin .geq (.t 22) (.t 27)⟩,
 op 29 (.pick (.t 21) (.c (.b true)) (.t 28)),
 mv 18 29] [0, 1, 2, 6, 18]) (
 .cond (.t 18) (
 .seq (
 .reg [
 op 30 (.build z19 []),
 ⟨none, none, .stl 6 19 (.t 6) (.t 30)⟩,
 op 7 (.mov (.c (.i 1603)))] [6, 7]) (
 .ret)) (
 .reg [] [0, 1, 2, 6])))))) (
 .seq (
 .reg [
 op 8 (.box (.c (.agg z19)))] [0, 1, 2, 6, 8]) (
 .seq (
 .reg [
 op 9 (.mov (.c (.u 64 0)))] [0, 1, 2, 6, 8, 9]) (
 .seq (
 .seq (
 .reg [
 mv 31 0,
 op 32 (.nck (.t 31)),
 op 33 (.off 0 (.t 32)),
 op 34 (.ld false none (.t 33)),
 op 35 (.len (.t 34)),
 op 36 (.mov (.c (.i 0)))] [1, 2, 6, 8, 9, 34, 35, 36]) (
 .block 1 (
 .loop [1, 2, 6, 8, 9, 34, 35, 36] (
 .seq (
 .reg [
 op 37 (.bin .lss (.t 36) (.t 35))] [1, 2, 6, 8, 9, 34, 35, 36, 37]) (
 .seq (
 .cond (.t 37) (
 .reg [] [1, 2, 6, 8, 9, 34, 35, 36]) (
 .exit 1 [6, 8, 9])) (
 .seq (
 .block 2 (
 .seq (
 .reg [
 mv 38 36,
 op 39 (.idxs 19 (.t 34) (.t 36)),
 op 40 (.ld false (some 19) (.t 39)),
 op 11 (.box (.c (.agg z19))),
 mv 10 38,
 ⟨none, none, .stl 11 19 (.t 11) (.t 40)⟩] [1, 2, 6, 8, 9, 10, 11, 34, 35, 36]) (
 .seq (
 .reg [
 mv 41 1,
 mv 42 10,
 op 43 (.callo f_trace_Trace_Index [(.t 41), (.t 42)])] [1, 2, 6, 8, 9, 10, 11, 34, 35, 36]) (
 .seq (
 .reg [
 mv 44 10,
 op 45 (.cvu 64 (.t 44)),
 mv 46 2,
 op 47 (.cvu 64 (.t 46)),
 op 48 (.call f_mask_Equal [] [(.t 45), (.t 47)]),
 mv 12 48] [1, 2, 6, 8, 9, 11, 12, 34, 35, 36]) (
 .seq (
 .reg [
 mv 49 12,
 op 50 (.off 0 (.t 11)),
 op 51 (.ldl 11 (some 9) (.t 50)),
 op 52 (.off 0 (.t 8)),
 op 53 (.ldl 8 (some 9) (.t 52)),
 op 54 (.call f_mask_Select [] [(.t 49), (.t 51), (.t 53)]),
 mv 55 12,
 op 56 (.off 9 (.t 11)),
 op 57 (.ldl 11 (some 9) (.t 56)),
 op 58 (.off 9 (.t 8)),
 op 59 (.ldl 8 (some 9) (.t 58)),
 op 60 (.call f_mask_Select [] [(.t 55), (.t 57), (.t 59)]),
 op 61 (.off 0 (.t 8)),
 ⟨none, none, .stl 8 9 (.t 61) (.t 54)⟩,
 op 62 (.off 9 (.t 8)),
 ⟨none, none, .stl 8 9 (.t 62) (.t 60)⟩] [1, 2, 6, 8, 9, 11, 12, 34, 35, 36]) (
 .seq (
 .reg [
 op 13 (.mov (.c (.u 64 0)))] [1, 2, 6, 8, 9, 11, 12, 13, 34, 35, 36]) (
 .seq (
 .seq (
 .reg [
 op 63 (.off 18 (.t 11)),
 op 64 (.ldl 11 none (.t 63))] [1, 2, 6, 8, 9, 12, 13, 34, 35, 36, 64]) (
 .cond (.t 64) (
 .reg [
 op 13 (.mov (.c (.u 64 1)))] [1, 2, 6, 8, 9, 12, 13, 34, 35, 36]) (
 .reg [] [1, 2, 6, 8, 9, 12, 13, 34, 35, 36]))) (
 .reg [
 mv 65 9,
 mv 66 13,
 mv 67 12,
 op 68 (.bin .and (.t 66) (.t 67)),
 op 69 (.bin .or (.t 65) (.t 68)),
 mv 9 69] [1, 2, 6, 8, 9, 34, 35, 36])))))))) (
 .reg [
 op 70 (.bin .add (.t 36) (.c (.i 1))),
 mv 36 70] [1, 2, 6, 8, 9, 34, 35, 36]))))))) (
 .seq (
 .reg [
 mv 71 9,
 op 72 (.bin .eql (.t 71) (.c (.u 64 1))),
 op 73 (.off 18 (.t 8)),
 ⟨none, none, .stl 8 1 (.t 73) (.t 72)⟩] [6, 8]) (
 .seq (
 .reg [
 op 74 (.ldl 8 (some 19) (.t 8)),
 ⟨none, none, .stl 6 19 (.t 6) (.t 74)⟩,
 op 7 (.mov (.c (.i 0)))] [6, 7]) (
 .ret)))))))
def m_table_Table_Pick : MFn := ⟨c_table_Table_Pick, [.cell 6 (some 19), .tmp 7], 3⟩

/-- (curvet/divide.Modulus).Rest -/
def c_divide_Modulus_Rest : Stm :=
 .seq (
 .reg [
 op 2 (.boxv (.t 0)),
 op 3 (.boxv (.t 1)),
 op 4 (.box (.c (.agg z9)))] [2, 3, 4]) (
 .seq (
 .reg [
 op 8 (.off 0 (.t 2)),
 op 9 (.ld true none (.t 8)),
 op 10 (.off 0 (.t 3)),
 op 11 (.sla true 18 1 (.t 10) none none),
 op 12 (.call f_divide_divisor_divide [] [(.t 9), (.t 11)]),
 mv 7 12,
 op 13 (.ext 0 (.t 7)),
 op 14 (.ext 1 (.t 7)),
 op 5 (.box (.c (.agg z18))),
 op 6 (.box (.c (.agg z9))),
 ⟨none, none, .stl 5 18 (.t 5) (.t 13)⟩,
 ⟨none, none, .stl 6 9 (.t 6) (.t 14)⟩] [4, 6]) (
 .seq (
 .reg [
 op 15 (.ldl 6 (some 9) (.t 6)),
 ⟨none, none, .stl 4 9 (.t 4) (.t 15)⟩] [4]) (
 .ret)))
def m_divide_Modulus_Rest : MFn := ⟨c_divide_Modulus_Rest, [.cell 4 (some 9)], 0⟩

/-- (*curvet/mont.Mont).may -/
def c_mont_Mont_may : Stm :=
 .seq (
 .reg [
 op 4 (.mov (.c (.i 0)))] [0, 1]) (
 .seq (
 .seq (
 .reg [
 mv 7 0,
 op 8 (.eqv .ptr false (.t 7) (.c (.nilp)))] [0, 1, 8]) (
 .cond (.t 8) (
 .seq (
 .reg [
 op 4 (.mov (.c (.i 1)))] [4]) (
 .ret)) (
 .reg [] [0, 1]))) (
 .seq (
 .seq (
 .reg [
 mv 9 1,
 op 10 (.len (.t 9)),
 op 11 (.mov (.c (.i 0)))] [0, 9, 10, 11]) (
 .block 0 (
 .loop [0, 9, 10, 11] (
 .seq (
 .reg [
 op 12 (.bin .lss (.t 11) (.t 10))] [0, 9, 10, 11, 12]) (
 .seq (
 .cond (.t 12) (
 .reg [] [0, 9, 10, 11]) (
 .exit 0 [])) (
 .seq (
 .block 1 (
 .seq (
 .reg [
 op 13 (.idxs 9 (.t 9) (.t 11)),
 op 14 (.ld false (some 9) (.t 13)),
 op 6 (.box (.c (.agg z9))),
 ⟨none, none, .stl 6 9 (.t 6) (.t 14)⟩] [0, 6, 9, 10, 11]) (
 .seq (
 .reg [
 op 15 (.ldl 6 (some 9) (.t 6)),
 mv 16 0,
 op 17 (.nck (.t 16)),
 op 18 (.off 0 (.t 17)),
 op 19 (.ld false (some 9) (.t 18)),
 op 20 (.call f_nat_Cmp [] [(.t 15), (.t 19)]),
 op 21 (.bin .geq (.t 20) (.c (.i 0)))] [0, 9, 10, 11, 21]) (
 .cond (.t 21) (
 .seq (
 .reg [
 op 4 (.mov (.c (.i 601)))] [4]) (
 .ret)) (
 .reg [] [0, 9, 10, 11]))))) (
 .reg [
 op 22 (.bin .add (.t 11) (.c (.i 1))),
 mv 11 22] [0, 9, 10, 11]))))))) (
 .seq (
 .reg [
 op 4 (.mov (.c (.i 0)))] [4]) (
 .ret))))
def m_mont_Mont_may : MFn := ⟨c_mont_Mont_may, [.tmp 4], 0⟩

/-- (*curvet/mont.Mont).Raw -/
def c_mont_Mont_Raw : Stm :=
 .seq (
 .reg [
 op 4 (.boxv (.t 1)),
 op 5 (.boxv (.t 2)),
 op 6 (.box (.c (.agg z9)))] [0, 4, 5, 6]) (
 .seq (
 .reg [
 op 7 (.boxh (.c (.agg [.u 64 0, .u 64 0, .u 64 0, .u 64 0, .u 64 0, .u 64 0, .u 64 0, .u 64 0, .u 64 0, .u 64 0, .u 64 0])))] [0, 4, 5, 6, 7]) (
 .seq (
 .seq (
 .reg [
 mv 14 0,
 op 15 (.nck (.t 14)),
 op 16 (.off 9 (.t 15)),
 op 17 (.ld false none (.t 16)),
 op 18 (.mov (.c (.i 0)))] [0, 4, 5, 6, 7, 17, 18]) (
 .block 0 (
 .loop [0, 4, 5, 6, 7, 17, 18] (
 .seq (
 .reg [
 op 19 (.bin .lss (.t 18) (.t 17))] [0, 4, 5, 6, 7, 17, 18, 19]) (
 .seq (
 .cond (.t 19) (
 .reg [] [0, 4, 5, 6, 7, 17, 18]) (
 .exit 0 [0, 6, 7])) (
 .seq (
 .block 1 (
 .seq (
 .reg [
 mv 20 18,
 mv 8 20] [0, 4, 5, 6, 7, 8, 17, 18]) (
 .seq (
 .reg [
 mv 21 0,
 mv 22 8,
 op 23 (.off 0 (.t 4)),
 op 24 (.idx 9 1 (.t 23) (.t 22)),
 op 25 (.ld true none (.t 24)),
 op 26 (.call f_mont_Mont_round [] [(.t 21), (.t 7), (.t 25), (.t 5)])] [0, 4, 5, 6, 7, 17, 18]) (
 .seq (
 .reg [
 op 27 (.idx 11 1 (.t 7) (.c (.i 0))),
 op 28 (.ld false none (.t 27)),
 mv 29 0,
 op 30 (.nck (.t 29)),
 op 31 (.off 10 (.t 30)),
 op 32 (.ld false none (.t 31)),
 op 33 (.bin .mul (.t 28) (.t 32)),
 mv 9 33] [0, 4, 5, 6, 7, 9, 17, 18]) (
 .seq (
 .reg [
 mv 34 0,
 mv 35 9,
 mv 36 0,
 op 37 (.nck (.t 36)),
 op 38 (.off 0 (.t 37)),
 op 39 (.call f_mont_Mont_round [] [(.t 34), (.t 7), (.t 35), (.t 38)])] [0, 4, 5, 6, 7, 17, 18]) (
 .seq (
 .reg [
 op 40 (.sla false 11 1 (.t 7) none none),
 op 41 (.sla false 11 1 (.t 7) (some (.c (.i 1))) none),
 op 42 (.cpy 1 (.t 40) (.t 41))] [0, 4, 5, 6, 7, 17, 18]) (
 .reg [
 op 43 (.idx 11 1 (.t 7) (.c (.i 10))),
 ⟨none, none, .st 1 (.t 43) (.c (.u 64 0))⟩] [0, 4, 5, 6, 7, 17, 18]))))))) (
 .reg [
 op 44 (.bin .add (.t 18) (.c (.i 1))),
 mv 18 44] [0, 4, 5, 6, 7, 17, 18]))))))) (
 .seq (
 .reg [
 op 10 (.box (.c (.agg z9)))] [0, 6, 7, 10]) (
 .seq (
 .reg [
 op 45 (.off 0 (.t 10)),
 op 46 (.sla true 9 1 (.t 45) none none),
 mv 47 0,
 op 48 (.nck (.t 47)),
 op 49 (.off 9 (.t 48)),
 op 50 (.ld false none (.t 49)),
 op 51 (.sla false 11 1 (.t 7) none (some (.t 50))),
 op 52 (.cpyl 10 1 [] (.t 46) (.t 51))] [0, 6, 7, 10]) (
 .seq (
 .seq (
 .reg [
 op 54 (.ldl 10 (some 9) (.t 10)),
 mv 55 0,
 op 56 (.nck (.t 55)),
 op 57 (.off 0 (.t 56)),
 op 58 (.ld false (some 9) (.t 57)),
 op 59 (.call f_nat_Sub [] [(.t 54), (.t 58)]),
 mv 53 59,
 op 60 (.ext 0 (.t 53)),
 op 61 (.ext 1 (.t 53)),
 op 11 (.box (.c (.agg z9))),
 ⟨none, none, .stl 11 9 (.t 11) (.t 60)⟩,
 mv 12 61] [0, 6, 7, 10, 11, 12]) (
 .seq (
 .reg [
 mv 62 0,
 op 63 (.nck (.t 62)),
 op 64 (.off 9 (.t 63)),
 op 65 (.ld false none (.t 64)),
 op 66 (.idx 11 1 (.t 7) (.t 65)),
 op 67 (.ld false none (.t 66)),
 op 68 (.bin .neq (.t 67) (.c (.u 64 0))),
 mv 69 68,
 ⟨some 70, (some (69, false)), .mov (.t 12)⟩,
 ⟨some 71, (some (69, false)), .un .not (.t 70)⟩,
 op 72 (.pick (.t 69) (.c (.b true)) (.t 71))] [0, 6, 10, 11, 72]) (
 .cond (.t 72) (
 .seq (
 .seq (
 .reg [
 mv 73 0,
 op 74 (.nck (.t 73)),
 op 75 (.off 9 (.t 74)),
 op 76 (.ld false none (.t 75)),
 mv 13 76] [6, 11, 13]) (
 .block 2 (
 .loop [6, 11, 13] (
 .seq (
 .seq (
 .reg [
 mv 77 13,
 op 78 (.bin .lss (.t 77) (.c (.i 9)))] [6, 11, 13, 78]) (
 .cond (.t 78) (
 .reg [] [6, 11, 13]) (
 .exit 2 [6, 11]))) (
 .seq (
 .block 3 (
 .reg [
 mv 81 13,
 op 82 (.off 0 (.t 11)),
 op 83 (.idx 9 1 (.t 82) (.t 81)),
 ⟨none, none, .stl 11 1 (.t 83) (.c (.u 64 0))⟩] [6, 11, 13])) (
 .reg [
 mv 79 13,
 op 80 (.bin .add (.t 79) (.c (.i 1))),
 mv 13 80] [6, 11, 13])))))) (
 .seq (
 .reg [
 op 84 (.ldl 11 (some 9) (.t 11)),
 ⟨none, none, .stl 6 9 (.t 6) (.t 84)⟩] [6]) (
 .ret))) (
 .reg [] [6, 10])))) (
 .seq (
 .reg [
 op 85 (.ldl 10 (some 9) (.t 10)),
 ⟨none, none, .stl 6 9 (.t 6) (.t 85)⟩] [6]) (
 .ret)))))))
def m_mont_Mont_Raw : MFn := ⟨c_mont_Mont_Raw, [.cell 6 (some 9)], 0⟩

/-- (*curvet/field.Field).Sub -/
def c_field_Field_Sub : Stm :=
 .seq (
 .reg [
 op 4 (.boxv (.t 1)),
 op 5 (.boxv (.t 2)),
 op 6 (.box (.c (.agg z9)))] [0, 4, 5, 6]) (
 .seq (
 .reg [
 op 10 (.ld true (some 9) (.t 4)),
 op 11 (.ld true (some 9) (.t 5)),
 op 12 (.call f_nat_Sub [] [(.t 10), (.t 11)]),
 mv 9 12,
 op 13 (.ext 0 (.t 9)),
 op 14 (.ext 1 (.t 9)),
 op 7 (.box (.c (.agg z9))),
 ⟨none, none, .stl 7 9 (.t 7) (.t 13)⟩,
 mv 8 14] [0, 6, 7, 8]) (
 .seq (
 .seq (
 .reg [
 mv 15 8] [0, 6, 7, 15]) (
 .cond (.t 15) (
 .reg [
 op 17 (.ldl 7 (some 9) (.t 7)),
 mv 18 0,
 op 19 (.nck (.t 18)),
 op 20 (.off 0 (.t 19)),
 op 21 (.ld false (some 9) (.t 20)),
 op 22 (.call f_nat_Add [] [(.t 17), (.t 21)]),
 mv 16 22,
 op 23 (.ext 0 (.t 16)),
 op 24 (.ext 1 (.t 16)),
 ⟨none, none, .stl 7 9 (.t 7) (.t 23)⟩] [6, 7]) (
 .reg [] [6, 7]))) (
 .seq (
 .reg [
 op 25 (.ldl 7 (some 9) (.t 7)),
 ⟨none, none, .stl 6 9 (.t 6) (.t 25)⟩] [6]) (
 .ret))))
def m_field_Field_Sub : MFn := ⟨c_field_Field_Sub, [.cell 6 (some 9)], 0⟩

/-- curvet/hash.New -/
def c_hash_New : Stm :=
 .seq (
 .reg [
 op 2 (.mov (.c (.nilp))),
 op 3 (.mov (.c (.i 0)))] [0]) (
 .seq (
 .reg [
 mv 12 0,
 op 13 (.call f_hash_of [] [(.t 12)]),
 mv 11 13,
 op 14 (.ext 0 (.t 11)),
 op 15 (.ext 1 (.t 11)),
 op 4 (.box (.c (.agg [.i 0, .i 0, .i 0]))),
 ⟨none, none, .stl 4 3 (.t 4) (.t 14)⟩,
 mv 5 15] [4, 5]) (
 .seq (
 .seq (
 .reg [
 mv 16 5,
 op 17 (.un .not (.t 16))] [4, 17]) (
 .cond (.t 17) (
 .seq (
 .reg [
 op 2 (.mov (.c (.nilp))),
 op 3 (.mov (.c (.i 900)))] [2, 3]) (
 .ret)) (
 .reg [] [4]))) (
 .seq (
 .reg [
 op 18 (.build [.nilf, .nilf] []),
 op 19 (.boxh (.t 18)),
 mv 6 19] [4, 6]) (
 .seq (
 .seq (
 .reg [
 op 20 (.off 2 (.t 4)),
 op 21 (.ldl 4 none (.t 20)),
 op 22 (.bin .eql (.t 21) (.c (.i 64)))] [4, 6, 22]) (
 .cond (.t 22) (
 .seq (
 .reg [
 op 24 (.off 0 (.t 4)),
 op 25 (.ldl 4 none (.t 24)),
 op 26 (.callo f_sha256_New [(.t 25)]),
 mv 23 26,
 op 27 (.ext 0 (.t 23)),
 op 28 (.ext 1 (.t 23)),
 mv 7 27,
 mv 8 28] [6, 7]) (
 .reg [
 mv 30 6,
 mv 31 6,
 mv 32 7,
 op 33 (.callo f_hash_bind_sha256_Hash [(.t 32), (.c (.fn f_sha256_Hash_Write [] [])), (.c (.fn f_sha256_Hash_Sum [] []))]),
 mv 29 33,
 op 34 (.ext 0 (.t 29)),
 op 35 (.ext 1 (.t 29)),
 op 36 (.nck (.t 30)),
 op 37 (.off 0 (.t 36)),
 ⟨none, none, .st 1 (.t 37) (.t 34)⟩,
 op 38 (.nck (.t 31)),
 op 39 (.off 1 (.t 38)),
 ⟨none, none, .st 1 (.t 39) (.t 35)⟩] [6])) (
 .seq (
 .reg [
 op 41 (.off 0 (.t 4)),
 op 42 (.ldl 4 none (.t 41)),
 op 43 (.call f_sha512_New [] [(.t 42)]),
 mv 40 43,
 op 44 (.ext 0 (.t 40)),
 op 45 (.ext 1 (.t 40)),
 mv 9 44,
 mv 10 45] [6, 9]) (
 .reg [
 mv 47 6,
 mv 48 6,
 mv 49 9,
 op 50 (.call f_hash_bind_sha512_Hash [] [(.t 49), (.c (.fn f_sha512_Hash_Write [] [])), (.c (.fn f_sha512_Hash_Sum [] []))]),
 mv 46 50,
 op 51 (.ext 0 (.t 46)),
 op 52 (.ext 1 (.t 46)),
 op 53 (.nck (.t 47)),
 op 54 (.off 0 (.t 53)),
 ⟨none, none, .st 1 (.t 54) (.t 51)⟩,
 op 55 (.nck (.t 48)),
 op 56 (.off 1 (.t 55)),
 ⟨none, none, .st 1 (.t 56) (.t 52)⟩] [6])))) (
 .seq (
 .reg [
 mv 57 6,
 mv 2 57,
 op 3 (.mov (.c (.i 0)))] [2, 3]) (
 .ret))))))
def m_hash_New : MFn := ⟨c_hash_New, [.tmp 2, .tmp 3], 3⟩

/-- (*curvet/hash.Stream).Write -/
def c_hash_Stream_Write : Stm :=
 .seq (
 .reg [
 op 4 (.mov (.c (.i 0)))] [0, 1]) (
 .seq (
 .seq (
 .reg [
 mv 5 0,
 op 6 (.eqv .ptr false (.t 5) (.c (.nilp))),
 mv 7 6,
 ⟨some 8, (some (7, false)), .mov (.t 0)⟩,
 ⟨some 9, (some (7, false)), .nck (.t 8)⟩,
 ⟨some 10, (some (7, false)), .off 0 (.t 9)⟩,
 ⟨some 11, (some (7, false)), .ld false none (.t 10)⟩,
 ⟨some 12, (some (7, false)), .eqv .func false (.t 11) (.c (.nilf))⟩,
 op 13 (.pick (.t 7) (.c (.b true)) (.t 12))] [0, 1, 13]) (
 .cond (.t 13) (
 .seq (
 .reg [
 op 4 (.mov (.c (.i 1)))] [4]) (
 .ret)) (
 .reg [] [0, 1]))) (
 .seq (
 .reg [
 mv 14 0,
 op 15 (.nck (.t 14)),
 op 16 (.off 0 (.t 15)),
 op 17 (.ld false none (.t 16)),
 mv 18 1,
 op 19 (.cal (.t 17) [(.t 18)]),
 mv 4 19] [4]) (
 .ret)))
def m_hash_Stream_Write : MFn := ⟨c_hash_Stream_Write, [.tmp 4], 3⟩

/-- (*curvet/hash.Stream).Sum -/
def c_hash_Stream_Sum : Stm :=
 .seq (
 .reg [
 op 2 (.mov (.c (.s [])))] [0]) (
 .seq (
 .seq (
 .reg [
 mv 3 0,
 op 4 (.eqv .ptr false (.t 3) (.c (.nilp))),
 mv 5 4,
 ⟨some 6, (some (5, false)), .mov (.t 0)⟩,
 ⟨some 7, (some (5, false)), .nck (.t 6)⟩,
 ⟨some 8, (some (5, false)), .off 1 (.t 7)⟩,
 ⟨some 9, (some (5, false)), .ld false none (.t 8)⟩,
 ⟨some 10, (some (5, false)), .eqv .func false (.t 9) (.c (.nilf))⟩,
 op 11 (.pick (.t 5) (.c (.b true)) (.t 10))] [0, 11]) (
 .cond (.t 11) (
 .seq (
 .reg [
 op 2 (.mov (.c (.s [])))] [2]) (
 .ret)) (
 .reg [] [0]))) (
 .seq (
 .reg [
 mv 12 0,
 op 13 (.nck (.t 12)),
 op 14 (.off 1 (.t 13)),
 op 15 (.ld false none (.t 14)),
 op 16 (.cal (.t 15) []),
 mv 2 16] [2]) (
 .ret)))
def m_hash_Stream_Sum : MFn := ⟨c_hash_Stream_Sum, [.tmp 2], 3⟩

/-- math/bits.LeadingZeros64 -/
def c_bits_LeadingZeros64 : Stm :=
 .seq (
 .reg [
 op 2 (.mov (.c (.i 0)))] [0]) (
 .seq (
 .reg [
 mv 3 0,
 op 4 (.call f_bits_Len64 [] [(.t 3)]),
 op 5 (.bin .sub (.c (.i 64)) (.t 4)),
 mv 2 5] [2]) (
 .ret))
def m_bits_LeadingZeros64 : MFn := ⟨c_bits_LeadingZeros64, [.tmp 2], 0⟩

/-- (*curvet/divide.divisor).guess -/
def c_divide_divisor_guess : Stm :=
 .seq (
 .reg [
 op 6 (.mov (.c (.u 64 0)))] [0, 1, 2]) (
 .seq (
 .reg [
 mv 15 0,
 mv 16 0,
 op 17 (.nck (.t 16)),
 op 18 (.off 9 (.t 17)),
 op 19 (.ld false none (.t 18)),
 op 20 (.bin .sub (.t 19) (.c (.i 1))),
 op 21 (.nck (.t 15)),
 op 22 (.off 0 (.t 21)),
 op 23 (.idx 9 1 (.t 22) (.t 20)),
 op 24 (.ld false none (.t 23)),
 mv 7 24] [0, 1, 2, 7]) (
 .seq (
 .reg [
 mv 25 1,
 mv 26 2,
 mv 27 0,
 op 28 (.nck (.t 27)),
 op 29 (.off 9 (.t 28)),
 op 30 (.ld false none (.t 29)),
 op 31 (.bin .add (.t 26) (.t 30)),
 op 32 (.idxs 1 (.t 25) (.t 31)),
 op 33 (.ld false none (.t 32)),
 mv 34 1,
 mv 35 2,
 mv 36 0,
 op 37 (.nck (.t 36)),
 op 38 (.off 9 (.t 37)),
 op 39 (.ld false none (.t 38)),
 op 40 (.bin .add (.t 35) (.t 39)),
 op 41 (.bin .sub (.t 40) (.c (.i 1))),
 op 42 (.idxs 1 (.t 34) (.t 41)),
 op 43 (.ld false none (.t 42)),
 mv 8 33,
 mv 9 43] [0, 1, 2, 7, 8, 9]) (
 .seq (
 .seq (
 .reg [
 mv 44 8,
 mv 45 7,
 op 46 (.bin .geq (.t 44) (.t 45))] [0, 1, 2, 7, 8, 9, 46]) (
 .cond (.t 46) (
 .seq (
 .reg [
 op 6 (.mov (.c (.u 64 18446744073709551615)))] [6]) (
 .ret)) (
 .reg [] [0, 1, 2, 7, 8, 9]))) (
 .seq (
 .reg [
 mv 48 8,
 mv 49 9,
 mv 50 7,
 op 51 (.call f_bits_Div64 [] [(.t 48), (.t 49), (.t 50)]),
 mv 47 51,
 op 52 (.ext 0 (.t 47)),
 op 53 (.ext 1 (.t 47)),
 mv 10 52,
 mv 11 53] [0, 1, 2, 7, 10, 11]) (
 .seq (
 .seq (
 .reg [
 mv 54 0,
 op 55 (.nck (.t 54)),
 op 56 (.off 9 (.t 55)),
 op 57 (.ld false none (.t 56)),
 op 58 (.bin .eql (.t 57) (.c (.i 1)))] [0, 1, 2, 7, 10, 11, 58]) (
 .cond (.t 58) (
 .seq (
 .reg [
 mv 59 10,
 mv 6 59] [6]) (
 .ret)) (
 .reg [] [0, 1, 2, 7, 10, 11]))) (
 .block 0 (
 .loop [0, 1, 2, 7, 10, 11] (
 .block 1 (
 .seq (
 .reg [
 mv 61 10,
 mv 62 0,
 mv 63 0,
 op 64 (.nck (.t 63)),
 op 65 (.off 9 (.t 64)),
 op 66 (.ld false none (.t 65)),
 op 67 (.bin .sub (.t 66) (.c (.i 2))),
 op 68 (.nck (.t 62)),
 op 69 (.off 0 (.t 68)),
 op 70 (.idx 9 1 (.t 69) (.t 67)),
 op 71 (.ld false none (.t 70)),
 op 72 (.call f_bits_Mul64 [] [(.t 61), (.t 71)]),
 mv 60 72,
 op 73 (.ext 0 (.t 60)),
 op 74 (.ext 1 (.t 60)),
 mv 12 73,
 mv 13 74] [0, 1, 2, 7, 10, 11, 12, 13]) (
 .seq (
 .seq (
 .reg [
 mv 75 12,
 mv 76 11,
 op 77 (.bin .lss (.t 75) (.t 76)),
 mv 78 77,
 ⟨some 79, (some (78, false)), .mov (.t 12)⟩,
 ⟨some 80, (some (78, false)), .mov (.t 11)⟩,
 ⟨some 81, (some (78, false)), .bin .eql (.t 79) (.t 80)⟩,
 ⟨some 82, (some (78, false)), .mov (.t 81)⟩,
 ⟨some 83, (some (82, true)), .mov (.t 13)⟩,
 ⟨some 84, (some (82, true)), .mov (.t 1)⟩,
 ⟨some 85, (some (82, true)), .mov (.t 2)⟩,
 ⟨some 86, (some (82, true)), .mov (.t 0)⟩,
 ⟨some 87, (some (82, true)), .nck (.t 86)⟩,
 ⟨some 88, (some (82, true)), .off 9 (.t 87)⟩,
 ⟨some 89, (some (82, true)), .ld false none (.t 88)⟩,
 ⟨some 90, (some (82, true)), .bin .add (.t 85) (.t 89)⟩,
 ⟨some 91, (some (82, true)), .bin .sub (.t 90) (.c (.i 2))⟩,
 ⟨some 92, (some (82, true)), .idxs 1 (.t 84) (.t 91)⟩,
 ⟨some 93, (some (82, true)), .ld false none (.t 92)⟩,
 ⟨some 94, (some (82, true)), .bin .leq (.t 83) (.t 93)⟩,
 ⟨some 95, (some (78, false)), .pick (.t 82) (.t 94) (.c (.b false))⟩,
 op 96 (.pick (.t 78) (.c (.b true)) (.t 95))] [0, 1, 2, 7, 10, 11, 96]) (
 .cond (.t 96) (
 .seq (
 .reg [
 mv 97 10,
 mv 6 97] [6]) (
 .ret)) (
 .reg [] [0, 1, 2, 7, 10, 11]))) (
 .seq (
 .reg [
 mv 98 10,
 op 99 (.bin .sub (.t 98) (.c (.u 64 1))),
 mv 10 99] [0, 1, 2, 7, 10, 11]) (
 .seq (
 .reg [
 mv 100 11,
 mv 101 7,
 op 102 (.bin .add (.t 100) (.t 101)),
 mv 14 102] [0, 1, 2, 7, 10, 11, 14]) (
 .seq (
 .seq (
 .reg [
 mv 103 14,
 mv 104 11,
 op 105 (.bin .lss (.t 103) (.t 104))] [0, 1, 2, 7, 10, 14, 105]) (
 .cond (.t 105) (
 .seq (
 .reg [
 mv 106 10,
 mv 6 106] [6]) (
 .ret)) (
 .reg [] [0, 1, 2, 7, 10, 14]))) (
 .reg [
 mv 107 14,
 mv 11 107] [0, 1, 2, 7, 10, 11]))))))))))))))
def m_divide_divisor_guess : MFn := ⟨c_divide_divisor_guess, [.tmp 6], 0⟩

/-- (*curvet/divide.divisor).take -/
def c_divide_divisor_take : Stm :=
 .seq (
 .reg [
 op 8 (.mov (.c (.b false)))] [0, 1, 2, 3]) (
 .seq (
 .reg [
 op 9 (.mov (.c (.u 64 0))),
 op 10 (.mov (.c (.u 64 0)))] [0, 1, 2, 3, 9, 10]) (
 .seq (
 .seq (
 .reg [
 mv 15 0,
 op 16 (.nck (.t 15)),
 op 17 (.off 9 (.t 16)),
 op 18 (.ld false none (.t 17)),
 op 19 (.mov (.c (.i 0)))] [0, 1, 2, 3, 9, 10, 18, 19]) (
 .block 0 (
 .loop [0, 1, 2, 3, 9, 10, 18, 19] (
 .seq (
 .reg [
 op 20 (.bin .lss (.t 19) (.t 18))] [0, 1, 2, 3, 9, 10, 18, 19, 20]) (
 .seq (
 .cond (.t 20) (
 .reg [] [0, 1, 2, 3, 9, 10, 18, 19]) (
 .exit 0 [0, 1, 2, 9, 10])) (
 .seq (
 .block 1 (
 .seq (
 .reg [
 mv 21 19,
 mv 11 21] [0, 1, 2, 3, 9, 10, 11, 18, 19]) (
 .seq (
 .reg [
 mv 23 3,
 mv 24 0,
 mv 25 11,
 op 26 (.nck (.t 24)),
 op 27 (.off 0 (.t 26)),
 op 28 (.idx 9 1 (.t 27) (.t 25)),
 op 29 (.ld false none (.t 28)),
 op 30 (.call f_bits_Mul64 [] [(.t 23), (.t 29)]),
 mv 22 30,
 op 31 (.ext 0 (.t 22)),
 op 32 (.ext 1 (.t 22)),
 mv 12 31,
 mv 13 32] [0, 1, 2, 3, 9, 10, 11, 12, 13, 18, 19]) (
 .seq (
 .reg [
 op 14 (.mov (.c (.u 64 0)))] [0, 1, 2, 3, 9, 10, 11, 12, 13, 18, 19]) (
 .seq (
 .reg [
 mv 34 13,
 mv 35 10,
 op 36 (.prim .add64 [(.t 34), (.t 35), (.c (.u 64 0))]),
 mv 33 36,
 op 37 (.ext 0 (.t 33)),
 op 38 (.ext 1 (.t 33)),
 mv 13 37,
 mv 14 38] [0, 1, 2, 3, 9, 11, 12, 13, 14, 18, 19]) (
 .seq (
 .reg [
 mv 39 12,
 mv 40 14,
 op 41 (.bin .add (.t 39) (.t 40)),
 mv 10 41] [0, 1, 2, 3, 9, 10, 11, 13, 18, 19]) (
 .reg [
 mv 43 1,
 mv 44 2,
 mv 45 11,
 op 46 (.bin .add (.t 44) (.t 45)),
 mv 47 1,
 mv 48 2,
 mv 49 11,
 op 50 (.bin .add (.t 48) (.t 49)),
 op 51 (.idxs 1 (.t 47) (.t 50)),
 op 52 (.ld false none (.t 51)),
 mv 53 13,
 mv 54 9,
 op 55 (.prim .sub64 [(.t 52), (.t 53), (.t 54)]),
 mv 42 55,
 op 56 (.ext 0 (.t 42)),
 op 57 (.ext 1 (.t 42)),
 op 58 (.idxs 1 (.t 43) (.t 46)),
 ⟨none, none, .st 1 (.t 58) (.t 56)⟩,
 mv 9 57] [0, 1, 2, 3, 9, 10, 18, 19]))))))) (
 .reg [
 op 59 (.bin .add (.t 19) (.c (.i 1))),
 mv 19 59] [0, 1, 2, 3, 9, 10, 18, 19]))))))) (
 .seq (
 .reg [
 mv 61 1,
 mv 62 2,
 mv 63 0,
 op 64 (.nck (.t 63)),
 op 65 (.off 9 (.t 64)),
 op 66 (.ld false none (.t 65)),
 op 67 (.bin .add (.t 62) (.t 66)),
 mv 68 1,
 mv 69 2,
 mv 70 0,
 op 71 (.nck (.t 70)),
 op 72 (.off 9 (.t 71)),
 op 73 (.ld false none (.t 72)),
 op 74 (.bin .add (.t 69) (.t 73)),
 op 75 (.idxs 1 (.t 68) (.t 74)),
 op 76 (.ld false none (.t 75)),
 mv 77 10,
 mv 78 9,
 op 79 (.prim .sub64 [(.t 76), (.t 77), (.t 78)]),
 mv 60 79,
 op 80 (.ext 0 (.t 60)),
 op 81 (.ext 1 (.t 60)),
 op 82 (.idxs 1 (.t 61) (.t 67)),
 ⟨none, none, .st 1 (.t 82) (.t 80)⟩,
 mv 9 81] [9]) (
 .seq (
 .reg [
 mv 83 9,
 op 84 (.bin .eql (.t 83) (.c (.u 64 1))),
 mv 8 84] [8]) (
 .ret)))))
def m_divide_divisor_take : MFn := ⟨c_divide_divisor_take, [.tmp 8], 0⟩

/-- (*curvet/divide.divisor).back -/
def c_divide_divisor_back : Stm :=
 .seq (
 .reg [
 op 6 (.mov (.c (.b false)))] [0, 1, 2]) (
 .seq (
 .reg [
 op 7 (.mov (.c (.u 64 0)))] [0, 1, 2, 7]) (
 .seq (
 .seq (
 .reg [
 mv 9 0,
 op 10 (.nck (.t 9)),
 op 11 (.off 9 (.t 10)),
 op 12 (.ld false none (.t 11)),
 op 13 (.mov (.c (.i 0)))] [0, 1, 2, 7, 12, 13]) (
 .block 0 (
 .loop [0, 1, 2, 7, 12, 13] (
 .seq (
 .reg [
 op 14 (.bin .lss (.t 13) (.t 12))] [0, 1, 2, 7, 12, 13, 14]) (
 .seq (
 .cond (.t 14) (
 .reg [] [0, 1, 2, 7, 12, 13]) (
 .exit 0 [0, 1, 2, 7])) (
 .seq (
 .block 1 (
 .seq (
 .reg [
 mv 15 13,
 mv 8 15] [0, 1, 2, 7, 8, 12, 13]) (
 .reg [
 mv 17 1,
 mv 18 2,
 mv 19 8,
 op 20 (.bin .add (.t 18) (.t 19)),
 mv 21 1,
 mv 22 2,
 mv 23 8,
 op 24 (.bin .add (.t 22) (.t 23)),
 op 25 (.idxs 1 (.t 21) (.t 24)),
 op 26 (.ld false none (.t 25)),
 mv 27 0,
 mv 28 8,
 op 29 (.nck (.t 27)),
 op 30 (.off 0 (.t 29)),
 op 31 (.idx 9 1 (.t 30) (.t 28)),
 op 32 (.ld false none (.t 31)),
 mv 33 7,
 op 34 (.prim .add64 [(.t 26), (.t 32), (.t 33)]),
 mv 16 34,
 op 35 (.ext 0 (.t 16)),
 op 36 (.ext 1 (.t 16)),
 op 37 (.idxs 1 (.t 17) (.t 20)),
 ⟨none, none, .st 1 (.t 37) (.t 35)⟩,
 mv 7 36] [0, 1, 2, 7, 12, 13]))) (
 .reg [
 op 38 (.bin .add (.t 13) (.c (.i 1))),
 mv 13 38] [0, 1, 2, 7, 12, 13]))))))) (
 .seq (
 .reg [
 mv 40 1,
 mv 41 2,
 mv 42 0,
 op 43 (.nck (.t 42)),
 op 44 (.off 9 (.t 43)),
 op 45 (.ld false none (.t 44)),
 op 46 (.bin .add (.t 41) (.t 45)),
 mv 47 1,
 mv 48 2,
 mv 49 0,
 op 50 (.nck (.t 49)),
 op 51 (.off 9 (.t 50)),
 op 52 (.ld false none (.t 51)),
 op 53 (.bin .add (.t 48) (.t 52)),
 op 54 (.idxs 1 (.t 47) (.t 53)),
 op 55 (.ld false none (.t 54)),
 mv 56 7,
 op 57 (.prim .add64 [(.t 55), (.c (.u 64 0)), (.t 56)]),
 mv 39 57,
 op 58 (.ext 0 (.t 39)),
 op 59 (.ext 1 (.t 39)),
 op 60 (.idxs 1 (.t 40) (.t 46)),
 ⟨none, none, .st 1 (.t 60) (.t 58)⟩,
 mv 7 59] [7]) (
 .seq (
 .reg [
 mv 61 7,
 op 62 (.bin .eql (.t 61) (.c (.u 64 1))),
 mv 6 62] [6]) (
 .ret)))))
def m_divide_divisor_back : MFn := ⟨c_divide_divisor_back, [.tmp 6], 0⟩

/-- math/bits.Mul64 -/
def c_bits_Mul64 : Stm :=
 .seq (
 .reg [
 op 4 (.mov (.c (.u 64 0))),
 op 5 (.mov (.c (.u 64 0)))] [0, 1]) (
 .seq (
 .reg [
 mv 14 0,
 op 15 (.bin .and (.t 14) (.c (.u 64 4294967295))),
 mv 6 15] [0, 1, 6]) (
 .seq (
 .reg [
 mv 16 0,
 op 17 (.bin .shr (.t 16) (.c (.u 64 32))),
 mv 7 17] [0, 1, 6, 7]) (
 .seq (
 .reg [
 mv 18 1,
 op 19 (.bin .and (.t 18) (.c (.u 64 4294967295))),
 mv 8 19] [0, 1, 6, 7, 8]) (
 .seq (
 .reg [
 mv 20 1,
 op 21 (.bin .shr (.t 20) (.c (.u 64 32))),
 mv 9 21] [0, 1, 6, 7, 8, 9]) (
 .seq (
 .reg [
 mv 22 6,
 mv 23 8,
 op 24 (.bin .mul (.t 22) (.t 23)),
 mv 10 24] [0, 1, 6, 7, 8, 9, 10]) (
 .seq (
 .reg [
 mv 25 7,
 mv 26 8,
 op 27 (.bin .mul (.t 25) (.t 26)),
 mv 28 10,
 op 29 (.bin .shr (.t 28) (.c (.u 64 32))),
 op 30 (.bin .add (.t 27) (.t 29)),
 mv 11 30] [0, 1, 6, 7, 9, 11]) (
 .seq (
 .reg [
 mv 31 11,
 op 32 (.bin .and (.t 31) (.c (.u 64 4294967295))),
 mv 12 32] [0, 1, 6, 7, 9, 11, 12]) (
 .seq (
 .reg [
 mv 33 11,
 op 34 (.bin .shr (.t 33) (.c (.u 64 32))),
 mv 13 34] [0, 1, 6, 7, 9, 12, 13]) (
 .seq (
 .reg [
 mv 35 12,
 mv 36 6,
 mv 37 9,
 op 38 (.bin .mul (.t 36) (.t 37)),
 op 39 (.bin .add (.t 35) (.t 38)),
 mv 12 39] [0, 1, 7, 9, 12, 13]) (
 .seq (
 .reg [
 mv 40 7,
 mv 41 9,
 op 42 (.bin .mul (.t 40) (.t 41)),
 mv 43 13,
 op 44 (.bin .add (.t 42) (.t 43)),
 mv 45 12,
 op 46 (.bin .shr (.t 45) (.c (.u 64 32))),
 op 47 (.bin .add (.t 44) (.t 46)),
 mv 4 47] [0, 1, 4]) (
 .seq (
 .reg [
 mv 48 0,
 mv 49 1,
 op 50 (.bin .mul (.t 48) (.t 49)),
 mv 5 50] [4, 5]) (
 .ret))))))))))))
def m_bits_Mul64 : MFn := ⟨c_bits_Mul64, [.tmp 4, .tmp 5], 0⟩

/-- curvet/window.wide -/
def c_window_wide : Stm :=
 .seq (
 .reg [
 op 2 (.mov (.c (.b false)))] [0]) (
 .seq (
 .reg [
 mv 3 0,
 op 4 (.bin .geq (.t 3) (.c (.i 1))),
 mv 5 4,
 ⟨some 6, (some (5, true)), .mov (.t 0)⟩,
 ⟨some 7, (some (5, true)), .bin .leq (.t 6) (.c (.i 6))⟩,
 op 8 (.pick (.t 5) (.t 7) (.c (.b false))),
 mv 2 8] [2]) (
 .ret))
def m_window_wide : MFn := ⟨c_window_wide, [.tmp 2], 0⟩

/-- (*curvet/trace.Trace).Index -/
def c_trace_Trace_Index : Stm :=
 .seq (
 .reg [
 op 4 (.mov (.c (.i 0)))] [0, 1]) (
 .seq (
 .seq (
 .reg [
 mv 5 0,
 op 6 (.eqv .ptr false (.t 5) (.c (.nilp)))] [0, 1, 6]) (
 .cond (.t 6) (
 .seq (
 .reg [
 op 4 (.mov (.c (.i 1)))] [4]) (
 .ret)) (
 .reg [] [0, 1]))) (
 .seq (
 .reg [
 mv 7 0,
 mv 8 0,
 op 9 (.nck (.t 8)),
 op 10 (.off 0 (.t 9)),
 op 11 (.ld false none (.t 10)),
 mv 12 1,
 op 13 (.build [.i 0, .i 0] [(0, 1, (.c (.i 2))), (1, 1, (.t 12))]),
 op 14 (.lit true 2 1 [.i 0, .i 0] [(0, 2, (.t 13))]),
 op 15 (.app 2 16 (.t 11) (.t 14)),
 op 16 (.nck (.t 7)),
 op 17 (.off 0 (.t 16)),
 ⟨none, none, .st 1 (.t 17) (.t 15)⟩] []) (
 .seq (
 .reg [
 op 4 (.mov (.c (.i 0)))] [4]) (
 .ret))))
def m_trace_Trace_Index : MFn := ⟨c_trace_Trace_Index, [.tmp 4], 3⟩

/-- curvet/mask.Equal -/
def c_mask_Equal : Stm :=
 .seq (
 .reg [
 op 4 (.mov (.c (.u 64 0)))] [0, 1]) (
 .seq (
 .reg [
 mv 5 0,
 mv 6 1,
 op 7 (.bin .xor (.t 5) (.t 6)),
 op 8 (.call f_mask_Zero [] [(.t 7)]),
 mv 4 8] [4]) (
 .ret))
def m_mask_Equal : MFn := ⟨c_mask_Equal, [.tmp 4], 0⟩

/-- curvet/mask.Select -/
def c_mask_Select : Stm :=
 .seq (
 .reg [
 op 4 (.boxv (.t 1)),
 op 5 (.boxv (.t 2)),
 op 6 (.box (.c (.agg z9)))] [0, 4, 5, 6]) (
 .seq (
 .reg [
 mv 7 0,
 op 8 (.build [.u 64 0] [(0, 1, (.t 7))]),
 op 9 (.fun_ f_mask_chooser_word [(.t 8)] []),
 op 10 (.ld true (some 9) (.t 4)),
 op 11 (.ld true (some 9) (.t 5)),
 op 12 (.call f_mask_nat [] [(.t 9), (.t 10), (.t 11)]),
 ⟨none, none, .stl 6 9 (.t 6) (.t 12)⟩] [6]) (
 .ret))
def m_mask_Select : MFn := ⟨c_mask_Select, [.cell 6 (some 9)], 0⟩

/-- (*curvet/mont.Mont).round -/
def c_mont_Mont_round : Stm :=
 .seq (
 .reg [
 op 8 (.mov (.c (.u 64 0)))] [0, 1, 2, 3, 8]) (
 .seq (
 .seq (
 .reg [
 mv 14 0,
 op 15 (.nck (.t 14)),
 op 16 (.off 9 (.t 15)),
 op 17 (.ld false none (.t 16)),
 op 18 (.mov (.c (.i 0)))] [0, 1, 2, 3, 8, 17, 18]) (
 .block 0 (
 .loop [0, 1, 2, 3, 8, 17, 18] (
 .seq (
 .reg [
 op 19 (.bin .lss (.t 18) (.t 17))] [0, 1, 2, 3, 8, 17, 18, 19]) (
 .seq (
 .cond (.t 19) (
 .reg [] [0, 1, 2, 3, 8, 17, 18]) (
 .exit 0 [0, 1, 8])) (
 .seq (
 .block 1 (
 .seq (
 .reg [
 mv 20 18,
 mv 9 20] [0, 1, 2, 3, 8, 9, 17, 18]) (
 .seq (
 .reg [
 mv 22 2,
 mv 23 3,
 mv 24 9,
 op 25 (.nck (.t 23)),
 op 26 (.off 0 (.t 25)),
 op 27 (.idx 9 1 (.t 26) (.t 24)),
 op 28 (.ld false none (.t 27)),
 op 29 (.call f_bits_Mul64 [] [(.t 22), (.t 28)]),
 mv 21 29,
 op 30 (.ext 0 (.t 21)),
 op 31 (.ext 1 (.t 21)),
 mv 10 30,
 mv 11 31] [0, 1, 2, 3, 8, 9, 10, 11, 17, 18]) (
 .seq (
 .reg [
 op 12 (.mov (.c (.u 64 0)))] [0, 1, 2, 3, 8, 9, 10, 11, 17, 18]) (
 .seq (
 .reg [
 mv 33 11,
 mv 34 8,
 op 35 (.prim .add64 [(.t 33), (.t 34), (.c (.u 64 0))]),
 mv 32 35,
 op 36 (.ext 0 (.t 32)),
 op 37 (.ext 1 (.t 32)),
 mv 11 36,
 mv 12 37] [0, 1, 2, 3, 9, 10, 11, 12, 17, 18]) (
 .seq (
 .reg [
 mv 38 10,
 mv 39 12,
 op 40 (.bin .add (.t 38) (.t 39)),
 mv 10 40] [0, 1, 2, 3, 9, 10, 11, 17, 18]) (
 .seq (
 .reg [
 mv 42 1,
 mv 43 9,
 mv 44 1,
 mv 45 9,
 op 46 (.nck (.t 44)),
 op 47 (.idx 11 1 (.t 46) (.t 45)),
 op 48 (.ld false none (.t 47)),
 mv 49 11,
 op 50 (.prim .add64 [(.t 48), (.t 49), (.c (.u 64 0))]),
 mv 41 50,
 op 51 (.ext 0 (.t 41)),
 op 52 (.ext 1 (.t 41)),
 op 53 (.nck (.t 42)),
 op 54 (.idx 11 1 (.t 53) (.t 43)),
 ⟨none, none, .st 1 (.t 54) (.t 51)⟩,
 mv 12 52] [0, 1, 2, 3, 10, 12, 17, 18]) (
 .reg [
 mv 55 10,
 mv 56 12,
 op 57 (.bin .add (.t 55) (.t 56)),
 mv 8 57] [0, 1, 2, 3, 8, 17, 18])))))))) (
 .reg [
 op 58 (.bin .add (.t 18) (.c (.i 1))),
 mv 18 58] [0, 1, 2, 3, 8, 17, 18]))))))) (
 .seq (
 .reg [
 op 13 (.mov (.c (.u 64 0)))] [0, 1, 8]) (
 .seq (
 .reg [
 mv 60 1,
 mv 61 0,
 op 62 (.nck (.t 61)),
 op 63 (.off 9 (.t 62)),
 op 64 (.ld false none (.t 63)),
 mv 65 1,
 mv 66 0,
 op 67 (.nck (.t 66)),
 op 68 (.off 9 (.t 67)),
 op 69 (.ld false none (.t 68)),
 op 70 (.nck (.t 65)),
 op 71 (.idx 11 1 (.t 70) (.t 69)),
 op 72 (.ld false none (.t 71)),
 mv 73 8,
 op 74 (.prim .add64 [(.t 72), (.t 73), (.c (.u 64 0))]),
 mv 59 74,
 op 75 (.ext 0 (.t 59)),
 op 76 (.ext 1 (.t 59)),
 op 77 (.nck (.t 60)),
 op 78 (.idx 11 1 (.t 77) (.t 64)),
 ⟨none, none, .st 1 (.t 78) (.t 75)⟩,
 mv 13 76] [0, 1, 13]) (
 .reg [
 mv 79 1,
 mv 80 0,
 op 81 (.nck (.t 80)),
 op 82 (.off 9 (.t 81)),
 op 83 (.ld false none (.t 82)),
 op 84 (.bin .add (.t 83) (.c (.i 1))),
 op 85 (.nck (.t 79)),
 op 86 (.idx 11 1 (.t 85) (.t 84)),
 op 87 (.ld false none (.t 86)),
 mv 88 13,
 op 89 (.bin .add (.t 87) (.t 88)),
 op 90 (.nck (.t 79)),
 op 91 (.idx 11 1 (.t 90) (.t 84)),
 ⟨none, none, .st 1 (.t 91) (.t 89)⟩] []))))
def m_mont_Mont_round : MFn := ⟨c_mont_Mont_round, [], 0⟩

/-- curvet/sha256.New -/
def c_sha256_New : Stm :=
 .seq (
 .reg [
 op 2 (.mov (.c (.nilp))),
 op 3 (.mov (.c (.i 0)))] [0]) (
 .seq (
 .reg [
 mv 7 0,
 op 8 (.call f_sha256_beginning [] [(.t 7)]),
 mv 6 8,
 op 9 (.ext 0 (.t 6)),
 op 10 (.ext 1 (.t 6)),
 op 4 (.boxh (.c (.agg [.u 32 0, .u 32 0, .u 32 0, .u 32 0, .u 32 0, .u 32 0, .u 32 0, .u 32 0]))),
 ⟨none, none, .st 8 (.t 4) (.t 9)⟩,
 mv 5 10] [0, 4, 5]) (
 .seq (
 .seq (
 .reg [
 mv 11 5,
 op 12 (.un .not (.t 11))] [0, 4, 12]) (
 .cond (.t 12) (
 .seq (
 .reg [
 op 2 (.mov (.c (.nilp))),
 op 3 (.mov (.c (.i 700)))] [2, 3]) (
 .ret)) (
 .reg [] [0, 4]))) (
 .seq (
 .reg [
 mv 13 0,
 op 14 (.ld false (some 8) (.t 4)),
 op 15 (.callp f_sha256_constants []),
 op 16 (.build [.i 0, .u 32 0, .u 32 0, .u 32 0, .u 32 0, .u 32 0, .u 32 0, .u 32 0, .u 32 0, .u 32 0, .u 32 0, .u 32 0, .u 32 0, .u 32 0, .u 32 0, .u 32 0, .u 32 0, .u 32 0, .u 32 0, .u 32 0, .u 32 0, .u 32 0, .u 32 0, .u 32 0, .u 32 0, .u 32 0, .u 32 0, .u 32 0, .u 32 0, .u 32 0, .u 32 0, .u 32 0, .u 32 0, .u 32 0, .u 32 0, .u 32 0, .u 32 0, .u 32 0, .u 32 0, .u 32 0, .u 32 0, .u 32 0, .u 32 0, .u 32 0, .u 32 0, .u 32 0, .u 32 0, .u 32 0, .u 32 0, .u 32 0, .u 32 0, .u 32 0, .u 32 0, .u 32 0, .u 32 0, .u 32 0, .u 32 0, .u 32 0, .u 32 0, .u 32 0, .u 32 0, .u 32 0, .u 32 0, .u 32 0, .u 32 0, .u 32 0, .u 32 0, .u 32 0, .u 32 0, .u 32 0, .u 32 0, .u 32 0, .u 32 0, .nils, .u 64 0] [(0, 1, (.t 13)), (1, 8, (.t 14)), (9, 64, (.t 15))]),
 op 17 (.boxh (.t 16)),
 mv 2 17,
 op 3 (.mov (.c (.i 0)))] [2, 3]) (
 .ret))))
def m_sha256_New : MFn := ⟨c_sha256_New, [.tmp 2, .tmp 3], 3⟩

/-- curvet/hash.bind[*curvet/sha256.Hash] -/
def c_hash_bind_sha256_Hash : Stm :=
 .seq (
 .reg [
 op 3 (.boxv (.t 0)),
 op 4 (.boxv (.t 1)),
 op 5 (.boxv (.t 2)),
 op 6 (.mov (.c (.nilf))),
 op 7 (.mov (.c (.nilf)))] [3, 4, 5]) (
 .seq (
 .reg [
 op 8 (.fun_ f_hash_bind_sha256_Hash_1 [] [(.t 4), (.t 3)]),
 op 9 (.fun_ f_hash_bind_sha256_Hash_2 [] [(.t 5), (.t 3)]),
 mv 6 8,
 mv 7 9] [6, 7]) (
 .ret))
def m_hash_bind_sha256_Hash : MFn := ⟨c_hash_bind_sha256_Hash, [.tmp 6, .tmp 7], 3⟩

/-- (*curvet/sha256.Hash).Write -/
def c_sha256_Hash_Write : Stm :=
 .seq (
 .reg [
 op 4 (.mov (.c (.i 0)))] [0, 1]) (
 .seq (
 .seq (
 .reg [
 mv 6 0,
 op 7 (.eqv .ptr false (.t 6) (.c (.nilp)))] [0, 1, 7]) (
 .cond (.t 7) (
 .seq (
 .reg [
 op 4 (.mov (.c (.i 1)))] [4]) (
 .ret)) (
 .reg [] [0, 1]))) (
 .seq (
 .reg [
 mv 8 0,
 op 9 (.nck (.t 8)),
 op 10 (.off 74 (.t 9)),
 op 11 (.ld false none (.t 10)),
 mv 12 1,
 op 13 (.lens (.t 12)),
 op 14 (.cvu 64 (.t 13)),
 op 15 (.bin .add (.t 11) (.t 14)),
 op 16 (.nck (.t 8)),
 op 17 (.off 74 (.t 16)),
 ⟨none, none, .st 1 (.t 17) (.t 15)⟩] [0, 1]) (
 .seq (
 .reg [
 mv 18 0,
 op 19 (.nck (.t 18)),
 op 20 (.off 73 (.t 19)),
 op 21 (.ld false none (.t 20)),
 op 22 (.app 1 1 (.c (.nils)) (.t 21)),
 mv 23 1,
 op 24 (.app 1 1 (.t 22) (.t 23)),
 mv 5 24] [0, 5]) (
 .seq (
 .reg [
 mv 25 0,
 mv 26 0,
 op 27 (.fun_ f_sha256_Hash_turn [(.t 26)] []),
 mv 28 5,
 op 29 (.callo f_sha256_blocks [(.t 27), (.t 28)]),
 op 30 (.app 1 1 (.c (.nils)) (.t 29)),
 op 31 (.nck (.t 25)),
 op 32 (.off 73 (.t 31)),
 ⟨none, none, .st 1 (.t 32) (.t 30)⟩] []) (
 .seq (
 .reg [
 op 4 (.mov (.c (.i 0)))] [4]) (
 .ret))))))
def m_sha256_Hash_Write : MFn := ⟨c_sha256_Hash_Write, [.tmp 4], 3⟩

/-- (*curvet/sha256.Hash).Sum -/
def c_sha256_Hash_Sum : Stm :=
 .seq (
 .reg [
 op 2 (.mov (.c (.s [])))] [0]) (
 .seq (
 .seq (
 .reg [
 mv 10 0,
 op 11 (.eqv .ptr false (.t 10) (.c (.nilp)))] [0, 11]) (
 .cond (.t 11) (
 .seq (
 .reg [
 op 2 (.mov (.c (.s [])))] [2]) (
 .ret)) (
 .reg [] [0]))) (
 .seq (
 .reg [
 mv 12 0,
 op 13 (.nck (.t 12)),
 op 14 (.ld false (some 75) (.t 13)),
 op 3 (.boxh (.c (.agg [.i 0, .u 32 0, .u 32 0, .u 32 0, .u 32 0, .u 32 0, .u 32 0, .u 32 0, .u 32 0, .u 32 0, .u 32 0, .u 32 0, .u 32 0, .u 32 0, .u 32 0, .u 32 0, .u 32 0, .u 32 0, .u 32 0, .u 32 0, .u 32 0, .u 32 0, .u 32 0, .u 32 0, .u 32 0, .u 32 0, .u 32 0, .u 32 0, .u 32 0, .u 32 0, .u 32 0, .u 32 0, .u 32 0, .u 32 0, .u 32 0, .u 32 0, .u 32 0, .u 32 0, .u 32 0, .u 32 0, .u 32 0, .u 32 0, .u 32 0, .u 32 0, .u 32 0, .u 32 0, .u 32 0, .u 32 0, .u 32 0, .u 32 0, .u 32 0, .u 32 0, .u 32 0, .u 32 0, .u 32 0, .u 32 0, .u 32 0, .u 32 0, .u 32 0, .u 32 0, .u 32 0, .u 32 0, .u 32 0, .u 32 0, .u 32 0, .u 32 0, .u 32 0, .u 32 0, .u 32 0, .u 32 0, .u 32 0, .u 32 0, .u 32 0, .nils, .u 64 0]))),
 ⟨none, none, .st 75 (.t 3) (.t 14)⟩] [0, 3]) (
 .seq (
 .reg [
 mv 15 0,
 op 16 (.nck (.t 15)),
 op 17 (.off 73 (.t 16)),
 op 18 (.ld false none (.t 17)),
 op 19 (.app 1 1 (.c (.nils)) (.t 18)),
 op 20 (.lit true 1 1 [.u 8 0] [(0, 1, (.c (.u 8 128)))]),
 op 21 (.app 1 1 (.t 19) (.t 20)),
 mv 4 21] [0, 3, 4]) (
 .seq (
 .block 0 (
 .loop [0, 3, 4] (
 .seq (
 .seq (
 .reg [
 mv 22 4,
 op 23 (.len (.t 22)),
 op 24 (.bin .rem (.t 23) (.c (.i 64))),
 op 25 (.bin .neq (.t 24) (.c (.i 56)))] [0, 3, 4, 25]) (
 .cond (.t 25) (
 .reg [] [0, 3, 4]) (
 .exit 0 [0, 3, 4]))) (
 .block 1 (
 .reg [
 mv 26 4,
 op 27 (.lit true 1 1 [.u 8 0] [(0, 1, (.c (.u 8 0)))]),
 op 28 (.app 1 1 (.t 26) (.t 27)),
 mv 4 28] [0, 3, 4]))))) (
 .seq (
 .seq (
 .reg [
 op 29 (.mov (.c (.i 0)))] [0, 3, 4, 29]) (
 .block 2 (
 .loop [0, 3, 4, 29] (
 .seq (
 .reg [
 op 30 (.bin .lss (.t 29) (.c (.i 0)))] [0, 3, 4, 29, 30]) (
 .seq (
 .cond (.t 30) (
 .reg [] [0, 3, 4, 29]) (
 .exit 2 [0, 3, 4])) (
 .seq (
 .block 3 (
 .reg [
 mv 31 4,
 op 32 (.lit true 1 1 [.u 8 0] [(0, 1, (.c (.u 8 0)))]),
 op 33 (.app 1 1 (.t 31) (.t 32)),
 mv 4 33] [0, 3, 4, 29])) (
 .reg [
 op 34 (.bin .add (.t 29) (.c (.i 1))),
 mv 29 34] [0, 3, 4, 29]))))))) (
 .seq (
 .seq (
 .reg [
 op 35 (.mov (.c (.i 0)))] [0, 3, 4, 35]) (
 .block 4 (
 .loop [0, 3, 4, 35] (
 .seq (
 .reg [
 op 36 (.bin .lss (.t 35) (.c (.i 8)))] [0, 3, 4, 35, 36]) (
 .seq (
 .cond (.t 36) (
 .reg [] [0, 3, 4, 35]) (
 .exit 4 [0, 3, 4])) (
 .seq (
 .block 5 (
 .seq (
 .reg [
 mv 37 35,
 mv 5 37] [0, 3, 4, 5, 35]) (
 .reg [
 mv 38 4,
 mv 39 0,
 op 40 (.nck (.t 39)),
 op 41 (.off 74 (.t 40)),
 op 42 (.ld false none (.t 41)),
 op 43 (.bin .shl (.t 42) (.c (.u 64 3))),
 mv 44 5,
 op 45 (.bin .mul (.c (.i 8)) (.t 44)),
 op 46 (.bin .sub (.c (.i 56)) (.t 45)),
 op 47 (.bin .shr (.t 43) (.t 46)),
 op 48 (.cvu 8 (.t 47)),
 op 49 (.lit true 1 1 [.u 8 0] [(0, 1, (.t 48))]),
 op 50 (.app 1 1 (.t 38) (.t 49)),
 mv 4 50] [0, 3, 4, 35]))) (
 .reg [
 op 51 (.bin .add (.t 35) (.c (.i 1))),
 mv 35 51] [0, 3, 4, 35]))))))) (
 .seq (
 .reg [
 op 52 (.fun_ f_sha256_Hash_turn [(.t 3)] []),
 mv 53 4,
 op 54 (.callo f_sha256_blocks [(.t 52), (.t 53)])] [0, 3]) (
 .seq (
 .reg [
 op 6 (.mov (.c (.nils)))] [0, 3, 6]) (
 .seq (
 .seq (
 .reg [
 op 55 (.off 1 (.t 3)),
 op 56 (.ld false (some 8) (.t 55)),
 op 57 (.mov (.c (.i 0)))] [0, 6, 56, 57]) (
 .block 6 (
 .loop [0, 6, 56, 57] (
 .seq (
 .reg [
 op 58 (.bin .lss (.t 57) (.c (.i 8)))] [0, 6, 56, 57, 58]) (
 .seq (
 .cond (.t 58) (
 .reg [] [0, 6, 56, 57]) (
 .exit 6 [0, 6])) (
 .seq (
 .block 7 (
 .seq (
 .reg [
 op 59 (.idxv 8 1 false (.t 56) (.t 57)),
 mv 8 59] [0, 6, 8, 56, 57]) (
 .seq (
 .reg [
 op 60 (.mov (.c (.i 0)))] [0, 6, 8, 56, 57, 60]) (
 .block 8 (
 .loop [0, 6, 8, 56, 57, 60] (
 .seq (
 .reg [
 op 61 (.bin .lss (.t 60) (.c (.i 4)))] [0, 6, 8, 56, 57, 60, 61]) (
 .seq (
 .cond (.t 61) (
 .reg [] [0, 6, 8, 56, 57, 60]) (
 .exit 8 [0, 6, 56, 57])) (
 .seq (
 .block 9 (
 .seq (
 .reg [
 mv 62 60,
 mv 9 62] [0, 6, 8, 9, 56, 57, 60]) (
 .reg [
 mv 63 6,
 mv 64 8,
 mv 65 9,
 op 66 (.bin .mul (.c (.i 8)) (.t 65)),
 op 67 (.bin .sub (.c (.i 24)) (.t 66)),
 op 68 (.bin .shr (.t 64) (.t 67)),
 op 69 (.cvu 8 (.t 68)),
 op 70 (.lit true 1 1 [.u 8 0] [(0, 1, (.t 69))]),
 op 71 (.app 1 1 (.t 63) (.t 70)),
 mv 6 71] [0, 6, 8, 56, 57, 60]))) (
 .reg [
 op 72 (.bin .add (.t 60) (.c (.i 1))),
 mv 60 72] [0, 6, 8, 56, 57, 60]))))))))) (
 .reg [
 op 73 (.bin .add (.t 57) (.c (.i 1))),
 mv 57 73] [0, 6, 56, 57]))))))) (
 .seq (
 .reg [
 mv 74 6,
 mv 75 0,
 op 76 (.nck (.t 75)),
 op 77 (.off 0 (.t 76)),
 op 78 (.ld false none (.t 77)),
 op 79 (.bin .quo (.t 78) (.c (.i 8))),
 op 80 (.slv 1 (.t 74) none (some (.t 79))),
 op 81 (.b2s false (.t 80)),
 mv 2 81] [2]) (
 .ret)))))))))))
def m_sha256_Hash_Sum : MFn := ⟨c_sha256_Hash_Sum, [.tmp 2], 3⟩

/-- math/bits.Div64 -/
def c_bits_Div64 : Stm :=
 .seq (
 .reg [
 op 6 (.mov (.c (.u 64 0))),
 op 7 (.mov (.c (.u 64 0)))] [0, 1, 2]) (
 .seq (
 .seq (
 .reg [
 mv 19 2,
 op 20 (.bin .eql (.t 19) (.c (.u 64 0)))] [0, 1, 2, 20]) (
 .cond (.t 20) (
 .reg [
 op 21 (.fail),
 ⟨none, none, .fail⟩] [0, 1, 2]) (
 .reg [] [0, 1, 2]))) (
 .seq (
 .seq (
 .reg [
 mv 22 2,
 mv 23 0,
 op 24 (.bin .leq (.t 22) (.t 23))] [0, 1, 2, 24]) (
 .cond (.t 24) (
 .reg [
 op 25 (.fail),
 ⟨none, none, .fail⟩] [0, 1, 2]) (
 .reg [] [0, 1, 2]))) (
 .seq (
 .seq (
 .reg [
 mv 26 0,
 op 27 (.bin .eql (.t 26) (.c (.u 64 0)))] [0, 1, 2, 27]) (
 .cond (.t 27) (
 .seq (
 .reg [
 mv 28 1,
 mv 29 2,
 op 30 (.bin .quo (.t 28) (.t 29)),
 mv 31 1,
 mv 32 2,
 op 33 (.bin .rem (.t 31) (.t 32)),
 mv 6 30,
 mv 7 33] [6, 7]) (
 .ret)) (
 .reg [] [0, 1, 2]))) (
 .seq (
 .reg [
 mv 34 2,
 op 35 (.call f_bits_LeadingZeros64 [] [(.t 34)]),
 op 36 (.cvu 64 (.t 35)),
 mv 8 36] [0, 1, 2, 8]) (
 .seq (
 .reg [
 mv 37 2,
 mv 38 8,
 op 39 (.bin .shl (.t 37) (.t 38)),
 mv 2 39] [0, 1, 2, 8]) (
 .seq (
 .reg [
 mv 40 2,
 op 41 (.bin .shr (.t 40) (.c (.u 64 32))),
 mv 9 41] [0, 1, 2, 8, 9]) (
 .seq (
 .reg [
 mv 42 2,
 op 43 (.bin .and (.t 42) (.c (.u 64 4294967295))),
 mv 10 43] [0, 1, 2, 8, 9, 10]) (
 .seq (
 .reg [
 mv 44 0,
 mv 45 8,
 op 46 (.bin .shl (.t 44) (.t 45)),
 mv 47 1,
 mv 48 8,
 op 49 (.bin .sub (.c (.u 64 64)) (.t 48)),
 op 50 (.bin .shr (.t 47) (.t 49)),
 op 51 (.bin .or (.t 46) (.t 50)),
 mv 11 51] [1, 2, 8, 9, 10, 11]) (
 .seq (
 .reg [
 mv 52 1,
 mv 53 8,
 op 54 (.bin .shl (.t 52) (.t 53)),
 mv 12 54] [2, 8, 9, 10, 11, 12]) (
 .seq (
 .reg [
 mv 55 12,
 op 56 (.bin .shr (.t 55) (.c (.u 64 32))),
 mv 13 56] [2, 8, 9, 10, 11, 12, 13]) (
 .seq (
 .reg [
 mv 57 12,
 op 58 (.bin .and (.t 57) (.c (.u 64 4294967295))),
 mv 14 58] [2, 8, 9, 10, 11, 13, 14]) (
 .seq (
 .reg [
 mv 59 11,
 mv 60 9,
 op 61 (.bin .quo (.t 59) (.t 60)),
 mv 15 61] [2, 8, 9, 10, 11, 13, 14, 15]) (
 .seq (
 .reg [
 mv 62 11,
 mv 63 15,
 mv 64 9,
 op 65 (.bin .mul (.t 63) (.t 64)),
 op 66 (.bin .sub (.t 62) (.t 65)),
 mv 16 66] [2, 8, 9, 10, 11, 13, 14, 15, 16]) (
 .seq (
 .block 0 (
 .loop [2, 8, 9, 10, 11, 13, 14, 15, 16] (
 .seq (
 .seq (
 .reg [
 mv 67 15,
 op 68 (.bin .geq (.t 67) (.c (.u 64 4294967296))),
 mv 69 68,
 ⟨some 70, (some (69, false)), .mov (.t 15)⟩,
 ⟨some 71, (some (69, false)), .mov (.t 10)⟩,
 ⟨some 72, (some (69, false)), .bin .mul (.t 70) (.t 71)⟩,
 ⟨some 73, (some (69, false)), .mov (.t 16)⟩,
 ⟨some 74, (some (69, false)), .bin .mul (.c (.u 64 4294967296)) (.t 73)⟩,
 ⟨some 75, (some (69, false)), .mov (.t 13)⟩,
 ⟨some 76, (some (69, false)), .bin .add (.t 74) (.t 75)⟩,
 ⟨some 77, (some (69, false)), .bin .gtr (.t 72) (.t 76)⟩,
 op 78 (.pick (.t 69) (.c (.b true)) (.t 77))] [2, 8, 9, 10, 11, 13, 14, 15, 16, 78]) (
 .cond (.t 78) (
 .reg [] [2, 8, 9, 10, 11, 13, 14, 15, 16]) (
 .exit 0 [2, 8, 9, 10, 11, 13, 14, 15]))) (
 .block 1 (
 .seq (
 .reg [
 mv 79 15,
 op 80 (.bin .sub (.t 79) (.c (.u 64 1))),
 mv 15 80] [2, 8, 9, 10, 11, 13, 14, 15, 16]) (
 .seq (
 .reg [
 mv 81 16,
 mv 82 9,
 op 83 (.bin .add (.t 81) (.t 82)),
 mv 16 83] [2, 8, 9, 10, 11, 13, 14, 15, 16]) (
 .seq (
 .reg [
 mv 84 16,
 op 85 (.bin .geq (.t 84) (.c (.u 64 4294967296)))] [2, 8, 9, 10, 11, 13, 14, 15, 16, 85]) (
 .cond (.t 85) (
 .exit 0 [2, 8, 9, 10, 11, 13, 14, 15]) (
 .reg [] [2, 8, 9, 10, 11, 13, 14, 15, 16]))))))))) (
 .seq (
 .reg [
 mv 86 11,
 op 87 (.bin .mul (.t 86) (.c (.u 64 4294967296))),
 mv 88 13,
 op 89 (.bin .add (.t 87) (.t 88)),
 mv 90 15,
 mv 91 2,
 op 92 (.bin .mul (.t 90) (.t 91)),
 op 93 (.bin .sub (.t 89) (.t 92)),
 mv 17 93] [2, 8, 9, 10, 14, 15, 17]) (
 .seq (
 .reg [
 mv 94 17,
 mv 95 9,
 op 96 (.bin .quo (.t 94) (.t 95)),
 mv 18 96] [2, 8, 9, 10, 14, 15, 17, 18]) (
 .seq (
 .reg [
 mv 97 17,
 mv 98 18,
 mv 99 9,
 op 100 (.bin .mul (.t 98) (.t 99)),
 op 101 (.bin .sub (.t 97) (.t 100)),
 mv 16 101] [2, 8, 9, 10, 14, 15, 16, 17, 18]) (
 .seq (
 .block 2 (
 .loop [2, 8, 9, 10, 14, 15, 16, 17, 18] (
 .seq (
 .seq (
 .reg [
 mv 102 18,
 op 103 (.bin .geq (.t 102) (.c (.u 64 4294967296))),
 mv 104 103,
 ⟨some 105, (some (104, false)), .mov (.t 18)⟩,
 ⟨some 106, (some (104, false)), .mov (.t 10)⟩,
 ⟨some 107, (some (104, false)), .bin .mul (.t 105) (.t 106)⟩,
 ⟨some 108, (some (104, false)), .mov (.t 16)⟩,
 ⟨some 109, (some (104, false)), .bin .mul (.c (.u 64 4294967296)) (.t 108)⟩,
 ⟨some 110, (some (104, false)), .mov (.t 14)⟩,
 ⟨some 111, (some (104, false)), .bin .add (.t 109) (.t 110)⟩,
 ⟨some 112, (some (104, false)), .bin .gtr (.t 107) (.t 111)⟩,
 op 113 (.pick (.t 104) (.c (.b true)) (.t 112))] [2, 8, 9, 10, 14, 15, 16, 17, 18, 113]) (
 .cond (.t 113) (
 .reg [] [2, 8, 9, 10, 14, 15, 16, 17, 18]) (
 .exit 2 [2, 8, 14, 15, 17, 18]))) (
 .block 3 (
 .seq (
 .reg [
 mv 114 18,
 op 115 (.bin .sub (.t 114) (.c (.u 64 1))),
 mv 18 115] [2, 8, 9, 10, 14, 15, 16, 17, 18]) (
 .seq (
 .reg [
 mv 116 16,
 mv 117 9,
 op 118 (.bin .add (.t 116) (.t 117)),
 mv 16 118] [2, 8, 9, 10, 14, 15, 16, 17, 18]) (
 .seq (
 .reg [
 mv 119 16,
 op 120 (.bin .geq (.t 119) (.c (.u 64 4294967296)))] [2, 8, 9, 10, 14, 15, 16, 17, 18, 120]) (
 .cond (.t 120) (
 .exit 2 [2, 8, 14, 15, 17, 18]) (
 .reg [] [2, 8, 9, 10, 14, 15, 16, 17, 18]))))))))) (
 .seq (
 .reg [
 mv 121 15,
 op 122 (.bin .mul (.t 121) (.c (.u 64 4294967296))),
 mv 123 18,
 op 124 (.bin .add (.t 122) (.t 123)),
 mv 125 17,
 op 126 (.bin .mul (.t 125) (.c (.u 64 4294967296))),
 mv 127 14,
 op 128 (.bin .add (.t 126) (.t 127)),
 mv 129 18,
 mv 130 2,
 op 131 (.bin .mul (.t 129) (.t 130)),
 op 132 (.bin .sub (.t 128) (.t 131)),
 mv 133 8,
 op 134 (.bin .shr (.t 132) (.t 133)),
 mv 6 124,
 mv 7 134] [6, 7]) (
 .ret))))))))))))))))))))
def m_bits_Div64 : MFn := ⟨c_bits_Div64, [.tmp 6, .tmp 7], 0⟩

/-- curvet/mask.Zero -/
def c_mask_Zero : Stm :=
 .seq (
 .reg [
 op 2 (.mov (.c (.u 64 0)))] [0]) (
 .seq (
 .reg [
 mv 3 0,
 mv 4 0,
 op 5 (.un .neg (.t 4)),
 op 6 (.bin .or (.t 3) (.t 5)),
 op 7 (.un .xor (.t 6)),
 op 8 (.bin .shr (.t 7) (.c (.u 64 63))),
 op 9 (.call f_mask_spread [] [(.t 8)]),
 mv 2 9] [2]) (
 .ret))
def m_mask_Zero : MFn := ⟨c_mask_Zero, [.tmp 2], 0⟩

/-- curvet/mask.nat -/
def c_mask_nat : Stm :=
 .seq (
 .reg [
 op 4 (.box (.t 1)),
 op 5 (.boxv (.t 2)),
 op 6 (.box (.c (.agg z9)))] [0, 4, 5, 6]) (
 .seq (
 .seq (
 .reg [
 op 8 (.mov (.c (.i 0)))] [0, 4, 5, 6, 8]) (
 .block 0 (
 .loop [0, 4, 5, 6, 8] (
 .seq (
 .reg [
 op 9 (.bin .lss (.t 8) (.c (.i 9)))] [0, 4, 5, 6, 8, 9]) (
 .seq (
 .cond (.t 9) (
 .reg [] [0, 4, 5, 6, 8]) (
 .exit 0 [4, 6])) (
 .seq (
 .block 1 (
 .seq (
 .reg [
 mv 10 8,
 mv 7 10] [0, 4, 5, 6, 7, 8]) (
 .reg [
 mv 11 7,
 mv 12 0,
 mv 13 7,
 op 14 (.off 0 (.t 4)),
 op 15 (.idx 9 1 (.t 14) (.t 13)),
 op 16 (.ldl 4 none (.t 15)),
 mv 17 7,
 op 18 (.off 0 (.t 5)),
 op 19 (.idx 9 1 (.t 18) (.t 17)),
 op 20 (.ld true none (.t 19)),
 op 21 (.cal (.t 12) [(.t 16), (.t 20)]),
 op 22 (.off 0 (.t 4)),
 op 23 (.idx 9 1 (.t 22) (.t 11)),
 ⟨none, none, .stl 4 1 (.t 23) (.t 21)⟩] [0, 4, 5, 6, 8]))) (
 .reg [
 op 24 (.bin .add (.t 8) (.c (.i 1))),
 mv 8 24] [0, 4, 5, 6, 8]))))))) (
 .seq (
 .reg [
 op 25 (.ldl 4 (some 9) (.t 4)),
 ⟨none, none, .stl 6 9 (.t 6) (.t 25)⟩] [6]) (
 .ret)))
def m_mask_nat : MFn := ⟨c_mask_nat, [.cell 6 (some 9)], 0⟩

/-- (curvet/mask.chooser).word -/
def c_mask_chooser_word : Stm :=
 .seq (
 .reg [
 op 3 (.boxv (.t 0)),
 op 6 (.mov (.c (.u 64 0)))] [1, 2, 3]) (
 .seq (
 .reg [
 mv 7 1,
 op 8 (.off 0 (.t 3)),
 op 9 (.ld true none (.t 8)),
 op 10 (.bin .and (.t 7) (.t 9)),
 mv 11 2,
 op 12 (.off 0 (.t 3)),
 op 13 (.ld true none (.t 12)),
 op 14 (.bin .andNot (.t 11) (.t 13)),
 op 15 (.bin .or (.t 10) (.t 14)),
 mv 6 15] [6]) (
 .ret))
def m_mask_chooser_word : MFn := ⟨c_mask_chooser_word, [.tmp 6], 0⟩

/-- curvet/sha256.beginning -/
def c_sha256_beginning : Stm :=
 .seq (
 .reg [
 op 2 (.box (.c (.agg [.u 32 0, .u 32 0, .u 32 0, .u 32 0, .u 32 0, .u 32 0, .u 32 0, .u 32 0]))),
 op 3 (.mov (.c (.b false)))] [0, 2]) (
 .seq (
 .seq (
 .reg [
 mv 4 0] [2, 4]) (
 .block 0 (
 .seq (
 .reg [
 op 6 (.bin .eql (.t 4) (.c (.i 224))),
 mv 5 6] [2, 4, 5]) (
 .cond (.t 5) (
 .seq (
 .reg [
 op 7 (.build [.u 32 0, .u 32 0, .u 32 0, .u 32 0, .u 32 0, .u 32 0, .u 32 0, .u 32 0] [(0, 1, (.c (.u 32 3238371032))), (1, 1, (.c (.u 32 914150663))), (2, 1, (.c (.u 32 812702999))), (3, 1, (.c (.u 32 4144912697))), (4, 1, (.c (.u 32 4290775857))), (5, 1, (.c (.u 32 1750603025))), (6, 1, (.c (.u 32 1694076839))), (7, 1, (.c (.u 32 3204075428)))]),
 ⟨none, none, .stl 2 8 (.t 2) (.t 7)⟩,
 op 3 (.mov (.c (.b true)))] [2, 3]) (
 .ret)) (
 .seq (
 .reg [
 op 9 (.bin .eql (.t 4) (.c (.i 256))),
 mv 8 9] [2, 8]) (
 .cond (.t 8) (
 .seq (
 .reg [
 op 10 (.build [.u 32 0, .u 32 0, .u 32 0, .u 32 0, .u 32 0, .u 32 0, .u 32 0, .u 32 0] [(0, 1, (.c (.u 32 1779033703))), (1, 1, (.c (.u 32 3144134277))), (2, 1, (.c (.u 32 1013904242))), (3, 1, (.c (.u 32 2773480762))), (4, 1, (.c (.u 32 1359893119))), (5, 1, (.c (.u 32 2600822924))), (6, 1, (.c (.u 32 528734635))), (7, 1, (.c (.u 32 1541459225)))]),
 ⟨none, none, .stl 2 8 (.t 2) (.t 10)⟩,
 op 3 (.mov (.c (.b true)))] [2, 3]) (
 .ret)) (
 .reg [] [2]))))))) (
 .seq (
 .reg [
 op 11 (.build [.u 32 0, .u 32 0, .u 32 0, .u 32 0, .u 32 0, .u 32 0, .u 32 0, .u 32 0] []),
 ⟨none, none, .stl 2 8 (.t 2) (.t 11)⟩,
 op 3 (.mov (.c (.b false)))] [2, 3]) (
 .ret)))
def m_sha256_beginning : MFn := ⟨c_sha256_beginning, [.cell 2 (some 8), .tmp 3], 0⟩

/-- curvet/sha256.constants -/
def c_sha256_constants : Stm :=
 .seq (
 .reg [
 op 0 (.box (.c (.agg [.u 32 0, .u 32 0, .u 32 0, .u 32 0, .u 32 0, .u 32 0, .u 32 0, .u 32 0, .u 32 0, .u 32 0, .u 32 0, .u 32 0, .u 32 0, .u 32 0, .u 32 0, .u 32 0, .u 32 0, .u 32 0, .u 32 0, .u 32 0, .u 32 0, .u 32 0, .u 32 0, .u 32 0, .u 32 0, .u 32 0, .u 32 0, .u 32 0, .u 32 0, .u 32 0, .u 32 0, .u 32 0, .u 32 0, .u 32 0, .u 32 0, .u 32 0, .u 32 0, .u 32 0, .u 32 0, .u 32 0, .u 32 0, .u 32 0, .u 32 0, .u 32 0, .u 32 0, .u 32 0, .u 32 0, .u 32 0, .u 32 0, .u 32 0, .u 32 0, .u 32 0, .u 32 0, .u 32 0, .u 32 0, .u 32 0, .u 32 0, .u 32 0, .u 32 0, .u 32 0, .u 32 0, .u 32 0, .u 32 0, .u 32 0])))] [0]) (
 .seq (
 .reg [
 op 1 (.build [.u 32 0, .u 32 0, .u 32 0, .u 32 0, .u 32 0, .u 32 0, .u 32 0, .u 32 0, .u 32 0, .u 32 0, .u 32 0, .u 32 0, .u 32 0, .u 32 0, .u 32 0, .u 32 0, .u 32 0, .u 32 0, .u 32 0, .u 32 0, .u 32 0, .u 32 0, .u 32 0, .u 32 0, .u 32 0, .u 32 0, .u 32 0, .u 32 0, .u 32 0, .u 32 0, .u 32 0, .u 32 0, .u 32 0, .u 32 0, .u 32 0, .u 32 0, .u 32 0, .u 32 0, .u 32 0, .u 32 0, .u 32 0, .u 32 0, .u 32 0, .u 32 0, .u 32 0, .u 32 0, .u 32 0, .u 32 0, .u 32 0, .u 32 0, .u 32 0, .u 32 0, .u 32 0, .u 32 0, .u 32 0, .u 32 0, .u 32 0, .u 32 0, .u 32 0, .u 32 0, .u 32 0, .u 32 0, .u 32 0, .u 32 0] [(0, 1, (.c (.u 32 1116352408))), (1, 1, (.c (.u 32 1899447441))), (2, 1, (.c (.u 32 3049323471))), (3, 1, (.c (.u 32 3921009573))), (4, 1, (.c (.u 32 961987163))), (5, 1, (.c (.u 32 1508970993))), (6, 1, (.c (.u 32 2453635748))), (7, 1, (.c (.u 32 2870763221))), (8, 1, (.c (.u 32 3624381080))), (9, 1, (.c (.u 32 310598401))), (10, 1, (.c (.u 32 607225278))), (11, 1, (.c (.u 32 1426881987))), (12, 1, (.c (.u 32 1925078388))), (13, 1, (.c (.u 32 2162078206))), (14, 1, (.c (.u 32 2614888103))), (15, 1, (.c (.u 32 3248222580))), (16, 1, (.c (.u 32 3835390401))), (17, 1, (.c (.u 32 4022224774))), (18, 1, (.c (.u 32 264347078))), (19, 1, (.c (.u 32 604807628))), (20, 1, (.c (.u 32 770255983))), (21, 1, (.c (.u 32 1249150122))), (22, 1, (.c (.u 32 1555081692))), (23, 1, (.c (.u 32 1996064986))), (24, 1, (.c (.u 32 2554220882))), (25, 1, (.c (.u 32 2821834349))), (26, 1, (.c (.u 32 2952996808))), (27, 1, (.c (.u 32 3210313671))), (28, 1, (.c (.u 32 3336571891))), (29, 1, (.c (.u 32 3584528711))), (30, 1, (.c (.u 32 113926993))), (31, 1, (.c (.u 32 338241895))), (32, 1, (.c (.u 32 666307205))), (33, 1, (.c (.u 32 773529912))), (34, 1, (.c (.u 32 1294757372))), (35, 1, (.c (.u 32 1396182291))), (36, 1, (.c (.u 32 1695183700))), (37, 1, (.c (.u 32 1986661051))), (38, 1, (.c (.u 32 2177026350))), (39, 1, (.c (.u 32 2456956037))), (40, 1, (.c (.u 32 2730485921))), (41, 1, (.c (.u 32 2820302411))), (42, 1, (.c (.u 32 3259730800))), (43, 1, (.c (.u 32 3345764771))), (44, 1, (.c (.u 32 3516065817))), (45, 1, (.c (.u 32 3600352804))), (46, 1, (.c (.u 32 4094571909))), (47, 1, (.c (.u 32 275423344))), (48, 1, (.c (.u 32 430227734))), (49, 1, (.c (.u 32 506948616))), (50, 1, (.c (.u 32 659060556))), (51, 1, (.c (.u 32 883997877))), (52, 1, (.c (.u 32 958139571))), (53, 1, (.c (.u 32 1322822218))), (54, 1, (.c (.u 32 1537002063))), (55, 1, (.c (.u 32 1747873779))), (56, 1, (.c (.u 32 1955562222))), (57, 1, (.c (.u 32 2024104815))), (58, 1, (.c (.u 32 2227730452))), (59, 1, (.c (.u 32 2361852424))), (60, 1, (.c (.u 32 2428436474))), (61, 1, (.c (.u 32 2756734187))), (62, 1, (.c (.u 32 3204031479))), (63, 1, (.c (.u 32 3329325298)))]),
 ⟨none, none, .stl 0 64 (.t 0) (.t 1)⟩] [0]) (
 .ret))
def m_sha256_constants : MFn := ⟨c_sha256_constants, [.cell 0 (some 64)], 0⟩

/-- curvet/hash.bind[*curvet/sha256.Hash]$1 -/
def c_hash_bind_sha256_Hash_1 : Stm :=
 .seq (
 .reg [
 op 4 (.mov (.c (.i 0)))] [0, 1, 2]) (
 .seq (
 .reg [
 op 5 (.ld false none (.t 1)),
 op 6 (.ld false none (.t 2)),
 mv 7 0,
 op 8 (.cal (.t 5) [(.t 6), (.t 7)]),
 mv 4 8] [4]) (
 .ret))
def m_hash_bind_sha256_Hash_1 : MFn := ⟨c_hash_bind_sha256_Hash_1, [.tmp 4], 3⟩

/-- curvet/hash.bind[*curvet/sha256.Hash]$2 -/
def c_hash_bind_sha256_Hash_2 : Stm :=
 .seq (
 .reg [
 op 2 (.mov (.c (.s [])))] [0, 1]) (
 .seq (
 .reg [
 op 3 (.ld false none (.t 0)),
 op 4 (.ld false none (.t 1)),
 op 5 (.cal (.t 3) [(.t 4)]),
 mv 2 5] [2]) (
 .ret))
def m_hash_bind_sha256_Hash_2 : MFn := ⟨c_hash_bind_sha256_Hash_2, [.tmp 2], 3⟩

/-- curvet/sha256.blocks -/
def c_sha256_blocks : Stm :=
 .seq (
 .reg [
 op 4 (.mov (.c (.vs 0 [])))] [0, 1]) (
 .seq (
 .block 0 (
 .loop [0, 1] (
 .seq (
 .seq (
 .reg [
 mv 5 1,
 op 6 (.len (.t 5)),
 op 7 (.bin .geq (.t 6) (.c (.i 64)))] [0, 1, 7]) (
 .cond (.t 7) (
 .reg [] [0, 1]) (
 .exit 0 [1]))) (
 .seq (
 .block 1 (
 .reg [
 mv 10 0,
 mv 11 1,
 op 12 (.slv 1 (.t 11) none (some (.c (.i 64)))),
 op 13 (.cal (.t 10) [(.t 12)])] [0, 1])) (
 .reg [
 mv 8 1,
 op 9 (.slv 1 (.t 8) (some (.c (.i 64))) none),
 mv 1 9] [0, 1]))))) (
 .seq (
 .reg [
 mv 14 1,
 mv 4 14] [4]) (
 .ret)))
def m_sha256_blocks : MFn := ⟨c_sha256_blocks, [.tmp 4], 3⟩

/-- (*curvet/sha256.Hash).turn -/
def c_sha256_Hash_turn : Stm :=
 .seq (
 .reg [
 mv 13 1,
 op 14 (.callo f_sha256_schedule [(.t 13)]),
 op 4 (.box (.c (.agg [.u 32 0, .u 32 0, .u 32 0, .u 32 0, .u 32 0, .u 32 0, .u 32 0, .u 32 0, .u 32 0, .u 32 0, .u 32 0, .u 32 0, .u 32 0, .u 32 0, .u 32 0, .u 32 0, .u 32 0, .u 32 0, .u 32 0, .u 32 0, .u 32 0, .u 32 0, .u 32 0, .u 32 0, .u 32 0, .u 32 0, .u 32 0, .u 32 0, .u 32 0, .u 32 0, .u 32 0, .u 32 0, .u 32 0, .u 32 0, .u 32 0, .u 32 0, .u 32 0, .u 32 0, .u 32 0, .u 32 0, .u 32 0, .u 32 0, .u 32 0, .u 32 0, .u 32 0, .u 32 0, .u 32 0, .u 32 0, .u 32 0, .u 32 0, .u 32 0, .u 32 0, .u 32 0, .u 32 0, .u 32 0, .u 32 0, .u 32 0, .u 32 0, .u 32 0, .u 32 0, .u 32 0, .u 32 0, .u 32 0, .u 32 0]))),
 ⟨none, none, .stl 4 64 (.t 4) (.t 14)⟩] [0, 4]) (
 .seq (
 .reg [
 mv 15 0,
 op 16 (.nck (.t 15)),
 op 17 (.off 1 (.t 16)),
 op 18 (.ld false (some 8) (.t 17)),
 op 5 (.box (.c (.agg [.u 32 0, .u 32 0, .u 32 0, .u 32 0, .u 32 0, .u 32 0, .u 32 0, .u 32 0]))),
 ⟨none, none, .stl 5 8 (.t 5) (.t 18)⟩] [0, 4, 5]) (
 .seq (
 .seq (
 .reg [
 op 19 (.mov (.c (.i 0)))] [0, 4, 5, 19]) (
 .block 0 (
 .loop [0, 4, 5, 19] (
 .seq (
 .reg [
 op 20 (.bin .lss (.t 19) (.c (.i 64)))] [0, 4, 5, 19, 20]) (
 .seq (
 .cond (.t 20) (
 .reg [] [0, 4, 5, 19]) (
 .exit 0 [0, 5])) (
 .seq (
 .block 1 (
 .seq (
 .reg [
 mv 21 19,
 mv 6 21] [0, 4, 5, 6, 19]) (
 .seq (
 .reg [
 op 22 (.idx 8 1 (.t 5) (.c (.i 4))),
 op 23 (.ldl 5 none (.t 22)),
 op 24 (.call f_sha256_rotate [] [(.t 23), (.c (.i 6))]),
 op 25 (.idx 8 1 (.t 5) (.c (.i 4))),
 op 26 (.ldl 5 none (.t 25)),
 op 27 (.call f_sha256_rotate [] [(.t 26), (.c (.i 11))]),
 op 28 (.bin .xor (.t 24) (.t 27)),
 op 29 (.idx 8 1 (.t 5) (.c (.i 4))),
 op 30 (.ldl 5 none (.t 29)),
 op 31 (.call f_sha256_rotate [] [(.t 30), (.c (.i 25))]),
 op 32 (.bin .xor (.t 28) (.t 31)),
 mv 7 32] [0, 4, 5, 6, 7, 19]) (
 .seq (
 .reg [
 op 33 (.idx 8 1 (.t 5) (.c (.i 4))),
 op 34 (.ldl 5 none (.t 33)),
 op 35 (.idx 8 1 (.t 5) (.c (.i 5))),
 op 36 (.ldl 5 none (.t 35)),
 op 37 (.bin .and (.t 34) (.t 36)),
 op 38 (.idx 8 1 (.t 5) (.c (.i 4))),
 op 39 (.ldl 5 none (.t 38)),
 op 40 (.un .xor (.t 39)),
 op 41 (.idx 8 1 (.t 5) (.c (.i 6))),
 op 42 (.ldl 5 none (.t 41)),
 op 43 (.bin .and (.t 40) (.t 42)),
 op 44 (.bin .xor (.t 37) (.t 43)),
 mv 8 44] [0, 4, 5, 6, 7, 8, 19]) (
 .seq (
 .reg [
 op 45 (.idx 8 1 (.t 5) (.c (.i 7))),
 op 46 (.ldl 5 none (.t 45)),
 mv 47 7,
 op 48 (.bin .add (.t 46) (.t 47)),
 mv 49 8,
 op 50 (.bin .add (.t 48) (.t 49)),
 mv 51 0,
 mv 52 6,
 op 53 (.nck (.t 51)),
 op 54 (.off 9 (.t 53)),
 op 55 (.idx 64 1 (.t 54) (.t 52)),
 op 56 (.ld false none (.t 55)),
 op 57 (.bin .add (.t 50) (.t 56)),
 mv 58 6,
 op 59 (.idx 64 1 (.t 4) (.t 58)),
 op 60 (.ldl 4 none (.t 59)),
 op 61 (.bin .add (.t 57) (.t 60)),
 mv 9 61] [0, 4, 5, 9, 19]) (
 .seq (
 .reg [
 op 62 (.idx 8 1 (.t 5) (.c (.i 0))),
 op 63 (.ldl 5 none (.t 62)),
 op 64 (.call f_sha256_rotate [] [(.t 63), (.c (.i 2))]),
 op 65 (.idx 8 1 (.t 5) (.c (.i 0))),
 op 66 (.ldl 5 none (.t 65)),
 op 67 (.call f_sha256_rotate [] [(.t 66), (.c (.i 13))]),
 op 68 (.bin .xor (.t 64) (.t 67)),
 op 69 (.idx 8 1 (.t 5) (.c (.i 0))),
 op 70 (.ldl 5 none (.t 69)),
 op 71 (.call f_sha256_rotate [] [(.t 70), (.c (.i 22))]),
 op 72 (.bin .xor (.t 68) (.t 71)),
 mv 10 72] [0, 4, 5, 9, 10, 19]) (
 .seq (
 .reg [
 op 73 (.idx 8 1 (.t 5) (.c (.i 0))),
 op 74 (.ldl 5 none (.t 73)),
 op 75 (.idx 8 1 (.t 5) (.c (.i 1))),
 op 76 (.ldl 5 none (.t 75)),
 op 77 (.bin .and (.t 74) (.t 76)),
 op 78 (.idx 8 1 (.t 5) (.c (.i 0))),
 op 79 (.ldl 5 none (.t 78)),
 op 80 (.idx 8 1 (.t 5) (.c (.i 2))),
 op 81 (.ldl 5 none (.t 80)),
 op 82 (.bin .and (.t 79) (.t 81)),
 op 83 (.bin .xor (.t 77) (.t 82)),
 op 84 (.idx 8 1 (.t 5) (.c (.i 1))),
 op 85 (.ldl 5 none (.t 84)),
 op 86 (.idx 8 1 (.t 5) (.c (.i 2))),
 op 87 (.ldl 5 none (.t 86)),
 op 88 (.bin .and (.t 85) (.t 87)),
 op 89 (.bin .xor (.t 83) (.t 88)),
 mv 11 89] [0, 4, 5, 9, 10, 11, 19]) (
 .reg [
 mv 90 9,
 mv 91 10,
 op 92 (.bin .add (.t 90) (.t 91)),
 mv 93 11,
 op 94 (.bin .add (.t 92) (.t 93)),
 op 95 (.idx 8 1 (.t 5) (.c (.i 0))),
 op 96 (.ldl 5 none (.t 95)),
 op 97 (.idx 8 1 (.t 5) (.c (.i 1))),
 op 98 (.ldl 5 none (.t 97)),
 op 99 (.idx 8 1 (.t 5) (.c (.i 2))),
 op 100 (.ldl 5 none (.t 99)),
 op 101 (.idx 8 1 (.t 5) (.c (.i 3))),
 op 102 (.ldl 5 none (.t 101)),
 mv 103 9,
 op 104 (.bin .add (.t 102) (.t 103)),
 op 105 (.idx 8 1 (.t 5) (.c (.i 4))),
 op 106 (.ldl 5 none (.t 105)),
 op 107 (.idx 8 1 (.t 5) (.c (.i 5))),
 op 108 (.ldl 5 none (.t 107)),
 op 109 (.idx 8 1 (.t 5) (.c (.i 6))),
 op 110 (.ldl 5 none (.t 109)),
 op 111 (.build [.u 32 0, .u 32 0, .u 32 0, .u 32 0, .u 32 0, .u 32 0, .u 32 0, .u 32 0] [(0, 1, (.t 94)), (1, 1, (.t 96)), (2, 1, (.t 98)), (3, 1, (.t 100)), (4, 1, (.t 104)), (5, 1, (.t 106)), (6, 1, (.t 108)), (7, 1, (.t 110))]),
 ⟨none, none, .stl 5 8 (.t 5) (.t 111)⟩] [0, 4, 5, 19])))))))) (
 .reg [
 op 112 (.bin .add (.t 19) (.c (.i 1))),
 mv 19 112] [0, 4, 5, 19]))))))) (
 .seq (
 .reg [
 op 113 (.mov (.c (.i 0)))] [0, 5, 113]) (
 .block 2 (
 .loop [0, 5, 113] (
 .seq (
 .reg [
 op 114 (.bin .lss (.t 113) (.c (.i 8)))] [0, 5, 113, 114]) (
 .seq (
 .cond (.t 114) (
 .reg [] [0, 5, 113]) (
 .exit 2 [])) (
 .seq (
 .block 3 (
 .seq (
 .reg [
 mv 115 113,
 mv 12 115] [0, 5, 12, 113]) (
 .reg [
 mv 116 0,
 mv 117 12,
 op 118 (.nck (.t 116)),
 op 119 (.off 1 (.t 118)),
 op 120 (.idx 8 1 (.t 119) (.t 117)),
 op 121 (.ld false none (.t 120)),
 mv 122 12,
 op 123 (.idx 8 1 (.t 5) (.t 122)),
 op 124 (.ldl 5 none (.t 123)),
 op 125 (.bin .add (.t 121) (.t 124)),
 op 126 (.nck (.t 116)),
 op 127 (.off 1 (.t 126)),
 op 128 (.idx 8 1 (.t 127) (.t 117)),
 ⟨none, none, .st 1 (.t 128) (.t 125)⟩] [0, 5, 113]))) (
 .reg [
 op 129 (.bin .add (.t 113) (.c (.i 1))),
 mv 113 129] [0, 5, 113])))))))))
def m_sha256_Hash_turn : MFn := ⟨c_sha256_Hash_turn, [], 3⟩

/-- curvet/mask.spread -/
def c_mask_spread : Stm :=
 .seq (
 .reg [
 op 2 (.mov (.c (.u 64 0)))] [0]) (
 .seq (
 .reg [
 mv 3 0,
 op 4 (.bin .and (.t 3) (.c (.u 64 1))),
 op 5 (.un .neg (.t 4)),
 mv 2 5] [2]) (
 .ret))
def m_mask_spread : MFn := ⟨c_mask_spread, [.tmp 2], 0⟩

/-- curvet/sha256.schedule -/
def c_sha256_schedule : Stm :=
 .seq (
 .reg [
 op 2 (.box (.c (.agg [.u 32 0, .u 32 0, .u 32 0, .u 32 0, .u 32 0, .u 32 0, .u 32 0, .u 32 0, .u 32 0, .u 32 0, .u 32 0, .u 32 0, .u 32 0, .u 32 0, .u 32 0, .u 32 0, .u 32 0, .u 32 0, .u 32 0, .u 32 0, .u 32 0, .u 32 0, .u 32 0, .u 32 0, .u 32 0, .u 32 0, .u 32 0, .u 32 0, .u 32 0, .u 32 0, .u 32 0, .u 32 0, .u 32 0, .u 32 0, .u 32 0, .u 32 0, .u 32 0, .u 32 0, .u 32 0, .u 32 0, .u 32 0, .u 32 0, .u 32 0, .u 32 0, .u 32 0, .u 32 0, .u 32 0, .u 32 0, .u 32 0, .u 32 0, .u 32 0, .u 32 0, .u 32 0, .u 32 0, .u 32 0, .u 32 0, .u 32 0, .u 32 0, .u 32 0, .u 32 0, .u 32 0, .u 32 0, .u 32 0, .u 32 0])))] [0, 2]) (
 .seq (
 .reg [
 op 3 (.box (.c (.agg [.u 32 0, .u 32 0, .u 32 0, .u 32 0, .u 32 0, .u 32 0, .u 32 0, .u 32 0, .u 32 0, .u 32 0, .u 32 0, .u 32 0, .u 32 0, .u 32 0, .u 32 0, .u 32 0, .u 32 0, .u 32 0, .u 32 0, .u 32 0, .u 32 0, .u 32 0, .u 32 0, .u 32 0, .u 32 0, .u 32 0, .u 32 0, .u 32 0, .u 32 0, .u 32 0, .u 32 0, .u 32 0, .u 32 0, .u 32 0, .u 32 0, .u 32 0, .u 32 0, .u 32 0, .u 32 0, .u 32 0, .u 32 0, .u 32 0, .u 32 0, .u 32 0, .u 32 0, .u 32 0, .u 32 0, .u 32 0, .u 32 0, .u 32 0, .u 32 0, .u 32 0, .u 32 0, .u 32 0, .u 32 0, .u 32 0, .u 32 0, .u 32 0, .u 32 0, .u 32 0, .u 32 0, .u 32 0, .u 32 0, .u 32 0])))] [0, 2, 3]) (
 .seq (
 .seq (
 .reg [
 op 11 (.mov (.c (.i 0)))] [0, 2, 3, 11]) (
 .block 0 (
 .loop [0, 2, 3, 11] (
 .seq (
 .reg [
 op 12 (.bin .lss (.t 11) (.c (.i 16)))] [0, 2, 3, 11, 12]) (
 .seq (
 .cond (.t 12) (
 .reg [] [0, 2, 3, 11]) (
 .exit 0 [2, 3])) (
 .seq (
 .block 1 (
 .seq (
 .reg [
 mv 13 11,
 mv 4 13] [0, 2, 3, 4, 11]) (
 .seq (
 .reg [
 op 14 (.mov (.c (.i 0)))] [0, 2, 3, 4, 11, 14]) (
 .block 2 (
 .loop [0, 2, 3, 4, 11, 14] (
 .seq (
 .reg [
 op 15 (.bin .lss (.t 14) (.c (.i 4)))] [0, 2, 3, 4, 11, 14, 15]) (
 .seq (
 .cond (.t 15) (
 .reg [] [0, 2, 3, 4, 11, 14]) (
 .exit 2 [0, 2, 3, 11])) (
 .seq (
 .block 3 (
 .seq (
 .reg [
 mv 16 14,
 mv 5 16] [0, 2, 3, 4, 5, 11, 14]) (
 .reg [
 mv 17 4,
 mv 18 4,
 op 19 (.idx 64 1 (.t 3) (.t 18)),
 op 20 (.ldl 3 none (.t 19)),
 op 21 (.bin .shl (.t 20) (.c (.u 64 8))),
 mv 22 0,
 mv 23 4,
 op 24 (.bin .mul (.c (.i 4)) (.t 23)),
 mv 25 5,
 op 26 (.bin .add (.t 24) (.t 25)),
 op 27 (.idxs 1 (.t 22) (.t 26)),
 op 28 (.ld false none (.t 27)),
 op 29 (.cvu 32 (.t 28)),
 op 30 (.bin .or (.t 21) (.t 29)),
 op 31 (.idx 64 1 (.t 3) (.t 17)),
 ⟨none, none, .stl 3 1 (.t 31) (.t 30)⟩] [0, 2, 3, 4, 11, 14]))) (
 .reg [
 op 32 (.bin .add (.t 14) (.c (.i 1))),
 mv 14 32] [0, 2, 3, 4, 11, 14]))))))))) (
 .reg [
 op 33 (.bin .add (.t 11) (.c (.i 1))),
 mv 11 33] [0, 2, 3, 11]))))))) (
 .seq (
 .seq (
 .reg [
 op 6 (.mov (.c (.i 16)))] [2, 3, 6]) (
 .block 4 (
 .loop [2, 3, 6] (
 .seq (
 .seq (
 .reg [
 mv 34 6,
 op 35 (.bin .lss (.t 34) (.c (.i 64)))] [2, 3, 6, 35]) (
 .cond (.t 35) (
 .reg [] [2, 3, 6]) (
 .exit 4 [2, 3]))) (
 .seq (
 .block 5 (
 .seq (
 .reg [
 mv 38 6,
 op 39 (.bin .sub (.t 38) (.c (.i 15))),
 op 40 (.idx 64 1 (.t 3) (.t 39)),
 op 41 (.ldl 3 none (.t 40)),
 mv 42 6,
 op 43 (.bin .sub (.t 42) (.c (.i 2))),
 op 44 (.idx 64 1 (.t 3) (.t 43)),
 op 45 (.ldl 3 none (.t 44)),
 mv 7 41,
 mv 8 45] [2, 3, 6, 7, 8]) (
 .seq (
 .reg [
 mv 46 7,
 op 47 (.call f_sha256_rotate [] [(.t 46), (.c (.i 7))]),
 mv 48 7,
 op 49 (.call f_sha256_rotate [] [(.t 48), (.c (.i 18))]),
 op 50 (.bin .xor (.t 47) (.t 49)),
 mv 51 7,
 op 52 (.bin .shr (.t 51) (.c (.u 64 3))),
 op 53 (.bin .xor (.t 50) (.t 52)),
 mv 9 53] [2, 3, 6, 8, 9]) (
 .seq (
 .reg [
 mv 54 8,
 op 55 (.call f_sha256_rotate [] [(.t 54), (.c (.i 17))]),
 mv 56 8,
 op 57 (.call f_sha256_rotate [] [(.t 56), (.c (.i 19))]),
 op 58 (.bin .xor (.t 55) (.t 57)),
 mv 59 8,
 op 60 (.bin .shr (.t 59) (.c (.u 64 10))),
 op 61 (.bin .xor (.t 58) (.t 60)),
 mv 10 61] [2, 3, 6, 9, 10]) (
 .reg [
 mv 62 6,
 mv 63 6,
 op 64 (.bin .sub (.t 63) (.c (.i 16))),
 op 65 (.idx 64 1 (.t 3) (.t 64)),
 op 66 (.ldl 3 none (.t 65)),
 mv 67 9,
 op 68 (.bin .add (.t 66) (.t 67)),
 mv 69 6,
 op 70 (.bin .sub (.t 69) (.c (.i 7))),
 op 71 (.idx 64 1 (.t 3) (.t 70)),
 op 72 (.ldl 3 none (.t 71)),
 op 73 (.bin .add (.t 68) (.t 72)),
 mv 74 10,
 op 75 (.bin .add (.t 73) (.t 74)),
 op 76 (.idx 64 1 (.t 3) (.t 62)),
 ⟨none, none, .stl 3 1 (.t 76) (.t 75)⟩] [2, 3, 6]))))) (
 .reg [
 mv 36 6,
 op 37 (.bin .add (.t 36) (.c (.i 1))),
 mv 6 37] [2, 3, 6])))))) (
 .seq (
 .reg [
 op 77 (.ldl 3 (some 64) (.t 3)),
 ⟨none, none, .stl 2 64 (.t 2) (.t 77)⟩] [2]) (
 .ret)))))
def m_sha256_schedule : MFn := ⟨c_sha256_schedule, [.cell 2 (some 64)], 3⟩

/-- curvet/sha256.rotate -/
def c_sha256_rotate : Stm :=
 .seq (
 .reg [
 op 4 (.mov (.c (.u 32 0)))] [0, 1]) (
 .seq (
 .reg [
 mv 5 0,
 mv 6 1,
 op 7 (.un .neg (.t 6)),
 op 8 (.call f_bits_RotateLeft32 [] [(.t 5), (.t 7)]),
 mv 4 8] [4]) (
 .ret))
def m_sha256_rotate : MFn := ⟨c_sha256_rotate, [.tmp 4], 0⟩

/-- math/bits.RotateLeft32 -/
def c_bits_RotateLeft32 : Stm :=
 .seq (
 .reg [
 op 4 (.mov (.c (.u 32 0)))] [0, 1]) (
 .seq (
 .reg [
 mv 6 1,
 op 7 (.cvu 64 (.t 6)),
 op 8 (.bin .and (.t 7) (.c (.u 64 31))),
 mv 5 8] [0, 5]) (
 .seq (
 .reg [
 mv 9 0,
 mv 10 5,
 op 11 (.bin .shl (.t 9) (.t 10)),
 mv 12 0,
 mv 13 5,
 op 14 (.bin .sub (.c (.u 64 32)) (.t 13)),
 op 15 (.bin .shr (.t 12) (.t 14)),
 op 16 (.bin .or (.t 11) (.t 15)),
 mv 4 16] [4]) (
 .ret)))
def m_bits_RotateLeft32 : MFn := ⟨c_bits_RotateLeft32, [.tmp 4], 0⟩

def tab : List (Nat × MFn) := [(f_curvettop_TopForged, m_curvettop_TopForged),
 (f_curvettop_awake, m_curvettop_awake),
 (f_curve_Get, m_curve_Get),
 (f_curvetlaw0_Num, m_curvetlaw0_Num),
 (f_base_Mul, m_base_Mul),
 (f_curvetlaw0_One, m_curvetlaw0_One),
 (f_ecdsa_Verify, m_ecdsa_Verify),
 (f_ecdsa_Digest, m_ecdsa_Digest),
 (f_divide_Inverse, m_divide_Inverse),
 (f_affine_Mul, m_affine_Mul),
 (f_curve_Open, m_curve_Open),
 (f_nat_Cmp, m_nat_Cmp),
 (f_base_Times, m_base_Times),
 (f_hash_Size, m_hash_Size),
 (f_curve_Curve_On, m_curve_Curve_On),
 (f_curve_Curve_Key, m_curve_Curve_Key),
 (f_ecdsa_of, m_ecdsa_of),
 (f_ecdsa_scalars_inv, m_ecdsa_scalars_inv),
 (f_dual_Times, m_dual_Times),
 (f_ecdsa_scalars_mul, m_ecdsa_scalars_mul),
 (f_ecdsa_digest, m_ecdsa_digest),
 (f_ecdsa_rest, m_ecdsa_rest),
 (f_divide_zero, m_divide_zero),
 (f_divide_Div, m_divide_Div),
 (f_nat_Small, m_nat_Small),
 (f_divide_By, m_divide_By),
 (f_divide_Modulus_Mul, m_divide_Modulus_Mul),
 (f_nat_Sub, m_nat_Sub),
 (f_nat_Add, m_nat_Add),
 (f_affine_do, m_affine_do),
 (f_affine_Mul_1, m_affine_Mul_1),
 (f_curve_Curve_Plain, m_curve_Curve_Plain),
 (f_curve_Curve_Times, m_curve_Curve_Times),
 (f_curve_Triple, m_curve_Triple),
 (f_field_Of, m_field_Of),
 (f_curve_rows, m_curve_rows),
 (f_field_Hex, m_field_Hex),
 (f_nat_Bits, m_nat_Bits),
 (f_field_Field_Add, m_field_Field_Add),
 (f_mult_Times, m_mult_Times),
 (f_table_Of, m_table_Of),
 (f_hash_of, m_hash_of),
 (f_field_Field_Has, m_field_Field_Has),
 (f_field_Field_Mul, m_field_Field_Mul),
 (f_curve_Curve_Right, m_curve_Curve_Right),
 (f_mont_New, m_mont_New),
 (f_mont_Mont_To, m_mont_Mont_To),
 (f_mont_Mont_Inv, m_mont_Mont_Inv),
 (f_mont_Mont_From, m_mont_Mont_From),
 (f_curve_None, m_curve_None),
 (f_curve_Curve_Sum, m_curve_Curve_Sum),
 (f_nat_Bit, m_nat_Bit),
 (f_mont_Mont_Mul, m_mont_Mont_Mul),
 (f_hash_Of, m_hash_Of),
 (f_nat_Of, m_nat_Of),
 (f_nat_Shr, m_nat_Shr),
 (f_divide_of, m_divide_of),
 (f_divide_divisor_divide, m_divide_divisor_divide),
 (f_nat_Mul, m_nat_Mul),
 (f_divide_length, m_divide_length),
 (f_field_Field_Inv, m_field_Field_Inv),
 (f_field_prime, m_field_prime),
 (f_nat_used, m_nat_used),
 (f_bits_Len64, m_bits_Len64),
 (f_window_Digits, m_window_Digits),
 (f_table_Table_Pick, m_table_Table_Pick),
 (f_divide_Modulus_Rest, m_divide_Modulus_Rest),
 (f_mont_Mont_may, m_mont_Mont_may),
 (f_mont_Mont_Raw, m_mont_Mont_Raw),
 (f_field_Field_Sub, m_field_Field_Sub),
 (f_hash_New, m_hash_New),
 (f_hash_Stream_Write, m_hash_Stream_Write),
 (f_hash_Stream_Sum, m_hash_Stream_Sum),
 (f_bits_LeadingZeros64, m_bits_LeadingZeros64),
 (f_divide_divisor_guess, m_divide_divisor_guess),
 (f_divide_divisor_take, m_divide_divisor_take),
 (f_divide_divisor_back, m_divide_divisor_back),
 (f_bits_Mul64, m_bits_Mul64),
 (f_window_wide, m_window_wide),
 (f_trace_Trace_Index, m_trace_Trace_Index),
 (f_mask_Equal, m_mask_Equal),
 (f_mask_Select, m_mask_Select),
 (f_mont_Mont_round, m_mont_Mont_round),
 (f_sha256_New, m_sha256_New),
 (f_hash_bind_sha256_Hash, m_hash_bind_sha256_Hash),
 (f_sha256_Hash_Write, m_sha256_Hash_Write),
 (f_sha256_Hash_Sum, m_sha256_Hash_Sum),
 (f_bits_Div64, m_bits_Div64),
 (f_mask_Zero, m_mask_Zero),
 (f_mask_nat, m_mask_nat),
 (f_mask_chooser_word, m_mask_chooser_word),
 (f_sha256_beginning, m_sha256_beginning),
 (f_sha256_constants, m_sha256_constants),
 (f_hash_bind_sha256_Hash_1, m_hash_bind_sha256_Hash_1),
 (f_hash_bind_sha256_Hash_2, m_hash_bind_sha256_Hash_2),
 (f_sha256_blocks, m_sha256_blocks),
 (f_sha256_Hash_turn, m_sha256_Hash_turn),
 (f_mask_spread, m_mask_spread),
 (f_sha256_schedule, m_sha256_schedule),
 (f_sha256_rotate, m_sha256_rotate),
 (f_bits_RotateLeft32, m_bits_RotateLeft32)]
def look (f : Nat) : List (Nat × MFn) → Option MFn
 | [] => none
 | (g, m) :: r => bif Nat.beq g f then some m else look f r
def T (f : Nat) : Option MFn := look f tab
end Mir
