/- The functions of the cut, written down in the small language. Conditions: none. -/
import Derived.Test.YtghioibhhmcfoaaLim
set_option maxRecDepth 100000
namespace Mir

abbrev f_curvetlaw5_FieldRoots : Nat := 134
abbrev f_curvetlaw5_FieldProducts : Nat := 135
abbrev f_curvetlaw5_FieldInverses : Nat := 136
abbrev f_curvetlaw5_FieldTiny : Nat := 137
abbrev f_curvetlaw5_FieldRules : Nat := 138
abbrev f_curvetlaw5_FieldSquares : Nat := 139
abbrev f_curvetlaw5_FieldBounds : Nat := 140
abbrev f_curvetlaw5_FieldFermat : Nat := 141
abbrev f_curvetlaw5_FieldReduces : Nat := 142
abbrev f_curvetlaw5_Fields : Nat := 143
abbrev f_curvetref13_Get : Nat := 144
abbrev f_field_Inv : Nat := 145
abbrev f_field_Sqrt : Nat := 146
abbrev f_curvetref1_From : Nat := 14
abbrev f_curvetlaw0_Num : Nat := 15
abbrev f_curvetlaw5_awake : Nat := 147
abbrev f_curvetref1_Cmp : Nat := 29
abbrev f_curvetref1_Inverse : Nat := 58
abbrev f_curvetref1_Sqrt : Nat := 148
abbrev f_curvetref1_Nat : Nat := 17
abbrev f_curvetlaw5_one : Nat := 149
abbrev f_curvetlaw5_below : Nat := 150
abbrev f_field_Mul : Nat := 151
abbrev f_curvetlaw0_One : Nat := 24
abbrev f_field_Add : Nat := 152
abbrev f_field_Sub : Nat := 153
abbrev f_nat_Sub : Nat := 25
abbrev f_divide_PowMod : Nat := 55
abbrev f_field_Reduce : Nat := 154
abbrev f_nat_Mul : Nat := 23
abbrev f_curvetref1_Mod : Nat := 64
abbrev f_curvetref1_Of : Nat := 65
abbrev f_curvetref1_AddMod : Nat := 155
abbrev f_curvetref1_SubMod : Nat := 70
abbrev f_curvetref1_MulMod : Nat := 71
abbrev f_curvetref13_row : Nat := 156
abbrev f_curvetref13_Hex : Nat := 157
abbrev f_curvetref1_Sub : Nat := 30
abbrev f_field_Of : Nat := 158
abbrev f_field_Field_Has : Nat := 159
abbrev f_field_Field_Inv : Nat := 160
abbrev f_field_Field_Sqrt : Nat := 161
abbrev f_curvetref1_trim : Nat := 42
abbrev f_curvetref1_Div : Nat := 63
abbrev f_curvetref1_Shr : Nat := 40
abbrev f_curvetref1_PowMod : Nat := 59
abbrev f_curvetref1_Bit : Nat := 37
abbrev f_curvetref1_Add : Nat := 28
abbrev f_curvetref1_digit : Nat := 41
abbrev f_field_do : Nat := 162
abbrev f_field_Field_Mul : Nat := 163
abbrev f_field_Field_Add : Nat := 164
abbrev f_field_Field_Sub : Nat := 165
abbrev f_divide_zero : Nat := 66
abbrev f_divide_By : Nat := 67
abbrev f_divide_Modulus_Pow : Nat := 68
abbrev f_divide_Modulus_Rest : Nat := 95
abbrev f_nat_used : Nat := 43
abbrev f_bits_Mul64 : Nat := 45
abbrev f_curvetref1_Mul : Nat := 34
abbrev f_curvetref13_digit : Nat := 166
abbrev f_field_prime : Nat := 167
abbrev f_field_Hex : Nat := 168
abbrev f_nat_Cmp : Nat := 35
abbrev f_divide_Inverse : Nat := 56
abbrev f_field_one : Nat := 169
abbrev f_field_half : Nat := 170
abbrev f_field_Field_root : Nat := 171
abbrev f_nat_Bit : Nat := 27
abbrev f_curvetref1_short : Nat := 74
abbrev f_curvetref1_Bits : Nat := 32
abbrev f_curvetref1_Shl : Nat := 31
abbrev f_curvetref1_step : Nat := 75
abbrev f_divide_Modulus_Mul : Nat := 69
abbrev f_nat_Add : Nat := 21
abbrev f_divide_of : Nat := 72
abbrev f_nat_Small : Nat := 38
abbrev f_nat_Bits : Nat := 19
abbrev f_divide_divisor_divide : Nat := 73
abbrev f_divide_Div : Nat := 60
abbrev f_nat_Shr : Nat := 36
abbrev f_divide_length : Nat := 76
abbrev f_bits_LeadingZeros64 : Nat := 77
abbrev f_bits_Len64 : Nat := 44
abbrev f_divide_divisor_guess : Nat := 78
abbrev f_divide_divisor_take : Nat := 79
abbrev f_divide_divisor_back : Nat := 80
abbrev f_bits_Div64 : Nat := 81
/-- curvet/curvetlaw5.FieldRoots -/
def c_curvetlaw5_FieldRoots : Stm :=
 .seq (
 .reg [
 op 3 (.boxv (.t 1)),
 op 4 (.mov (.c (.b false)))] [0, 3]) (
 .seq (
 .reg [
 mv 17 0,
 op 18 (.call f_curvetref13_Get [] [(.t 17)]),
 mv 16 18,
 op 19 (.ext 0 (.t 16)),
 op 20 (.ext 1 (.t 16)),
 op 5 (.box (.c (.agg [.i 0, .nils, .nils, .nils, .nils, .nils, .nils]))),
 ⟨none, none, .stl 5 7 (.t 5) (.t 19)⟩,
 mv 6 20] [0, 3, 5, 6]) (
 .seq (
 .reg [
 mv 22 0,
 op 23 (.ld true (some 9) (.t 3)),
 op 24 (.call f_field_Inv [] [(.t 22), (.t 23)]),
 mv 21 24,
 op 25 (.ext 0 (.t 21)),
 op 26 (.ext 1 (.t 21)),
 op 7 (.box (.c (.agg [.u 64 0, .u 64 0, .u 64 0, .u 64 0, .u 64 0, .u 64 0, .u 64 0, .u 64 0, .u 64 0]))),
 ⟨none, none, .stl 7 9 (.t 7) (.t 25)⟩,
 mv 8 26] [0, 3, 5, 6, 7, 8]) (
 .seq (
 .reg [
 mv 28 0,
 op 29 (.ld true (some 9) (.t 3)),
 op 30 (.call f_field_Sqrt [] [(.t 28), (.t 29)]),
 mv 27 30,
 op 31 (.ext 0 (.t 27)),
 op 32 (.ext 1 (.t 27)),
 op 9 (.box (.c (.agg [.u 64 0, .u 64 0, .u 64 0, .u 64 0, .u 64 0, .u 64 0, .u 64 0, .u 64 0, .u 64 0]))),
 ⟨none, none, .stl 9 9 (.t 9) (.t 31)⟩,
 mv 10 32] [3, 5, 6, 7, 8, 9, 10]) (
 .seq (
 .reg [
 op 33 (.ld true (some 9) (.t 3)),
 op 34 (.call f_curvetref1_From [] [(.t 33)]),
 mv 11 34] [5, 6, 7, 8, 9, 10, 11]) (
 .seq (
 .block 0 (
 .seq (
 .reg [
 mv 36 6,
 op 37 (.un .not (.t 36)),
 mv 35 37] [5, 7, 8, 9, 10, 11, 35]) (
 .cond (.t 35) (
 .seq (
 .reg [
 mv 38 8,
 op 39 (.call f_curvetlaw0_Num [] [(.t 38)]),
 op 40 (.bin .eql (.t 39) (.c (.i 500))),
 mv 41 40,
 ⟨some 42, (some (41, true)), .mov (.t 10)⟩,
 ⟨some 43, (some (41, true)), .call f_curvetlaw0_Num [] [(.t 42)]⟩,
 ⟨some 44, (some (41, true)), .bin .eql (.t 43) (.c (.i 500))⟩,
 op 45 (.pick (.t 41) (.t 44) (.c (.b false))),
 mv 46 45,
 ⟨some 47, (some (46, true)), .call f_curvetlaw5_awake [] []⟩,
 op 48 (.pick (.t 46) (.t 47) (.c (.b false))),
 mv 4 48] [4]) (
 .ret)) (
 .seq (
 .reg [
 mv 50 11,
 op 51 (.off 1 (.t 5)),
 op 52 (.ldl 5 none (.t 51)),
 op 53 (.call f_curvetref1_Cmp [] [(.t 50), (.t 52)]),
 op 54 (.bin .geq (.t 53) (.c (.i 0))),
 mv 49 54] [5, 7, 8, 9, 10, 11, 49]) (
 .cond (.t 49) (
 .seq (
 .reg [
 mv 55 8,
 op 56 (.call f_curvetlaw0_Num [] [(.t 55)]),
 op 57 (.bin .eql (.t 56) (.c (.i 501))),
 mv 58 57,
 ⟨some 59, (some (58, true)), .mov (.t 10)⟩,
 ⟨some 60, (some (58, true)), .call f_curvetlaw0_Num [] [(.t 59)]⟩,
 ⟨some 61, (some (58, true)), .bin .eql (.t 60) (.c (.i 501))⟩,
 op 62 (.pick (.t 58) (.t 61) (.c (.b false))),
 mv 63 62,
 ⟨some 64, (some (63, true)), .ldl 7 (some 9) (.t 7)⟩,
 ⟨some 65, (some (63, true)), .build [.u 64 0, .u 64 0, .u 64 0, .u 64 0, .u 64 0, .u 64 0, .u 64 0, .u 64 0, .u 64 0] []⟩,
 ⟨some 66, (some (63, true)), .eqv (.agg [.u 64, .u 64, .u 64, .u 64, .u 64, .u 64, .u 64, .u 64, .u 64]) false (.t 64) (.t 65)⟩,
 op 67 (.pick (.t 63) (.t 66) (.c (.b false))),
 mv 68 67,
 ⟨some 69, (some (68, true)), .ldl 9 (some 9) (.t 9)⟩,
 ⟨some 70, (some (68, true)), .build [.u 64 0, .u 64 0, .u 64 0, .u 64 0, .u 64 0, .u 64 0, .u 64 0, .u 64 0, .u 64 0] []⟩,
 ⟨some 71, (some (68, true)), .eqv (.agg [.u 64, .u 64, .u 64, .u 64, .u 64, .u 64, .u 64, .u 64, .u 64]) false (.t 69) (.t 70)⟩,
 op 72 (.pick (.t 68) (.t 71) (.c (.b false))),
 mv 73 72,
 ⟨some 74, (some (73, true)), .call f_curvetlaw5_awake [] []⟩,
 op 75 (.pick (.t 73) (.t 74) (.c (.b false))),
 mv 4 75] [4]) (
 .ret)) (
 .seq (
 .reg [
 mv 77 11,
 op 78 (.len (.t 77)),
 op 79 (.bin .eql (.t 78) (.c (.i 0))),
 mv 76 79] [5, 7, 8, 9, 10, 11, 76]) (
 .cond (.t 76) (
 .seq (
 .reg [
 mv 80 8,
 op 81 (.call f_curvetlaw0_Num [] [(.t 80)]),
 op 82 (.bin .eql (.t 81) (.c (.i 502))),
 mv 83 82,
 ⟨some 84, (some (83, true)), .mov (.t 10)⟩,
 ⟨some 85, (some (83, true)), .call f_curvetlaw0_Num [] [(.t 84)]⟩,
 ⟨some 86, (some (83, true)), .bin .eql (.t 85) (.c (.i 0))⟩,
 op 87 (.pick (.t 83) (.t 86) (.c (.b false))),
 mv 88 87,
 ⟨some 89, (some (88, true)), .ldl 9 (some 9) (.t 9)⟩,
 ⟨some 90, (some (88, true)), .build [.u 64 0, .u 64 0, .u 64 0, .u 64 0, .u 64 0, .u 64 0, .u 64 0, .u 64 0, .u 64 0] []⟩,
 ⟨some 91, (some (88, true)), .eqv (.agg [.u 64, .u 64, .u 64, .u 64, .u 64, .u 64, .u 64, .u 64, .u 64]) false (.t 89) (.t 90)⟩,
 op 92 (.pick (.t 88) (.t 91) (.c (.b false))),
 mv 93 92,
 ⟨some 94, (some (93, true)), .call f_curvetlaw5_awake [] []⟩,
 op 95 (.pick (.t 93) (.t 94) (.c (.b false))),
 mv 4 95] [4]) (
 .ret)) (
 .reg [] [5, 7, 8, 9, 10, 11])))))))) (
 .seq (
 .reg [
 mv 97 11,
 op 98 (.off 1 (.t 5)),
 op 99 (.ldl 5 none (.t 98)),
 op 100 (.call f_curvetref1_Inverse [] [(.t 97), (.t 99)]),
 mv 96 100,
 op 101 (.ext 0 (.t 96)),
 op 102 (.ext 1 (.t 96)),
 mv 12 101,
 mv 13 102] [5, 7, 8, 9, 10, 11, 12]) (
 .seq (
 .reg [
 mv 104 11,
 op 105 (.off 1 (.t 5)),
 op 106 (.ldl 5 none (.t 105)),
 op 107 (.call f_curvetref1_Sqrt [] [(.t 104), (.t 106)]),
 mv 103 107,
 op 108 (.ext 0 (.t 103)),
 op 109 (.ext 1 (.t 103)),
 mv 14 108,
 mv 15 109] [7, 8, 9, 10, 12, 14, 15]) (
 .seq (
 .seq (
 .reg [
 mv 110 8,
 op 111 (.call f_curvetlaw0_Num [] [(.t 110)]),
 op 112 (.bin .neq (.t 111) (.c (.i 0))),
 mv 113 112,
 ⟨some 114, (some (113, false)), .ldl 7 (some 9) (.t 7)⟩,
 ⟨some 115, (some (113, false)), .mov (.t 12)⟩,
 ⟨some 116, (some (113, false)), .call f_curvetref1_Nat [] [(.t 115)]⟩,
 ⟨some 117, (some (113, false)), .eqv (.agg [.u 64, .u 64, .u 64, .u 64, .u 64, .u 64, .u 64, .u 64, .u 64]) true (.t 114) (.t 116)⟩,
 op 118 (.pick (.t 113) (.c (.b true)) (.t 117))] [9, 10, 14, 15, 118]) (
 .cond (.t 118) (
 .seq (
 .reg [
 op 4 (.mov (.c (.b false)))] [4]) (
 .ret)) (
 .reg [] [9, 10, 14, 15]))) (
 .seq (
 .seq (
 .reg [
 mv 119 15,
 op 120 (.un .not (.t 119))] [9, 10, 14, 120]) (
 .cond (.t 120) (
 .seq (
 .reg [
 mv 121 10,
 op 122 (.call f_curvetlaw0_Num [] [(.t 121)]),
 op 123 (.bin .eql (.t 122) (.c (.i 503))),
 mv 124 123,
 ⟨some 125, (some (124, true)), .ldl 9 (some 9) (.t 9)⟩,
 ⟨some 126, (some (124, true)), .build [.u 64 0, .u 64 0, .u 64 0, .u 64 0, .u 64 0, .u 64 0, .u 64 0, .u 64 0, .u 64 0] []⟩,
 ⟨some 127, (some (124, true)), .eqv (.agg [.u 64, .u 64, .u 64, .u 64, .u 64, .u 64, .u 64, .u 64, .u 64]) false (.t 125) (.t 126)⟩,
 op 128 (.pick (.t 124) (.t 127) (.c (.b false))),
 mv 129 128,
 ⟨some 130, (some (129, true)), .call f_curvetlaw5_awake [] []⟩,
 op 131 (.pick (.t 129) (.t 130) (.c (.b false))),
 mv 4 131] [4]) (
 .ret)) (
 .reg [] [9, 10, 14]))) (
 .seq (
 .reg [
 mv 132 10,
 op 133 (.call f_curvetlaw0_Num [] [(.t 132)]),
 op 134 (.bin .eql (.t 133) (.c (.i 0))),
 mv 135 134,
 ⟨some 136, (some (135, true)), .ldl 9 (some 9) (.t 9)⟩,
 ⟨some 137, (some (135, true)), .mov (.t 14)⟩,
 ⟨some 138, (some (135, true)), .call f_curvetref1_Nat [] [(.t 137)]⟩,
 ⟨some 139, (some (135, true)), .eqv (.agg [.u 64, .u 64, .u 64, .u 64, .u 64, .u 64, .u 64, .u 64, .u 64]) false (.t 136) (.t 138)⟩,
 op 140 (.pick (.t 135) (.t 139) (.c (.b false))),
 mv 141 140,
 ⟨some 142, (some (141, true)), .call f_curvetlaw5_awake [] []⟩,
 op 143 (.pick (.t 141) (.t 142) (.c (.b false))),
 mv 4 143] [4]) (
 .ret)))))))))))
def m_curvetlaw5_FieldRoots : MFn := ⟨c_curvetlaw5_FieldRoots, [.tmp 4], 0⟩

/-- curvet/curvetlaw5.FieldProducts -/
def c_curvetlaw5_FieldProducts : Stm :=
 .seq (
 .reg [
 op 4 (.boxv (.t 1)),
 op 5 (.boxv (.t 2)),
 op 6 (.mov (.c (.b false)))] [0, 4, 5]) (
 .seq (
 .seq (
 .reg [
 op 19 (.call f_curvetlaw5_awake [] []),
 op 20 (.un .not (.t 19))] [0, 4, 5, 20]) (
 .cond (.t 20) (
 .seq (
 .reg [
 op 6 (.mov (.c (.b false)))] [6]) (
 .ret)) (
 .reg [] [0, 4, 5]))) (
 .seq (
 .reg [
 mv 22 0,
 op 23 (.call f_curvetlaw5_one [] [(.t 22)]),
 mv 21 23,
 op 24 (.ext 0 (.t 21)),
 op 25 (.ext 1 (.t 21)),
 op 7 (.box (.c (.agg [.i 0, .nils, .nils, .nils, .nils, .nils, .nils]))),
 op 8 (.box (.c (.agg [.u 64 0, .u 64 0, .u 64 0, .u 64 0, .u 64 0, .u 64 0, .u 64 0, .u 64 0, .u 64 0]))),
 ⟨none, none, .stl 7 7 (.t 7) (.t 24)⟩,
 ⟨none, none, .stl 8 9 (.t 8) (.t 25)⟩] [4, 5, 7]) (
 .seq (
 .reg [
 op 26 (.ldl 7 (some 7) (.t 7)),
 op 27 (.ld true (some 9) (.t 4)),
 op 28 (.call f_curvetlaw5_below [] [(.t 26), (.t 27)]),
 op 29 (.ldl 7 (some 7) (.t 7)),
 op 30 (.ld true (some 9) (.t 5)),
 op 31 (.call f_curvetlaw5_below [] [(.t 29), (.t 30)]),
 op 9 (.box (.c (.agg [.u 64 0, .u 64 0, .u 64 0, .u 64 0, .u 64 0, .u 64 0, .u 64 0, .u 64 0, .u 64 0]))),
 op 10 (.box (.c (.agg [.u 64 0, .u 64 0, .u 64 0, .u 64 0, .u 64 0, .u 64 0, .u 64 0, .u 64 0, .u 64 0]))),
 ⟨none, none, .stl 9 9 (.t 9) (.t 28)⟩,
 ⟨none, none, .stl 10 9 (.t 10) (.t 31)⟩] [7, 9, 10]) (
 .seq (
 .seq (
 .reg [
 op 32 (.ldl 9 (some 9) (.t 9)),
 op 33 (.build [.u 64 0, .u 64 0, .u 64 0, .u 64 0, .u 64 0, .u 64 0, .u 64 0, .u 64 0, .u 64 0] []),
 op 34 (.eqv (.agg [.u 64, .u 64, .u 64, .u 64, .u 64, .u 64, .u 64, .u 64, .u 64]) false (.t 32) (.t 33)),
 mv 35 34,
 ⟨some 36, (some (35, false)), .ldl 10 (some 9) (.t 10)⟩,
 ⟨some 37, (some (35, false)), .build [.u 64 0, .u 64 0, .u 64 0, .u 64 0, .u 64 0, .u 64 0, .u 64 0, .u 64 0, .u 64 0] []⟩,
 ⟨some 38, (some (35, false)), .eqv (.agg [.u 64, .u 64, .u 64, .u 64, .u 64, .u 64, .u 64, .u 64, .u 64]) false (.t 36) (.t 37)⟩,
 op 39 (.pick (.t 35) (.c (.b true)) (.t 38))] [7, 9, 10, 39]) (
 .cond (.t 39) (
 .seq (
 .reg [
 op 6 (.mov (.c (.b true)))] [6]) (
 .ret)) (
 .reg [] [7, 9, 10]))) (
 .seq (
 .reg [
 op 41 (.off 0 (.t 7)),
 op 42 (.ldl 7 none (.t 41)),
 op 43 (.ldl 9 (some 9) (.t 9)),
 op 44 (.ldl 10 (some 9) (.t 10)),
 op 45 (.call f_field_Mul [] [(.t 42), (.t 43), (.t 44)]),
 mv 40 45,
 op 46 (.ext 0 (.t 40)),
 op 47 (.ext 1 (.t 40)),
 op 11 (.box (.c (.agg [.u 64 0, .u 64 0, .u 64 0, .u 64 0, .u 64 0, .u 64 0, .u 64 0, .u 64 0, .u 64 0]))),
 ⟨none, none, .stl 11 9 (.t 11) (.t 46)⟩,
 mv 12 47] [7, 9, 10, 11]) (
 .seq (
 .reg [
 op 49 (.off 0 (.t 7)),
 op 50 (.ldl 7 none (.t 49)),
 op 51 (.ldl 9 (some 9) (.t 9)),
 op 52 (.call f_field_Sqrt [] [(.t 50), (.t 51)]),
 mv 48 52,
 op 53 (.ext 0 (.t 48)),
 op 54 (.ext 1 (.t 48)),
 op 13 (.box (.c (.agg [.u 64 0, .u 64 0, .u 64 0, .u 64 0, .u 64 0, .u 64 0, .u 64 0, .u 64 0, .u 64 0]))),
 ⟨none, none, .stl 13 9 (.t 13) (.t 53)⟩,
 mv 14 54] [7, 10, 11, 14]) (
 .seq (
 .reg [
 op 56 (.off 0 (.t 7)),
 op 57 (.ldl 7 none (.t 56)),
 op 58 (.ldl 10 (some 9) (.t 10)),
 op 59 (.call f_field_Sqrt [] [(.t 57), (.t 58)]),
 mv 55 59,
 op 60 (.ext 0 (.t 55)),
 op 61 (.ext 1 (.t 55)),
 op 15 (.box (.c (.agg [.u 64 0, .u 64 0, .u 64 0, .u 64 0, .u 64 0, .u 64 0, .u 64 0, .u 64 0, .u 64 0]))),
 ⟨none, none, .stl 15 9 (.t 15) (.t 60)⟩,
 mv 16 61] [7, 11, 14, 16]) (
 .seq (
 .reg [
 op 63 (.off 0 (.t 7)),
 op 64 (.ldl 7 none (.t 63)),
 op 65 (.ldl 11 (some 9) (.t 11)),
 op 66 (.call f_field_Sqrt [] [(.t 64), (.t 65)]),
 mv 62 66,
 op 67 (.ext 0 (.t 62)),
 op 68 (.ext 1 (.t 62)),
 op 17 (.box (.c (.agg [.u 64 0, .u 64 0, .u 64 0, .u 64 0, .u 64 0, .u 64 0, .u 64 0, .u 64 0, .u 64 0]))),
 ⟨none, none, .stl 17 9 (.t 17) (.t 67)⟩,
 mv 18 68] [14, 16, 18]) (
 .seq (
 .reg [
 mv 69 14,
 op 70 (.call f_curvetlaw0_Num [] [(.t 69)]),
 op 71 (.bin .eql (.t 70) (.c (.i 0))),
 mv 72 16,
 op 73 (.call f_curvetlaw0_Num [] [(.t 72)]),
 op 74 (.bin .eql (.t 73) (.c (.i 0))),
 op 75 (.eqv .bool false (.t 71) (.t 74)),
 mv 76 18,
 op 77 (.call f_curvetlaw0_Num [] [(.t 76)]),
 op 78 (.bin .eql (.t 77) (.c (.i 0))),
 op 79 (.eqv .bool false (.t 75) (.t 78)),
 mv 6 79] [6]) (
 .ret))))))))))
def m_curvetlaw5_FieldProducts : MFn := ⟨c_curvetlaw5_FieldProducts, [.tmp 6], 0⟩

/-- curvet/curvetlaw5.FieldInverses -/
def c_curvetlaw5_FieldInverses : Stm :=
 .seq (
 .reg [
 op 4 (.boxv (.t 1)),
 op 5 (.boxv (.t 2)),
 op 6 (.mov (.c (.b false)))] [0, 4, 5]) (
 .seq (
 .seq (
 .reg [
 op 23 (.call f_curvetlaw5_awake [] []),
 op 24 (.un .not (.t 23))] [0, 4, 5, 24]) (
 .cond (.t 24) (
 .seq (
 .reg [
 op 6 (.mov (.c (.b false)))] [6]) (
 .ret)) (
 .reg [] [0, 4, 5]))) (
 .seq (
 .reg [
 mv 26 0,
 op 27 (.call f_curvetlaw5_one [] [(.t 26)]),
 mv 25 27,
 op 28 (.ext 0 (.t 25)),
 op 29 (.ext 1 (.t 25)),
 op 7 (.box (.c (.agg [.i 0, .nils, .nils, .nils, .nils, .nils, .nils]))),
 op 8 (.box (.c (.agg [.u 64 0, .u 64 0, .u 64 0, .u 64 0, .u 64 0, .u 64 0, .u 64 0, .u 64 0, .u 64 0]))),
 ⟨none, none, .stl 7 7 (.t 7) (.t 28)⟩,
 ⟨none, none, .stl 8 9 (.t 8) (.t 29)⟩] [4, 5, 7]) (
 .seq (
 .reg [
 op 30 (.ldl 7 (some 7) (.t 7)),
 op 31 (.ld true (some 9) (.t 4)),
 op 32 (.call f_curvetlaw5_below [] [(.t 30), (.t 31)]),
 op 33 (.ldl 7 (some 7) (.t 7)),
 op 34 (.ld true (some 9) (.t 5)),
 op 35 (.call f_curvetlaw5_below [] [(.t 33), (.t 34)]),
 op 9 (.box (.c (.agg [.u 64 0, .u 64 0, .u 64 0, .u 64 0, .u 64 0, .u 64 0, .u 64 0, .u 64 0, .u 64 0]))),
 op 10 (.box (.c (.agg [.u 64 0, .u 64 0, .u 64 0, .u 64 0, .u 64 0, .u 64 0, .u 64 0, .u 64 0, .u 64 0]))),
 ⟨none, none, .stl 9 9 (.t 9) (.t 32)⟩,
 ⟨none, none, .stl 10 9 (.t 10) (.t 35)⟩] [7, 9, 10]) (
 .seq (
 .seq (
 .reg [
 op 36 (.ldl 9 (some 9) (.t 9)),
 op 37 (.build [.u 64 0, .u 64 0, .u 64 0, .u 64 0, .u 64 0, .u 64 0, .u 64 0, .u 64 0, .u 64 0] []),
 op 38 (.eqv (.agg [.u 64, .u 64, .u 64, .u 64, .u 64, .u 64, .u 64, .u 64, .u 64]) false (.t 36) (.t 37)),
 mv 39 38,
 ⟨some 40, (some (39, false)), .ldl 10 (some 9) (.t 10)⟩,
 ⟨some 41, (some (39, false)), .build [.u 64 0, .u 64 0, .u 64 0, .u 64 0, .u 64 0, .u 64 0, .u 64 0, .u 64 0, .u 64 0] []⟩,
 ⟨some 42, (some (39, false)), .eqv (.agg [.u 64, .u 64, .u 64, .u 64, .u 64, .u 64, .u 64, .u 64, .u 64]) false (.t 40) (.t 41)⟩,
 op 43 (.pick (.t 39) (.c (.b true)) (.t 42))] [7, 9, 10, 43]) (
 .cond (.t 43) (
 .seq (
 .reg [
 op 6 (.mov (.c (.b true)))] [6]) (
 .ret)) (
 .reg [] [7, 9, 10]))) (
 .seq (
 .reg [
 op 45 (.off 0 (.t 7)),
 op 46 (.ldl 7 none (.t 45)),
 op 47 (.ldl 9 (some 9) (.t 9)),
 op 48 (.ldl 10 (some 9) (.t 10)),
 op 49 (.call f_field_Mul [] [(.t 46), (.t 47), (.t 48)]),
 mv 44 49,
 op 50 (.ext 0 (.t 44)),
 op 51 (.ext 1 (.t 44)),
 op 11 (.box (.c (.agg [.u 64 0, .u 64 0, .u 64 0, .u 64 0, .u 64 0, .u 64 0, .u 64 0, .u 64 0, .u 64 0]))),
 ⟨none, none, .stl 11 9 (.t 11) (.t 50)⟩,
 mv 12 51] [7, 9, 10, 11]) (
 .seq (
 .reg [
 op 53 (.off 0 (.t 7)),
 op 54 (.ldl 7 none (.t 53)),
 op 55 (.ldl 9 (some 9) (.t 9)),
 op 56 (.call f_field_Inv [] [(.t 54), (.t 55)]),
 mv 52 56,
 op 57 (.ext 0 (.t 52)),
 op 58 (.ext 1 (.t 52)),
 op 13 (.box (.c (.agg [.u 64 0, .u 64 0, .u 64 0, .u 64 0, .u 64 0, .u 64 0, .u 64 0, .u 64 0, .u 64 0]))),
 ⟨none, none, .stl 13 9 (.t 13) (.t 57)⟩,
 mv 14 58] [7, 9, 10, 11, 13, 14]) (
 .seq (
 .reg [
 op 60 (.off 0 (.t 7)),
 op 61 (.ldl 7 none (.t 60)),
 op 62 (.ldl 10 (some 9) (.t 10)),
 op 63 (.call f_field_Inv [] [(.t 61), (.t 62)]),
 mv 59 63,
 op 64 (.ext 0 (.t 59)),
 op 65 (.ext 1 (.t 59)),
 op 15 (.box (.c (.agg [.u 64 0, .u 64 0, .u 64 0, .u 64 0, .u 64 0, .u 64 0, .u 64 0, .u 64 0, .u 64 0]))),
 ⟨none, none, .stl 15 9 (.t 15) (.t 64)⟩,
 mv 16 65] [7, 9, 11, 13, 14, 15, 16]) (
 .seq (
 .reg [
 op 67 (.off 0 (.t 7)),
 op 68 (.ldl 7 none (.t 67)),
 op 69 (.ldl 11 (some 9) (.t 11)),
 op 70 (.call f_field_Inv [] [(.t 68), (.t 69)]),
 mv 66 70,
 op 71 (.ext 0 (.t 66)),
 op 72 (.ext 1 (.t 66)),
 op 17 (.box (.c (.agg [.u 64 0, .u 64 0, .u 64 0, .u 64 0, .u 64 0, .u 64 0, .u 64 0, .u 64 0, .u 64 0]))),
 ⟨none, none, .stl 17 9 (.t 17) (.t 71)⟩,
 mv 18 72] [7, 9, 13, 14, 15, 16, 17, 18]) (
 .seq (
 .reg [
 op 74 (.off 0 (.t 7)),
 op 75 (.ldl 7 none (.t 74)),
 op 76 (.ldl 13 (some 9) (.t 13)),
 op 77 (.ldl 15 (some 9) (.t 15)),
 op 78 (.call f_field_Mul [] [(.t 75), (.t 76), (.t 77)]),
 mv 73 78,
 op 79 (.ext 0 (.t 73)),
 op 80 (.ext 1 (.t 73)),
 op 19 (.box (.c (.agg [.u 64 0, .u 64 0, .u 64 0, .u 64 0, .u 64 0, .u 64 0, .u 64 0, .u 64 0, .u 64 0]))),
 ⟨none, none, .stl 19 9 (.t 19) (.t 79)⟩,
 mv 20 80] [7, 9, 13, 14, 16, 17, 18, 19]) (
 .seq (
 .reg [
 op 82 (.off 0 (.t 7)),
 op 83 (.ldl 7 none (.t 82)),
 op 84 (.ldl 13 (some 9) (.t 13)),
 op 85 (.call f_field_Inv [] [(.t 83), (.t 84)]),
 mv 81 85,
 op 86 (.ext 0 (.t 81)),
 op 87 (.ext 1 (.t 81)),
 op 21 (.box (.c (.agg [.u 64 0, .u 64 0, .u 64 0, .u 64 0, .u 64 0, .u 64 0, .u 64 0, .u 64 0, .u 64 0]))),
 ⟨none, none, .stl 21 9 (.t 21) (.t 86)⟩,
 mv 22 87] [9, 14, 16, 17, 18, 19, 21, 22]) (
 .seq (
 .reg [
 mv 88 14,
 op 89 (.call f_curvetlaw0_Num [] [(.t 88)]),
 op 90 (.bin .eql (.t 89) (.c (.i 0))),
 mv 91 90,
 ⟨some 92, (some (91, true)), .mov (.t 16)⟩,
 ⟨some 93, (some (91, true)), .call f_curvetlaw0_Num [] [(.t 92)]⟩,
 ⟨some 94, (some (91, true)), .bin .eql (.t 93) (.c (.i 0))⟩,
 op 95 (.pick (.t 91) (.t 94) (.c (.b false))),
 mv 96 95,
 ⟨some 97, (some (96, true)), .mov (.t 18)⟩,
 ⟨some 98, (some (96, true)), .call f_curvetlaw0_Num [] [(.t 97)]⟩,
 ⟨some 99, (some (96, true)), .bin .eql (.t 98) (.c (.i 0))⟩,
 op 100 (.pick (.t 96) (.t 99) (.c (.b false))),
 mv 101 100,
 ⟨some 102, (some (101, true)), .mov (.t 22)⟩,
 ⟨some 103, (some (101, true)), .call f_curvetlaw0_Num [] [(.t 102)]⟩,
 ⟨some 104, (some (101, true)), .bin .eql (.t 103) (.c (.i 0))⟩,
 op 105 (.pick (.t 101) (.t 104) (.c (.b false))),
 mv 106 105,
 ⟨some 107, (some (106, true)), .ldl 17 (some 9) (.t 17)⟩,
 ⟨some 108, (some (106, true)), .ldl 19 (some 9) (.t 19)⟩,
 ⟨some 109, (some (106, true)), .eqv (.agg [.u 64, .u 64, .u 64, .u 64, .u 64, .u 64, .u 64, .u 64, .u 64]) false (.t 107) (.t 108)⟩,
 op 110 (.pick (.t 106) (.t 109) (.c (.b false))),
 mv 111 110,
 ⟨some 112, (some (111, true)), .ldl 21 (some 9) (.t 21)⟩,
 ⟨some 113, (some (111, true)), .ldl 9 (some 9) (.t 9)⟩,
 ⟨some 114, (some (111, true)), .eqv (.agg [.u 64, .u 64, .u 64, .u 64, .u 64, .u 64, .u 64, .u 64, .u 64]) false (.t 112) (.t 113)⟩,
 op 115 (.pick (.t 111) (.t 114) (.c (.b false))),
 mv 6 115] [6]) (
 .ret))))))))))))
def m_curvetlaw5_FieldInverses : MFn := ⟨c_curvetlaw5_FieldInverses, [.tmp 6], 0⟩

/-- curvet/curvetlaw5.FieldTiny -/
def c_curvetlaw5_FieldTiny : Stm :=
 .seq (
 .reg [
 op 2 (.mov (.c (.b false)))] [0]) (
 .seq (
 .seq (
 .reg [
 op 12 (.call f_curvetlaw5_awake [] []),
 op 13 (.un .not (.t 12))] [0, 13]) (
 .cond (.t 13) (
 .seq (
 .reg [
 op 2 (.mov (.c (.b false)))] [2]) (
 .ret)) (
 .reg [] [0]))) (
 .seq (
 .reg [
 mv 15 0,
 op 16 (.cvu 64 (.t 15)),
 op 17 (.bin .rem (.t 16) (.c (.u 64 3))),
 op 18 (.cvi (.t 17)),
 op 19 (.bin .add (.c (.i 13)) (.t 18)),
 op 20 (.call f_curvetref13_Get [] [(.t 19)]),
 mv 14 20,
 op 21 (.ext 0 (.t 14)),
 op 22 (.ext 1 (.t 14)),
 op 3 (.box (.c (.agg [.i 0, .nils, .nils, .nils, .nils, .nils, .nils]))),
 ⟨none, none, .stl 3 7 (.t 3) (.t 21)⟩,
 mv 4 22] [3, 4]) (
 .seq (
 .seq (
 .reg [
 mv 23 4,
 op 24 (.un .not (.t 23))] [3, 24]) (
 .cond (.t 24) (
 .seq (
 .reg [
 op 2 (.mov (.c (.b false)))] [2]) (
 .ret)) (
 .reg [] [3]))) (
 .seq (
 .reg [
 op 25 (.off 1 (.t 3)),
 op 26 (.ldl 3 none (.t 25)),
 op 27 (.idxs 1 (.t 26) (.c (.i 0))),
 op 28 (.ld false none (.t 27)),
 op 29 (.cvu 64 (.t 28)),
 mv 5 29] [3, 5]) (
 .seq (
 .reg [
 op 6 (.mov (.c (.u 64 0)))] [3, 5, 6]) (
 .seq (
 .seq (
 .reg [
 op 7 (.mov (.c (.u 64 1)))] [3, 5, 6, 7]) (
 .block 0 (
 .loop [3, 5, 6, 7] (
 .seq (
 .seq (
 .reg [
 mv 30 7,
 mv 31 5,
 op 32 (.bin .lss (.t 30) (.t 31))] [3, 5, 6, 7, 32]) (
 .cond (.t 32) (
 .reg [] [3, 5, 6, 7]) (
 .exit 0 [5, 6]))) (
 .seq (
 .block 1 (
 .seq (
 .reg [
 op 36 (.off 0 (.t 3)),
 op 37 (.ldl 3 none (.t 36)),
 mv 38 7,
 op 39 (.call f_curvetlaw0_One [] [(.t 38)]),
 op 40 (.call f_field_Inv [] [(.t 37), (.t 39)]),
 mv 35 40,
 op 41 (.ext 0 (.t 35)),
 op 42 (.ext 1 (.t 35)),
 op 8 (.box (.c (.agg [.u 64 0, .u 64 0, .u 64 0, .u 64 0, .u 64 0, .u 64 0, .u 64 0, .u 64 0, .u 64 0]))),
 ⟨none, none, .stl 8 9 (.t 8) (.t 41)⟩,
 mv 9 42] [3, 5, 6, 7, 8, 9]) (
 .seq (
 .reg [
 op 44 (.off 0 (.t 3)),
 op 45 (.ldl 3 none (.t 44)),
 mv 46 7,
 op 47 (.call f_curvetlaw0_One [] [(.t 46)]),
 op 48 (.call f_field_Sqrt [] [(.t 45), (.t 47)]),
 mv 43 48,
 op 49 (.ext 0 (.t 43)),
 op 50 (.ext 1 (.t 43)),
 op 10 (.box (.c (.agg [.u 64 0, .u 64 0, .u 64 0, .u 64 0, .u 64 0, .u 64 0, .u 64 0, .u 64 0, .u 64 0]))),
 ⟨none, none, .stl 10 9 (.t 10) (.t 49)⟩,
 mv 11 50] [3, 5, 6, 7, 8, 9, 10, 11]) (
 .seq (
 .seq (
 .reg [
 mv 51 9,
 op 52 (.call f_curvetlaw0_Num [] [(.t 51)]),
 op 53 (.bin .neq (.t 52) (.c (.i 0))),
 mv 54 53,
 ⟨some 55, (some (54, false)), .off 0 (.t 8)⟩,
 ⟨some 56, (some (54, false)), .idx 9 1 (.t 55) (.c (.i 0))⟩,
 ⟨some 57, (some (54, false)), .ldl 8 none (.t 56)⟩,
 ⟨some 58, (some (54, false)), .mov (.t 7)⟩,
 ⟨some 59, (some (54, false)), .bin .mul (.t 57) (.t 58)⟩,
 ⟨some 60, (some (54, false)), .mov (.t 5)⟩,
 ⟨some 61, (some (54, false)), .bin .rem (.t 59) (.t 60)⟩,
 ⟨some 62, (some (54, false)), .bin .neq (.t 61) (.c (.u 64 1))⟩,
 op 63 (.pick (.t 54) (.c (.b true)) (.t 62))] [3, 5, 6, 7, 10, 11, 63]) (
 .cond (.t 63) (
 .seq (
 .reg [
 op 2 (.mov (.c (.b false)))] [2]) (
 .ret)) (
 .reg [] [3, 5, 6, 7, 10, 11]))) (
 .seq (
 .reg [
 mv 64 11,
 op 65 (.call f_curvetlaw0_Num [] [(.t 64)]),
 op 66 (.bin .eql (.t 65) (.c (.i 0)))] [3, 5, 6, 7, 10, 66]) (
 .cond (.t 66) (
 .seq (
 .reg [
 mv 67 6,
 op 68 (.bin .add (.t 67) (.c (.u 64 1))),
 mv 6 68] [3, 5, 6, 7, 10]) (
 .seq (
 .reg [
 op 69 (.off 0 (.t 10)),
 op 70 (.idx 9 1 (.t 69) (.c (.i 0))),
 op 71 (.ldl 10 none (.t 70)),
 op 72 (.off 0 (.t 10)),
 op 73 (.idx 9 1 (.t 72) (.c (.i 0))),
 op 74 (.ldl 10 none (.t 73)),
 op 75 (.bin .mul (.t 71) (.t 74)),
 mv 76 5,
 op 77 (.bin .rem (.t 75) (.t 76)),
 mv 78 7,
 op 79 (.bin .neq (.t 77) (.t 78)),
 mv 80 79,
 ⟨some 81, (some (80, false)), .off 0 (.t 10)⟩,
 ⟨some 82, (some (80, false)), .idx 9 1 (.t 81) (.c (.i 0))⟩,
 ⟨some 83, (some (80, false)), .ldl 10 none (.t 82)⟩,
 ⟨some 84, (some (80, false)), .bin .and (.t 83) (.c (.u 64 1))⟩,
 ⟨some 85, (some (80, false)), .bin .neq (.t 84) (.c (.u 64 0))⟩,
 op 86 (.pick (.t 80) (.c (.b true)) (.t 85))] [3, 5, 6, 7, 86]) (
 .cond (.t 86) (
 .seq (
 .reg [
 op 2 (.mov (.c (.b false)))] [2]) (
 .ret)) (
 .reg [] [3, 5, 6, 7])))) (
 .reg [] [3, 5, 6, 7]))))))) (
 .reg [
 mv 33 7,
 op 34 (.bin .add (.t 33) (.c (.u 64 1))),
 mv 7 34] [3, 5, 6, 7])))))) (
 .seq (
 .reg [
 mv 87 6,
 mv 88 5,
 op 89 (.bin .sub (.t 88) (.c (.u 64 1))),
 op 90 (.bin .quo (.t 89) (.c (.u 64 2))),
 op 91 (.bin .eql (.t 87) (.t 90)),
 mv 2 91] [2]) (
 .ret))))))))
def m_curvetlaw5_FieldTiny : MFn := ⟨c_curvetlaw5_FieldTiny, [.tmp 2], 0⟩

/-- curvet/curvetlaw5.FieldRules -/
def c_curvetlaw5_FieldRules : Stm :=
 .seq (
 .reg [
 op 5 (.boxv (.t 1)),
 op 6 (.boxv (.t 2)),
 op 7 (.boxv (.t 3)),
 op 8 (.mov (.c (.b false)))] [0, 5, 6, 7]) (
 .seq (
 .seq (
 .reg [
 op 26 (.call f_curvetlaw5_awake [] []),
 op 27 (.un .not (.t 26))] [0, 5, 6, 7, 27]) (
 .cond (.t 27) (
 .seq (
 .reg [
 op 8 (.mov (.c (.b false)))] [8]) (
 .ret)) (
 .reg [] [0, 5, 6, 7]))) (
 .seq (
 .reg [
 mv 29 0,
 op 30 (.cvu 64 (.t 29)),
 op 31 (.bin .rem (.t 30) (.c (.u 64 15))),
 op 32 (.cvi (.t 31)),
 op 33 (.bin .add (.c (.i 1)) (.t 32)),
 op 34 (.call f_curvetref13_Get [] [(.t 33)]),
 mv 28 34,
 op 35 (.ext 0 (.t 28)),
 op 36 (.ext 1 (.t 28)),
 op 9 (.box (.c (.agg [.i 0, .nils, .nils, .nils, .nils, .nils, .nils]))),
 ⟨none, none, .stl 9 7 (.t 9) (.t 35)⟩,
 mv 10 36] [5, 6, 7, 9, 10]) (
 .seq (
 .seq (
 .reg [
 mv 37 10,
 op 38 (.un .not (.t 37))] [5, 6, 7, 9, 38]) (
 .cond (.t 38) (
 .seq (
 .reg [
 op 8 (.mov (.c (.b false)))] [8]) (
 .ret)) (
 .reg [] [5, 6, 7, 9]))) (
 .seq (
 .reg [
 op 39 (.ldl 9 (some 7) (.t 9)),
 op 40 (.ld true (some 9) (.t 5)),
 op 41 (.call f_curvetlaw5_below [] [(.t 39), (.t 40)]),
 op 42 (.ldl 9 (some 7) (.t 9)),
 op 43 (.ld true (some 9) (.t 6)),
 op 44 (.call f_curvetlaw5_below [] [(.t 42), (.t 43)]),
 op 45 (.ldl 9 (some 7) (.t 9)),
 op 46 (.ld true (some 9) (.t 7)),
 op 47 (.call f_curvetlaw5_below [] [(.t 45), (.t 46)]),
 op 11 (.box (.c (.agg [.u 64 0, .u 64 0, .u 64 0, .u 64 0, .u 64 0, .u 64 0, .u 64 0, .u 64 0, .u 64 0]))),
 op 12 (.box (.c (.agg [.u 64 0, .u 64 0, .u 64 0, .u 64 0, .u 64 0, .u 64 0, .u 64 0, .u 64 0, .u 64 0]))),
 op 13 (.box (.c (.agg [.u 64 0, .u 64 0, .u 64 0, .u 64 0, .u 64 0, .u 64 0, .u 64 0, .u 64 0, .u 64 0]))),
 ⟨none, none, .stl 11 9 (.t 11) (.t 41)⟩,
 ⟨none, none, .stl 12 9 (.t 12) (.t 44)⟩,
 ⟨none, none, .stl 13 9 (.t 13) (.t 47)⟩] [9, 11, 12, 13]) (
 .seq (
 .reg [
 op 49 (.off 0 (.t 9)),
 op 50 (.ldl 9 none (.t 49)),
 op 51 (.ldl 11 (some 9) (.t 11)),
 op 52 (.ldl 12 (some 9) (.t 12)),
 op 53 (.call f_field_Add [] [(.t 50), (.t 51), (.t 52)]),
 mv 48 53,
 op 54 (.ext 0 (.t 48)),
 op 55 (.ext 1 (.t 48)),
 op 14 (.box (.c (.agg [.u 64 0, .u 64 0, .u 64 0, .u 64 0, .u 64 0, .u 64 0, .u 64 0, .u 64 0, .u 64 0]))),
 ⟨none, none, .stl 14 9 (.t 14) (.t 54)⟩,
 mv 15 55] [9, 11, 12, 13, 14, 15]) (
 .seq (
 .reg [
 op 57 (.off 0 (.t 9)),
 op 58 (.ldl 9 none (.t 57)),
 op 59 (.ldl 14 (some 9) (.t 14)),
 op 60 (.ldl 13 (some 9) (.t 13)),
 op 61 (.call f_field_Mul [] [(.t 58), (.t 59), (.t 60)]),
 mv 56 61,
 op 62 (.ext 0 (.t 56)),
 op 63 (.ext 1 (.t 56)),
 op 16 (.box (.c (.agg [.u 64 0, .u 64 0, .u 64 0, .u 64 0, .u 64 0, .u 64 0, .u 64 0, .u 64 0, .u 64 0]))),
 ⟨none, none, .stl 16 9 (.t 16) (.t 62)⟩,
 mv 17 63] [9, 11, 12, 13, 14, 15, 16, 17]) (
 .seq (
 .reg [
 op 65 (.off 0 (.t 9)),
 op 66 (.ldl 9 none (.t 65)),
 op 67 (.ldl 11 (some 9) (.t 11)),
 op 68 (.ldl 13 (some 9) (.t 13)),
 op 69 (.call f_field_Mul [] [(.t 66), (.t 67), (.t 68)]),
 mv 64 69,
 op 70 (.ext 0 (.t 64)),
 op 71 (.ext 1 (.t 64)),
 op 18 (.box (.c (.agg [.u 64 0, .u 64 0, .u 64 0, .u 64 0, .u 64 0, .u 64 0, .u 64 0, .u 64 0, .u 64 0]))),
 ⟨none, none, .stl 18 9 (.t 18) (.t 70)⟩,
 mv 19 71] [9, 11, 12, 13, 14, 15, 16, 17, 18]) (
 .seq (
 .reg [
 op 73 (.off 0 (.t 9)),
 op 74 (.ldl 9 none (.t 73)),
 op 75 (.ldl 12 (some 9) (.t 12)),
 op 76 (.ldl 13 (some 9) (.t 13)),
 op 77 (.call f_field_Mul [] [(.t 74), (.t 75), (.t 76)]),
 mv 72 77,
 op 78 (.ext 0 (.t 72)),
 op 79 (.ext 1 (.t 72)),
 op 20 (.box (.c (.agg [.u 64 0, .u 64 0, .u 64 0, .u 64 0, .u 64 0, .u 64 0, .u 64 0, .u 64 0, .u 64 0]))),
 ⟨none, none, .stl 20 9 (.t 20) (.t 78)⟩,
 mv 21 79] [9, 11, 12, 14, 15, 16, 17, 18, 20]) (
 .seq (
 .reg [
 op 81 (.off 0 (.t 9)),
 op 82 (.ldl 9 none (.t 81)),
 op 83 (.ldl 18 (some 9) (.t 18)),
 op 84 (.ldl 20 (some 9) (.t 20)),
 op 85 (.call f_field_Add [] [(.t 82), (.t 83), (.t 84)]),
 mv 80 85,
 op 86 (.ext 0 (.t 80)),
 op 87 (.ext 1 (.t 80)),
 op 22 (.box (.c (.agg [.u 64 0, .u 64 0, .u 64 0, .u 64 0, .u 64 0, .u 64 0, .u 64 0, .u 64 0, .u 64 0]))),
 ⟨none, none, .stl 22 9 (.t 22) (.t 86)⟩,
 mv 23 87] [9, 11, 12, 14, 15, 16, 17, 22, 23]) (
 .seq (
 .reg [
 op 89 (.off 0 (.t 9)),
 op 90 (.ldl 9 none (.t 89)),
 op 91 (.ldl 14 (some 9) (.t 14)),
 op 92 (.ldl 12 (some 9) (.t 12)),
 op 93 (.call f_field_Sub [] [(.t 90), (.t 91), (.t 92)]),
 mv 88 93,
 op 94 (.ext 0 (.t 88)),
 op 95 (.ext 1 (.t 88)),
 op 24 (.box (.c (.agg [.u 64 0, .u 64 0, .u 64 0, .u 64 0, .u 64 0, .u 64 0, .u 64 0, .u 64 0, .u 64 0]))),
 ⟨none, none, .stl 24 9 (.t 24) (.t 94)⟩,
 mv 25 95] [11, 15, 16, 17, 22, 23, 24, 25]) (
 .seq (
 .reg [
 mv 96 15,
 op 97 (.call f_curvetlaw0_Num [] [(.t 96)]),
 op 98 (.bin .eql (.t 97) (.c (.i 0))),
 mv 99 98,
 ⟨some 100, (some (99, true)), .mov (.t 17)⟩,
 ⟨some 101, (some (99, true)), .call f_curvetlaw0_Num [] [(.t 100)]⟩,
 ⟨some 102, (some (99, true)), .bin .eql (.t 101) (.c (.i 0))⟩,
 op 103 (.pick (.t 99) (.t 102) (.c (.b false))),
 mv 104 103,
 ⟨some 105, (some (104, true)), .mov (.t 23)⟩,
 ⟨some 106, (some (104, true)), .call f_curvetlaw0_Num [] [(.t 105)]⟩,
 ⟨some 107, (some (104, true)), .bin .eql (.t 106) (.c (.i 0))⟩,
 op 108 (.pick (.t 104) (.t 107) (.c (.b false))),
 mv 109 108,
 ⟨some 110, (some (109, true)), .mov (.t 25)⟩,
 ⟨some 111, (some (109, true)), .call f_curvetlaw0_Num [] [(.t 110)]⟩,
 ⟨some 112, (some (109, true)), .bin .eql (.t 111) (.c (.i 0))⟩,
 op 113 (.pick (.t 109) (.t 112) (.c (.b false))),
 mv 114 113,
 ⟨some 115, (some (114, true)), .ldl 16 (some 9) (.t 16)⟩,
 ⟨some 116, (some (114, true)), .ldl 22 (some 9) (.t 22)⟩,
 ⟨some 117, (some (114, true)), .eqv (.agg [.u 64, .u 64, .u 64, .u 64, .u 64, .u 64, .u 64, .u 64, .u 64]) false (.t 115) (.t 116)⟩,
 op 118 (.pick (.t 114) (.t 117) (.c (.b false))),
 mv 119 118,
 ⟨some 120, (some (119, true)), .ldl 24 (some 9) (.t 24)⟩,
 ⟨some 121, (some (119, true)), .ldl 11 (some 9) (.t 11)⟩,
 ⟨some 122, (some (119, true)), .eqv (.agg [.u 64, .u 64, .u 64, .u 64, .u 64, .u 64, .u 64, .u 64, .u 64]) false (.t 120) (.t 121)⟩,
 op 123 (.pick (.t 119) (.t 122) (.c (.b false))),
 mv 8 123] [8]) (
 .ret))))))))))))
def m_curvetlaw5_FieldRules : MFn := ⟨c_curvetlaw5_FieldRules, [.tmp 8], 0⟩

/-- curvet/curvetlaw5.FieldSquares -/
def c_curvetlaw5_FieldSquares : Stm :=
 .seq (
 .reg [
 op 3 (.boxv (.t 1)),
 op 4 (.mov (.c (.b false)))] [0, 3]) (
 .seq (
 .seq (
 .reg [
 op 18 (.call f_curvetlaw5_awake [] []),
 op 19 (.un .not (.t 18))] [0, 3, 19]) (
 .cond (.t 19) (
 .seq (
 .reg [
 op 4 (.mov (.c (.b false)))] [4]) (
 .ret)) (
 .reg [] [0, 3]))) (
 .seq (
 .reg [
 mv 21 0,
 op 22 (.cvu 64 (.t 21)),
 op 23 (.bin .rem (.t 22) (.c (.u 64 15))),
 op 24 (.cvi (.t 23)),
 op 25 (.bin .add (.c (.i 1)) (.t 24)),
 op 26 (.call f_curvetref13_Get [] [(.t 25)]),
 mv 20 26,
 op 27 (.ext 0 (.t 20)),
 op 28 (.ext 1 (.t 20)),
 op 5 (.box (.c (.agg [.i 0, .nils, .nils, .nils, .nils, .nils, .nils]))),
 ⟨none, none, .stl 5 7 (.t 5) (.t 27)⟩,
 mv 6 28] [3, 5, 6]) (
 .seq (
 .seq (
 .reg [
 mv 29 6,
 op 30 (.un .not (.t 29))] [3, 5, 30]) (
 .cond (.t 30) (
 .seq (
 .reg [
 op 4 (.mov (.c (.b false)))] [4]) (
 .ret)) (
 .reg [] [3, 5]))) (
 .seq (
 .reg [
 op 31 (.ldl 5 (some 7) (.t 5)),
 op 32 (.ld true (some 9) (.t 3)),
 op 33 (.call f_curvetlaw5_below [] [(.t 31), (.t 32)]),
 op 7 (.box (.c (.agg [.u 64 0, .u 64 0, .u 64 0, .u 64 0, .u 64 0, .u 64 0, .u 64 0, .u 64 0, .u 64 0]))),
 ⟨none, none, .stl 7 9 (.t 7) (.t 33)⟩] [5, 7]) (
 .seq (
 .reg [
 op 35 (.off 0 (.t 5)),
 op 36 (.ldl 5 none (.t 35)),
 op 37 (.ldl 7 (some 9) (.t 7)),
 op 38 (.ldl 7 (some 9) (.t 7)),
 op 39 (.call f_field_Mul [] [(.t 36), (.t 37), (.t 38)]),
 mv 34 39,
 op 40 (.ext 0 (.t 34)),
 op 41 (.ext 1 (.t 34)),
 op 8 (.box (.c (.agg [.u 64 0, .u 64 0, .u 64 0, .u 64 0, .u 64 0, .u 64 0, .u 64 0, .u 64 0, .u 64 0]))),
 ⟨none, none, .stl 8 9 (.t 8) (.t 40)⟩,
 mv 9 41] [5, 7, 8, 9]) (
 .seq (
 .reg [
 op 43 (.off 0 (.t 5)),
 op 44 (.ldl 5 none (.t 43)),
 op 45 (.ldl 8 (some 9) (.t 8)),
 op 46 (.call f_field_Sqrt [] [(.t 44), (.t 45)]),
 mv 42 46,
 op 47 (.ext 0 (.t 42)),
 op 48 (.ext 1 (.t 42)),
 op 10 (.box (.c (.agg [.u 64 0, .u 64 0, .u 64 0, .u 64 0, .u 64 0, .u 64 0, .u 64 0, .u 64 0, .u 64 0]))),
 ⟨none, none, .stl 10 9 (.t 10) (.t 47)⟩,
 mv 11 48] [5, 7, 9, 10, 11]) (
 .seq (
 .reg [
 op 50 (.off 0 (.t 5)),
 op 51 (.ldl 5 none (.t 50)),
 op 52 (.build [.u 64 0, .u 64 0, .u 64 0, .u 64 0, .u 64 0, .u 64 0, .u 64 0, .u 64 0, .u 64 0] []),
 op 53 (.ldl 10 (some 9) (.t 10)),
 op 54 (.call f_field_Sub [] [(.t 51), (.t 52), (.t 53)]),
 mv 49 54,
 op 55 (.ext 0 (.t 49)),
 op 56 (.ext 1 (.t 49)),
 op 12 (.box (.c (.agg [.u 64 0, .u 64 0, .u 64 0, .u 64 0, .u 64 0, .u 64 0, .u 64 0, .u 64 0, .u 64 0]))),
 ⟨none, none, .stl 12 9 (.t 12) (.t 55)⟩,
 mv 13 56] [5, 7, 9, 10, 11, 12, 13]) (
 .seq (
 .reg [
 op 58 (.off 0 (.t 5)),
 op 59 (.ldl 5 none (.t 58)),
 op 60 (.ldl 7 (some 9) (.t 7)),
 op 61 (.call f_field_Inv [] [(.t 59), (.t 60)]),
 mv 57 61,
 op 62 (.ext 0 (.t 57)),
 op 63 (.ext 1 (.t 57)),
 op 14 (.box (.c (.agg [.u 64 0, .u 64 0, .u 64 0, .u 64 0, .u 64 0, .u 64 0, .u 64 0, .u 64 0, .u 64 0]))),
 ⟨none, none, .stl 14 9 (.t 14) (.t 62)⟩,
 mv 15 63] [5, 7, 9, 10, 11, 12, 13, 14, 15]) (
 .seq (
 .reg [
 op 65 (.off 0 (.t 5)),
 op 66 (.ldl 5 none (.t 65)),
 op 67 (.ldl 7 (some 9) (.t 7)),
 op 68 (.ldl 14 (some 9) (.t 14)),
 op 69 (.call f_field_Mul [] [(.t 66), (.t 67), (.t 68)]),
 mv 64 69,
 op 70 (.ext 0 (.t 64)),
 op 71 (.ext 1 (.t 64)),
 op 16 (.box (.c (.agg [.u 64 0, .u 64 0, .u 64 0, .u 64 0, .u 64 0, .u 64 0, .u 64 0, .u 64 0, .u 64 0]))),
 ⟨none, none, .stl 16 9 (.t 16) (.t 70)⟩,
 mv 17 71] [7, 9, 10, 11, 12, 13, 15, 16]) (
 .seq (
 .seq (
 .reg [
 op 72 (.ldl 7 (some 9) (.t 7)),
 op 73 (.build [.u 64 0, .u 64 0, .u 64 0, .u 64 0, .u 64 0, .u 64 0, .u 64 0, .u 64 0, .u 64 0] []),
 op 74 (.eqv (.agg [.u 64, .u 64, .u 64, .u 64, .u 64, .u 64, .u 64, .u 64, .u 64]) false (.t 72) (.t 73))] [7, 9, 10, 11, 12, 13, 15, 16, 74]) (
 .cond (.t 74) (
 .seq (
 .reg [
 mv 75 15,
 op 76 (.call f_curvetlaw0_Num [] [(.t 75)]),
 op 77 (.bin .eql (.t 76) (.c (.i 502))),
 mv 78 77,
 ⟨some 79, (some (78, true)), .ldl 10 (some 9) (.t 10)⟩,
 ⟨some 80, (some (78, true)), .build [.u 64 0, .u 64 0, .u 64 0, .u 64 0, .u 64 0, .u 64 0, .u 64 0, .u 64 0, .u 64 0] []⟩,
 ⟨some 81, (some (78, true)), .eqv (.agg [.u 64, .u 64, .u 64, .u 64, .u 64, .u 64, .u 64, .u 64, .u 64]) false (.t 79) (.t 80)⟩,
 op 82 (.pick (.t 78) (.t 81) (.c (.b false))),
 mv 83 82,
 ⟨some 84, (some (83, true)), .mov (.t 11)⟩,
 ⟨some 85, (some (83, true)), .call f_curvetlaw0_Num [] [(.t 84)]⟩,
 ⟨some 86, (some (83, true)), .bin .eql (.t 85) (.c (.i 0))⟩,
 op 87 (.pick (.t 83) (.t 86) (.c (.b false))),
 mv 4 87] [4]) (
 .ret)) (
 .reg [] [7, 9, 10, 11, 12, 13, 15, 16]))) (
 .seq (
 .reg [
 mv 88 9,
 op 89 (.call f_curvetlaw0_Num [] [(.t 88)]),
 op 90 (.bin .eql (.t 89) (.c (.i 0))),
 mv 91 90,
 ⟨some 92, (some (91, true)), .mov (.t 11)⟩,
 ⟨some 93, (some (91, true)), .call f_curvetlaw0_Num [] [(.t 92)]⟩,
 ⟨some 94, (some (91, true)), .bin .eql (.t 93) (.c (.i 0))⟩,
 op 95 (.pick (.t 91) (.t 94) (.c (.b false))),
 mv 96 95,
 ⟨some 97, (some (96, true)), .mov (.t 13)⟩,
 ⟨some 98, (some (96, true)), .call f_curvetlaw0_Num [] [(.t 97)]⟩,
 ⟨some 99, (some (96, true)), .bin .eql (.t 98) (.c (.i 0))⟩,
 op 100 (.pick (.t 96) (.t 99) (.c (.b false))),
 mv 101 100,
 ⟨some 102, (some (101, true)), .mov (.t 15)⟩,
 ⟨some 103, (some (101, true)), .call f_curvetlaw0_Num [] [(.t 102)]⟩,
 ⟨some 104, (some (101, true)), .bin .eql (.t 103) (.c (.i 0))⟩,
 op 105 (.pick (.t 101) (.t 104) (.c (.b false))),
 mv 106 105,
 ⟨some 107, (some (106, true)), .ldl 16 (some 9) (.t 16)⟩,
 ⟨some 108, (some (106, true)), .call f_curvetlaw0_One [] [(.c (.u 64 1))]⟩,
 ⟨some 109, (some (106, true)), .eqv (.agg [.u 64, .u 64, .u 64, .u 64, .u 64, .u 64, .u 64, .u 64, .u 64]) false (.t 107) (.t 108)⟩,
 op 110 (.pick (.t 106) (.t 109) (.c (.b false))),
 mv 111 110,
 ⟨some 112, (some (111, true)), .off 0 (.t 10)⟩,
 ⟨some 113, (some (111, true)), .idx 9 1 (.t 112) (.c (.i 0))⟩,
 ⟨some 114, (some (111, true)), .ldl 10 none (.t 113)⟩,
 ⟨some 115, (some (111, true)), .bin .and (.t 114) (.c (.u 64 1))⟩,
 ⟨some 116, (some (111, true)), .bin .eql (.t 115) (.c (.u 64 0))⟩,
 op 117 (.pick (.t 111) (.t 116) (.c (.b false))),
 mv 118 117,
 ⟨some 119, (some (118, true)), .ldl 10 (some 9) (.t 10)⟩,
 ⟨some 120, (some (118, true)), .ldl 7 (some 9) (.t 7)⟩,
 ⟨some 121, (some (118, true)), .eqv (.agg [.u 64, .u 64, .u 64, .u 64, .u 64, .u 64, .u 64, .u 64, .u 64]) false (.t 119) (.t 120)⟩,
 ⟨some 122, (some (118, true)), .mov (.t 121)⟩,
 ⟨some 123, (some (122, false)), .ldl 12 (some 9) (.t 12)⟩,
 ⟨some 124, (some (122, false)), .ldl 7 (some 9) (.t 7)⟩,
 ⟨some 125, (some (122, false)), .eqv (.agg [.u 64, .u 64, .u 64, .u 64, .u 64, .u 64, .u 64, .u 64, .u 64]) false (.t 123) (.t 124)⟩,
 ⟨some 126, (some (118, true)), .pick (.t 122) (.c (.b true)) (.t 125)⟩,
 op 127 (.pick (.t 118) (.t 126) (.c (.b false))),
 mv 4 127] [4]) (
 .ret))))))))))))
def m_curvetlaw5_FieldSquares : MFn := ⟨c_curvetlaw5_FieldSquares, [.tmp 4], 0⟩

/-- curvet/curvetlaw5.FieldBounds -/
def c_curvetlaw5_FieldBounds : Stm :=
 .seq (
 .reg [
 op 6 (.mov (.c (.b false)))] [0, 1, 2]) (
 .seq (
 .seq (
 .reg [
 op 27 (.call f_curvetlaw5_awake [] []),
 op 28 (.un .not (.t 27))] [0, 1, 2, 28]) (
 .cond (.t 28) (
 .seq (
 .reg [
 op 6 (.mov (.c (.b false)))] [6]) (
 .ret)) (
 .reg [] [0, 1, 2]))) (
 .seq (
 .reg [
 mv 30 0,
 op 31 (.call f_curvetlaw5_one [] [(.t 30)]),
 mv 29 31,
 op 32 (.ext 0 (.t 29)),
 op 33 (.ext 1 (.t 29)),
 op 7 (.box (.c (.agg [.i 0, .nils, .nils, .nils, .nils, .nils, .nils]))),
 op 8 (.box (.c (.agg [.u 64 0, .u 64 0, .u 64 0, .u 64 0, .u 64 0, .u 64 0, .u 64 0, .u 64 0, .u 64 0]))),
 ⟨none, none, .stl 7 7 (.t 7) (.t 32)⟩,
 ⟨none, none, .stl 8 9 (.t 8) (.t 33)⟩] [1, 2, 7, 8]) (
 .seq (
 .reg [
 op 34 (.ldl 8 (some 9) (.t 8)),
 op 9 (.box (.c (.agg [.u 64 0, .u 64 0, .u 64 0, .u 64 0, .u 64 0, .u 64 0, .u 64 0, .u 64 0, .u 64 0]))),
 ⟨none, none, .stl 9 9 (.t 9) (.t 34)⟩] [1, 2, 7, 8, 9]) (
 .seq (
 .reg [
 op 35 (.off 0 (.t 8)),
 op 36 (.idx 9 1 (.t 35) (.c (.i 0))),
 op 37 (.ldl 8 none (.t 36)),
 mv 38 1,
 op 39 (.bin .rem (.t 38) (.c (.u 64 4))),
 op 40 (.bin .add (.t 37) (.t 39)),
 op 41 (.off 0 (.t 9)),
 op 42 (.idx 9 1 (.t 41) (.c (.i 0))),
 ⟨none, none, .stl 9 1 (.t 42) (.t 40)⟩] [2, 7, 8, 9]) (
 .seq (
 .seq (
 .reg [
 op 43 (.off 0 (.t 9)),
 op 44 (.idx 9 1 (.t 43) (.c (.i 0))),
 op 45 (.ldl 9 none (.t 44)),
 op 46 (.off 0 (.t 8)),
 op 47 (.idx 9 1 (.t 46) (.c (.i 0))),
 op 48 (.ldl 8 none (.t 47)),
 op 49 (.bin .lss (.t 45) (.t 48))] [2, 7, 8, 9, 49]) (
 .cond (.t 49) (
 .reg [
 op 50 (.ldl 8 (some 9) (.t 8)),
 ⟨none, none, .stl 9 9 (.t 9) (.t 50)⟩] [2, 7, 8, 9]) (
 .reg [] [2, 7, 8, 9]))) (
 .seq (
 .reg [
 op 51 (.ldl 8 (some 9) (.t 8)),
 op 10 (.box (.c (.agg [.u 64 0, .u 64 0, .u 64 0, .u 64 0, .u 64 0, .u 64 0, .u 64 0, .u 64 0, .u 64 0]))),
 ⟨none, none, .stl 10 9 (.t 10) (.t 51)⟩] [2, 7, 9, 10]) (
 .seq (
 .reg [
 op 52 (.off 0 (.t 10)),
 op 53 (.idx 9 1 (.t 52) (.c (.i 0))),
 op 54 (.ldl 10 none (.t 53)),
 op 55 (.bin .sub (.t 54) (.c (.u 64 1))),
 op 56 (.off 0 (.t 10)),
 op 57 (.idx 9 1 (.t 56) (.c (.i 0))),
 ⟨none, none, .stl 10 1 (.t 57) (.t 55)⟩] [2, 7, 9, 10]) (
 .seq (
 .reg [
 op 58 (.ldl 9 (some 9) (.t 9)),
 op 59 (.call f_curvetlaw0_One [] [(.c (.u 64 1))]),
 op 11 (.box (.c (.agg [.u 64 0, .u 64 0, .u 64 0, .u 64 0, .u 64 0, .u 64 0, .u 64 0, .u 64 0, .u 64 0]))),
 op 12 (.box (.c (.agg [.u 64 0, .u 64 0, .u 64 0, .u 64 0, .u 64 0, .u 64 0, .u 64 0, .u 64 0, .u 64 0]))),
 ⟨none, none, .stl 11 9 (.t 11) (.t 58)⟩,
 ⟨none, none, .stl 12 9 (.t 12) (.t 59)⟩] [2, 7, 9, 10, 11, 12]) (
 .seq (
 .seq (
 .reg [
 mv 60 2] [7, 9, 10, 11, 12, 60]) (
 .cond (.t 60) (
 .reg [
 op 61 (.call f_curvetlaw0_One [] [(.c (.u 64 1))]),
 op 62 (.ldl 9 (some 9) (.t 9)),
 ⟨none, none, .stl 11 9 (.t 11) (.t 61)⟩,
 ⟨none, none, .stl 12 9 (.t 12) (.t 62)⟩] [7, 9, 10, 11, 12]) (
 .reg [] [7, 9, 10, 11, 12]))) (
 .seq (
 .reg [
 op 64 (.off 0 (.t 7)),
 op 65 (.ldl 7 none (.t 64)),
 op 66 (.ldl 11 (some 9) (.t 11)),
 op 67 (.ldl 12 (some 9) (.t 12)),
 op 68 (.call f_field_Add [] [(.t 65), (.t 66), (.t 67)]),
 mv 63 68,
 op 69 (.ext 0 (.t 63)),
 op 70 (.ext 1 (.t 63)),
 op 13 (.box (.c (.agg [.u 64 0, .u 64 0, .u 64 0, .u 64 0, .u 64 0, .u 64 0, .u 64 0, .u 64 0, .u 64 0]))),
 ⟨none, none, .stl 13 9 (.t 13) (.t 69)⟩,
 mv 14 70] [7, 9, 10, 11, 12, 14]) (
 .seq (
 .reg [
 op 72 (.off 0 (.t 7)),
 op 73 (.ldl 7 none (.t 72)),
 op 74 (.ldl 11 (some 9) (.t 11)),
 op 75 (.ldl 12 (some 9) (.t 12)),
 op 76 (.call f_field_Sub [] [(.t 73), (.t 74), (.t 75)]),
 mv 71 76,
 op 77 (.ext 0 (.t 71)),
 op 78 (.ext 1 (.t 71)),
 op 15 (.box (.c (.agg [.u 64 0, .u 64 0, .u 64 0, .u 64 0, .u 64 0, .u 64 0, .u 64 0, .u 64 0, .u 64 0]))),
 ⟨none, none, .stl 15 9 (.t 15) (.t 77)⟩,
 mv 16 78] [7, 9, 10, 11, 12, 14, 16]) (
 .seq (
 .reg [
 op 80 (.off 0 (.t 7)),
 op 81 (.ldl 7 none (.t 80)),
 op 82 (.ldl 11 (some 9) (.t 11)),
 op 83 (.ldl 12 (some 9) (.t 12)),
 op 84 (.call f_field_Mul [] [(.t 81), (.t 82), (.t 83)]),
 mv 79 84,
 op 85 (.ext 0 (.t 79)),
 op 86 (.ext 1 (.t 79)),
 op 17 (.box (.c (.agg [.u 64 0, .u 64 0, .u 64 0, .u 64 0, .u 64 0, .u 64 0, .u 64 0, .u 64 0, .u 64 0]))),
 ⟨none, none, .stl 17 9 (.t 17) (.t 85)⟩,
 mv 18 86] [7, 9, 10, 14, 16, 18]) (
 .seq (
 .reg [
 op 88 (.off 0 (.t 7)),
 op 89 (.ldl 7 none (.t 88)),
 op 90 (.ldl 9 (some 9) (.t 9)),
 op 91 (.call f_field_Inv [] [(.t 89), (.t 90)]),
 mv 87 91,
 op 92 (.ext 0 (.t 87)),
 op 93 (.ext 1 (.t 87)),
 op 19 (.box (.c (.agg [.u 64 0, .u 64 0, .u 64 0, .u 64 0, .u 64 0, .u 64 0, .u 64 0, .u 64 0, .u 64 0]))),
 ⟨none, none, .stl 19 9 (.t 19) (.t 92)⟩,
 mv 20 93] [7, 9, 10, 14, 16, 18, 20]) (
 .seq (
 .reg [
 op 95 (.off 0 (.t 7)),
 op 96 (.ldl 7 none (.t 95)),
 op 97 (.ldl 9 (some 9) (.t 9)),
 op 98 (.call f_field_Sqrt [] [(.t 96), (.t 97)]),
 mv 94 98,
 op 99 (.ext 0 (.t 94)),
 op 100 (.ext 1 (.t 94)),
 op 21 (.box (.c (.agg [.u 64 0, .u 64 0, .u 64 0, .u 64 0, .u 64 0, .u 64 0, .u 64 0, .u 64 0, .u 64 0]))),
 ⟨none, none, .stl 21 9 (.t 21) (.t 99)⟩,
 mv 22 100] [7, 10, 14, 16, 18, 20, 22]) (
 .seq (
 .reg [
 op 102 (.off 0 (.t 7)),
 op 103 (.ldl 7 none (.t 102)),
 op 104 (.ldl 10 (some 9) (.t 10)),
 op 105 (.call f_curvetlaw0_One [] [(.c (.u 64 1))]),
 op 106 (.call f_field_Add [] [(.t 103), (.t 104), (.t 105)]),
 mv 101 106,
 op 107 (.ext 0 (.t 101)),
 op 108 (.ext 1 (.t 101)),
 op 23 (.box (.c (.agg [.u 64 0, .u 64 0, .u 64 0, .u 64 0, .u 64 0, .u 64 0, .u 64 0, .u 64 0, .u 64 0]))),
 ⟨none, none, .stl 23 9 (.t 23) (.t 107)⟩,
 mv 24 108] [7, 10, 14, 16, 18, 20, 22, 23, 24]) (
 .seq (
 .reg [
 op 110 (.off 0 (.t 7)),
 op 111 (.ldl 7 none (.t 110)),
 op 112 (.ldl 10 (some 9) (.t 10)),
 op 113 (.ldl 10 (some 9) (.t 10)),
 op 114 (.call f_field_Mul [] [(.t 111), (.t 112), (.t 113)]),
 mv 109 114,
 op 115 (.ext 0 (.t 109)),
 op 116 (.ext 1 (.t 109)),
 op 25 (.box (.c (.agg [.u 64 0, .u 64 0, .u 64 0, .u 64 0, .u 64 0, .u 64 0, .u 64 0, .u 64 0, .u 64 0]))),
 ⟨none, none, .stl 25 9 (.t 25) (.t 115)⟩,
 mv 26 116] [14, 16, 18, 20, 22, 23, 24, 25, 26]) (
 .seq (
 .reg [
 mv 117 14,
 op 118 (.call f_curvetlaw0_Num [] [(.t 117)]),
 op 119 (.bin .eql (.t 118) (.c (.i 501))),
 mv 120 119,
 ⟨some 121, (some (120, true)), .mov (.t 16)⟩,
 ⟨some 122, (some (120, true)), .call f_curvetlaw0_Num [] [(.t 121)]⟩,
 ⟨some 123, (some (120, true)), .bin .eql (.t 122) (.c (.i 501))⟩,
 op 124 (.pick (.t 120) (.t 123) (.c (.b false))),
 mv 125 124,
 ⟨some 126, (some (125, true)), .mov (.t 18)⟩,
 ⟨some 127, (some (125, true)), .call f_curvetlaw0_Num [] [(.t 126)]⟩,
 ⟨some 128, (some (125, true)), .bin .eql (.t 127) (.c (.i 501))⟩,
 op 129 (.pick (.t 125) (.t 128) (.c (.b false))),
 mv 130 129,
 ⟨some 131, (some (130, true)), .mov (.t 20)⟩,
 ⟨some 132, (some (130, true)), .call f_curvetlaw0_Num [] [(.t 131)]⟩,
 ⟨some 133, (some (130, true)), .bin .eql (.t 132) (.c (.i 501))⟩,
 op 134 (.pick (.t 130) (.t 133) (.c (.b false))),
 mv 135 134,
 ⟨some 136, (some (135, true)), .mov (.t 22)⟩,
 ⟨some 137, (some (135, true)), .call f_curvetlaw0_Num [] [(.t 136)]⟩,
 ⟨some 138, (some (135, true)), .bin .eql (.t 137) (.c (.i 501))⟩,
 op 139 (.pick (.t 135) (.t 138) (.c (.b false))),
 mv 140 139,
 ⟨some 141, (some (140, true)), .mov (.t 24)⟩,
 ⟨some 142, (some (140, true)), .call f_curvetlaw0_Num [] [(.t 141)]⟩,
 ⟨some 143, (some (140, true)), .bin .eql (.t 142) (.c (.i 0))⟩,
 op 144 (.pick (.t 140) (.t 143) (.c (.b false))),
 mv 145 144,
 ⟨some 146, (some (145, true)), .ldl 23 (some 9) (.t 23)⟩,
 ⟨some 147, (some (145, true)), .call f_curvetlaw0_One [] [(.c (.u 64 0))]⟩,
 ⟨some 148, (some (145, true)), .eqv (.agg [.u 64, .u 64, .u 64, .u 64, .u 64, .u 64, .u 64, .u 64, .u 64]) false (.t 146) (.t 147)⟩,
 op 149 (.pick (.t 145) (.t 148) (.c (.b false))),
 mv 150 149,
 ⟨some 151, (some (150, true)), .mov (.t 26)⟩,
 ⟨some 152, (some (150, true)), .call f_curvetlaw0_Num [] [(.t 151)]⟩,
 ⟨some 153, (some (150, true)), .bin .eql (.t 152) (.c (.i 0))⟩,
 op 154 (.pick (.t 150) (.t 153) (.c (.b false))),
 mv 155 154,
 ⟨some 156, (some (155, true)), .ldl 25 (some 9) (.t 25)⟩,
 ⟨some 157, (some (155, true)), .call f_curvetlaw0_One [] [(.c (.u 64 1))]⟩,
 ⟨some 158, (some (155, true)), .eqv (.agg [.u 64, .u 64, .u 64, .u 64, .u 64, .u 64, .u 64, .u 64, .u 64]) false (.t 156) (.t 157)⟩,
 op 159 (.pick (.t 155) (.t 158) (.c (.b false))),
 mv 6 159] [6]) (
 .ret))))))))))))))))))
def m_curvetlaw5_FieldBounds : MFn := ⟨c_curvetlaw5_FieldBounds, [.tmp 6], 0⟩

/-- curvet/curvetlaw5.FieldFermat -/
def c_curvetlaw5_FieldFermat : Stm :=
 .seq (
 .reg [
 op 3 (.boxv (.t 1)),
 op 4 (.mov (.c (.b false)))] [0, 3]) (
 .seq (
 .seq (
 .reg [
 op 18 (.call f_curvetlaw5_awake [] []),
 op 19 (.un .not (.t 18))] [0, 3, 19]) (
 .cond (.t 19) (
 .seq (
 .reg [
 op 4 (.mov (.c (.b false)))] [4]) (
 .ret)) (
 .reg [] [0, 3]))) (
 .seq (
 .reg [
 mv 21 0,
 op 22 (.call f_curvetlaw5_one [] [(.t 21)]),
 mv 20 22,
 op 23 (.ext 0 (.t 20)),
 op 24 (.ext 1 (.t 20)),
 op 5 (.box (.c (.agg [.i 0, .nils, .nils, .nils, .nils, .nils, .nils]))),
 op 6 (.box (.c (.agg [.u 64 0, .u 64 0, .u 64 0, .u 64 0, .u 64 0, .u 64 0, .u 64 0, .u 64 0, .u 64 0]))),
 ⟨none, none, .stl 5 7 (.t 5) (.t 23)⟩,
 ⟨none, none, .stl 6 9 (.t 6) (.t 24)⟩] [3, 5, 6]) (
 .seq (
 .reg [
 op 25 (.ldl 5 (some 7) (.t 5)),
 op 26 (.ld true (some 9) (.t 3)),
 op 27 (.call f_curvetlaw5_below [] [(.t 25), (.t 26)]),
 op 7 (.box (.c (.agg [.u 64 0, .u 64 0, .u 64 0, .u 64 0, .u 64 0, .u 64 0, .u 64 0, .u 64 0, .u 64 0]))),
 ⟨none, none, .stl 7 9 (.t 7) (.t 27)⟩] [5, 6, 7]) (
 .seq (
 .seq (
 .reg [
 op 28 (.ldl 7 (some 9) (.t 7)),
 op 29 (.build [.u 64 0, .u 64 0, .u 64 0, .u 64 0, .u 64 0, .u 64 0, .u 64 0, .u 64 0, .u 64 0] []),
 op 30 (.eqv (.agg [.u 64, .u 64, .u 64, .u 64, .u 64, .u 64, .u 64, .u 64, .u 64]) false (.t 28) (.t 29))] [5, 6, 7, 30]) (
 .cond (.t 30) (
 .seq (
 .reg [
 op 4 (.mov (.c (.b true)))] [4]) (
 .ret)) (
 .reg [] [5, 6, 7]))) (
 .seq (
 .reg [
 op 32 (.ldl 6 (some 9) (.t 6)),
 op 33 (.call f_curvetlaw0_One [] [(.c (.u 64 1))]),
 op 34 (.call f_nat_Sub [] [(.t 32), (.t 33)]),
 mv 31 34,
 op 35 (.ext 0 (.t 31)),
 op 36 (.ext 1 (.t 31)),
 op 8 (.box (.c (.agg [.u 64 0, .u 64 0, .u 64 0, .u 64 0, .u 64 0, .u 64 0, .u 64 0, .u 64 0, .u 64 0]))),
 ⟨none, none, .stl 8 9 (.t 8) (.t 35)⟩,
 mv 9 36] [5, 6, 7, 8]) (
 .seq (
 .reg [
 op 38 (.ldl 6 (some 9) (.t 6)),
 op 39 (.call f_curvetlaw0_One [] [(.c (.u 64 2))]),
 op 40 (.call f_nat_Sub [] [(.t 38), (.t 39)]),
 mv 37 40,
 op 41 (.ext 0 (.t 37)),
 op 42 (.ext 1 (.t 37)),
 op 10 (.box (.c (.agg [.u 64 0, .u 64 0, .u 64 0, .u 64 0, .u 64 0, .u 64 0, .u 64 0, .u 64 0, .u 64 0]))),
 ⟨none, none, .stl 10 9 (.t 10) (.t 41)⟩,
 mv 11 42] [5, 6, 7, 8, 10]) (
 .seq (
 .reg [
 op 44 (.ldl 7 (some 9) (.t 7)),
 op 45 (.ldl 8 (some 9) (.t 8)),
 op 46 (.ldl 6 (some 9) (.t 6)),
 op 47 (.call f_divide_PowMod [] [(.t 44), (.t 45), (.t 46)]),
 mv 43 47,
 op 48 (.ext 0 (.t 43)),
 op 49 (.ext 1 (.t 43)),
 op 12 (.box (.c (.agg [.u 64 0, .u 64 0, .u 64 0, .u 64 0, .u 64 0, .u 64 0, .u 64 0, .u 64 0, .u 64 0]))),
 ⟨none, none, .stl 12 9 (.t 12) (.t 48)⟩,
 mv 13 49] [5, 6, 7, 10, 12, 13]) (
 .seq (
 .reg [
 op 51 (.ldl 7 (some 9) (.t 7)),
 op 52 (.ldl 10 (some 9) (.t 10)),
 op 53 (.ldl 6 (some 9) (.t 6)),
 op 54 (.call f_divide_PowMod [] [(.t 51), (.t 52), (.t 53)]),
 mv 50 54,
 op 55 (.ext 0 (.t 50)),
 op 56 (.ext 1 (.t 50)),
 op 14 (.box (.c (.agg [.u 64 0, .u 64 0, .u 64 0, .u 64 0, .u 64 0, .u 64 0, .u 64 0, .u 64 0, .u 64 0]))),
 ⟨none, none, .stl 14 9 (.t 14) (.t 55)⟩,
 mv 15 56] [5, 7, 12, 13, 14, 15]) (
 .seq (
 .reg [
 op 58 (.off 0 (.t 5)),
 op 59 (.ldl 5 none (.t 58)),
 op 60 (.ldl 7 (some 9) (.t 7)),
 op 61 (.call f_field_Inv [] [(.t 59), (.t 60)]),
 mv 57 61,
 op 62 (.ext 0 (.t 57)),
 op 63 (.ext 1 (.t 57)),
 op 16 (.box (.c (.agg [.u 64 0, .u 64 0, .u 64 0, .u 64 0, .u 64 0, .u 64 0, .u 64 0, .u 64 0, .u 64 0]))),
 ⟨none, none, .stl 16 9 (.t 16) (.t 62)⟩,
 mv 17 63] [12, 13, 14, 15, 16, 17]) (
 .seq (
 .reg [
 mv 64 13,
 op 65 (.call f_curvetlaw0_Num [] [(.t 64)]),
 op 66 (.bin .eql (.t 65) (.c (.i 0))),
 mv 67 66,
 ⟨some 68, (some (67, true)), .mov (.t 15)⟩,
 ⟨some 69, (some (67, true)), .call f_curvetlaw0_Num [] [(.t 68)]⟩,
 ⟨some 70, (some (67, true)), .bin .eql (.t 69) (.c (.i 0))⟩,
 op 71 (.pick (.t 67) (.t 70) (.c (.b false))),
 mv 72 71,
 ⟨some 73, (some (72, true)), .mov (.t 17)⟩,
 ⟨some 74, (some (72, true)), .call f_curvetlaw0_Num [] [(.t 73)]⟩,
 ⟨some 75, (some (72, true)), .bin .eql (.t 74) (.c (.i 0))⟩,
 op 76 (.pick (.t 72) (.t 75) (.c (.b false))),
 mv 77 76,
 ⟨some 78, (some (77, true)), .ldl 12 (some 9) (.t 12)⟩,
 ⟨some 79, (some (77, true)), .call f_curvetlaw0_One [] [(.c (.u 64 1))]⟩,
 ⟨some 80, (some (77, true)), .eqv (.agg [.u 64, .u 64, .u 64, .u 64, .u 64, .u 64, .u 64, .u 64, .u 64]) false (.t 78) (.t 79)⟩,
 op 81 (.pick (.t 77) (.t 80) (.c (.b false))),
 mv 82 81,
 ⟨some 83, (some (82, true)), .ldl 16 (some 9) (.t 16)⟩,
 ⟨some 84, (some (82, true)), .ldl 14 (some 9) (.t 14)⟩,
 ⟨some 85, (some (82, true)), .eqv (.agg [.u 64, .u 64, .u 64, .u 64, .u 64, .u 64, .u 64, .u 64, .u 64]) false (.t 83) (.t 84)⟩,
 op 86 (.pick (.t 82) (.t 85) (.c (.b false))),
 mv 4 86] [4]) (
 .ret)))))))))))
def m_curvetlaw5_FieldFermat : MFn := ⟨c_curvetlaw5_FieldFermat, [.tmp 4], 0⟩

/-- curvet/curvetlaw5.FieldReduces -/
def c_curvetlaw5_FieldReduces : Stm :=
 .seq (
 .reg [
 op 4 (.boxv (.t 1)),
 op 5 (.boxv (.t 2)),
 op 6 (.mov (.c (.b false)))] [0, 4, 5]) (
 .seq (
 .seq (
 .reg [
 op 17 (.call f_curvetlaw5_awake [] []),
 op 18 (.un .not (.t 17))] [0, 4, 5, 18]) (
 .cond (.t 18) (
 .seq (
 .reg [
 op 6 (.mov (.c (.b false)))] [6]) (
 .ret)) (
 .reg [] [0, 4, 5]))) (
 .seq (
 .reg [
 mv 20 0,
 op 21 (.call f_curvetlaw5_one [] [(.t 20)]),
 mv 19 21,
 op 22 (.ext 0 (.t 19)),
 op 23 (.ext 1 (.t 19)),
 op 7 (.box (.c (.agg [.i 0, .nils, .nils, .nils, .nils, .nils, .nils]))),
 op 8 (.box (.c (.agg [.u 64 0, .u 64 0, .u 64 0, .u 64 0, .u 64 0, .u 64 0, .u 64 0, .u 64 0, .u 64 0]))),
 ⟨none, none, .stl 7 7 (.t 7) (.t 22)⟩,
 ⟨none, none, .stl 8 9 (.t 8) (.t 23)⟩] [4, 5, 7, 8]) (
 .seq (
 .reg [
 op 24 (.ldl 7 (some 7) (.t 7)),
 op 25 (.ld true (some 9) (.t 4)),
 op 26 (.call f_curvetlaw5_below [] [(.t 24), (.t 25)]),
 op 27 (.ldl 7 (some 7) (.t 7)),
 op 28 (.ld true (some 9) (.t 5)),
 op 29 (.call f_curvetlaw5_below [] [(.t 27), (.t 28)]),
 op 9 (.box (.c (.agg [.u 64 0, .u 64 0, .u 64 0, .u 64 0, .u 64 0, .u 64 0, .u 64 0, .u 64 0, .u 64 0]))),
 op 10 (.box (.c (.agg [.u 64 0, .u 64 0, .u 64 0, .u 64 0, .u 64 0, .u 64 0, .u 64 0, .u 64 0, .u 64 0]))),
 ⟨none, none, .stl 9 9 (.t 9) (.t 26)⟩,
 ⟨none, none, .stl 10 9 (.t 10) (.t 29)⟩] [4, 7, 8, 9, 10]) (
 .seq (
 .reg [
 op 31 (.off 0 (.t 7)),
 op 32 (.ldl 7 none (.t 31)),
 op 33 (.ldl 9 (some 9) (.t 9)),
 op 34 (.ldl 10 (some 9) (.t 10)),
 op 35 (.call f_nat_Mul [] [(.t 33), (.t 34)]),
 op 36 (.call f_field_Reduce [] [(.t 32), (.t 35)]),
 mv 30 36,
 op 37 (.ext 0 (.t 30)),
 op 38 (.ext 1 (.t 30)),
 op 11 (.box (.c (.agg [.u 64 0, .u 64 0, .u 64 0, .u 64 0, .u 64 0, .u 64 0, .u 64 0, .u 64 0, .u 64 0]))),
 ⟨none, none, .stl 11 9 (.t 11) (.t 37)⟩,
 mv 12 38] [4, 7, 8, 9, 10, 11, 12]) (
 .seq (
 .reg [
 op 40 (.off 0 (.t 7)),
 op 41 (.ldl 7 none (.t 40)),
 op 42 (.ldl 9 (some 9) (.t 9)),
 op 43 (.ldl 10 (some 9) (.t 10)),
 op 44 (.call f_field_Mul [] [(.t 41), (.t 42), (.t 43)]),
 mv 39 44,
 op 45 (.ext 0 (.t 39)),
 op 46 (.ext 1 (.t 39)),
 op 13 (.box (.c (.agg [.u 64 0, .u 64 0, .u 64 0, .u 64 0, .u 64 0, .u 64 0, .u 64 0, .u 64 0, .u 64 0]))),
 ⟨none, none, .stl 13 9 (.t 13) (.t 45)⟩,
 mv 14 46] [4, 7, 8, 11, 12, 13, 14]) (
 .seq (
 .reg [
 op 48 (.off 0 (.t 7)),
 op 49 (.ldl 7 none (.t 48)),
 op 50 (.ldl 8 (some 9) (.t 8)),
 op 51 (.ld true (some 9) (.t 4)),
 op 52 (.call f_nat_Mul [] [(.t 50), (.t 51)]),
 op 53 (.call f_field_Reduce [] [(.t 49), (.t 52)]),
 mv 47 53,
 op 54 (.ext 0 (.t 47)),
 op 55 (.ext 1 (.t 47)),
 op 15 (.box (.c (.agg [.u 64 0, .u 64 0, .u 64 0, .u 64 0, .u 64 0, .u 64 0, .u 64 0, .u 64 0, .u 64 0]))),
 ⟨none, none, .stl 15 9 (.t 15) (.t 54)⟩,
 mv 16 55] [11, 12, 13, 14, 15, 16]) (
 .seq (
 .reg [
 mv 56 12,
 op 57 (.call f_curvetlaw0_Num [] [(.t 56)]),
 op 58 (.bin .eql (.t 57) (.c (.i 0))),
 mv 59 58,
 ⟨some 60, (some (59, true)), .mov (.t 14)⟩,
 ⟨some 61, (some (59, true)), .call f_curvetlaw0_Num [] [(.t 60)]⟩,
 ⟨some 62, (some (59, true)), .bin .eql (.t 61) (.c (.i 0))⟩,
 op 63 (.pick (.t 59) (.t 62) (.c (.b false))),
 mv 64 63,
 ⟨some 65, (some (64, true)), .mov (.t 16)⟩,
 ⟨some 66, (some (64, true)), .call f_curvetlaw0_Num [] [(.t 65)]⟩,
 ⟨some 67, (some (64, true)), .bin .eql (.t 66) (.c (.i 0))⟩,
 op 68 (.pick (.t 64) (.t 67) (.c (.b false))),
 mv 69 68,
 ⟨some 70, (some (69, true)), .ldl 11 (some 9) (.t 11)⟩,
 ⟨some 71, (some (69, true)), .ldl 13 (some 9) (.t 13)⟩,
 ⟨some 72, (some (69, true)), .eqv (.agg [.u 64, .u 64, .u 64, .u 64, .u 64, .u 64, .u 64, .u 64, .u 64]) false (.t 70) (.t 71)⟩,
 op 73 (.pick (.t 69) (.t 72) (.c (.b false))),
 mv 74 73,
 ⟨some 75, (some (74, true)), .ldl 15 (some 9) (.t 15)⟩,
 ⟨some 76, (some (74, true)), .build [.u 64 0, .u 64 0, .u 64 0, .u 64 0, .u 64 0, .u 64 0, .u 64 0, .u 64 0, .u 64 0] []⟩,
 ⟨some 77, (some (74, true)), .eqv (.agg [.u 64, .u 64, .u 64, .u 64, .u 64, .u 64, .u 64, .u 64, .u 64]) false (.t 75) (.t 76)⟩,
 op 78 (.pick (.t 74) (.t 77) (.c (.b false))),
 mv 6 78] [6]) (
 .ret))))))))
def m_curvetlaw5_FieldReduces : MFn := ⟨c_curvetlaw5_FieldReduces, [.tmp 6], 0⟩

/-- curvet/curvetlaw5.Fields -/
def c_curvetlaw5_Fields : Stm :=
 .seq (
 .reg [
 op 5 (.boxv (.t 1)),
 op 6 (.boxv (.t 2)),
 op 7 (.boxv (.t 3)),
 op 8 (.mov (.c (.b false)))] [0, 5, 6, 7]) (
 .seq (
 .reg [
 mv 22 0,
 op 23 (.call f_curvetref13_Get [] [(.t 22)]),
 mv 21 23,
 op 24 (.ext 0 (.t 21)),
 op 25 (.ext 1 (.t 21)),
 op 9 (.box (.c (.agg [.i 0, .nils, .nils, .nils, .nils, .nils, .nils]))),
 ⟨none, none, .stl 9 7 (.t 9) (.t 24)⟩,
 mv 10 25] [0, 5, 6, 7, 9, 10]) (
 .seq (
 .reg [
 mv 27 0,
 op 28 (.ld true (some 9) (.t 5)),
 op 29 (.ld true (some 9) (.t 6)),
 op 30 (.call f_field_Add [] [(.t 27), (.t 28), (.t 29)]),
 mv 26 30,
 op 31 (.ext 0 (.t 26)),
 op 32 (.ext 1 (.t 26)),
 op 11 (.box (.c (.agg [.u 64 0, .u 64 0, .u 64 0, .u 64 0, .u 64 0, .u 64 0, .u 64 0, .u 64 0, .u 64 0]))),
 ⟨none, none, .stl 11 9 (.t 11) (.t 31)⟩,
 mv 12 32] [0, 5, 6, 7, 9, 10, 11, 12]) (
 .seq (
 .reg [
 mv 34 0,
 op 35 (.ld true (some 9) (.t 5)),
 op 36 (.ld true (some 9) (.t 6)),
 op 37 (.call f_field_Sub [] [(.t 34), (.t 35), (.t 36)]),
 mv 33 37,
 op 38 (.ext 0 (.t 33)),
 op 39 (.ext 1 (.t 33)),
 op 13 (.box (.c (.agg [.u 64 0, .u 64 0, .u 64 0, .u 64 0, .u 64 0, .u 64 0, .u 64 0, .u 64 0, .u 64 0]))),
 ⟨none, none, .stl 13 9 (.t 13) (.t 38)⟩,
 mv 14 39] [0, 5, 6, 7, 9, 10, 11, 12, 13, 14]) (
 .seq (
 .reg [
 mv 41 0,
 op 42 (.ld true (some 9) (.t 5)),
 op 43 (.ld true (some 9) (.t 6)),
 op 44 (.call f_field_Mul [] [(.t 41), (.t 42), (.t 43)]),
 mv 40 44,
 op 45 (.ext 0 (.t 40)),
 op 46 (.ext 1 (.t 40)),
 op 15 (.box (.c (.agg [.u 64 0, .u 64 0, .u 64 0, .u 64 0, .u 64 0, .u 64 0, .u 64 0, .u 64 0, .u 64 0]))),
 ⟨none, none, .stl 15 9 (.t 15) (.t 45)⟩,
 mv 16 46] [0, 5, 6, 7, 9, 10, 11, 12, 13, 14, 15, 16]) (
 .seq (
 .reg [
 mv 48 0,
 op 49 (.ld true (some 18) (.t 7)),
 op 50 (.call f_field_Reduce [] [(.t 48), (.t 49)]),
 mv 47 50,
 op 51 (.ext 0 (.t 47)),
 op 52 (.ext 1 (.t 47)),
 op 17 (.box (.c (.agg [.u 64 0, .u 64 0, .u 64 0, .u 64 0, .u 64 0, .u 64 0, .u 64 0, .u 64 0, .u 64 0]))),
 ⟨none, none, .stl 17 9 (.t 17) (.t 51)⟩,
 mv 18 52] [5, 6, 7, 9, 10, 11, 12, 13, 14, 15, 16, 17, 18]) (
 .seq (
 .seq (
 .reg [
 mv 53 10,
 op 54 (.un .not (.t 53))] [5, 6, 7, 9, 11, 12, 13, 14, 15, 16, 17, 18, 54]) (
 .cond (.t 54) (
 .seq (
 .reg [
 mv 55 12,
 op 56 (.call f_curvetlaw0_Num [] [(.t 55)]),
 op 57 (.bin .eql (.t 56) (.c (.i 500))),
 mv 58 57,
 ⟨some 59, (some (58, true)), .mov (.t 14)⟩,
 ⟨some 60, (some (58, true)), .call f_curvetlaw0_Num [] [(.t 59)]⟩,
 ⟨some 61, (some (58, true)), .bin .eql (.t 60) (.c (.i 500))⟩,
 op 62 (.pick (.t 58) (.t 61) (.c (.b false))),
 mv 63 62,
 ⟨some 64, (some (63, true)), .mov (.t 16)⟩,
 ⟨some 65, (some (63, true)), .call f_curvetlaw0_Num [] [(.t 64)]⟩,
 ⟨some 66, (some (63, true)), .bin .eql (.t 65) (.c (.i 500))⟩,
 op 67 (.pick (.t 63) (.t 66) (.c (.b false))),
 mv 68 67,
 ⟨some 69, (some (68, true)), .mov (.t 18)⟩,
 ⟨some 70, (some (68, true)), .call f_curvetlaw0_Num [] [(.t 69)]⟩,
 ⟨some 71, (some (68, true)), .bin .eql (.t 70) (.c (.i 500))⟩,
 op 72 (.pick (.t 68) (.t 71) (.c (.b false))),
 mv 73 72,
 ⟨some 74, (some (73, true)), .ldl 11 (some 9) (.t 11)⟩,
 ⟨some 75, (some (73, true)), .build [.u 64 0, .u 64 0, .u 64 0, .u 64 0, .u 64 0, .u 64 0, .u 64 0, .u 64 0, .u 64 0] []⟩,
 ⟨some 76, (some (73, true)), .eqv (.agg [.u 64, .u 64, .u 64, .u 64, .u 64, .u 64, .u 64, .u 64, .u 64]) false (.t 74) (.t 75)⟩,
 op 77 (.pick (.t 73) (.t 76) (.c (.b false))),
 mv 78 77,
 ⟨some 79, (some (78, true)), .ldl 17 (some 9) (.t 17)⟩,
 ⟨some 80, (some (78, true)), .build [.u 64 0, .u 64 0, .u 64 0, .u 64 0, .u 64 0, .u 64 0, .u 64 0, .u 64 0, .u 64 0] []⟩,
 ⟨some 81, (some (78, true)), .eqv (.agg [.u 64, .u 64, .u 64, .u 64, .u 64, .u 64, .u 64, .u 64, .u 64]) false (.t 79) (.t 80)⟩,
 op 82 (.pick (.t 78) (.t 81) (.c (.b false))),
 mv 83 82,
 ⟨some 84, (some (83, true)), .call f_curvetlaw5_awake [] []⟩,
 op 85 (.pick (.t 83) (.t 84) (.c (.b false))),
 mv 8 85] [8]) (
 .ret)) (
 .reg [] [5, 6, 7, 9, 11, 12, 13, 14, 15, 16, 17, 18]))) (
 .seq (
 .seq (
 .reg [
 mv 86 18,
 op 87 (.call f_curvetlaw0_Num [] [(.t 86)]),
 op 88 (.bin .neq (.t 87) (.c (.i 0))),
 mv 89 88,
 ⟨some 90, (some (89, false)), .ldl 17 (some 9) (.t 17)⟩,
 ⟨some 91, (some (89, false)), .ld true (some 18) (.t 7)⟩,
 ⟨some 92, (some (89, false)), .call f_curvetref1_Of [] [(.t 91)]⟩,
 ⟨some 93, (some (89, false)), .off 1 (.t 9)⟩,
 ⟨some 94, (some (89, false)), .ldl 9 none (.t 93)⟩,
 ⟨some 95, (some (89, false)), .call f_curvetref1_Mod [] [(.t 92), (.t 94)]⟩,
 ⟨some 96, (some (89, false)), .call f_curvetref1_Nat [] [(.t 95)]⟩,
 ⟨some 97, (some (89, false)), .eqv (.agg [.u 64, .u 64, .u 64, .u 64, .u 64, .u 64, .u 64, .u 64, .u 64]) true (.t 90) (.t 96)⟩,
 op 98 (.pick (.t 89) (.c (.b true)) (.t 97))] [5, 6, 9, 11, 12, 13, 14, 15, 16, 98]) (
 .cond (.t 98) (
 .seq (
 .reg [
 op 8 (.mov (.c (.b false)))] [8]) (
 .ret)) (
 .reg [] [5, 6, 9, 11, 12, 13, 14, 15, 16]))) (
 .seq (
 .reg [
 op 99 (.ld true (some 9) (.t 5)),
 op 100 (.call f_curvetref1_From [] [(.t 99)]),
 op 101 (.ld true (some 9) (.t 6)),
 op 102 (.call f_curvetref1_From [] [(.t 101)]),
 mv 19 100,
 mv 20 102] [9, 11, 12, 13, 14, 15, 16, 19, 20]) (
 .seq (
 .seq (
 .reg [
 mv 103 19,
 op 104 (.off 1 (.t 9)),
 op 105 (.ldl 9 none (.t 104)),
 op 106 (.call f_curvetref1_Cmp [] [(.t 103), (.t 105)]),
 op 107 (.bin .geq (.t 106) (.c (.i 0))),
 mv 108 107,
 ⟨some 109, (some (108, false)), .mov (.t 20)⟩,
 ⟨some 110, (some (108, false)), .off 1 (.t 9)⟩,
 ⟨some 111, (some (108, false)), .ldl 9 none (.t 110)⟩,
 ⟨some 112, (some (108, false)), .call f_curvetref1_Cmp [] [(.t 109), (.t 111)]⟩,
 ⟨some 113, (some (108, false)), .bin .geq (.t 112) (.c (.i 0))⟩,
 op 114 (.pick (.t 108) (.c (.b true)) (.t 113))] [9, 11, 12, 13, 14, 15, 16, 19, 20, 114]) (
 .cond (.t 114) (
 .seq (
 .reg [
 mv 115 12,
 op 116 (.call f_curvetlaw0_Num [] [(.t 115)]),
 op 117 (.bin .eql (.t 116) (.c (.i 501))),
 mv 118 117,
 ⟨some 119, (some (118, true)), .mov (.t 14)⟩,
 ⟨some 120, (some (118, true)), .call f_curvetlaw0_Num [] [(.t 119)]⟩,
 ⟨some 121, (some (118, true)), .bin .eql (.t 120) (.c (.i 501))⟩,
 op 122 (.pick (.t 118) (.t 121) (.c (.b false))),
 mv 123 122,
 ⟨some 124, (some (123, true)), .mov (.t 16)⟩,
 ⟨some 125, (some (123, true)), .call f_curvetlaw0_Num [] [(.t 124)]⟩,
 ⟨some 126, (some (123, true)), .bin .eql (.t 125) (.c (.i 501))⟩,
 op 127 (.pick (.t 123) (.t 126) (.c (.b false))),
 mv 128 127,
 ⟨some 129, (some (128, true)), .ldl 11 (some 9) (.t 11)⟩,
 ⟨some 130, (some (128, true)), .build [.u 64 0, .u 64 0, .u 64 0, .u 64 0, .u 64 0, .u 64 0, .u 64 0, .u 64 0, .u 64 0] []⟩,
 ⟨some 131, (some (128, true)), .eqv (.agg [.u 64, .u 64, .u 64, .u 64, .u 64, .u 64, .u 64, .u 64, .u 64]) false (.t 129) (.t 130)⟩,
 op 132 (.pick (.t 128) (.t 131) (.c (.b false))),
 mv 133 132,
 ⟨some 134, (some (133, true)), .ldl 13 (some 9) (.t 13)⟩,
 ⟨some 135, (some (133, true)), .build [.u 64 0, .u 64 0, .u 64 0, .u 64 0, .u 64 0, .u 64 0, .u 64 0, .u 64 0, .u 64 0] []⟩,
 ⟨some 136, (some (133, true)), .eqv (.agg [.u 64, .u 64, .u 64, .u 64, .u 64, .u 64, .u 64, .u 64, .u 64]) false (.t 134) (.t 135)⟩,
 op 137 (.pick (.t 133) (.t 136) (.c (.b false))),
 mv 138 137,
 ⟨some 139, (some (138, true)), .ldl 15 (some 9) (.t 15)⟩,
 ⟨some 140, (some (138, true)), .build [.u 64 0, .u 64 0, .u 64 0, .u 64 0, .u 64 0, .u 64 0, .u 64 0, .u 64 0, .u 64 0] []⟩,
 ⟨some 141, (some (138, true)), .eqv (.agg [.u 64, .u 64, .u 64, .u 64, .u 64, .u 64, .u 64, .u 64, .u 64]) false (.t 139) (.t 140)⟩,
 op 142 (.pick (.t 138) (.t 141) (.c (.b false))),
 mv 143 142,
 ⟨some 144, (some (143, true)), .call f_curvetlaw5_awake [] []⟩,
 op 145 (.pick (.t 143) (.t 144) (.c (.b false))),
 mv 8 145] [8]) (
 .ret)) (
 .reg [] [9, 11, 12, 13, 14, 15, 16, 19, 20]))) (
 .seq (
 .reg [
 mv 146 12,
 op 147 (.call f_curvetlaw0_Num [] [(.t 146)]),
 op 148 (.bin .eql (.t 147) (.c (.i 0))),
 mv 149 148,
 ⟨some 150, (some (149, true)), .mov (.t 14)⟩,
 ⟨some 151, (some (149, true)), .call f_curvetlaw0_Num [] [(.t 150)]⟩,
 ⟨some 152, (some (149, true)), .bin .eql (.t 151) (.c (.i 0))⟩,
 op 153 (.pick (.t 149) (.t 152) (.c (.b false))),
 mv 154 153,
 ⟨some 155, (some (154, true)), .mov (.t 16)⟩,
 ⟨some 156, (some (154, true)), .call f_curvetlaw0_Num [] [(.t 155)]⟩,
 ⟨some 157, (some (154, true)), .bin .eql (.t 156) (.c (.i 0))⟩,
 op 158 (.pick (.t 154) (.t 157) (.c (.b false))),
 mv 159 158,
 ⟨some 160, (some (159, true)), .ldl 11 (some 9) (.t 11)⟩,
 ⟨some 161, (some (159, true)), .mov (.t 19)⟩,
 ⟨some 162, (some (159, true)), .mov (.t 20)⟩,
 ⟨some 163, (some (159, true)), .off 1 (.t 9)⟩,
 ⟨some 164, (some (159, true)), .ldl 9 none (.t 163)⟩,
 ⟨some 165, (some (159, true)), .call f_curvetref1_AddMod [] [(.t 161), (.t 162), (.t 164)]⟩,
 ⟨some 166, (some (159, true)), .call f_curvetref1_Nat [] [(.t 165)]⟩,
 ⟨some 167, (some (159, true)), .eqv (.agg [.u 64, .u 64, .u 64, .u 64, .u 64, .u 64, .u 64, .u 64, .u 64]) false (.t 160) (.t 166)⟩,
 op 168 (.pick (.t 159) (.t 167) (.c (.b false))),
 mv 169 168,
 ⟨some 170, (some (169, true)), .ldl 13 (some 9) (.t 13)⟩,
 ⟨some 171, (some (169, true)), .mov (.t 19)⟩,
 ⟨some 172, (some (169, true)), .mov (.t 20)⟩,
 ⟨some 173, (some (169, true)), .off 1 (.t 9)⟩,
 ⟨some 174, (some (169, true)), .ldl 9 none (.t 173)⟩,
 ⟨some 175, (some (169, true)), .call f_curvetref1_SubMod [] [(.t 171), (.t 172), (.t 174)]⟩,
 ⟨some 176, (some (169, true)), .call f_curvetref1_Nat [] [(.t 175)]⟩,
 ⟨some 177, (some (169, true)), .eqv (.agg [.u 64, .u 64, .u 64, .u 64, .u 64, .u 64, .u 64, .u 64, .u 64]) false (.t 170) (.t 176)⟩,
 op 178 (.pick (.t 169) (.t 177) (.c (.b false))),
 mv 179 178,
 ⟨some 180, (some (179, true)), .ldl 15 (some 9) (.t 15)⟩,
 ⟨some 181, (some (179, true)), .mov (.t 19)⟩,
 ⟨some 182, (some (179, true)), .mov (.t 20)⟩,
 ⟨some 183, (some (179, true)), .off 1 (.t 9)⟩,
 ⟨some 184, (some (179, true)), .ldl 9 none (.t 183)⟩,
 ⟨some 185, (some (179, true)), .call f_curvetref1_MulMod [] [(.t 181), (.t 182), (.t 184)]⟩,
 ⟨some 186, (some (179, true)), .call f_curvetref1_Nat [] [(.t 185)]⟩,
 ⟨some 187, (some (179, true)), .eqv (.agg [.u 64, .u 64, .u 64, .u 64, .u 64, .u 64, .u 64, .u 64, .u 64]) false (.t 180) (.t 186)⟩,
 op 188 (.pick (.t 179) (.t 187) (.c (.b false))),
 mv 189 188,
 ⟨some 190, (some (189, true)), .call f_curvetlaw5_awake [] []⟩,
 op 191 (.pick (.t 189) (.t 190) (.c (.b false))),
 mv 8 191] [8]) (
 .ret)))))))))))
def m_curvetlaw5_Fields : MFn := ⟨c_curvetlaw5_Fields, [.tmp 8], 0⟩

/-- curvet/curvetref13.Get -/
def c_curvetref13_Get : Stm :=
 .seq (
 .reg [
 op 2 (.box (.c (.agg [.i 0, .nils, .nils, .nils, .nils, .nils, .nils]))),
 op 3 (.mov (.c (.b false)))] [0, 2]) (
 .seq (
 .reg [
 mv 6 0,
 op 7 (.call f_curvetref13_row [] [(.t 6)]),
 mv 4 7] [0, 2, 4]) (
 .seq (
 .seq (
 .reg [
 mv 8 4,
 op 9 (.eqv .slice false (.t 8) (.c (.nils)))] [0, 2, 4, 9]) (
 .cond (.t 9) (
 .seq (
 .reg [
 op 10 (.build [.i 0, .nils, .nils, .nils, .nils, .nils, .nils] []),
 ⟨none, none, .stl 2 7 (.t 2) (.t 10)⟩,
 op 3 (.mov (.c (.b false)))] [2, 3]) (
 .ret)) (
 .reg [] [0, 2, 4]))) (
 .seq (
 .reg [
 mv 11 0,
 mv 12 4,
 op 13 (.idxs 1 (.t 12) (.c (.i 0))),
 op 14 (.ld false none (.t 13)),
 op 15 (.call f_curvetref13_Hex [] [(.t 14)]),
 mv 16 4,
 op 17 (.idxs 1 (.t 16) (.c (.i 2))),
 op 18 (.ld true none (.t 17)),
 op 19 (.call f_curvetref13_Hex [] [(.t 18)]),
 mv 20 4,
 op 21 (.idxs 1 (.t 20) (.c (.i 3))),
 op 22 (.ld true none (.t 21)),
 op 23 (.call f_curvetref13_Hex [] [(.t 22)]),
 mv 24 4,
 op 25 (.idxs 1 (.t 24) (.c (.i 4))),
 op 26 (.ld true none (.t 25)),
 op 27 (.call f_curvetref13_Hex [] [(.t 26)]),
 mv 28 4,
 op 29 (.idxs 1 (.t 28) (.c (.i 5))),
 op 30 (.ld true none (.t 29)),
 op 31 (.call f_curvetref13_Hex [] [(.t 30)]),
 op 32 (.build [.i 0, .nils, .nils, .nils, .nils, .nils, .nils] [(0, 1, (.t 11)), (1, 1, (.t 15)), (3, 1, (.t 19)), (4, 1, (.t 23)), (5, 1, (.t 27)), (6, 1, (.t 31))]),
 op 5 (.box (.c (.agg [.i 0, .nils, .nils, .nils, .nils, .nils, .nils]))),
 ⟨none, none, .stl 5 7 (.t 5) (.t 32)⟩] [2, 4, 5]) (
 .seq (
 .seq (
 .reg [
 mv 33 4,
 op 34 (.idxs 1 (.t 33) (.c (.i 1))),
 op 35 (.ld false none (.t 34)),
 op 36 (.bin .eql (.t 35) (.c (.s [45])))] [2, 4, 5, 36]) (
 .cond (.t 36) (
 .reg [
 op 37 (.off 1 (.t 5)),
 op 38 (.ldl 5 none (.t 37)),
 op 39 (.lit true 1 1 [.u 32 0] [(0, 1, (.c (.u 32 3)))]),
 op 40 (.call f_curvetref1_Sub [] [(.t 38), (.t 39)]),
 op 41 (.off 2 (.t 5)),
 ⟨none, none, .stl 5 1 (.t 41) (.t 40)⟩] [2, 5]) (
 .reg [
 mv 42 4,
 op 43 (.idxs 1 (.t 42) (.c (.i 1))),
 op 44 (.ld false none (.t 43)),
 op 45 (.call f_curvetref13_Hex [] [(.t 44)]),
 op 46 (.off 2 (.t 5)),
 ⟨none, none, .stl 5 1 (.t 46) (.t 45)⟩] [2, 5]))) (
 .seq (
 .reg [
 op 47 (.ldl 5 (some 7) (.t 5)),
 ⟨none, none, .stl 2 7 (.t 2) (.t 47)⟩,
 op 3 (.mov (.c (.b true)))] [2, 3]) (
 .ret))))))
def m_curvetref13_Get : MFn := ⟨c_curvetref13_Get, [.cell 2 (some 7), .tmp 3], 0⟩

/-- curvet/field.Inv -/
def c_field_Inv : Stm :=
 .seq (
 .reg [
 op 3 (.boxv (.t 1)),
 op 4 (.box (.c (.agg [.u 64 0, .u 64 0, .u 64 0, .u 64 0, .u 64 0, .u 64 0, .u 64 0, .u 64 0, .u 64 0]))),
 op 5 (.mov (.c (.i 0)))] [0, 3, 4]) (
 .seq (
 .reg [
 mv 7 0,
 op 8 (.call f_field_Of [] [(.t 7)]),
 mv 6 8] [3, 4, 6]) (
 .seq (
 .block 0 (
 .seq (
 .reg [
 mv 10 6,
 op 11 (.eqv .ptr false (.t 10) (.c (.nilp))),
 mv 9 11] [3, 4, 6, 9]) (
 .cond (.t 9) (
 .seq (
 .reg [
 op 12 (.build [.u 64 0, .u 64 0, .u 64 0, .u 64 0, .u 64 0, .u 64 0, .u 64 0, .u 64 0, .u 64 0] []),
 ⟨none, none, .stl 4 9 (.t 4) (.t 12)⟩,
 op 5 (.mov (.c (.i 500)))] [4, 5]) (
 .ret)) (
 .seq (
 .reg [
 mv 14 6,
 op 15 (.ld true (some 9) (.t 3)),
 op 16 (.call f_field_Field_Has [] [(.t 14), (.t 15)]),
 op 17 (.un .not (.t 16)),
 mv 13 17] [3, 4, 6, 13]) (
 .cond (.t 13) (
 .seq (
 .reg [
 op 18 (.build [.u 64 0, .u 64 0, .u 64 0, .u 64 0, .u 64 0, .u 64 0, .u 64 0, .u 64 0, .u 64 0] []),
 ⟨none, none, .stl 4 9 (.t 4) (.t 18)⟩,
 op 5 (.mov (.c (.i 501)))] [4, 5]) (
 .ret)) (
 .seq (
 .reg [
 op 20 (.ld true (some 9) (.t 3)),
 op 21 (.build [.u 64 0, .u 64 0, .u 64 0, .u 64 0, .u 64 0, .u 64 0, .u 64 0, .u 64 0, .u 64 0] []),
 op 22 (.eqv (.agg [.u 64, .u 64, .u 64, .u 64, .u 64, .u 64, .u 64, .u 64, .u 64]) false (.t 20) (.t 21)),
 mv 19 22] [3, 4, 6, 19]) (
 .cond (.t 19) (
 .seq (
 .reg [
 op 23 (.build [.u 64 0, .u 64 0, .u 64 0, .u 64 0, .u 64 0, .u 64 0, .u 64 0, .u 64 0, .u 64 0] []),
 ⟨none, none, .stl 4 9 (.t 4) (.t 23)⟩,
 op 5 (.mov (.c (.i 502)))] [4, 5]) (
 .ret)) (
 .reg [] [3, 4, 6])))))))) (
 .seq (
 .reg [
 mv 24 6,
 op 25 (.ld true (some 9) (.t 3)),
 op 26 (.call f_field_Field_Inv [] [(.t 24), (.t 25)]),
 ⟨none, none, .stl 4 9 (.t 4) (.t 26)⟩,
 op 5 (.mov (.c (.i 0)))] [4, 5]) (
 .ret))))
def m_field_Inv : MFn := ⟨c_field_Inv, [.cell 4 (some 9), .tmp 5], 0⟩

/-- curvet/field.Sqrt -/
def c_field_Sqrt : Stm :=
 .seq (
 .reg [
 op 3 (.boxv (.t 1)),
 op 4 (.box (.c (.agg [.u 64 0, .u 64 0, .u 64 0, .u 64 0, .u 64 0, .u 64 0, .u 64 0, .u 64 0, .u 64 0]))),
 op 5 (.mov (.c (.i 0)))] [0, 3, 4]) (
 .seq (
 .reg [
 mv 9 0,
 op 10 (.call f_field_Of [] [(.t 9)]),
 mv 6 10] [3, 4, 6]) (
 .seq (
 .block 0 (
 .seq (
 .reg [
 mv 12 6,
 op 13 (.eqv .ptr false (.t 12) (.c (.nilp))),
 mv 11 13] [3, 4, 6, 11]) (
 .cond (.t 11) (
 .seq (
 .reg [
 op 14 (.build [.u 64 0, .u 64 0, .u 64 0, .u 64 0, .u 64 0, .u 64 0, .u 64 0, .u 64 0, .u 64 0] []),
 ⟨none, none, .stl 4 9 (.t 4) (.t 14)⟩,
 op 5 (.mov (.c (.i 500)))] [4, 5]) (
 .ret)) (
 .seq (
 .reg [
 mv 16 6,
 op 17 (.ld true (some 9) (.t 3)),
 op 18 (.call f_field_Field_Has [] [(.t 16), (.t 17)]),
 op 19 (.un .not (.t 18)),
 mv 15 19] [3, 4, 6, 15]) (
 .cond (.t 15) (
 .seq (
 .reg [
 op 20 (.build [.u 64 0, .u 64 0, .u 64 0, .u 64 0, .u 64 0, .u 64 0, .u 64 0, .u 64 0, .u 64 0] []),
 ⟨none, none, .stl 4 9 (.t 4) (.t 20)⟩,
 op 5 (.mov (.c (.i 501)))] [4, 5]) (
 .ret)) (
 .reg [] [3, 4, 6])))))) (
 .seq (
 .reg [
 mv 22 6,
 op 23 (.ld true (some 9) (.t 3)),
 op 24 (.call f_field_Field_Sqrt [] [(.t 22), (.t 23)]),
 mv 21 24,
 op 25 (.ext 0 (.t 21)),
 op 26 (.ext 1 (.t 21)),
 op 7 (.box (.c (.agg [.u 64 0, .u 64 0, .u 64 0, .u 64 0, .u 64 0, .u 64 0, .u 64 0, .u 64 0, .u 64 0]))),
 ⟨none, none, .stl 7 9 (.t 7) (.t 25)⟩,
 mv 8 26] [4, 7, 8]) (
 .seq (
 .seq (
 .reg [
 mv 27 8,
 op 28 (.un .not (.t 27))] [4, 7, 28]) (
 .cond (.t 28) (
 .seq (
 .reg [
 op 29 (.build [.u 64 0, .u 64 0, .u 64 0, .u 64 0, .u 64 0, .u 64 0, .u 64 0, .u 64 0, .u 64 0] []),
 ⟨none, none, .stl 4 9 (.t 4) (.t 29)⟩,
 op 5 (.mov (.c (.i 503)))] [4, 5]) (
 .ret)) (
 .reg [] [4, 7]))) (
 .seq (
 .reg [
 op 30 (.ldl 7 (some 9) (.t 7)),
 ⟨none, none, .stl 4 9 (.t 4) (.t 30)⟩,
 op 5 (.mov (.c (.i 0)))] [4, 5]) (
 .ret))))))
def m_field_Sqrt : MFn := ⟨c_field_Sqrt, [.cell 4 (some 9), .tmp 5], 0⟩

/-- curvet/curvetref1.From -/
def c_curvetref1_From : Stm :=
 .seq (
 .reg [
 op 1 (.boxv (.t 0)),
 op 2 (.mov (.c (.vs 0 [])))] [1]) (
 .seq (
 .reg [
 op 5 (.mks 1 4 [.u 32 0] (.c (.i 18)) (.c (.i 18))),
 mv 3 5] [1, 3]) (
 .seq (
 .seq (
 .reg [
 op 4 (.mov (.c (.i 0)))] [1, 3, 4]) (
 .block 0 (
 .loop [1, 3, 4] (
 .seq (
 .seq (
 .reg [
 mv 6 4,
 op 7 (.bin .lss (.t 6) (.c (.i 9)))] [1, 3, 4, 7]) (
 .cond (.t 7) (
 .reg [] [1, 3, 4]) (
 .exit 0 [3]))) (
 .seq (
 .block 1 (
 .seq (
 .reg [
 mv 10 3,
 mv 11 4,
 op 12 (.bin .mul (.c (.i 2)) (.t 11)),
 mv 13 4,
 op 14 (.off 0 (.t 1)),
 op 15 (.idx 9 1 (.t 14) (.t 13)),
 op 16 (.ld true none (.t 15)),
 op 17 (.bin .and (.t 16) (.c (.u 64 4294967295))),
 op 18 (.cvu 32 (.t 17)),
 op 19 (.idxs 1 (.t 10) (.t 12)),
 ⟨none, none, .st 1 (.t 19) (.t 18)⟩] [1, 3, 4]) (
 .reg [
 mv 20 3,
 mv 21 4,
 op 22 (.bin .mul (.c (.i 2)) (.t 21)),
 op 23 (.bin .add (.t 22) (.c (.i 1))),
 mv 24 4,
 op 25 (.off 0 (.t 1)),
 op 26 (.idx 9 1 (.t 25) (.t 24)),
 op 27 (.ld true none (.t 26)),
 op 28 (.bin .shr (.t 27) (.c (.u 64 32))),
 op 29 (.cvu 32 (.t 28)),
 op 30 (.idxs 1 (.t 20) (.t 23)),
 ⟨none, none, .st 1 (.t 30) (.t 29)⟩] [1, 3, 4]))) (
 .reg [
 mv 8 4,
 op 9 (.bin .add (.t 8) (.c (.i 1))),
 mv 4 9] [1, 3, 4])))))) (
 .seq (
 .reg [
 mv 31 3,
 op 32 (.call f_curvetref1_trim [] [(.t 31)]),
 mv 2 32] [2]) (
 .ret))))
def m_curvetref1_From : MFn := ⟨c_curvetref1_From, [.tmp 2], 0⟩

/-- curvet/curvetlaw0.Num -/
def c_curvetlaw0_Num : Stm :=
 .seq (
 .reg [
 op 2 (.mov (.c (.i 0)))] [0]) (
 .seq (
 .reg [
 mv 3 0,
 mv 2 3] [2]) (
 .ret))
def m_curvetlaw0_Num : MFn := ⟨c_curvetlaw0_Num, [.tmp 2], 0⟩

/-- curvet/curvetlaw5.awake -/
def c_curvetlaw5_awake : Stm :=
 .seq (
 .reg [
 op 0 (.mov (.c (.b false)))] []) (
 .seq (
 .reg [
 op 12 (.call f_curvetlaw0_One [] [(.c (.u 64 250))]),
 op 13 (.call f_curvetlaw0_One [] [(.c (.u 64 3))]),
 op 14 (.call f_field_Add [] [(.c (.i 13)), (.t 12), (.t 13)]),
 mv 11 14,
 op 15 (.ext 0 (.t 11)),
 op 16 (.ext 1 (.t 11)),
 op 1 (.box (.c (.agg [.u 64 0, .u 64 0, .u 64 0, .u 64 0, .u 64 0, .u 64 0, .u 64 0, .u 64 0, .u 64 0]))),
 ⟨none, none, .stl 1 9 (.t 1) (.t 15)⟩,
 mv 2 16] [1, 2]) (
 .seq (
 .reg [
 op 18 (.call f_curvetlaw0_One [] [(.c (.u 64 4))]),
 op 19 (.call f_field_Sqrt [] [(.c (.i 13)), (.t 18)]),
 mv 17 19,
 op 20 (.ext 0 (.t 17)),
 op 21 (.ext 1 (.t 17)),
 op 3 (.box (.c (.agg [.u 64 0, .u 64 0, .u 64 0, .u 64 0, .u 64 0, .u 64 0, .u 64 0, .u 64 0, .u 64 0]))),
 ⟨none, none, .stl 3 9 (.t 3) (.t 20)⟩,
 mv 4 21] [1, 2, 3, 4]) (
 .seq (
 .reg [
 op 23 (.call f_curvetlaw0_One [] [(.c (.u 64 1))]),
 op 24 (.call f_curvetlaw0_One [] [(.c (.u 64 1))]),
 op 25 (.call f_field_Add [] [(.c (.i 0)), (.t 23), (.t 24)]),
 mv 22 25,
 op 26 (.ext 0 (.t 22)),
 op 27 (.ext 1 (.t 22)),
 op 5 (.box (.c (.agg [.u 64 0, .u 64 0, .u 64 0, .u 64 0, .u 64 0, .u 64 0, .u 64 0, .u 64 0, .u 64 0]))),
 ⟨none, none, .stl 5 9 (.t 5) (.t 26)⟩,
 mv 6 27] [1, 2, 3, 4, 6]) (
 .seq (
 .reg [
 op 29 (.call f_curvetlaw0_One [] [(.c (.u 64 251))]),
 op 30 (.call f_curvetlaw0_One [] [(.c (.u 64 1))]),
 op 31 (.call f_field_Mul [] [(.c (.i 13)), (.t 29), (.t 30)]),
 mv 28 31,
 op 32 (.ext 0 (.t 28)),
 op 33 (.ext 1 (.t 28)),
 op 7 (.box (.c (.agg [.u 64 0, .u 64 0, .u 64 0, .u 64 0, .u 64 0, .u 64 0, .u 64 0, .u 64 0, .u 64 0]))),
 ⟨none, none, .stl 7 9 (.t 7) (.t 32)⟩,
 mv 8 33] [1, 2, 3, 4, 6, 8]) (
 .seq (
 .reg [
 op 35 (.call f_curvetlaw0_One [] [(.c (.u 64 0))]),
 op 36 (.call f_field_Inv [] [(.c (.i 13)), (.t 35)]),
 mv 34 36,
 op 37 (.ext 0 (.t 34)),
 op 38 (.ext 1 (.t 34)),
 op 9 (.box (.c (.agg [.u 64 0, .u 64 0, .u 64 0, .u 64 0, .u 64 0, .u 64 0, .u 64 0, .u 64 0, .u 64 0]))),
 ⟨none, none, .stl 9 9 (.t 9) (.t 37)⟩,
 mv 10 38] [1, 2, 3, 4, 6, 8, 10]) (
 .seq (
 .reg [
 op 39 (.ldl 1 (some 9) (.t 1)),
 op 40 (.call f_curvetlaw0_One [] [(.c (.u 64 2))]),
 op 41 (.eqv (.agg [.u 64, .u 64, .u 64, .u 64, .u 64, .u 64, .u 64, .u 64, .u 64]) false (.t 39) (.t 40)),
 mv 42 41,
 ⟨some 43, (some (42, true)), .mov (.t 2)⟩,
 ⟨some 44, (some (42, true)), .call f_curvetlaw0_Num [] [(.t 43)]⟩,
 ⟨some 45, (some (42, true)), .bin .eql (.t 44) (.c (.i 0))⟩,
 op 46 (.pick (.t 42) (.t 45) (.c (.b false))),
 mv 47 46,
 ⟨some 48, (some (47, true)), .ldl 3 (some 9) (.t 3)⟩,
 ⟨some 49, (some (47, true)), .call f_curvetlaw0_One [] [(.c (.u 64 2))]⟩,
 ⟨some 50, (some (47, true)), .eqv (.agg [.u 64, .u 64, .u 64, .u 64, .u 64, .u 64, .u 64, .u 64, .u 64]) false (.t 48) (.t 49)⟩,
 op 51 (.pick (.t 47) (.t 50) (.c (.b false))),
 mv 52 51,
 ⟨some 53, (some (52, true)), .mov (.t 4)⟩,
 ⟨some 54, (some (52, true)), .call f_curvetlaw0_Num [] [(.t 53)]⟩,
 ⟨some 55, (some (52, true)), .bin .eql (.t 54) (.c (.i 0))⟩,
 op 56 (.pick (.t 52) (.t 55) (.c (.b false))),
 mv 57 56,
 ⟨some 58, (some (57, true)), .mov (.t 6)⟩,
 ⟨some 59, (some (57, true)), .call f_curvetlaw0_Num [] [(.t 58)]⟩,
 ⟨some 60, (some (57, true)), .bin .eql (.t 59) (.c (.i 500))⟩,
 op 61 (.pick (.t 57) (.t 60) (.c (.b false))),
 mv 62 61,
 ⟨some 63, (some (62, true)), .mov (.t 8)⟩,
 ⟨some 64, (some (62, true)), .call f_curvetlaw0_Num [] [(.t 63)]⟩,
 ⟨some 65, (some (62, true)), .bin .eql (.t 64) (.c (.i 501))⟩,
 op 66 (.pick (.t 62) (.t 65) (.c (.b false))),
 mv 67 66,
 ⟨some 68, (some (67, true)), .mov (.t 10)⟩,
 ⟨some 69, (some (67, true)), .call f_curvetlaw0_Num [] [(.t 68)]⟩,
 ⟨some 70, (some (67, true)), .bin .eql (.t 69) (.c (.i 502))⟩,
 op 71 (.pick (.t 67) (.t 70) (.c (.b false))),
 mv 0 71] [0]) (
 .ret)))))))
def m_curvetlaw5_awake : MFn := ⟨c_curvetlaw5_awake, [.tmp 0], 0⟩

/-- curvet/curvetref1.Cmp -/
def c_curvetref1_Cmp : Stm :=
 .seq (
 .reg [
 op 4 (.mov (.c (.i 0)))] [0, 1]) (
 .seq (
 .seq (
 .reg [
 mv 6 0,
 op 7 (.len (.t 6)),
 mv 8 1,
 op 9 (.len (.t 8)),
 op 10 (.bin .neq (.t 7) (.t 9))] [0, 1, 10]) (
 .cond (.t 10) (
 .seq (
 .seq (
 .reg [
 mv 11 0,
 op 12 (.len (.t 11)),
 mv 13 1,
 op 14 (.len (.t 13)),
 op 15 (.bin .lss (.t 12) (.t 14))] [15]) (
 .cond (.t 15) (
 .seq (
 .reg [
 op 4 (.mov (.c (.i (-1))))] [4]) (
 .ret)) (
 .reg [] []))) (
 .seq (
 .reg [
 op 4 (.mov (.c (.i 1)))] [4]) (
 .ret))) (
 .reg [] [0, 1]))) (
 .seq (
 .seq (
 .reg [
 mv 16 0,
 op 17 (.len (.t 16)),
 op 18 (.bin .sub (.t 17) (.c (.i 1))),
 mv 5 18] [0, 1, 5]) (
 .block 0 (
 .loop [0, 1, 5] (
 .seq (
 .seq (
 .reg [
 mv 19 5,
 op 20 (.bin .geq (.t 19) (.c (.i 0)))] [0, 1, 5, 20]) (
 .cond (.t 20) (
 .reg [] [0, 1, 5]) (
 .exit 0 []))) (
 .seq (
 .block 1 (
 .seq (
 .reg [
 mv 23 0,
 mv 24 5,
 op 25 (.idxs 1 (.t 23) (.t 24)),
 op 26 (.ld false none (.t 25)),
 mv 27 1,
 mv 28 5,
 op 29 (.idxs 1 (.t 27) (.t 28)),
 op 30 (.ld false none (.t 29)),
 op 31 (.bin .neq (.t 26) (.t 30))] [0, 1, 5, 31]) (
 .cond (.t 31) (
 .seq (
 .seq (
 .reg [
 mv 32 0,
 mv 33 5,
 op 34 (.idxs 1 (.t 32) (.t 33)),
 op 35 (.ld false none (.t 34)),
 mv 36 1,
 mv 37 5,
 op 38 (.idxs 1 (.t 36) (.t 37)),
 op 39 (.ld false none (.t 38)),
 op 40 (.bin .lss (.t 35) (.t 39))] [40]) (
 .cond (.t 40) (
 .seq (
 .reg [
 op 4 (.mov (.c (.i (-1))))] [4]) (
 .ret)) (
 .reg [] []))) (
 .seq (
 .reg [
 op 4 (.mov (.c (.i 1)))] [4]) (
 .ret))) (
 .reg [] [0, 1, 5])))) (
 .reg [
 mv 21 5,
 op 22 (.bin .sub (.t 21) (.c (.i 1))),
 mv 5 22] [0, 1, 5])))))) (
 .seq (
 .reg [
 op 4 (.mov (.c (.i 0)))] [4]) (
 .ret))))
def m_curvetref1_Cmp : MFn := ⟨c_curvetref1_Cmp, [.tmp 4], 0⟩

/-- curvet/curvetref1.Inverse -/
def c_curvetref1_Inverse : Stm :=
 .seq (
 .reg [
 op 4 (.mov (.c (.vs 0 []))),
 op 5 (.mov (.c (.b false)))] [0, 1]) (
 .seq (
 .seq (
 .reg [
 mv 13 1,
 op 14 (.lit true 1 1 [.u 32 0] [(0, 1, (.c (.u 32 1)))]),
 op 15 (.call f_curvetref1_Cmp [] [(.t 13), (.t 14)]),
 op 16 (.bin .leq (.t 15) (.c (.i 0)))] [0, 1, 16]) (
 .cond (.t 16) (
 .seq (
 .reg [
 op 4 (.mov (.c (.vs 0 []))),
 op 5 (.mov (.c (.b false)))] [4, 5]) (
 .ret)) (
 .reg [] [0, 1]))) (
 .seq (
 .reg [
 op 17 (.lit false 1 0 [] []),
 mv 18 1,
 op 19 (.app 1 4 (.t 17) (.t 18)),
 mv 20 0,
 mv 21 1,
 op 22 (.call f_curvetref1_Mod [] [(.t 20), (.t 21)]),
 op 6 (.frz (.t 19)),
 mv 7 22] [1, 6, 7]) (
 .seq (
 .reg [
 op 8 (.mov (.c (.vs 0 [])))] [1, 6, 7, 8]) (
 .seq (
 .reg [
 op 23 (.lit true 1 1 [.u 32 0] [(0, 1, (.c (.u 32 1)))]),
 mv 9 23] [1, 6, 7, 8, 9]) (
 .seq (
 .block 0 (
 .loop [1, 6, 7, 8, 9] (
 .seq (
 .seq (
 .reg [
 mv 24 7,
 op 25 (.len (.t 24)),
 op 26 (.bin .gtr (.t 25) (.c (.i 0)))] [1, 6, 7, 8, 9, 26]) (
 .cond (.t 26) (
 .reg [] [1, 6, 7, 8, 9]) (
 .exit 0 [6, 8]))) (
 .block 1 (
 .seq (
 .reg [
 mv 28 6,
 mv 29 7,
 op 30 (.call f_curvetref1_Div [] [(.t 28), (.t 29)]),
 mv 27 30,
 op 31 (.ext 0 (.t 27)),
 op 32 (.ext 1 (.t 27)),
 mv 10 31,
 mv 11 32] [1, 7, 8, 9, 10, 11]) (
 .seq (
 .reg [
 mv 33 8,
 mv 34 10,
 mv 35 1,
 op 36 (.call f_curvetref1_Mod [] [(.t 34), (.t 35)]),
 mv 37 9,
 mv 38 1,
 op 39 (.call f_curvetref1_MulMod [] [(.t 36), (.t 37), (.t 38)]),
 mv 40 1,
 op 41 (.call f_curvetref1_SubMod [] [(.t 33), (.t 39), (.t 40)]),
 mv 12 41] [1, 7, 9, 11, 12]) (
 .seq (
 .reg [
 mv 42 7,
 mv 6 42] [1, 6, 9, 11, 12]) (
 .seq (
 .reg [
 op 43 (.lit false 1 0 [] []),
 mv 44 11,
 op 45 (.app 1 4 (.t 43) (.t 44)),
 op 7 (.frz (.t 45))] [1, 6, 7, 9, 12]) (
 .seq (
 .reg [
 mv 46 9,
 mv 8 46] [1, 6, 7, 8, 12]) (
 .reg [
 mv 47 12,
 mv 9 47] [1, 6, 7, 8, 9])))))))))) (
 .seq (
 .seq (
 .reg [
 mv 48 6,
 op 49 (.lit true 1 1 [.u 32 0] [(0, 1, (.c (.u 32 1)))]),
 op 50 (.call f_curvetref1_Cmp [] [(.t 48), (.t 49)]),
 op 51 (.bin .neq (.t 50) (.c (.i 0)))] [8, 51]) (
 .cond (.t 51) (
 .seq (
 .reg [
 op 4 (.mov (.c (.vs 0 []))),
 op 5 (.mov (.c (.b false)))] [4, 5]) (
 .ret)) (
 .reg [] [8]))) (
 .seq (
 .reg [
 mv 52 8,
 mv 4 52,
 op 5 (.mov (.c (.b true)))] [4, 5]) (
 .ret))))))))
def m_curvetref1_Inverse : MFn := ⟨c_curvetref1_Inverse, [.tmp 4, .tmp 5], 0⟩

/-- curvet/curvetref1.Sqrt -/
def c_curvetref1_Sqrt : Stm :=
 .seq (
 .reg [
 op 4 (.mov (.c (.vs 0 []))),
 op 5 (.mov (.c (.b false)))] [0, 1]) (
 .seq (
 .seq (
 .reg [
 mv 18 0,
 op 19 (.len (.t 18)),
 op 20 (.bin .eql (.t 19) (.c (.i 0)))] [0, 1, 20]) (
 .cond (.t 20) (
 .seq (
 .reg [
 op 4 (.mov (.c (.vs 0 []))),
 op 5 (.mov (.c (.b true)))] [4, 5]) (
 .ret)) (
 .reg [] [0, 1]))) (
 .seq (
 .reg [
 op 21 (.lit true 1 1 [.u 32 0] [(0, 1, (.c (.u 32 1)))]),
 mv 6 21] [0, 1, 6]) (
 .seq (
 .reg [
 mv 22 1,
 mv 23 6,
 op 24 (.call f_curvetref1_Sub [] [(.t 22), (.t 23)]),
 op 25 (.call f_curvetref1_Shr [] [(.t 24), (.c (.i 1))]),
 mv 7 25] [0, 1, 6, 7]) (
 .seq (
 .seq (
 .reg [
 mv 26 0,
 mv 27 7,
 mv 28 1,
 op 29 (.call f_curvetref1_PowMod [] [(.t 26), (.t 27), (.t 28)]),
 mv 30 6,
 op 31 (.call f_curvetref1_Cmp [] [(.t 29), (.t 30)]),
 op 32 (.bin .neq (.t 31) (.c (.i 0)))] [0, 1, 6, 7, 32]) (
 .cond (.t 32) (
 .seq (
 .reg [
 op 4 (.mov (.c (.vs 0 []))),
 op 5 (.mov (.c (.b false)))] [4, 5]) (
 .ret)) (
 .reg [] [0, 1, 6, 7]))) (
 .seq (
 .reg [
 mv 33 1,
 mv 34 6,
 op 35 (.call f_curvetref1_Sub [] [(.t 33), (.t 34)]),
 mv 8 35] [0, 1, 6, 7, 8]) (
 .seq (
 .reg [
 op 9 (.mov (.c (.i 0)))] [0, 1, 6, 7, 8, 9]) (
 .seq (
 .block 0 (
 .loop [0, 1, 6, 7, 8, 9] (
 .seq (
 .seq (
 .reg [
 mv 36 8,
 op 37 (.call f_curvetref1_Bit [] [(.t 36), (.c (.i 0))]),
 op 38 (.bin .eql (.t 37) (.c (.i 0)))] [0, 1, 6, 7, 8, 9, 38]) (
 .cond (.t 38) (
 .reg [] [0, 1, 6, 7, 8, 9]) (
 .exit 0 [0, 1, 6, 7, 8, 9]))) (
 .block 1 (
 .seq (
 .reg [
 mv 39 8,
 op 40 (.call f_curvetref1_Shr [] [(.t 39), (.c (.i 1))]),
 mv 8 40] [0, 1, 6, 7, 8, 9]) (
 .reg [
 mv 41 9,
 op 42 (.bin .add (.t 41) (.c (.i 1))),
 mv 9 42] [0, 1, 6, 7, 8, 9])))))) (
 .seq (
 .reg [
 op 43 (.lit true 1 1 [.u 32 0] [(0, 1, (.c (.u 32 2)))]),
 mv 10 43] [0, 1, 6, 7, 8, 9, 10]) (
 .seq (
 .block 2 (
 .loop [0, 1, 6, 7, 8, 9, 10] (
 .seq (
 .seq (
 .reg [
 mv 44 10,
 mv 45 7,
 mv 46 1,
 op 47 (.call f_curvetref1_PowMod [] [(.t 44), (.t 45), (.t 46)]),
 mv 48 6,
 op 49 (.call f_curvetref1_Cmp [] [(.t 47), (.t 48)]),
 op 50 (.bin .eql (.t 49) (.c (.i 0)))] [0, 1, 6, 7, 8, 9, 10, 50]) (
 .cond (.t 50) (
 .reg [] [0, 1, 6, 7, 8, 9, 10]) (
 .exit 2 [0, 1, 6, 8, 9, 10]))) (
 .block 3 (
 .reg [
 mv 51 10,
 mv 52 6,
 op 53 (.call f_curvetref1_Add [] [(.t 51), (.t 52)]),
 mv 10 53] [0, 1, 6, 7, 8, 9, 10]))))) (
 .seq (
 .reg [
 mv 54 10,
 mv 55 8,
 mv 56 1,
 op 57 (.call f_curvetref1_PowMod [] [(.t 54), (.t 55), (.t 56)]),
 mv 11 57] [0, 1, 6, 8, 9, 11]) (
 .seq (
 .reg [
 mv 58 0,
 mv 59 8,
 mv 60 6,
 op 61 (.call f_curvetref1_Add [] [(.t 59), (.t 60)]),
 op 62 (.call f_curvetref1_Shr [] [(.t 61), (.c (.i 1))]),
 mv 63 1,
 op 64 (.call f_curvetref1_PowMod [] [(.t 58), (.t 62), (.t 63)]),
 mv 12 64] [0, 1, 6, 8, 9, 11, 12]) (
 .seq (
 .reg [
 mv 65 0,
 mv 66 8,
 mv 67 1,
 op 68 (.call f_curvetref1_PowMod [] [(.t 65), (.t 66), (.t 67)]),
 mv 13 68] [1, 6, 9, 11, 12, 13]) (
 .seq (
 .block 4 (
 .loop [1, 6, 9, 11, 12, 13] (
 .seq (
 .seq (
 .reg [
 mv 69 13,
 mv 70 6,
 op 71 (.call f_curvetref1_Cmp [] [(.t 69), (.t 70)]),
 op 72 (.bin .neq (.t 71) (.c (.i 0)))] [1, 6, 9, 11, 12, 13, 72]) (
 .cond (.t 72) (
 .reg [] [1, 6, 9, 11, 12, 13]) (
 .exit 4 [1, 12]))) (
 .block 5 (
 .seq (
 .reg [
 op 14 (.mov (.c (.i 0)))] [1, 6, 9, 11, 12, 13, 14]) (
 .seq (
 .seq (
 .reg [
 mv 73 13,
 mv 15 73] [1, 6, 9, 11, 12, 13, 14, 15]) (
 .block 6 (
 .loop [1, 6, 9, 11, 12, 13, 14, 15] (
 .seq (
 .seq (
 .reg [
 mv 74 15,
 mv 75 6,
 op 76 (.call f_curvetref1_Cmp [] [(.t 74), (.t 75)]),
 op 77 (.bin .neq (.t 76) (.c (.i 0)))] [1, 6, 9, 11, 12, 13, 14, 15, 77]) (
 .cond (.t 77) (
 .reg [] [1, 6, 9, 11, 12, 13, 14, 15]) (
 .exit 6 [1, 6, 9, 11, 12, 13, 14]))) (
 .seq (
 .block 7 (
 .reg [
 mv 82 14,
 op 83 (.bin .add (.t 82) (.c (.i 1))),
 mv 14 83] [1, 6, 9, 11, 12, 13, 14, 15])) (
 .reg [
 mv 78 15,
 mv 79 15,
 mv 80 1,
 op 81 (.call f_curvetref1_MulMod [] [(.t 78), (.t 79), (.t 80)]),
 mv 15 81] [1, 6, 9, 11, 12, 13, 14, 15])))))) (
 .seq (
 .reg [
 mv 84 11,
 mv 16 84] [1, 6, 9, 12, 13, 14, 16]) (
 .seq (
 .seq (
 .reg [
 op 17 (.mov (.c (.i 0)))] [1, 6, 9, 12, 13, 14, 16, 17]) (
 .block 8 (
 .loop [1, 6, 9, 12, 13, 14, 16, 17] (
 .seq (
 .seq (
 .reg [
 mv 85 17,
 mv 86 9,
 mv 87 14,
 op 88 (.bin .sub (.t 86) (.t 87)),
 op 89 (.bin .sub (.t 88) (.c (.i 1))),
 op 90 (.bin .lss (.t 85) (.t 89))] [1, 6, 9, 12, 13, 14, 16, 17, 90]) (
 .cond (.t 90) (
 .reg [] [1, 6, 9, 12, 13, 14, 16, 17]) (
 .exit 8 [1, 6, 12, 13, 14, 16]))) (
 .seq (
 .block 9 (
 .reg [
 mv 93 16,
 mv 94 16,
 mv 95 1,
 op 96 (.call f_curvetref1_MulMod [] [(.t 93), (.t 94), (.t 95)]),
 mv 16 96] [1, 6, 9, 12, 13, 14, 16, 17])) (
 .reg [
 mv 91 17,
 op 92 (.bin .add (.t 91) (.c (.i 1))),
 mv 17 92] [1, 6, 9, 12, 13, 14, 16, 17])))))) (
 .seq (
 .reg [
 mv 97 14,
 mv 9 97] [1, 6, 9, 12, 13, 16]) (
 .seq (
 .reg [
 mv 98 16,
 mv 99 16,
 mv 100 1,
 op 101 (.call f_curvetref1_MulMod [] [(.t 98), (.t 99), (.t 100)]),
 mv 11 101] [1, 6, 9, 11, 12, 13, 16]) (
 .seq (
 .reg [
 mv 102 13,
 mv 103 11,
 mv 104 1,
 op 105 (.call f_curvetref1_MulMod [] [(.t 102), (.t 103), (.t 104)]),
 mv 13 105] [1, 6, 9, 11, 12, 13, 16]) (
 .reg [
 mv 106 12,
 mv 107 16,
 mv 108 1,
 op 109 (.call f_curvetref1_MulMod [] [(.t 106), (.t 107), (.t 108)]),
 mv 12 109] [1, 6, 9, 11, 12, 13])))))))))))) (
 .seq (
 .seq (
 .reg [
 mv 110 12,
 op 111 (.call f_curvetref1_Bit [] [(.t 110), (.c (.i 0))]),
 op 112 (.bin .eql (.t 111) (.c (.i 1)))] [1, 12, 112]) (
 .cond (.t 112) (
 .reg [
 mv 113 1,
 mv 114 12,
 op 115 (.call f_curvetref1_Sub [] [(.t 113), (.t 114)]),
 mv 12 115] [12]) (
 .reg [] [12]))) (
 .seq (
 .reg [
 mv 116 12,
 mv 4 116,
 op 5 (.mov (.c (.b true)))] [4, 5]) (
 .ret))))))))))))))))
def m_curvetref1_Sqrt : MFn := ⟨c_curvetref1_Sqrt, [.tmp 4, .tmp 5], 0⟩

/-- curvet/curvetref1.Nat -/
def c_curvetref1_Nat : Stm :=
 .seq (
 .reg [
 op 2 (.box (.c (.agg [.u 64 0, .u 64 0, .u 64 0, .u 64 0, .u 64 0, .u 64 0, .u 64 0, .u 64 0, .u 64 0])))] [0, 2]) (
 .seq (
 .reg [
 op 3 (.box (.c (.agg [.u 64 0, .u 64 0, .u 64 0, .u 64 0, .u 64 0, .u 64 0, .u 64 0, .u 64 0, .u 64 0])))] [0, 2, 3]) (
 .seq (
 .seq (
 .reg [
 op 4 (.mov (.c (.i 0)))] [0, 2, 3, 4]) (
 .block 0 (
 .loop [0, 2, 3, 4] (
 .seq (
 .seq (
 .reg [
 mv 5 4,
 op 6 (.bin .lss (.t 5) (.c (.i 9)))] [0, 2, 3, 4, 6]) (
 .cond (.t 6) (
 .reg [] [0, 2, 3, 4]) (
 .exit 0 [2, 3]))) (
 .seq (
 .block 1 (
 .reg [
 mv 9 4,
 mv 10 0,
 mv 11 4,
 op 12 (.bin .mul (.c (.i 2)) (.t 11)),
 op 13 (.call f_curvetref1_digit [] [(.t 10), (.t 12)]),
 mv 14 0,
 mv 15 4,
 op 16 (.bin .mul (.c (.i 2)) (.t 15)),
 op 17 (.bin .add (.t 16) (.c (.i 1))),
 op 18 (.call f_curvetref1_digit [] [(.t 14), (.t 17)]),
 op 19 (.bin .shl (.t 18) (.c (.u 64 32))),
 op 20 (.bin .or (.t 13) (.t 19)),
 op 21 (.off 0 (.t 3)),
 op 22 (.idx 9 1 (.t 21) (.t 9)),
 ⟨none, none, .stl 3 1 (.t 22) (.t 20)⟩] [0, 2, 3, 4])) (
 .reg [
 mv 7 4,
 op 8 (.bin .add (.t 7) (.c (.i 1))),
 mv 4 8] [0, 2, 3, 4])))))) (
 .seq (
 .reg [
 op 23 (.ldl 3 (some 9) (.t 3)),
 ⟨none, none, .stl 2 9 (.t 2) (.t 23)⟩] [2]) (
 .ret))))
def m_curvetref1_Nat : MFn := ⟨c_curvetref1_Nat, [.cell 2 (some 9)], 0⟩

/-- curvet/curvetlaw5.one -/
def c_curvetlaw5_one : Stm :=
 .seq (
 .reg [
 op 2 (.box (.c (.agg [.i 0, .nils, .nils, .nils, .nils, .nils, .nils]))),
 op 3 (.box (.c (.agg [.u 64 0, .u 64 0, .u 64 0, .u 64 0, .u 64 0, .u 64 0, .u 64 0, .u 64 0, .u 64 0])))] [0, 2, 3]) (
 .seq (
 .reg [
 mv 7 0,
 op 8 (.cvu 64 (.t 7)),
 op 9 (.bin .rem (.t 8) (.c (.u 64 15))),
 op 10 (.cvi (.t 9)),
 op 11 (.bin .add (.c (.i 1)) (.t 10)),
 op 12 (.call f_curvetref13_Get [] [(.t 11)]),
 mv 6 12,
 op 13 (.ext 0 (.t 6)),
 op 14 (.ext 1 (.t 6)),
 op 4 (.box (.c (.agg [.i 0, .nils, .nils, .nils, .nils, .nils, .nils]))),
 ⟨none, none, .stl 4 7 (.t 4) (.t 13)⟩,
 mv 5 14] [2, 3, 4]) (
 .seq (
 .reg [
 op 15 (.ldl 4 (some 7) (.t 4)),
 op 16 (.off 1 (.t 4)),
 op 17 (.ldl 4 none (.t 16)),
 op 18 (.call f_curvetref1_Nat [] [(.t 17)]),
 ⟨none, none, .stl 2 7 (.t 2) (.t 15)⟩,
 ⟨none, none, .stl 3 9 (.t 3) (.t 18)⟩] [2, 3]) (
 .ret)))
def m_curvetlaw5_one : MFn := ⟨c_curvetlaw5_one, [.cell 2 (some 7), .cell 3 (some 9)], 0⟩

/-- curvet/curvetlaw5.below -/
def c_curvetlaw5_below : Stm :=
 .seq (
 .reg [
 op 2 (.boxv (.t 0)),
 op 3 (.boxv (.t 1)),
 op 4 (.box (.c (.agg [.u 64 0, .u 64 0, .u 64 0, .u 64 0, .u 64 0, .u 64 0, .u 64 0, .u 64 0, .u 64 0])))] [2, 3, 4]) (
 .seq (
 .reg [
 op 5 (.ld true (some 9) (.t 3)),
 op 6 (.call f_curvetref1_From [] [(.t 5)]),
 op 7 (.off 1 (.t 2)),
 op 8 (.ld true none (.t 7)),
 op 9 (.call f_curvetref1_Mod [] [(.t 6), (.t 8)]),
 op 10 (.call f_curvetref1_Nat [] [(.t 9)]),
 ⟨none, none, .stl 4 9 (.t 4) (.t 10)⟩] [4]) (
 .ret))
def m_curvetlaw5_below : MFn := ⟨c_curvetlaw5_below, [.cell 4 (some 9)], 0⟩

/-- curvet/field.Mul -/
def c_field_Mul : Stm :=
 .seq (
 .reg [
 op 4 (.boxv (.t 1)),
 op 5 (.boxv (.t 2)),
 op 6 (.box (.c (.agg [.u 64 0, .u 64 0, .u 64 0, .u 64 0, .u 64 0, .u 64 0, .u 64 0, .u 64 0, .u 64 0]))),
 op 7 (.mov (.c (.i 0)))] [0, 4, 5, 6]) (
 .seq (
 .reg [
 mv 8 0,
 op 9 (.ld true (some 9) (.t 4)),
 op 10 (.ld true (some 9) (.t 5)),
 op 11 (.call f_field_do [] [(.t 8), (.t 9), (.t 10), (.c (.fn f_field_Field_Mul [] []))]),
 op 12 (.ext 0 (.t 11)),
 op 13 (.ext 1 (.t 11)),
 ⟨none, none, .stl 6 9 (.t 6) (.t 12)⟩,
 mv 7 13] [6, 7]) (
 .ret))
def m_field_Mul : MFn := ⟨c_field_Mul, [.cell 6 (some 9), .tmp 7], 0⟩

/-- curvet/curvetlaw0.One -/
def c_curvetlaw0_One : Stm :=
 .seq (
 .reg [
 op 2 (.box (.c (.agg [.u 64 0, .u 64 0, .u 64 0, .u 64 0, .u 64 0, .u 64 0, .u 64 0, .u 64 0, .u 64 0])))] [0, 2]) (
 .seq (
 .reg [
 op 3 (.box (.c (.agg [.u 64 0, .u 64 0, .u 64 0, .u 64 0, .u 64 0, .u 64 0, .u 64 0, .u 64 0, .u 64 0])))] [0, 2, 3]) (
 .seq (
 .reg [
 mv 4 0,
 op 5 (.off 0 (.t 3)),
 op 6 (.idx 9 1 (.t 5) (.c (.i 0))),
 ⟨none, none, .stl 3 1 (.t 6) (.t 4)⟩] [2, 3]) (
 .seq (
 .reg [
 op 7 (.ldl 3 (some 9) (.t 3)),
 ⟨none, none, .stl 2 9 (.t 2) (.t 7)⟩] [2]) (
 .ret))))
def m_curvetlaw0_One : MFn := ⟨c_curvetlaw0_One, [.cell 2 (some 9)], 0⟩

/-- curvet/field.Add -/
def c_field_Add : Stm :=
 .seq (
 .reg [
 op 4 (.boxv (.t 1)),
 op 5 (.boxv (.t 2)),
 op 6 (.box (.c (.agg [.u 64 0, .u 64 0, .u 64 0, .u 64 0, .u 64 0, .u 64 0, .u 64 0, .u 64 0, .u 64 0]))),
 op 7 (.mov (.c (.i 0)))] [0, 4, 5, 6]) (
 .seq (
 .reg [
 mv 8 0,
 op 9 (.ld true (some 9) (.t 4)),
 op 10 (.ld true (some 9) (.t 5)),
 op 11 (.call f_field_do [] [(.t 8), (.t 9), (.t 10), (.c (.fn f_field_Field_Add [] []))]),
 op 12 (.ext 0 (.t 11)),
 op 13 (.ext 1 (.t 11)),
 ⟨none, none, .stl 6 9 (.t 6) (.t 12)⟩,
 mv 7 13] [6, 7]) (
 .ret))
def m_field_Add : MFn := ⟨c_field_Add, [.cell 6 (some 9), .tmp 7], 0⟩

/-- curvet/field.Sub -/
def c_field_Sub : Stm :=
 .seq (
 .reg [
 op 4 (.boxv (.t 1)),
 op 5 (.boxv (.t 2)),
 op 6 (.box (.c (.agg [.u 64 0, .u 64 0, .u 64 0, .u 64 0, .u 64 0, .u 64 0, .u 64 0, .u 64 0, .u 64 0]))),
 op 7 (.mov (.c (.i 0)))] [0, 4, 5, 6]) (
 .seq (
 .reg [
 mv 8 0,
 op 9 (.ld true (some 9) (.t 4)),
 op 10 (.ld true (some 9) (.t 5)),
 op 11 (.call f_field_do [] [(.t 8), (.t 9), (.t 10), (.c (.fn f_field_Field_Sub [] []))]),
 op 12 (.ext 0 (.t 11)),
 op 13 (.ext 1 (.t 11)),
 ⟨none, none, .stl 6 9 (.t 6) (.t 12)⟩,
 mv 7 13] [6, 7]) (
 .ret))
def m_field_Sub : MFn := ⟨c_field_Sub, [.cell 6 (some 9), .tmp 7], 0⟩

/-- curvet/nat.Sub -/
def c_nat_Sub : Stm :=
 .seq (
 .reg [
 op 2 (.box (.t 0)),
 op 3 (.boxv (.t 1)),
 op 4 (.box (.c (.agg [.u 64 0, .u 64 0, .u 64 0, .u 64 0, .u 64 0, .u 64 0, .u 64 0, .u 64 0, .u 64 0]))),
 op 5 (.mov (.c (.b false)))] [2, 3, 4]) (
 .seq (
 .reg [
 op 6 (.mov (.c (.u 64 0)))] [2, 3, 4, 6]) (
 .seq (
 .seq (
 .reg [
 op 8 (.mov (.c (.i 0)))] [2, 3, 4, 6, 8]) (
 .block 0 (
 .loop [2, 3, 4, 6, 8] (
 .seq (
 .reg [
 op 9 (.bin .lss (.t 8) (.c (.i 9)))] [2, 3, 4, 6, 8, 9]) (
 .seq (
 .cond (.t 9) (
 .reg [] [2, 3, 4, 6, 8]) (
 .exit 0 [2, 4, 6])) (
 .seq (
 .block 1 (
 .seq (
 .reg [
 mv 10 8,
 mv 7 10] [2, 3, 4, 6, 7, 8]) (
 .reg [
 mv 12 7,
 mv 13 7,
 op 14 (.off 0 (.t 2)),
 op 15 (.idx 9 1 (.t 14) (.t 13)),
 op 16 (.ldl 2 none (.t 15)),
 mv 17 7,
 op 18 (.off 0 (.t 3)),
 op 19 (.idx 9 1 (.t 18) (.t 17)),
 op 20 (.ld true none (.t 19)),
 mv 21 6,
 op 22 (.prim .sub64 [(.t 16), (.t 20), (.t 21)]),
 mv 11 22,
 op 23 (.ext 0 (.t 11)),
 op 24 (.ext 1 (.t 11)),
 op 25 (.off 0 (.t 2)),
 op 26 (.idx 9 1 (.t 25) (.t 12)),
 ⟨none, none, .stl 2 1 (.t 26) (.t 23)⟩,
 mv 6 24] [2, 3, 4, 6, 8]))) (
 .reg [
 op 27 (.bin .add (.t 8) (.c (.i 1))),
 mv 8 27] [2, 3, 4, 6, 8]))))))) (
 .seq (
 .reg [
 op 28 (.ldl 2 (some 9) (.t 2)),
 mv 29 6,
 op 30 (.bin .eql (.t 29) (.c (.u 64 1))),
 ⟨none, none, .stl 4 9 (.t 4) (.t 28)⟩,
 mv 5 30] [4, 5]) (
 .ret))))
def m_nat_Sub : MFn := ⟨c_nat_Sub, [.cell 4 (some 9), .tmp 5], 0⟩

/-- curvet/divide.PowMod -/
def c_divide_PowMod : Stm :=
 .seq (
 .reg [
 op 3 (.boxv (.t 0)),
 op 4 (.boxv (.t 1)),
 op 5 (.boxv (.t 2)),
 op 6 (.box (.c (.agg [.u 64 0, .u 64 0, .u 64 0, .u 64 0, .u 64 0, .u 64 0, .u 64 0, .u 64 0, .u 64 0]))),
 op 7 (.mov (.c (.i 0)))] [3, 4, 5, 6]) (
 .seq (
 .seq (
 .reg [
 op 8 (.call f_divide_zero [] [(.t 5)])] [3, 4, 5, 6, 8]) (
 .cond (.t 8) (
 .seq (
 .reg [
 op 9 (.build [.u 64 0, .u 64 0, .u 64 0, .u 64 0, .u 64 0, .u 64 0, .u 64 0, .u 64 0, .u 64 0] []),
 ⟨none, none, .stl 6 9 (.t 6) (.t 9)⟩,
 op 7 (.mov (.c (.i 400)))] [6, 7]) (
 .ret)) (
 .reg [] [3, 4, 5, 6]))) (
 .seq (
 .reg [
 op 10 (.ld true (some 9) (.t 5)),
 op 11 (.call f_divide_By [] [(.t 10)]),
 op 12 (.ld true (some 9) (.t 3)),
 op 13 (.ld true (some 9) (.t 4)),
 op 14 (.call f_divide_Modulus_Pow [] [(.t 11), (.t 12), (.t 13)]),
 ⟨none, none, .stl 6 9 (.t 6) (.t 14)⟩,
 op 7 (.mov (.c (.i 0)))] [6, 7]) (
 .ret)))
def m_divide_PowMod : MFn := ⟨c_divide_PowMod, [.cell 6 (some 9), .tmp 7], 0⟩

/-- curvet/field.Reduce -/
def c_field_Reduce : Stm :=
 .seq (
 .reg [
 op 3 (.boxv (.t 1)),
 op 4 (.box (.c (.agg [.u 64 0, .u 64 0, .u 64 0, .u 64 0, .u 64 0, .u 64 0, .u 64 0, .u 64 0, .u 64 0]))),
 op 5 (.mov (.c (.i 0)))] [0, 3, 4]) (
 .seq (
 .reg [
 mv 7 0,
 op 8 (.call f_field_Of [] [(.t 7)]),
 mv 6 8] [3, 4, 6]) (
 .seq (
 .seq (
 .reg [
 mv 9 6,
 op 10 (.eqv .ptr false (.t 9) (.c (.nilp)))] [3, 4, 6, 10]) (
 .cond (.t 10) (
 .seq (
 .reg [
 op 11 (.build [.u 64 0, .u 64 0, .u 64 0, .u 64 0, .u 64 0, .u 64 0, .u 64 0, .u 64 0, .u 64 0] []),
 ⟨none, none, .stl 4 9 (.t 4) (.t 11)⟩,
 op 5 (.mov (.c (.i 500)))] [4, 5]) (
 .ret)) (
 .reg [] [3, 4, 6]))) (
 .seq (
 .reg [
 mv 12 6,
 op 13 (.nck (.t 12)),
 op 14 (.off 9 (.t 13)),
 op 15 (.ld false (some 1) (.t 14)),
 op 16 (.ld true (some 18) (.t 3)),
 op 17 (.call f_divide_Modulus_Rest [] [(.t 15), (.t 16)]),
 ⟨none, none, .stl 4 9 (.t 4) (.t 17)⟩,
 op 5 (.mov (.c (.i 0)))] [4, 5]) (
 .ret))))
def m_field_Reduce : MFn := ⟨c_field_Reduce, [.cell 4 (some 9), .tmp 5], 0⟩

/-- curvet/nat.Mul -/
def c_nat_Mul : Stm :=
 .seq (
 .reg [
 op 2 (.boxv (.t 0)),
 op 3 (.boxv (.t 1)),
 op 4 (.box (.c (.agg [.u 64 0, .u 64 0, .u 64 0, .u 64 0, .u 64 0, .u 64 0, .u 64 0, .u 64 0, .u 64 0, .u 64 0, .u 64 0, .u 64 0, .u 64 0, .u 64 0, .u 64 0, .u 64 0, .u 64 0, .u 64 0])))] [2, 3, 4]) (
 .seq (
 .reg [
 op 5 (.box (.c (.agg [.u 64 0, .u 64 0, .u 64 0, .u 64 0, .u 64 0, .u 64 0, .u 64 0, .u 64 0, .u 64 0, .u 64 0, .u 64 0, .u 64 0, .u 64 0, .u 64 0, .u 64 0, .u 64 0, .u 64 0, .u 64 0])))] [2, 3, 4, 5]) (
 .seq (
 .reg [
 op 14 (.call f_nat_used [] [(.t 2)]),
 op 15 (.call f_nat_used [] [(.t 3)]),
 mv 6 14,
 mv 7 15] [2, 3, 4, 5, 6, 7]) (
 .seq (
 .seq (
 .reg [
 mv 16 6,
 op 17 (.mov (.c (.i 0)))] [2, 3, 4, 5, 7, 16, 17]) (
 .block 0 (
 .loop [2, 3, 4, 5, 7, 16, 17] (
 .seq (
 .reg [
 op 18 (.bin .lss (.t 17) (.t 16))] [2, 3, 4, 5, 7, 16, 17, 18]) (
 .seq (
 .cond (.t 18) (
 .reg [] [2, 3, 4, 5, 7, 16, 17]) (
 .exit 0 [4, 5])) (
 .seq (
 .block 1 (
 .seq (
 .reg [
 mv 19 17,
 mv 8 19] [2, 3, 4, 5, 7, 8, 16, 17]) (
 .seq (
 .reg [
 op 9 (.mov (.c (.u 64 0)))] [2, 3, 4, 5, 7, 8, 9, 16, 17]) (
 .seq (
 .seq (
 .reg [
 mv 20 7,
 op 21 (.mov (.c (.i 0)))] [2, 3, 4, 5, 7, 8, 9, 16, 17, 20, 21]) (
 .block 2 (
 .loop [2, 3, 4, 5, 7, 8, 9, 16, 17, 20, 21] (
 .seq (
 .reg [
 op 22 (.bin .lss (.t 21) (.t 20))] [2, 3, 4, 5, 7, 8, 9, 16, 17, 20, 21, 22]) (
 .seq (
 .cond (.t 22) (
 .reg [] [2, 3, 4, 5, 7, 8, 9, 16, 17, 20, 21]) (
 .exit 2 [2, 3, 4, 5, 7, 8, 9, 16, 17])) (
 .seq (
 .block 3 (
 .seq (
 .reg [
 mv 23 21,
 mv 10 23] [2, 3, 4, 5, 7, 8, 9, 10, 16, 17, 20, 21]) (
 .seq (
 .reg [
 mv 25 8,
 op 26 (.off 0 (.t 2)),
 op 27 (.idx 9 1 (.t 26) (.t 25)),
 op 28 (.ld true none (.t 27)),
 mv 29 10,
 op 30 (.off 0 (.t 3)),
 op 31 (.idx 9 1 (.t 30) (.t 29)),
 op 32 (.ld true none (.t 31)),
 op 33 (.call f_bits_Mul64 [] [(.t 28), (.t 32)]),
 mv 24 33,
 op 34 (.ext 0 (.t 24)),
 op 35 (.ext 1 (.t 24)),
 mv 11 34,
 mv 12 35] [2, 3, 4, 5, 7, 8, 9, 10, 11, 12, 16, 17, 20, 21]) (
 .seq (
 .reg [
 op 13 (.mov (.c (.u 64 0)))] [2, 3, 4, 5, 7, 8, 9, 10, 11, 12, 16, 17, 20, 21]) (
 .seq (
 .reg [
 mv 37 12,
 mv 38 8,
 mv 39 10,
 op 40 (.bin .add (.t 38) (.t 39)),
 op 41 (.off 0 (.t 5)),
 op 42 (.idx 18 1 (.t 41) (.t 40)),
 op 43 (.ldl 5 none (.t 42)),
 op 44 (.prim .add64 [(.t 37), (.t 43), (.c (.u 64 0))]),
 mv 36 44,
 op 45 (.ext 0 (.t 36)),
 op 46 (.ext 1 (.t 36)),
 mv 12 45,
 mv 13 46] [2, 3, 4, 5, 7, 8, 9, 10, 11, 12, 13, 16, 17, 20, 21]) (
 .seq (
 .reg [
 mv 47 11,
 mv 48 13,
 op 49 (.bin .add (.t 47) (.t 48)),
 mv 11 49] [2, 3, 4, 5, 7, 8, 9, 10, 11, 12, 16, 17, 20, 21]) (
 .seq (
 .reg [
 mv 51 12,
 mv 52 9,
 op 53 (.prim .add64 [(.t 51), (.t 52), (.c (.u 64 0))]),
 mv 50 53,
 op 54 (.ext 0 (.t 50)),
 op 55 (.ext 1 (.t 50)),
 mv 12 54,
 mv 13 55] [2, 3, 4, 5, 7, 8, 10, 11, 12, 13, 16, 17, 20, 21]) (
 .reg [
 mv 56 8,
 mv 57 10,
 op 58 (.bin .add (.t 56) (.t 57)),
 mv 59 12,
 mv 60 11,
 mv 61 13,
 op 62 (.bin .add (.t 60) (.t 61)),
 op 63 (.off 0 (.t 5)),
 op 64 (.idx 18 1 (.t 63) (.t 58)),
 ⟨none, none, .stl 5 1 (.t 64) (.t 59)⟩,
 mv 9 62] [2, 3, 4, 5, 7, 8, 9, 16, 17, 20, 21])))))))) (
 .reg [
 op 65 (.bin .add (.t 21) (.c (.i 1))),
 mv 21 65] [2, 3, 4, 5, 7, 8, 9, 16, 17, 20, 21]))))))) (
 .reg [
 mv 66 8,
 mv 67 7,
 op 68 (.bin .add (.t 66) (.t 67)),
 mv 69 9,
 op 70 (.off 0 (.t 5)),
 op 71 (.idx 18 1 (.t 70) (.t 68)),
 ⟨none, none, .stl 5 1 (.t 71) (.t 69)⟩] [2, 3, 4, 5, 7, 16, 17]))))) (
 .reg [
 op 72 (.bin .add (.t 17) (.c (.i 1))),
 mv 17 72] [2, 3, 4, 5, 7, 16, 17]))))))) (
 .seq (
 .reg [
 op 73 (.ldl 5 (some 18) (.t 5)),
 ⟨none, none, .stl 4 18 (.t 4) (.t 73)⟩] [4]) (
 .ret)))))
def m_nat_Mul : MFn := ⟨c_nat_Mul, [.cell 4 (some 18)], 0⟩

/-- curvet/curvetref1.Mod -/
def c_curvetref1_Mod : Stm :=
 .seq (
 .reg [
 op 4 (.mov (.c (.vs 0 [])))] [0, 1]) (
 .seq (
 .reg [
 mv 8 0,
 mv 9 1,
 op 10 (.call f_curvetref1_Div [] [(.t 8), (.t 9)]),
 mv 7 10,
 op 11 (.ext 0 (.t 7)),
 op 12 (.ext 1 (.t 7)),
 mv 5 11,
 mv 6 12] [6]) (
 .seq (
 .reg [
 mv 13 6,
 mv 4 13] [4]) (
 .ret)))
def m_curvetref1_Mod : MFn := ⟨c_curvetref1_Mod, [.tmp 4], 0⟩

/-- curvet/curvetref1.Of -/
def c_curvetref1_Of : Stm :=
 .seq (
 .reg [
 op 1 (.boxv (.t 0)),
 op 2 (.mov (.c (.vs 0 [])))] [1]) (
 .seq (
 .reg [
 op 5 (.mks 1 4 [.u 32 0] (.c (.i 36)) (.c (.i 36))),
 mv 3 5] [1, 3]) (
 .seq (
 .seq (
 .reg [
 op 4 (.mov (.c (.i 0)))] [1, 3, 4]) (
 .block 0 (
 .loop [1, 3, 4] (
 .seq (
 .seq (
 .reg [
 mv 6 4,
 op 7 (.bin .lss (.t 6) (.c (.i 18)))] [1, 3, 4, 7]) (
 .cond (.t 7) (
 .reg [] [1, 3, 4]) (
 .exit 0 [3]))) (
 .seq (
 .block 1 (
 .seq (
 .reg [
 mv 10 3,
 mv 11 4,
 op 12 (.bin .mul (.c (.i 2)) (.t 11)),
 mv 13 4,
 op 14 (.off 0 (.t 1)),
 op 15 (.idx 18 1 (.t 14) (.t 13)),
 op 16 (.ld true none (.t 15)),
 op 17 (.bin .and (.t 16) (.c (.u 64 4294967295))),
 op 18 (.cvu 32 (.t 17)),
 op 19 (.idxs 1 (.t 10) (.t 12)),
 ⟨none, none, .st 1 (.t 19) (.t 18)⟩] [1, 3, 4]) (
 .reg [
 mv 20 3,
 mv 21 4,
 op 22 (.bin .mul (.c (.i 2)) (.t 21)),
 op 23 (.bin .add (.t 22) (.c (.i 1))),
 mv 24 4,
 op 25 (.off 0 (.t 1)),
 op 26 (.idx 18 1 (.t 25) (.t 24)),
 op 27 (.ld true none (.t 26)),
 op 28 (.bin .shr (.t 27) (.c (.u 64 32))),
 op 29 (.cvu 32 (.t 28)),
 op 30 (.idxs 1 (.t 20) (.t 23)),
 ⟨none, none, .st 1 (.t 30) (.t 29)⟩] [1, 3, 4]))) (
 .reg [
 mv 8 4,
 op 9 (.bin .add (.t 8) (.c (.i 1))),
 mv 4 9] [1, 3, 4])))))) (
 .seq (
 .reg [
 mv 31 3,
 op 32 (.call f_curvetref1_trim [] [(.t 31)]),
 mv 2 32] [2]) (
 .ret))))
def m_curvetref1_Of : MFn := ⟨c_curvetref1_Of, [.tmp 2], 0⟩

/-- curvet/curvetref1.AddMod -/
def c_curvetref1_AddMod : Stm :=
 .seq (
 .reg [
 op 6 (.mov (.c (.vs 0 [])))] [0, 1, 2]) (
 .seq (
 .reg [
 mv 8 0,
 mv 9 1,
 op 10 (.call f_curvetref1_Add [] [(.t 8), (.t 9)]),
 mv 7 10] [2, 7]) (
 .seq (
 .seq (
 .reg [
 mv 11 7,
 mv 12 2,
 op 13 (.call f_curvetref1_Cmp [] [(.t 11), (.t 12)]),
 op 14 (.bin .geq (.t 13) (.c (.i 0)))] [2, 7, 14]) (
 .cond (.t 14) (
 .seq (
 .reg [
 mv 15 7,
 mv 16 2,
 op 17 (.call f_curvetref1_Sub [] [(.t 15), (.t 16)]),
 mv 6 17] [6]) (
 .ret)) (
 .reg [] [7]))) (
 .seq (
 .reg [
 mv 18 7,
 mv 6 18] [6]) (
 .ret))))
def m_curvetref1_AddMod : MFn := ⟨c_curvetref1_AddMod, [.tmp 6], 0⟩

/-- curvet/curvetref1.SubMod -/
def c_curvetref1_SubMod : Stm :=
 .seq (
 .reg [
 op 6 (.mov (.c (.vs 0 [])))] [0, 1, 2]) (
 .seq (
 .seq (
 .reg [
 mv 7 0,
 mv 8 1,
 op 9 (.call f_curvetref1_Cmp [] [(.t 7), (.t 8)]),
 op 10 (.bin .geq (.t 9) (.c (.i 0)))] [0, 1, 2, 10]) (
 .cond (.t 10) (
 .seq (
 .reg [
 mv 11 0,
 mv 12 1,
 op 13 (.call f_curvetref1_Sub [] [(.t 11), (.t 12)]),
 mv 6 13] [6]) (
 .ret)) (
 .reg [] [0, 1, 2]))) (
 .seq (
 .reg [
 mv 14 0,
 mv 15 2,
 op 16 (.call f_curvetref1_Add [] [(.t 14), (.t 15)]),
 mv 17 1,
 op 18 (.call f_curvetref1_Sub [] [(.t 16), (.t 17)]),
 mv 6 18] [6]) (
 .ret)))
def m_curvetref1_SubMod : MFn := ⟨c_curvetref1_SubMod, [.tmp 6], 0⟩

/-- curvet/curvetref1.MulMod -/
def c_curvetref1_MulMod : Stm :=
 .seq (
 .reg [
 op 6 (.mov (.c (.vs 0 [])))] [0, 1, 2]) (
 .seq (
 .reg [
 mv 7 0,
 mv 8 1,
 op 9 (.call f_curvetref1_Mul [] [(.t 7), (.t 8)]),
 mv 10 2,
 op 11 (.call f_curvetref1_Mod [] [(.t 9), (.t 10)]),
 mv 6 11] [6]) (
 .ret))
def m_curvetref1_MulMod : MFn := ⟨c_curvetref1_MulMod, [.tmp 6], 0⟩

/-- curvet/curvetref13.row -/
def c_curvetref13_row : Stm :=
 .seq (
 .reg [
 op 2 (.mov (.c (.nils)))] [0]) (
 .seq (
 .seq (
 .reg [
 mv 3 0] [3]) (
 .block 0 (
 .seq (
 .reg [
 op 5 (.bin .eql (.t 3) (.c (.i 1))),
 mv 4 5] [3, 4]) (
 .cond (.t 4) (
 .seq (
 .reg [
 op 6 (.lit true 1 6 [.s [], .s [], .s [], .s [], .s [], .s []] [(0, 1, (.c (.s [102, 102, 102, 102, 102, 102, 102, 102, 102, 102, 102, 102, 102, 102, 102, 102, 102, 102, 102, 102, 102, 102, 102, 102, 102, 102, 102, 102, 102, 102, 102, 101, 102, 102, 102, 102, 102, 102, 102, 102, 102, 102, 102, 102, 102, 102, 102, 102]))), (1, 1, (.c (.s [45]))), (2, 1, (.c (.s [54, 52, 50, 49, 48, 53, 49, 57, 101, 53, 57, 99, 56, 48, 101, 55, 48, 102, 97, 55, 101, 57, 97, 98, 55, 50, 50, 52, 51, 48, 52, 57, 102, 101, 98, 56, 100, 101, 101, 99, 99, 49, 52, 54, 98, 57, 98, 49]))), (3, 1, (.c (.s [102, 102, 102, 102, 102, 102, 102, 102, 102, 102, 102, 102, 102, 102, 102, 102, 102, 102, 102, 102, 102, 102, 102, 102, 57, 57, 100, 101, 102, 56, 51, 54, 49, 52, 54, 98, 99, 57, 98, 49, 98, 52, 100, 50, 50, 56, 51, 49]))), (4, 1, (.c (.s [49, 56, 56, 100, 97, 56, 48, 101, 98, 48, 51, 48, 57, 48, 102, 54, 55, 99, 98, 102, 50, 48, 101, 98, 52, 51, 97, 49, 56, 56, 48, 48, 102, 52, 102, 102, 48, 97, 102, 100, 56, 50, 102, 102, 49, 48, 49, 50]))), (5, 1, (.c (.s [48, 55, 49, 57, 50, 98, 57, 53, 102, 102, 99, 56, 100, 97, 55, 56, 54, 51, 49, 48, 49, 49, 101, 100, 54, 98, 50, 52, 99, 100, 100, 53, 55, 51, 102, 57, 55, 55, 97, 49, 49, 101, 55, 57, 52, 56, 49, 49])))]),
 mv 2 6] [2]) (
 .ret)) (
 .seq (
 .reg [
 op 8 (.bin .eql (.t 3) (.c (.i 2))),
 mv 7 8] [3, 7]) (
 .cond (.t 7) (
 .seq (
 .reg [
 op 9 (.lit true 1 6 [.s [], .s [], .s [], .s [], .s [], .s []] [(0, 1, (.c (.s [102, 102, 102, 102, 102, 102, 102, 102, 102, 102, 102, 102, 102, 102, 102, 102, 102, 102, 102, 102, 102, 102, 102, 102, 102, 102, 102, 102, 102, 102, 102, 102, 48, 48, 48, 48, 48, 48, 48, 48, 48, 48, 48, 48, 48, 48, 48, 48, 48, 48, 48, 48, 48, 48, 48, 49]))), (1, 1, (.c (.s [45]))), (2, 1, (.c (.s [98, 52, 48, 53, 48, 97, 56, 53, 48, 99, 48, 52, 98, 51, 97, 98, 102, 53, 52, 49, 51, 50, 53, 54, 53, 48, 52, 52, 98, 48, 98, 55, 100, 55, 98, 102, 100, 56, 98, 97, 50, 55, 48, 98, 51, 57, 52, 51, 50, 51, 53, 53, 102, 102, 98, 52]))), (3, 1, (.c (.s [102, 102, 102, 102, 102, 102, 102, 102, 102, 102, 102, 102, 102, 102, 102, 102, 102, 102, 102, 102, 102, 102, 102, 102, 102, 102, 102, 102, 49, 54, 97, 50, 101, 48, 98, 56, 102, 48, 51, 101, 49, 51, 100, 100, 50, 57, 52, 53, 53, 99, 53, 99, 50, 97, 51, 100]))), (4, 1, (.c (.s [98, 55, 48, 101, 48, 99, 98, 100, 54, 98, 98, 52, 98, 102, 55, 102, 51, 50, 49, 51, 57, 48, 98, 57, 52, 97, 48, 51, 99, 49, 100, 51, 53, 54, 99, 50, 49, 49, 50, 50, 51, 52, 51, 50, 56, 48, 100, 54, 49, 49, 53, 99, 49, 100, 50, 49]))), (5, 1, (.c (.s [98, 100, 51, 55, 54, 51, 56, 56, 98, 53, 102, 55, 50, 51, 102, 98, 52, 99, 50, 50, 100, 102, 101, 54, 99, 100, 52, 51, 55, 53, 97, 48, 53, 97, 48, 55, 52, 55, 54, 52, 52, 52, 100, 53, 56, 49, 57, 57, 56, 53, 48, 48, 55, 101, 51, 52])))]),
 mv 2 9] [2]) (
 .ret)) (
 .seq (
 .reg [
 op 11 (.bin .eql (.t 3) (.c (.i 3))),
 mv 10 11] [3, 10]) (
 .cond (.t 10) (
 .seq (
 .reg [
 op 12 (.lit true 1 6 [.s [], .s [], .s [], .s [], .s [], .s []] [(0, 1, (.c (.s [102, 102, 102, 102, 102, 102, 102, 102, 48, 48, 48, 48, 48, 48, 48, 49, 48, 48, 48, 48, 48, 48, 48, 48, 48, 48, 48, 48, 48, 48, 48, 48, 48, 48, 48, 48, 48, 48, 48, 48, 102, 102, 102, 102, 102, 102, 102, 102, 102, 102, 102, 102, 102, 102, 102, 102, 102, 102, 102, 102, 102, 102, 102, 102]))), (1, 1, (.c (.s [45]))), (2, 1, (.c (.s [53, 97, 99, 54, 51, 53, 100, 56, 97, 97, 51, 97, 57, 51, 101, 55, 98, 51, 101, 98, 98, 100, 53, 53, 55, 54, 57, 56, 56, 54, 98, 99, 54, 53, 49, 100, 48, 54, 98, 48, 99, 99, 53, 51, 98, 48, 102, 54, 51, 98, 99, 101, 51, 99, 51, 101, 50, 55, 100, 50, 54, 48, 52, 98]))), (3, 1, (.c (.s [102, 102, 102, 102, 102, 102, 102, 102, 48, 48, 48, 48, 48, 48, 48, 48, 102, 102, 102, 102, 102, 102, 102, 102, 102, 102, 102, 102, 102, 102, 102, 102, 98, 99, 101, 54, 102, 97, 97, 100, 97, 55, 49, 55, 57, 101, 56, 52, 102, 51, 98, 57, 99, 97, 99, 50, 102, 99, 54, 51, 50, 53, 53, 49]))), (4, 1, (.c (.s [54, 98, 49, 55, 100, 49, 102, 50, 101, 49, 50, 99, 52, 50, 52, 55, 102, 56, 98, 99, 101, 54, 101, 53, 54, 51, 97, 52, 52, 48, 102, 50, 55, 55, 48, 51, 55, 100, 56, 49, 50, 100, 101, 98, 51, 51, 97, 48, 102, 52, 97, 49, 51, 57, 52, 53, 100, 56, 57, 56, 99, 50, 57, 54]))), (5, 1, (.c (.s [52, 102, 101, 51, 52, 50, 101, 50, 102, 101, 49, 97, 55, 102, 57, 98, 56, 101, 101, 55, 101, 98, 52, 97, 55, 99, 48, 102, 57, 101, 49, 54, 50, 98, 99, 101, 51, 51, 53, 55, 54, 98, 51, 49, 53, 101, 99, 101, 99, 98, 98, 54, 52, 48, 54, 56, 51, 55, 98, 102, 53, 49, 102, 53])))]),
 mv 2 12] [2]) (
 .ret)) (
 .seq (
 .reg [
 op 14 (.bin .eql (.t 3) (.c (.i 4))),
 mv 13 14] [3, 13]) (
 .cond (.t 13) (
 .seq (
 .reg [
 op 15 (.lit true 1 6 [.s [], .s [], .s [], .s [], .s [], .s []] [(0, 1, (.c (.s [102, 102, 102, 102, 102, 102, 102, 102, 102, 102, 102, 102, 102, 102, 102, 102, 102, 102, 102, 102, 102, 102, 102, 102, 102, 102, 102, 102, 102, 102, 102, 102, 102, 102, 102, 102, 102, 102, 102, 102, 102, 102, 102, 102, 102, 102, 102, 102, 102, 102, 102, 102, 102, 102, 102, 102, 102, 102, 102, 102, 102, 102, 102, 101, 102, 102, 102, 102, 102, 102, 102, 102, 48, 48, 48, 48, 48, 48, 48, 48, 48, 48, 48, 48, 48, 48, 48, 48, 102, 102, 102, 102, 102, 102, 102, 102]))), (1, 1, (.c (.s [45]))), (2, 1, (.c (.s [98, 51, 51, 49, 50, 102, 97, 55, 101, 50, 51, 101, 101, 55, 101, 52, 57, 56, 56, 101, 48, 53, 54, 98, 101, 51, 102, 56, 50, 100, 49, 57, 49, 56, 49, 100, 57, 99, 54, 101, 102, 101, 56, 49, 52, 49, 49, 50, 48, 51, 49, 52, 48, 56, 56, 102, 53, 48, 49, 51, 56, 55, 53, 97, 99, 54, 53, 54, 51, 57, 56, 100, 56, 97, 50, 101, 100, 49, 57, 100, 50, 97, 56, 53, 99, 56, 101, 100, 100, 51, 101, 99, 50, 97, 101, 102]))), (3, 1, (.c (.s [102, 102, 102, 102, 102, 102, 102, 102, 102, 102, 102, 102, 102, 102, 102, 102, 102, 102, 102, 102, 102, 102, 102, 102, 102, 102, 102, 102, 102, 102, 102, 102, 102, 102, 102, 102, 102, 102, 102, 102, 102, 102, 102, 102, 102, 102, 102, 102, 99, 55, 54, 51, 52, 100, 56, 49, 102, 52, 51, 55, 50, 100, 100, 102, 53, 56, 49, 97, 48, 100, 98, 50, 52, 56, 98, 48, 97, 55, 55, 97, 101, 99, 101, 99, 49, 57, 54, 97, 99, 99, 99, 53, 50, 57, 55, 51]))), (4, 1, (.c (.s [97, 97, 56, 55, 99, 97, 50, 50, 98, 101, 56, 98, 48, 53, 51, 55, 56, 101, 98, 49, 99, 55, 49, 101, 102, 51, 50, 48, 97, 100, 55, 52, 54, 101, 49, 100, 51, 98, 54, 50, 56, 98, 97, 55, 57, 98, 57, 56, 53, 57, 102, 55, 52, 49, 101, 48, 56, 50, 53, 52, 50, 97, 51, 56, 53, 53, 48, 50, 102, 50, 53, 100, 98, 102, 53, 53, 50, 57, 54, 99, 51, 97, 53, 52, 53, 101, 51, 56, 55, 50, 55, 54, 48, 97, 98, 55]))), (5, 1, (.c (.s [51, 54, 49, 55, 100, 101, 52, 97, 57, 54, 50, 54, 50, 99, 54, 102, 53, 100, 57, 101, 57, 56, 98, 102, 57, 50, 57, 50, 100, 99, 50, 57, 102, 56, 102, 52, 49, 100, 98, 100, 50, 56, 57, 97, 49, 52, 55, 99, 101, 57, 100, 97, 51, 49, 49, 51, 98, 53, 102, 48, 98, 56, 99, 48, 48, 97, 54, 48, 98, 49, 99, 101, 49, 100, 55, 101, 56, 49, 57, 100, 55, 97, 52, 51, 49, 100, 55, 99, 57, 48, 101, 97, 48, 101, 53, 102])))]),
 mv 2 15] [2]) (
 .ret)) (
 .seq (
 .reg [
 op 17 (.bin .eql (.t 3) (.c (.i 5))),
 mv 16 17] [3, 16]) (
 .cond (.t 16) (
 .seq (
 .reg [
 op 18 (.lit true 1 6 [.s [], .s [], .s [], .s [], .s [], .s []] [(0, 1, (.c (.s [48, 49, 102, 102, 102, 102, 102, 102, 102, 102, 102, 102, 102, 102, 102, 102, 102, 102, 102, 102, 102, 102, 102, 102, 102, 102, 102, 102, 102, 102, 102, 102, 102, 102, 102, 102, 102, 102, 102, 102, 102, 102, 102, 102, 102, 102, 102, 102, 102, 102, 102, 102, 102, 102, 102, 102, 102, 102, 102, 102, 102, 102, 102, 102, 102, 102, 102, 102, 102, 102, 102, 102, 102, 102, 102, 102, 102, 102, 102, 102, 102, 102, 102, 102, 102, 102, 102, 102, 102, 102, 102, 102, 102, 102, 102, 102, 102, 102, 102, 102, 102, 102, 102, 102, 102, 102, 102, 102, 102, 102, 102, 102, 102, 102, 102, 102, 102, 102, 102, 102, 102, 102, 102, 102, 102, 102, 102, 102, 102, 102, 102, 102]))), (1, 1, (.c (.s [45]))), (2, 1, (.c (.s [48, 48, 53, 49, 57, 53, 51, 101, 98, 57, 54, 49, 56, 101, 49, 99, 57, 97, 49, 102, 57, 50, 57, 97, 50, 49, 97, 48, 98, 54, 56, 53, 52, 48, 101, 101, 97, 50, 100, 97, 55, 50, 53, 98, 57, 57, 98, 51, 49, 53, 102, 51, 98, 56, 98, 52, 56, 57, 57, 49, 56, 101, 102, 49, 48, 57, 101, 49, 53, 54, 49, 57, 51, 57, 53, 49, 101, 99, 55, 101, 57, 51, 55, 98, 49, 54, 53, 50, 99, 48, 98, 100, 51, 98, 98, 49, 98, 102, 48, 55, 51, 53, 55, 51, 100, 102, 56, 56, 51, 100, 50, 99, 51, 52, 102, 49, 101, 102, 52, 53, 49, 102, 100, 52, 54, 98, 53, 48, 51, 102, 48, 48]))), (3, 1, (.c (.s [48, 49, 102, 102, 102, 102, 102, 102, 102, 102, 102, 102, 102, 102, 102, 102, 102, 102, 102, 102, 102, 102, 102, 102, 102, 102, 102, 102, 102, 102, 102, 102, 102, 102, 102, 102, 102, 102, 102, 102, 102, 102, 102, 102, 102, 102, 102, 102, 102, 102, 102, 102, 102, 102, 102, 102, 102, 102, 102, 102, 102, 102, 102, 102, 102, 102, 102, 97, 53, 49, 56, 54, 56, 55, 56, 51, 98, 102, 50, 102, 57, 54, 54, 98, 55, 102, 99, 99, 48, 49, 52, 56, 102, 55, 48, 57, 97, 53, 100, 48, 51, 98, 98, 53, 99, 57, 98, 56, 56, 57, 57, 99, 52, 55, 97, 101, 98, 98, 54, 102, 98, 55, 49, 101, 57, 49, 51, 56, 54, 52, 48, 57]))), (4, 1, (.c (.s [48, 48, 99, 54, 56, 53, 56, 101, 48, 54, 98, 55, 48, 52, 48, 52, 101, 57, 99, 100, 57, 101, 51, 101, 99, 98, 54, 54, 50, 51, 57, 53, 98, 52, 52, 50, 57, 99, 54, 52, 56, 49, 51, 57, 48, 53, 51, 102, 98, 53, 50, 49, 102, 56, 50, 56, 97, 102, 54, 48, 54, 98, 52, 100, 51, 100, 98, 97, 97, 49, 52, 98, 53, 101, 55, 55, 101, 102, 101, 55, 53, 57, 50, 56, 102, 101, 49, 100, 99, 49, 50, 55, 97, 50, 102, 102, 97, 56, 100, 101, 51, 51, 52, 56, 98, 51, 99, 49, 56, 53, 54, 97, 52, 50, 57, 98, 102, 57, 55, 101, 55, 101, 51, 49, 99, 50, 101, 53, 98, 100, 54, 54]))), (5, 1, (.c (.s [48, 49, 49, 56, 51, 57, 50, 57, 54, 97, 55, 56, 57, 97, 51, 98, 99, 48, 48, 52, 53, 99, 56, 97, 53, 102, 98, 52, 50, 99, 55, 100, 49, 98, 100, 57, 57, 56, 102, 53, 52, 52, 52, 57, 53, 55, 57, 98, 52, 52, 54, 56, 49, 55, 97, 102, 98, 100, 49, 55, 50, 55, 51, 101, 54, 54, 50, 99, 57, 55, 101, 101, 55, 50, 57, 57, 53, 101, 102, 52, 50, 54, 52, 48, 99, 53, 53, 48, 98, 57, 48, 49, 51, 102, 97, 100, 48, 55, 54, 49, 51, 53, 51, 99, 55, 48, 56, 54, 97, 50, 55, 50, 99, 50, 52, 48, 56, 56, 98, 101, 57, 52, 55, 54, 57, 102, 100, 49, 54, 54, 53, 48])))]),
 mv 2 18] [2]) (
 .ret)) (
 .seq (
 .reg [
 op 20 (.bin .eql (.t 3) (.c (.i 6))),
 mv 19 20] [3, 19]) (
 .cond (.t 19) (
 .seq (
 .reg [
 op 21 (.lit true 1 6 [.s [], .s [], .s [], .s [], .s [], .s []] [(0, 1, (.c (.s [102, 102, 102, 102, 102, 102, 102, 102, 102, 102, 102, 102, 102, 102, 102, 102, 102, 102, 102, 102, 102, 102, 102, 102, 102, 102, 102, 102, 102, 102, 102, 102, 102, 102, 102, 102, 102, 102, 102, 102, 102, 102, 102, 102, 102, 102, 102, 102, 102, 102, 102, 102, 102, 102, 102, 101, 102, 102, 102, 102, 102, 99, 50, 102]))), (1, 1, (.c (.s [48]))), (2, 1, (.c (.s [55]))), (3, 1, (.c (.s [102, 102, 102, 102, 102, 102, 102, 102, 102, 102, 102, 102, 102, 102, 102, 102, 102, 102, 102, 102, 102, 102, 102, 102, 102, 102, 102, 102, 102, 102, 102, 101, 98, 97, 97, 101, 100, 99, 101, 54, 97, 102, 52, 56, 97, 48, 51, 98, 98, 102, 100, 50, 53, 101, 56, 99, 100, 48, 51, 54, 52, 49, 52, 49]))), (4, 1, (.c (.s [55, 57, 98, 101, 54, 54, 55, 101, 102, 57, 100, 99, 98, 98, 97, 99, 53, 53, 97, 48, 54, 50, 57, 53, 99, 101, 56, 55, 48, 98, 48, 55, 48, 50, 57, 98, 102, 99, 100, 98, 50, 100, 99, 101, 50, 56, 100, 57, 53, 57, 102, 50, 56, 49, 53, 98, 49, 54, 102, 56, 49, 55, 57, 56]))), (5, 1, (.c (.s [52, 56, 51, 97, 100, 97, 55, 55, 50, 54, 97, 51, 99, 52, 54, 53, 53, 100, 97, 52, 102, 98, 102, 99, 48, 101, 49, 49, 48, 56, 97, 56, 102, 100, 49, 55, 98, 52, 52, 56, 97, 54, 56, 53, 53, 52, 49, 57, 57, 99, 52, 55, 100, 48, 56, 102, 102, 98, 49, 48, 100, 52, 98, 56])))]),
 mv 2 21] [2]) (
 .ret)) (
 .seq (
 .reg [
 op 23 (.bin .eql (.t 3) (.c (.i 7))),
 mv 22 23] [3, 22]) (
 .cond (.t 22) (
 .seq (
 .reg [
 op 24 (.lit true 1 6 [.s [], .s [], .s [], .s [], .s [], .s []] [(0, 1, (.c (.s [101, 57, 53, 101, 52, 97, 53, 102, 55, 51, 55, 48, 53, 57, 100, 99, 54, 48, 100, 102, 99, 55, 97, 100, 57, 53, 98, 51, 100, 56, 49, 51, 57, 53, 49, 53, 54, 50, 48, 102]))), (1, 1, (.c (.s [51, 52, 48, 101, 55, 98, 101, 50, 97, 50, 56, 48, 101, 98, 55, 52, 101, 50, 98, 101, 54, 49, 98, 97, 100, 97, 55, 52, 53, 100, 57, 55, 101, 56, 102, 55, 99, 51, 48, 48]))), (2, 1, (.c (.s [49, 101, 53, 56, 57, 97, 56, 53, 57, 53, 52, 50, 51, 52, 49, 50, 49, 51, 52, 102, 97, 97, 50, 100, 98, 100, 101, 99, 57, 53, 99, 56, 100, 56, 54, 55, 53, 101, 53, 56]))), (3, 1, (.c (.s [101, 57, 53, 101, 52, 97, 53, 102, 55, 51, 55, 48, 53, 57, 100, 99, 54, 48, 100, 102, 53, 57, 57, 49, 100, 52, 53, 48, 50, 57, 52, 48, 57, 101, 54, 48, 102, 99, 48, 57]))), (4, 1, (.c (.s [98, 101, 100, 53, 97, 102, 49, 54, 101, 97, 51, 102, 54, 97, 52, 102, 54, 50, 57, 51, 56, 99, 52, 54, 51, 49, 101, 98, 53, 97, 102, 55, 98, 100, 98, 99, 100, 98, 99, 51]))), (5, 1, (.c (.s [49, 54, 54, 55, 99, 98, 52, 55, 55, 97, 49, 97, 56, 101, 99, 51, 51, 56, 102, 57, 52, 55, 52, 49, 54, 54, 57, 99, 57, 55, 54, 51, 49, 54, 100, 97, 54, 51, 50, 49])))]),
 mv 2 24] [2]) (
 .ret)) (
 .seq (
 .reg [
 op 26 (.bin .eql (.t 3) (.c (.i 8))),
 mv 25 26] [3, 25]) (
 .cond (.t 25) (
 .seq (
 .reg [
 op 27 (.lit true 1 6 [.s [], .s [], .s [], .s [], .s [], .s []] [(0, 1, (.c (.s [100, 55, 99, 49, 51, 52, 97, 97, 50, 54, 52, 51, 54, 54, 56, 54, 50, 97, 49, 56, 51, 48, 50, 53, 55, 53, 100, 49, 100, 55, 56, 55, 98, 48, 57, 102, 48, 55, 53, 55, 57, 55, 100, 97, 56, 57, 102, 53, 55, 101, 99, 56, 99, 48, 102, 102]))), (1, 1, (.c (.s [54, 56, 97, 53, 101, 54, 50, 99, 97, 57, 99, 101, 54, 99, 49, 99, 50, 57, 57, 56, 48, 51, 97, 54, 99, 49, 53, 51, 48, 98, 53, 49, 52, 101, 49, 56, 50, 97, 100, 56, 98, 48, 48, 52, 50, 97, 53, 57, 99, 97, 100, 50, 57, 102, 52, 51]))), (2, 1, (.c (.s [50, 53, 56, 48, 102, 54, 51, 99, 99, 102, 101, 52, 52, 49, 51, 56, 56, 55, 48, 55, 49, 51, 98, 49, 97, 57, 50, 51, 54, 57, 101, 51, 51, 101, 50, 49, 51, 53, 100, 50, 54, 54, 100, 98, 98, 51, 55, 50, 51, 56, 54, 99, 52, 48, 48, 98]))), (3, 1, (.c (.s [100, 55, 99, 49, 51, 52, 97, 97, 50, 54, 52, 51, 54, 54, 56, 54, 50, 97, 49, 56, 51, 48, 50, 53, 55, 53, 100, 48, 102, 98, 57, 56, 100, 49, 49, 54, 98, 99, 52, 98, 54, 100, 100, 101, 98, 99, 97, 51, 97, 53, 97, 55, 57, 51, 57, 102]))), (4, 1, (.c (.s [48, 100, 57, 48, 50, 57, 97, 100, 50, 99, 55, 101, 53, 99, 102, 52, 51, 52, 48, 56, 50, 51, 98, 50, 97, 56, 55, 100, 99, 54, 56, 99, 57, 101, 52, 99, 101, 51, 49, 55, 52, 99, 49, 101, 54, 101, 102, 100, 101, 101, 49, 50, 99, 48, 55, 100]))), (5, 1, (.c (.s [53, 56, 97, 97, 53, 54, 102, 55, 55, 50, 99, 48, 55, 50, 54, 102, 50, 52, 99, 54, 98, 56, 57, 101, 52, 101, 99, 100, 97, 99, 50, 52, 51, 53, 52, 98, 57, 101, 57, 57, 99, 97, 97, 51, 102, 54, 100, 51, 55, 54, 49, 52, 48, 50, 99, 100])))]),
 mv 2 27] [2]) (
 .ret)) (
 .seq (
 .reg [
 op 29 (.bin .eql (.t 3) (.c (.i 9))),
 mv 28 29] [3, 28]) (
 .cond (.t 28) (
 .seq (
 .reg [
 op 30 (.lit true 1 6 [.s [], .s [], .s [], .s [], .s [], .s []] [(0, 1, (.c (.s [97, 57, 102, 98, 53, 55, 100, 98, 97, 49, 101, 101, 97, 57, 98, 99, 51, 101, 54, 54, 48, 97, 57, 48, 57, 100, 56, 51, 56, 100, 55, 50, 54, 101, 51, 98, 102, 54, 50, 51, 100, 53, 50, 54, 50, 48, 50, 56, 50, 48, 49, 51, 52, 56, 49, 100, 49, 102, 54, 101, 53, 51, 55, 55]))), (1, 1, (.c (.s [55, 100, 53, 97, 48, 57, 55, 53, 102, 99, 50, 99, 51, 48, 53, 55, 101, 101, 102, 54, 55, 53, 51, 48, 52, 49, 55, 97, 102, 102, 101, 55, 102, 98, 56, 48, 53, 53, 99, 49, 50, 54, 100, 99, 53, 99, 54, 99, 101, 57, 52, 97, 52, 98, 52, 52, 102, 51, 51, 48, 98, 53, 100, 57]))), (2, 1, (.c (.s [50, 54, 100, 99, 53, 99, 54, 99, 101, 57, 52, 97, 52, 98, 52, 52, 102, 51, 51, 48, 98, 53, 100, 57, 98, 98, 100, 55, 55, 99, 98, 102, 57, 53, 56, 52, 49, 54, 50, 57, 53, 99, 102, 55, 101, 49, 99, 101, 54, 98, 99, 99, 100, 99, 49, 56, 102, 102, 56, 99, 48, 55, 98, 54]))), (3, 1, (.c (.s [97, 57, 102, 98, 53, 55, 100, 98, 97, 49, 101, 101, 97, 57, 98, 99, 51, 101, 54, 54, 48, 97, 57, 48, 57, 100, 56, 51, 56, 100, 55, 49, 56, 99, 51, 57, 55, 97, 97, 51, 98, 53, 54, 49, 97, 54, 102, 55, 57, 48, 49, 101, 48, 101, 56, 50, 57, 55, 52, 56, 53, 54, 97, 55]))), (4, 1, (.c (.s [56, 98, 100, 50, 97, 101, 98, 57, 99, 98, 55, 101, 53, 55, 99, 98, 50, 99, 52, 98, 52, 56, 50, 102, 102, 99, 56, 49, 98, 55, 97, 102, 98, 57, 100, 101, 50, 55, 101, 49, 101, 51, 98, 100, 50, 51, 99, 50, 51, 97, 52, 52, 53, 51, 98, 100, 57, 97, 99, 101, 51, 50, 54, 50]))), (5, 1, (.c (.s [53, 52, 55, 101, 102, 56, 51, 53, 99, 51, 100, 97, 99, 52, 102, 100, 57, 55, 102, 56, 52, 54, 49, 97, 49, 52, 54, 49, 49, 100, 99, 57, 99, 50, 55, 55, 52, 53, 49, 51, 50, 100, 101, 100, 56, 101, 53, 52, 53, 99, 49, 100, 53, 52, 99, 55, 50, 102, 48, 52, 54, 57, 57, 55])))]),
 mv 2 30] [2]) (
 .ret)) (
 .seq (
 .reg [
 op 32 (.bin .eql (.t 3) (.c (.i 10))),
 mv 31 32] [3, 31]) (
 .cond (.t 31) (
 .seq (
 .reg [
 op 33 (.lit true 1 6 [.s [], .s [], .s [], .s [], .s [], .s []] [(0, 1, (.c (.s [100, 51, 53, 101, 52, 55, 50, 48, 51, 54, 98, 99, 52, 102, 98, 55, 101, 49, 51, 99, 55, 56, 53, 101, 100, 50, 48, 49, 101, 48, 54, 53, 102, 57, 56, 102, 99, 102, 97, 54, 102, 54, 102, 52, 48, 100, 101, 102, 52, 102, 57, 50, 98, 57, 101, 99, 55, 56, 57, 51, 101, 99, 50, 56, 102, 99, 100, 52, 49, 50, 98, 49, 102, 49, 98, 51, 50, 101, 50, 55]))), (1, 1, (.c (.s [51, 101, 101, 51, 48, 98, 53, 54, 56, 102, 98, 97, 98, 48, 102, 56, 56, 51, 99, 99, 101, 98, 100, 52, 54, 100, 51, 102, 51, 98, 98, 56, 97, 50, 97, 55, 51, 53, 49, 51, 102, 53, 101, 98, 55, 57, 100, 97, 54, 54, 49, 57, 48, 101, 98, 48, 56, 53, 102, 102, 97, 57, 102, 52, 57, 50, 102, 51, 55, 53, 97, 57, 55, 100, 56, 54, 48, 101, 98, 52]))), (2, 1, (.c (.s [53, 50, 48, 56, 56, 51, 57, 52, 57, 100, 102, 100, 98, 99, 52, 50, 100, 51, 97, 100, 49, 57, 56, 54, 52, 48, 54, 56, 56, 97, 54, 102, 101, 49, 51, 102, 52, 49, 51, 52, 57, 53, 53, 52, 98, 52, 57, 97, 99, 99, 51, 49, 100, 99, 99, 100, 56, 56, 52, 53, 51, 57, 56, 49, 54, 102, 53, 101, 98, 52, 97, 99, 56, 102, 98, 49, 102, 49, 97, 54]))), (3, 1, (.c (.s [100, 51, 53, 101, 52, 55, 50, 48, 51, 54, 98, 99, 52, 102, 98, 55, 101, 49, 51, 99, 55, 56, 53, 101, 100, 50, 48, 49, 101, 48, 54, 53, 102, 57, 56, 102, 99, 102, 97, 53, 98, 54, 56, 102, 49, 50, 97, 51, 50, 100, 52, 56, 50, 101, 99, 55, 101, 101, 56, 54, 53, 56, 101, 57, 56, 54, 57, 49, 53, 53, 53, 98, 52, 52, 99, 53, 57, 51, 49, 49]))), (4, 1, (.c (.s [52, 51, 98, 100, 55, 101, 57, 97, 102, 98, 53, 51, 100, 56, 98, 56, 53, 50, 56, 57, 98, 99, 99, 52, 56, 101, 101, 53, 98, 102, 101, 54, 102, 50, 48, 49, 51, 55, 100, 49, 48, 97, 48, 56, 55, 101, 98, 54, 101, 55, 56, 55, 49, 101, 50, 97, 49, 48, 97, 53, 57, 57, 99, 55, 49, 48, 97, 102, 56, 100, 48, 100, 51, 57, 101, 50, 48, 54, 49, 49]))), (5, 1, (.c (.s [49, 52, 102, 100, 100, 48, 53, 53, 52, 53, 101, 99, 49, 99, 99, 56, 97, 98, 52, 48, 57, 51, 50, 52, 55, 102, 55, 55, 50, 55, 53, 101, 48, 55, 52, 51, 102, 102, 101, 100, 49, 49, 55, 49, 56, 50, 101, 97, 97, 57, 99, 55, 55, 56, 55, 55, 97, 97, 97, 99, 54, 97, 99, 55, 100, 51, 53, 50, 52, 53, 100, 49, 54, 57, 50, 101, 56, 101, 101, 49])))]),
 mv 2 33] [2]) (
 .ret)) (
 .seq (
 .reg [
 op 35 (.bin .eql (.t 3) (.c (.i 11))),
 mv 34 35] [3, 34]) (
 .cond (.t 34) (
 .seq (
 .reg [
 op 36 (.lit true 1 6 [.s [], .s [], .s [], .s [], .s [], .s []] [(0, 1, (.c (.s [56, 99, 98, 57, 49, 101, 56, 50, 97, 51, 51, 56, 54, 100, 50, 56, 48, 102, 53, 100, 54, 102, 55, 101, 53, 48, 101, 54, 52, 49, 100, 102, 49, 53, 50, 102, 55, 49, 48, 57, 101, 100, 53, 52, 53, 54, 98, 52, 49, 50, 98, 49, 100, 97, 49, 57, 55, 102, 98, 55, 49, 49, 50, 51, 97, 99, 100, 51, 97, 55, 50, 57, 57, 48, 49, 100, 49, 97, 55, 49, 56, 55, 52, 55, 48, 48, 49, 51, 51, 49, 48, 55, 101, 99, 53, 51]))), (1, 1, (.c (.s [55, 98, 99, 51, 56, 50, 99, 54, 51, 100, 56, 99, 49, 53, 48, 99, 51, 99, 55, 50, 48, 56, 48, 97, 99, 101, 48, 53, 97, 102, 97, 48, 99, 50, 98, 101, 97, 50, 56, 101, 52, 102, 98, 50, 50, 55, 56, 55, 49, 51, 57, 49, 54, 53, 101, 102, 98, 97, 57, 49, 102, 57, 48, 102, 56, 97, 97, 53, 56, 49, 52, 97, 53, 48, 51, 97, 100, 52, 101, 98, 48, 52, 97, 56, 99, 55, 100, 100, 50, 50, 99, 101, 50, 56, 50, 54]))), (2, 1, (.c (.s [48, 52, 97, 56, 99, 55, 100, 100, 50, 50, 99, 101, 50, 56, 50, 54, 56, 98, 51, 57, 98, 53, 53, 52, 49, 54, 102, 48, 52, 52, 55, 99, 50, 102, 98, 55, 55, 100, 101, 49, 48, 55, 100, 99, 100, 50, 97, 54, 50, 101, 56, 56, 48, 101, 97, 53, 51, 101, 101, 98, 54, 50, 100, 53, 55, 99, 98, 52, 51, 57, 48, 50, 57, 53, 100, 98, 99, 57, 57, 52, 51, 97, 98, 55, 56, 54, 57, 54, 102, 97, 53, 48, 52, 99, 49, 49]))), (3, 1, (.c (.s [56, 99, 98, 57, 49, 101, 56, 50, 97, 51, 51, 56, 54, 100, 50, 56, 48, 102, 53, 100, 54, 102, 55, 101, 53, 48, 101, 54, 52, 49, 100, 102, 49, 53, 50, 102, 55, 49, 48, 57, 101, 100, 53, 52, 53, 54, 98, 51, 49, 102, 49, 54, 54, 101, 54, 99, 97, 99, 48, 52, 50, 53, 97, 55, 99, 102, 51, 97, 98, 54, 97, 102, 54, 98, 55, 102, 99, 51, 49, 48, 51, 98, 56, 56, 51, 50, 48, 50, 101, 57, 48, 52, 54, 53, 54, 53]))), (4, 1, (.c (.s [49, 100, 49, 99, 54, 52, 102, 48, 54, 56, 99, 102, 52, 53, 102, 102, 97, 50, 97, 54, 51, 97, 56, 49, 98, 55, 99, 49, 51, 102, 54, 98, 56, 56, 52, 55, 97, 51, 101, 55, 55, 101, 102, 49, 52, 102, 101, 51, 100, 98, 55, 102, 99, 97, 102, 101, 48, 99, 98, 100, 49, 48, 101, 56, 101, 56, 50, 54, 101, 48, 51, 52, 51, 54, 100, 54, 52, 54, 97, 97, 101, 102, 56, 55, 98, 50, 101, 50, 52, 55, 100, 52, 97, 102, 49, 101]))), (5, 1, (.c (.s [56, 97, 98, 101, 49, 100, 55, 53, 50, 48, 102, 57, 99, 50, 97, 52, 53, 99, 98, 49, 101, 98, 56, 101, 57, 53, 99, 102, 100, 53, 53, 50, 54, 50, 98, 55, 48, 98, 50, 57, 102, 101, 101, 99, 53, 56, 54, 52, 101, 49, 57, 99, 48, 53, 52, 102, 102, 57, 57, 49, 50, 57, 50, 56, 48, 101, 52, 54, 52, 54, 50, 49, 55, 55, 57, 49, 56, 49, 49, 49, 52, 50, 56, 50, 48, 51, 52, 49, 50, 54, 51, 99, 53, 51, 49, 53])))]),
 mv 2 36] [2]) (
 .ret)) (
 .seq (
 .reg [
 op 38 (.bin .eql (.t 3) (.c (.i 12))),
 mv 37 38] [3, 37]) (
 .cond (.t 37) (
 .seq (
 .reg [
 op 39 (.lit true 1 6 [.s [], .s [], .s [], .s [], .s [], .s []] [(0, 1, (.c (.s [97, 97, 100, 100, 57, 100, 98, 56, 100, 98, 101, 57, 99, 52, 56, 98, 51, 102, 100, 52, 101, 54, 97, 101, 51, 51, 99, 57, 102, 99, 48, 55, 99, 98, 51, 48, 56, 100, 98, 51, 98, 51, 99, 57, 100, 50, 48, 101, 100, 54, 54, 51, 57, 99, 99, 97, 55, 48, 51, 51, 48, 56, 55, 49, 55, 100, 52, 100, 57, 98, 48, 48, 57, 98, 99, 54, 54, 56, 52, 50, 97, 101, 99, 100, 97, 49, 50, 97, 101, 54, 97, 51, 56, 48, 101, 54, 50, 56, 56, 49, 102, 102, 50, 102, 50, 100, 56, 50, 99, 54, 56, 53, 50, 56, 97, 97, 54, 48, 53, 54, 53, 56, 51, 97, 52, 56, 102, 51]))), (1, 1, (.c (.s [55, 56, 51, 48, 97, 51, 51, 49, 56, 98, 54, 48, 51, 98, 56, 57, 101, 50, 51, 50, 55, 49, 52, 53, 97, 99, 50, 51, 52, 99, 99, 53, 57, 52, 99, 98, 100, 100, 56, 100, 51, 100, 102, 57, 49, 54, 49, 48, 97, 56, 51, 52, 52, 49, 99, 97, 101, 97, 57, 56, 54, 51, 98, 99, 50, 100, 101, 100, 53, 100, 53, 97, 97, 56, 50, 53, 51, 97, 97, 49, 48, 97, 50, 101, 102, 49, 99, 57, 56, 98, 57, 97, 99, 56, 98, 53, 55, 102, 49, 49, 49, 55, 97, 55, 50, 98, 102, 50, 99, 55, 98, 57, 101, 55, 99, 49, 97, 99, 52, 100, 55, 55, 102, 99, 57, 52, 99, 97]))), (2, 1, (.c (.s [51, 100, 102, 57, 49, 54, 49, 48, 97, 56, 51, 52, 52, 49, 99, 97, 101, 97, 57, 56, 54, 51, 98, 99, 50, 100, 101, 100, 53, 100, 53, 97, 97, 56, 50, 53, 51, 97, 97, 49, 48, 97, 50, 101, 102, 49, 99, 57, 56, 98, 57, 97, 99, 56, 98, 53, 55, 102, 49, 49, 49, 55, 97, 55, 50, 98, 102, 50, 99, 55, 98, 57, 101, 55, 99, 49, 97, 99, 52, 100, 55, 55, 102, 99, 57, 52, 99, 97, 100, 99, 48, 56, 51, 101, 54, 55, 57, 56, 52, 48, 53, 48, 98, 55, 53, 101, 98, 97, 101, 53, 100, 100, 50, 56, 48, 57, 98, 100, 54, 51, 56, 48, 49, 54, 102, 55, 50, 51]))), (3, 1, (.c (.s [97, 97, 100, 100, 57, 100, 98, 56, 100, 98, 101, 57, 99, 52, 56, 98, 51, 102, 100, 52, 101, 54, 97, 101, 51, 51, 99, 57, 102, 99, 48, 55, 99, 98, 51, 48, 56, 100, 98, 51, 98, 51, 99, 57, 100, 50, 48, 101, 100, 54, 54, 51, 57, 99, 99, 97, 55, 48, 51, 51, 48, 56, 55, 48, 53, 53, 51, 101, 53, 99, 52, 49, 52, 99, 97, 57, 50, 54, 49, 57, 52, 49, 56, 54, 54, 49, 49, 57, 55, 102, 97, 99, 49, 48, 52, 55, 49, 100, 98, 49, 100, 51, 56, 49, 48, 56, 53, 100, 100, 97, 100, 100, 98, 53, 56, 55, 57, 54, 56, 50, 57, 99, 97, 57, 48, 48, 54, 57]))), (4, 1, (.c (.s [56, 49, 97, 101, 101, 52, 98, 100, 100, 56, 50, 101, 100, 57, 54, 52, 53, 97, 50, 49, 51, 50, 50, 101, 57, 99, 52, 99, 54, 97, 57, 51, 56, 53, 101, 100, 57, 102, 55, 48, 98, 53, 100, 57, 49, 54, 99, 49, 98, 52, 51, 98, 54, 50, 101, 101, 102, 52, 100, 48, 48, 57, 56, 101, 102, 102, 51, 98, 49, 102, 55, 56, 101, 50, 100, 48, 100, 52, 56, 100, 53, 48, 100, 49, 54, 56, 55, 98, 57, 51, 98, 57, 55, 100, 53, 102, 55, 99, 54, 100, 53, 48, 52, 55, 52, 48, 54, 97, 53, 101, 54, 56, 56, 98, 51, 53, 50, 50, 48, 57, 98, 99, 98, 57, 102, 56, 50, 50]))), (5, 1, (.c (.s [55, 100, 100, 101, 51, 56, 53, 100, 53, 54, 54, 51, 51, 50, 101, 99, 99, 48, 101, 97, 98, 102, 97, 57, 99, 102, 55, 56, 50, 50, 102, 100, 102, 50, 48, 57, 102, 55, 48, 48, 50, 52, 97, 53, 55, 98, 49, 97, 97, 48, 48, 48, 99, 53, 53, 98, 56, 56, 49, 102, 56, 49, 49, 49, 98, 50, 100, 99, 100, 101, 52, 57, 52, 97, 53, 102, 52, 56, 53, 101, 53, 98, 99, 97, 52, 98, 100, 56, 56, 97, 50, 55, 54, 51, 97, 101, 100, 49, 99, 97, 50, 98, 50, 102, 97, 56, 102, 48, 53, 52, 48, 54, 55, 56, 99, 100, 49, 101, 48, 102, 51, 97, 100, 56, 48, 56, 57, 50])))]),
 mv 2 39] [2]) (
 .ret)) (
 .seq (
 .reg [
 op 41 (.bin .eql (.t 3) (.c (.i 13))),
 mv 40 41] [3, 40]) (
 .cond (.t 40) (
 .seq (
 .reg [
 op 42 (.lit true 1 6 [.s [], .s [], .s [], .s [], .s [], .s []] [(0, 1, (.c (.s [102, 98]))), (1, 1, (.c (.s [45]))), (2, 1, (.c (.s [49, 97]))), (3, 1, (.c (.s [100, 102]))), (4, 1, (.c (.s [50]))), (5, 1, (.c (.s [53, 52])))]),
 mv 2 42] [2]) (
 .ret)) (
 .seq (
 .reg [
 op 44 (.bin .eql (.t 3) (.c (.i 14))),
 mv 43 44] [3, 43]) (
 .cond (.t 43) (
 .seq (
 .reg [
 op 45 (.lit true 1 6 [.s [], .s [], .s [], .s [], .s [], .s []] [(0, 1, (.c (.s [102, 49]))), (1, 1, (.c (.s [48]))), (2, 1, (.c (.s [100]))), (3, 1, (.c (.s [100, 51]))), (4, 1, (.c (.s [51]))), (5, 1, (.c (.s [50, 102])))]),
 mv 2 45] [2]) (
 .ret)) (
 .seq (
 .reg [
 op 47 (.bin .eql (.t 3) (.c (.i 15))),
 mv 46 47] [46]) (
 .cond (.t 46) (
 .seq (
 .reg [
 op 48 (.lit true 1 6 [.s [], .s [], .s [], .s [], .s [], .s []] [(0, 1, (.c (.s [101, 102]))), (1, 1, (.c (.s [55, 53]))), (2, 1, (.c (.s [56]))), (3, 1, (.c (.s [101, 53]))), (4, 1, (.c (.s [48]))), (5, 1, (.c (.s [50, 57])))]),
 mv 2 48] [2]) (
 .ret)) (
 .reg [] []))))))))))))))))))))))))))))))))) (
 .seq (
 .reg [
 op 2 (.mov (.c (.nils)))] [2]) (
 .ret)))
def m_curvetref13_row : MFn := ⟨c_curvetref13_row, [.tmp 2], 2⟩

/-- curvet/curvetref13.Hex -/
def c_curvetref13_Hex : Stm :=
 .seq (
 .reg [
 op 2 (.mov (.c (.vs 0 [])))] [0]) (
 .seq (
 .reg [
 mv 6 0,
 op 7 (.lens (.t 6)),
 op 8 (.bin .quo (.t 7) (.c (.i 8))),
 op 9 (.bin .add (.t 8) (.c (.i 1))),
 op 10 (.mks 1 4 [.u 32 0] (.t 9) (.t 9)),
 mv 3 10] [0, 3]) (
 .seq (
 .seq (
 .reg [
 op 4 (.mov (.c (.i 0)))] [0, 3, 4]) (
 .block 0 (
 .loop [0, 3, 4] (
 .seq (
 .seq (
 .reg [
 mv 11 4,
 mv 12 0,
 op 13 (.lens (.t 12)),
 op 14 (.bin .lss (.t 11) (.t 13))] [0, 3, 4, 14]) (
 .cond (.t 14) (
 .reg [] [0, 3, 4]) (
 .exit 0 [3]))) (
 .seq (
 .block 1 (
 .seq (
 .reg [
 mv 17 0,
 op 18 (.lens (.t 17)),
 op 19 (.bin .sub (.t 18) (.c (.i 1))),
 mv 20 4,
 op 21 (.bin .sub (.t 19) (.t 20)),
 mv 5 21] [0, 3, 4, 5]) (
 .reg [
 mv 22 3,
 mv 23 5,
 op 24 (.bin .quo (.t 23) (.c (.i 8))),
 mv 25 3,
 mv 26 5,
 op 27 (.bin .quo (.t 26) (.c (.i 8))),
 op 28 (.idxs 1 (.t 25) (.t 27)),
 op 29 (.ld false none (.t 28)),
 mv 30 0,
 mv 31 4,
 op 32 (.idxb (.t 30) (.t 31)),
 op 33 (.callp f_curvetref13_digit [(.t 32)]),
 mv 34 5,
 op 35 (.bin .rem (.t 34) (.c (.i 8))),
 op 36 (.bin .mul (.t 35) (.c (.i 4))),
 op 37 (.bin .shl (.t 33) (.t 36)),
 op 38 (.bin .or (.t 29) (.t 37)),
 op 39 (.idxs 1 (.t 22) (.t 24)),
 ⟨none, none, .st 1 (.t 39) (.t 38)⟩] [0, 3, 4]))) (
 .reg [
 mv 15 4,
 op 16 (.bin .add (.t 15) (.c (.i 1))),
 mv 4 16] [0, 3, 4])))))) (
 .seq (
 .reg [
 mv 40 3,
 op 41 (.call f_curvetref1_Shr [] [(.t 40), (.c (.i 0))]),
 mv 2 41] [2]) (
 .ret))))
def m_curvetref13_Hex : MFn := ⟨c_curvetref13_Hex, [.tmp 2], 0⟩

/-- curvet/curvetref1.Sub -/
def c_curvetref1_Sub : Stm :=
 .seq (
 .reg [
 op 4 (.mov (.c (.vs 0 [])))] [0, 1]) (
 .seq (
 .reg [
 mv 9 0,
 op 10 (.len (.t 9)),
 op 11 (.mks 1 4 [.u 32 0] (.t 10) (.t 10)),
 mv 5 11] [0, 1, 5]) (
 .seq (
 .reg [
 op 6 (.mov (.c (.u 64 0)))] [0, 1, 5, 6]) (
 .seq (
 .seq (
 .reg [
 op 7 (.mov (.c (.i 0)))] [0, 1, 5, 6, 7]) (
 .block 0 (
 .loop [0, 1, 5, 6, 7] (
 .seq (
 .seq (
 .reg [
 mv 12 7,
 mv 13 0,
 op 14 (.len (.t 13)),
 op 15 (.bin .lss (.t 12) (.t 14))] [0, 1, 5, 6, 7, 15]) (
 .cond (.t 15) (
 .reg [] [0, 1, 5, 6, 7]) (
 .exit 0 [5]))) (
 .seq (
 .block 1 (
 .seq (
 .reg [
 mv 18 0,
 mv 19 7,
 op 20 (.call f_curvetref1_digit [] [(.t 18), (.t 19)]),
 op 21 (.bin .add (.t 20) (.c (.u 64 4294967296))),
 mv 22 1,
 mv 23 7,
 op 24 (.call f_curvetref1_digit [] [(.t 22), (.t 23)]),
 op 25 (.bin .sub (.t 21) (.t 24)),
 mv 26 6,
 op 27 (.bin .sub (.t 25) (.t 26)),
 mv 8 27] [0, 1, 5, 7, 8]) (
 .seq (
 .reg [
 mv 28 5,
 mv 29 7,
 mv 30 8,
 op 31 (.bin .and (.t 30) (.c (.u 64 4294967295))),
 op 32 (.cvu 32 (.t 31)),
 op 33 (.idxs 1 (.t 28) (.t 29)),
 ⟨none, none, .st 1 (.t 33) (.t 32)⟩] [0, 1, 5, 7, 8]) (
 .reg [
 mv 34 8,
 op 35 (.bin .shr (.t 34) (.c (.u 64 32))),
 op 36 (.bin .sub (.c (.u 64 1)) (.t 35)),
 mv 6 36] [0, 1, 5, 6, 7])))) (
 .reg [
 mv 16 7,
 op 17 (.bin .add (.t 16) (.c (.i 1))),
 mv 7 17] [0, 1, 5, 6, 7])))))) (
 .seq (
 .reg [
 mv 37 5,
 op 38 (.call f_curvetref1_trim [] [(.t 37)]),
 mv 4 38] [4]) (
 .ret)))))
def m_curvetref1_Sub : MFn := ⟨c_curvetref1_Sub, [.tmp 4], 0⟩

/-- curvet/field.Of -/
def c_field_Of : Stm :=
 .seq (
 .reg [
 op 2 (.mov (.c (.nilp)))] [0]) (
 .seq (
 .reg [
 mv 5 0,
 op 6 (.call f_field_prime [] [(.t 5)]),
 mv 3 6] [3]) (
 .seq (
 .seq (
 .reg [
 mv 7 3,
 op 8 (.bin .eql (.t 7) (.c (.s [])))] [3, 8]) (
 .cond (.t 8) (
 .seq (
 .reg [
 op 2 (.mov (.c (.nilp)))] [2]) (
 .ret)) (
 .reg [] [3]))) (
 .seq (
 .reg [
 mv 9 3,
 op 10 (.call f_field_Hex [] [(.t 9)]),
 op 4 (.box (.c (.agg [.u 64 0, .u 64 0, .u 64 0, .u 64 0, .u 64 0, .u 64 0, .u 64 0, .u 64 0, .u 64 0]))),
 ⟨none, none, .stl 4 9 (.t 4) (.t 10)⟩] [4]) (
 .seq (
 .reg [
 op 11 (.ldl 4 (some 9) (.t 4)),
 op 12 (.ldl 4 (some 9) (.t 4)),
 op 13 (.call f_divide_By [] [(.t 12)]),
 op 14 (.build [.u 64 0, .u 64 0, .u 64 0, .u 64 0, .u 64 0, .u 64 0, .u 64 0, .u 64 0, .u 64 0, .nilp] [(0, 9, (.t 11)), (9, 1, (.t 13))]),
 op 15 (.boxv (.t 14)),
 mv 2 15] [2]) (
 .ret)))))
def m_field_Of : MFn := ⟨c_field_Of, [.tmp 2], 0⟩

/-- (*curvet/field.Field).Has -/
def c_field_Field_Has : Stm :=
 .seq (
 .reg [
 op 3 (.boxv (.t 1)),
 op 4 (.mov (.c (.b false)))] [0, 3]) (
 .seq (
 .reg [
 op 5 (.ld true (some 9) (.t 3)),
 mv 6 0,
 op 7 (.nck (.t 6)),
 op 8 (.off 0 (.t 7)),
 op 9 (.ld false (some 9) (.t 8)),
 op 10 (.call f_nat_Cmp [] [(.t 5), (.t 9)]),
 op 11 (.bin .lss (.t 10) (.c (.i 0))),
 mv 4 11] [4]) (
 .ret))
def m_field_Field_Has : MFn := ⟨c_field_Field_Has, [.tmp 4], 0⟩

/-- (*curvet/field.Field).Inv -/
def c_field_Field_Inv : Stm :=
 .seq (
 .reg [
 op 3 (.boxv (.t 1)),
 op 4 (.box (.c (.agg [.u 64 0, .u 64 0, .u 64 0, .u 64 0, .u 64 0, .u 64 0, .u 64 0, .u 64 0, .u 64 0])))] [0, 3, 4]) (
 .seq (
 .reg [
 op 8 (.ld true (some 9) (.t 3)),
 mv 9 0,
 op 10 (.nck (.t 9)),
 op 11 (.off 0 (.t 10)),
 op 12 (.ld false (some 9) (.t 11)),
 op 13 (.call f_divide_Inverse [] [(.t 8), (.t 12)]),
 mv 7 13,
 op 14 (.ext 0 (.t 7)),
 op 15 (.ext 1 (.t 7)),
 op 5 (.box (.c (.agg [.u 64 0, .u 64 0, .u 64 0, .u 64 0, .u 64 0, .u 64 0, .u 64 0, .u 64 0, .u 64 0]))),
 ⟨none, none, .stl 5 9 (.t 5) (.t 14)⟩,
 mv 6 15] [4, 5]) (
 .seq (
 .reg [
 op 16 (.ldl 5 (some 9) (.t 5)),
 ⟨none, none, .stl 4 9 (.t 4) (.t 16)⟩] [4]) (
 .ret)))
def m_field_Field_Inv : MFn := ⟨c_field_Field_Inv, [.cell 4 (some 9)], 0⟩

/-- (*curvet/field.Field).Sqrt -/
def c_field_Field_Sqrt : Stm :=
 .seq (
 .reg [
 op 3 (.boxv (.t 1)),
 op 4 (.box (.c (.agg [.u 64 0, .u 64 0, .u 64 0, .u 64 0, .u 64 0, .u 64 0, .u 64 0, .u 64 0, .u 64 0]))),
 op 5 (.mov (.c (.b false)))] [0, 3, 4]) (
 .seq (
 .seq (
 .reg [
 op 9 (.ld true (some 9) (.t 3)),
 op 10 (.build [.u 64 0, .u 64 0, .u 64 0, .u 64 0, .u 64 0, .u 64 0, .u 64 0, .u 64 0, .u 64 0] []),
 op 11 (.eqv (.agg [.u 64, .u 64, .u 64, .u 64, .u 64, .u 64, .u 64, .u 64, .u 64]) false (.t 9) (.t 10))] [0, 3, 4, 11]) (
 .cond (.t 11) (
 .seq (
 .reg [
 op 12 (.ld true (some 9) (.t 3)),
 ⟨none, none, .stl 4 9 (.t 4) (.t 12)⟩,
 op 5 (.mov (.c (.b true)))] [4, 5]) (
 .ret)) (
 .reg [] [0, 3, 4]))) (
 .seq (
 .reg [
 mv 14 0,
 op 15 (.nck (.t 14)),
 op 16 (.off 0 (.t 15)),
 op 17 (.ld true (some 9) (.t 16)),
 op 18 (.call f_field_one [] []),
 op 19 (.call f_nat_Sub [] [(.t 17), (.t 18)]),
 mv 13 19,
 op 20 (.ext 0 (.t 13)),
 op 21 (.ext 1 (.t 13)),
 op 6 (.box (.c (.agg [.u 64 0, .u 64 0, .u 64 0, .u 64 0, .u 64 0, .u 64 0, .u 64 0, .u 64 0, .u 64 0]))),
 ⟨none, none, .stl 6 9 (.t 6) (.t 20)⟩,
 mv 7 21] [0, 3, 4, 6]) (
 .seq (
 .seq (
 .reg [
 mv 22 0,
 op 23 (.nck (.t 22)),
 op 24 (.off 9 (.t 23)),
 op 25 (.ld true (some 1) (.t 24)),
 op 26 (.ld true (some 9) (.t 3)),
 op 27 (.ldl 6 (some 9) (.t 6)),
 op 28 (.call f_field_half [] [(.t 27)]),
 op 29 (.call f_divide_Modulus_Pow [] [(.t 25), (.t 26), (.t 28)]),
 op 30 (.call f_field_one [] []),
 op 31 (.eqv (.agg [.u 64, .u 64, .u 64, .u 64, .u 64, .u 64, .u 64, .u 64, .u 64]) true (.t 29) (.t 30))] [0, 3, 4, 31]) (
 .cond (.t 31) (
 .seq (
 .reg [
 op 32 (.build [.u 64 0, .u 64 0, .u 64 0, .u 64 0, .u 64 0, .u 64 0, .u 64 0, .u 64 0, .u 64 0] []),
 ⟨none, none, .stl 4 9 (.t 4) (.t 32)⟩,
 op 5 (.mov (.c (.b false)))] [4, 5]) (
 .ret)) (
 .reg [] [0, 3, 4]))) (
 .seq (
 .reg [
 mv 33 0,
 op 34 (.ld true (some 9) (.t 3)),
 op 35 (.call f_field_Field_root [] [(.t 33), (.t 34)]),
 op 8 (.box (.c (.agg [.u 64 0, .u 64 0, .u 64 0, .u 64 0, .u 64 0, .u 64 0, .u 64 0, .u 64 0, .u 64 0]))),
 ⟨none, none, .stl 8 9 (.t 8) (.t 35)⟩] [0, 4, 8]) (
 .seq (
 .seq (
 .reg [
 op 36 (.ldl 8 (some 9) (.t 8)),
 op 37 (.call f_nat_Bit [] [(.t 36), (.c (.i 0))]),
 op 38 (.bin .eql (.t 37) (.c (.i 1)))] [0, 4, 8, 38]) (
 .cond (.t 38) (
 .reg [
 mv 39 0,
 op 40 (.build [.u 64 0, .u 64 0, .u 64 0, .u 64 0, .u 64 0, .u 64 0, .u 64 0, .u 64 0, .u 64 0] []),
 op 41 (.ldl 8 (some 9) (.t 8)),
 op 42 (.call f_field_Field_Sub [] [(.t 39), (.t 40), (.t 41)]),
 ⟨none, none, .stl 8 9 (.t 8) (.t 42)⟩] [4, 8]) (
 .reg [] [4, 8]))) (
 .seq (
 .reg [
 op 43 (.ldl 8 (some 9) (.t 8)),
 ⟨none, none, .stl 4 9 (.t 4) (.t 43)⟩,
 op 5 (.mov (.c (.b true)))] [4, 5]) (
 .ret)))))))
def m_field_Field_Sqrt : MFn := ⟨c_field_Field_Sqrt, [.cell 4 (some 9), .tmp 5], 0⟩

/-- curvet/curvetref1.trim -/
def c_curvetref1_trim : Stm :=
 .seq (
 .reg [
 op 2 (.mov (.c (.vs 0 [])))] [0]) (
 .seq (
 .reg [
 mv 4 0,
 op 5 (.len (.t 4)),
 mv 3 5] [0, 3]) (
 .seq (
 .block 0 (
 .loop [0, 3] (
 .seq (
 .seq (
 .reg [
 mv 6 3,
 op 7 (.bin .gtr (.t 6) (.c (.i 0))),
 mv 8 7,
 ⟨some 9, (some (8, true)), .mov (.t 0)⟩,
 ⟨some 10, (some (8, true)), .mov (.t 3)⟩,
 ⟨some 11, (some (8, true)), .bin .sub (.t 10) (.c (.i 1))⟩,
 ⟨some 12, (some (8, true)), .idxs 1 (.t 9) (.t 11)⟩,
 ⟨some 13, (some (8, true)), .ld false none (.t 12)⟩,
 ⟨some 14, (some (8, true)), .bin .eql (.t 13) (.c (.u 32 0))⟩,
 op 15 (.pick (.t 8) (.t 14) (.c (.b false)))] [0, 3, 15]) (
 .cond (.t 15) (
 .reg [] [0, 3]) (
 .exit 0 [0, 3]))) (
 .block 1 (
 .reg [
 mv 16 3,
 op 17 (.bin .sub (.t 16) (.c (.i 1))),
 mv 3 17] [0, 3]))))) (
 .seq (
 .reg [
 mv 18 0,
 mv 19 3,
 op 20 (.slv 1 (.t 18) none (some (.t 19))),
 mv 2 20] [2]) (
 .ret))))
def m_curvetref1_trim : MFn := ⟨c_curvetref1_trim, [.tmp 2], 0⟩

/-- curvet/curvetref1.Div -/
def c_curvetref1_Div : Stm :=
 .seq (
 .reg [
 op 4 (.mov (.c (.vs 0 []))),
 op 5 (.mov (.c (.vs 0 [])))] [0, 1]) (
 .seq (
 .seq (
 .reg [
 mv 12 0,
 mv 13 1,
 op 14 (.call f_curvetref1_Cmp [] [(.t 12), (.t 13)]),
 op 15 (.bin .lss (.t 14) (.c (.i 0)))] [0, 1, 15]) (
 .cond (.t 15) (
 .seq (
 .reg [
 mv 16 0,
 op 4 (.mov (.c (.vs 0 []))),
 mv 5 16] [4, 5]) (
 .ret)) (
 .reg [] [0, 1]))) (
 .seq (
 .seq (
 .reg [
 mv 17 1,
 op 18 (.len (.t 17)),
 op 19 (.bin .eql (.t 18) (.c (.i 1)))] [0, 1, 19]) (
 .cond (.t 19) (
 .seq (
 .reg [
 mv 20 0,
 mv 21 1,
 op 22 (.idxs 1 (.t 21) (.c (.i 0))),
 op 23 (.ld false none (.t 22)),
 op 24 (.cvu 64 (.t 23)),
 op 25 (.call f_curvetref1_short [] [(.t 20), (.t 24)]),
 op 26 (.ext 0 (.t 25)),
 op 27 (.ext 1 (.t 25)),
 mv 4 26,
 mv 5 27] [4, 5]) (
 .ret)) (
 .reg [] [0, 1]))) (
 .seq (
 .reg [
 mv 28 1,
 op 29 (.len (.t 28)),
 op 30 (.bin .mul (.c (.i 32)) (.t 29)),
 mv 31 1,
 op 32 (.call f_curvetref1_Bits [] [(.t 31)]),
 op 33 (.bin .sub (.t 30) (.t 32)),
 mv 6 33] [0, 1, 6]) (
 .seq (
 .reg [
 mv 34 1,
 mv 35 6,
 op 36 (.call f_curvetref1_Shl [] [(.t 34), (.t 35)]),
 mv 7 36] [0, 6, 7]) (
 .seq (
 .reg [
 mv 37 0,
 op 38 (.len (.t 37)),
 op 39 (.bin .add (.t 38) (.c (.i 1))),
 op 40 (.mks 1 4 [.u 32 0] (.t 39) (.t 39)),
 mv 8 40] [0, 6, 7, 8]) (
 .seq (
 .reg [
 mv 41 8,
 mv 42 0,
 mv 43 6,
 op 44 (.call f_curvetref1_Shl [] [(.t 42), (.t 43)]),
 op 45 (.cpy 1 (.t 41) (.t 44))] [6, 7, 8]) (
 .seq (
 .reg [
 mv 46 7,
 op 47 (.len (.t 46)),
 mv 9 47] [6, 7, 8, 9]) (
 .seq (
 .reg [
 mv 48 8,
 op 49 (.len (.t 48)),
 mv 50 9,
 op 51 (.bin .sub (.t 49) (.t 50)),
 op 52 (.mks 1 4 [.u 32 0] (.t 51) (.t 51)),
 mv 10 52] [6, 7, 8, 9, 10]) (
 .seq (
 .seq (
 .reg [
 mv 53 8,
 op 54 (.len (.t 53)),
 mv 55 9,
 op 56 (.bin .sub (.t 54) (.t 55)),
 op 57 (.bin .sub (.t 56) (.c (.i 1))),
 mv 11 57] [6, 7, 8, 9, 10, 11]) (
 .block 0 (
 .loop [6, 7, 8, 9, 10, 11] (
 .seq (
 .seq (
 .reg [
 mv 58 11,
 op 59 (.bin .geq (.t 58) (.c (.i 0)))] [6, 7, 8, 9, 10, 11, 59]) (
 .cond (.t 59) (
 .reg [] [6, 7, 8, 9, 10, 11]) (
 .exit 0 [6, 8, 9, 10]))) (
 .seq (
 .block 1 (
 .reg [
 mv 62 10,
 mv 63 11,
 mv 64 8,
 mv 65 7,
 mv 66 11,
 op 67 (.call f_curvetref1_step [] [(.t 64), (.t 65), (.t 66)]),
 op 68 (.cvu 32 (.t 67)),
 op 69 (.idxs 1 (.t 62) (.t 63)),
 ⟨none, none, .st 1 (.t 69) (.t 68)⟩] [6, 7, 8, 9, 10, 11])) (
 .reg [
 mv 60 11,
 op 61 (.bin .sub (.t 60) (.c (.i 1))),
 mv 11 61] [6, 7, 8, 9, 10, 11])))))) (
 .seq (
 .reg [
 mv 70 10,
 op 71 (.call f_curvetref1_trim [] [(.t 70)]),
 mv 72 8,
 mv 73 9,
 op 74 (.slv 1 (.t 72) none (some (.t 73))),
 op 75 (.call f_curvetref1_trim [] [(.t 74)]),
 mv 76 6,
 op 77 (.call f_curvetref1_Shr [] [(.t 75), (.t 76)]),
 mv 4 71,
 mv 5 77] [4, 5]) (
 .ret)))))))))))
def m_curvetref1_Div : MFn := ⟨c_curvetref1_Div, [.tmp 4, .tmp 5], 0⟩

/-- curvet/curvetref1.Shr -/
def c_curvetref1_Shr : Stm :=
 .seq (
 .reg [
 op 4 (.mov (.c (.vs 0 [])))] [0, 1]) (
 .seq (
 .seq (
 .reg [
 mv 8 1,
 op 9 (.bin .quo (.t 8) (.c (.i 32))),
 mv 10 0,
 op 11 (.len (.t 10)),
 op 12 (.bin .geq (.t 9) (.t 11))] [0, 1, 12]) (
 .cond (.t 12) (
 .seq (
 .reg [
 op 4 (.mov (.c (.vs 0 [])))] [4]) (
 .ret)) (
 .reg [] [0, 1]))) (
 .seq (
 .reg [
 mv 13 0,
 op 14 (.len (.t 13)),
 mv 15 1,
 op 16 (.bin .quo (.t 15) (.c (.i 32))),
 op 17 (.bin .sub (.t 14) (.t 16)),
 op 18 (.mks 1 4 [.u 32 0] (.t 17) (.t 17)),
 mv 5 18] [0, 1, 5]) (
 .seq (
 .seq (
 .reg [
 op 6 (.mov (.c (.i 0)))] [0, 1, 5, 6]) (
 .block 0 (
 .loop [0, 1, 5, 6] (
 .seq (
 .seq (
 .reg [
 mv 19 6,
 mv 20 5,
 op 21 (.len (.t 20)),
 op 22 (.bin .lss (.t 19) (.t 21))] [0, 1, 5, 6, 22]) (
 .cond (.t 22) (
 .reg [] [0, 1, 5, 6]) (
 .exit 0 [5]))) (
 .seq (
 .block 1 (
 .seq (
 .reg [
 mv 25 0,
 mv 26 6,
 mv 27 1,
 op 28 (.bin .quo (.t 27) (.c (.i 32))),
 op 29 (.bin .add (.t 26) (.t 28)),
 op 30 (.call f_curvetref1_digit [] [(.t 25), (.t 29)]),
 mv 31 0,
 mv 32 6,
 mv 33 1,
 op 34 (.bin .quo (.t 33) (.c (.i 32))),
 op 35 (.bin .add (.t 32) (.t 34)),
 op 36 (.bin .add (.t 35) (.c (.i 1))),
 op 37 (.call f_curvetref1_digit [] [(.t 31), (.t 36)]),
 op 38 (.bin .shl (.t 37) (.c (.u 64 32))),
 op 39 (.bin .or (.t 30) (.t 38)),
 mv 7 39] [0, 1, 5, 6, 7]) (
 .reg [
 mv 40 5,
 mv 41 6,
 mv 42 7,
 mv 43 1,
 op 44 (.bin .rem (.t 43) (.c (.i 32))),
 op 45 (.bin .shr (.t 42) (.t 44)),
 op 46 (.bin .and (.t 45) (.c (.u 64 4294967295))),
 op 47 (.cvu 32 (.t 46)),
 op 48 (.idxs 1 (.t 40) (.t 41)),
 ⟨none, none, .st 1 (.t 48) (.t 47)⟩] [0, 1, 5, 6]))) (
 .reg [
 mv 23 6,
 op 24 (.bin .add (.t 23) (.c (.i 1))),
 mv 6 24] [0, 1, 5, 6])))))) (
 .seq (
 .reg [
 mv 49 5,
 op 50 (.call f_curvetref1_trim [] [(.t 49)]),
 mv 4 50] [4]) (
 .ret)))))
def m_curvetref1_Shr : MFn := ⟨c_curvetref1_Shr, [.tmp 4], 0⟩

/-- curvet/curvetref1.PowMod -/
def c_curvetref1_PowMod : Stm :=
 .seq (
 .reg [
 op 6 (.mov (.c (.vs 0 [])))] [0, 1, 2]) (
 .seq (
 .reg [
 op 10 (.lit true 1 1 [.u 32 0] [(0, 1, (.c (.u 32 1)))]),
 mv 11 2,
 op 12 (.call f_curvetref1_Mod [] [(.t 10), (.t 11)]),
 mv 7 12] [0, 1, 2, 7]) (
 .seq (
 .reg [
 mv 13 0,
 mv 14 2,
 op 15 (.call f_curvetref1_Mod [] [(.t 13), (.t 14)]),
 mv 8 15] [1, 2, 7, 8]) (
 .seq (
 .seq (
 .reg [
 mv 16 1,
 op 17 (.call f_curvetref1_Bits [] [(.t 16)]),
 op 18 (.bin .sub (.t 17) (.c (.i 1))),
 mv 9 18] [1, 2, 7, 8, 9]) (
 .block 0 (
 .loop [1, 2, 7, 8, 9] (
 .seq (
 .seq (
 .reg [
 mv 19 9,
 op 20 (.bin .geq (.t 19) (.c (.i 0)))] [1, 2, 7, 8, 9, 20]) (
 .cond (.t 20) (
 .reg [] [1, 2, 7, 8, 9]) (
 .exit 0 [7]))) (
 .seq (
 .block 1 (
 .seq (
 .reg [
 mv 23 7,
 mv 24 7,
 mv 25 2,
 op 26 (.call f_curvetref1_MulMod [] [(.t 23), (.t 24), (.t 25)]),
 mv 7 26] [1, 2, 7, 8, 9]) (
 .seq (
 .reg [
 mv 27 1,
 mv 28 9,
 op 29 (.call f_curvetref1_Bit [] [(.t 27), (.t 28)]),
 op 30 (.bin .eql (.t 29) (.c (.i 1)))] [1, 2, 7, 8, 9, 30]) (
 .cond (.t 30) (
 .reg [
 mv 31 7,
 mv 32 8,
 mv 33 2,
 op 34 (.call f_curvetref1_MulMod [] [(.t 31), (.t 32), (.t 33)]),
 mv 7 34] [1, 2, 7, 8, 9]) (
 .reg [] [1, 2, 7, 8, 9]))))) (
 .reg [
 mv 21 9,
 op 22 (.bin .sub (.t 21) (.c (.i 1))),
 mv 9 22] [1, 2, 7, 8, 9])))))) (
 .seq (
 .reg [
 mv 35 7,
 mv 6 35] [6]) (
 .ret)))))
def m_curvetref1_PowMod : MFn := ⟨c_curvetref1_PowMod, [.tmp 6], 0⟩

/-- curvet/curvetref1.Bit -/
def c_curvetref1_Bit : Stm :=
 .seq (
 .reg [
 op 4 (.mov (.c (.i 0)))] [0, 1]) (
 .seq (
 .reg [
 mv 5 0,
 mv 6 1,
 op 7 (.bin .quo (.t 6) (.c (.i 32))),
 op 8 (.call f_curvetref1_digit [] [(.t 5), (.t 7)]),
 mv 9 1,
 op 10 (.bin .rem (.t 9) (.c (.i 32))),
 op 11 (.bin .shr (.t 8) (.t 10)),
 op 12 (.bin .and (.t 11) (.c (.u 64 1))),
 op 13 (.cvi (.t 12)),
 mv 4 13] [4]) (
 .ret))
def m_curvetref1_Bit : MFn := ⟨c_curvetref1_Bit, [.tmp 4], 0⟩

/-- curvet/curvetref1.Add -/
def c_curvetref1_Add : Stm :=
 .seq (
 .reg [
 op 4 (.mov (.c (.vs 0 [])))] [0, 1]) (
 .seq (
 .reg [
 mv 10 0,
 op 11 (.len (.t 10)),
 mv 12 1,
 op 13 (.len (.t 12)),
 op 14 (.mx (.t 11) (.t 13)),
 mv 5 14] [0, 1, 5]) (
 .seq (
 .reg [
 mv 15 5,
 op 16 (.bin .add (.t 15) (.c (.i 1))),
 op 17 (.mks 1 4 [.u 32 0] (.t 16) (.t 16)),
 mv 6 17] [0, 1, 5, 6]) (
 .seq (
 .reg [
 op 7 (.mov (.c (.u 64 0)))] [0, 1, 5, 6, 7]) (
 .seq (
 .seq (
 .reg [
 op 8 (.mov (.c (.i 0)))] [0, 1, 5, 6, 7, 8]) (
 .block 0 (
 .loop [0, 1, 5, 6, 7, 8] (
 .seq (
 .seq (
 .reg [
 mv 18 8,
 mv 19 5,
 op 20 (.bin .lss (.t 18) (.t 19))] [0, 1, 5, 6, 7, 8, 20]) (
 .cond (.t 20) (
 .reg [] [0, 1, 5, 6, 7, 8]) (
 .exit 0 [5, 6, 7]))) (
 .seq (
 .block 1 (
 .seq (
 .reg [
 mv 23 0,
 mv 24 8,
 op 25 (.call f_curvetref1_digit [] [(.t 23), (.t 24)]),
 mv 26 1,
 mv 27 8,
 op 28 (.call f_curvetref1_digit [] [(.t 26), (.t 27)]),
 op 29 (.bin .add (.t 25) (.t 28)),
 mv 30 7,
 op 31 (.bin .add (.t 29) (.t 30)),
 mv 9 31] [0, 1, 5, 6, 8, 9]) (
 .seq (
 .reg [
 mv 32 6,
 mv 33 8,
 mv 34 9,
 op 35 (.bin .and (.t 34) (.c (.u 64 4294967295))),
 op 36 (.cvu 32 (.t 35)),
 op 37 (.idxs 1 (.t 32) (.t 33)),
 ⟨none, none, .st 1 (.t 37) (.t 36)⟩] [0, 1, 5, 6, 8, 9]) (
 .reg [
 mv 38 9,
 op 39 (.bin .shr (.t 38) (.c (.u 64 32))),
 mv 7 39] [0, 1, 5, 6, 7, 8])))) (
 .reg [
 mv 21 8,
 op 22 (.bin .add (.t 21) (.c (.i 1))),
 mv 8 22] [0, 1, 5, 6, 7, 8])))))) (
 .seq (
 .reg [
 mv 40 6,
 mv 41 5,
 mv 42 7,
 op 43 (.cvu 32 (.t 42)),
 op 44 (.idxs 1 (.t 40) (.t 41)),
 ⟨none, none, .st 1 (.t 44) (.t 43)⟩] [6]) (
 .seq (
 .reg [
 mv 45 6,
 op 46 (.call f_curvetref1_trim [] [(.t 45)]),
 mv 4 46] [4]) (
 .ret)))))))
def m_curvetref1_Add : MFn := ⟨c_curvetref1_Add, [.tmp 4], 0⟩

/-- curvet/curvetref1.digit -/
def c_curvetref1_digit : Stm :=
 .seq (
 .reg [
 op 4 (.mov (.c (.u 64 0)))] [0, 1]) (
 .seq (
 .seq (
 .reg [
 mv 5 1,
 mv 6 0,
 op 7 (.len (.t 6)),
 op 8 (.bin .lss (.t 5) (.t 7))] [0, 1, 8]) (
 .cond (.t 8) (
 .seq (
 .reg [
 mv 9 0,
 mv 10 1,
 op 11 (.idxs 1 (.t 9) (.t 10)),
 op 12 (.ld false none (.t 11)),
 op 13 (.cvu 64 (.t 12)),
 mv 4 13] [4]) (
 .ret)) (
 .reg [] []))) (
 .seq (
 .reg [
 op 4 (.mov (.c (.u 64 0)))] [4]) (
 .ret)))
def m_curvetref1_digit : MFn := ⟨c_curvetref1_digit, [.tmp 4], 0⟩

/-- curvet/field.do -/
def c_field_do : Stm :=
 .seq (
 .reg [
 op 5 (.boxv (.t 1)),
 op 6 (.boxv (.t 2)),
 op 8 (.box (.c (.agg [.u 64 0, .u 64 0, .u 64 0, .u 64 0, .u 64 0, .u 64 0, .u 64 0, .u 64 0, .u 64 0]))),
 op 9 (.mov (.c (.i 0)))] [0, 3, 5, 6, 8]) (
 .seq (
 .reg [
 mv 11 0,
 op 12 (.call f_field_Of [] [(.t 11)]),
 mv 10 12] [3, 5, 6, 8, 10]) (
 .seq (
 .block 0 (
 .seq (
 .reg [
 mv 14 10,
 op 15 (.eqv .ptr false (.t 14) (.c (.nilp))),
 mv 13 15] [3, 5, 6, 8, 10, 13]) (
 .cond (.t 13) (
 .seq (
 .reg [
 op 16 (.build [.u 64 0, .u 64 0, .u 64 0, .u 64 0, .u 64 0, .u 64 0, .u 64 0, .u 64 0, .u 64 0] []),
 ⟨none, none, .stl 8 9 (.t 8) (.t 16)⟩,
 op 9 (.mov (.c (.i 500)))] [8, 9]) (
 .ret)) (
 .seq (
 .reg [
 mv 18 10,
 op 19 (.ld true (some 9) (.t 5)),
 op 20 (.call f_field_Field_Has [] [(.t 18), (.t 19)]),
 op 21 (.un .not (.t 20)),
 mv 22 21,
 ⟨some 23, (some (22, false)), .mov (.t 10)⟩,
 ⟨some 24, (some (22, false)), .ld true (some 9) (.t 6)⟩,
 ⟨some 25, (some (22, false)), .call f_field_Field_Has [] [(.t 23), (.t 24)]⟩,
 ⟨some 26, (some (22, false)), .un .not (.t 25)⟩,
 op 27 (.pick (.t 22) (.c (.b true)) (.t 26)),
 mv 17 27] [3, 5, 6, 8, 10, 17]) (
 .cond (.t 17) (
 .seq (
 .reg [
 op 28 (.build [.u 64 0, .u 64 0, .u 64 0, .u 64 0, .u 64 0, .u 64 0, .u 64 0, .u 64 0, .u 64 0] []),
 ⟨none, none, .stl 8 9 (.t 8) (.t 28)⟩,
 op 9 (.mov (.c (.i 501)))] [8, 9]) (
 .ret)) (
 .reg [] [3, 5, 6, 8, 10])))))) (
 .seq (
 .reg [
 mv 29 3,
 mv 30 10,
 op 31 (.ld true (some 9) (.t 5)),
 op 32 (.ld true (some 9) (.t 6)),
 op 33 (.cal (.t 29) [(.t 30), (.t 31), (.t 32)]),
 ⟨none, none, .stl 8 9 (.t 8) (.t 33)⟩,
 op 9 (.mov (.c (.i 0)))] [8, 9]) (
 .ret))))
def m_field_do : MFn := ⟨c_field_do, [.cell 8 (some 9), .tmp 9], 0⟩

/-- (*curvet/field.Field).Mul -/
def c_field_Field_Mul : Stm :=
 .seq (
 .reg [
 op 4 (.boxv (.t 1)),
 op 5 (.boxv (.t 2)),
 op 6 (.box (.c (.agg [.u 64 0, .u 64 0, .u 64 0, .u 64 0, .u 64 0, .u 64 0, .u 64 0, .u 64 0, .u 64 0])))] [0, 4, 5, 6]) (
 .seq (
 .reg [
 mv 7 0,
 op 8 (.nck (.t 7)),
 op 9 (.off 9 (.t 8)),
 op 10 (.ld false (some 1) (.t 9)),
 op 11 (.ld true (some 9) (.t 4)),
 op 12 (.ld true (some 9) (.t 5)),
 op 13 (.call f_divide_Modulus_Mul [] [(.t 10), (.t 11), (.t 12)]),
 ⟨none, none, .stl 6 9 (.t 6) (.t 13)⟩] [6]) (
 .ret))
def m_field_Field_Mul : MFn := ⟨c_field_Field_Mul, [.cell 6 (some 9)], 0⟩

/-- (*curvet/field.Field).Add -/
def c_field_Field_Add : Stm :=
 .seq (
 .reg [
 op 4 (.boxv (.t 1)),
 op 5 (.boxv (.t 2)),
 op 6 (.box (.c (.agg [.u 64 0, .u 64 0, .u 64 0, .u 64 0, .u 64 0, .u 64 0, .u 64 0, .u 64 0, .u 64 0])))] [0, 4, 5, 6]) (
 .seq (
 .reg [
 op 12 (.ld true (some 9) (.t 4)),
 op 13 (.ld true (some 9) (.t 5)),
 op 14 (.call f_nat_Add [] [(.t 12), (.t 13)]),
 mv 11 14,
 op 15 (.ext 0 (.t 11)),
 op 16 (.ext 1 (.t 11)),
 op 7 (.box (.c (.agg [.u 64 0, .u 64 0, .u 64 0, .u 64 0, .u 64 0, .u 64 0, .u 64 0, .u 64 0, .u 64 0]))),
 ⟨none, none, .stl 7 9 (.t 7) (.t 15)⟩,
 mv 8 16] [0, 6, 7, 8]) (
 .seq (
 .seq (
 .reg [
 op 18 (.ldl 7 (some 9) (.t 7)),
 mv 19 0,
 op 20 (.nck (.t 19)),
 op 21 (.off 0 (.t 20)),
 op 22 (.ld false (some 9) (.t 21)),
 op 23 (.call f_nat_Sub [] [(.t 18), (.t 22)]),
 mv 17 23,
 op 24 (.ext 0 (.t 17)),
 op 25 (.ext 1 (.t 17)),
 op 9 (.box (.c (.agg [.u 64 0, .u 64 0, .u 64 0, .u 64 0, .u 64 0, .u 64 0, .u 64 0, .u 64 0, .u 64 0]))),
 ⟨none, none, .stl 9 9 (.t 9) (.t 24)⟩,
 mv 10 25] [6, 7, 8, 9, 10]) (
 .seq (
 .reg [
 mv 26 8,
 mv 27 26,
 ⟨some 28, (some (27, false)), .mov (.t 10)⟩,
 ⟨some 29, (some (27, false)), .un .not (.t 28)⟩,
 op 30 (.pick (.t 27) (.c (.b true)) (.t 29))] [6, 7, 9, 30]) (
 .cond (.t 30) (
 .seq (
 .reg [
 op 31 (.ldl 9 (some 9) (.t 9)),
 ⟨none, none, .stl 6 9 (.t 6) (.t 31)⟩] [6]) (
 .ret)) (
 .reg [] [6, 7])))) (
 .seq (
 .reg [
 op 32 (.ldl 7 (some 9) (.t 7)),
 ⟨none, none, .stl 6 9 (.t 6) (.t 32)⟩] [6]) (
 .ret))))
def m_field_Field_Add : MFn := ⟨c_field_Field_Add, [.cell 6 (some 9)], 0⟩

/-- (*curvet/field.Field).Sub -/
def c_field_Field_Sub : Stm :=
 .seq (
 .reg [
 op 4 (.boxv (.t 1)),
 op 5 (.boxv (.t 2)),
 op 6 (.box (.c (.agg [.u 64 0, .u 64 0, .u 64 0, .u 64 0, .u 64 0, .u 64 0, .u 64 0, .u 64 0, .u 64 0])))] [0, 4, 5, 6]) (
 .seq (
 .reg [
 op 10 (.ld true (some 9) (.t 4)),
 op 11 (.ld true (some 9) (.t 5)),
 op 12 (.call f_nat_Sub [] [(.t 10), (.t 11)]),
 mv 9 12,
 op 13 (.ext 0 (.t 9)),
 op 14 (.ext 1 (.t 9)),
 op 7 (.box (.c (.agg [.u 64 0, .u 64 0, .u 64 0, .u 64 0, .u 64 0, .u 64 0, .u 64 0, .u 64 0, .u 64 0]))),
 ⟨none, none, .stl 7 9 (.t 7) (.t 13)⟩,
 mv 8 14] [0, 6, 7, 8]) (
 .seq (
 .seq (
 .reg [
 mv 15 8] [0, 6, 7, 15]) (
 .cond (.t 15) (
 .reg [
 op 17 (.ldl 7 (some 9) (.t 7)),
 mv 18 0,
 op 19 (.nck (.t 18)),
 op 20 (.off 0 (.t 19)),
 op 21 (.ld false (some 9) (.t 20)),
 op 22 (.call f_nat_Add [] [(.t 17), (.t 21)]),
 mv 16 22,
 op 23 (.ext 0 (.t 16)),
 op 24 (.ext 1 (.t 16)),
 ⟨none, none, .stl 7 9 (.t 7) (.t 23)⟩] [6, 7]) (
 .reg [] [6, 7]))) (
 .seq (
 .reg [
 op 25 (.ldl 7 (some 9) (.t 7)),
 ⟨none, none, .stl 6 9 (.t 6) (.t 25)⟩] [6]) (
 .ret))))
def m_field_Field_Sub : MFn := ⟨c_field_Field_Sub, [.cell 6 (some 9)], 0⟩

/-- curvet/divide.zero -/
def c_divide_zero : Stm :=
 .seq (
 .reg [
 op 2 (.mov (.c (.b false)))] [0]) (
 .seq (
 .reg [
 mv 3 0,
 op 4 (.nck (.t 3)),
 op 5 (.ld false (some 9) (.t 4)),
 op 6 (.build [.u 64 0, .u 64 0, .u 64 0, .u 64 0, .u 64 0, .u 64 0, .u 64 0, .u 64 0, .u 64 0] []),
 op 7 (.eqv (.agg [.u 64, .u 64, .u 64, .u 64, .u 64, .u 64, .u 64, .u 64, .u 64]) false (.t 5) (.t 6)),
 mv 2 7] [2]) (
 .ret))
def m_divide_zero : MFn := ⟨c_divide_zero, [.tmp 2], 0⟩

/-- curvet/divide.By -/
def c_divide_By : Stm :=
 .seq (
 .reg [
 op 1 (.boxv (.t 0)),
 op 2 (.box (.c (.agg [.nilp])))] [1, 2]) (
 .seq (
 .reg [
 op 3 (.call f_divide_of [] [(.t 1)]),
 op 4 (.build [.nilp] [(0, 1, (.t 3))]),
 ⟨none, none, .stl 2 1 (.t 2) (.t 4)⟩] [2]) (
 .ret))
def m_divide_By : MFn := ⟨c_divide_By, [.cell 2 (some 1)], 0⟩

/-- (curvet/divide.Modulus).Pow -/
def c_divide_Modulus_Pow : Stm :=
 .seq (
 .reg [
 op 3 (.boxv (.t 0)),
 op 4 (.boxv (.t 1)),
 op 5 (.boxv (.t 2)),
 op 6 (.box (.c (.agg [.u 64 0, .u 64 0, .u 64 0, .u 64 0, .u 64 0, .u 64 0, .u 64 0, .u 64 0, .u 64 0])))] [3, 4, 5, 6]) (
 .seq (
 .reg [
 op 9 (.ld true (some 1) (.t 3)),
 op 10 (.call f_nat_Small [] [(.c (.i 1))]),
 op 11 (.call f_nat_Small [] [(.c (.i 1))]),
 op 12 (.call f_divide_Modulus_Mul [] [(.t 9), (.t 10), (.t 11)]),
 op 7 (.box (.c (.agg [.u 64 0, .u 64 0, .u 64 0, .u 64 0, .u 64 0, .u 64 0, .u 64 0, .u 64 0, .u 64 0]))),
 ⟨none, none, .stl 7 9 (.t 7) (.t 12)⟩] [3, 4, 5, 6, 7]) (
 .seq (
 .seq (
 .reg [
 op 13 (.ld true (some 9) (.t 5)),
 op 14 (.call f_nat_Bits [] [(.t 13)]),
 op 15 (.bin .sub (.t 14) (.c (.i 1))),
 mv 8 15] [3, 4, 5, 6, 7, 8]) (
 .block 0 (
 .loop [3, 4, 5, 6, 7, 8] (
 .seq (
 .seq (
 .reg [
 mv 16 8,
 op 17 (.bin .geq (.t 16) (.c (.i 0)))] [3, 4, 5, 6, 7, 8, 17]) (
 .cond (.t 17) (
 .reg [] [3, 4, 5, 6, 7, 8]) (
 .exit 0 [6, 7]))) (
 .seq (
 .block 1 (
 .seq (
 .reg [
 op 20 (.ld true (some 1) (.t 3)),
 op 21 (.ldl 7 (some 9) (.t 7)),
 op 22 (.ldl 7 (some 9) (.t 7)),
 op 23 (.call f_divide_Modulus_Mul [] [(.t 20), (.t 21), (.t 22)]),
 ⟨none, none, .stl 7 9 (.t 7) (.t 23)⟩] [3, 4, 5, 6, 7, 8]) (
 .seq (
 .reg [
 op 24 (.ld true (some 9) (.t 5)),
 mv 25 8,
 op 26 (.call f_nat_Bit [] [(.t 24), (.t 25)]),
 op 27 (.bin .eql (.t 26) (.c (.i 1)))] [3, 4, 5, 6, 7, 8, 27]) (
 .cond (.t 27) (
 .reg [
 op 28 (.ld true (some 1) (.t 3)),
 op 29 (.ldl 7 (some 9) (.t 7)),
 op 30 (.ld true (some 9) (.t 4)),
 op 31 (.call f_divide_Modulus_Mul [] [(.t 28), (.t 29), (.t 30)]),
 ⟨none, none, .stl 7 9 (.t 7) (.t 31)⟩] [3, 4, 5, 6, 7, 8]) (
 .reg [] [3, 4, 5, 6, 7, 8]))))) (
 .reg [
 mv 18 8,
 op 19 (.bin .sub (.t 18) (.c (.i 1))),
 mv 8 19] [3, 4, 5, 6, 7, 8])))))) (
 .seq (
 .reg [
 op 32 (.ldl 7 (some 9) (.t 7)),
 ⟨none, none, .stl 6 9 (.t 6) (.t 32)⟩] [6]) (
 .ret))))
def m_divide_Modulus_Pow : MFn := ⟨c_divide_Modulus_Pow, [.cell 6 (some 9)], 0⟩

/-- (curvet/divide.Modulus).Rest -/
def c_divide_Modulus_Rest : Stm :=
 .seq (
 .reg [
 op 2 (.boxv (.t 0)),
 op 3 (.boxv (.t 1)),
 op 4 (.box (.c (.agg [.u 64 0, .u 64 0, .u 64 0, .u 64 0, .u 64 0, .u 64 0, .u 64 0, .u 64 0, .u 64 0])))] [2, 3, 4]) (
 .seq (
 .reg [
 op 8 (.off 0 (.t 2)),
 op 9 (.ld true none (.t 8)),
 op 10 (.off 0 (.t 3)),
 op 11 (.sla true 18 1 (.t 10) none none),
 op 12 (.call f_divide_divisor_divide [] [(.t 9), (.t 11)]),
 mv 7 12,
 op 13 (.ext 0 (.t 7)),
 op 14 (.ext 1 (.t 7)),
 op 5 (.box (.c (.agg [.u 64 0, .u 64 0, .u 64 0, .u 64 0, .u 64 0, .u 64 0, .u 64 0, .u 64 0, .u 64 0, .u 64 0, .u 64 0, .u 64 0, .u 64 0, .u 64 0, .u 64 0, .u 64 0, .u 64 0, .u 64 0]))),
 op 6 (.box (.c (.agg [.u 64 0, .u 64 0, .u 64 0, .u 64 0, .u 64 0, .u 64 0, .u 64 0, .u 64 0, .u 64 0]))),
 ⟨none, none, .stl 5 18 (.t 5) (.t 13)⟩,
 ⟨none, none, .stl 6 9 (.t 6) (.t 14)⟩] [4, 6]) (
 .seq (
 .reg [
 op 15 (.ldl 6 (some 9) (.t 6)),
 ⟨none, none, .stl 4 9 (.t 4) (.t 15)⟩] [4]) (
 .ret)))
def m_divide_Modulus_Rest : MFn := ⟨c_divide_Modulus_Rest, [.cell 4 (some 9)], 0⟩

/-- curvet/nat.used -/
def c_nat_used : Stm :=
 .seq (
 .reg [
 op 2 (.mov (.c (.i 0)))] [0]) (
 .seq (
 .reg [
 op 3 (.mov (.c (.i 9)))] [0, 3]) (
 .seq (
 .block 0 (
 .loop [0, 3] (
 .seq (
 .seq (
 .reg [
 mv 4 3,
 op 5 (.bin .gtr (.t 4) (.c (.i 0))),
 mv 6 5,
 ⟨some 7, (some (6, true)), .mov (.t 0)⟩,
 ⟨some 8, (some (6, true)), .mov (.t 3)⟩,
 ⟨some 9, (some (6, true)), .bin .sub (.t 8) (.c (.i 1))⟩,
 ⟨some 10, (some (6, true)), .nck (.t 7)⟩,
 ⟨some 11, (some (6, true)), .off 0 (.t 10)⟩,
 ⟨some 12, (some (6, true)), .idx 9 1 (.t 11) (.t 9)⟩,
 ⟨some 13, (some (6, true)), .ld false none (.t 12)⟩,
 ⟨some 14, (some (6, true)), .bin .eql (.t 13) (.c (.u 64 0))⟩,
 op 15 (.pick (.t 6) (.t 14) (.c (.b false)))] [0, 3, 15]) (
 .cond (.t 15) (
 .reg [] [0, 3]) (
 .exit 0 [3]))) (
 .block 1 (
 .reg [
 mv 16 3,
 op 17 (.bin .sub (.t 16) (.c (.i 1))),
 mv 3 17] [0, 3]))))) (
 .seq (
 .reg [
 mv 18 3,
 mv 2 18] [2]) (
 .ret))))
def m_nat_used : MFn := ⟨c_nat_used, [.tmp 2], 0⟩

/-- math/bits.Mul64 -/
def c_bits_Mul64 : Stm :=
 .seq (
 .reg [
 op 4 (.mov (.c (.u 64 0))),
 op 5 (.mov (.c (.u 64 0)))] [0, 1]) (
 .seq (
 .reg [
 mv 14 0,
 op 15 (.bin .and (.t 14) (.c (.u 64 4294967295))),
 mv 6 15] [0, 1, 6]) (
 .seq (
 .reg [
 mv 16 0,
 op 17 (.bin .shr (.t 16) (.c (.u 64 32))),
 mv 7 17] [0, 1, 6, 7]) (
 .seq (
 .reg [
 mv 18 1,
 op 19 (.bin .and (.t 18) (.c (.u 64 4294967295))),
 mv 8 19] [0, 1, 6, 7, 8]) (
 .seq (
 .reg [
 mv 20 1,
 op 21 (.bin .shr (.t 20) (.c (.u 64 32))),
 mv 9 21] [0, 1, 6, 7, 8, 9]) (
 .seq (
 .reg [
 mv 22 6,
 mv 23 8,
 op 24 (.bin .mul (.t 22) (.t 23)),
 mv 10 24] [0, 1, 6, 7, 8, 9, 10]) (
 .seq (
 .reg [
 mv 25 7,
 mv 26 8,
 op 27 (.bin .mul (.t 25) (.t 26)),
 mv 28 10,
 op 29 (.bin .shr (.t 28) (.c (.u 64 32))),
 op 30 (.bin .add (.t 27) (.t 29)),
 mv 11 30] [0, 1, 6, 7, 9, 11]) (
 .seq (
 .reg [
 mv 31 11,
 op 32 (.bin .and (.t 31) (.c (.u 64 4294967295))),
 mv 12 32] [0, 1, 6, 7, 9, 11, 12]) (
 .seq (
 .reg [
 mv 33 11,
 op 34 (.bin .shr (.t 33) (.c (.u 64 32))),
 mv 13 34] [0, 1, 6, 7, 9, 12, 13]) (
 .seq (
 .reg [
 mv 35 12,
 mv 36 6,
 mv 37 9,
 op 38 (.bin .mul (.t 36) (.t 37)),
 op 39 (.bin .add (.t 35) (.t 38)),
 mv 12 39] [0, 1, 7, 9, 12, 13]) (
 .seq (
 .reg [
 mv 40 7,
 mv 41 9,
 op 42 (.bin .mul (.t 40) (.t 41)),
 mv 43 13,
 op 44 (.bin .add (.t 42) (.t 43)),
 mv 45 12,
 op 46 (.bin .shr (.t 45) (.c (.u 64 32))),
 op 47 (.bin .add (.t 44) (.t 46)),
 mv 4 47] [0, 1, 4]) (
 .seq (
 .reg [
 mv 48 0,
 mv 49 1,
 op 50 (.bin .mul (.t 48) (.t 49)),
 mv 5 50] [4, 5]) (
 .ret))))))))))))
def m_bits_Mul64 : MFn := ⟨c_bits_Mul64, [.tmp 4, .tmp 5], 0⟩

/-- curvet/curvetref1.Mul -/
def c_curvetref1_Mul : Stm :=
 .seq (
 .reg [
 op 4 (.mov (.c (.vs 0 [])))] [0, 1]) (
 .seq (
 .reg [
 mv 10 0,
 op 11 (.len (.t 10)),
 mv 12 1,
 op 13 (.len (.t 12)),
 op 14 (.bin .add (.t 11) (.t 13)),
 op 15 (.mks 1 4 [.u 32 0] (.t 14) (.t 14)),
 mv 5 15] [0, 1, 5]) (
 .seq (
 .seq (
 .reg [
 op 6 (.mov (.c (.i 0)))] [0, 1, 5, 6]) (
 .block 0 (
 .loop [0, 1, 5, 6] (
 .seq (
 .seq (
 .reg [
 mv 16 6,
 mv 17 0,
 op 18 (.len (.t 17)),
 op 19 (.bin .lss (.t 16) (.t 18))] [0, 1, 5, 6, 19]) (
 .cond (.t 19) (
 .reg [] [0, 1, 5, 6]) (
 .exit 0 [5]))) (
 .seq (
 .block 1 (
 .seq (
 .reg [
 op 7 (.mov (.c (.u 64 0)))] [0, 1, 5, 6, 7]) (
 .seq (
 .seq (
 .reg [
 op 8 (.mov (.c (.i 0)))] [0, 1, 5, 6, 7, 8]) (
 .block 2 (
 .loop [0, 1, 5, 6, 7, 8] (
 .seq (
 .seq (
 .reg [
 mv 22 8,
 mv 23 1,
 op 24 (.len (.t 23)),
 op 25 (.bin .lss (.t 22) (.t 24))] [0, 1, 5, 6, 7, 8, 25]) (
 .cond (.t 25) (
 .reg [] [0, 1, 5, 6, 7, 8]) (
 .exit 2 [0, 1, 5, 6, 7]))) (
 .seq (
 .block 3 (
 .seq (
 .reg [
 mv 28 0,
 mv 29 6,
 op 30 (.idxs 1 (.t 28) (.t 29)),
 op 31 (.ld false none (.t 30)),
 op 32 (.cvu 64 (.t 31)),
 mv 33 1,
 mv 34 8,
 op 35 (.idxs 1 (.t 33) (.t 34)),
 op 36 (.ld false none (.t 35)),
 op 37 (.cvu 64 (.t 36)),
 op 38 (.bin .mul (.t 32) (.t 37)),
 mv 39 5,
 mv 40 6,
 mv 41 8,
 op 42 (.bin .add (.t 40) (.t 41)),
 op 43 (.idxs 1 (.t 39) (.t 42)),
 op 44 (.ld false none (.t 43)),
 op 45 (.cvu 64 (.t 44)),
 op 46 (.bin .add (.t 38) (.t 45)),
 mv 47 7,
 op 48 (.bin .add (.t 46) (.t 47)),
 mv 9 48] [0, 1, 5, 6, 8, 9]) (
 .seq (
 .reg [
 mv 49 5,
 mv 50 6,
 mv 51 8,
 op 52 (.bin .add (.t 50) (.t 51)),
 mv 53 9,
 op 54 (.bin .and (.t 53) (.c (.u 64 4294967295))),
 op 55 (.cvu 32 (.t 54)),
 op 56 (.idxs 1 (.t 49) (.t 52)),
 ⟨none, none, .st 1 (.t 56) (.t 55)⟩] [0, 1, 5, 6, 8, 9]) (
 .reg [
 mv 57 9,
 op 58 (.bin .shr (.t 57) (.c (.u 64 32))),
 mv 7 58] [0, 1, 5, 6, 7, 8])))) (
 .reg [
 mv 26 8,
 op 27 (.bin .add (.t 26) (.c (.i 1))),
 mv 8 27] [0, 1, 5, 6, 7, 8])))))) (
 .reg [
 mv 59 5,
 mv 60 6,
 mv 61 1,
 op 62 (.len (.t 61)),
 op 63 (.bin .add (.t 60) (.t 62)),
 mv 64 7,
 op 65 (.cvu 32 (.t 64)),
 op 66 (.idxs 1 (.t 59) (.t 63)),
 ⟨none, none, .st 1 (.t 66) (.t 65)⟩] [0, 1, 5, 6])))) (
 .reg [
 mv 20 6,
 op 21 (.bin .add (.t 20) (.c (.i 1))),
 mv 6 21] [0, 1, 5, 6])))))) (
 .seq (
 .reg [
 mv 67 5,
 op 68 (.call f_curvetref1_trim [] [(.t 67)]),
 mv 4 68] [4]) (
 .ret))))
def m_curvetref1_Mul : MFn := ⟨c_curvetref1_Mul, [.tmp 4], 0⟩

/-- curvet/curvetref13.digit -/
def c_curvetref13_digit : Stm :=
 .seq (
 .reg [
 op 2 (.mov (.c (.u 32 0)))] [0]) (
 .seq (
 .seq (
 .reg [
 mv 3 0,
 op 4 (.bin .geq (.t 3) (.c (.u 8 97)))] [0, 4]) (
 .cond (.t 4) (
 .seq (
 .reg [
 mv 5 0,
 op 6 (.bin .sub (.t 5) (.c (.u 8 97))),
 op 7 (.cvu 32 (.t 6)),
 op 8 (.bin .add (.t 7) (.c (.u 32 10))),
 mv 2 8] [2]) (
 .ret)) (
 .reg [] [0]))) (
 .seq (
 .reg [
 mv 9 0,
 op 10 (.bin .sub (.t 9) (.c (.u 8 48))),
 op 11 (.cvu 32 (.t 10)),
 mv 2 11] [2]) (
 .ret)))
def m_curvetref13_digit : MFn := ⟨c_curvetref13_digit, [.tmp 2], 0⟩

/-- curvet/field.prime -/
def c_field_prime : Stm :=
 .seq (
 .reg [
 op 2 (.mov (.c (.s [])))] [0]) (
 .seq (
 .seq (
 .reg [
 mv 3 0] [3]) (
 .block 0 (
 .seq (
 .reg [
 op 5 (.bin .eql (.t 3) (.c (.i 1))),
 mv 4 5] [3, 4]) (
 .cond (.t 4) (
 .seq (
 .reg [
 op 2 (.mov (.c (.s [102, 102, 102, 102, 102, 102, 102, 102, 102, 102, 102, 102, 102, 102, 102, 102, 102, 102, 102, 102, 102, 102, 102, 102, 102, 102, 102, 102, 102, 102, 102, 101, 102, 102, 102, 102, 102, 102, 102, 102, 102, 102, 102, 102, 102, 102, 102, 102])))] [2]) (
 .ret)) (
 .seq (
 .reg [
 op 7 (.bin .eql (.t 3) (.c (.i 2))),
 mv 6 7] [3, 6]) (
 .cond (.t 6) (
 .seq (
 .reg [
 op 2 (.mov (.c (.s [102, 102, 102, 102, 102, 102, 102, 102, 102, 102, 102, 102, 102, 102, 102, 102, 102, 102, 102, 102, 102, 102, 102, 102, 102, 102, 102, 102, 102, 102, 102, 102, 48, 48, 48, 48, 48, 48, 48, 48, 48, 48, 48, 48, 48, 48, 48, 48, 48, 48, 48, 48, 48, 48, 48, 49])))] [2]) (
 .ret)) (
 .seq (
 .reg [
 op 9 (.bin .eql (.t 3) (.c (.i 3))),
 mv 8 9] [3, 8]) (
 .cond (.t 8) (
 .seq (
 .reg [
 op 2 (.mov (.c (.s [102, 102, 102, 102, 102, 102, 102, 102, 48, 48, 48, 48, 48, 48, 48, 49, 48, 48, 48, 48, 48, 48, 48, 48, 48, 48, 48, 48, 48, 48, 48, 48, 48, 48, 48, 48, 48, 48, 48, 48, 102, 102, 102, 102, 102, 102, 102, 102, 102, 102, 102, 102, 102, 102, 102, 102, 102, 102, 102, 102, 102, 102, 102, 102])))] [2]) (
 .ret)) (
 .seq (
 .reg [
 op 11 (.bin .eql (.t 3) (.c (.i 4))),
 mv 10 11] [3, 10]) (
 .cond (.t 10) (
 .seq (
 .reg [
 op 2 (.mov (.c (.s [102, 102, 102, 102, 102, 102, 102, 102, 102, 102, 102, 102, 102, 102, 102, 102, 102, 102, 102, 102, 102, 102, 102, 102, 102, 102, 102, 102, 102, 102, 102, 102, 102, 102, 102, 102, 102, 102, 102, 102, 102, 102, 102, 102, 102, 102, 102, 102, 102, 102, 102, 102, 102, 102, 102, 102, 102, 102, 102, 102, 102, 102, 102, 101, 102, 102, 102, 102, 102, 102, 102, 102, 48, 48, 48, 48, 48, 48, 48, 48, 48, 48, 48, 48, 48, 48, 48, 48, 102, 102, 102, 102, 102, 102, 102, 102])))] [2]) (
 .ret)) (
 .seq (
 .reg [
 op 13 (.bin .eql (.t 3) (.c (.i 5))),
 mv 12 13] [3, 12]) (
 .cond (.t 12) (
 .seq (
 .reg [
 op 2 (.mov (.c (.s [48, 49, 102, 102, 102, 102, 102, 102, 102, 102, 102, 102, 102, 102, 102, 102, 102, 102, 102, 102, 102, 102, 102, 102, 102, 102, 102, 102, 102, 102, 102, 102, 102, 102, 102, 102, 102, 102, 102, 102, 102, 102, 102, 102, 102, 102, 102, 102, 102, 102, 102, 102, 102, 102, 102, 102, 102, 102, 102, 102, 102, 102, 102, 102, 102, 102, 102, 102, 102, 102, 102, 102, 102, 102, 102, 102, 102, 102, 102, 102, 102, 102, 102, 102, 102, 102, 102, 102, 102, 102, 102, 102, 102, 102, 102, 102, 102, 102, 102, 102, 102, 102, 102, 102, 102, 102, 102, 102, 102, 102, 102, 102, 102, 102, 102, 102, 102, 102, 102, 102, 102, 102, 102, 102, 102, 102, 102, 102, 102, 102, 102, 102])))] [2]) (
 .ret)) (
 .seq (
 .reg [
 op 15 (.bin .eql (.t 3) (.c (.i 6))),
 mv 14 15] [3, 14]) (
 .cond (.t 14) (
 .seq (
 .reg [
 op 2 (.mov (.c (.s [102, 102, 102, 102, 102, 102, 102, 102, 102, 102, 102, 102, 102, 102, 102, 102, 102, 102, 102, 102, 102, 102, 102, 102, 102, 102, 102, 102, 102, 102, 102, 102, 102, 102, 102, 102, 102, 102, 102, 102, 102, 102, 102, 102, 102, 102, 102, 102, 102, 102, 102, 102, 102, 102, 102, 101, 102, 102, 102, 102, 102, 99, 50, 102])))] [2]) (
 .ret)) (
 .seq (
 .reg [
 op 17 (.bin .eql (.t 3) (.c (.i 7))),
 mv 16 17] [3, 16]) (
 .cond (.t 16) (
 .seq (
 .reg [
 op 2 (.mov (.c (.s [101, 57, 53, 101, 52, 97, 53, 102, 55, 51, 55, 48, 53, 57, 100, 99, 54, 48, 100, 102, 99, 55, 97, 100, 57, 53, 98, 51, 100, 56, 49, 51, 57, 53, 49, 53, 54, 50, 48, 102])))] [2]) (
 .ret)) (
 .seq (
 .reg [
 op 19 (.bin .eql (.t 3) (.c (.i 8))),
 mv 18 19] [3, 18]) (
 .cond (.t 18) (
 .seq (
 .reg [
 op 2 (.mov (.c (.s [100, 55, 99, 49, 51, 52, 97, 97, 50, 54, 52, 51, 54, 54, 56, 54, 50, 97, 49, 56, 51, 48, 50, 53, 55, 53, 100, 49, 100, 55, 56, 55, 98, 48, 57, 102, 48, 55, 53, 55, 57, 55, 100, 97, 56, 57, 102, 53, 55, 101, 99, 56, 99, 48, 102, 102])))] [2]) (
 .ret)) (
 .seq (
 .reg [
 op 21 (.bin .eql (.t 3) (.c (.i 9))),
 mv 20 21] [3, 20]) (
 .cond (.t 20) (
 .seq (
 .reg [
 op 2 (.mov (.c (.s [97, 57, 102, 98, 53, 55, 100, 98, 97, 49, 101, 101, 97, 57, 98, 99, 51, 101, 54, 54, 48, 97, 57, 48, 57, 100, 56, 51, 56, 100, 55, 50, 54, 101, 51, 98, 102, 54, 50, 51, 100, 53, 50, 54, 50, 48, 50, 56, 50, 48, 49, 51, 52, 56, 49, 100, 49, 102, 54, 101, 53, 51, 55, 55])))] [2]) (
 .ret)) (
 .seq (
 .reg [
 op 23 (.bin .eql (.t 3) (.c (.i 10))),
 mv 22 23] [3, 22]) (
 .cond (.t 22) (
 .seq (
 .reg [
 op 2 (.mov (.c (.s [100, 51, 53, 101, 52, 55, 50, 48, 51, 54, 98, 99, 52, 102, 98, 55, 101, 49, 51, 99, 55, 56, 53, 101, 100, 50, 48, 49, 101, 48, 54, 53, 102, 57, 56, 102, 99, 102, 97, 54, 102, 54, 102, 52, 48, 100, 101, 102, 52, 102, 57, 50, 98, 57, 101, 99, 55, 56, 57, 51, 101, 99, 50, 56, 102, 99, 100, 52, 49, 50, 98, 49, 102, 49, 98, 51, 50, 101, 50, 55])))] [2]) (
 .ret)) (
 .seq (
 .reg [
 op 25 (.bin .eql (.t 3) (.c (.i 11))),
 mv 24 25] [3, 24]) (
 .cond (.t 24) (
 .seq (
 .reg [
 op 2 (.mov (.c (.s [56, 99, 98, 57, 49, 101, 56, 50, 97, 51, 51, 56, 54, 100, 50, 56, 48, 102, 53, 100, 54, 102, 55, 101, 53, 48, 101, 54, 52, 49, 100, 102, 49, 53, 50, 102, 55, 49, 48, 57, 101, 100, 53, 52, 53, 54, 98, 52, 49, 50, 98, 49, 100, 97, 49, 57, 55, 102, 98, 55, 49, 49, 50, 51, 97, 99, 100, 51, 97, 55, 50, 57, 57, 48, 49, 100, 49, 97, 55, 49, 56, 55, 52, 55, 48, 48, 49, 51, 51, 49, 48, 55, 101, 99, 53, 51])))] [2]) (
 .ret)) (
 .seq (
 .reg [
 op 27 (.bin .eql (.t 3) (.c (.i 12))),
 mv 26 27] [3, 26]) (
 .cond (.t 26) (
 .seq (
 .reg [
 op 2 (.mov (.c (.s [97, 97, 100, 100, 57, 100, 98, 56, 100, 98, 101, 57, 99, 52, 56, 98, 51, 102, 100, 52, 101, 54, 97, 101, 51, 51, 99, 57, 102, 99, 48, 55, 99, 98, 51, 48, 56, 100, 98, 51, 98, 51, 99, 57, 100, 50, 48, 101, 100, 54, 54, 51, 57, 99, 99, 97, 55, 48, 51, 51, 48, 56, 55, 49, 55, 100, 52, 100, 57, 98, 48, 48, 57, 98, 99, 54, 54, 56, 52, 50, 97, 101, 99, 100, 97, 49, 50, 97, 101, 54, 97, 51, 56, 48, 101, 54, 50, 56, 56, 49, 102, 102, 50, 102, 50, 100, 56, 50, 99, 54, 56, 53, 50, 56, 97, 97, 54, 48, 53, 54, 53, 56, 51, 97, 52, 56, 102, 51])))] [2]) (
 .ret)) (
 .seq (
 .reg [
 op 29 (.bin .eql (.t 3) (.c (.i 13))),
 mv 28 29] [3, 28]) (
 .cond (.t 28) (
 .seq (
 .reg [
 op 2 (.mov (.c (.s [102, 98])))] [2]) (
 .ret)) (
 .seq (
 .reg [
 op 31 (.bin .eql (.t 3) (.c (.i 14))),
 mv 30 31] [3, 30]) (
 .cond (.t 30) (
 .seq (
 .reg [
 op 2 (.mov (.c (.s [102, 49])))] [2]) (
 .ret)) (
 .seq (
 .reg [
 op 33 (.bin .eql (.t 3) (.c (.i 15))),
 mv 32 33] [32]) (
 .cond (.t 32) (
 .seq (
 .reg [
 op 2 (.mov (.c (.s [101, 102])))] [2]) (
 .ret)) (
 .reg [] []))))))))))))))))))))))))))))))))) (
 .seq (
 .reg [
 op 2 (.mov (.c (.s [])))] [2]) (
 .ret)))
def m_field_prime : MFn := ⟨c_field_prime, [.tmp 2], 0⟩

/-- curvet/field.Hex -/
def c_field_Hex : Stm :=
 .seq (
 .reg [
 op 2 (.box (.c (.agg [.u 64 0, .u 64 0, .u 64 0, .u 64 0, .u 64 0, .u 64 0, .u 64 0, .u 64 0, .u 64 0])))] [0, 2]) (
 .seq (
 .reg [
 op 3 (.box (.c (.agg [.u 64 0, .u 64 0, .u 64 0, .u 64 0, .u 64 0, .u 64 0, .u 64 0, .u 64 0, .u 64 0])))] [0, 2, 3]) (
 .seq (
 .seq (
 .reg [
 mv 7 0,
 op 8 (.lens (.t 7)),
 op 9 (.mov (.c (.i 0)))] [0, 2, 3, 8, 9]) (
 .block 0 (
 .loop [0, 2, 3, 8, 9] (
 .seq (
 .reg [
 op 10 (.bin .lss (.t 9) (.t 8))] [0, 2, 3, 8, 9, 10]) (
 .seq (
 .cond (.t 10) (
 .reg [] [0, 2, 3, 8, 9]) (
 .exit 0 [2, 3])) (
 .seq (
 .block 1 (
 .seq (
 .reg [
 mv 11 9,
 mv 4 11] [0, 2, 3, 4, 8, 9]) (
 .seq (
 .reg [
 mv 12 0,
 op 13 (.lens (.t 12)),
 op 14 (.bin .sub (.t 13) (.c (.i 1))),
 mv 15 4,
 op 16 (.bin .sub (.t 14) (.t 15)),
 mv 5 16] [0, 2, 3, 4, 5, 8, 9]) (
 .seq (
 .reg [
 mv 17 0,
 mv 18 5,
 op 19 (.idxb (.t 17) (.t 18)),
 op 20 (.bin .sub (.t 19) (.c (.u 8 48))),
 op 21 (.cvu 64 (.t 20)),
 mv 6 21] [0, 2, 3, 4, 5, 6, 8, 9]) (
 .seq (
 .seq (
 .reg [
 mv 22 0,
 mv 23 5,
 op 24 (.idxb (.t 22) (.t 23)),
 op 25 (.bin .geq (.t 24) (.c (.u 8 97)))] [0, 2, 3, 4, 5, 6, 8, 9, 25]) (
 .cond (.t 25) (
 .reg [
 mv 26 0,
 mv 27 5,
 op 28 (.idxb (.t 26) (.t 27)),
 op 29 (.bin .sub (.t 28) (.c (.u 8 97))),
 op 30 (.cvu 64 (.t 29)),
 op 31 (.bin .add (.t 30) (.c (.u 64 10))),
 mv 6 31] [0, 2, 3, 4, 6, 8, 9]) (
 .reg [] [0, 2, 3, 4, 6, 8, 9]))) (
 .reg [
 mv 32 4,
 op 33 (.bin .quo (.t 32) (.c (.i 16))),
 op 34 (.off 0 (.t 3)),
 op 35 (.idx 9 1 (.t 34) (.t 33)),
 op 36 (.ldl 3 none (.t 35)),
 mv 37 6,
 mv 38 4,
 op 39 (.bin .rem (.t 38) (.c (.i 16))),
 op 40 (.bin .mul (.c (.i 4)) (.t 39)),
 op 41 (.bin .shl (.t 37) (.t 40)),
 op 42 (.bin .or (.t 36) (.t 41)),
 op 43 (.off 0 (.t 3)),
 op 44 (.idx 9 1 (.t 43) (.t 33)),
 ⟨none, none, .stl 3 1 (.t 44) (.t 42)⟩] [0, 2, 3, 8, 9])))))) (
 .reg [
 op 45 (.bin .add (.t 9) (.c (.i 1))),
 mv 9 45] [0, 2, 3, 8, 9]))))))) (
 .seq (
 .reg [
 op 46 (.ldl 3 (some 9) (.t 3)),
 ⟨none, none, .stl 2 9 (.t 2) (.t 46)⟩] [2]) (
 .ret))))
def m_field_Hex : MFn := ⟨c_field_Hex, [.cell 2 (some 9)], 0⟩

/-- curvet/nat.Cmp -/
def c_nat_Cmp : Stm :=
 .seq (
 .reg [
 op 2 (.boxv (.t 0)),
 op 3 (.boxv (.t 1)),
 op 4 (.mov (.c (.i 0)))] [2, 3]) (
 .seq (
 .seq (
 .reg [
 op 5 (.mov (.c (.i 8)))] [2, 3, 5]) (
 .block 0 (
 .loop [2, 3, 5] (
 .seq (
 .seq (
 .reg [
 mv 6 5,
 op 7 (.bin .geq (.t 6) (.c (.i 0)))] [2, 3, 5, 7]) (
 .cond (.t 7) (
 .reg [] [2, 3, 5]) (
 .exit 0 []))) (
 .seq (
 .block 1 (
 .block 2 (
 .seq (
 .reg [
 mv 11 5,
 op 12 (.off 0 (.t 2)),
 op 13 (.idx 9 1 (.t 12) (.t 11)),
 op 14 (.ld true none (.t 13)),
 mv 15 5,
 op 16 (.off 0 (.t 3)),
 op 17 (.idx 9 1 (.t 16) (.t 15)),
 op 18 (.ld true none (.t 17)),
 op 19 (.bin .lss (.t 14) (.t 18)),
 mv 10 19] [2, 3, 5, 10]) (
 .cond (.t 10) (
 .seq (
 .reg [
 op 4 (.mov (.c (.i (-1))))] [4]) (
 .ret)) (
 .seq (
 .reg [
 mv 21 5,
 op 22 (.off 0 (.t 2)),
 op 23 (.idx 9 1 (.t 22) (.t 21)),
 op 24 (.ld true none (.t 23)),
 mv 25 5,
 op 26 (.off 0 (.t 3)),
 op 27 (.idx 9 1 (.t 26) (.t 25)),
 op 28 (.ld true none (.t 27)),
 op 29 (.bin .gtr (.t 24) (.t 28)),
 mv 20 29] [2, 3, 5, 20]) (
 .cond (.t 20) (
 .seq (
 .reg [
 op 4 (.mov (.c (.i 1)))] [4]) (
 .ret)) (
 .reg [] [2, 3, 5]))))))) (
 .reg [
 mv 8 5,
 op 9 (.bin .sub (.t 8) (.c (.i 1))),
 mv 5 9] [2, 3, 5])))))) (
 .seq (
 .reg [
 op 4 (.mov (.c (.i 0)))] [4]) (
 .ret)))
def m_nat_Cmp : MFn := ⟨c_nat_Cmp, [.tmp 4], 0⟩

/-- curvet/divide.Inverse -/
def c_divide_Inverse : Stm :=
 .seq (
 .reg [
 op 2 (.boxv (.t 0)),
 op 3 (.boxv (.t 1)),
 op 4 (.box (.c (.agg [.u 64 0, .u 64 0, .u 64 0, .u 64 0, .u 64 0, .u 64 0, .u 64 0, .u 64 0, .u 64 0]))),
 op 5 (.mov (.c (.i 0)))] [2, 3, 4]) (
 .seq (
 .seq (
 .reg [
 op 20 (.call f_divide_zero [] [(.t 3)])] [2, 3, 4, 20]) (
 .cond (.t 20) (
 .seq (
 .reg [
 op 21 (.build [.u 64 0, .u 64 0, .u 64 0, .u 64 0, .u 64 0, .u 64 0, .u 64 0, .u 64 0, .u 64 0] []),
 ⟨none, none, .stl 4 9 (.t 4) (.t 21)⟩,
 op 5 (.mov (.c (.i 400)))] [4, 5]) (
 .ret)) (
 .reg [] [2, 3, 4]))) (
 .seq (
 .reg [
 op 23 (.ld true (some 9) (.t 2)),
 op 24 (.ld true (some 9) (.t 3)),
 op 25 (.call f_divide_Div [] [(.t 23), (.t 24)]),
 mv 22 25,
 op 26 (.ext 0 (.t 22)),
 op 27 (.ext 1 (.t 22)),
 op 28 (.ext 2 (.t 22)),
 op 6 (.box (.c (.agg [.u 64 0, .u 64 0, .u 64 0, .u 64 0, .u 64 0, .u 64 0, .u 64 0, .u 64 0, .u 64 0]))),
 op 7 (.box (.c (.agg [.u 64 0, .u 64 0, .u 64 0, .u 64 0, .u 64 0, .u 64 0, .u 64 0, .u 64 0, .u 64 0]))),
 ⟨none, none, .stl 6 9 (.t 6) (.t 26)⟩,
 ⟨none, none, .stl 7 9 (.t 7) (.t 27)⟩,
 mv 8 28] [3, 4, 7]) (
 .seq (
 .reg [
 op 29 (.ld true (some 9) (.t 3)),
 op 30 (.ldl 7 (some 9) (.t 7)),
 op 9 (.box (.c (.agg [.u 64 0, .u 64 0, .u 64 0, .u 64 0, .u 64 0, .u 64 0, .u 64 0, .u 64 0, .u 64 0]))),
 op 10 (.box (.c (.agg [.u 64 0, .u 64 0, .u 64 0, .u 64 0, .u 64 0, .u 64 0, .u 64 0, .u 64 0, .u 64 0]))),
 ⟨none, none, .stl 9 9 (.t 9) (.t 29)⟩,
 ⟨none, none, .stl 10 9 (.t 10) (.t 30)⟩] [3, 4, 9, 10]) (
 .seq (
 .reg [
 op 31 (.build [.u 64 0, .u 64 0, .u 64 0, .u 64 0, .u 64 0, .u 64 0, .u 64 0, .u 64 0, .u 64 0] []),
 op 32 (.call f_nat_Small [] [(.c (.i 1))]),
 op 11 (.box (.c (.agg [.u 64 0, .u 64 0, .u 64 0, .u 64 0, .u 64 0, .u 64 0, .u 64 0, .u 64 0, .u 64 0]))),
 op 12 (.box (.c (.agg [.u 64 0, .u 64 0, .u 64 0, .u 64 0, .u 64 0, .u 64 0, .u 64 0, .u 64 0, .u 64 0]))),
 ⟨none, none, .stl 11 9 (.t 11) (.t 31)⟩,
 ⟨none, none, .stl 12 9 (.t 12) (.t 32)⟩] [3, 4, 9, 10, 11, 12]) (
 .seq (
 .reg [
 op 33 (.ld true (some 9) (.t 3)),
 op 34 (.call f_divide_By [] [(.t 33)]),
 op 13 (.box (.c (.agg [.nilp]))),
 ⟨none, none, .stl 13 1 (.t 13) (.t 34)⟩] [3, 4, 9, 10, 11, 12, 13]) (
 .seq (
 .block 0 (
 .loop [3, 4, 9, 10, 11, 12, 13] (
 .seq (
 .seq (
 .reg [
 op 35 (.call f_divide_zero [10] [(.t 10)]),
 op 36 (.un .not (.t 35))] [3, 4, 9, 10, 11, 12, 13, 36]) (
 .cond (.t 36) (
 .reg [] [3, 4, 9, 10, 11, 12, 13]) (
 .exit 0 [3, 4, 9, 11]))) (
 .block 1 (
 .seq (
 .reg [
 op 38 (.ldl 9 (some 9) (.t 9)),
 op 39 (.ldl 10 (some 9) (.t 10)),
 op 40 (.call f_divide_Div [] [(.t 38), (.t 39)]),
 mv 37 40,
 op 41 (.ext 0 (.t 37)),
 op 42 (.ext 1 (.t 37)),
 op 43 (.ext 2 (.t 37)),
 op 14 (.box (.c (.agg [.u 64 0, .u 64 0, .u 64 0, .u 64 0, .u 64 0, .u 64 0, .u 64 0, .u 64 0, .u 64 0]))),
 op 15 (.box (.c (.agg [.u 64 0, .u 64 0, .u 64 0, .u 64 0, .u 64 0, .u 64 0, .u 64 0, .u 64 0, .u 64 0]))),
 ⟨none, none, .stl 14 9 (.t 14) (.t 41)⟩,
 ⟨none, none, .stl 15 9 (.t 15) (.t 42)⟩,
 mv 16 43] [3, 4, 9, 10, 11, 12, 13, 14, 15]) (
 .seq (
 .reg [
 op 44 (.ldl 10 (some 9) (.t 10)),
 op 45 (.ldl 15 (some 9) (.t 15)),
 ⟨none, none, .stl 9 9 (.t 9) (.t 44)⟩,
 ⟨none, none, .stl 10 9 (.t 10) (.t 45)⟩] [3, 4, 9, 10, 11, 12, 13, 14]) (
 .seq (
 .reg [
 op 46 (.ldl 13 (some 1) (.t 13)),
 op 47 (.ldl 14 (some 9) (.t 14)),
 op 48 (.ldl 12 (some 9) (.t 12)),
 op 49 (.call f_divide_Modulus_Mul [] [(.t 46), (.t 47), (.t 48)]),
 op 17 (.box (.c (.agg [.u 64 0, .u 64 0, .u 64 0, .u 64 0, .u 64 0, .u 64 0, .u 64 0, .u 64 0, .u 64 0]))),
 ⟨none, none, .stl 17 9 (.t 17) (.t 49)⟩] [3, 4, 9, 10, 11, 12, 13, 17]) (
 .seq (
 .reg [
 op 51 (.ldl 11 (some 9) (.t 11)),
 op 52 (.ldl 17 (some 9) (.t 17)),
 op 53 (.call f_nat_Sub [] [(.t 51), (.t 52)]),
 mv 50 53,
 op 54 (.ext 0 (.t 50)),
 op 55 (.ext 1 (.t 50)),
 op 18 (.box (.c (.agg [.u 64 0, .u 64 0, .u 64 0, .u 64 0, .u 64 0, .u 64 0, .u 64 0, .u 64 0, .u 64 0]))),
 ⟨none, none, .stl 18 9 (.t 18) (.t 54)⟩,
 mv 19 55] [3, 4, 9, 10, 11, 12, 13, 18, 19]) (
 .seq (
 .seq (
 .reg [
 mv 56 19] [3, 4, 9, 10, 11, 12, 13, 18, 56]) (
 .cond (.t 56) (
 .reg [
 op 58 (.ldl 18 (some 9) (.t 18)),
 op 59 (.ld true (some 9) (.t 3)),
 op 60 (.call f_nat_Add [] [(.t 58), (.t 59)]),
 mv 57 60,
 op 61 (.ext 0 (.t 57)),
 op 62 (.ext 1 (.t 57)),
 ⟨none, none, .stl 18 9 (.t 18) (.t 61)⟩] [3, 4, 9, 10, 11, 12, 13, 18]) (
 .reg [] [3, 4, 9, 10, 11, 12, 13, 18]))) (
 .reg [
 op 63 (.ldl 12 (some 9) (.t 12)),
 op 64 (.ldl 18 (some 9) (.t 18)),
 ⟨none, none, .stl 11 9 (.t 11) (.t 63)⟩,
 ⟨none, none, .stl 12 9 (.t 12) (.t 64)⟩] [3, 4, 9, 10, 11, 12, 13])))))))))) (
 .seq (
 .seq (
 .reg [
 op 65 (.ldl 9 (some 9) (.t 9)),
 op 66 (.call f_nat_Small [] [(.c (.i 1))]),
 op 67 (.eqv (.agg [.u 64, .u 64, .u 64, .u 64, .u 64, .u 64, .u 64, .u 64, .u 64]) true (.t 65) (.t 66)),
 mv 68 67,
 ⟨some 69, (some (68, false)), .ld true (some 9) (.t 3)⟩,
 ⟨some 70, (some (68, false)), .call f_nat_Small [] [(.c (.i 1))]⟩,
 ⟨some 71, (some (68, false)), .eqv (.agg [.u 64, .u 64, .u 64, .u 64, .u 64, .u 64, .u 64, .u 64, .u 64]) false (.t 69) (.t 70)⟩,
 op 72 (.pick (.t 68) (.c (.b true)) (.t 71))] [4, 11, 72]) (
 .cond (.t 72) (
 .seq (
 .reg [
 op 73 (.build [.u 64 0, .u 64 0, .u 64 0, .u 64 0, .u 64 0, .u 64 0, .u 64 0, .u 64 0, .u 64 0] []),
 ⟨none, none, .stl 4 9 (.t 4) (.t 73)⟩,
 op 5 (.mov (.c (.i 401)))] [4, 5]) (
 .ret)) (
 .reg [] [4, 11]))) (
 .seq (
 .reg [
 op 74 (.ldl 11 (some 9) (.t 11)),
 ⟨none, none, .stl 4 9 (.t 4) (.t 74)⟩,
 op 5 (.mov (.c (.i 0)))] [4, 5]) (
 .ret)))))))))
def m_divide_Inverse : MFn := ⟨c_divide_Inverse, [.cell 4 (some 9), .tmp 5], 0⟩

/-- curvet/field.one -/
def c_field_one : Stm :=
 .seq (
 .reg [
 op 0 (.box (.c (.agg [.u 64 0, .u 64 0, .u 64 0, .u 64 0, .u 64 0, .u 64 0, .u 64 0, .u 64 0, .u 64 0])))] [0]) (
 .seq (
 .reg [
 op 1 (.call f_nat_Small [] [(.c (.i 1))]),
 ⟨none, none, .stl 0 9 (.t 0) (.t 1)⟩] [0]) (
 .ret))
def m_field_one : MFn := ⟨c_field_one, [.cell 0 (some 9)], 0⟩

/-- curvet/field.half -/
def c_field_half : Stm :=
 .seq (
 .reg [
 op 1 (.boxv (.t 0)),
 op 2 (.box (.c (.agg [.u 64 0, .u 64 0, .u 64 0, .u 64 0, .u 64 0, .u 64 0, .u 64 0, .u 64 0, .u 64 0])))] [1, 2]) (
 .seq (
 .reg [
 op 6 (.ld true (some 9) (.t 1)),
 op 7 (.call f_nat_Shr [] [(.t 6), (.c (.i 1))]),
 mv 5 7,
 op 8 (.ext 0 (.t 5)),
 op 9 (.ext 1 (.t 5)),
 op 3 (.box (.c (.agg [.u 64 0, .u 64 0, .u 64 0, .u 64 0, .u 64 0, .u 64 0, .u 64 0, .u 64 0, .u 64 0]))),
 ⟨none, none, .stl 3 9 (.t 3) (.t 8)⟩,
 mv 4 9] [2, 3]) (
 .seq (
 .reg [
 op 10 (.ldl 3 (some 9) (.t 3)),
 ⟨none, none, .stl 2 9 (.t 2) (.t 10)⟩] [2]) (
 .ret)))
def m_field_half : MFn := ⟨c_field_half, [.cell 2 (some 9)], 0⟩

/-- (*curvet/field.Field).root -/
def c_field_Field_root : Stm :=
 .seq (
 .reg [
 op 3 (.boxv (.t 1)),
 op 4 (.box (.c (.agg [.u 64 0, .u 64 0, .u 64 0, .u 64 0, .u 64 0, .u 64 0, .u 64 0, .u 64 0, .u 64 0])))] [0, 3, 4]) (
 .seq (
 .reg [
 mv 19 0,
 op 20 (.nck (.t 19)),
 op 21 (.off 0 (.t 20)),
 op 22 (.ld true (some 9) (.t 21)),
 op 23 (.call f_field_one [] []),
 op 24 (.call f_nat_Sub [] [(.t 22), (.t 23)]),
 mv 18 24,
 op 25 (.ext 0 (.t 18)),
 op 26 (.ext 1 (.t 18)),
 op 5 (.box (.c (.agg [.u 64 0, .u 64 0, .u 64 0, .u 64 0, .u 64 0, .u 64 0, .u 64 0, .u 64 0, .u 64 0]))),
 ⟨none, none, .stl 5 9 (.t 5) (.t 25)⟩,
 mv 6 26] [0, 3, 4, 5]) (
 .seq (
 .reg [
 op 27 (.ldl 5 (some 9) (.t 5)),
 op 7 (.box (.c (.agg [.u 64 0, .u 64 0, .u 64 0, .u 64 0, .u 64 0, .u 64 0, .u 64 0, .u 64 0, .u 64 0]))),
 ⟨none, none, .stl 7 9 (.t 7) (.t 27)⟩,
 op 8 (.mov (.c (.i 0)))] [0, 3, 4, 5, 7, 8]) (
 .seq (
 .block 0 (
 .loop [0, 3, 4, 5, 7, 8] (
 .seq (
 .seq (
 .reg [
 op 28 (.ldl 7 (some 9) (.t 7)),
 op 29 (.call f_nat_Bit [] [(.t 28), (.c (.i 0))]),
 op 30 (.bin .eql (.t 29) (.c (.i 0)))] [0, 3, 4, 5, 7, 8, 30]) (
 .cond (.t 30) (
 .reg [] [0, 3, 4, 5, 7, 8]) (
 .exit 0 [0, 3, 4, 5, 7, 8]))) (
 .block 1 (
 .reg [
 op 31 (.ldl 7 (some 9) (.t 7)),
 op 32 (.call f_field_half [] [(.t 31)]),
 mv 33 8,
 op 34 (.bin .add (.t 33) (.c (.i 1))),
 ⟨none, none, .stl 7 9 (.t 7) (.t 32)⟩,
 mv 8 34] [0, 3, 4, 5, 7, 8]))))) (
 .seq (
 .reg [
 op 35 (.call f_nat_Small [] [(.c (.i 2))]),
 op 9 (.box (.c (.agg [.u 64 0, .u 64 0, .u 64 0, .u 64 0, .u 64 0, .u 64 0, .u 64 0, .u 64 0, .u 64 0]))),
 ⟨none, none, .stl 9 9 (.t 9) (.t 35)⟩] [0, 3, 4, 5, 7, 8, 9]) (
 .seq (
 .block 2 (
 .loop [0, 3, 4, 5, 7, 8, 9] (
 .seq (
 .seq (
 .reg [
 mv 36 0,
 op 37 (.nck (.t 36)),
 op 38 (.off 9 (.t 37)),
 op 39 (.ld true (some 1) (.t 38)),
 op 40 (.ldl 9 (some 9) (.t 9)),
 op 41 (.ldl 5 (some 9) (.t 5)),
 op 42 (.call f_field_half [] [(.t 41)]),
 op 43 (.call f_divide_Modulus_Pow [] [(.t 39), (.t 40), (.t 42)]),
 op 44 (.ldl 5 (some 9) (.t 5)),
 op 45 (.eqv (.agg [.u 64, .u 64, .u 64, .u 64, .u 64, .u 64, .u 64, .u 64, .u 64]) true (.t 43) (.t 44))] [0, 3, 4, 5, 7, 8, 9, 45]) (
 .cond (.t 45) (
 .reg [] [0, 3, 4, 5, 7, 8, 9]) (
 .exit 2 [0, 3, 4, 7, 8, 9]))) (
 .block 3 (
 .reg [
 mv 46 0,
 op 47 (.ldl 9 (some 9) (.t 9)),
 op 48 (.call f_field_one [] []),
 op 49 (.call f_field_Field_Add [] [(.t 46), (.t 47), (.t 48)]),
 ⟨none, none, .stl 9 9 (.t 9) (.t 49)⟩] [0, 3, 4, 5, 7, 8, 9]))))) (
 .seq (
 .reg [
 op 51 (.ldl 7 (some 9) (.t 7)),
 op 52 (.call f_field_one [] []),
 op 53 (.call f_nat_Add [] [(.t 51), (.t 52)]),
 mv 50 53,
 op 54 (.ext 0 (.t 50)),
 op 55 (.ext 1 (.t 50)),
 op 10 (.box (.c (.agg [.u 64 0, .u 64 0, .u 64 0, .u 64 0, .u 64 0, .u 64 0, .u 64 0, .u 64 0, .u 64 0]))),
 ⟨none, none, .stl 10 9 (.t 10) (.t 54)⟩,
 mv 11 55] [0, 3, 4, 7, 8, 9, 10]) (
 .seq (
 .reg [
 mv 56 0,
 op 57 (.nck (.t 56)),
 op 58 (.off 9 (.t 57)),
 op 59 (.ld false (some 1) (.t 58)),
 op 60 (.ldl 9 (some 9) (.t 9)),
 op 61 (.ldl 7 (some 9) (.t 7)),
 op 62 (.call f_divide_Modulus_Pow [] [(.t 59), (.t 60), (.t 61)]),
 mv 63 0,
 op 64 (.nck (.t 63)),
 op 65 (.off 9 (.t 64)),
 op 66 (.ld true (some 1) (.t 65)),
 op 67 (.ld true (some 9) (.t 3)),
 op 68 (.ldl 10 (some 9) (.t 10)),
 op 69 (.call f_field_half [] [(.t 68)]),
 op 70 (.call f_divide_Modulus_Pow [] [(.t 66), (.t 67), (.t 69)]),
 mv 71 0,
 op 72 (.nck (.t 71)),
 op 73 (.off 9 (.t 72)),
 op 74 (.ld true (some 1) (.t 73)),
 op 75 (.ld true (some 9) (.t 3)),
 op 76 (.ldl 7 (some 9) (.t 7)),
 op 77 (.call f_divide_Modulus_Pow [] [(.t 74), (.t 75), (.t 76)]),
 op 12 (.box (.c (.agg [.u 64 0, .u 64 0, .u 64 0, .u 64 0, .u 64 0, .u 64 0, .u 64 0, .u 64 0, .u 64 0]))),
 op 13 (.box (.c (.agg [.u 64 0, .u 64 0, .u 64 0, .u 64 0, .u 64 0, .u 64 0, .u 64 0, .u 64 0, .u 64 0]))),
 op 14 (.box (.c (.agg [.u 64 0, .u 64 0, .u 64 0, .u 64 0, .u 64 0, .u 64 0, .u 64 0, .u 64 0, .u 64 0]))),
 ⟨none, none, .stl 12 9 (.t 12) (.t 62)⟩,
 ⟨none, none, .stl 13 9 (.t 13) (.t 70)⟩,
 ⟨none, none, .stl 14 9 (.t 14) (.t 77)⟩] [0, 4, 8, 12, 13, 14]) (
 .seq (
 .block 4 (
 .loop [0, 4, 8, 12, 13, 14] (
 .seq (
 .seq (
 .reg [
 op 78 (.ldl 14 (some 9) (.t 14)),
 op 79 (.call f_field_one [] []),
 op 80 (.eqv (.agg [.u 64, .u 64, .u 64, .u 64, .u 64, .u 64, .u 64, .u 64, .u 64]) true (.t 78) (.t 79))] [0, 4, 8, 12, 13, 14, 80]) (
 .cond (.t 80) (
 .reg [] [0, 4, 8, 12, 13, 14]) (
 .exit 4 [4, 13]))) (
 .block 5 (
 .seq (
 .reg [
 op 15 (.mov (.c (.i 0)))] [0, 4, 8, 12, 13, 14, 15]) (
 .seq (
 .seq (
 .reg [
 op 81 (.ldl 14 (some 9) (.t 14)),
 op 16 (.box (.c (.agg [.u 64 0, .u 64 0, .u 64 0, .u 64 0, .u 64 0, .u 64 0, .u 64 0, .u 64 0, .u 64 0]))),
 ⟨none, none, .stl 16 9 (.t 16) (.t 81)⟩] [0, 4, 8, 12, 13, 14, 15, 16]) (
 .block 6 (
 .loop [0, 4, 8, 12, 13, 14, 15, 16] (
 .seq (
 .seq (
 .reg [
 op 82 (.ldl 16 (some 9) (.t 16)),
 op 83 (.call f_field_one [] []),
 op 84 (.eqv (.agg [.u 64, .u 64, .u 64, .u 64, .u 64, .u 64, .u 64, .u 64, .u 64]) true (.t 82) (.t 83))] [0, 4, 8, 12, 13, 14, 15, 16, 84]) (
 .cond (.t 84) (
 .reg [] [0, 4, 8, 12, 13, 14, 15, 16]) (
 .exit 6 [0, 4, 8, 12, 13, 14, 15]))) (
 .seq (
 .block 7 (
 .reg [
 mv 89 15,
 op 90 (.bin .add (.t 89) (.c (.i 1))),
 mv 15 90] [0, 4, 8, 12, 13, 14, 15, 16])) (
 .seq (
 .seq (
 .reg [
 op 91 (.ldl 16 (some 9) (.t 16))] [0, 4, 8, 12, 13, 14, 15, 91]) (
 .reg [
 op 16 (.box (.c (.agg [.u 64 0, .u 64 0, .u 64 0, .u 64 0, .u 64 0, .u 64 0, .u 64 0, .u 64 0, .u 64 0]))),
 ⟨none, none, .stl 16 9 (.t 16) (.t 91)⟩] [0, 4, 8, 12, 13, 14, 15, 16])) (
 .reg [
 mv 85 0,
 op 86 (.ldl 16 (some 9) (.t 16)),
 op 87 (.ldl 16 (some 9) (.t 16)),
 op 88 (.call f_field_Field_Mul [] [(.t 85), (.t 86), (.t 87)]),
 ⟨none, none, .stl 16 9 (.t 16) (.t 88)⟩] [0, 4, 8, 12, 13, 14, 15, 16]))))))) (
 .seq (
 .reg [
 op 92 (.ldl 12 (some 9) (.t 12)),
 op 17 (.box (.c (.agg [.u 64 0, .u 64 0, .u 64 0, .u 64 0, .u 64 0, .u 64 0, .u 64 0, .u 64 0, .u 64 0]))),
 ⟨none, none, .stl 17 9 (.t 17) (.t 92)⟩] [0, 4, 8, 12, 13, 14, 15, 17]) (
 .seq (
 .seq (
 .reg [
 mv 93 8,
 mv 94 15,
 op 95 (.bin .sub (.t 93) (.t 94)),
 op 96 (.bin .sub (.t 95) (.c (.i 1))),
 op 97 (.mov (.c (.i 0)))] [0, 4, 12, 13, 14, 15, 17, 96, 97]) (
 .block 8 (
 .loop [0, 4, 12, 13, 14, 15, 17, 96, 97] (
 .seq (
 .reg [
 op 98 (.bin .lss (.t 97) (.t 96))] [0, 4, 12, 13, 14, 15, 17, 96, 97, 98]) (
 .seq (
 .cond (.t 98) (
 .reg [] [0, 4, 12, 13, 14, 15, 17, 96, 97]) (
 .exit 8 [0, 4, 12, 13, 14, 15, 17])) (
 .seq (
 .block 9 (
 .reg [
 mv 99 0,
 op 100 (.ldl 17 (some 9) (.t 17)),
 op 101 (.ldl 17 (some 9) (.t 17)),
 op 102 (.call f_field_Field_Mul [] [(.t 99), (.t 100), (.t 101)]),
 ⟨none, none, .stl 17 9 (.t 17) (.t 102)⟩] [0, 4, 12, 13, 14, 15, 17, 96, 97])) (
 .reg [
 op 103 (.bin .add (.t 97) (.c (.i 1))),
 mv 97 103] [0, 4, 12, 13, 14, 15, 17, 96, 97]))))))) (
 .seq (
 .reg [
 mv 104 0,
 op 105 (.ldl 13 (some 9) (.t 13)),
 op 106 (.ldl 17 (some 9) (.t 17)),
 op 107 (.call f_field_Field_Mul [] [(.t 104), (.t 105), (.t 106)]),
 mv 108 0,
 op 109 (.ldl 17 (some 9) (.t 17)),
 op 110 (.ldl 17 (some 9) (.t 17)),
 op 111 (.call f_field_Field_Mul [] [(.t 108), (.t 109), (.t 110)]),
 ⟨none, none, .stl 13 9 (.t 13) (.t 107)⟩,
 ⟨none, none, .stl 12 9 (.t 12) (.t 111)⟩] [0, 4, 12, 13, 14, 15]) (
 .reg [
 mv 112 0,
 op 113 (.ldl 14 (some 9) (.t 14)),
 op 114 (.ldl 12 (some 9) (.t 12)),
 op 115 (.call f_field_Field_Mul [] [(.t 112), (.t 113), (.t 114)]),
 mv 116 15,
 ⟨none, none, .stl 14 9 (.t 14) (.t 115)⟩,
 mv 8 116] [0, 4, 8, 12, 13, 14])))))))))) (
 .seq (
 .reg [
 op 117 (.ldl 13 (some 9) (.t 13)),
 ⟨none, none, .stl 4 9 (.t 4) (.t 117)⟩] [4]) (
 .ret))))))))))
def m_field_Field_root : MFn := ⟨c_field_Field_root, [.cell 4 (some 9)], 0⟩

/-- curvet/nat.Bit -/
def c_nat_Bit : Stm :=
 .seq (
 .reg [
 op 2 (.boxv (.t 0)),
 op 4 (.mov (.c (.i 0)))] [1, 2]) (
 .seq (
 .seq (
 .reg [
 mv 5 1,
 op 6 (.bin .lss (.t 5) (.c (.i 0))),
 mv 7 6,
 ⟨some 8, (some (7, false)), .mov (.t 1)⟩,
 ⟨some 9, (some (7, false)), .bin .geq (.t 8) (.c (.i 576))⟩,
 op 10 (.pick (.t 7) (.c (.b true)) (.t 9))] [1, 2, 10]) (
 .cond (.t 10) (
 .seq (
 .reg [
 op 4 (.mov (.c (.i 0)))] [4]) (
 .ret)) (
 .reg [] [1, 2]))) (
 .seq (
 .reg [
 mv 11 1,
 op 12 (.bin .quo (.t 11) (.c (.i 64))),
 op 13 (.off 0 (.t 2)),
 op 14 (.idx 9 1 (.t 13) (.t 12)),
 op 15 (.ld true none (.t 14)),
 mv 16 1,
 op 17 (.bin .rem (.t 16) (.c (.i 64))),
 op 18 (.bin .shr (.t 15) (.t 17)),
 op 19 (.bin .and (.t 18) (.c (.u 64 1))),
 op 20 (.cvi (.t 19)),
 mv 4 20] [4]) (
 .ret)))
def m_nat_Bit : MFn := ⟨c_nat_Bit, [.tmp 4], 0⟩

/-- curvet/curvetref1.short -/
def c_curvetref1_short : Stm :=
 .seq (
 .reg [
 op 4 (.mov (.c (.vs 0 []))),
 op 5 (.mov (.c (.vs 0 [])))] [0, 1]) (
 .seq (
 .reg [
 mv 10 0,
 op 11 (.len (.t 10)),
 op 12 (.mks 1 4 [.u 32 0] (.t 11) (.t 11)),
 mv 6 12] [0, 1, 6]) (
 .seq (
 .reg [
 op 7 (.mov (.c (.u 64 0)))] [0, 1, 6, 7]) (
 .seq (
 .seq (
 .reg [
 mv 13 0,
 op 14 (.len (.t 13)),
 op 15 (.bin .sub (.t 14) (.c (.i 1))),
 mv 8 15] [0, 1, 6, 7, 8]) (
 .block 0 (
 .loop [0, 1, 6, 7, 8] (
 .seq (
 .seq (
 .reg [
 mv 16 8,
 op 17 (.bin .geq (.t 16) (.c (.i 0)))] [0, 1, 6, 7, 8, 17]) (
 .cond (.t 17) (
 .reg [] [0, 1, 6, 7, 8]) (
 .exit 0 [6, 7]))) (
 .seq (
 .block 1 (
 .seq (
 .reg [
 mv 20 7,
 op 21 (.bin .shl (.t 20) (.c (.u 64 32))),
 mv 22 0,
 mv 23 8,
 op 24 (.idxs 1 (.t 22) (.t 23)),
 op 25 (.ld false none (.t 24)),
 op 26 (.cvu 64 (.t 25)),
 op 27 (.bin .or (.t 21) (.t 26)),
 mv 9 27] [0, 1, 6, 8, 9]) (
 .seq (
 .reg [
 mv 28 6,
 mv 29 8,
 mv 30 9,
 mv 31 1,
 op 32 (.bin .quo (.t 30) (.t 31)),
 op 33 (.cvu 32 (.t 32)),
 op 34 (.idxs 1 (.t 28) (.t 29)),
 ⟨none, none, .st 1 (.t 34) (.t 33)⟩] [0, 1, 6, 8, 9]) (
 .reg [
 mv 35 9,
 mv 36 1,
 op 37 (.bin .rem (.t 35) (.t 36)),
 mv 7 37] [0, 1, 6, 7, 8])))) (
 .reg [
 mv 18 8,
 op 19 (.bin .sub (.t 18) (.c (.i 1))),
 mv 8 19] [0, 1, 6, 7, 8])))))) (
 .seq (
 .reg [
 mv 38 6,
 op 39 (.call f_curvetref1_trim [] [(.t 38)]),
 mv 40 7,
 op 41 (.cvu 32 (.t 40)),
 op 42 (.lit true 1 1 [.u 32 0] [(0, 1, (.t 41))]),
 op 43 (.call f_curvetref1_trim [] [(.t 42)]),
 mv 4 39,
 mv 5 43] [4, 5]) (
 .ret)))))
def m_curvetref1_short : MFn := ⟨c_curvetref1_short, [.tmp 4, .tmp 5], 0⟩

/-- curvet/curvetref1.Bits -/
def c_curvetref1_Bits : Stm :=
 .seq (
 .reg [
 op 2 (.mov (.c (.i 0)))] [0]) (
 .seq (
 .seq (
 .reg [
 mv 5 0,
 op 6 (.len (.t 5)),
 op 7 (.bin .eql (.t 6) (.c (.i 0)))] [0, 7]) (
 .cond (.t 7) (
 .seq (
 .reg [
 op 2 (.mov (.c (.i 0)))] [2]) (
 .ret)) (
 .reg [] [0]))) (
 .seq (
 .reg [
 mv 8 0,
 op 9 (.len (.t 8)),
 op 10 (.bin .sub (.t 9) (.c (.i 1))),
 op 11 (.bin .mul (.c (.i 32)) (.t 10)),
 mv 3 11] [0, 3]) (
 .seq (
 .seq (
 .reg [
 mv 12 0,
 mv 13 0,
 op 14 (.len (.t 13)),
 op 15 (.bin .sub (.t 14) (.c (.i 1))),
 op 16 (.idxs 1 (.t 12) (.t 15)),
 op 17 (.ld false none (.t 16)),
 mv 4 17] [3, 4]) (
 .block 0 (
 .loop [3, 4] (
 .seq (
 .seq (
 .reg [
 mv 18 4,
 op 19 (.bin .gtr (.t 18) (.c (.u 32 0)))] [3, 4, 19]) (
 .cond (.t 19) (
 .reg [] [3, 4]) (
 .exit 0 [3]))) (
 .seq (
 .block 1 (
 .reg [
 mv 22 3,
 op 23 (.bin .add (.t 22) (.c (.i 1))),
 mv 3 23] [3, 4])) (
 .reg [
 mv 20 4,
 op 21 (.bin .shr (.t 20) (.c (.u 64 1))),
 mv 4 21] [3, 4])))))) (
 .seq (
 .reg [
 mv 24 3,
 mv 2 24] [2]) (
 .ret)))))
def m_curvetref1_Bits : MFn := ⟨c_curvetref1_Bits, [.tmp 2], 0⟩

/-- curvet/curvetref1.Shl -/
def c_curvetref1_Shl : Stm :=
 .seq (
 .reg [
 op 4 (.mov (.c (.vs 0 [])))] [0, 1]) (
 .seq (
 .reg [
 mv 8 0,
 op 9 (.len (.t 8)),
 mv 10 1,
 op 11 (.bin .quo (.t 10) (.c (.i 32))),
 op 12 (.bin .add (.t 9) (.t 11)),
 op 13 (.bin .add (.t 12) (.c (.i 1))),
 op 14 (.mks 1 4 [.u 32 0] (.t 13) (.t 13)),
 mv 5 14] [0, 1, 5]) (
 .seq (
 .seq (
 .reg [
 op 6 (.mov (.c (.i 0)))] [0, 1, 5, 6]) (
 .block 0 (
 .loop [0, 1, 5, 6] (
 .seq (
 .seq (
 .reg [
 mv 15 6,
 mv 16 0,
 op 17 (.len (.t 16)),
 op 18 (.bin .lss (.t 15) (.t 17))] [0, 1, 5, 6, 18]) (
 .cond (.t 18) (
 .reg [] [0, 1, 5, 6]) (
 .exit 0 [5]))) (
 .seq (
 .block 1 (
 .seq (
 .reg [
 mv 21 0,
 mv 22 6,
 op 23 (.idxs 1 (.t 21) (.t 22)),
 op 24 (.ld false none (.t 23)),
 op 25 (.cvu 64 (.t 24)),
 mv 26 1,
 op 27 (.bin .rem (.t 26) (.c (.i 32))),
 op 28 (.bin .shl (.t 25) (.t 27)),
 mv 7 28] [0, 1, 5, 6, 7]) (
 .seq (
 .reg [
 mv 29 5,
 mv 30 6,
 mv 31 1,
 op 32 (.bin .quo (.t 31) (.c (.i 32))),
 op 33 (.bin .add (.t 30) (.t 32)),
 mv 34 5,
 mv 35 6,
 mv 36 1,
 op 37 (.bin .quo (.t 36) (.c (.i 32))),
 op 38 (.bin .add (.t 35) (.t 37)),
 op 39 (.idxs 1 (.t 34) (.t 38)),
 op 40 (.ld false none (.t 39)),
 mv 41 7,
 op 42 (.bin .and (.t 41) (.c (.u 64 4294967295))),
 op 43 (.cvu 32 (.t 42)),
 op 44 (.bin .or (.t 40) (.t 43)),
 op 45 (.idxs 1 (.t 29) (.t 33)),
 ⟨none, none, .st 1 (.t 45) (.t 44)⟩] [0, 1, 5, 6, 7]) (
 .reg [
 mv 46 5,
 mv 47 6,
 mv 48 1,
 op 49 (.bin .quo (.t 48) (.c (.i 32))),
 op 50 (.bin .add (.t 47) (.t 49)),
 op 51 (.bin .add (.t 50) (.c (.i 1))),
 mv 52 7,
 op 53 (.bin .shr (.t 52) (.c (.u 64 32))),
 op 54 (.cvu 32 (.t 53)),
 op 55 (.idxs 1 (.t 46) (.t 51)),
 ⟨none, none, .st 1 (.t 55) (.t 54)⟩] [0, 1, 5, 6])))) (
 .reg [
 mv 19 6,
 op 20 (.bin .add (.t 19) (.c (.i 1))),
 mv 6 20] [0, 1, 5, 6])))))) (
 .seq (
 .reg [
 mv 56 5,
 op 57 (.call f_curvetref1_trim [] [(.t 56)]),
 mv 4 57] [4]) (
 .ret))))
def m_curvetref1_Shl : MFn := ⟨c_curvetref1_Shl, [.tmp 4], 0⟩

/-- curvet/curvetref1.step -/
def c_curvetref1_step : Stm :=
 .seq (
 .reg [
 op 6 (.mov (.c (.u 64 0)))] [0, 1, 2]) (
 .seq (
 .reg [
 mv 19 1,
 op 20 (.len (.t 19)),
 mv 7 20] [0, 1, 2, 7]) (
 .seq (
 .reg [
 mv 21 0,
 mv 22 2,
 mv 23 7,
 op 24 (.bin .add (.t 22) (.t 23)),
 op 25 (.idxs 1 (.t 21) (.t 24)),
 op 26 (.ld false none (.t 25)),
 op 27 (.cvu 64 (.t 26)),
 op 28 (.bin .shl (.t 27) (.c (.u 64 32))),
 mv 29 0,
 mv 30 2,
 mv 31 7,
 op 32 (.bin .add (.t 30) (.t 31)),
 op 33 (.bin .sub (.t 32) (.c (.i 1))),
 op 34 (.idxs 1 (.t 29) (.t 33)),
 op 35 (.ld false none (.t 34)),
 op 36 (.cvu 64 (.t 35)),
 op 37 (.bin .or (.t 28) (.t 36)),
 mv 8 37] [0, 1, 2, 7, 8]) (
 .seq (
 .reg [
 mv 38 8,
 mv 39 1,
 mv 40 7,
 op 41 (.bin .sub (.t 40) (.c (.i 1))),
 op 42 (.idxs 1 (.t 39) (.t 41)),
 op 43 (.ld false none (.t 42)),
 op 44 (.cvu 64 (.t 43)),
 op 45 (.bin .quo (.t 38) (.t 44)),
 mv 46 8,
 mv 47 1,
 mv 48 7,
 op 49 (.bin .sub (.t 48) (.c (.i 1))),
 op 50 (.idxs 1 (.t 47) (.t 49)),
 op 51 (.ld false none (.t 50)),
 op 52 (.cvu 64 (.t 51)),
 op 53 (.bin .rem (.t 46) (.t 52)),
 mv 9 45,
 mv 10 53] [0, 1, 2, 7, 9, 10]) (
 .seq (
 .block 0 (
 .loop [0, 1, 2, 7, 9, 10] (
 .seq (
 .seq (
 .reg [
 mv 54 9,
 op 55 (.bin .geq (.t 54) (.c (.u 64 4294967296))),
 mv 56 55,
 ⟨some 57, (some (56, false)), .mov (.t 9)⟩,
 ⟨some 58, (some (56, false)), .mov (.t 1)⟩,
 ⟨some 59, (some (56, false)), .mov (.t 7)⟩,
 ⟨some 60, (some (56, false)), .bin .sub (.t 59) (.c (.i 2))⟩,
 ⟨some 61, (some (56, false)), .idxs 1 (.t 58) (.t 60)⟩,
 ⟨some 62, (some (56, false)), .ld false none (.t 61)⟩,
 ⟨some 63, (some (56, false)), .cvu 64 (.t 62)⟩,
 ⟨some 64, (some (56, false)), .bin .mul (.t 57) (.t 63)⟩,
 ⟨some 65, (some (56, false)), .mov (.t 10)⟩,
 ⟨some 66, (some (56, false)), .bin .shl (.t 65) (.c (.u 64 32))⟩,
 ⟨some 67, (some (56, false)), .mov (.t 0)⟩,
 ⟨some 68, (some (56, false)), .mov (.t 2)⟩,
 ⟨some 69, (some (56, false)), .mov (.t 7)⟩,
 ⟨some 70, (some (56, false)), .bin .add (.t 68) (.t 69)⟩,
 ⟨some 71, (some (56, false)), .bin .sub (.t 70) (.c (.i 2))⟩,
 ⟨some 72, (some (56, false)), .idxs 1 (.t 67) (.t 71)⟩,
 ⟨some 73, (some (56, false)), .ld false none (.t 72)⟩,
 ⟨some 74, (some (56, false)), .cvu 64 (.t 73)⟩,
 ⟨some 75, (some (56, false)), .bin .or (.t 66) (.t 74)⟩,
 ⟨some 76, (some (56, false)), .bin .gtr (.t 64) (.t 75)⟩,
 op 77 (.pick (.t 56) (.c (.b true)) (.t 76))] [0, 1, 2, 7, 9, 10, 77]) (
 .cond (.t 77) (
 .reg [] [0, 1, 2, 7, 9, 10]) (
 .exit 0 [0, 1, 2, 7, 9]))) (
 .block 1 (
 .seq (
 .reg [
 mv 78 9,
 op 79 (.bin .sub (.t 78) (.c (.u 64 1))),
 mv 9 79] [0, 1, 2, 7, 9, 10]) (
 .seq (
 .reg [
 mv 80 10,
 mv 81 1,
 mv 82 7,
 op 83 (.bin .sub (.t 82) (.c (.i 1))),
 op 84 (.idxs 1 (.t 81) (.t 83)),
 op 85 (.ld false none (.t 84)),
 op 86 (.cvu 64 (.t 85)),
 op 87 (.bin .add (.t 80) (.t 86)),
 mv 10 87] [0, 1, 2, 7, 9, 10]) (
 .seq (
 .reg [
 mv 88 10,
 op 89 (.bin .geq (.t 88) (.c (.u 64 4294967296)))] [0, 1, 2, 7, 9, 10, 89]) (
 .cond (.t 89) (
 .exit 0 [0, 1, 2, 7, 9]) (
 .reg [] [0, 1, 2, 7, 9, 10]))))))))) (
 .seq (
 .reg [
 op 11 (.mov (.c (.u 64 0))),
 op 12 (.mov (.c (.u 64 0)))] [0, 1, 2, 7, 9, 11, 12]) (
 .seq (
 .seq (
 .reg [
 op 13 (.mov (.c (.i 0)))] [0, 1, 2, 7, 9, 11, 12, 13]) (
 .block 2 (
 .loop [0, 1, 2, 7, 9, 11, 12, 13] (
 .seq (
 .seq (
 .reg [
 mv 90 13,
 mv 91 7,
 op 92 (.bin .lss (.t 90) (.t 91))] [0, 1, 2, 7, 9, 11, 12, 13, 92]) (
 .cond (.t 92) (
 .reg [] [0, 1, 2, 7, 9, 11, 12, 13]) (
 .exit 2 [0, 1, 2, 7, 9, 11, 12]))) (
 .seq (
 .block 3 (
 .seq (
 .reg [
 mv 95 9,
 mv 96 1,
 mv 97 13,
 op 98 (.idxs 1 (.t 96) (.t 97)),
 op 99 (.ld false none (.t 98)),
 op 100 (.cvu 64 (.t 99)),
 op 101 (.bin .mul (.t 95) (.t 100)),
 mv 102 11,
 op 103 (.bin .add (.t 101) (.t 102)),
 mv 14 103] [0, 1, 2, 7, 9, 12, 13, 14]) (
 .seq (
 .reg [
 mv 104 14,
 op 105 (.bin .shr (.t 104) (.c (.u 64 32))),
 mv 11 105] [0, 1, 2, 7, 9, 11, 12, 13, 14]) (
 .seq (
 .reg [
 mv 106 0,
 mv 107 13,
 mv 108 2,
 op 109 (.bin .add (.t 107) (.t 108)),
 op 110 (.idxs 1 (.t 106) (.t 109)),
 op 111 (.ld false none (.t 110)),
 op 112 (.cvu 64 (.t 111)),
 op 113 (.bin .add (.t 112) (.c (.u 64 4294967296))),
 mv 114 14,
 op 115 (.bin .and (.t 114) (.c (.u 64 4294967295))),
 op 116 (.bin .sub (.t 113) (.t 115)),
 mv 117 12,
 op 118 (.bin .sub (.t 116) (.t 117)),
 mv 15 118] [0, 1, 2, 7, 9, 11, 13, 15]) (
 .seq (
 .reg [
 mv 119 0,
 mv 120 13,
 mv 121 2,
 op 122 (.bin .add (.t 120) (.t 121)),
 mv 123 15,
 op 124 (.bin .and (.t 123) (.c (.u 64 4294967295))),
 op 125 (.cvu 32 (.t 124)),
 op 126 (.idxs 1 (.t 119) (.t 122)),
 ⟨none, none, .st 1 (.t 126) (.t 125)⟩] [0, 1, 2, 7, 9, 11, 13, 15]) (
 .reg [
 mv 127 15,
 op 128 (.bin .shr (.t 127) (.c (.u 64 32))),
 op 129 (.bin .sub (.c (.u 64 1)) (.t 128)),
 mv 12 129] [0, 1, 2, 7, 9, 11, 12, 13])))))) (
 .reg [
 mv 93 13,
 op 94 (.bin .add (.t 93) (.c (.i 1))),
 mv 13 94] [0, 1, 2, 7, 9, 11, 12, 13])))))) (
 .seq (
 .reg [
 mv 130 0,
 mv 131 2,
 mv 132 7,
 op 133 (.bin .add (.t 131) (.t 132)),
 op 134 (.idxs 1 (.t 130) (.t 133)),
 op 135 (.ld false none (.t 134)),
 op 136 (.cvu 64 (.t 135)),
 op 137 (.bin .add (.t 136) (.c (.u 64 4294967296))),
 mv 138 11,
 op 139 (.bin .sub (.t 137) (.t 138)),
 mv 140 12,
 op 141 (.bin .sub (.t 139) (.t 140)),
 mv 16 141] [0, 1, 2, 7, 9, 16]) (
 .seq (
 .reg [
 mv 142 0,
 mv 143 2,
 mv 144 7,
 op 145 (.bin .add (.t 143) (.t 144)),
 mv 146 16,
 op 147 (.bin .and (.t 146) (.c (.u 64 4294967295))),
 op 148 (.cvu 32 (.t 147)),
 op 149 (.idxs 1 (.t 142) (.t 145)),
 ⟨none, none, .st 1 (.t 149) (.t 148)⟩] [0, 1, 2, 7, 9, 16]) (
 .seq (
 .seq (
 .reg [
 mv 150 16,
 op 151 (.bin .shr (.t 150) (.c (.u 64 32))),
 op 152 (.bin .eql (.t 151) (.c (.u 64 1)))] [0, 1, 2, 7, 9, 152]) (
 .cond (.t 152) (
 .seq (
 .reg [
 mv 153 9,
 mv 6 153] [6]) (
 .ret)) (
 .reg [] [0, 1, 2, 7, 9]))) (
 .seq (
 .reg [
 op 11 (.mov (.c (.u 64 0)))] [0, 1, 2, 7, 9, 11]) (
 .seq (
 .seq (
 .reg [
 op 17 (.mov (.c (.i 0)))] [0, 1, 2, 7, 9, 11, 17]) (
 .block 4 (
 .loop [0, 1, 2, 7, 9, 11, 17] (
 .seq (
 .seq (
 .reg [
 mv 154 17,
 mv 155 7,
 op 156 (.bin .lss (.t 154) (.t 155))] [0, 1, 2, 7, 9, 11, 17, 156]) (
 .cond (.t 156) (
 .reg [] [0, 1, 2, 7, 9, 11, 17]) (
 .exit 4 [0, 2, 7, 9, 11]))) (
 .seq (
 .block 5 (
 .seq (
 .reg [
 mv 159 0,
 mv 160 17,
 mv 161 2,
 op 162 (.bin .add (.t 160) (.t 161)),
 op 163 (.idxs 1 (.t 159) (.t 162)),
 op 164 (.ld false none (.t 163)),
 op 165 (.cvu 64 (.t 164)),
 mv 166 1,
 mv 167 17,
 op 168 (.idxs 1 (.t 166) (.t 167)),
 op 169 (.ld false none (.t 168)),
 op 170 (.cvu 64 (.t 169)),
 op 171 (.bin .add (.t 165) (.t 170)),
 mv 172 11,
 op 173 (.bin .add (.t 171) (.t 172)),
 mv 18 173] [0, 1, 2, 7, 9, 17, 18]) (
 .seq (
 .reg [
 mv 174 0,
 mv 175 17,
 mv 176 2,
 op 177 (.bin .add (.t 175) (.t 176)),
 mv 178 18,
 op 179 (.bin .and (.t 178) (.c (.u 64 4294967295))),
 op 180 (.cvu 32 (.t 179)),
 op 181 (.idxs 1 (.t 174) (.t 177)),
 ⟨none, none, .st 1 (.t 181) (.t 180)⟩] [0, 1, 2, 7, 9, 17, 18]) (
 .reg [
 mv 182 18,
 op 183 (.bin .shr (.t 182) (.c (.u 64 32))),
 mv 11 183] [0, 1, 2, 7, 9, 11, 17])))) (
 .reg [
 mv 157 17,
 op 158 (.bin .add (.t 157) (.c (.i 1))),
 mv 17 158] [0, 1, 2, 7, 9, 11, 17])))))) (
 .seq (
 .reg [
 mv 184 0,
 mv 185 2,
 mv 186 7,
 op 187 (.bin .add (.t 185) (.t 186)),
 mv 188 0,
 mv 189 2,
 mv 190 7,
 op 191 (.bin .add (.t 189) (.t 190)),
 op 192 (.idxs 1 (.t 188) (.t 191)),
 op 193 (.ld false none (.t 192)),
 mv 194 11,
 op 195 (.cvu 32 (.t 194)),
 op 196 (.bin .add (.t 193) (.t 195)),
 op 197 (.idxs 1 (.t 184) (.t 187)),
 ⟨none, none, .st 1 (.t 197) (.t 196)⟩] [9]) (
 .seq (
 .reg [
 mv 198 9,
 op 199 (.bin .sub (.t 198) (.c (.u 64 1))),
 mv 6 199] [6]) (
 .ret))))))))))))))
def m_curvetref1_step : MFn := ⟨c_curvetref1_step, [.tmp 6], 0⟩

/-- (curvet/divide.Modulus).Mul -/
def c_divide_Modulus_Mul : Stm :=
 .seq (
 .reg [
 op 3 (.boxv (.t 0)),
 op 4 (.boxv (.t 1)),
 op 5 (.boxv (.t 2)),
 op 6 (.box (.c (.agg [.u 64 0, .u 64 0, .u 64 0, .u 64 0, .u 64 0, .u 64 0, .u 64 0, .u 64 0, .u 64 0])))] [3, 4, 5, 6]) (
 .seq (
 .reg [
 op 10 (.ld true (some 9) (.t 4)),
 op 11 (.ld true (some 9) (.t 5)),
 op 12 (.call f_nat_Mul [] [(.t 10), (.t 11)]),
 op 7 (.box (.c (.agg [.u 64 0, .u 64 0, .u 64 0, .u 64 0, .u 64 0, .u 64 0, .u 64 0, .u 64 0, .u 64 0, .u 64 0, .u 64 0, .u 64 0, .u 64 0, .u 64 0, .u 64 0, .u 64 0, .u 64 0, .u 64 0]))),
 ⟨none, none, .stl 7 18 (.t 7) (.t 12)⟩] [3, 6, 7]) (
 .seq (
 .reg [
 op 14 (.off 0 (.t 3)),
 op 15 (.ld true none (.t 14)),
 op 16 (.off 0 (.t 7)),
 op 17 (.off 0 (.t 7)),
 op 18 (.sla true 18 1 (.t 17) none none),
 op 19 (.call f_divide_length [7] [(.t 18)]),
 op 20 (.sla true 18 1 (.t 16) none (some (.t 19))),
 op 21 (.call f_divide_divisor_divide [7] [(.t 15), (.t 20)]),
 mv 13 21,
 op 22 (.ext 0 (.t 13)),
 op 23 (.ext 1 (.t 13)),
 op 8 (.box (.c (.agg [.u 64 0, .u 64 0, .u 64 0, .u 64 0, .u 64 0, .u 64 0, .u 64 0, .u 64 0, .u 64 0, .u 64 0, .u 64 0, .u 64 0, .u 64 0, .u 64 0, .u 64 0, .u 64 0, .u 64 0, .u 64 0]))),
 op 9 (.box (.c (.agg [.u 64 0, .u 64 0, .u 64 0, .u 64 0, .u 64 0, .u 64 0, .u 64 0, .u 64 0, .u 64 0]))),
 ⟨none, none, .stl 8 18 (.t 8) (.t 22)⟩,
 ⟨none, none, .stl 9 9 (.t 9) (.t 23)⟩] [6, 9]) (
 .seq (
 .reg [
 op 24 (.ldl 9 (some 9) (.t 9)),
 ⟨none, none, .stl 6 9 (.t 6) (.t 24)⟩] [6]) (
 .ret))))
def m_divide_Modulus_Mul : MFn := ⟨c_divide_Modulus_Mul, [.cell 6 (some 9)], 0⟩

/-- curvet/nat.Add -/
def c_nat_Add : Stm :=
 .seq (
 .reg [
 op 2 (.box (.t 0)),
 op 3 (.boxv (.t 1)),
 op 4 (.box (.c (.agg [.u 64 0, .u 64 0, .u 64 0, .u 64 0, .u 64 0, .u 64 0, .u 64 0, .u 64 0, .u 64 0]))),
 op 5 (.mov (.c (.b false)))] [2, 3, 4]) (
 .seq (
 .reg [
 op 6 (.mov (.c (.u 64 0)))] [2, 3, 4, 6]) (
 .seq (
 .seq (
 .reg [
 op 8 (.mov (.c (.i 0)))] [2, 3, 4, 6, 8]) (
 .block 0 (
 .loop [2, 3, 4, 6, 8] (
 .seq (
 .reg [
 op 9 (.bin .lss (.t 8) (.c (.i 9)))] [2, 3, 4, 6, 8, 9]) (
 .seq (
 .cond (.t 9) (
 .reg [] [2, 3, 4, 6, 8]) (
 .exit 0 [2, 4, 6])) (
 .seq (
 .block 1 (
 .seq (
 .reg [
 mv 10 8,
 mv 7 10] [2, 3, 4, 6, 7, 8]) (
 .reg [
 mv 12 7,
 mv 13 7,
 op 14 (.off 0 (.t 2)),
 op 15 (.idx 9 1 (.t 14) (.t 13)),
 op 16 (.ldl 2 none (.t 15)),
 mv 17 7,
 op 18 (.off 0 (.t 3)),
 op 19 (.idx 9 1 (.t 18) (.t 17)),
 op 20 (.ld true none (.t 19)),
 mv 21 6,
 op 22 (.prim .add64 [(.t 16), (.t 20), (.t 21)]),
 mv 11 22,
 op 23 (.ext 0 (.t 11)),
 op 24 (.ext 1 (.t 11)),
 op 25 (.off 0 (.t 2)),
 op 26 (.idx 9 1 (.t 25) (.t 12)),
 ⟨none, none, .stl 2 1 (.t 26) (.t 23)⟩,
 mv 6 24] [2, 3, 4, 6, 8]))) (
 .reg [
 op 27 (.bin .add (.t 8) (.c (.i 1))),
 mv 8 27] [2, 3, 4, 6, 8]))))))) (
 .seq (
 .reg [
 op 28 (.ldl 2 (some 9) (.t 2)),
 mv 29 6,
 op 30 (.bin .eql (.t 29) (.c (.u 64 1))),
 ⟨none, none, .stl 4 9 (.t 4) (.t 28)⟩,
 mv 5 30] [4, 5]) (
 .ret))))
def m_nat_Add : MFn := ⟨c_nat_Add, [.cell 4 (some 9), .tmp 5], 0⟩

/-- curvet/divide.of -/
def c_divide_of : Stm :=
 .seq (
 .reg [
 op 2 (.mov (.c (.nilp)))] [0]) (
 .seq (
 .reg [
 mv 5 0,
 op 6 (.nck (.t 5)),
 op 7 (.off 0 (.t 6)),
 op 8 (.ld true (some 9) (.t 7)),
 mv 9 0,
 op 10 (.nck (.t 9)),
 op 11 (.off 0 (.t 10)),
 op 12 (.sla false 9 1 (.t 11) none none),
 op 13 (.call f_divide_length [] [(.t 12)]),
 op 14 (.build [.u 64 0, .u 64 0, .u 64 0, .u 64 0, .u 64 0, .u 64 0, .u 64 0, .u 64 0, .u 64 0, .i 0, .i 0] [(0, 9, (.t 8)), (9, 1, (.t 13))]),
 op 15 (.boxh (.t 14)),
 mv 3 15] [3]) (
 .seq (
 .reg [
 mv 16 3,
 mv 17 3,
 mv 18 3,
 op 19 (.nck (.t 18)),
 op 20 (.off 9 (.t 19)),
 op 21 (.ld false none (.t 20)),
 op 22 (.bin .sub (.t 21) (.c (.i 1))),
 op 23 (.nck (.t 17)),
 op 24 (.off 0 (.t 23)),
 op 25 (.idx 9 1 (.t 24) (.t 22)),
 op 26 (.ld false none (.t 25)),
 op 27 (.call f_bits_LeadingZeros64 [] [(.t 26)]),
 op 28 (.nck (.t 16)),
 op 29 (.off 10 (.t 28)),
 ⟨none, none, .st 1 (.t 29) (.t 27)⟩] [3]) (
 .seq (
 .seq (
 .reg [
 mv 30 3,
 op 31 (.nck (.t 30)),
 op 32 (.off 9 (.t 31)),
 op 33 (.ld false none (.t 32)),
 op 34 (.bin .sub (.t 33) (.c (.i 1))),
 mv 4 34] [3, 4]) (
 .block 0 (
 .loop [3, 4] (
 .seq (
 .seq (
 .reg [
 mv 35 4,
 op 36 (.bin .geq (.t 35) (.c (.i 0)))] [3, 4, 36]) (
 .cond (.t 36) (
 .reg [] [3, 4]) (
 .exit 0 [3]))) (
 .seq (
 .block 1 (
 .seq (
 .reg [
 mv 39 3,
 mv 40 4,
 op 41 (.nck (.t 39)),
 op 42 (.off 0 (.t 41)),
 op 43 (.idx 9 1 (.t 42) (.t 40)),
 op 44 (.ld false none (.t 43)),
 mv 45 3,
 op 46 (.nck (.t 45)),
 op 47 (.off 10 (.t 46)),
 op 48 (.ld false none (.t 47)),
 op 49 (.bin .shl (.t 44) (.t 48)),
 op 50 (.nck (.t 39)),
 op 51 (.off 0 (.t 50)),
 op 52 (.idx 9 1 (.t 51) (.t 40)),
 ⟨none, none, .st 1 (.t 52) (.t 49)⟩] [3, 4]) (
 .seq (
 .reg [
 mv 53 4,
 op 54 (.bin .gtr (.t 53) (.c (.i 0))),
 mv 55 54,
 ⟨some 56, (some (55, true)), .mov (.t 3)⟩,
 ⟨some 57, (some (55, true)), .nck (.t 56)⟩,
 ⟨some 58, (some (55, true)), .off 10 (.t 57)⟩,
 ⟨some 59, (some (55, true)), .ld false none (.t 58)⟩,
 ⟨some 60, (some (55, true)), .bin .gtr (.t 59) (.c (.i 0))⟩,
 op 61 (.pick (.t 55) (.t 60) (.c (.b false)))] [3, 4, 61]) (
 .cond (.t 61) (
 .reg [
 mv 62 3,
 mv 63 4,
 op 64 (.nck (.t 62)),
 op 65 (.off 0 (.t 64)),
 op 66 (.idx 9 1 (.t 65) (.t 63)),
 op 67 (.ld false none (.t 66)),
 mv 68 3,
 mv 69 4,
 op 70 (.bin .sub (.t 69) (.c (.i 1))),
 op 71 (.nck (.t 68)),
 op 72 (.off 0 (.t 71)),
 op 73 (.idx 9 1 (.t 72) (.t 70)),
 op 74 (.ld false none (.t 73)),
 mv 75 3,
 op 76 (.nck (.t 75)),
 op 77 (.off 10 (.t 76)),
 op 78 (.ld false none (.t 77)),
 op 79 (.bin .sub (.c (.i 64)) (.t 78)),
 op 80 (.bin .shr (.t 74) (.t 79)),
 op 81 (.bin .or (.t 67) (.t 80)),
 op 82 (.nck (.t 62)),
 op 83 (.off 0 (.t 82)),
 op 84 (.idx 9 1 (.t 83) (.t 63)),
 ⟨none, none, .st 1 (.t 84) (.t 81)⟩] [3, 4]) (
 .reg [] [3, 4]))))) (
 .reg [
 mv 37 4,
 op 38 (.bin .sub (.t 37) (.c (.i 1))),
 mv 4 38] [3, 4])))))) (
 .seq (
 .reg [
 mv 85 3,
 mv 2 85] [2]) (
 .ret)))))
def m_divide_of : MFn := ⟨c_divide_of, [.tmp 2], 0⟩

/-- curvet/nat.Small -/
def c_nat_Small : Stm :=
 .seq (
 .reg [
 op 2 (.box (.c (.agg [.u 64 0, .u 64 0, .u 64 0, .u 64 0, .u 64 0, .u 64 0, .u 64 0, .u 64 0, .u 64 0])))] [0, 2]) (
 .seq (
 .reg [
 mv 3 0,
 op 4 (.mx (.t 3) (.c (.i 0))),
 op 5 (.cvu 64 (.t 4)),
 op 6 (.build [.u 64 0, .u 64 0, .u 64 0, .u 64 0, .u 64 0, .u 64 0, .u 64 0, .u 64 0, .u 64 0] [(0, 1, (.t 5))]),
 op 7 (.build [.u 64 0, .u 64 0, .u 64 0, .u 64 0, .u 64 0, .u 64 0, .u 64 0, .u 64 0, .u 64 0] [(0, 9, (.t 6))]),
 ⟨none, none, .stl 2 9 (.t 2) (.t 7)⟩] [2]) (
 .ret))
def m_nat_Small : MFn := ⟨c_nat_Small, [.cell 2 (some 9)], 0⟩

/-- curvet/nat.Bits -/
def c_nat_Bits : Stm :=
 .seq (
 .reg [
 op 1 (.boxv (.t 0)),
 op 2 (.mov (.c (.i 0)))] [1]) (
 .seq (
 .reg [
 op 4 (.call f_nat_used [] [(.t 1)]),
 mv 3 4] [1, 3]) (
 .seq (
 .seq (
 .reg [
 mv 5 3,
 op 6 (.bin .eql (.t 5) (.c (.i 0)))] [1, 3, 6]) (
 .cond (.t 6) (
 .seq (
 .reg [
 op 2 (.mov (.c (.i 0)))] [2]) (
 .ret)) (
 .reg [] [1, 3]))) (
 .seq (
 .reg [
 mv 7 3,
 op 8 (.bin .sub (.t 7) (.c (.i 1))),
 op 9 (.bin .mul (.t 8) (.c (.i 64))),
 mv 10 3,
 op 11 (.bin .sub (.t 10) (.c (.i 1))),
 op 12 (.off 0 (.t 1)),
 op 13 (.idx 9 1 (.t 12) (.t 11)),
 op 14 (.ld true none (.t 13)),
 op 15 (.call f_bits_Len64 [] [(.t 14)]),
 op 16 (.bin .add (.t 9) (.t 15)),
 mv 2 16] [2]) (
 .ret))))
def m_nat_Bits : MFn := ⟨c_nat_Bits, [.tmp 2], 0⟩

/-- (*curvet/divide.divisor).divide -/
def c_divide_divisor_divide : Stm :=
 .seq (
 .reg [
 op 4 (.box (.c (.agg [.u 64 0, .u 64 0, .u 64 0, .u 64 0, .u 64 0, .u 64 0, .u 64 0, .u 64 0, .u 64 0, .u 64 0, .u 64 0, .u 64 0, .u 64 0, .u 64 0, .u 64 0, .u 64 0, .u 64 0, .u 64 0]))),
 op 5 (.box (.c (.agg [.u 64 0, .u 64 0, .u 64 0, .u 64 0, .u 64 0, .u 64 0, .u 64 0, .u 64 0, .u 64 0])))] [0, 1, 4, 5]) (
 .seq (
 .reg [
 op 6 (.boxh (.c (.agg [.u 64 0, .u 64 0, .u 64 0, .u 64 0, .u 64 0, .u 64 0, .u 64 0, .u 64 0, .u 64 0, .u 64 0, .u 64 0, .u 64 0, .u 64 0, .u 64 0, .u 64 0, .u 64 0, .u 64 0, .u 64 0, .u 64 0])))] [0, 1, 4, 5, 6]) (
 .seq (
 .reg [
 op 7 (.box (.c (.agg [.u 64 0, .u 64 0, .u 64 0, .u 64 0, .u 64 0, .u 64 0, .u 64 0, .u 64 0, .u 64 0, .u 64 0, .u 64 0, .u 64 0, .u 64 0, .u 64 0, .u 64 0, .u 64 0, .u 64 0, .u 64 0])))] [0, 1, 4, 5, 6, 7]) (
 .seq (
 .seq (
 .reg [
 mv 15 1,
 op 16 (.len (.t 15)),
 op 17 (.mov (.c (.i 0)))] [0, 1, 4, 5, 6, 7, 15, 16, 17]) (
 .block 0 (
 .loop [0, 1, 4, 5, 6, 7, 15, 16, 17] (
 .seq (
 .reg [
 op 18 (.bin .lss (.t 17) (.t 16))] [0, 1, 4, 5, 6, 7, 15, 16, 17, 18]) (
 .seq (
 .cond (.t 18) (
 .reg [] [0, 1, 4, 5, 6, 7, 15, 16, 17]) (
 .exit 0 [0, 1, 4, 5, 6, 7])) (
 .seq (
 .block 1 (
 .seq (
 .reg [
 mv 19 17,
 op 20 (.idxs 1 (.t 15) (.t 17)),
 op 21 (.ld false none (.t 20)),
 mv 8 19,
 mv 9 21] [0, 1, 4, 5, 6, 7, 8, 9, 15, 16, 17]) (
 .seq (
 .reg [
 mv 22 8,
 op 23 (.idx 19 1 (.t 6) (.t 22)),
 op 24 (.ld false none (.t 23)),
 mv 25 9,
 mv 26 0,
 op 27 (.nck (.t 26)),
 op 28 (.off 10 (.t 27)),
 op 29 (.ld false none (.t 28)),
 op 30 (.bin .shl (.t 25) (.t 29)),
 op 31 (.bin .or (.t 24) (.t 30)),
 op 32 (.idx 19 1 (.t 6) (.t 22)),
 ⟨none, none, .st 1 (.t 32) (.t 31)⟩] [0, 1, 4, 5, 6, 7, 8, 9, 15, 16, 17]) (
 .seq (
 .reg [
 mv 33 0,
 op 34 (.nck (.t 33)),
 op 35 (.off 10 (.t 34)),
 op 36 (.ld false none (.t 35)),
 op 37 (.bin .gtr (.t 36) (.c (.i 0)))] [0, 1, 4, 5, 6, 7, 8, 9, 15, 16, 17, 37]) (
 .cond (.t 37) (
 .reg [
 mv 38 8,
 op 39 (.bin .add (.t 38) (.c (.i 1))),
 mv 40 9,
 mv 41 0,
 op 42 (.nck (.t 41)),
 op 43 (.off 10 (.t 42)),
 op 44 (.ld false none (.t 43)),
 op 45 (.bin .sub (.c (.i 64)) (.t 44)),
 op 46 (.bin .shr (.t 40) (.t 45)),
 op 47 (.idx 19 1 (.t 6) (.t 39)),
 ⟨none, none, .st 1 (.t 47) (.t 46)⟩] [0, 1, 4, 5, 6, 7, 15, 16, 17]) (
 .reg [] [0, 1, 4, 5, 6, 7, 15, 16, 17])))))) (
 .reg [
 op 48 (.bin .add (.t 17) (.c (.i 1))),
 mv 17 48] [0, 1, 4, 5, 6, 7, 15, 16, 17]))))))) (
 .seq (
 .seq (
 .reg [
 mv 49 1,
 op 50 (.len (.t 49)),
 mv 51 0,
 op 52 (.nck (.t 51)),
 op 53 (.off 9 (.t 52)),
 op 54 (.ld false none (.t 53)),
 op 55 (.bin .sub (.t 50) (.t 54)),
 mv 10 55] [0, 4, 5, 6, 7, 10]) (
 .block 2 (
 .loop [0, 4, 5, 6, 7, 10] (
 .seq (
 .seq (
 .reg [
 mv 56 10,
 op 57 (.bin .geq (.t 56) (.c (.i 0)))] [0, 4, 5, 6, 7, 10, 57]) (
 .cond (.t 57) (
 .reg [] [0, 4, 5, 6, 7, 10]) (
 .exit 2 [0, 4, 5, 6, 7]))) (
 .seq (
 .block 3 (
 .seq (
 .reg [
 mv 60 0,
 op 61 (.sla false 19 1 (.t 6) none none),
 mv 62 10,
 op 63 (.call f_divide_divisor_guess [] [(.t 60), (.t 61), (.t 62)]),
 mv 11 63] [0, 4, 5, 6, 7, 10, 11]) (
 .seq (
 .seq (
 .reg [
 mv 64 0,
 op 65 (.sla false 19 1 (.t 6) none none),
 mv 66 10,
 mv 67 11,
 op 68 (.call f_divide_divisor_take [] [(.t 64), (.t 65), (.t 66), (.t 67)]),
 mv 12 68] [0, 4, 5, 6, 7, 10, 11, 12]) (
 .block 4 (
 .loop [0, 4, 5, 6, 7, 10, 11, 12] (
 .seq (
 .seq (
 .reg [
 mv 69 12] [0, 4, 5, 6, 7, 10, 11, 69]) (
 .cond (.t 69) (
 .reg [] [0, 4, 5, 6, 7, 10, 11]) (
 .exit 4 [0, 4, 5, 6, 7, 10, 11]))) (
 .seq (
 .block 5 (
 .reg [
 mv 75 11,
 op 76 (.bin .sub (.t 75) (.c (.u 64 1))),
 mv 11 76] [0, 4, 5, 6, 7, 10, 11])) (
 .reg [
 mv 70 0,
 op 71 (.sla false 19 1 (.t 6) none none),
 mv 72 10,
 op 73 (.call f_divide_divisor_back [] [(.t 70), (.t 71), (.t 72)]),
 op 74 (.un .not (.t 73)),
 mv 12 74] [0, 4, 5, 6, 7, 10, 11, 12])))))) (
 .reg [
 mv 77 10,
 mv 78 11,
 op 79 (.off 0 (.t 7)),
 op 80 (.idx 18 1 (.t 79) (.t 77)),
 ⟨none, none, .stl 7 1 (.t 80) (.t 78)⟩] [0, 4, 5, 6, 7, 10])))) (
 .reg [
 mv 58 10,
 op 59 (.bin .sub (.t 58) (.c (.i 1))),
 mv 10 59] [0, 4, 5, 6, 7, 10])))))) (
 .seq (
 .reg [
 op 13 (.box (.c (.agg [.u 64 0, .u 64 0, .u 64 0, .u 64 0, .u 64 0, .u 64 0, .u 64 0, .u 64 0, .u 64 0])))] [0, 4, 5, 6, 7, 13]) (
 .seq (
 .seq (
 .reg [
 mv 81 0,
 op 82 (.nck (.t 81)),
 op 83 (.off 9 (.t 82)),
 op 84 (.ld false none (.t 83)),
 op 85 (.mov (.c (.i 0)))] [0, 4, 5, 6, 7, 13, 84, 85]) (
 .block 6 (
 .loop [0, 4, 5, 6, 7, 13, 84, 85] (
 .seq (
 .reg [
 op 86 (.bin .lss (.t 85) (.t 84))] [0, 4, 5, 6, 7, 13, 84, 85, 86]) (
 .seq (
 .cond (.t 86) (
 .reg [] [0, 4, 5, 6, 7, 13, 84, 85]) (
 .exit 6 [4, 5, 7, 13])) (
 .seq (
 .block 7 (
 .seq (
 .reg [
 mv 87 85,
 mv 14 87] [0, 4, 5, 6, 7, 13, 14, 84, 85]) (
 .seq (
 .reg [
 mv 88 14,
 mv 89 14,
 op 90 (.idx 19 1 (.t 6) (.t 89)),
 op 91 (.ld false none (.t 90)),
 mv 92 0,
 op 93 (.nck (.t 92)),
 op 94 (.off 10 (.t 93)),
 op 95 (.ld false none (.t 94)),
 op 96 (.bin .shr (.t 91) (.t 95)),
 op 97 (.off 0 (.t 13)),
 op 98 (.idx 9 1 (.t 97) (.t 88)),
 ⟨none, none, .stl 13 1 (.t 98) (.t 96)⟩] [0, 4, 5, 6, 7, 13, 14, 84, 85]) (
 .seq (
 .reg [
 mv 99 0,
 op 100 (.nck (.t 99)),
 op 101 (.off 10 (.t 100)),
 op 102 (.ld false none (.t 101)),
 op 103 (.bin .gtr (.t 102) (.c (.i 0)))] [0, 4, 5, 6, 7, 13, 14, 84, 85, 103]) (
 .cond (.t 103) (
 .reg [
 mv 104 14,
 op 105 (.off 0 (.t 13)),
 op 106 (.idx 9 1 (.t 105) (.t 104)),
 op 107 (.ldl 13 none (.t 106)),
 mv 108 14,
 op 109 (.bin .add (.t 108) (.c (.i 1))),
 op 110 (.idx 19 1 (.t 6) (.t 109)),
 op 111 (.ld false none (.t 110)),
 mv 112 0,
 op 113 (.nck (.t 112)),
 op 114 (.off 10 (.t 113)),
 op 115 (.ld false none (.t 114)),
 op 116 (.bin .sub (.c (.i 64)) (.t 115)),
 op 117 (.bin .shl (.t 111) (.t 116)),
 op 118 (.bin .or (.t 107) (.t 117)),
 op 119 (.off 0 (.t 13)),
 op 120 (.idx 9 1 (.t 119) (.t 104)),
 ⟨none, none, .stl 13 1 (.t 120) (.t 118)⟩] [0, 4, 5, 6, 7, 13, 84, 85]) (
 .reg [] [0, 4, 5, 6, 7, 13, 84, 85])))))) (
 .reg [
 op 121 (.bin .add (.t 85) (.c (.i 1))),
 mv 85 121] [0, 4, 5, 6, 7, 13, 84, 85]))))))) (
 .seq (
 .reg [
 op 122 (.ldl 7 (some 18) (.t 7)),
 op 123 (.ldl 13 (some 9) (.t 13)),
 ⟨none, none, .stl 4 18 (.t 4) (.t 122)⟩,
 ⟨none, none, .stl 5 9 (.t 5) (.t 123)⟩] [4, 5]) (
 .ret))))))))
def m_divide_divisor_divide : MFn := ⟨c_divide_divisor_divide, [.cell 4 (some 18), .cell 5 (some 9)], 0⟩

/-- curvet/divide.Div -/
def c_divide_Div : Stm :=
 .seq (
 .reg [
 op 2 (.boxv (.t 0)),
 op 3 (.boxv (.t 1)),
 op 4 (.box (.c (.agg [.u 64 0, .u 64 0, .u 64 0, .u 64 0, .u 64 0, .u 64 0, .u 64 0, .u 64 0, .u 64 0]))),
 op 5 (.box (.c (.agg [.u 64 0, .u 64 0, .u 64 0, .u 64 0, .u 64 0, .u 64 0, .u 64 0, .u 64 0, .u 64 0]))),
 op 6 (.mov (.c (.i 0)))] [2, 3, 4, 5]) (
 .seq (
 .seq (
 .reg [
 op 9 (.call f_divide_zero [] [(.t 3)])] [2, 3, 4, 5, 9]) (
 .cond (.t 9) (
 .seq (
 .reg [
 op 10 (.build [.u 64 0, .u 64 0, .u 64 0, .u 64 0, .u 64 0, .u 64 0, .u 64 0, .u 64 0, .u 64 0] []),
 op 11 (.build [.u 64 0, .u 64 0, .u 64 0, .u 64 0, .u 64 0, .u 64 0, .u 64 0, .u 64 0, .u 64 0] []),
 ⟨none, none, .stl 4 9 (.t 4) (.t 10)⟩,
 ⟨none, none, .stl 5 9 (.t 5) (.t 11)⟩,
 op 6 (.mov (.c (.i 400)))] [4, 5, 6]) (
 .ret)) (
 .reg [] [2, 3, 4, 5]))) (
 .seq (
 .reg [
 op 13 (.call f_divide_of [] [(.t 3)]),
 op 14 (.off 0 (.t 2)),
 op 15 (.sla true 9 1 (.t 14) none none),
 op 16 (.call f_divide_divisor_divide [] [(.t 13), (.t 15)]),
 mv 12 16,
 op 17 (.ext 0 (.t 12)),
 op 18 (.ext 1 (.t 12)),
 op 7 (.box (.c (.agg [.u 64 0, .u 64 0, .u 64 0, .u 64 0, .u 64 0, .u 64 0, .u 64 0, .u 64 0, .u 64 0, .u 64 0, .u 64 0, .u 64 0, .u 64 0, .u 64 0, .u 64 0, .u 64 0, .u 64 0, .u 64 0]))),
 op 8 (.box (.c (.agg [.u 64 0, .u 64 0, .u 64 0, .u 64 0, .u 64 0, .u 64 0, .u 64 0, .u 64 0, .u 64 0]))),
 ⟨none, none, .stl 7 18 (.t 7) (.t 17)⟩,
 ⟨none, none, .stl 8 9 (.t 8) (.t 18)⟩] [4, 5, 7, 8]) (
 .seq (
 .reg [
 op 19 (.off 0 (.t 7)),
 op 20 (.sla true 18 1 (.t 19) none (some (.c (.i 9)))),
 op 21 (.s2a 9 (.t 20)),
 op 22 (.ldl 7 (some 9) (.t 21)),
 op 23 (.build [.u 64 0, .u 64 0, .u 64 0, .u 64 0, .u 64 0, .u 64 0, .u 64 0, .u 64 0, .u 64 0] [(0, 9, (.t 22))]),
 op 24 (.ldl 8 (some 9) (.t 8)),
 ⟨none, none, .stl 4 9 (.t 4) (.t 23)⟩,
 ⟨none, none, .stl 5 9 (.t 5) (.t 24)⟩,
 op 6 (.mov (.c (.i 0)))] [4, 5, 6]) (
 .ret))))
def m_divide_Div : MFn := ⟨c_divide_Div, [.cell 4 (some 9), .cell 5 (some 9), .tmp 6], 0⟩

/-- curvet/nat.Shr -/
def c_nat_Shr : Stm :=
 .seq (
 .reg [
 op 2 (.boxv (.t 0)),
 op 4 (.box (.c (.agg [.u 64 0, .u 64 0, .u 64 0, .u 64 0, .u 64 0, .u 64 0, .u 64 0, .u 64 0, .u 64 0]))),
 op 5 (.mov (.c (.i 0)))] [1, 2, 4]) (
 .seq (
 .seq (
 .reg [
 mv 10 1,
 op 11 (.bin .lss (.t 10) (.c (.i 0))),
 mv 12 11,
 ⟨some 13, (some (12, false)), .mov (.t 1)⟩,
 ⟨some 14, (some (12, false)), .bin .gtr (.t 13) (.c (.i 576))⟩,
 op 15 (.pick (.t 12) (.c (.b true)) (.t 14))] [1, 2, 4, 15]) (
 .cond (.t 15) (
 .seq (
 .reg [
 op 16 (.build [.u 64 0, .u 64 0, .u 64 0, .u 64 0, .u 64 0, .u 64 0, .u 64 0, .u 64 0, .u 64 0] []),
 ⟨none, none, .stl 4 9 (.t 4) (.t 16)⟩,
 op 5 (.mov (.c (.i 102)))] [4, 5]) (
 .ret)) (
 .reg [] [1, 2, 4]))) (
 .seq (
 .reg [
 op 6 (.box (.c (.agg [.u 64 0, .u 64 0, .u 64 0, .u 64 0, .u 64 0, .u 64 0, .u 64 0, .u 64 0, .u 64 0])))] [1, 2, 4, 6]) (
 .seq (
 .reg [
 mv 17 1,
 op 18 (.bin .quo (.t 17) (.c (.i 64))),
 mv 19 1,
 op 20 (.bin .rem (.t 19) (.c (.i 64))),
 mv 7 18,
 mv 8 20] [2, 4, 6, 7, 8]) (
 .seq (
 .seq (
 .reg [
 mv 21 7,
 op 22 (.bin .sub (.c (.i 9)) (.t 21)),
 op 23 (.mov (.c (.i 0)))] [2, 4, 6, 7, 8, 22, 23]) (
 .block 0 (
 .loop [2, 4, 6, 7, 8, 22, 23] (
 .seq (
 .reg [
 op 24 (.bin .lss (.t 23) (.t 22))] [2, 4, 6, 7, 8, 22, 23, 24]) (
 .seq (
 .cond (.t 24) (
 .reg [] [2, 4, 6, 7, 8, 22, 23]) (
 .exit 0 [4, 6])) (
 .seq (
 .block 1 (
 .seq (
 .reg [
 mv 25 23,
 mv 9 25] [2, 4, 6, 7, 8, 9, 22, 23]) (
 .seq (
 .reg [
 mv 26 9,
 mv 27 9,
 mv 28 7,
 op 29 (.bin .add (.t 27) (.t 28)),
 op 30 (.off 0 (.t 2)),
 op 31 (.idx 9 1 (.t 30) (.t 29)),
 op 32 (.ld true none (.t 31)),
 mv 33 8,
 op 34 (.bin .shr (.t 32) (.t 33)),
 op 35 (.off 0 (.t 6)),
 op 36 (.idx 9 1 (.t 35) (.t 26)),
 ⟨none, none, .stl 6 1 (.t 36) (.t 34)⟩] [2, 4, 6, 7, 8, 9, 22, 23]) (
 .seq (
 .reg [
 mv 37 9,
 mv 38 7,
 op 39 (.bin .add (.t 37) (.t 38)),
 op 40 (.bin .add (.t 39) (.c (.i 1))),
 op 41 (.bin .lss (.t 40) (.c (.i 9)))] [2, 4, 6, 7, 8, 9, 22, 23, 41]) (
 .cond (.t 41) (
 .reg [
 mv 42 9,
 op 43 (.off 0 (.t 6)),
 op 44 (.idx 9 1 (.t 43) (.t 42)),
 op 45 (.ldl 6 none (.t 44)),
 mv 46 9,
 mv 47 7,
 op 48 (.bin .add (.t 46) (.t 47)),
 op 49 (.bin .add (.t 48) (.c (.i 1))),
 op 50 (.off 0 (.t 2)),
 op 51 (.idx 9 1 (.t 50) (.t 49)),
 op 52 (.ld true none (.t 51)),
 mv 53 8,
 op 54 (.bin .sub (.c (.i 64)) (.t 53)),
 op 55 (.bin .shl (.t 52) (.t 54)),
 op 56 (.bin .or (.t 45) (.t 55)),
 op 57 (.off 0 (.t 6)),
 op 58 (.idx 9 1 (.t 57) (.t 42)),
 ⟨none, none, .stl 6 1 (.t 58) (.t 56)⟩] [2, 4, 6, 7, 8, 22, 23]) (
 .reg [] [2, 4, 6, 7, 8, 22, 23])))))) (
 .reg [
 op 59 (.bin .add (.t 23) (.c (.i 1))),
 mv 23 59] [2, 4, 6, 7, 8, 22, 23]))))))) (
 .seq (
 .reg [
 op 60 (.ldl 6 (some 9) (.t 6)),
 ⟨none, none, .stl 4 9 (.t 4) (.t 60)⟩,
 op 5 (.mov (.c (.i 0)))] [4, 5]) (
 .ret))))))
def m_nat_Shr : MFn := ⟨c_nat_Shr, [.cell 4 (some 9), .tmp 5], 0⟩

/-- curvet/divide.length -/
def c_divide_length : Stm :=
 .seq (
 .reg [
 op 2 (.mov (.c (.i 0)))] [0]) (
 .seq (
 .reg [
 mv 4 0,
 op 5 (.len (.t 4)),
 mv 3 5] [0, 3]) (
 .seq (
 .block 0 (
 .loop [0, 3] (
 .seq (
 .seq (
 .reg [
 mv 6 3,
 op 7 (.bin .gtr (.t 6) (.c (.i 0))),
 mv 8 7,
 ⟨some 9, (some (8, true)), .mov (.t 0)⟩,
 ⟨some 10, (some (8, true)), .mov (.t 3)⟩,
 ⟨some 11, (some (8, true)), .bin .sub (.t 10) (.c (.i 1))⟩,
 ⟨some 12, (some (8, true)), .idxs 1 (.t 9) (.t 11)⟩,
 ⟨some 13, (some (8, true)), .ld false none (.t 12)⟩,
 ⟨some 14, (some (8, true)), .bin .eql (.t 13) (.c (.u 64 0))⟩,
 op 15 (.pick (.t 8) (.t 14) (.c (.b false)))] [0, 3, 15]) (
 .cond (.t 15) (
 .reg [] [0, 3]) (
 .exit 0 [3]))) (
 .block 1 (
 .reg [
 mv 16 3,
 op 17 (.bin .sub (.t 16) (.c (.i 1))),
 mv 3 17] [0, 3]))))) (
 .seq (
 .reg [
 mv 18 3,
 mv 2 18] [2]) (
 .ret))))
def m_divide_length : MFn := ⟨c_divide_length, [.tmp 2], 0⟩

/-- math/bits.LeadingZeros64 -/
def c_bits_LeadingZeros64 : Stm :=
 .seq (
 .reg [
 op 2 (.mov (.c (.i 0)))] [0]) (
 .seq (
 .reg [
 mv 3 0,
 op 4 (.call f_bits_Len64 [] [(.t 3)]),
 op 5 (.bin .sub (.c (.i 64)) (.t 4)),
 mv 2 5] [2]) (
 .ret))
def m_bits_LeadingZeros64 : MFn := ⟨c_bits_LeadingZeros64, [.tmp 2], 0⟩

/-- math/bits.Len64 -/
def c_bits_Len64 : Stm :=
 .seq (
 .reg [
 op 2 (.mov (.c (.i 0)))] [0, 2]) (
 .seq (
 .seq (
 .reg [
 mv 3 0,
 op 4 (.bin .geq (.t 3) (.c (.u 64 4294967296)))] [0, 2, 4]) (
 .cond (.t 4) (
 .seq (
 .reg [
 mv 5 0,
 op 6 (.bin .shr (.t 5) (.c (.u 64 32))),
 mv 0 6] [0]) (
 .reg [
 op 2 (.mov (.c (.i 32)))] [0, 2])) (
 .reg [] [0, 2]))) (
 .seq (
 .seq (
 .reg [
 mv 7 0,
 op 8 (.bin .geq (.t 7) (.c (.u 64 65536)))] [0, 2, 8]) (
 .cond (.t 8) (
 .seq (
 .reg [
 mv 9 0,
 op 10 (.bin .shr (.t 9) (.c (.u 64 16))),
 mv 0 10] [0, 2]) (
 .reg [
 mv 11 2,
 op 12 (.bin .add (.t 11) (.c (.i 16))),
 mv 2 12] [0, 2])) (
 .reg [] [0, 2]))) (
 .seq (
 .seq (
 .reg [
 mv 13 0,
 op 14 (.bin .geq (.t 13) (.c (.u 64 256)))] [0, 2, 14]) (
 .cond (.t 14) (
 .seq (
 .reg [
 mv 15 0,
 op 16 (.bin .shr (.t 15) (.c (.u 64 8))),
 mv 0 16] [0, 2]) (
 .reg [
 mv 17 2,
 op 18 (.bin .add (.t 17) (.c (.i 8))),
 mv 2 18] [0, 2])) (
 .reg [] [0, 2]))) (
 .seq (
 .reg [
 mv 19 2,
 mv 20 0,
 op 21 (.cvu 8 (.t 20)),
 op 22 (.idxb (.c (.s [0, 1, 2, 2, 3, 3, 3, 3, 4, 4, 4, 4, 4, 4, 4, 4, 5, 5, 5, 5, 5, 5, 5, 5, 5, 5, 5, 5, 5, 5, 5, 5, 6, 6, 6, 6, 6, 6, 6, 6, 6, 6, 6, 6, 6, 6, 6, 6, 6, 6, 6, 6, 6, 6, 6, 6, 6, 6, 6, 6, 6, 6, 6, 6, 7, 7, 7, 7, 7, 7, 7, 7, 7, 7, 7, 7, 7, 7, 7, 7, 7, 7, 7, 7, 7, 7, 7, 7, 7, 7, 7, 7, 7, 7, 7, 7, 7, 7, 7, 7, 7, 7, 7, 7, 7, 7, 7, 7, 7, 7, 7, 7, 7, 7, 7, 7, 7, 7, 7, 7, 7, 7, 7, 7, 7, 7, 7, 7, 8, 8, 8, 8, 8, 8, 8, 8, 8, 8, 8, 8, 8, 8, 8, 8, 8, 8, 8, 8, 8, 8, 8, 8, 8, 8, 8, 8, 8, 8, 8, 8, 8, 8, 8, 8, 8, 8, 8, 8, 8, 8, 8, 8, 8, 8, 8, 8, 8, 8, 8, 8, 8, 8, 8, 8, 8, 8, 8, 8, 8, 8, 8, 8, 8, 8, 8, 8, 8, 8, 8, 8, 8, 8, 8, 8, 8, 8, 8, 8, 8, 8, 8, 8, 8, 8, 8, 8, 8, 8, 8, 8, 8, 8, 8, 8, 8, 8, 8, 8, 8, 8, 8, 8, 8, 8, 8, 8, 8, 8, 8, 8, 8, 8, 8, 8, 8, 8, 8, 8, 8, 8, 8, 8, 8, 8, 8, 8])) (.t 21)),
 op 23 (.cvi (.t 22)),
 op 24 (.bin .add (.t 19) (.t 23)),
 mv 2 24] [2]) (
 .ret)))))
def m_bits_Len64 : MFn := ⟨c_bits_Len64, [.tmp 2], 0⟩

/-- (*curvet/divide.divisor).guess -/
def c_divide_divisor_guess : Stm :=
 .seq (
 .reg [
 op 6 (.mov (.c (.u 64 0)))] [0, 1, 2]) (
 .seq (
 .reg [
 mv 15 0,
 mv 16 0,
 op 17 (.nck (.t 16)),
 op 18 (.off 9 (.t 17)),
 op 19 (.ld false none (.t 18)),
 op 20 (.bin .sub (.t 19) (.c (.i 1))),
 op 21 (.nck (.t 15)),
 op 22 (.off 0 (.t 21)),
 op 23 (.idx 9 1 (.t 22) (.t 20)),
 op 24 (.ld false none (.t 23)),
 mv 7 24] [0, 1, 2, 7]) (
 .seq (
 .reg [
 mv 25 1,
 mv 26 2,
 mv 27 0,
 op 28 (.nck (.t 27)),
 op 29 (.off 9 (.t 28)),
 op 30 (.ld false none (.t 29)),
 op 31 (.bin .add (.t 26) (.t 30)),
 op 32 (.idxs 1 (.t 25) (.t 31)),
 op 33 (.ld false none (.t 32)),
 mv 34 1,
 mv 35 2,
 mv 36 0,
 op 37 (.nck (.t 36)),
 op 38 (.off 9 (.t 37)),
 op 39 (.ld false none (.t 38)),
 op 40 (.bin .add (.t 35) (.t 39)),
 op 41 (.bin .sub (.t 40) (.c (.i 1))),
 op 42 (.idxs 1 (.t 34) (.t 41)),
 op 43 (.ld false none (.t 42)),
 mv 8 33,
 mv 9 43] [0, 1, 2, 7, 8, 9]) (
 .seq (
 .seq (
 .reg [
 mv 44 8,
 mv 45 7,
 op 46 (.bin .geq (.t 44) (.t 45))] [0, 1, 2, 7, 8, 9, 46]) (
 .cond (.t 46) (
 .seq (
 .reg [
 op 6 (.mov (.c (.u 64 18446744073709551615)))] [6]) (
 .ret)) (
 .reg [] [0, 1, 2, 7, 8, 9]))) (
 .seq (
 .reg [
 mv 48 8,
 mv 49 9,
 mv 50 7,
 op 51 (.call f_bits_Div64 [] [(.t 48), (.t 49), (.t 50)]),
 mv 47 51,
 op 52 (.ext 0 (.t 47)),
 op 53 (.ext 1 (.t 47)),
 mv 10 52,
 mv 11 53] [0, 1, 2, 7, 10, 11]) (
 .seq (
 .seq (
 .reg [
 mv 54 0,
 op 55 (.nck (.t 54)),
 op 56 (.off 9 (.t 55)),
 op 57 (.ld false none (.t 56)),
 op 58 (.bin .eql (.t 57) (.c (.i 1)))] [0, 1, 2, 7, 10, 11, 58]) (
 .cond (.t 58) (
 .seq (
 .reg [
 mv 59 10,
 mv 6 59] [6]) (
 .ret)) (
 .reg [] [0, 1, 2, 7, 10, 11]))) (
 .block 0 (
 .loop [0, 1, 2, 7, 10, 11] (
 .block 1 (
 .seq (
 .reg [
 mv 61 10,
 mv 62 0,
 mv 63 0,
 op 64 (.nck (.t 63)),
 op 65 (.off 9 (.t 64)),
 op 66 (.ld false none (.t 65)),
 op 67 (.bin .sub (.t 66) (.c (.i 2))),
 op 68 (.nck (.t 62)),
 op 69 (.off 0 (.t 68)),
 op 70 (.idx 9 1 (.t 69) (.t 67)),
 op 71 (.ld false none (.t 70)),
 op 72 (.call f_bits_Mul64 [] [(.t 61), (.t 71)]),
 mv 60 72,
 op 73 (.ext 0 (.t 60)),
 op 74 (.ext 1 (.t 60)),
 mv 12 73,
 mv 13 74] [0, 1, 2, 7, 10, 11, 12, 13]) (
 .seq (
 .seq (
 .reg [
 mv 75 12,
 mv 76 11,
 op 77 (.bin .lss (.t 75) (.t 76)),
 mv 78 77,
 ⟨some 79, (some (78, false)), .mov (.t 12)⟩,
 ⟨some 80, (some (78, false)), .mov (.t 11)⟩,
 ⟨some 81, (some (78, false)), .bin .eql (.t 79) (.t 80)⟩,
 ⟨some 82, (some (78, false)), .mov (.t 81)⟩,
 ⟨some 83, (some (82, true)), .mov (.t 13)⟩,
 ⟨some 84, (some (82, true)), .mov (.t 1)⟩,
 ⟨some 85, (some (82, true)), .mov (.t 2)⟩,
 ⟨some 86, (some (82, true)), .mov (.t 0)⟩,
 ⟨some 87, (some (82, true)), .nck (.t 86)⟩,
 ⟨some 88, (some (82, true)), .off 9 (.t 87)⟩,
 ⟨some 89, (some (82, true)), .ld false none (.t 88)⟩,
 ⟨some 90, (some (82, true)), .bin .add (.t 85) (.t 89)⟩,
 ⟨some 91, (some (82, true)), .bin .sub (.t 90) (.c (.i 2))⟩,
 ⟨some 92, (some (82, true)), .idxs 1 (.t 84) (.t 91)⟩,
 ⟨some 93, (some (82, true)), .ld false none (.t 92)⟩,
 ⟨some 94, (some (82, true)), .bin .leq (.t 83) (.t 93)⟩,
 ⟨some 95, (some (78, false)), .pick (.t 82) (.t 94) (.c (.b false))⟩,
 op 96 (.pick (.t 78) (.c (.b true)) (.t 95))] [0, 1, 2, 7, 10, 11, 96]) (
 .cond (.t 96) (
 .seq (
 .reg [
 mv 97 10,
 mv 6 97] [6]) (
 .ret)) (
 .reg [] [0, 1, 2, 7, 10, 11]))) (
 .seq (
 .reg [
 mv 98 10,
 op 99 (.bin .sub (.t 98) (.c (.u 64 1))),
 mv 10 99] [0, 1, 2, 7, 10, 11]) (
 .seq (
 .reg [
 mv 100 11,
 mv 101 7,
 op 102 (.bin .add (.t 100) (.t 101)),
 mv 14 102] [0, 1, 2, 7, 10, 11, 14]) (
 .seq (
 .seq (
 .reg [
 mv 103 14,
 mv 104 11,
 op 105 (.bin .lss (.t 103) (.t 104))] [0, 1, 2, 7, 10, 14, 105]) (
 .cond (.t 105) (
 .seq (
 .reg [
 mv 106 10,
 mv 6 106] [6]) (
 .ret)) (
 .reg [] [0, 1, 2, 7, 10, 14]))) (
 .reg [
 mv 107 14,
 mv 11 107] [0, 1, 2, 7, 10, 11]))))))))))))))
def m_divide_divisor_guess : MFn := ⟨c_divide_divisor_guess, [.tmp 6], 0⟩

/-- (*curvet/divide.divisor).take -/
def c_divide_divisor_take : Stm :=
 .seq (
 .reg [
 op 8 (.mov (.c (.b false)))] [0, 1, 2, 3]) (
 .seq (
 .reg [
 op 9 (.mov (.c (.u 64 0))),
 op 10 (.mov (.c (.u 64 0)))] [0, 1, 2, 3, 9, 10]) (
 .seq (
 .seq (
 .reg [
 mv 15 0,
 op 16 (.nck (.t 15)),
 op 17 (.off 9 (.t 16)),
 op 18 (.ld false none (.t 17)),
 op 19 (.mov (.c (.i 0)))] [0, 1, 2, 3, 9, 10, 18, 19]) (
 .block 0 (
 .loop [0, 1, 2, 3, 9, 10, 18, 19] (
 .seq (
 .reg [
 op 20 (.bin .lss (.t 19) (.t 18))] [0, 1, 2, 3, 9, 10, 18, 19, 20]) (
 .seq (
 .cond (.t 20) (
 .reg [] [0, 1, 2, 3, 9, 10, 18, 19]) (
 .exit 0 [0, 1, 2, 9, 10])) (
 .seq (
 .block 1 (
 .seq (
 .reg [
 mv 21 19,
 mv 11 21] [0, 1, 2, 3, 9, 10, 11, 18, 19]) (
 .seq (
 .reg [
 mv 23 3,
 mv 24 0,
 mv 25 11,
 op 26 (.nck (.t 24)),
 op 27 (.off 0 (.t 26)),
 op 28 (.idx 9 1 (.t 27) (.t 25)),
 op 29 (.ld false none (.t 28)),
 op 30 (.call f_bits_Mul64 [] [(.t 23), (.t 29)]),
 mv 22 30,
 op 31 (.ext 0 (.t 22)),
 op 32 (.ext 1 (.t 22)),
 mv 12 31,
 mv 13 32] [0, 1, 2, 3, 9, 10, 11, 12, 13, 18, 19]) (
 .seq (
 .reg [
 op 14 (.mov (.c (.u 64 0)))] [0, 1, 2, 3, 9, 10, 11, 12, 13, 18, 19]) (
 .seq (
 .reg [
 mv 34 13,
 mv 35 10,
 op 36 (.prim .add64 [(.t 34), (.t 35), (.c (.u 64 0))]),
 mv 33 36,
 op 37 (.ext 0 (.t 33)),
 op 38 (.ext 1 (.t 33)),
 mv 13 37,
 mv 14 38] [0, 1, 2, 3, 9, 11, 12, 13, 14, 18, 19]) (
 .seq (
 .reg [
 mv 39 12,
 mv 40 14,
 op 41 (.bin .add (.t 39) (.t 40)),
 mv 10 41] [0, 1, 2, 3, 9, 10, 11, 13, 18, 19]) (
 .reg [
 mv 43 1,
 mv 44 2,
 mv 45 11,
 op 46 (.bin .add (.t 44) (.t 45)),
 mv 47 1,
 mv 48 2,
 mv 49 11,
 op 50 (.bin .add (.t 48) (.t 49)),
 op 51 (.idxs 1 (.t 47) (.t 50)),
 op 52 (.ld false none (.t 51)),
 mv 53 13,
 mv 54 9,
 op 55 (.prim .sub64 [(.t 52), (.t 53), (.t 54)]),
 mv 42 55,
 op 56 (.ext 0 (.t 42)),
 op 57 (.ext 1 (.t 42)),
 op 58 (.idxs 1 (.t 43) (.t 46)),
 ⟨none, none, .st 1 (.t 58) (.t 56)⟩,
 mv 9 57] [0, 1, 2, 3, 9, 10, 18, 19]))))))) (
 .reg [
 op 59 (.bin .add (.t 19) (.c (.i 1))),
 mv 19 59] [0, 1, 2, 3, 9, 10, 18, 19]))))))) (
 .seq (
 .reg [
 mv 61 1,
 mv 62 2,
 mv 63 0,
 op 64 (.nck (.t 63)),
 op 65 (.off 9 (.t 64)),
 op 66 (.ld false none (.t 65)),
 op 67 (.bin .add (.t 62) (.t 66)),
 mv 68 1,
 mv 69 2,
 mv 70 0,
 op 71 (.nck (.t 70)),
 op 72 (.off 9 (.t 71)),
 op 73 (.ld false none (.t 72)),
 op 74 (.bin .add (.t 69) (.t 73)),
 op 75 (.idxs 1 (.t 68) (.t 74)),
 op 76 (.ld false none (.t 75)),
 mv 77 10,
 mv 78 9,
 op 79 (.prim .sub64 [(.t 76), (.t 77), (.t 78)]),
 mv 60 79,
 op 80 (.ext 0 (.t 60)),
 op 81 (.ext 1 (.t 60)),
 op 82 (.idxs 1 (.t 61) (.t 67)),
 ⟨none, none, .st 1 (.t 82) (.t 80)⟩,
 mv 9 81] [9]) (
 .seq (
 .reg [
 mv 83 9,
 op 84 (.bin .eql (.t 83) (.c (.u 64 1))),
 mv 8 84] [8]) (
 .ret)))))
def m_divide_divisor_take : MFn := ⟨c_divide_divisor_take, [.tmp 8], 0⟩

/-- (*curvet/divide.divisor).back -/
def c_divide_divisor_back : Stm :=
 .seq (
 .reg [
 op 6 (.mov (.c (.b false)))] [0, 1, 2]) (
 .seq (
 .reg [
 op 7 (.mov (.c (.u 64 0)))] [0, 1, 2, 7]) (
 .seq (
 .seq (
 .reg [
 mv 9 0,
 op 10 (.nck (.t 9)),
 op 11 (.off 9 (.t 10)),
 op 12 (.ld false none (.t 11)),
 op 13 (.mov (.c (.i 0)))] [0, 1, 2, 7, 12, 13]) (
 .block 0 (
 .loop [0, 1, 2, 7, 12, 13] (
 .seq (
 .reg [
 op 14 (.bin .lss (.t 13) (.t 12))] [0, 1, 2, 7, 12, 13, 14]) (
 .seq (
 .cond (.t 14) (
 .reg [] [0, 1, 2, 7, 12, 13]) (
 .exit 0 [0, 1, 2, 7])) (
 .seq (
 .block 1 (
 .seq (
 .reg [
 mv 15 13,
 mv 8 15] [0, 1, 2, 7, 8, 12, 13]) (
 .reg [
 mv 17 1,
 mv 18 2,
 mv 19 8,
 op 20 (.bin .add (.t 18) (.t 19)),
 mv 21 1,
 mv 22 2,
 mv 23 8,
 op 24 (.bin .add (.t 22) (.t 23)),
 op 25 (.idxs 1 (.t 21) (.t 24)),
 op 26 (.ld false none (.t 25)),
 mv 27 0,
 mv 28 8,
 op 29 (.nck (.t 27)),
 op 30 (.off 0 (.t 29)),
 op 31 (.idx 9 1 (.t 30) (.t 28)),
 op 32 (.ld false none (.t 31)),
 mv 33 7,
 op 34 (.prim .add64 [(.t 26), (.t 32), (.t 33)]),
 mv 16 34,
 op 35 (.ext 0 (.t 16)),
 op 36 (.ext 1 (.t 16)),
 op 37 (.idxs 1 (.t 17) (.t 20)),
 ⟨none, none, .st 1 (.t 37) (.t 35)⟩,
 mv 7 36] [0, 1, 2, 7, 12, 13]))) (
 .reg [
 op 38 (.bin .add (.t 13) (.c (.i 1))),
 mv 13 38] [0, 1, 2, 7, 12, 13]))))))) (
 .seq (
 .reg [
 mv 40 1,
 mv 41 2,
 mv 42 0,
 op 43 (.nck (.t 42)),
 op 44 (.off 9 (.t 43)),
 op 45 (.ld false none (.t 44)),
 op 46 (.bin .add (.t 41) (.t 45)),
 mv 47 1,
 mv 48 2,
 mv 49 0,
 op 50 (.nck (.t 49)),
 op 51 (.off 9 (.t 50)),
 op 52 (.ld false none (.t 51)),
 op 53 (.bin .add (.t 48) (.t 52)),
 op 54 (.idxs 1 (.t 47) (.t 53)),
 op 55 (.ld false none (.t 54)),
 mv 56 7,
 op 57 (.prim .add64 [(.t 55), (.c (.u 64 0)), (.t 56)]),
 mv 39 57,
 op 58 (.ext 0 (.t 39)),
 op 59 (.ext 1 (.t 39)),
 op 60 (.idxs 1 (.t 40) (.t 46)),
 ⟨none, none, .st 1 (.t 60) (.t 58)⟩,
 mv 7 59] [7]) (
 .seq (
 .reg [
 mv 61 7,
 op 62 (.bin .eql (.t 61) (.c (.u 64 1))),
 mv 6 62] [6]) (
 .ret)))))
def m_divide_divisor_back : MFn := ⟨c_divide_divisor_back, [.tmp 6], 0⟩

/-- math/bits.Div64 -/
def c_bits_Div64 : Stm :=
 .seq (
 .reg [
 op 6 (.mov (.c (.u 64 0))),
 op 7 (.mov (.c (.u 64 0)))] [0, 1, 2]) (
 .seq (
 .seq (
 .reg [
 mv 19 2,
 op 20 (.bin .eql (.t 19) (.c (.u 64 0)))] [0, 1, 2, 20]) (
 .cond (.t 20) (
 .reg [
 op 21 (.fail),
 ⟨none, none, .fail⟩] [0, 1, 2]) (
 .reg [] [0, 1, 2]))) (
 .seq (
 .seq (
 .reg [
 mv 22 2,
 mv 23 0,
 op 24 (.bin .leq (.t 22) (.t 23))] [0, 1, 2, 24]) (
 .cond (.t 24) (
 .reg [
 op 25 (.fail),
 ⟨none, none, .fail⟩] [0, 1, 2]) (
 .reg [] [0, 1, 2]))) (
 .seq (
 .seq (
 .reg [
 mv 26 0,
 op 27 (.bin .eql (.t 26) (.c (.u 64 0)))] [0, 1, 2, 27]) (
 .cond (.t 27) (
 .seq (
 .reg [
 mv 28 1,
 mv 29 2,
 op 30 (.bin .quo (.t 28) (.t 29)),
 mv 31 1,
 mv 32 2,
 op 33 (.bin .rem (.t 31) (.t 32)),
 mv 6 30,
 mv 7 33] [6, 7]) (
 .ret)) (
 .reg [] [0, 1, 2]))) (
 .seq (
 .reg [
 mv 34 2,
 op 35 (.call f_bits_LeadingZeros64 [] [(.t 34)]),
 op 36 (.cvu 64 (.t 35)),
 mv 8 36] [0, 1, 2, 8]) (
 .seq (
 .reg [
 mv 37 2,
 mv 38 8,
 op 39 (.bin .shl (.t 37) (.t 38)),
 mv 2 39] [0, 1, 2, 8]) (
 .seq (
 .reg [
 mv 40 2,
 op 41 (.bin .shr (.t 40) (.c (.u 64 32))),
 mv 9 41] [0, 1, 2, 8, 9]) (
 .seq (
 .reg [
 mv 42 2,
 op 43 (.bin .and (.t 42) (.c (.u 64 4294967295))),
 mv 10 43] [0, 1, 2, 8, 9, 10]) (
 .seq (
 .reg [
 mv 44 0,
 mv 45 8,
 op 46 (.bin .shl (.t 44) (.t 45)),
 mv 47 1,
 mv 48 8,
 op 49 (.bin .sub (.c (.u 64 64)) (.t 48)),
 op 50 (.bin .shr (.t 47) (.t 49)),
 op 51 (.bin .or (.t 46) (.t 50)),
 mv 11 51] [1, 2, 8, 9, 10, 11]) (
 .seq (
 .reg [
 mv 52 1,
 mv 53 8,
 op 54 (.bin .shl (.t 52) (.t 53)),
 mv 12 54] [2, 8, 9, 10, 11, 12]) (
 .seq (
 .reg [
 mv 55 12,
 op 56 (.bin .shr (.t 55) (.c (.u 64 32))),
 mv 13 56] [2, 8, 9, 10, 11, 12, 13]) (
 .seq (
 .reg [
 mv 57 12,
 op 58 (.bin .and (.t 57) (.c (.u 64 4294967295))),
 mv 14 58] [2, 8, 9, 10, 11, 13, 14]) (
 .seq (
 .reg [
 mv 59 11,
 mv 60 9,
 op 61 (.bin .quo (.t 59) (.t 60)),
 mv 15 61] [2, 8, 9, 10, 11, 13, 14, 15]) (
 .seq (
 .reg [
 mv 62 11,
 mv 63 15,
 mv 64 9,
 op 65 (.bin .mul (.t 63) (.t 64)),
 op 66 (.bin .sub (.t 62) (.t 65)),
 mv 16 66] [2, 8, 9, 10, 11, 13, 14, 15, 16]) (
 .seq (
 .block 0 (
 .loop [2, 8, 9, 10, 11, 13, 14, 15, 16] (
 .seq (
 .seq (
 .reg [
 mv 67 15,
 op 68 (.bin .geq (.t 67) (.c (.u 64 4294967296))),
 mv 69 68,
 ⟨some 70, (some (69, false)), .mov (.t 15)⟩,
 ⟨some 71, (some (69, false)), .mov (.t 10)⟩,
 ⟨some 72, (some (69, false)), .bin .mul (.t 70) (.t 71)⟩,
 ⟨some 73, (some (69, false)), .mov (.t 16)⟩,
 ⟨some 74, (some (69, false)), .bin .mul (.c (.u 64 4294967296)) (.t 73)⟩,
 ⟨some 75, (some (69, false)), .mov (.t 13)⟩,
 ⟨some 76, (some (69, false)), .bin .add (.t 74) (.t 75)⟩,
 ⟨some 77, (some (69, false)), .bin .gtr (.t 72) (.t 76)⟩,
 op 78 (.pick (.t 69) (.c (.b true)) (.t 77))] [2, 8, 9, 10, 11, 13, 14, 15, 16, 78]) (
 .cond (.t 78) (
 .reg [] [2, 8, 9, 10, 11, 13, 14, 15, 16]) (
 .exit 0 [2, 8, 9, 10, 11, 13, 14, 15]))) (
 .block 1 (
 .seq (
 .reg [
 mv 79 15,
 op 80 (.bin .sub (.t 79) (.c (.u 64 1))),
 mv 15 80] [2, 8, 9, 10, 11, 13, 14, 15, 16]) (
 .seq (
 .reg [
 mv 81 16,
 mv 82 9,
 op 83 (.bin .add (.t 81) (.t 82)),
 mv 16 83] [2, 8, 9, 10, 11, 13, 14, 15, 16]) (
 .seq (
 .reg [
 mv 84 16,
 op 85 (.bin .geq (.t 84) (.c (.u 64 4294967296)))] [2, 8, 9, 10, 11, 13, 14, 15, 16, 85]) (
 .cond (.t 85) (
 .exit 0 [2, 8, 9, 10, 11, 13, 14, 15]) (
 .reg [] [2, 8, 9, 10, 11, 13, 14, 15, 16]))))))))) (
 .seq (
 .reg [
 mv 86 11,
 op 87 (.bin .mul (.t 86) (.c (.u 64 4294967296))),
 mv 88 13,
 op 89 (.bin .add (.t 87) (.t 88)),
 mv 90 15,
 mv 91 2,
 op 92 (.bin .mul (.t 90) (.t 91)),
 op 93 (.bin .sub (.t 89) (.t 92)),
 mv 17 93] [2, 8, 9, 10, 14, 15, 17]) (
 .seq (
 .reg [
 mv 94 17,
 mv 95 9,
 op 96 (.bin .quo (.t 94) (.t 95)),
 mv 18 96] [2, 8, 9, 10, 14, 15, 17, 18]) (
 .seq (
 .reg [
 mv 97 17,
 mv 98 18,
 mv 99 9,
 op 100 (.bin .mul (.t 98) (.t 99)),
 op 101 (.bin .sub (.t 97) (.t 100)),
 mv 16 101] [2, 8, 9, 10, 14, 15, 16, 17, 18]) (
 .seq (
 .block 2 (
 .loop [2, 8, 9, 10, 14, 15, 16, 17, 18] (
 .seq (
 .seq (
 .reg [
 mv 102 18,
 op 103 (.bin .geq (.t 102) (.c (.u 64 4294967296))),
 mv 104 103,
 ⟨some 105, (some (104, false)), .mov (.t 18)⟩,
 ⟨some 106, (some (104, false)), .mov (.t 10)⟩,
 ⟨some 107, (some (104, false)), .bin .mul (.t 105) (.t 106)⟩,
 ⟨some 108, (some (104, false)), .mov (.t 16)⟩,
 ⟨some 109, (some (104, false)), .bin .mul (.c (.u 64 4294967296)) (.t 108)⟩,
 ⟨some 110, (some (104, false)), .mov (.t 14)⟩,
 ⟨some 111, (some (104, false)), .bin .add (.t 109) (.t 110)⟩,
 ⟨some 112, (some (104, false)), .bin .gtr (.t 107) (.t 111)⟩,
 op 113 (.pick (.t 104) (.c (.b true)) (.t 112))] [2, 8, 9, 10, 14, 15, 16, 17, 18, 113]) (
 .cond (.t 113) (
 .reg [] [2, 8, 9, 10, 14, 15, 16, 17, 18]) (
 .exit 2 [2, 8, 14, 15, 17, 18]))) (
 .block 3 (
 .seq (
 .reg [
 mv 114 18,
 op 115 (.bin .sub (.t 114) (.c (.u 64 1))),
 mv 18 115] [2, 8, 9, 10, 14, 15, 16, 17, 18]) (
 .seq (
 .reg [
 mv 116 16,
 mv 117 9,
 op 118 (.bin .add (.t 116) (.t 117)),
 mv 16 118] [2, 8, 9, 10, 14, 15, 16, 17, 18]) (
 .seq (
 .reg [
 mv 119 16,
 op 120 (.bin .geq (.t 119) (.c (.u 64 4294967296)))] [2, 8, 9, 10, 14, 15, 16, 17, 18, 120]) (
 .cond (.t 120) (
 .exit 2 [2, 8, 14, 15, 17, 18]) (
 .reg [] [2, 8, 9, 10, 14, 15, 16, 17, 18]))))))))) (
 .seq (
 .reg [
 mv 121 15,
 op 122 (.bin .mul (.t 121) (.c (.u 64 4294967296))),
 mv 123 18,
 op 124 (.bin .add (.t 122) (.t 123)),
 mv 125 17,
 op 126 (.bin .mul (.t 125) (.c (.u 64 4294967296))),
 mv 127 14,
 op 128 (.bin .add (.t 126) (.t 127)),
 mv 129 18,
 mv 130 2,
 op 131 (.bin .mul (.t 129) (.t 130)),
 op 132 (.bin .sub (.t 128) (.t 131)),
 mv 133 8,
 op 134 (.bin .shr (.t 132) (.t 133)),
 mv 6 124,
 mv 7 134] [6, 7]) (
 .ret))))))))))))))))))))
def m_bits_Div64 : MFn := ⟨c_bits_Div64, [.tmp 6, .tmp 7], 0⟩

def tab : List (Nat × MFn) := [(f_curvetlaw5_FieldRoots, m_curvetlaw5_FieldRoots),
 (f_curvetlaw5_FieldProducts, m_curvetlaw5_FieldProducts),
 (f_curvetlaw5_FieldInverses, m_curvetlaw5_FieldInverses),
 (f_curvetlaw5_FieldTiny, m_curvetlaw5_FieldTiny),
 (f_curvetlaw5_FieldRules, m_curvetlaw5_FieldRules),
 (f_curvetlaw5_FieldSquares, m_curvetlaw5_FieldSquares),
 (f_curvetlaw5_FieldBounds, m_curvetlaw5_FieldBounds),
 (f_curvetlaw5_FieldFermat, m_curvetlaw5_FieldFermat),
 (f_curvetlaw5_FieldReduces, m_curvetlaw5_FieldReduces),
 (f_curvetlaw5_Fields, m_curvetlaw5_Fields),
 (f_curvetref13_Get, m_curvetref13_Get),
 (f_field_Inv, m_field_Inv),
 (f_field_Sqrt, m_field_Sqrt),
 (f_curvetref1_From, m_curvetref1_From),
 (f_curvetlaw0_Num, m_curvetlaw0_Num),
 (f_curvetlaw5_awake, m_curvetlaw5_awake),
 (f_curvetref1_Cmp, m_curvetref1_Cmp),
 (f_curvetref1_Inverse, m_curvetref1_Inverse),
 (f_curvetref1_Sqrt, m_curvetref1_Sqrt),
 (f_curvetref1_Nat, m_curvetref1_Nat),
 (f_curvetlaw5_one, m_curvetlaw5_one),
 (f_curvetlaw5_below, m_curvetlaw5_below),
 (f_field_Mul, m_field_Mul),
 (f_curvetlaw0_One, m_curvetlaw0_One),
 (f_field_Add, m_field_Add),
 (f_field_Sub, m_field_Sub),
 (f_nat_Sub, m_nat_Sub),
 (f_divide_PowMod, m_divide_PowMod),
 (f_field_Reduce, m_field_Reduce),
 (f_nat_Mul, m_nat_Mul),
 (f_curvetref1_Mod, m_curvetref1_Mod),
 (f_curvetref1_Of, m_curvetref1_Of),
 (f_curvetref1_AddMod, m_curvetref1_AddMod),
 (f_curvetref1_SubMod, m_curvetref1_SubMod),
 (f_curvetref1_MulMod, m_curvetref1_MulMod),
 (f_curvetref13_row, m_curvetref13_row),
 (f_curvetref13_Hex, m_curvetref13_Hex),
 (f_curvetref1_Sub, m_curvetref1_Sub),
 (f_field_Of, m_field_Of),
 (f_field_Field_Has, m_field_Field_Has),
 (f_field_Field_Inv, m_field_Field_Inv),
 (f_field_Field_Sqrt, m_field_Field_Sqrt),
 (f_curvetref1_trim, m_curvetref1_trim),
 (f_curvetref1_Div, m_curvetref1_Div),
 (f_curvetref1_Shr, m_curvetref1_Shr),
 (f_curvetref1_PowMod, m_curvetref1_PowMod),
 (f_curvetref1_Bit, m_curvetref1_Bit),
 (f_curvetref1_Add, m_curvetref1_Add),
 (f_curvetref1_digit, m_curvetref1_digit),
 (f_field_do, m_field_do),
 (f_field_Field_Mul, m_field_Field_Mul),
 (f_field_Field_Add, m_field_Field_Add),
 (f_field_Field_Sub, m_field_Field_Sub),
 (f_divide_zero, m_divide_zero),
 (f_divide_By, m_divide_By),
 (f_divide_Modulus_Pow, m_divide_Modulus_Pow),
 (f_divide_Modulus_Rest, m_divide_Modulus_Rest),
 (f_nat_used, m_nat_used),
 (f_bits_Mul64, m_bits_Mul64),
 (f_curvetref1_Mul, m_curvetref1_Mul),
 (f_curvetref13_digit, m_curvetref13_digit),
 (f_field_prime, m_field_prime),
 (f_field_Hex, m_field_Hex),
 (f_nat_Cmp, m_nat_Cmp),
 (f_divide_Inverse, m_divide_Inverse),
 (f_field_one, m_field_one),
 (f_field_half, m_field_half),
 (f_field_Field_root, m_field_Field_root),
 (f_nat_Bit, m_nat_Bit),
 (f_curvetref1_short, m_curvetref1_short),
 (f_curvetref1_Bits, m_curvetref1_Bits),
 (f_curvetref1_Shl, m_curvetref1_Shl),
 (f_curvetref1_step, m_curvetref1_step),
 (f_divide_Modulus_Mul, m_divide_Modulus_Mul),
 (f_nat_Add, m_nat_Add),
 (f_divide_of, m_divide_of),
 (f_nat_Small, m_nat_Small),
 (f_nat_Bits, m_nat_Bits),
 (f_divide_divisor_divide, m_divide_divisor_divide),
 (f_divide_Div, m_divide_Div),
 (f_nat_Shr, m_nat_Shr),
 (f_divide_length, m_divide_length),
 (f_bits_LeadingZeros64, m_bits_LeadingZeros64),
 (f_bits_Len64, m_bits_Len64),
 (f_divide_divisor_guess, m_divide_divisor_guess),
 (f_divide_divisor_take, m_divide_divisor_take),
 (f_divide_divisor_back, m_divide_divisor_back),
 (f_bits_Div64, m_bits_Div64)]
def look (f : Nat) : List (Nat × MFn) → Option MFn
 | [] => none
 | (g, m) :: r => bif Nat.beq g f then some m else look f r
def T (f : Nat) : Option MFn := look f tab
end Mir
