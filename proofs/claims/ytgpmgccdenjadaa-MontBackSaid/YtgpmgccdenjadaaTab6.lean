/- The functions of the cut, written down in the small language. Conditions: none. -/
import Derived.Test.YtgpmgccdenjadaaLim
set_option maxRecDepth 100000
namespace Mir

abbrev f_curvetlaw6_MontBack : Nat := 82
abbrev f_curvetlaw6_MontTiny : Nat := 83
abbrev f_curvetlaw6_MontShares : Nat := 84
abbrev f_curvetlaw6_Monts : Nat := 85
abbrev f_curvetlaw6_MontOnes : Nat := 86
abbrev f_curvetlaw6_awake : Nat := 87
abbrev f_mont_New : Nat := 88
abbrev f_curvetlaw0_Num : Nat := 15
abbrev f_curvetref1_From : Nat := 14
abbrev f_curvetref1_Nat : Nat := 17
abbrev f_curvetref1_Mod : Nat := 64
abbrev f_mont_Mont_To : Nat := 89
abbrev f_mont_Mont_Mul : Nat := 90
abbrev f_mont_Mont_From : Nat := 91
abbrev f_curvetref1_MulMod : Nat := 71
abbrev f_curvetlaw0_One : Nat := 24
abbrev f_mont_Mont_Words : Nat := 92
abbrev f_curvetlaw0_Nat : Nat := 20
abbrev f_divide_Div : Nat := 60
abbrev f_divide_MulMod : Nat := 61
abbrev f_curvetlaw6_add : Nat := 93
abbrev f_curvetref1_Bit : Nat := 37
abbrev f_curvetref1_Cmp : Nat := 29
abbrev f_curvetref1_Bits : Nat := 32
abbrev f_mont_Mont_Inv : Nat := 94
abbrev f_curvetref1_Shl : Nat := 31
abbrev f_curvetref1_Inverse : Nat := 58
abbrev f_divide_Inverse : Nat := 56
abbrev f_nat_Cmp : Nat := 35
abbrev f_nat_Small : Nat := 38
abbrev f_nat_Bits : Nat := 19
abbrev f_divide_By : Nat := 67
abbrev f_divide_Modulus_Mul : Nat := 69
abbrev f_divide_Modulus_Rest : Nat := 95
abbrev f_curvetref1_trim : Nat := 42
abbrev f_curvetref1_digit : Nat := 41
abbrev f_curvetref1_Div : Nat := 63
abbrev f_mont_Mont_may : Nat := 96
abbrev f_mont_Mont_Raw : Nat := 97
abbrev f_curvetref1_Mul : Nat := 34
abbrev f_divide_zero : Nat := 66
abbrev f_divide_of : Nat := 72
abbrev f_divide_divisor_divide : Nat := 73
abbrev f_curvetref1_SubMod : Nat := 70
abbrev f_nat_Sub : Nat := 25
abbrev f_nat_Add : Nat := 21
abbrev f_nat_used : Nat := 43
abbrev f_bits_Len64 : Nat := 44
abbrev f_nat_Mul : Nat := 23
abbrev f_divide_length : Nat := 76
abbrev f_curvetref1_short : Nat := 74
abbrev f_curvetref1_step : Nat := 75
abbrev f_curvetref1_Shr : Nat := 40
abbrev f_mont_Mont_round : Nat := 98
abbrev f_bits_LeadingZeros64 : Nat := 77
abbrev f_divide_divisor_guess : Nat := 78
abbrev f_divide_divisor_take : Nat := 79
abbrev f_divide_divisor_back : Nat := 80
abbrev f_curvetref1_Sub : Nat := 30
abbrev f_curvetref1_Add : Nat := 28
abbrev f_bits_Mul64 : Nat := 45
abbrev f_bits_Div64 : Nat := 81
abbrev f_nat_Of : Nat := 11
abbrev f_nat_Bytes : Nat := 12
abbrev f_curvetref1_Bytes : Nat := 13
abbrev f_curvetref1_Read : Nat := 18
abbrev f_nat_Shl : Nat := 26
abbrev f_nat_Bit : Nat := 27
abbrev f_curvetref1_Wide : Nat := 33
abbrev f_nat_Shr : Nat := 36
abbrev f_curvetref1_Small : Nat := 39
abbrev f_divide_PowMod : Nat := 55
abbrev f_curvetref1_PowMod : Nat := 59
abbrev f_divide_Mod : Nat := 62
abbrev f_curvetref1_Of : Nat := 65
abbrev f_divide_Modulus_Pow : Nat := 68

/-- curvet/curvetlaw6.MontBack -/
def c_curvetlaw6_MontBack : Stm :=
 .seq (
 .reg [
 op 3 (.boxv (.t 0)),
 op 4 (.boxv (.t 1)),
 op 5 (.boxv (.t 2)),
 op 6 (.mov (.c (.b false)))] [3, 4, 5]) (
 .seq (
 .seq (
 .reg [
 op 23 (.call f_curvetlaw6_awake [] []),
 op 24 (.un .not (.t 23))] [3, 4, 5, 24]) (
 .cond (.t 24) (
 .seq (
 .reg [
 op 6 (.mov (.c (.b false)))] [6]) (
 .ret)) (
 .reg [] [3, 4, 5]))) (
 .seq (
 .reg [
 op 25 (.ld true (some 9) (.t 3)),
 op 7 (.box (.c (.agg [.u 64 0, .u 64 0, .u 64 0, .u 64 0, .u 64 0, .u 64 0, .u 64 0, .u 64 0, .u 64 0]))),
 ⟨none, none, .stl 7 9 (.t 7) (.t 25)⟩] [4, 5, 7]) (
 .seq (
 .reg [
 op 26 (.off 0 (.t 7)),
 op 27 (.idx 9 1 (.t 26) (.c (.i 0))),
 op 28 (.ldl 7 none (.t 27)),
 op 29 (.bin .or (.t 28) (.c (.u 64 5))),
 op 30 (.off 0 (.t 7)),
 op 31 (.idx 9 1 (.t 30) (.c (.i 0))),
 ⟨none, none, .stl 7 1 (.t 31) (.t 29)⟩] [4, 5, 7]) (
 .seq (
 .reg [
 op 33 (.ldl 7 (some 9) (.t 7)),
 op 34 (.call f_mont_New [] [(.t 33)]),
 mv 32 34,
 op 35 (.ext 0 (.t 32)),
 op 36 (.ext 1 (.t 32)),
 mv 8 35,
 mv 9 36] [4, 5, 7, 8, 9]) (
 .seq (
 .seq (
 .reg [
 mv 37 9,
 op 38 (.call f_curvetlaw0_Num [] [(.t 37)]),
 op 39 (.bin .neq (.t 38) (.c (.i 0)))] [4, 5, 7, 8, 39]) (
 .cond (.t 39) (
 .seq (
 .reg [
 op 6 (.mov (.c (.b false)))] [6]) (
 .ret)) (
 .reg [] [4, 5, 7, 8]))) (
 .seq (
 .reg [
 op 40 (.ldl 7 (some 9) (.t 7)),
 op 41 (.call f_curvetref1_From [] [(.t 40)]),
 mv 10 41] [4, 5, 8, 10]) (
 .seq (
 .reg [
 op 42 (.ld true (some 9) (.t 4)),
 op 43 (.call f_curvetref1_From [] [(.t 42)]),
 mv 44 10,
 op 45 (.call f_curvetref1_Mod [] [(.t 43), (.t 44)]),
 op 46 (.call f_curvetref1_Nat [] [(.t 45)]),
 op 47 (.ld true (some 9) (.t 5)),
 op 48 (.call f_curvetref1_From [] [(.t 47)]),
 mv 49 10,
 op 50 (.call f_curvetref1_Mod [] [(.t 48), (.t 49)]),
 op 51 (.call f_curvetref1_Nat [] [(.t 50)]),
 op 11 (.box (.c (.agg [.u 64 0, .u 64 0, .u 64 0, .u 64 0, .u 64 0, .u 64 0, .u 64 0, .u 64 0, .u 64 0]))),
 op 12 (.box (.c (.agg [.u 64 0, .u 64 0, .u 64 0, .u 64 0, .u 64 0, .u 64 0, .u 64 0, .u 64 0, .u 64 0]))),
 ⟨none, none, .stl 11 9 (.t 11) (.t 46)⟩,
 ⟨none, none, .stl 12 9 (.t 12) (.t 51)⟩] [8, 10, 11, 12]) (
 .seq (
 .reg [
 mv 53 8,
 op 54 (.ldl 11 (some 9) (.t 11)),
 op 55 (.call f_mont_Mont_To [] [(.t 53), (.t 54)]),
 mv 52 55,
 op 56 (.ext 0 (.t 52)),
 op 57 (.ext 1 (.t 52)),
 op 13 (.box (.c (.agg [.u 64 0, .u 64 0, .u 64 0, .u 64 0, .u 64 0, .u 64 0, .u 64 0, .u 64 0, .u 64 0]))),
 ⟨none, none, .stl 13 9 (.t 13) (.t 56)⟩,
 mv 14 57] [8, 10, 11, 12, 13]) (
 .seq (
 .reg [
 mv 59 8,
 op 60 (.ldl 12 (some 9) (.t 12)),
 op 61 (.call f_mont_Mont_To [] [(.t 59), (.t 60)]),
 mv 58 61,
 op 62 (.ext 0 (.t 58)),
 op 63 (.ext 1 (.t 58)),
 op 15 (.box (.c (.agg [.u 64 0, .u 64 0, .u 64 0, .u 64 0, .u 64 0, .u 64 0, .u 64 0, .u 64 0, .u 64 0]))),
 ⟨none, none, .stl 15 9 (.t 15) (.t 62)⟩,
 mv 16 63] [8, 10, 11, 12, 13, 15]) (
 .seq (
 .reg [
 mv 65 8,
 op 66 (.ldl 13 (some 9) (.t 13)),
 op 67 (.ldl 15 (some 9) (.t 15)),
 op 68 (.call f_mont_Mont_Mul [] [(.t 65), (.t 66), (.t 67)]),
 mv 64 68,
 op 69 (.ext 0 (.t 64)),
 op 70 (.ext 1 (.t 64)),
 op 17 (.box (.c (.agg [.u 64 0, .u 64 0, .u 64 0, .u 64 0, .u 64 0, .u 64 0, .u 64 0, .u 64 0, .u 64 0]))),
 ⟨none, none, .stl 17 9 (.t 17) (.t 69)⟩,
 mv 18 70] [8, 10, 11, 12, 13, 17, 18]) (
 .seq (
 .reg [
 mv 72 8,
 op 73 (.ldl 17 (some 9) (.t 17)),
 op 74 (.call f_mont_Mont_From [] [(.t 72), (.t 73)]),
 mv 71 74,
 op 75 (.ext 0 (.t 71)),
 op 76 (.ext 1 (.t 71)),
 op 19 (.box (.c (.agg [.u 64 0, .u 64 0, .u 64 0, .u 64 0, .u 64 0, .u 64 0, .u 64 0, .u 64 0, .u 64 0]))),
 ⟨none, none, .stl 19 9 (.t 19) (.t 75)⟩,
 mv 20 76] [8, 10, 11, 12, 13, 18, 19, 20]) (
 .seq (
 .reg [
 mv 78 8,
 op 79 (.ldl 13 (some 9) (.t 13)),
 op 80 (.call f_mont_Mont_From [] [(.t 78), (.t 79)]),
 mv 77 80,
 op 81 (.ext 0 (.t 77)),
 op 82 (.ext 1 (.t 77)),
 op 21 (.box (.c (.agg [.u 64 0, .u 64 0, .u 64 0, .u 64 0, .u 64 0, .u 64 0, .u 64 0, .u 64 0, .u 64 0]))),
 ⟨none, none, .stl 21 9 (.t 21) (.t 81)⟩,
 mv 22 82] [10, 11, 12, 18, 19, 20, 21, 22]) (
 .seq (
 .reg [
 mv 83 18,
 op 84 (.call f_curvetlaw0_Num [] [(.t 83)]),
 op 85 (.bin .eql (.t 84) (.c (.i 0))),
 mv 86 85,
 ⟨some 87, (some (86, true)), .mov (.t 20)⟩,
 ⟨some 88, (some (86, true)), .call f_curvetlaw0_Num [] [(.t 87)]⟩,
 ⟨some 89, (some (86, true)), .bin .eql (.t 88) (.c (.i 0))⟩,
 op 90 (.pick (.t 86) (.t 89) (.c (.b false))),
 mv 91 90,
 ⟨some 92, (some (91, true)), .mov (.t 22)⟩,
 ⟨some 93, (some (91, true)), .call f_curvetlaw0_Num [] [(.t 92)]⟩,
 ⟨some 94, (some (91, true)), .bin .eql (.t 93) (.c (.i 0))⟩,
 op 95 (.pick (.t 91) (.t 94) (.c (.b false))),
 mv 96 95,
 ⟨some 97, (some (96, true)), .ldl 21 (some 9) (.t 21)⟩,
 ⟨some 98, (some (96, true)), .ldl 11 (some 9) (.t 11)⟩,
 ⟨some 99, (some (96, true)), .eqv (.agg [.u 64, .u 64, .u 64, .u 64, .u 64, .u 64, .u 64, .u 64, .u 64]) false (.t 97) (.t 98)⟩,
 op 100 (.pick (.t 96) (.t 99) (.c (.b false))),
 mv 101 100,
 ⟨some 102, (some (101, true)), .ldl 19 (some 9) (.t 19)⟩,
 ⟨some 103, (some (101, true)), .ldl 11 (some 9) (.t 11)⟩,
 ⟨some 104, (some (101, true)), .call f_curvetref1_From [] [(.t 103)]⟩,
 ⟨some 105, (some (101, true)), .ldl 12 (some 9) (.t 12)⟩,
 ⟨some 106, (some (101, true)), .call f_curvetref1_From [] [(.t 105)]⟩,
 ⟨some 107, (some (101, true)), .mov (.t 10)⟩,
 ⟨some 108, (some (101, true)), .call f_curvetref1_MulMod [] [(.t 104), (.t 106), (.t 107)]⟩,
 ⟨some 109, (some (101, true)), .call f_curvetref1_Nat [] [(.t 108)]⟩,
 ⟨some 110, (some (101, true)), .eqv (.agg [.u 64, .u 64, .u 64, .u 64, .u 64, .u 64, .u 64, .u 64, .u 64]) false (.t 102) (.t 109)⟩,
 op 111 (.pick (.t 101) (.t 110) (.c (.b false))),
 mv 6 111] [6]) (
 .ret))))))))))))))
def m_curvetlaw6_MontBack : MFn := ⟨c_curvetlaw6_MontBack, [.tmp 6], 0⟩

/-- curvet/curvetlaw6.MontTiny -/
def c_curvetlaw6_MontTiny : Stm :=
 .seq (
 .reg [
 op 6 (.mov (.c (.b false)))] [0, 1, 2]) (
 .seq (
 .seq (
 .reg [
 op 24 (.call f_curvetlaw6_awake [] []),
 op 25 (.un .not (.t 24))] [0, 1, 2, 25]) (
 .cond (.t 25) (
 .seq (
 .reg [
 op 6 (.mov (.c (.b false)))] [6]) (
 .ret)) (
 .reg [] [0, 1, 2]))) (
 .seq (
 .reg [
 mv 26 0,
 op 27 (.cvu 64 (.t 26)),
 op 28 (.bin .rem (.t 27) (.c (.u 64 126))),
 op 29 (.cvi (.t 28)),
 op 30 (.bin .mul (.c (.i 2)) (.t 29)),
 op 31 (.bin .add (.c (.i 3)) (.t 30)),
 op 32 (.cvu 64 (.t 31)),
 mv 7 32] [1, 2, 7]) (
 .seq (
 .reg [
 mv 34 7,
 op 35 (.call f_curvetlaw0_One [] [(.t 34)]),
 op 36 (.call f_mont_New [] [(.t 35)]),
 mv 33 36,
 op 37 (.ext 0 (.t 33)),
 op 38 (.ext 1 (.t 33)),
 mv 8 37,
 mv 9 38] [1, 2, 7, 8, 9]) (
 .seq (
 .seq (
 .reg [
 mv 39 9,
 op 40 (.call f_curvetlaw0_Num [] [(.t 39)]),
 op 41 (.bin .neq (.t 40) (.c (.i 0))),
 mv 42 41,
 ⟨some 43, (some (42, false)), .mov (.t 8)⟩,
 ⟨some 44, (some (42, false)), .call f_mont_Mont_Words [] [(.t 43)]⟩,
 ⟨some 45, (some (42, false)), .bin .neq (.t 44) (.c (.i 1))⟩,
 op 46 (.pick (.t 42) (.c (.b true)) (.t 45))] [1, 2, 7, 8, 46]) (
 .cond (.t 46) (
 .seq (
 .reg [
 op 6 (.mov (.c (.b false)))] [6]) (
 .ret)) (
 .reg [] [1, 2, 7, 8]))) (
 .seq (
 .reg [
 mv 47 1,
 op 48 (.cvu 64 (.t 47)),
 mv 49 7,
 op 50 (.bin .rem (.t 48) (.t 49)),
 mv 51 2,
 op 52 (.cvu 64 (.t 51)),
 mv 53 7,
 op 54 (.bin .rem (.t 52) (.t 53)),
 mv 10 50,
 mv 11 54] [7, 8, 10, 11]) (
 .seq (
 .reg [
 mv 56 8,
 mv 57 10,
 op 58 (.call f_curvetlaw0_One [] [(.t 57)]),
 op 59 (.call f_mont_Mont_To [] [(.t 56), (.t 58)]),
 mv 55 59,
 op 60 (.ext 0 (.t 55)),
 op 61 (.ext 1 (.t 55)),
 op 12 (.box (.c (.agg [.u 64 0, .u 64 0, .u 64 0, .u 64 0, .u 64 0, .u 64 0, .u 64 0, .u 64 0, .u 64 0]))),
 ⟨none, none, .stl 12 9 (.t 12) (.t 60)⟩,
 mv 13 61] [7, 8, 10, 11, 12, 13]) (
 .seq (
 .reg [
 mv 63 8,
 mv 64 11,
 op 65 (.call f_curvetlaw0_One [] [(.t 64)]),
 op 66 (.call f_mont_Mont_To [] [(.t 63), (.t 65)]),
 mv 62 66,
 op 67 (.ext 0 (.t 62)),
 op 68 (.ext 1 (.t 62)),
 op 14 (.box (.c (.agg [.u 64 0, .u 64 0, .u 64 0, .u 64 0, .u 64 0, .u 64 0, .u 64 0, .u 64 0, .u 64 0]))),
 ⟨none, none, .stl 14 9 (.t 14) (.t 67)⟩,
 mv 15 68] [7, 8, 10, 11, 12, 13, 14, 15]) (
 .seq (
 .reg [
 mv 70 8,
 op 71 (.ldl 12 (some 9) (.t 12)),
 op 72 (.ldl 14 (some 9) (.t 14)),
 op 73 (.call f_mont_Mont_Mul [] [(.t 70), (.t 71), (.t 72)]),
 mv 69 73,
 op 74 (.ext 0 (.t 69)),
 op 75 (.ext 1 (.t 69)),
 op 16 (.box (.c (.agg [.u 64 0, .u 64 0, .u 64 0, .u 64 0, .u 64 0, .u 64 0, .u 64 0, .u 64 0, .u 64 0]))),
 ⟨none, none, .stl 16 9 (.t 16) (.t 74)⟩,
 mv 17 75] [7, 8, 10, 11, 13, 14, 15, 16, 17]) (
 .seq (
 .reg [
 mv 77 8,
 op 78 (.ldl 16 (some 9) (.t 16)),
 op 79 (.call f_mont_Mont_From [] [(.t 77), (.t 78)]),
 mv 76 79,
 op 80 (.ext 0 (.t 76)),
 op 81 (.ext 1 (.t 76)),
 op 18 (.box (.c (.agg [.u 64 0, .u 64 0, .u 64 0, .u 64 0, .u 64 0, .u 64 0, .u 64 0, .u 64 0, .u 64 0]))),
 ⟨none, none, .stl 18 9 (.t 18) (.t 80)⟩,
 mv 19 81] [7, 8, 10, 11, 13, 14, 15, 17, 18, 19]) (
 .seq (
 .reg [
 mv 83 8,
 mv 84 7,
 op 85 (.call f_curvetlaw0_One [] [(.t 84)]),
 op 86 (.ldl 14 (some 9) (.t 14)),
 op 87 (.call f_mont_Mont_Mul [] [(.t 83), (.t 85), (.t 86)]),
 mv 82 87,
 op 88 (.ext 0 (.t 82)),
 op 89 (.ext 1 (.t 82)),
 op 20 (.box (.c (.agg [.u 64 0, .u 64 0, .u 64 0, .u 64 0, .u 64 0, .u 64 0, .u 64 0, .u 64 0, .u 64 0]))),
 ⟨none, none, .stl 20 9 (.t 20) (.t 88)⟩,
 mv 21 89] [7, 8, 10, 11, 13, 15, 17, 18, 19, 21]) (
 .seq (
 .reg [
 mv 91 8,
 mv 92 7,
 mv 93 11,
 op 94 (.bin .add (.t 92) (.t 93)),
 op 95 (.call f_curvetlaw0_One [] [(.t 94)]),
 op 96 (.call f_mont_Mont_From [] [(.t 91), (.t 95)]),
 mv 90 96,
 op 97 (.ext 0 (.t 90)),
 op 98 (.ext 1 (.t 90)),
 op 22 (.box (.c (.agg [.u 64 0, .u 64 0, .u 64 0, .u 64 0, .u 64 0, .u 64 0, .u 64 0, .u 64 0, .u 64 0]))),
 ⟨none, none, .stl 22 9 (.t 22) (.t 97)⟩,
 mv 23 98] [7, 10, 11, 13, 15, 17, 18, 19, 21, 23]) (
 .seq (
 .reg [
 mv 99 13,
 op 100 (.call f_curvetlaw0_Num [] [(.t 99)]),
 op 101 (.bin .eql (.t 100) (.c (.i 0))),
 mv 102 101,
 ⟨some 103, (some (102, true)), .mov (.t 15)⟩,
 ⟨some 104, (some (102, true)), .call f_curvetlaw0_Num [] [(.t 103)]⟩,
 ⟨some 105, (some (102, true)), .bin .eql (.t 104) (.c (.i 0))⟩,
 op 106 (.pick (.t 102) (.t 105) (.c (.b false))),
 mv 107 106,
 ⟨some 108, (some (107, true)), .mov (.t 17)⟩,
 ⟨some 109, (some (107, true)), .call f_curvetlaw0_Num [] [(.t 108)]⟩,
 ⟨some 110, (some (107, true)), .bin .eql (.t 109) (.c (.i 0))⟩,
 op 111 (.pick (.t 107) (.t 110) (.c (.b false))),
 mv 112 111,
 ⟨some 113, (some (112, true)), .mov (.t 19)⟩,
 ⟨some 114, (some (112, true)), .call f_curvetlaw0_Num [] [(.t 113)]⟩,
 ⟨some 115, (some (112, true)), .bin .eql (.t 114) (.c (.i 0))⟩,
 op 116 (.pick (.t 112) (.t 115) (.c (.b false))),
 mv 117 116,
 ⟨some 118, (some (117, true)), .ldl 18 (some 9) (.t 18)⟩,
 ⟨some 119, (some (117, true)), .mov (.t 10)⟩,
 ⟨some 120, (some (117, true)), .mov (.t 11)⟩,
 ⟨some 121, (some (117, true)), .bin .mul (.t 119) (.t 120)⟩,
 ⟨some 122, (some (117, true)), .mov (.t 7)⟩,
 ⟨some 123, (some (117, true)), .bin .rem (.t 121) (.t 122)⟩,
 ⟨some 124, (some (117, true)), .call f_curvetlaw0_One [] [(.t 123)]⟩,
 ⟨some 125, (some (117, true)), .eqv (.agg [.u 64, .u 64, .u 64, .u 64, .u 64, .u 64, .u 64, .u 64, .u 64]) false (.t 118) (.t 124)⟩,
 op 126 (.pick (.t 117) (.t 125) (.c (.b false))),
 mv 127 126,
 ⟨some 128, (some (127, true)), .mov (.t 21)⟩,
 ⟨some 129, (some (127, true)), .call f_curvetlaw0_Num [] [(.t 128)]⟩,
 ⟨some 130, (some (127, true)), .bin .eql (.t 129) (.c (.i 601))⟩,
 op 131 (.pick (.t 127) (.t 130) (.c (.b false))),
 mv 132 131,
 ⟨some 133, (some (132, true)), .mov (.t 23)⟩,
 ⟨some 134, (some (132, true)), .call f_curvetlaw0_Num [] [(.t 133)]⟩,
 ⟨some 135, (some (132, true)), .bin .eql (.t 134) (.c (.i 601))⟩,
 op 136 (.pick (.t 132) (.t 135) (.c (.b false))),
 mv 6 136] [6]) (
 .ret)))))))))))))
def m_curvetlaw6_MontTiny : MFn := ⟨c_curvetlaw6_MontTiny, [.tmp 6], 0⟩

/-- curvet/curvetlaw6.MontShares -/
def c_curvetlaw6_MontShares : Stm :=
 .seq (
 .reg [
 op 4 (.boxv (.t 0)),
 op 5 (.boxv (.t 1)),
 op 6 (.boxv (.t 2)),
 op 7 (.boxv (.t 3)),
 op 8 (.mov (.c (.b false)))] [4, 5, 6, 7]) (
 .seq (
 .seq (
 .reg [
 op 31 (.call f_curvetlaw6_awake [] []),
 op 32 (.un .not (.t 31))] [4, 5, 6, 7, 32]) (
 .cond (.t 32) (
 .seq (
 .reg [
 op 8 (.mov (.c (.b false)))] [8]) (
 .ret)) (
 .reg [] [4, 5, 6, 7]))) (
 .seq (
 .reg [
 op 33 (.off 0 (.t 4)),
 op 34 (.ld true (some 9) (.t 33)),
 op 35 (.call f_curvetlaw0_Nat [] [(.t 34), (.c (.i 500))]),
 op 9 (.box (.c (.agg [.u 64 0, .u 64 0, .u 64 0, .u 64 0, .u 64 0, .u 64 0, .u 64 0, .u 64 0, .u 64 0]))),
 ⟨none, none, .stl 9 9 (.t 9) (.t 35)⟩] [5, 6, 7, 9]) (
 .seq (
 .reg [
 op 36 (.off 0 (.t 9)),
 op 37 (.idx 9 1 (.t 36) (.c (.i 0))),
 op 38 (.ldl 9 none (.t 37)),
 op 39 (.bin .or (.t 38) (.c (.u 64 3))),
 op 40 (.off 0 (.t 9)),
 op 41 (.idx 9 1 (.t 40) (.c (.i 0))),
 ⟨none, none, .stl 9 1 (.t 41) (.t 39)⟩] [5, 6, 7, 9]) (
 .seq (
 .reg [
 op 43 (.ldl 9 (some 9) (.t 9)),
 op 44 (.call f_mont_New [] [(.t 43)]),
 mv 42 44,
 op 45 (.ext 0 (.t 42)),
 op 46 (.ext 1 (.t 42)),
 mv 10 45,
 mv 11 46] [5, 6, 7, 9, 10, 11]) (
 .seq (
 .seq (
 .reg [
 mv 47 11,
 op 48 (.call f_curvetlaw0_Num [] [(.t 47)]),
 op 49 (.bin .neq (.t 48) (.c (.i 0)))] [5, 6, 7, 9, 10, 49]) (
 .cond (.t 49) (
 .seq (
 .reg [
 op 8 (.mov (.c (.b false)))] [8]) (
 .ret)) (
 .reg [] [5, 6, 7, 9, 10]))) (
 .seq (
 .reg [
 op 51 (.ld true (some 9) (.t 5)),
 op 52 (.ldl 9 (some 9) (.t 9)),
 op 53 (.call f_divide_Div [] [(.t 51), (.t 52)]),
 mv 50 53,
 op 54 (.ext 0 (.t 50)),
 op 55 (.ext 1 (.t 50)),
 op 56 (.ext 2 (.t 50)),
 op 12 (.box (.c (.agg [.u 64 0, .u 64 0, .u 64 0, .u 64 0, .u 64 0, .u 64 0, .u 64 0, .u 64 0, .u 64 0]))),
 op 13 (.box (.c (.agg [.u 64 0, .u 64 0, .u 64 0, .u 64 0, .u 64 0, .u 64 0, .u 64 0, .u 64 0, .u 64 0]))),
 ⟨none, none, .stl 12 9 (.t 12) (.t 54)⟩,
 ⟨none, none, .stl 13 9 (.t 13) (.t 55)⟩,
 mv 14 56] [6, 7, 9, 10, 13]) (
 .seq (
 .reg [
 op 58 (.ld true (some 9) (.t 6)),
 op 59 (.ldl 9 (some 9) (.t 9)),
 op 60 (.call f_divide_Div [] [(.t 58), (.t 59)]),
 mv 57 60,
 op 61 (.ext 0 (.t 57)),
 op 62 (.ext 1 (.t 57)),
 op 63 (.ext 2 (.t 57)),
 op 15 (.box (.c (.agg [.u 64 0, .u 64 0, .u 64 0, .u 64 0, .u 64 0, .u 64 0, .u 64 0, .u 64 0, .u 64 0]))),
 op 16 (.box (.c (.agg [.u 64 0, .u 64 0, .u 64 0, .u 64 0, .u 64 0, .u 64 0, .u 64 0, .u 64 0, .u 64 0]))),
 ⟨none, none, .stl 15 9 (.t 15) (.t 61)⟩,
 ⟨none, none, .stl 16 9 (.t 16) (.t 62)⟩,
 mv 17 63] [7, 9, 10, 13, 16]) (
 .seq (
 .reg [
 op 65 (.ld true (some 9) (.t 7)),
 op 66 (.ldl 9 (some 9) (.t 9)),
 op 67 (.call f_divide_Div [] [(.t 65), (.t 66)]),
 mv 64 67,
 op 68 (.ext 0 (.t 64)),
 op 69 (.ext 1 (.t 64)),
 op 70 (.ext 2 (.t 64)),
 op 18 (.box (.c (.agg [.u 64 0, .u 64 0, .u 64 0, .u 64 0, .u 64 0, .u 64 0, .u 64 0, .u 64 0, .u 64 0]))),
 op 19 (.box (.c (.agg [.u 64 0, .u 64 0, .u 64 0, .u 64 0, .u 64 0, .u 64 0, .u 64 0, .u 64 0, .u 64 0]))),
 ⟨none, none, .stl 18 9 (.t 18) (.t 68)⟩,
 ⟨none, none, .stl 19 9 (.t 19) (.t 69)⟩,
 mv 20 70] [9, 10, 13, 16, 19]) (
 .seq (
 .reg [
 op 72 (.ldl 16 (some 9) (.t 16)),
 op 73 (.ldl 19 (some 9) (.t 19)),
 op 74 (.call f_curvetlaw6_add [] [(.t 72), (.t 73)]),
 op 75 (.call f_curvetlaw0_One [] [(.c (.u 64 1))]),
 op 76 (.ldl 9 (some 9) (.t 9)),
 op 77 (.call f_divide_MulMod [] [(.t 74), (.t 75), (.t 76)]),
 mv 71 77,
 op 78 (.ext 0 (.t 71)),
 op 79 (.ext 1 (.t 71)),
 op 21 (.box (.c (.agg [.u 64 0, .u 64 0, .u 64 0, .u 64 0, .u 64 0, .u 64 0, .u 64 0, .u 64 0, .u 64 0]))),
 ⟨none, none, .stl 21 9 (.t 21) (.t 78)⟩,
 mv 22 79] [9, 10, 13, 16, 19, 21]) (
 .seq (
 .reg [
 mv 81 10,
 op 82 (.ldl 13 (some 9) (.t 13)),
 op 83 (.ldl 21 (some 9) (.t 21)),
 op 84 (.call f_mont_Mont_Mul [] [(.t 81), (.t 82), (.t 83)]),
 mv 80 84,
 op 85 (.ext 0 (.t 80)),
 op 86 (.ext 1 (.t 80)),
 op 23 (.box (.c (.agg [.u 64 0, .u 64 0, .u 64 0, .u 64 0, .u 64 0, .u 64 0, .u 64 0, .u 64 0, .u 64 0]))),
 ⟨none, none, .stl 23 9 (.t 23) (.t 85)⟩,
 mv 24 86] [9, 10, 13, 16, 19, 23, 24]) (
 .seq (
 .reg [
 mv 88 10,
 op 89 (.ldl 13 (some 9) (.t 13)),
 op 90 (.ldl 16 (some 9) (.t 16)),
 op 91 (.call f_mont_Mont_Mul [] [(.t 88), (.t 89), (.t 90)]),
 mv 87 91,
 op 92 (.ext 0 (.t 87)),
 op 93 (.ext 1 (.t 87)),
 op 25 (.box (.c (.agg [.u 64 0, .u 64 0, .u 64 0, .u 64 0, .u 64 0, .u 64 0, .u 64 0, .u 64 0, .u 64 0]))),
 ⟨none, none, .stl 25 9 (.t 25) (.t 92)⟩,
 mv 26 93] [9, 10, 13, 19, 23, 24, 25]) (
 .seq (
 .reg [
 mv 95 10,
 op 96 (.ldl 13 (some 9) (.t 13)),
 op 97 (.ldl 19 (some 9) (.t 19)),
 op 98 (.call f_mont_Mont_Mul [] [(.t 95), (.t 96), (.t 97)]),
 mv 94 98,
 op 99 (.ext 0 (.t 94)),
 op 100 (.ext 1 (.t 94)),
 op 27 (.box (.c (.agg [.u 64 0, .u 64 0, .u 64 0, .u 64 0, .u 64 0, .u 64 0, .u 64 0, .u 64 0, .u 64 0]))),
 ⟨none, none, .stl 27 9 (.t 27) (.t 99)⟩,
 mv 28 100] [9, 23, 24, 25, 27]) (
 .seq (
 .reg [
 op 102 (.ldl 25 (some 9) (.t 25)),
 op 103 (.ldl 27 (some 9) (.t 27)),
 op 104 (.call f_curvetlaw6_add [] [(.t 102), (.t 103)]),
 op 105 (.call f_curvetlaw0_One [] [(.c (.u 64 1))]),
 op 106 (.ldl 9 (some 9) (.t 9)),
 op 107 (.call f_divide_MulMod [] [(.t 104), (.t 105), (.t 106)]),
 mv 101 107,
 op 108 (.ext 0 (.t 101)),
 op 109 (.ext 1 (.t 101)),
 op 29 (.box (.c (.agg [.u 64 0, .u 64 0, .u 64 0, .u 64 0, .u 64 0, .u 64 0, .u 64 0, .u 64 0, .u 64 0]))),
 ⟨none, none, .stl 29 9 (.t 29) (.t 108)⟩,
 mv 30 109] [23, 24, 29]) (
 .seq (
 .reg [
 mv 110 24,
 op 111 (.call f_curvetlaw0_Num [] [(.t 110)]),
 op 112 (.bin .eql (.t 111) (.c (.i 0))),
 mv 113 112,
 ⟨some 114, (some (113, true)), .ldl 23 (some 9) (.t 23)⟩,
 ⟨some 115, (some (113, true)), .ldl 29 (some 9) (.t 29)⟩,
 ⟨some 116, (some (113, true)), .eqv (.agg [.u 64, .u 64, .u 64, .u 64, .u 64, .u 64, .u 64, .u 64, .u 64]) false (.t 114) (.t 115)⟩,
 op 117 (.pick (.t 113) (.t 116) (.c (.b false))),
 mv 8 117] [8]) (
 .ret)))))))))))))))
def m_curvetlaw6_MontShares : MFn := ⟨c_curvetlaw6_MontShares, [.tmp 8], 0⟩

/-- curvet/curvetlaw6.Monts -/
def c_curvetlaw6_Monts : Stm :=
 .seq (
 .reg [
 op 3 (.boxv (.t 0)),
 op 4 (.boxv (.t 1)),
 op 5 (.boxv (.t 2)),
 op 6 (.mov (.c (.b false)))] [3, 4, 5]) (
 .seq (
 .reg [
 op 27 (.ld true (some 9) (.t 3)),
 op 28 (.call f_mont_New [] [(.t 27)]),
 mv 26 28,
 op 29 (.ext 0 (.t 26)),
 op 30 (.ext 1 (.t 26)),
 mv 7 29,
 mv 8 30] [3, 4, 5, 7, 8]) (
 .seq (
 .reg [
 op 31 (.ld true (some 9) (.t 3)),
 op 32 (.call f_curvetref1_From [] [(.t 31)]),
 mv 9 32] [4, 5, 7, 8, 9]) (
 .seq (
 .seq (
 .reg [
 mv 33 9,
 op 34 (.call f_curvetref1_Bit [] [(.t 33), (.c (.i 0))]),
 op 35 (.bin .eql (.t 34) (.c (.i 0))),
 mv 36 35,
 ⟨some 37, (some (36, false)), .mov (.t 9)⟩,
 ⟨some 38, (some (36, false)), .lit true 1 1 [.u 32 0] [(0, 1, (.c (.u 32 3)))]⟩,
 ⟨some 39, (some (36, false)), .call f_curvetref1_Cmp [] [(.t 37), (.t 38)]⟩,
 ⟨some 40, (some (36, false)), .bin .lss (.t 39) (.c (.i 0))⟩,
 op 41 (.pick (.t 36) (.c (.b true)) (.t 40))] [4, 5, 7, 8, 9, 41]) (
 .cond (.t 41) (
 .seq (
 .reg [
 mv 42 8,
 op 43 (.call f_curvetlaw0_Num [] [(.t 42)]),
 op 44 (.bin .eql (.t 43) (.c (.i 600))),
 mv 45 44,
 ⟨some 46, (some (45, true)), .mov (.t 7)⟩,
 ⟨some 47, (some (45, true)), .eqv .ptr false (.t 46) (.c (.nilp))⟩,
 op 48 (.pick (.t 45) (.t 47) (.c (.b false))),
 mv 49 48,
 ⟨some 50, (some (49, true)), .call f_curvetlaw6_awake [] []⟩,
 op 51 (.pick (.t 49) (.t 50) (.c (.b false))),
 mv 6 51] [6]) (
 .ret)) (
 .reg [] [4, 5, 7, 8, 9]))) (
 .seq (
 .seq (
 .reg [
 mv 52 8,
 op 53 (.call f_curvetlaw0_Num [] [(.t 52)]),
 op 54 (.bin .neq (.t 53) (.c (.i 0))),
 mv 55 54,
 ⟨some 56, (some (55, false)), .mov (.t 7)⟩,
 ⟨some 57, (some (55, false)), .eqv .ptr false (.t 56) (.c (.nilp))⟩,
 op 58 (.pick (.t 55) (.c (.b true)) (.t 57))] [4, 5, 7, 9, 58]) (
 .cond (.t 58) (
 .seq (
 .reg [
 op 6 (.mov (.c (.b false)))] [6]) (
 .ret)) (
 .reg [] [4, 5, 7, 9]))) (
 .seq (
 .reg [
 mv 59 9,
 op 60 (.call f_curvetref1_Bits [] [(.t 59)]),
 op 61 (.bin .add (.t 60) (.c (.i 63))),
 op 62 (.bin .quo (.t 61) (.c (.i 64))),
 mv 10 62] [4, 5, 7, 9, 10]) (
 .seq (
 .reg [
 op 63 (.ld true (some 9) (.t 4)),
 op 64 (.call f_curvetref1_From [] [(.t 63)]),
 op 65 (.ld true (some 9) (.t 5)),
 op 66 (.call f_curvetref1_From [] [(.t 65)]),
 mv 11 64,
 mv 12 66] [4, 5, 7, 9, 10, 11, 12]) (
 .seq (
 .reg [
 mv 68 7,
 op 69 (.ld true (some 9) (.t 4)),
 op 70 (.call f_mont_Mont_To [] [(.t 68), (.t 69)]),
 mv 67 70,
 op 71 (.ext 0 (.t 67)),
 op 72 (.ext 1 (.t 67)),
 op 13 (.box (.c (.agg [.u 64 0, .u 64 0, .u 64 0, .u 64 0, .u 64 0, .u 64 0, .u 64 0, .u 64 0, .u 64 0]))),
 ⟨none, none, .stl 13 9 (.t 13) (.t 71)⟩,
 mv 14 72] [4, 5, 7, 9, 10, 11, 12, 13, 14]) (
 .seq (
 .reg [
 mv 74 7,
 op 75 (.ld true (some 9) (.t 4)),
 op 76 (.call f_mont_Mont_From [] [(.t 74), (.t 75)]),
 mv 73 76,
 op 77 (.ext 0 (.t 73)),
 op 78 (.ext 1 (.t 73)),
 op 15 (.box (.c (.agg [.u 64 0, .u 64 0, .u 64 0, .u 64 0, .u 64 0, .u 64 0, .u 64 0, .u 64 0, .u 64 0]))),
 ⟨none, none, .stl 15 9 (.t 15) (.t 77)⟩,
 mv 16 78] [4, 5, 7, 9, 10, 11, 12, 13, 14, 15, 16]) (
 .seq (
 .reg [
 mv 80 7,
 op 81 (.ld true (some 9) (.t 4)),
 op 82 (.ld true (some 9) (.t 5)),
 op 83 (.call f_mont_Mont_Mul [] [(.t 80), (.t 81), (.t 82)]),
 mv 79 83,
 op 84 (.ext 0 (.t 79)),
 op 85 (.ext 1 (.t 79)),
 op 17 (.box (.c (.agg [.u 64 0, .u 64 0, .u 64 0, .u 64 0, .u 64 0, .u 64 0, .u 64 0, .u 64 0, .u 64 0]))),
 ⟨none, none, .stl 17 9 (.t 17) (.t 84)⟩,
 mv 18 85] [4, 7, 9, 10, 11, 12, 13, 14, 15, 16, 17, 18]) (
 .seq (
 .reg [
 mv 87 7,
 op 88 (.ld true (some 9) (.t 4)),
 op 89 (.call f_mont_Mont_Inv [] [(.t 87), (.t 88)]),
 mv 86 89,
 op 90 (.ext 0 (.t 86)),
 op 91 (.ext 1 (.t 86)),
 op 19 (.box (.c (.agg [.u 64 0, .u 64 0, .u 64 0, .u 64 0, .u 64 0, .u 64 0, .u 64 0, .u 64 0, .u 64 0]))),
 ⟨none, none, .stl 19 9 (.t 19) (.t 90)⟩,
 mv 20 91] [7, 9, 10, 11, 12, 13, 14, 15, 16, 17, 18, 19, 20]) (
 .seq (
 .seq (
 .reg [
 mv 92 7,
 op 93 (.call f_mont_Mont_Words [] [(.t 92)]),
 mv 94 10,
 op 95 (.bin .neq (.t 93) (.t 94))] [9, 10, 11, 12, 13, 14, 15, 16, 17, 18, 19, 20, 95]) (
 .cond (.t 95) (
 .seq (
 .reg [
 op 6 (.mov (.c (.b false)))] [6]) (
 .ret)) (
 .reg [] [9, 10, 11, 12, 13, 14, 15, 16, 17, 18, 19, 20]))) (
 .seq (
 .seq (
 .reg [
 mv 96 11,
 mv 97 9,
 op 98 (.call f_curvetref1_Cmp [] [(.t 96), (.t 97)]),
 op 99 (.bin .geq (.t 98) (.c (.i 0)))] [9, 10, 11, 12, 13, 14, 15, 16, 17, 18, 19, 20, 99]) (
 .cond (.t 99) (
 .seq (
 .reg [
 mv 100 14,
 op 101 (.call f_curvetlaw0_Num [] [(.t 100)]),
 op 102 (.bin .eql (.t 101) (.c (.i 601))),
 mv 103 102,
 ⟨some 104, (some (103, true)), .mov (.t 16)⟩,
 ⟨some 105, (some (103, true)), .call f_curvetlaw0_Num [] [(.t 104)]⟩,
 ⟨some 106, (some (103, true)), .bin .eql (.t 105) (.c (.i 601))⟩,
 op 107 (.pick (.t 103) (.t 106) (.c (.b false))),
 mv 108 107,
 ⟨some 109, (some (108, true)), .mov (.t 18)⟩,
 ⟨some 110, (some (108, true)), .call f_curvetlaw0_Num [] [(.t 109)]⟩,
 ⟨some 111, (some (108, true)), .bin .eql (.t 110) (.c (.i 601))⟩,
 op 112 (.pick (.t 108) (.t 111) (.c (.b false))),
 mv 113 112,
 ⟨some 114, (some (113, true)), .mov (.t 20)⟩,
 ⟨some 115, (some (113, true)), .call f_curvetlaw0_Num [] [(.t 114)]⟩,
 ⟨some 116, (some (113, true)), .bin .eql (.t 115) (.c (.i 601))⟩,
 op 117 (.pick (.t 113) (.t 116) (.c (.b false))),
 mv 118 117,
 ⟨some 119, (some (118, true)), .ldl 13 (some 9) (.t 13)⟩,
 ⟨some 120, (some (118, true)), .build [.u 64 0, .u 64 0, .u 64 0, .u 64 0, .u 64 0, .u 64 0, .u 64 0, .u 64 0, .u 64 0] []⟩,
 ⟨some 121, (some (118, true)), .eqv (.agg [.u 64, .u 64, .u 64, .u 64, .u 64, .u 64, .u 64, .u 64, .u 64]) false (.t 119) (.t 120)⟩,
 op 122 (.pick (.t 118) (.t 121) (.c (.b false))),
 mv 123 122,
 ⟨some 124, (some (123, true)), .ldl 17 (some 9) (.t 17)⟩,
 ⟨some 125, (some (123, true)), .build [.u 64 0, .u 64 0, .u 64 0, .u 64 0, .u 64 0, .u 64 0, .u 64 0, .u 64 0, .u 64 0] []⟩,
 ⟨some 126, (some (123, true)), .eqv (.agg [.u 64, .u 64, .u 64, .u 64, .u 64, .u 64, .u 64, .u 64, .u 64]) false (.t 124) (.t 125)⟩,
 op 127 (.pick (.t 123) (.t 126) (.c (.b false))),
 mv 128 127,
 ⟨some 129, (some (128, true)), .call f_curvetlaw6_awake [] []⟩,
 op 130 (.pick (.t 128) (.t 129) (.c (.b false))),
 mv 6 130] [6]) (
 .ret)) (
 .reg [] [9, 10, 11, 12, 13, 14, 15, 16, 17, 18, 19, 20]))) (
 .seq (
 .reg [
 op 131 (.lit true 1 1 [.u 32 0] [(0, 1, (.c (.u 32 1)))]),
 mv 132 10,
 op 133 (.bin .mul (.c (.i 64)) (.t 132)),
 op 134 (.call f_curvetref1_Shl [] [(.t 131), (.t 133)]),
 mv 135 9,
 op 136 (.call f_curvetref1_Mod [] [(.t 134), (.t 135)]),
 mv 21 136] [9, 11, 12, 13, 14, 15, 16, 17, 18, 19, 20, 21]) (
 .seq (
 .reg [
 mv 138 21,
 mv 139 9,
 op 140 (.call f_curvetref1_Inverse [] [(.t 138), (.t 139)]),
 mv 137 140,
 op 141 (.ext 0 (.t 137)),
 op 142 (.ext 1 (.t 137)),
 mv 22 141,
 mv 23 142] [9, 11, 12, 13, 14, 15, 16, 17, 18, 19, 20, 21, 22]) (
 .seq (
 .seq (
 .reg [
 mv 143 14,
 op 144 (.call f_curvetlaw0_Num [] [(.t 143)]),
 op 145 (.bin .neq (.t 144) (.c (.i 0))),
 mv 146 145,
 ⟨some 147, (some (146, false)), .ldl 13 (some 9) (.t 13)⟩,
 ⟨some 148, (some (146, false)), .mov (.t 11)⟩,
 ⟨some 149, (some (146, false)), .mov (.t 21)⟩,
 ⟨some 150, (some (146, false)), .mov (.t 9)⟩,
 ⟨some 151, (some (146, false)), .call f_curvetref1_MulMod [] [(.t 148), (.t 149), (.t 150)]⟩,
 ⟨some 152, (some (146, false)), .call f_curvetref1_Nat [] [(.t 151)]⟩,
 ⟨some 153, (some (146, false)), .eqv (.agg [.u 64, .u 64, .u 64, .u 64, .u 64, .u 64, .u 64, .u 64, .u 64]) true (.t 147) (.t 152)⟩,
 op 154 (.pick (.t 146) (.c (.b true)) (.t 153)),
 mv 155 154,
 ⟨some 156, (some (155, false)), .mov (.t 16)⟩,
 ⟨some 157, (some (155, false)), .call f_curvetlaw0_Num [] [(.t 156)]⟩,
 ⟨some 158, (some (155, false)), .bin .neq (.t 157) (.c (.i 0))⟩,
 op 159 (.pick (.t 155) (.c (.b true)) (.t 158)),
 mv 160 159,
 ⟨some 161, (some (160, false)), .ldl 15 (some 9) (.t 15)⟩,
 ⟨some 162, (some (160, false)), .mov (.t 11)⟩,
 ⟨some 163, (some (160, false)), .mov (.t 22)⟩,
 ⟨some 164, (some (160, false)), .mov (.t 9)⟩,
 ⟨some 165, (some (160, false)), .call f_curvetref1_MulMod [] [(.t 162), (.t 163), (.t 164)]⟩,
 ⟨some 166, (some (160, false)), .call f_curvetref1_Nat [] [(.t 165)]⟩,
 ⟨some 167, (some (160, false)), .eqv (.agg [.u 64, .u 64, .u 64, .u 64, .u 64, .u 64, .u 64, .u 64, .u 64]) true (.t 161) (.t 166)⟩,
 op 168 (.pick (.t 160) (.c (.b true)) (.t 167))] [9, 11, 12, 17, 18, 19, 20, 21, 22, 168]) (
 .cond (.t 168) (
 .seq (
 .reg [
 op 6 (.mov (.c (.b false)))] [6]) (
 .ret)) (
 .reg [] [9, 11, 12, 17, 18, 19, 20, 21, 22]))) (
 .seq (
 .seq (
 .reg [
 mv 169 12,
 mv 170 9,
 op 171 (.call f_curvetref1_Cmp [] [(.t 169), (.t 170)]),
 op 172 (.bin .geq (.t 171) (.c (.i 0)))] [9, 11, 12, 17, 18, 19, 20, 21, 22, 172]) (
 .cond (.t 172) (
 .seq (
 .reg [
 mv 173 18,
 op 174 (.call f_curvetlaw0_Num [] [(.t 173)]),
 op 175 (.bin .eql (.t 174) (.c (.i 601))),
 mv 176 175,
 ⟨some 177, (some (176, true)), .ldl 17 (some 9) (.t 17)⟩,
 ⟨some 178, (some (176, true)), .build [.u 64 0, .u 64 0, .u 64 0, .u 64 0, .u 64 0, .u 64 0, .u 64 0, .u 64 0, .u 64 0] []⟩,
 ⟨some 179, (some (176, true)), .eqv (.agg [.u 64, .u 64, .u 64, .u 64, .u 64, .u 64, .u 64, .u 64, .u 64]) false (.t 177) (.t 178)⟩,
 op 180 (.pick (.t 176) (.t 179) (.c (.b false))),
 mv 181 180,
 ⟨some 182, (some (181, true)), .call f_curvetlaw6_awake [] []⟩,
 op 183 (.pick (.t 181) (.t 182) (.c (.b false))),
 mv 6 183] [6]) (
 .ret)) (
 .reg [] [9, 11, 12, 17, 18, 19, 20, 21, 22]))) (
 .seq (
 .seq (
 .reg [
 mv 184 18,
 op 185 (.call f_curvetlaw0_Num [] [(.t 184)]),
 op 186 (.bin .neq (.t 185) (.c (.i 0))),
 mv 187 186,
 ⟨some 188, (some (187, false)), .ldl 17 (some 9) (.t 17)⟩,
 ⟨some 189, (some (187, false)), .mov (.t 11)⟩,
 ⟨some 190, (some (187, false)), .mov (.t 12)⟩,
 ⟨some 191, (some (187, false)), .mov (.t 9)⟩,
 ⟨some 192, (some (187, false)), .call f_curvetref1_MulMod [] [(.t 189), (.t 190), (.t 191)]⟩,
 ⟨some 193, (some (187, false)), .mov (.t 22)⟩,
 ⟨some 194, (some (187, false)), .mov (.t 9)⟩,
 ⟨some 195, (some (187, false)), .call f_curvetref1_MulMod [] [(.t 192), (.t 193), (.t 194)]⟩,
 ⟨some 196, (some (187, false)), .call f_curvetref1_Nat [] [(.t 195)]⟩,
 ⟨some 197, (some (187, false)), .eqv (.agg [.u 64, .u 64, .u 64, .u 64, .u 64, .u 64, .u 64, .u 64, .u 64]) true (.t 188) (.t 196)⟩,
 op 198 (.pick (.t 187) (.c (.b true)) (.t 197))] [9, 11, 19, 20, 21, 198]) (
 .cond (.t 198) (
 .seq (
 .reg [
 op 6 (.mov (.c (.b false)))] [6]) (
 .ret)) (
 .reg [] [9, 11, 19, 20, 21]))) (
 .seq (
 .reg [
 mv 200 11,
 mv 201 9,
 op 202 (.call f_curvetref1_Inverse [] [(.t 200), (.t 201)]),
 mv 199 202,
 op 203 (.ext 0 (.t 199)),
 op 204 (.ext 1 (.t 199)),
 mv 24 203,
 mv 25 204] [9, 19, 20, 21, 24, 25]) (
 .seq (
 .seq (
 .reg [
 mv 205 25,
 op 206 (.un .not (.t 205))] [9, 19, 20, 21, 24, 206]) (
 .cond (.t 206) (
 .seq (
 .reg [
 mv 207 20,
 op 208 (.call f_curvetlaw0_Num [] [(.t 207)]),
 op 209 (.bin .eql (.t 208) (.c (.i 401))),
 mv 210 209,
 ⟨some 211, (some (210, true)), .ldl 19 (some 9) (.t 19)⟩,
 ⟨some 212, (some (210, true)), .build [.u 64 0, .u 64 0, .u 64 0, .u 64 0, .u 64 0, .u 64 0, .u 64 0, .u 64 0, .u 64 0] []⟩,
 ⟨some 213, (some (210, true)), .eqv (.agg [.u 64, .u 64, .u 64, .u 64, .u 64, .u 64, .u 64, .u 64, .u 64]) false (.t 211) (.t 212)⟩,
 op 214 (.pick (.t 210) (.t 213) (.c (.b false))),
 mv 215 214,
 ⟨some 216, (some (215, true)), .call f_curvetlaw6_awake [] []⟩,
 op 217 (.pick (.t 215) (.t 216) (.c (.b false))),
 mv 6 217] [6]) (
 .ret)) (
 .reg [] [9, 19, 20, 21, 24]))) (
 .seq (
 .reg [
 mv 218 20,
 op 219 (.call f_curvetlaw0_Num [] [(.t 218)]),
 op 220 (.bin .eql (.t 219) (.c (.i 0))),
 mv 221 220,
 ⟨some 222, (some (221, true)), .ldl 19 (some 9) (.t 19)⟩,
 ⟨some 223, (some (221, true)), .mov (.t 24)⟩,
 ⟨some 224, (some (221, true)), .mov (.t 21)⟩,
 ⟨some 225, (some (221, true)), .mov (.t 9)⟩,
 ⟨some 226, (some (221, true)), .call f_curvetref1_MulMod [] [(.t 223), (.t 224), (.t 225)]⟩,
 ⟨some 227, (some (221, true)), .mov (.t 21)⟩,
 ⟨some 228, (some (221, true)), .mov (.t 9)⟩,
 ⟨some 229, (some (221, true)), .call f_curvetref1_MulMod [] [(.t 226), (.t 227), (.t 228)]⟩,
 ⟨some 230, (some (221, true)), .call f_curvetref1_Nat [] [(.t 229)]⟩,
 ⟨some 231, (some (221, true)), .eqv (.agg [.u 64, .u 64, .u 64, .u 64, .u 64, .u 64, .u 64, .u 64, .u 64]) false (.t 222) (.t 230)⟩,
 op 232 (.pick (.t 221) (.t 231) (.c (.b false))),
 mv 233 232,
 ⟨some 234, (some (233, true)), .call f_curvetlaw6_awake [] []⟩,
 op 235 (.pick (.t 233) (.t 234) (.c (.b false))),
 mv 6 235] [6]) (
 .ret)))))))))))))))))))))
def m_curvetlaw6_Monts : MFn := ⟨c_curvetlaw6_Monts, [.tmp 6], 0⟩

/-- curvet/curvetlaw6.MontOnes -/
def c_curvetlaw6_MontOnes : Stm :=
 .seq (
 .reg [
 op 2 (.boxv (.t 0)),
 op 3 (.boxv (.t 1)),
 op 4 (.mov (.c (.b false)))] [2, 3]) (
 .seq (
 .seq (
 .reg [
 op 23 (.call f_curvetlaw6_awake [] []),
 op 24 (.un .not (.t 23))] [2, 3, 24]) (
 .cond (.t 24) (
 .seq (
 .reg [
 op 4 (.mov (.c (.b false)))] [4]) (
 .ret)) (
 .reg [] [2, 3]))) (
 .seq (
 .reg [
 op 25 (.ld true (some 9) (.t 2)),
 op 5 (.box (.c (.agg [.u 64 0, .u 64 0, .u 64 0, .u 64 0, .u 64 0, .u 64 0, .u 64 0, .u 64 0, .u 64 0]))),
 ⟨none, none, .stl 5 9 (.t 5) (.t 25)⟩] [3, 5]) (
 .seq (
 .reg [
 op 26 (.off 0 (.t 5)),
 op 27 (.idx 9 1 (.t 26) (.c (.i 0))),
 op 28 (.ldl 5 none (.t 27)),
 op 29 (.bin .or (.t 28) (.c (.u 64 3))),
 op 30 (.off 0 (.t 5)),
 op 31 (.idx 9 1 (.t 30) (.c (.i 0))),
 ⟨none, none, .stl 5 1 (.t 31) (.t 29)⟩] [3, 5]) (
 .seq (
 .reg [
 op 33 (.ldl 5 (some 9) (.t 5)),
 op 34 (.call f_mont_New [] [(.t 33)]),
 mv 32 34,
 op 35 (.ext 0 (.t 32)),
 op 36 (.ext 1 (.t 32)),
 mv 6 35,
 mv 7 36] [3, 5, 6, 7]) (
 .seq (
 .seq (
 .reg [
 mv 37 7,
 op 38 (.call f_curvetlaw0_Num [] [(.t 37)]),
 op 39 (.bin .neq (.t 38) (.c (.i 0)))] [3, 5, 6, 39]) (
 .cond (.t 39) (
 .seq (
 .reg [
 op 4 (.mov (.c (.b false)))] [4]) (
 .ret)) (
 .reg [] [3, 5, 6]))) (
 .seq (
 .reg [
 op 41 (.ld true (some 9) (.t 3)),
 op 42 (.ldl 5 (some 9) (.t 5)),
 op 43 (.call f_divide_Div [] [(.t 41), (.t 42)]),
 mv 40 43,
 op 44 (.ext 0 (.t 40)),
 op 45 (.ext 1 (.t 40)),
 op 46 (.ext 2 (.t 40)),
 op 8 (.box (.c (.agg [.u 64 0, .u 64 0, .u 64 0, .u 64 0, .u 64 0, .u 64 0, .u 64 0, .u 64 0, .u 64 0]))),
 op 9 (.box (.c (.agg [.u 64 0, .u 64 0, .u 64 0, .u 64 0, .u 64 0, .u 64 0, .u 64 0, .u 64 0, .u 64 0]))),
 ⟨none, none, .stl 8 9 (.t 8) (.t 44)⟩,
 ⟨none, none, .stl 9 9 (.t 9) (.t 45)⟩,
 mv 10 46] [5, 6, 9]) (
 .seq (
 .reg [
 mv 48 6,
 op 49 (.call f_curvetlaw0_One [] [(.c (.u 64 1))]),
 op 50 (.call f_mont_Mont_To [] [(.t 48), (.t 49)]),
 mv 47 50,
 op 51 (.ext 0 (.t 47)),
 op 52 (.ext 1 (.t 47)),
 op 11 (.box (.c (.agg [.u 64 0, .u 64 0, .u 64 0, .u 64 0, .u 64 0, .u 64 0, .u 64 0, .u 64 0, .u 64 0]))),
 ⟨none, none, .stl 11 9 (.t 11) (.t 51)⟩,
 mv 12 52] [5, 6, 9, 11, 12]) (
 .seq (
 .reg [
 mv 54 6,
 op 55 (.ldl 9 (some 9) (.t 9)),
 op 56 (.ldl 11 (some 9) (.t 11)),
 op 57 (.call f_mont_Mont_Mul [] [(.t 54), (.t 55), (.t 56)]),
 mv 53 57,
 op 58 (.ext 0 (.t 53)),
 op 59 (.ext 1 (.t 53)),
 op 13 (.box (.c (.agg [.u 64 0, .u 64 0, .u 64 0, .u 64 0, .u 64 0, .u 64 0, .u 64 0, .u 64 0, .u 64 0]))),
 ⟨none, none, .stl 13 9 (.t 13) (.t 58)⟩,
 mv 14 59] [5, 6, 9, 11, 12, 13, 14]) (
 .seq (
 .reg [
 mv 61 6,
 op 62 (.ldl 11 (some 9) (.t 11)),
 op 63 (.call f_mont_Mont_From [] [(.t 61), (.t 62)]),
 mv 60 63,
 op 64 (.ext 0 (.t 60)),
 op 65 (.ext 1 (.t 60)),
 op 15 (.box (.c (.agg [.u 64 0, .u 64 0, .u 64 0, .u 64 0, .u 64 0, .u 64 0, .u 64 0, .u 64 0, .u 64 0]))),
 ⟨none, none, .stl 15 9 (.t 15) (.t 64)⟩,
 mv 16 65] [5, 6, 9, 11, 12, 13, 14, 15, 16]) (
 .seq (
 .reg [
 mv 67 6,
 op 68 (.ldl 9 (some 9) (.t 9)),
 op 69 (.call f_mont_Mont_Inv [] [(.t 67), (.t 68)]),
 mv 66 69,
 op 70 (.ext 0 (.t 66)),
 op 71 (.ext 1 (.t 66)),
 op 17 (.box (.c (.agg [.u 64 0, .u 64 0, .u 64 0, .u 64 0, .u 64 0, .u 64 0, .u 64 0, .u 64 0, .u 64 0]))),
 ⟨none, none, .stl 17 9 (.t 17) (.t 70)⟩,
 mv 18 71] [5, 6, 9, 11, 12, 13, 14, 15, 16, 17, 18]) (
 .seq (
 .reg [
 mv 73 6,
 op 74 (.ldl 9 (some 9) (.t 9)),
 op 75 (.ldl 17 (some 9) (.t 17)),
 op 76 (.call f_mont_Mont_Mul [] [(.t 73), (.t 74), (.t 75)]),
 mv 72 76,
 op 77 (.ext 0 (.t 72)),
 op 78 (.ext 1 (.t 72)),
 op 19 (.box (.c (.agg [.u 64 0, .u 64 0, .u 64 0, .u 64 0, .u 64 0, .u 64 0, .u 64 0, .u 64 0, .u 64 0]))),
 ⟨none, none, .stl 19 9 (.t 19) (.t 77)⟩,
 mv 20 78] [5, 9, 11, 12, 13, 14, 15, 16, 18, 19]) (
 .seq (
 .reg [
 op 80 (.ldl 9 (some 9) (.t 9)),
 op 81 (.ldl 5 (some 9) (.t 5)),
 op 82 (.call f_divide_Inverse [] [(.t 80), (.t 81)]),
 mv 79 82,
 op 83 (.ext 0 (.t 79)),
 op 84 (.ext 1 (.t 79)),
 op 21 (.box (.c (.agg [.u 64 0, .u 64 0, .u 64 0, .u 64 0, .u 64 0, .u 64 0, .u 64 0, .u 64 0, .u 64 0]))),
 ⟨none, none, .stl 21 9 (.t 21) (.t 83)⟩,
 mv 22 84] [9, 11, 12, 13, 14, 15, 16, 18, 19, 22]) (
 .seq (
 .reg [
 mv 85 12,
 op 86 (.call f_curvetlaw0_Num [] [(.t 85)]),
 op 87 (.bin .eql (.t 86) (.c (.i 0))),
 mv 88 87,
 ⟨some 89, (some (88, true)), .mov (.t 14)⟩,
 ⟨some 90, (some (88, true)), .call f_curvetlaw0_Num [] [(.t 89)]⟩,
 ⟨some 91, (some (88, true)), .bin .eql (.t 90) (.c (.i 0))⟩,
 op 92 (.pick (.t 88) (.t 91) (.c (.b false))),
 mv 93 92,
 ⟨some 94, (some (93, true)), .mov (.t 16)⟩,
 ⟨some 95, (some (93, true)), .call f_curvetlaw0_Num [] [(.t 94)]⟩,
 ⟨some 96, (some (93, true)), .bin .eql (.t 95) (.c (.i 0))⟩,
 op 97 (.pick (.t 93) (.t 96) (.c (.b false))),
 mv 98 97,
 ⟨some 99, (some (98, true)), .ldl 13 (some 9) (.t 13)⟩,
 ⟨some 100, (some (98, true)), .ldl 9 (some 9) (.t 9)⟩,
 ⟨some 101, (some (98, true)), .eqv (.agg [.u 64, .u 64, .u 64, .u 64, .u 64, .u 64, .u 64, .u 64, .u 64]) false (.t 99) (.t 100)⟩,
 op 102 (.pick (.t 98) (.t 101) (.c (.b false))),
 mv 103 102,
 ⟨some 104, (some (103, true)), .ldl 15 (some 9) (.t 15)⟩,
 ⟨some 105, (some (103, true)), .call f_curvetlaw0_One [] [(.c (.u 64 1))]⟩,
 ⟨some 106, (some (103, true)), .eqv (.agg [.u 64, .u 64, .u 64, .u 64, .u 64, .u 64, .u 64, .u 64, .u 64]) false (.t 104) (.t 105)⟩,
 op 107 (.pick (.t 103) (.t 106) (.c (.b false))),
 mv 108 107,
 ⟨some 109, (some (108, true)), .mov (.t 18)⟩,
 ⟨some 110, (some (108, true)), .call f_curvetlaw0_Num [] [(.t 109)]⟩,
 ⟨some 111, (some (108, true)), .mov (.t 22)⟩,
 ⟨some 112, (some (108, true)), .call f_curvetlaw0_Num [] [(.t 111)]⟩,
 ⟨some 113, (some (108, true)), .bin .eql (.t 110) (.t 112)⟩,
 op 114 (.pick (.t 108) (.t 113) (.c (.b false))),
 mv 115 114,
 ⟨some 116, (some (115, true)), .mov (.t 18)⟩,
 ⟨some 117, (some (115, true)), .call f_curvetlaw0_Num [] [(.t 116)]⟩,
 ⟨some 118, (some (115, true)), .bin .neq (.t 117) (.c (.i 0))⟩,
 ⟨some 119, (some (115, true)), .mov (.t 118)⟩,
 ⟨some 120, (some (119, false)), .ldl 19 (some 9) (.t 19)⟩,
 ⟨some 121, (some (119, false)), .ldl 11 (some 9) (.t 11)⟩,
 ⟨some 122, (some (119, false)), .eqv (.agg [.u 64, .u 64, .u 64, .u 64, .u 64, .u 64, .u 64, .u 64, .u 64]) false (.t 120) (.t 121)⟩,
 ⟨some 123, (some (115, true)), .pick (.t 119) (.c (.b true)) (.t 122)⟩,
 op 124 (.pick (.t 115) (.t 123) (.c (.b false))),
 mv 4 124] [4]) (
 .ret))))))))))))))
def m_curvetlaw6_MontOnes : MFn := ⟨c_curvetlaw6_MontOnes, [.tmp 4], 0⟩

/-- curvet/curvetlaw6.awake -/
def c_curvetlaw6_awake : Stm :=
 .seq (
 .reg [
 op 0 (.mov (.c (.b false)))] []) (
 .seq (
 .reg [
 op 12 (.call f_curvetlaw0_One [] [(.c (.u 64 7))]),
 op 13 (.call f_mont_New [] [(.t 12)]),
 mv 11 13,
 op 14 (.ext 0 (.t 11)),
 op 15 (.ext 1 (.t 11)),
 mv 1 14,
 mv 2 15] [1, 2]) (
 .seq (
 .seq (
 .reg [
 mv 16 2,
 op 17 (.call f_curvetlaw0_Num [] [(.t 16)]),
 op 18 (.bin .neq (.t 17) (.c (.i 0))),
 mv 19 18,
 ⟨some 20, (some (19, false)), .mov (.t 1)⟩,
 ⟨some 21, (some (19, false)), .eqv .ptr false (.t 20) (.c (.nilp))⟩,
 op 22 (.pick (.t 19) (.c (.b true)) (.t 21))] [1, 22]) (
 .cond (.t 22) (
 .seq (
 .reg [
 op 0 (.mov (.c (.b false)))] [0]) (
 .ret)) (
 .reg [] [1]))) (
 .seq (
 .reg [
 mv 24 1,
 op 25 (.call f_curvetlaw0_One [] [(.c (.u 64 3))]),
 op 26 (.call f_mont_Mont_To [] [(.t 24), (.t 25)]),
 mv 23 26,
 op 27 (.ext 0 (.t 23)),
 op 28 (.ext 1 (.t 23)),
 op 3 (.box (.c (.agg [.u 64 0, .u 64 0, .u 64 0, .u 64 0, .u 64 0, .u 64 0, .u 64 0, .u 64 0, .u 64 0]))),
 ⟨none, none, .stl 3 9 (.t 3) (.t 27)⟩,
 mv 4 28] [1, 3, 4]) (
 .seq (
 .reg [
 mv 30 1,
 op 31 (.ldl 3 (some 9) (.t 3)),
 op 32 (.call f_mont_Mont_From [] [(.t 30), (.t 31)]),
 mv 29 32,
 op 33 (.ext 0 (.t 29)),
 op 34 (.ext 1 (.t 29)),
 op 5 (.box (.c (.agg [.u 64 0, .u 64 0, .u 64 0, .u 64 0, .u 64 0, .u 64 0, .u 64 0, .u 64 0, .u 64 0]))),
 ⟨none, none, .stl 5 9 (.t 5) (.t 33)⟩,
 mv 6 34] [1, 3, 4, 5, 6]) (
 .seq (
 .reg [
 mv 36 1,
 op 37 (.call f_curvetlaw0_One [] [(.c (.u 64 7))]),
 op 38 (.call f_mont_Mont_To [] [(.t 36), (.t 37)]),
 mv 35 38,
 op 39 (.ext 0 (.t 35)),
 op 40 (.ext 1 (.t 35)),
 op 7 (.box (.c (.agg [.u 64 0, .u 64 0, .u 64 0, .u 64 0, .u 64 0, .u 64 0, .u 64 0, .u 64 0, .u 64 0]))),
 ⟨none, none, .stl 7 9 (.t 7) (.t 39)⟩,
 mv 8 40] [1, 3, 4, 5, 6, 8]) (
 .seq (
 .reg [
 op 42 (.call f_curvetlaw0_One [] [(.c (.u 64 8))]),
 op 43 (.call f_mont_New [] [(.t 42)]),
 mv 41 43,
 op 44 (.ext 0 (.t 41)),
 op 45 (.ext 1 (.t 41)),
 mv 9 44,
 mv 10 45] [1, 3, 4, 5, 6, 8, 10]) (
 .seq (
 .reg [
 mv 46 1,
 op 47 (.call f_mont_Mont_Words [] [(.t 46)]),
 op 48 (.bin .eql (.t 47) (.c (.i 1))),
 mv 49 48,
 ⟨some 50, (some (49, true)), .ldl 3 (some 9) (.t 3)⟩,
 ⟨some 51, (some (49, true)), .call f_curvetlaw0_One [] [(.c (.u 64 6))]⟩,
 ⟨some 52, (some (49, true)), .eqv (.agg [.u 64, .u 64, .u 64, .u 64, .u 64, .u 64, .u 64, .u 64, .u 64]) false (.t 50) (.t 51)⟩,
 op 53 (.pick (.t 49) (.t 52) (.c (.b false))),
 mv 54 53,
 ⟨some 55, (some (54, true)), .mov (.t 4)⟩,
 ⟨some 56, (some (54, true)), .call f_curvetlaw0_Num [] [(.t 55)]⟩,
 ⟨some 57, (some (54, true)), .bin .eql (.t 56) (.c (.i 0))⟩,
 op 58 (.pick (.t 54) (.t 57) (.c (.b false))),
 mv 59 58,
 ⟨some 60, (some (59, true)), .ldl 5 (some 9) (.t 5)⟩,
 ⟨some 61, (some (59, true)), .call f_curvetlaw0_One [] [(.c (.u 64 3))]⟩,
 ⟨some 62, (some (59, true)), .eqv (.agg [.u 64, .u 64, .u 64, .u 64, .u 64, .u 64, .u 64, .u 64, .u 64]) false (.t 60) (.t 61)⟩,
 op 63 (.pick (.t 59) (.t 62) (.c (.b false))),
 mv 64 63,
 ⟨some 65, (some (64, true)), .mov (.t 6)⟩,
 ⟨some 66, (some (64, true)), .call f_curvetlaw0_Num [] [(.t 65)]⟩,
 ⟨some 67, (some (64, true)), .bin .eql (.t 66) (.c (.i 0))⟩,
 op 68 (.pick (.t 64) (.t 67) (.c (.b false))),
 mv 69 68,
 ⟨some 70, (some (69, true)), .mov (.t 8)⟩,
 ⟨some 71, (some (69, true)), .call f_curvetlaw0_Num [] [(.t 70)]⟩,
 ⟨some 72, (some (69, true)), .bin .eql (.t 71) (.c (.i 601))⟩,
 op 73 (.pick (.t 69) (.t 72) (.c (.b false))),
 mv 74 73,
 ⟨some 75, (some (74, true)), .mov (.t 10)⟩,
 ⟨some 76, (some (74, true)), .call f_curvetlaw0_Num [] [(.t 75)]⟩,
 ⟨some 77, (some (74, true)), .bin .eql (.t 76) (.c (.i 600))⟩,
 op 78 (.pick (.t 74) (.t 77) (.c (.b false))),
 mv 0 78] [0]) (
 .ret))))))))
def m_curvetlaw6_awake : MFn := ⟨c_curvetlaw6_awake, [.tmp 0], 0⟩

/-- curvet/mont.New -/
def c_mont_New : Stm :=
 .seq (
 .reg [
 op 1 (.boxv (.t 0)),
 op 2 (.mov (.c (.nilp))),
 op 3 (.mov (.c (.i 0)))] [1]) (
 .seq (
 .seq (
 .reg [
 op 9 (.off 0 (.t 1)),
 op 10 (.idx 9 1 (.t 9) (.c (.i 0))),
 op 11 (.ld true none (.t 10)),
 op 12 (.bin .and (.t 11) (.c (.u 64 1))),
 op 13 (.bin .eql (.t 12) (.c (.u 64 0))),
 mv 14 13,
 ⟨some 15, (some (14, false)), .ld true (some 9) (.t 1)⟩,
 ⟨some 16, (some (14, false)), .call f_nat_Small [] [(.c (.i 3))]⟩,
 ⟨some 17, (some (14, false)), .call f_nat_Cmp [] [(.t 15), (.t 16)]⟩,
 ⟨some 18, (some (14, false)), .bin .lss (.t 17) (.c (.i 0))⟩,
 op 19 (.pick (.t 14) (.c (.b true)) (.t 18))] [1, 19]) (
 .cond (.t 19) (
 .seq (
 .reg [
 op 2 (.mov (.c (.nilp))),
 op 3 (.mov (.c (.i 600)))] [2, 3]) (
 .ret)) (
 .reg [] [1]))) (
 .seq (
 .reg [
 op 20 (.ld true (some 9) (.t 1)),
 op 21 (.ld true (some 9) (.t 1)),
 op 22 (.call f_nat_Bits [] [(.t 21)]),
 op 23 (.bin .add (.t 22) (.c (.i 63))),
 op 24 (.bin .quo (.t 23) (.c (.i 64))),
 op 25 (.build [.u 64 0, .u 64 0, .u 64 0, .u 64 0, .u 64 0, .u 64 0, .u 64 0, .u 64 0, .u 64 0, .i 0, .u 64 0, .u 64 0, .u 64 0, .u 64 0, .u 64 0, .u 64 0, .u 64 0, .u 64 0, .u 64 0, .u 64 0] [(0, 9, (.t 20)), (9, 1, (.t 24))]),
 op 26 (.boxh (.t 25)),
 mv 4 26] [1, 4]) (
 .seq (
 .reg [
 op 27 (.off 0 (.t 1)),
 op 28 (.idx 9 1 (.t 27) (.c (.i 0))),
 op 29 (.ld true none (.t 28)),
 mv 5 29] [1, 4, 5]) (
 .seq (
 .seq (
 .reg [
 op 30 (.mov (.c (.i 0)))] [1, 4, 5, 30]) (
 .block 0 (
 .loop [1, 4, 5, 30] (
 .seq (
 .reg [
 op 31 (.bin .lss (.t 30) (.c (.i 5)))] [1, 4, 5, 30, 31]) (
 .seq (
 .cond (.t 31) (
 .reg [] [1, 4, 5, 30]) (
 .exit 0 [1, 4, 5])) (
 .seq (
 .block 1 (
 .reg [
 mv 32 5,
 op 33 (.off 0 (.t 1)),
 op 34 (.idx 9 1 (.t 33) (.c (.i 0))),
 op 35 (.ld true none (.t 34)),
 mv 36 5,
 op 37 (.bin .mul (.t 35) (.t 36)),
 op 38 (.bin .sub (.c (.u 64 2)) (.t 37)),
 op 39 (.bin .mul (.t 32) (.t 38)),
 mv 5 39] [1, 4, 5, 30])) (
 .reg [
 op 40 (.bin .add (.t 30) (.c (.i 1))),
 mv 30 40] [1, 4, 5, 30]))))))) (
 .seq (
 .reg [
 mv 41 4,
 mv 42 5,
 op 43 (.un .neg (.t 42)),
 op 44 (.nck (.t 41)),
 op 45 (.off 10 (.t 44)),
 ⟨none, none, .st 1 (.t 45) (.t 43)⟩] [1, 4]) (
 .seq (
 .reg [
 op 46 (.ld true (some 9) (.t 1)),
 op 47 (.call f_divide_By [] [(.t 46)]),
 op 6 (.box (.c (.agg [.nilp]))),
 ⟨none, none, .stl 6 1 (.t 6) (.t 47)⟩] [4, 6]) (
 .seq (
 .reg [
 op 48 (.ldl 6 (some 1) (.t 6)),
 op 49 (.call f_nat_Small [] [(.c (.i 1))]),
 op 50 (.call f_nat_Small [] [(.c (.i 1))]),
 op 51 (.call f_divide_Modulus_Mul [] [(.t 48), (.t 49), (.t 50)]),
 op 7 (.box (.c (.agg [.u 64 0, .u 64 0, .u 64 0, .u 64 0, .u 64 0, .u 64 0, .u 64 0, .u 64 0, .u 64 0]))),
 ⟨none, none, .stl 7 9 (.t 7) (.t 51)⟩] [4, 6, 7]) (
 .seq (
 .seq (
 .reg [
 mv 52 4,
 op 53 (.nck (.t 52)),
 op 54 (.off 9 (.t 53)),
 op 55 (.ld false none (.t 54)),
 op 56 (.mov (.c (.i 0)))] [4, 6, 7, 55, 56]) (
 .block 2 (
 .loop [4, 6, 7, 55, 56] (
 .seq (
 .reg [
 op 57 (.bin .lss (.t 56) (.t 55))] [4, 6, 7, 55, 56, 57]) (
 .seq (
 .cond (.t 57) (
 .reg [] [4, 6, 7, 55, 56]) (
 .exit 2 [4, 6, 7])) (
 .seq (
 .block 3 (
 .seq (
 .reg [
 op 8 (.box (.c (.agg [.u 64 0, .u 64 0, .u 64 0, .u 64 0, .u 64 0, .u 64 0, .u 64 0, .u 64 0, .u 64 0, .u 64 0, .u 64 0, .u 64 0, .u 64 0, .u 64 0, .u 64 0, .u 64 0, .u 64 0, .u 64 0])))] [4, 6, 7, 8, 55, 56]) (
 .seq (
 .reg [
 op 58 (.off 0 (.t 8)),
 op 59 (.sla true 18 1 (.t 58) (some (.c (.i 1))) none),
 op 60 (.off 0 (.t 7)),
 op 61 (.sla true 9 1 (.t 60) none none),
 op 62 (.cpyl 8 1 [7] (.t 59) (.t 61))] [4, 6, 7, 8, 55, 56]) (
 .reg [
 op 63 (.ldl 6 (some 1) (.t 6)),
 op 64 (.ldl 8 (some 18) (.t 8)),
 op 65 (.call f_divide_Modulus_Rest [] [(.t 63), (.t 64)]),
 ⟨none, none, .stl 7 9 (.t 7) (.t 65)⟩] [4, 6, 7, 55, 56])))) (
 .reg [
 op 66 (.bin .add (.t 56) (.c (.i 1))),
 mv 56 66] [4, 6, 7, 55, 56]))))))) (
 .seq (
 .reg [
 mv 67 4,
 op 68 (.ldl 6 (some 1) (.t 6)),
 op 69 (.ldl 7 (some 9) (.t 7)),
 op 70 (.ldl 7 (some 9) (.t 7)),
 op 71 (.call f_divide_Modulus_Mul [] [(.t 68), (.t 69), (.t 70)]),
 op 72 (.nck (.t 67)),
 op 73 (.off 11 (.t 72)),
 ⟨none, none, .st 9 (.t 73) (.t 71)⟩] [4]) (
 .seq (
 .reg [
 mv 74 4,
 mv 2 74,
 op 3 (.mov (.c (.i 0)))] [2, 3]) (
 .ret)))))))))))
def m_mont_New : MFn := ⟨c_mont_New, [.tmp 2, .tmp 3], 0⟩

/-- curvet/curvetlaw0.Num -/
def c_curvetlaw0_Num : Stm :=
 .seq (
 .reg [
 op 2 (.mov (.c (.i 0)))] [0]) (
 .seq (
 .reg [
 mv 3 0,
 mv 2 3] [2]) (
 .ret))
def m_curvetlaw0_Num : MFn := ⟨c_curvetlaw0_Num, [.tmp 2], 0⟩

/-- curvet/curvetref1.From -/
def c_curvetref1_From : Stm :=
 .seq (
 .reg [
 op 1 (.boxv (.t 0)),
 op 2 (.mov (.c (.vs 0 [])))] [1]) (
 .seq (
 .reg [
 op 5 (.mks 1 4 [.u 32 0] (.c (.i 18)) (.c (.i 18))),
 mv 3 5] [1, 3]) (
 .seq (
 .seq (
 .reg [
 op 4 (.mov (.c (.i 0)))] [1, 3, 4]) (
 .block 0 (
 .loop [1, 3, 4] (
 .seq (
 .seq (
 .reg [
 mv 6 4,
 op 7 (.bin .lss (.t 6) (.c (.i 9)))] [1, 3, 4, 7]) (
 .cond (.t 7) (
 .reg [] [1, 3, 4]) (
 .exit 0 [3]))) (
 .seq (
 .block 1 (
 .seq (
 .reg [
 mv 10 3,
 mv 11 4,
 op 12 (.bin .mul (.c (.i 2)) (.t 11)),
 mv 13 4,
 op 14 (.off 0 (.t 1)),
 op 15 (.idx 9 1 (.t 14) (.t 13)),
 op 16 (.ld true none (.t 15)),
 op 17 (.bin .and (.t 16) (.c (.u 64 4294967295))),
 op 18 (.cvu 32 (.t 17)),
 op 19 (.idxs 1 (.t 10) (.t 12)),
 ⟨none, none, .st 1 (.t 19) (.t 18)⟩] [1, 3, 4]) (
 .reg [
 mv 20 3,
 mv 21 4,
 op 22 (.bin .mul (.c (.i 2)) (.t 21)),
 op 23 (.bin .add (.t 22) (.c (.i 1))),
 mv 24 4,
 op 25 (.off 0 (.t 1)),
 op 26 (.idx 9 1 (.t 25) (.t 24)),
 op 27 (.ld true none (.t 26)),
 op 28 (.bin .shr (.t 27) (.c (.u 64 32))),
 op 29 (.cvu 32 (.t 28)),
 op 30 (.idxs 1 (.t 20) (.t 23)),
 ⟨none, none, .st 1 (.t 30) (.t 29)⟩] [1, 3, 4]))) (
 .reg [
 mv 8 4,
 op 9 (.bin .add (.t 8) (.c (.i 1))),
 mv 4 9] [1, 3, 4])))))) (
 .seq (
 .reg [
 mv 31 3,
 op 32 (.call f_curvetref1_trim [] [(.t 31)]),
 mv 2 32] [2]) (
 .ret))))
def m_curvetref1_From : MFn := ⟨c_curvetref1_From, [.tmp 2], 0⟩

/-- curvet/curvetref1.Nat -/
def c_curvetref1_Nat : Stm :=
 .seq (
 .reg [
 op 2 (.box (.c (.agg [.u 64 0, .u 64 0, .u 64 0, .u 64 0, .u 64 0, .u 64 0, .u 64 0, .u 64 0, .u 64 0])))] [0, 2]) (
 .seq (
 .reg [
 op 3 (.box (.c (.agg [.u 64 0, .u 64 0, .u 64 0, .u 64 0, .u 64 0, .u 64 0, .u 64 0, .u 64 0, .u 64 0])))] [0, 2, 3]) (
 .seq (
 .seq (
 .reg [
 op 4 (.mov (.c (.i 0)))] [0, 2, 3, 4]) (
 .block 0 (
 .loop [0, 2, 3, 4] (
 .seq (
 .seq (
 .reg [
 mv 5 4,
 op 6 (.bin .lss (.t 5) (.c (.i 9)))] [0, 2, 3, 4, 6]) (
 .cond (.t 6) (
 .reg [] [0, 2, 3, 4]) (
 .exit 0 [2, 3]))) (
 .seq (
 .block 1 (
 .reg [
 mv 9 4,
 mv 10 0,
 mv 11 4,
 op 12 (.bin .mul (.c (.i 2)) (.t 11)),
 op 13 (.call f_curvetref1_digit [] [(.t 10), (.t 12)]),
 mv 14 0,
 mv 15 4,
 op 16 (.bin .mul (.c (.i 2)) (.t 15)),
 op 17 (.bin .add (.t 16) (.c (.i 1))),
 op 18 (.call f_curvetref1_digit [] [(.t 14), (.t 17)]),
 op 19 (.bin .shl (.t 18) (.c (.u 64 32))),
 op 20 (.bin .or (.t 13) (.t 19)),
 op 21 (.off 0 (.t 3)),
 op 22 (.idx 9 1 (.t 21) (.t 9)),
 ⟨none, none, .stl 3 1 (.t 22) (.t 20)⟩] [0, 2, 3, 4])) (
 .reg [
 mv 7 4,
 op 8 (.bin .add (.t 7) (.c (.i 1))),
 mv 4 8] [0, 2, 3, 4])))))) (
 .seq (
 .reg [
 op 23 (.ldl 3 (some 9) (.t 3)),
 ⟨none, none, .stl 2 9 (.t 2) (.t 23)⟩] [2]) (
 .ret))))
def m_curvetref1_Nat : MFn := ⟨c_curvetref1_Nat, [.cell 2 (some 9)], 0⟩

/-- curvet/curvetref1.Mod -/
def c_curvetref1_Mod : Stm :=
 .seq (
 .reg [
 op 4 (.mov (.c (.vs 0 [])))] [0, 1]) (
 .seq (
 .reg [
 mv 8 0,
 mv 9 1,
 op 10 (.call f_curvetref1_Div [] [(.t 8), (.t 9)]),
 mv 7 10,
 op 11 (.ext 0 (.t 7)),
 op 12 (.ext 1 (.t 7)),
 mv 5 11,
 mv 6 12] [6]) (
 .seq (
 .reg [
 mv 13 6,
 mv 4 13] [4]) (
 .ret)))
def m_curvetref1_Mod : MFn := ⟨c_curvetref1_Mod, [.tmp 4], 0⟩

/-- (*curvet/mont.Mont).To -/
def c_mont_Mont_To : Stm :=
 .seq (
 .reg [
 op 3 (.boxv (.t 1)),
 op 4 (.box (.c (.agg [.u 64 0, .u 64 0, .u 64 0, .u 64 0, .u 64 0, .u 64 0, .u 64 0, .u 64 0, .u 64 0]))),
 op 5 (.mov (.c (.i 0)))] [0, 3, 4]) (
 .seq (
 .seq (
 .reg [
 mv 7 0,
 op 8 (.ld true (some 9) (.t 3)),
 op 9 (.lit true 9 1 [.u 64 0, .u 64 0, .u 64 0, .u 64 0, .u 64 0, .u 64 0, .u 64 0, .u 64 0, .u 64 0] [(0, 9, (.t 8))]),
 op 10 (.call f_mont_Mont_may [] [(.t 7), (.t 9)]),
 mv 6 10] [0, 3, 4, 6]) (
 .seq (
 .reg [
 mv 11 6,
 op 12 (.bin .neq (.t 11) (.c (.i 0)))] [0, 3, 4, 6, 12]) (
 .cond (.t 12) (
 .seq (
 .reg [
 op 13 (.build [.u 64 0, .u 64 0, .u 64 0, .u 64 0, .u 64 0, .u 64 0, .u 64 0, .u 64 0, .u 64 0] []),
 mv 14 6,
 ⟨none, none, .stl 4 9 (.t 4) (.t 13)⟩,
 mv 5 14] [4, 5]) (
 .ret)) (
 .reg [] [0, 3, 4])))) (
 .seq (
 .reg [
 mv 15 0,
 op 16 (.ld true (some 9) (.t 3)),
 mv 17 0,
 op 18 (.nck (.t 17)),
 op 19 (.off 11 (.t 18)),
 op 20 (.ld false (some 9) (.t 19)),
 op 21 (.call f_mont_Mont_Raw [] [(.t 15), (.t 16), (.t 20)]),
 ⟨none, none, .stl 4 9 (.t 4) (.t 21)⟩,
 op 5 (.mov (.c (.i 0)))] [4, 5]) (
 .ret)))
def m_mont_Mont_To : MFn := ⟨c_mont_Mont_To, [.cell 4 (some 9), .tmp 5], 0⟩

/-- (*curvet/mont.Mont).Mul -/
def c_mont_Mont_Mul : Stm :=
 .seq (
 .reg [
 op 4 (.boxv (.t 1)),
 op 5 (.boxv (.t 2)),
 op 6 (.box (.c (.agg [.u 64 0, .u 64 0, .u 64 0, .u 64 0, .u 64 0, .u 64 0, .u 64 0, .u 64 0, .u 64 0]))),
 op 7 (.mov (.c (.i 0)))] [0, 4, 5, 6]) (
 .seq (
 .seq (
 .reg [
 mv 9 0,
 op 10 (.ld true (some 9) (.t 4)),
 op 11 (.ld true (some 9) (.t 5)),
 op 12 (.lit true 9 2 [.u 64 0, .u 64 0, .u 64 0, .u 64 0, .u 64 0, .u 64 0, .u 64 0, .u 64 0, .u 64 0, .u 64 0, .u 64 0, .u 64 0, .u 64 0, .u 64 0, .u 64 0, .u 64 0, .u 64 0, .u 64 0] [(0, 9, (.t 10)), (9, 9, (.t 11))]),
 op 13 (.call f_mont_Mont_may [] [(.t 9), (.t 12)]),
 mv 8 13] [0, 4, 5, 6, 8]) (
 .seq (
 .reg [
 mv 14 8,
 op 15 (.bin .neq (.t 14) (.c (.i 0)))] [0, 4, 5, 6, 8, 15]) (
 .cond (.t 15) (
 .seq (
 .reg [
 op 16 (.build [.u 64 0, .u 64 0, .u 64 0, .u 64 0, .u 64 0, .u 64 0, .u 64 0, .u 64 0, .u 64 0] []),
 mv 17 8,
 ⟨none, none, .stl 6 9 (.t 6) (.t 16)⟩,
 mv 7 17] [6, 7]) (
 .ret)) (
 .reg [] [0, 4, 5, 6])))) (
 .seq (
 .reg [
 mv 18 0,
 op 19 (.ld true (some 9) (.t 4)),
 op 20 (.ld true (some 9) (.t 5)),
 op 21 (.call f_mont_Mont_Raw [] [(.t 18), (.t 19), (.t 20)]),
 ⟨none, none, .stl 6 9 (.t 6) (.t 21)⟩,
 op 7 (.mov (.c (.i 0)))] [6, 7]) (
 .ret)))
def m_mont_Mont_Mul : MFn := ⟨c_mont_Mont_Mul, [.cell 6 (some 9), .tmp 7], 0⟩

/-- (*curvet/mont.Mont).From -/
def c_mont_Mont_From : Stm :=
 .seq (
 .reg [
 op 3 (.boxv (.t 1)),
 op 4 (.box (.c (.agg [.u 64 0, .u 64 0, .u 64 0, .u 64 0, .u 64 0, .u 64 0, .u 64 0, .u 64 0, .u 64 0]))),
 op 5 (.mov (.c (.i 0)))] [0, 3, 4]) (
 .seq (
 .seq (
 .reg [
 mv 7 0,
 op 8 (.ld true (some 9) (.t 3)),
 op 9 (.lit true 9 1 [.u 64 0, .u 64 0, .u 64 0, .u 64 0, .u 64 0, .u 64 0, .u 64 0, .u 64 0, .u 64 0] [(0, 9, (.t 8))]),
 op 10 (.call f_mont_Mont_may [] [(.t 7), (.t 9)]),
 mv 6 10] [0, 3, 4, 6]) (
 .seq (
 .reg [
 mv 11 6,
 op 12 (.bin .neq (.t 11) (.c (.i 0)))] [0, 3, 4, 6, 12]) (
 .cond (.t 12) (
 .seq (
 .reg [
 op 13 (.build [.u 64 0, .u 64 0, .u 64 0, .u 64 0, .u 64 0, .u 64 0, .u 64 0, .u 64 0, .u 64 0] []),
 mv 14 6,
 ⟨none, none, .stl 4 9 (.t 4) (.t 13)⟩,
 mv 5 14] [4, 5]) (
 .ret)) (
 .reg [] [0, 3, 4])))) (
 .seq (
 .reg [
 mv 15 0,
 op 16 (.ld true (some 9) (.t 3)),
 op 17 (.call f_nat_Small [] [(.c (.i 1))]),
 op 18 (.call f_mont_Mont_Raw [] [(.t 15), (.t 16), (.t 17)]),
 ⟨none, none, .stl 4 9 (.t 4) (.t 18)⟩,
 op 5 (.mov (.c (.i 0)))] [4, 5]) (
 .ret)))
def m_mont_Mont_From : MFn := ⟨c_mont_Mont_From, [.cell 4 (some 9), .tmp 5], 0⟩

/-- curvet/curvetref1.MulMod -/
def c_curvetref1_MulMod : Stm :=
 .seq (
 .reg [
 op 6 (.mov (.c (.vs 0 [])))] [0, 1, 2]) (
 .seq (
 .reg [
 mv 7 0,
 mv 8 1,
 op 9 (.call f_curvetref1_Mul [] [(.t 7), (.t 8)]),
 mv 10 2,
 op 11 (.call f_curvetref1_Mod [] [(.t 9), (.t 10)]),
 mv 6 11] [6]) (
 .ret))
def m_curvetref1_MulMod : MFn := ⟨c_curvetref1_MulMod, [.tmp 6], 0⟩

/-- curvet/curvetlaw0.One -/
def c_curvetlaw0_One : Stm :=
 .seq (
 .reg [
 op 2 (.box (.c (.agg [.u 64 0, .u 64 0, .u 64 0, .u 64 0, .u 64 0, .u 64 0, .u 64 0, .u 64 0, .u 64 0])))] [0, 2]) (
 .seq (
 .reg [
 op 3 (.box (.c (.agg [.u 64 0, .u 64 0, .u 64 0, .u 64 0, .u 64 0, .u 64 0, .u 64 0, .u 64 0, .u 64 0])))] [0, 2, 3]) (
 .seq (
 .reg [
 mv 4 0,
 op 5 (.off 0 (.t 3)),
 op 6 (.idx 9 1 (.t 5) (.c (.i 0))),
 ⟨none, none, .stl 3 1 (.t 6) (.t 4)⟩] [2, 3]) (
 .seq (
 .reg [
 op 7 (.ldl 3 (some 9) (.t 3)),
 ⟨none, none, .stl 2 9 (.t 2) (.t 7)⟩] [2]) (
 .ret))))
def m_curvetlaw0_One : MFn := ⟨c_curvetlaw0_One, [.cell 2 (some 9)], 0⟩

/-- (*curvet/mont.Mont).Words -/
def c_mont_Mont_Words : Stm :=
 .seq (
 .reg [
 op 2 (.mov (.c (.i 0)))] [0]) (
 .seq (
 .seq (
 .reg [
 mv 3 0,
 op 4 (.eqv .ptr false (.t 3) (.c (.nilp)))] [0, 4]) (
 .cond (.t 4) (
 .seq (
 .reg [
 op 2 (.mov (.c (.i 0)))] [2]) (
 .ret)) (
 .reg [] [0]))) (
 .seq (
 .reg [
 mv 5 0,
 op 6 (.nck (.t 5)),
 op 7 (.off 9 (.t 6)),
 op 8 (.ld false none (.t 7)),
 mv 2 8] [2]) (
 .ret)))
def m_mont_Mont_Words : MFn := ⟨c_mont_Mont_Words, [.tmp 2], 0⟩

/-- curvet/curvetlaw0.Nat -/
def c_curvetlaw0_Nat : Stm :=
 .seq (
 .reg [
 op 2 (.boxv (.t 0)),
 op 4 (.box (.c (.agg [.u 64 0, .u 64 0, .u 64 0, .u 64 0, .u 64 0, .u 64 0, .u 64 0, .u 64 0, .u 64 0])))] [1, 2, 4]) (
 .seq (
 .reg [
 op 5 (.box (.c (.agg [.u 64 0, .u 64 0, .u 64 0, .u 64 0, .u 64 0, .u 64 0, .u 64 0, .u 64 0, .u 64 0])))] [1, 2, 4, 5]) (
 .seq (
 .seq (
 .reg [
 op 6 (.mov (.c (.i 0)))] [1, 2, 4, 5, 6]) (
 .block 0 (
 .loop [1, 2, 4, 5, 6] (
 .seq (
 .seq (
 .reg [
 mv 8 6,
 op 9 (.bin .lss (.t 8) (.c (.i 9)))] [1, 2, 4, 5, 6, 9]) (
 .cond (.t 9) (
 .reg [] [1, 2, 4, 5, 6]) (
 .exit 0 [4, 5]))) (
 .seq (
 .block 1 (
 .seq (
 .reg [
 mv 12 1,
 mv 13 6,
 op 14 (.bin .mul (.c (.i 64)) (.t 13)),
 op 15 (.bin .sub (.t 12) (.t 14)),
 mv 7 15] [1, 2, 4, 5, 6, 7]) (
 .block 2 (
 .seq (
 .reg [
 mv 17 7,
 op 18 (.bin .geq (.t 17) (.c (.i 64))),
 mv 16 18] [1, 2, 4, 5, 6, 7, 16]) (
 .cond (.t 16) (
 .reg [
 mv 19 6,
 mv 20 6,
 op 21 (.idx 9 1 (.t 2) (.t 20)),
 op 22 (.ld true none (.t 21)),
 op 23 (.off 0 (.t 5)),
 op 24 (.idx 9 1 (.t 23) (.t 19)),
 ⟨none, none, .stl 5 1 (.t 24) (.t 22)⟩] [1, 2, 4, 5, 6]) (
 .seq (
 .reg [
 mv 26 7,
 op 27 (.bin .gtr (.t 26) (.c (.i 0))),
 mv 25 27] [1, 2, 4, 5, 6, 7, 25]) (
 .cond (.t 25) (
 .reg [
 mv 28 6,
 mv 29 6,
 op 30 (.idx 9 1 (.t 2) (.t 29)),
 op 31 (.ld true none (.t 30)),
 mv 32 7,
 op 33 (.bin .shl (.c (.u 64 1)) (.t 32)),
 op 34 (.bin .sub (.t 33) (.c (.u 64 1))),
 op 35 (.bin .and (.t 31) (.t 34)),
 op 36 (.off 0 (.t 5)),
 op 37 (.idx 9 1 (.t 36) (.t 28)),
 ⟨none, none, .stl 5 1 (.t 37) (.t 35)⟩] [1, 2, 4, 5, 6]) (
 .reg [] [1, 2, 4, 5, 6])))))))) (
 .reg [
 mv 10 6,
 op 11 (.bin .add (.t 10) (.c (.i 1))),
 mv 6 11] [1, 2, 4, 5, 6])))))) (
 .seq (
 .reg [
 op 38 (.ldl 5 (some 9) (.t 5)),
 ⟨none, none, .stl 4 9 (.t 4) (.t 38)⟩] [4]) (
 .ret))))
def m_curvetlaw0_Nat : MFn := ⟨c_curvetlaw0_Nat, [.cell 4 (some 9)], 0⟩

/-- curvet/divide.Div -/
def c_divide_Div : Stm :=
 .seq (
 .reg [
 op 2 (.boxv (.t 0)),
 op 3 (.boxv (.t 1)),
 op 4 (.box (.c (.agg [.u 64 0, .u 64 0, .u 64 0, .u 64 0, .u 64 0, .u 64 0, .u 64 0, .u 64 0, .u 64 0]))),
 op 5 (.box (.c (.agg [.u 64 0, .u 64 0, .u 64 0, .u 64 0, .u 64 0, .u 64 0, .u 64 0, .u 64 0, .u 64 0]))),
 op 6 (.mov (.c (.i 0)))] [2, 3, 4, 5]) (
 .seq (
 .seq (
 .reg [
 op 9 (.call f_divide_zero [] [(.t 3)])] [2, 3, 4, 5, 9]) (
 .cond (.t 9) (
 .seq (
 .reg [
 op 10 (.build [.u 64 0, .u 64 0, .u 64 0, .u 64 0, .u 64 0, .u 64 0, .u 64 0, .u 64 0, .u 64 0] []),
 op 11 (.build [.u 64 0, .u 64 0, .u 64 0, .u 64 0, .u 64 0, .u 64 0, .u 64 0, .u 64 0, .u 64 0] []),
 ⟨none, none, .stl 4 9 (.t 4) (.t 10)⟩,
 ⟨none, none, .stl 5 9 (.t 5) (.t 11)⟩,
 op 6 (.mov (.c (.i 400)))] [4, 5, 6]) (
 .ret)) (
 .reg [] [2, 3, 4, 5]))) (
 .seq (
 .reg [
 op 13 (.call f_divide_of [] [(.t 3)]),
 op 14 (.off 0 (.t 2)),
 op 15 (.sla true 9 1 (.t 14) none none),
 op 16 (.call f_divide_divisor_divide [] [(.t 13), (.t 15)]),
 mv 12 16,
 op 17 (.ext 0 (.t 12)),
 op 18 (.ext 1 (.t 12)),
 op 7 (.box (.c (.agg [.u 64 0, .u 64 0, .u 64 0, .u 64 0, .u 64 0, .u 64 0, .u 64 0, .u 64 0, .u 64 0, .u 64 0, .u 64 0, .u 64 0, .u 64 0, .u 64 0, .u 64 0, .u 64 0, .u 64 0, .u 64 0]))),
 op 8 (.box (.c (.agg [.u 64 0, .u 64 0, .u 64 0, .u 64 0, .u 64 0, .u 64 0, .u 64 0, .u 64 0, .u 64 0]))),
 ⟨none, none, .stl 7 18 (.t 7) (.t 17)⟩,
 ⟨none, none, .stl 8 9 (.t 8) (.t 18)⟩] [4, 5, 7, 8]) (
 .seq (
 .reg [
 op 19 (.off 0 (.t 7)),
 op 20 (.sla true 18 1 (.t 19) none (some (.c (.i 9)))),
 op 21 (.s2a 9 (.t 20)),
 op 22 (.ldl 7 (some 9) (.t 21)),
 op 23 (.build [.u 64 0, .u 64 0, .u 64 0, .u 64 0, .u 64 0, .u 64 0, .u 64 0, .u 64 0, .u 64 0] [(0, 9, (.t 22))]),
 op 24 (.ldl 8 (some 9) (.t 8)),
 ⟨none, none, .stl 4 9 (.t 4) (.t 23)⟩,
 ⟨none, none, .stl 5 9 (.t 5) (.t 24)⟩,
 op 6 (.mov (.c (.i 0)))] [4, 5, 6]) (
 .ret))))
def m_divide_Div : MFn := ⟨c_divide_Div, [.cell 4 (some 9), .cell 5 (some 9), .tmp 6], 0⟩

/-- curvet/divide.MulMod -/
def c_divide_MulMod : Stm :=
 .seq (
 .reg [
 op 3 (.boxv (.t 0)),
 op 4 (.boxv (.t 1)),
 op 5 (.boxv (.t 2)),
 op 6 (.box (.c (.agg [.u 64 0, .u 64 0, .u 64 0, .u 64 0, .u 64 0, .u 64 0, .u 64 0, .u 64 0, .u 64 0]))),
 op 7 (.mov (.c (.i 0)))] [3, 4, 5, 6]) (
 .seq (
 .seq (
 .reg [
 op 8 (.call f_divide_zero [] [(.t 5)])] [3, 4, 5, 6, 8]) (
 .cond (.t 8) (
 .seq (
 .reg [
 op 9 (.build [.u 64 0, .u 64 0, .u 64 0, .u 64 0, .u 64 0, .u 64 0, .u 64 0, .u 64 0, .u 64 0] []),
 ⟨none, none, .stl 6 9 (.t 6) (.t 9)⟩,
 op 7 (.mov (.c (.i 400)))] [6, 7]) (
 .ret)) (
 .reg [] [3, 4, 5, 6]))) (
 .seq (
 .reg [
 op 10 (.ld true (some 9) (.t 5)),
 op 11 (.call f_divide_By [] [(.t 10)]),
 op 12 (.ld true (some 9) (.t 3)),
 op 13 (.ld true (some 9) (.t 4)),
 op 14 (.call f_divide_Modulus_Mul [] [(.t 11), (.t 12), (.t 13)]),
 ⟨none, none, .stl 6 9 (.t 6) (.t 14)⟩,
 op 7 (.mov (.c (.i 0)))] [6, 7]) (
 .ret)))
def m_divide_MulMod : MFn := ⟨c_divide_MulMod, [.cell 6 (some 9), .tmp 7], 0⟩

/-- curvet/curvetlaw6.add -/
def c_curvetlaw6_add : Stm :=
 .seq (
 .reg [
 op 2 (.boxv (.t 0)),
 op 3 (.boxv (.t 1)),
 op 4 (.box (.c (.agg [.u 64 0, .u 64 0, .u 64 0, .u 64 0, .u 64 0, .u 64 0, .u 64 0, .u 64 0, .u 64 0])))] [2, 3, 4]) (
 .seq (
 .reg [
 op 5 (.box (.c (.agg [.u 64 0, .u 64 0, .u 64 0, .u 64 0, .u 64 0, .u 64 0, .u 64 0, .u 64 0, .u 64 0])))] [2, 3, 4, 5]) (
 .seq (
 .reg [
 op 6 (.mov (.c (.u 64 0)))] [2, 3, 4, 5, 6]) (
 .seq (
 .seq (
 .reg [
 op 7 (.mov (.c (.i 0)))] [2, 3, 4, 5, 6, 7]) (
 .block 0 (
 .loop [2, 3, 4, 5, 6, 7] (
 .seq (
 .seq (
 .reg [
 mv 10 7,
 op 11 (.bin .lss (.t 10) (.c (.i 9)))] [2, 3, 4, 5, 6, 7, 11]) (
 .cond (.t 11) (
 .reg [] [2, 3, 4, 5, 6, 7]) (
 .exit 0 [4, 5]))) (
 .seq (
 .block 1 (
 .seq (
 .reg [
 mv 14 7,
 op 15 (.off 0 (.t 2)),
 op 16 (.idx 9 1 (.t 15) (.t 14)),
 op 17 (.ld true none (.t 16)),
 mv 18 7,
 op 19 (.off 0 (.t 3)),
 op 20 (.idx 9 1 (.t 19) (.t 18)),
 op 21 (.ld true none (.t 20)),
 op 22 (.bin .add (.t 17) (.t 21)),
 mv 8 22] [2, 3, 4, 5, 6, 7, 8]) (
 .seq (
 .reg [
 mv 23 8,
 mv 24 6,
 op 25 (.bin .add (.t 23) (.t 24)),
 mv 9 25] [2, 3, 4, 5, 7, 8, 9]) (
 .seq (
 .seq (
 .reg [
 mv 26 8,
 mv 27 7,
 op 28 (.off 0 (.t 2)),
 op 29 (.idx 9 1 (.t 28) (.t 27)),
 op 30 (.ld true none (.t 29)),
 op 31 (.bin .lss (.t 26) (.t 30)),
 mv 32 31,
 ⟨some 33, (some (32, false)), .mov (.t 9)⟩,
 ⟨some 34, (some (32, false)), .mov (.t 8)⟩,
 ⟨some 35, (some (32, false)), .bin .lss (.t 33) (.t 34)⟩,
 op 36 (.pick (.t 32) (.c (.b true)) (.t 35))] [2, 3, 4, 5, 7, 9, 36]) (
 .cond (.t 36) (
 .reg [
 op 6 (.mov (.c (.u 64 1)))] [2, 3, 4, 5, 6, 7, 9]) (
 .reg [
 op 6 (.mov (.c (.u 64 0)))] [2, 3, 4, 5, 6, 7, 9]))) (
 .reg [
 mv 37 7,
 mv 38 9,
 op 39 (.off 0 (.t 5)),
 op 40 (.idx 9 1 (.t 39) (.t 37)),
 ⟨none, none, .stl 5 1 (.t 40) (.t 38)⟩] [2, 3, 4, 5, 6, 7]))))) (
 .reg [
 mv 12 7,
 op 13 (.bin .add (.t 12) (.c (.i 1))),
 mv 7 13] [2, 3, 4, 5, 6, 7])))))) (
 .seq (
 .reg [
 op 41 (.ldl 5 (some 9) (.t 5)),
 ⟨none, none, .stl 4 9 (.t 4) (.t 41)⟩] [4]) (
 .ret)))))
def m_curvetlaw6_add : MFn := ⟨c_curvetlaw6_add, [.cell 4 (some 9)], 0⟩

/-- curvet/curvetref1.Bit -/
def c_curvetref1_Bit : Stm :=
 .seq (
 .reg [
 op 4 (.mov (.c (.i 0)))] [0, 1]) (
 .seq (
 .reg [
 mv 5 0,
 mv 6 1,
 op 7 (.bin .quo (.t 6) (.c (.i 32))),
 op 8 (.call f_curvetref1_digit [] [(.t 5), (.t 7)]),
 mv 9 1,
 op 10 (.bin .rem (.t 9) (.c (.i 32))),
 op 11 (.bin .shr (.t 8) (.t 10)),
 op 12 (.bin .and (.t 11) (.c (.u 64 1))),
 op 13 (.cvi (.t 12)),
 mv 4 13] [4]) (
 .ret))
def m_curvetref1_Bit : MFn := ⟨c_curvetref1_Bit, [.tmp 4], 0⟩

/-- curvet/curvetref1.Cmp -/
def c_curvetref1_Cmp : Stm :=
 .seq (
 .reg [
 op 4 (.mov (.c (.i 0)))] [0, 1]) (
 .seq (
 .seq (
 .reg [
 mv 6 0,
 op 7 (.len (.t 6)),
 mv 8 1,
 op 9 (.len (.t 8)),
 op 10 (.bin .neq (.t 7) (.t 9))] [0, 1, 10]) (
 .cond (.t 10) (
 .seq (
 .seq (
 .reg [
 mv 11 0,
 op 12 (.len (.t 11)),
 mv 13 1,
 op 14 (.len (.t 13)),
 op 15 (.bin .lss (.t 12) (.t 14))] [15]) (
 .cond (.t 15) (
 .seq (
 .reg [
 op 4 (.mov (.c (.i (-1))))] [4]) (
 .ret)) (
 .reg [] []))) (
 .seq (
 .reg [
 op 4 (.mov (.c (.i 1)))] [4]) (
 .ret))) (
 .reg [] [0, 1]))) (
 .seq (
 .seq (
 .reg [
 mv 16 0,
 op 17 (.len (.t 16)),
 op 18 (.bin .sub (.t 17) (.c (.i 1))),
 mv 5 18] [0, 1, 5]) (
 .block 0 (
 .loop [0, 1, 5] (
 .seq (
 .seq (
 .reg [
 mv 19 5,
 op 20 (.bin .geq (.t 19) (.c (.i 0)))] [0, 1, 5, 20]) (
 .cond (.t 20) (
 .reg [] [0, 1, 5]) (
 .exit 0 []))) (
 .seq (
 .block 1 (
 .seq (
 .reg [
 mv 23 0,
 mv 24 5,
 op 25 (.idxs 1 (.t 23) (.t 24)),
 op 26 (.ld false none (.t 25)),
 mv 27 1,
 mv 28 5,
 op 29 (.idxs 1 (.t 27) (.t 28)),
 op 30 (.ld false none (.t 29)),
 op 31 (.bin .neq (.t 26) (.t 30))] [0, 1, 5, 31]) (
 .cond (.t 31) (
 .seq (
 .seq (
 .reg [
 mv 32 0,
 mv 33 5,
 op 34 (.idxs 1 (.t 32) (.t 33)),
 op 35 (.ld false none (.t 34)),
 mv 36 1,
 mv 37 5,
 op 38 (.idxs 1 (.t 36) (.t 37)),
 op 39 (.ld false none (.t 38)),
 op 40 (.bin .lss (.t 35) (.t 39))] [40]) (
 .cond (.t 40) (
 .seq (
 .reg [
 op 4 (.mov (.c (.i (-1))))] [4]) (
 .ret)) (
 .reg [] []))) (
 .seq (
 .reg [
 op 4 (.mov (.c (.i 1)))] [4]) (
 .ret))) (
 .reg [] [0, 1, 5])))) (
 .reg [
 mv 21 5,
 op 22 (.bin .sub (.t 21) (.c (.i 1))),
 mv 5 22] [0, 1, 5])))))) (
 .seq (
 .reg [
 op 4 (.mov (.c (.i 0)))] [4]) (
 .ret))))
def m_curvetref1_Cmp : MFn := ⟨c_curvetref1_Cmp, [.tmp 4], 0⟩

/-- curvet/curvetref1.Bits -/
def c_curvetref1_Bits : Stm :=
 .seq (
 .reg [
 op 2 (.mov (.c (.i 0)))] [0]) (
 .seq (
 .seq (
 .reg [
 mv 5 0,
 op 6 (.len (.t 5)),
 op 7 (.bin .eql (.t 6) (.c (.i 0)))] [0, 7]) (
 .cond (.t 7) (
 .seq (
 .reg [
 op 2 (.mov (.c (.i 0)))] [2]) (
 .ret)) (
 .reg [] [0]))) (
 .seq (
 .reg [
 mv 8 0,
 op 9 (.len (.t 8)),
 op 10 (.bin .sub (.t 9) (.c (.i 1))),
 op 11 (.bin .mul (.c (.i 32)) (.t 10)),
 mv 3 11] [0, 3]) (
 .seq (
 .seq (
 .reg [
 mv 12 0,
 mv 13 0,
 op 14 (.len (.t 13)),
 op 15 (.bin .sub (.t 14) (.c (.i 1))),
 op 16 (.idxs 1 (.t 12) (.t 15)),
 op 17 (.ld false none (.t 16)),
 mv 4 17] [3, 4]) (
 .block 0 (
 .loop [3, 4] (
 .seq (
 .seq (
 .reg [
 mv 18 4,
 op 19 (.bin .gtr (.t 18) (.c (.u 32 0)))] [3, 4, 19]) (
 .cond (.t 19) (
 .reg [] [3, 4]) (
 .exit 0 [3]))) (
 .seq (
 .block 1 (
 .reg [
 mv 22 3,
 op 23 (.bin .add (.t 22) (.c (.i 1))),
 mv 3 23] [3, 4])) (
 .reg [
 mv 20 4,
 op 21 (.bin .shr (.t 20) (.c (.u 64 1))),
 mv 4 21] [3, 4])))))) (
 .seq (
 .reg [
 mv 24 3,
 mv 2 24] [2]) (
 .ret)))))
def m_curvetref1_Bits : MFn := ⟨c_curvetref1_Bits, [.tmp 2], 0⟩

/-- (*curvet/mont.Mont).Inv -/
def c_mont_Mont_Inv : Stm :=
 .seq (
 .reg [
 op 3 (.boxv (.t 1)),
 op 4 (.box (.c (.agg [.u 64 0, .u 64 0, .u 64 0, .u 64 0, .u 64 0, .u 64 0, .u 64 0, .u 64 0, .u 64 0]))),
 op 5 (.mov (.c (.i 0)))] [0, 3, 4]) (
 .seq (
 .seq (
 .reg [
 mv 9 0,
 op 10 (.ld true (some 9) (.t 3)),
 op 11 (.lit true 9 1 [.u 64 0, .u 64 0, .u 64 0, .u 64 0, .u 64 0, .u 64 0, .u 64 0, .u 64 0, .u 64 0] [(0, 9, (.t 10))]),
 op 12 (.call f_mont_Mont_may [] [(.t 9), (.t 11)]),
 mv 6 12] [0, 3, 4, 6]) (
 .seq (
 .reg [
 mv 13 6,
 op 14 (.bin .neq (.t 13) (.c (.i 0)))] [0, 3, 4, 6, 14]) (
 .cond (.t 14) (
 .seq (
 .reg [
 op 15 (.build [.u 64 0, .u 64 0, .u 64 0, .u 64 0, .u 64 0, .u 64 0, .u 64 0, .u 64 0, .u 64 0] []),
 mv 16 6,
 ⟨none, none, .stl 4 9 (.t 4) (.t 15)⟩,
 mv 5 16] [4, 5]) (
 .ret)) (
 .reg [] [0, 3, 4])))) (
 .seq (
 .reg [
 op 18 (.ld true (some 9) (.t 3)),
 mv 19 0,
 op 20 (.nck (.t 19)),
 op 21 (.off 0 (.t 20)),
 op 22 (.ld false (some 9) (.t 21)),
 op 23 (.call f_divide_Inverse [] [(.t 18), (.t 22)]),
 mv 17 23,
 op 24 (.ext 0 (.t 17)),
 op 25 (.ext 1 (.t 17)),
 op 7 (.box (.c (.agg [.u 64 0, .u 64 0, .u 64 0, .u 64 0, .u 64 0, .u 64 0, .u 64 0, .u 64 0, .u 64 0]))),
 ⟨none, none, .stl 7 9 (.t 7) (.t 24)⟩,
 mv 8 25] [0, 4, 7, 8]) (
 .seq (
 .seq (
 .reg [
 mv 26 8,
 op 27 (.bin .neq (.t 26) (.c (.i 0)))] [0, 4, 7, 8, 27]) (
 .cond (.t 27) (
 .seq (
 .reg [
 op 28 (.build [.u 64 0, .u 64 0, .u 64 0, .u 64 0, .u 64 0, .u 64 0, .u 64 0, .u 64 0, .u 64 0] []),
 mv 29 8,
 ⟨none, none, .stl 4 9 (.t 4) (.t 28)⟩,
 mv 5 29] [4, 5]) (
 .ret)) (
 .reg [] [0, 4, 7]))) (
 .seq (
 .reg [
 mv 30 0,
 mv 31 0,
 op 32 (.ldl 7 (some 9) (.t 7)),
 mv 33 0,
 op 34 (.nck (.t 33)),
 op 35 (.off 11 (.t 34)),
 op 36 (.ld false (some 9) (.t 35)),
 op 37 (.call f_mont_Mont_Raw [] [(.t 31), (.t 32), (.t 36)]),
 mv 38 0,
 op 39 (.nck (.t 38)),
 op 40 (.off 11 (.t 39)),
 op 41 (.ld true (some 9) (.t 40)),
 op 42 (.call f_mont_Mont_Raw [] [(.t 30), (.t 37), (.t 41)]),
 ⟨none, none, .stl 4 9 (.t 4) (.t 42)⟩,
 op 5 (.mov (.c (.i 0)))] [4, 5]) (
 .ret)))))
def m_mont_Mont_Inv : MFn := ⟨c_mont_Mont_Inv, [.cell 4 (some 9), .tmp 5], 0⟩

/-- curvet/curvetref1.Shl -/
def c_curvetref1_Shl : Stm :=
 .seq (
 .reg [
 op 4 (.mov (.c (.vs 0 [])))] [0, 1]) (
 .seq (
 .reg [
 mv 8 0,
 op 9 (.len (.t 8)),
 mv 10 1,
 op 11 (.bin .quo (.t 10) (.c (.i 32))),
 op 12 (.bin .add (.t 9) (.t 11)),
 op 13 (.bin .add (.t 12) (.c (.i 1))),
 op 14 (.mks 1 4 [.u 32 0] (.t 13) (.t 13)),
 mv 5 14] [0, 1, 5]) (
 .seq (
 .seq (
 .reg [
 op 6 (.mov (.c (.i 0)))] [0, 1, 5, 6]) (
 .block 0 (
 .loop [0, 1, 5, 6] (
 .seq (
 .seq (
 .reg [
 mv 15 6,
 mv 16 0,
 op 17 (.len (.t 16)),
 op 18 (.bin .lss (.t 15) (.t 17))] [0, 1, 5, 6, 18]) (
 .cond (.t 18) (
 .reg [] [0, 1, 5, 6]) (
 .exit 0 [5]))) (
 .seq (
 .block 1 (
 .seq (
 .reg [
 mv 21 0,
 mv 22 6,
 op 23 (.idxs 1 (.t 21) (.t 22)),
 op 24 (.ld false none (.t 23)),
 op 25 (.cvu 64 (.t 24)),
 mv 26 1,
 op 27 (.bin .rem (.t 26) (.c (.i 32))),
 op 28 (.bin .shl (.t 25) (.t 27)),
 mv 7 28] [0, 1, 5, 6, 7]) (
 .seq (
 .reg [
 mv 29 5,
 mv 30 6,
 mv 31 1,
 op 32 (.bin .quo (.t 31) (.c (.i 32))),
 op 33 (.bin .add (.t 30) (.t 32)),
 mv 34 5,
 mv 35 6,
 mv 36 1,
 op 37 (.bin .quo (.t 36) (.c (.i 32))),
 op 38 (.bin .add (.t 35) (.t 37)),
 op 39 (.idxs 1 (.t 34) (.t 38)),
 op 40 (.ld false none (.t 39)),
 mv 41 7,
 op 42 (.bin .and (.t 41) (.c (.u 64 4294967295))),
 op 43 (.cvu 32 (.t 42)),
 op 44 (.bin .or (.t 40) (.t 43)),
 op 45 (.idxs 1 (.t 29) (.t 33)),
 ⟨none, none, .st 1 (.t 45) (.t 44)⟩] [0, 1, 5, 6, 7]) (
 .reg [
 mv 46 5,
 mv 47 6,
 mv 48 1,
 op 49 (.bin .quo (.t 48) (.c (.i 32))),
 op 50 (.bin .add (.t 47) (.t 49)),
 op 51 (.bin .add (.t 50) (.c (.i 1))),
 mv 52 7,
 op 53 (.bin .shr (.t 52) (.c (.u 64 32))),
 op 54 (.cvu 32 (.t 53)),
 op 55 (.idxs 1 (.t 46) (.t 51)),
 ⟨none, none, .st 1 (.t 55) (.t 54)⟩] [0, 1, 5, 6])))) (
 .reg [
 mv 19 6,
 op 20 (.bin .add (.t 19) (.c (.i 1))),
 mv 6 20] [0, 1, 5, 6])))))) (
 .seq (
 .reg [
 mv 56 5,
 op 57 (.call f_curvetref1_trim [] [(.t 56)]),
 mv 4 57] [4]) (
 .ret))))
def m_curvetref1_Shl : MFn := ⟨c_curvetref1_Shl, [.tmp 4], 0⟩

/-- curvet/curvetref1.Inverse -/
def c_curvetref1_Inverse : Stm :=
 .seq (
 .reg [
 op 4 (.mov (.c (.vs 0 []))),
 op 5 (.mov (.c (.b false)))] [0, 1]) (
 .seq (
 .seq (
 .reg [
 mv 13 1,
 op 14 (.lit true 1 1 [.u 32 0] [(0, 1, (.c (.u 32 1)))]),
 op 15 (.call f_curvetref1_Cmp [] [(.t 13), (.t 14)]),
 op 16 (.bin .leq (.t 15) (.c (.i 0)))] [0, 1, 16]) (
 .cond (.t 16) (
 .seq (
 .reg [
 op 4 (.mov (.c (.vs 0 []))),
 op 5 (.mov (.c (.b false)))] [4, 5]) (
 .ret)) (
 .reg [] [0, 1]))) (
 .seq (
 .reg [
 op 17 (.lit false 1 0 [] []),
 mv 18 1,
 op 19 (.app 1 4 (.t 17) (.t 18)),
 mv 20 0,
 mv 21 1,
 op 22 (.call f_curvetref1_Mod [] [(.t 20), (.t 21)]),
 op 6 (.frz (.t 19)),
 mv 7 22] [1, 6, 7]) (
 .seq (
 .reg [
 op 8 (.mov (.c (.vs 0 [])))] [1, 6, 7, 8]) (
 .seq (
 .reg [
 op 23 (.lit true 1 1 [.u 32 0] [(0, 1, (.c (.u 32 1)))]),
 mv 9 23] [1, 6, 7, 8, 9]) (
 .seq (
 .block 0 (
 .loop [1, 6, 7, 8, 9] (
 .seq (
 .seq (
 .reg [
 mv 24 7,
 op 25 (.len (.t 24)),
 op 26 (.bin .gtr (.t 25) (.c (.i 0)))] [1, 6, 7, 8, 9, 26]) (
 .cond (.t 26) (
 .reg [] [1, 6, 7, 8, 9]) (
 .exit 0 [6, 8]))) (
 .block 1 (
 .seq (
 .reg [
 mv 28 6,
 mv 29 7,
 op 30 (.call f_curvetref1_Div [] [(.t 28), (.t 29)]),
 mv 27 30,
 op 31 (.ext 0 (.t 27)),
 op 32 (.ext 1 (.t 27)),
 mv 10 31,
 mv 11 32] [1, 7, 8, 9, 10, 11]) (
 .seq (
 .reg [
 mv 33 8,
 mv 34 10,
 mv 35 1,
 op 36 (.call f_curvetref1_Mod [] [(.t 34), (.t 35)]),
 mv 37 9,
 mv 38 1,
 op 39 (.call f_curvetref1_MulMod [] [(.t 36), (.t 37), (.t 38)]),
 mv 40 1,
 op 41 (.call f_curvetref1_SubMod [] [(.t 33), (.t 39), (.t 40)]),
 mv 12 41] [1, 7, 9, 11, 12]) (
 .seq (
 .reg [
 mv 42 7,
 mv 6 42] [1, 6, 9, 11, 12]) (
 .seq (
 .reg [
 op 43 (.lit false 1 0 [] []),
 mv 44 11,
 op 45 (.app 1 4 (.t 43) (.t 44)),
 op 7 (.frz (.t 45))] [1, 6, 7, 9, 12]) (
 .seq (
 .reg [
 mv 46 9,
 mv 8 46] [1, 6, 7, 8, 12]) (
 .reg [
 mv 47 12,
 mv 9 47] [1, 6, 7, 8, 9])))))))))) (
 .seq (
 .seq (
 .reg [
 mv 48 6,
 op 49 (.lit true 1 1 [.u 32 0] [(0, 1, (.c (.u 32 1)))]),
 op 50 (.call f_curvetref1_Cmp [] [(.t 48), (.t 49)]),
 op 51 (.bin .neq (.t 50) (.c (.i 0)))] [8, 51]) (
 .cond (.t 51) (
 .seq (
 .reg [
 op 4 (.mov (.c (.vs 0 []))),
 op 5 (.mov (.c (.b false)))] [4, 5]) (
 .ret)) (
 .reg [] [8]))) (
 .seq (
 .reg [
 mv 52 8,
 mv 4 52,
 op 5 (.mov (.c (.b true)))] [4, 5]) (
 .ret))))))))
def m_curvetref1_Inverse : MFn := ⟨c_curvetref1_Inverse, [.tmp 4, .tmp 5], 0⟩

/-- curvet/divide.Inverse -/
def c_divide_Inverse : Stm :=
 .seq (
 .reg [
 op 2 (.boxv (.t 0)),
 op 3 (.boxv (.t 1)),
 op 4 (.box (.c (.agg [.u 64 0, .u 64 0, .u 64 0, .u 64 0, .u 64 0, .u 64 0, .u 64 0, .u 64 0, .u 64 0]))),
 op 5 (.mov (.c (.i 0)))] [2, 3, 4]) (
 .seq (
 .seq (
 .reg [
 op 20 (.call f_divide_zero [] [(.t 3)])] [2, 3, 4, 20]) (
 .cond (.t 20) (
 .seq (
 .reg [
 op 21 (.build [.u 64 0, .u 64 0, .u 64 0, .u 64 0, .u 64 0, .u 64 0, .u 64 0, .u 64 0, .u 64 0] []),
 ⟨none, none, .stl 4 9 (.t 4) (.t 21)⟩,
 op 5 (.mov (.c (.i 400)))] [4, 5]) (
 .ret)) (
 .reg [] [2, 3, 4]))) (
 .seq (
 .reg [
 op 23 (.ld true (some 9) (.t 2)),
 op 24 (.ld true (some 9) (.t 3)),
 op 25 (.call f_divide_Div [] [(.t 23), (.t 24)]),
 mv 22 25,
 op 26 (.ext 0 (.t 22)),
 op 27 (.ext 1 (.t 22)),
 op 28 (.ext 2 (.t 22)),
 op 6 (.box (.c (.agg [.u 64 0, .u 64 0, .u 64 0, .u 64 0, .u 64 0, .u 64 0, .u 64 0, .u 64 0, .u 64 0]))),
 op 7 (.box (.c (.agg [.u 64 0, .u 64 0, .u 64 0, .u 64 0, .u 64 0, .u 64 0, .u 64 0, .u 64 0, .u 64 0]))),
 ⟨none, none, .stl 6 9 (.t 6) (.t 26)⟩,
 ⟨none, none, .stl 7 9 (.t 7) (.t 27)⟩,
 mv 8 28] [3, 4, 7]) (
 .seq (
 .reg [
 op 29 (.ld true (some 9) (.t 3)),
 op 30 (.ldl 7 (some 9) (.t 7)),
 op 9 (.box (.c (.agg [.u 64 0, .u 64 0, .u 64 0, .u 64 0, .u 64 0, .u 64 0, .u 64 0, .u 64 0, .u 64 0]))),
 op 10 (.box (.c (.agg [.u 64 0, .u 64 0, .u 64 0, .u 64 0, .u 64 0, .u 64 0, .u 64 0, .u 64 0, .u 64 0]))),
 ⟨none, none, .stl 9 9 (.t 9) (.t 29)⟩,
 ⟨none, none, .stl 10 9 (.t 10) (.t 30)⟩] [3, 4, 9, 10]) (
 .seq (
 .reg [
 op 31 (.build [.u 64 0, .u 64 0, .u 64 0, .u 64 0, .u 64 0, .u 64 0, .u 64 0, .u 64 0, .u 64 0] []),
 op 32 (.call f_nat_Small [] [(.c (.i 1))]),
 op 11 (.box (.c (.agg [.u 64 0, .u 64 0, .u 64 0, .u 64 0, .u 64 0, .u 64 0, .u 64 0, .u 64 0, .u 64 0]))),
 op 12 (.box (.c (.agg [.u 64 0, .u 64 0, .u 64 0, .u 64 0, .u 64 0, .u 64 0, .u 64 0, .u 64 0, .u 64 0]))),
 ⟨none, none, .stl 11 9 (.t 11) (.t 31)⟩,
 ⟨none, none, .stl 12 9 (.t 12) (.t 32)⟩] [3, 4, 9, 10, 11, 12]) (
 .seq (
 .reg [
 op 33 (.ld true (some 9) (.t 3)),
 op 34 (.call f_divide_By [] [(.t 33)]),
 op 13 (.box (.c (.agg [.nilp]))),
 ⟨none, none, .stl 13 1 (.t 13) (.t 34)⟩] [3, 4, 9, 10, 11, 12, 13]) (
 .seq (
 .block 0 (
 .loop [3, 4, 9, 10, 11, 12, 13] (
 .seq (
 .seq (
 .reg [
 op 35 (.call f_divide_zero [10] [(.t 10)]),
 op 36 (.un .not (.t 35))] [3, 4, 9, 10, 11, 12, 13, 36]) (
 .cond (.t 36) (
 .reg [] [3, 4, 9, 10, 11, 12, 13]) (
 .exit 0 [3, 4, 9, 11]))) (
 .block 1 (
 .seq (
 .reg [
 op 38 (.ldl 9 (some 9) (.t 9)),
 op 39 (.ldl 10 (some 9) (.t 10)),
 op 40 (.call f_divide_Div [] [(.t 38), (.t 39)]),
 mv 37 40,
 op 41 (.ext 0 (.t 37)),
 op 42 (.ext 1 (.t 37)),
 op 43 (.ext 2 (.t 37)),
 op 14 (.box (.c (.agg [.u 64 0, .u 64 0, .u 64 0, .u 64 0, .u 64 0, .u 64 0, .u 64 0, .u 64 0, .u 64 0]))),
 op 15 (.box (.c (.agg [.u 64 0, .u 64 0, .u 64 0, .u 64 0, .u 64 0, .u 64 0, .u 64 0, .u 64 0, .u 64 0]))),
 ⟨none, none, .stl 14 9 (.t 14) (.t 41)⟩,
 ⟨none, none, .stl 15 9 (.t 15) (.t 42)⟩,
 mv 16 43] [3, 4, 9, 10, 11, 12, 13, 14, 15]) (
 .seq (
 .reg [
 op 44 (.ldl 10 (some 9) (.t 10)),
 op 45 (.ldl 15 (some 9) (.t 15)),
 ⟨none, none, .stl 9 9 (.t 9) (.t 44)⟩,
 ⟨none, none, .stl 10 9 (.t 10) (.t 45)⟩] [3, 4, 9, 10, 11, 12, 13, 14]) (
 .seq (
 .reg [
 op 46 (.ldl 13 (some 1) (.t 13)),
 op 47 (.ldl 14 (some 9) (.t 14)),
 op 48 (.ldl 12 (some 9) (.t 12)),
 op 49 (.call f_divide_Modulus_Mul [] [(.t 46), (.t 47), (.t 48)]),
 op 17 (.box (.c (.agg [.u 64 0, .u 64 0, .u 64 0, .u 64 0, .u 64 0, .u 64 0, .u 64 0, .u 64 0, .u 64 0]))),
 ⟨none, none, .stl 17 9 (.t 17) (.t 49)⟩] [3, 4, 9, 10, 11, 12, 13, 17]) (
 .seq (
 .reg [
 op 51 (.ldl 11 (some 9) (.t 11)),
 op 52 (.ldl 17 (some 9) (.t 17)),
 op 53 (.call f_nat_Sub [] [(.t 51), (.t 52)]),
 mv 50 53,
 op 54 (.ext 0 (.t 50)),
 op 55 (.ext 1 (.t 50)),
 op 18 (.box (.c (.agg [.u 64 0, .u 64 0, .u 64 0, .u 64 0, .u 64 0, .u 64 0, .u 64 0, .u 64 0, .u 64 0]))),
 ⟨none, none, .stl 18 9 (.t 18) (.t 54)⟩,
 mv 19 55] [3, 4, 9, 10, 11, 12, 13, 18, 19]) (
 .seq (
 .seq (
 .reg [
 mv 56 19] [3, 4, 9, 10, 11, 12, 13, 18, 56]) (
 .cond (.t 56) (
 .reg [
 op 58 (.ldl 18 (some 9) (.t 18)),
 op 59 (.ld true (some 9) (.t 3)),
 op 60 (.call f_nat_Add [] [(.t 58), (.t 59)]),
 mv 57 60,
 op 61 (.ext 0 (.t 57)),
 op 62 (.ext 1 (.t 57)),
 ⟨none, none, .stl 18 9 (.t 18) (.t 61)⟩] [3, 4, 9, 10, 11, 12, 13, 18]) (
 .reg [] [3, 4, 9, 10, 11, 12, 13, 18]))) (
 .reg [
 op 63 (.ldl 12 (some 9) (.t 12)),
 op 64 (.ldl 18 (some 9) (.t 18)),
 ⟨none, none, .stl 11 9 (.t 11) (.t 63)⟩,
 ⟨none, none, .stl 12 9 (.t 12) (.t 64)⟩] [3, 4, 9, 10, 11, 12, 13])))))))))) (
 .seq (
 .seq (
 .reg [
 op 65 (.ldl 9 (some 9) (.t 9)),
 op 66 (.call f_nat_Small [] [(.c (.i 1))]),
 op 67 (.eqv (.agg [.u 64, .u 64, .u 64, .u 64, .u 64, .u 64, .u 64, .u 64, .u 64]) true (.t 65) (.t 66)),
 mv 68 67,
 ⟨some 69, (some (68, false)), .ld true (some 9) (.t 3)⟩,
 ⟨some 70, (some (68, false)), .call f_nat_Small [] [(.c (.i 1))]⟩,
 ⟨some 71, (some (68, false)), .eqv (.agg [.u 64, .u 64, .u 64, .u 64, .u 64, .u 64, .u 64, .u 64, .u 64]) false (.t 69) (.t 70)⟩,
 op 72 (.pick (.t 68) (.c (.b true)) (.t 71))] [4, 11, 72]) (
 .cond (.t 72) (
 .seq (
 .reg [
 op 73 (.build [.u 64 0, .u 64 0, .u 64 0, .u 64 0, .u 64 0, .u 64 0, .u 64 0, .u 64 0, .u 64 0] []),
 ⟨none, none, .stl 4 9 (.t 4) (.t 73)⟩,
 op 5 (.mov (.c (.i 401)))] [4, 5]) (
 .ret)) (
 .reg [] [4, 11]))) (
 .seq (
 .reg [
 op 74 (.ldl 11 (some 9) (.t 11)),
 ⟨none, none, .stl 4 9 (.t 4) (.t 74)⟩,
 op 5 (.mov (.c (.i 0)))] [4, 5]) (
 .ret)))))))))
def m_divide_Inverse : MFn := ⟨c_divide_Inverse, [.cell 4 (some 9), .tmp 5], 0⟩

/-- curvet/nat.Cmp -/
def c_nat_Cmp : Stm :=
 .seq (
 .reg [
 op 2 (.boxv (.t 0)),
 op 3 (.boxv (.t 1)),
 op 4 (.mov (.c (.i 0)))] [2, 3]) (
 .seq (
 .seq (
 .reg [
 op 5 (.mov (.c (.i 8)))] [2, 3, 5]) (
 .block 0 (
 .loop [2, 3, 5] (
 .seq (
 .seq (
 .reg [
 mv 6 5,
 op 7 (.bin .geq (.t 6) (.c (.i 0)))] [2, 3, 5, 7]) (
 .cond (.t 7) (
 .reg [] [2, 3, 5]) (
 .exit 0 []))) (
 .seq (
 .block 1 (
 .block 2 (
 .seq (
 .reg [
 mv 11 5,
 op 12 (.off 0 (.t 2)),
 op 13 (.idx 9 1 (.t 12) (.t 11)),
 op 14 (.ld true none (.t 13)),
 mv 15 5,
 op 16 (.off 0 (.t 3)),
 op 17 (.idx 9 1 (.t 16) (.t 15)),
 op 18 (.ld true none (.t 17)),
 op 19 (.bin .lss (.t 14) (.t 18)),
 mv 10 19] [2, 3, 5, 10]) (
 .cond (.t 10) (
 .seq (
 .reg [
 op 4 (.mov (.c (.i (-1))))] [4]) (
 .ret)) (
 .seq (
 .reg [
 mv 21 5,
 op 22 (.off 0 (.t 2)),
 op 23 (.idx 9 1 (.t 22) (.t 21)),
 op 24 (.ld true none (.t 23)),
 mv 25 5,
 op 26 (.off 0 (.t 3)),
 op 27 (.idx 9 1 (.t 26) (.t 25)),
 op 28 (.ld true none (.t 27)),
 op 29 (.bin .gtr (.t 24) (.t 28)),
 mv 20 29] [2, 3, 5, 20]) (
 .cond (.t 20) (
 .seq (
 .reg [
 op 4 (.mov (.c (.i 1)))] [4]) (
 .ret)) (
 .reg [] [2, 3, 5]))))))) (
 .reg [
 mv 8 5,
 op 9 (.bin .sub (.t 8) (.c (.i 1))),
 mv 5 9] [2, 3, 5])))))) (
 .seq (
 .reg [
 op 4 (.mov (.c (.i 0)))] [4]) (
 .ret)))
def m_nat_Cmp : MFn := ⟨c_nat_Cmp, [.tmp 4], 0⟩

/-- curvet/nat.Small -/
def c_nat_Small : Stm :=
 .seq (
 .reg [
 op 2 (.box (.c (.agg [.u 64 0, .u 64 0, .u 64 0, .u 64 0, .u 64 0, .u 64 0, .u 64 0, .u 64 0, .u 64 0])))] [0, 2]) (
 .seq (
 .reg [
 mv 3 0,
 op 4 (.mx (.t 3) (.c (.i 0))),
 op 5 (.cvu 64 (.t 4)),
 op 6 (.build [.u 64 0, .u 64 0, .u 64 0, .u 64 0, .u 64 0, .u 64 0, .u 64 0, .u 64 0, .u 64 0] [(0, 1, (.t 5))]),
 op 7 (.build [.u 64 0, .u 64 0, .u 64 0, .u 64 0, .u 64 0, .u 64 0, .u 64 0, .u 64 0, .u 64 0] [(0, 9, (.t 6))]),
 ⟨none, none, .stl 2 9 (.t 2) (.t 7)⟩] [2]) (
 .ret))
def m_nat_Small : MFn := ⟨c_nat_Small, [.cell 2 (some 9)], 0⟩

/-- curvet/nat.Bits -/
def c_nat_Bits : Stm :=
 .seq (
 .reg [
 op 1 (.boxv (.t 0)),
 op 2 (.mov (.c (.i 0)))] [1]) (
 .seq (
 .reg [
 op 4 (.call f_nat_used [] [(.t 1)]),
 mv 3 4] [1, 3]) (
 .seq (
 .seq (
 .reg [
 mv 5 3,
 op 6 (.bin .eql (.t 5) (.c (.i 0)))] [1, 3, 6]) (
 .cond (.t 6) (
 .seq (
 .reg [
 op 2 (.mov (.c (.i 0)))] [2]) (
 .ret)) (
 .reg [] [1, 3]))) (
 .seq (
 .reg [
 mv 7 3,
 op 8 (.bin .sub (.t 7) (.c (.i 1))),
 op 9 (.bin .mul (.t 8) (.c (.i 64))),
 mv 10 3,
 op 11 (.bin .sub (.t 10) (.c (.i 1))),
 op 12 (.off 0 (.t 1)),
 op 13 (.idx 9 1 (.t 12) (.t 11)),
 op 14 (.ld true none (.t 13)),
 op 15 (.call f_bits_Len64 [] [(.t 14)]),
 op 16 (.bin .add (.t 9) (.t 15)),
 mv 2 16] [2]) (
 .ret))))
def m_nat_Bits : MFn := ⟨c_nat_Bits, [.tmp 2], 0⟩

/-- curvet/divide.By -/
def c_divide_By : Stm :=
 .seq (
 .reg [
 op 1 (.boxv (.t 0)),
 op 2 (.box (.c (.agg [.nilp])))] [1, 2]) (
 .seq (
 .reg [
 op 3 (.call f_divide_of [] [(.t 1)]),
 op 4 (.build [.nilp] [(0, 1, (.t 3))]),
 ⟨none, none, .stl 2 1 (.t 2) (.t 4)⟩] [2]) (
 .ret))
def m_divide_By : MFn := ⟨c_divide_By, [.cell 2 (some 1)], 0⟩

/-- (curvet/divide.Modulus).Mul -/
def c_divide_Modulus_Mul : Stm :=
 .seq (
 .reg [
 op 3 (.boxv (.t 0)),
 op 4 (.boxv (.t 1)),
 op 5 (.boxv (.t 2)),
 op 6 (.box (.c (.agg [.u 64 0, .u 64 0, .u 64 0, .u 64 0, .u 64 0, .u 64 0, .u 64 0, .u 64 0, .u 64 0])))] [3, 4, 5, 6]) (
 .seq (
 .reg [
 op 10 (.ld true (some 9) (.t 4)),
 op 11 (.ld true (some 9) (.t 5)),
 op 12 (.call f_nat_Mul [] [(.t 10), (.t 11)]),
 op 7 (.box (.c (.agg [.u 64 0, .u 64 0, .u 64 0, .u 64 0, .u 64 0, .u 64 0, .u 64 0, .u 64 0, .u 64 0, .u 64 0, .u 64 0, .u 64 0, .u 64 0, .u 64 0, .u 64 0, .u 64 0, .u 64 0, .u 64 0]))),
 ⟨none, none, .stl 7 18 (.t 7) (.t 12)⟩] [3, 6, 7]) (
 .seq (
 .reg [
 op 14 (.off 0 (.t 3)),
 op 15 (.ld true none (.t 14)),
 op 16 (.off 0 (.t 7)),
 op 17 (.off 0 (.t 7)),
 op 18 (.sla true 18 1 (.t 17) none none),
 op 19 (.call f_divide_length [7] [(.t 18)]),
 op 20 (.sla true 18 1 (.t 16) none (some (.t 19))),
 op 21 (.call f_divide_divisor_divide [7] [(.t 15), (.t 20)]),
 mv 13 21,
 op 22 (.ext 0 (.t 13)),
 op 23 (.ext 1 (.t 13)),
 op 8 (.box (.c (.agg [.u 64 0, .u 64 0, .u 64 0, .u 64 0, .u 64 0, .u 64 0, .u 64 0, .u 64 0, .u 64 0, .u 64 0, .u 64 0, .u 64 0, .u 64 0, .u 64 0, .u 64 0, .u 64 0, .u 64 0, .u 64 0]))),
 op 9 (.box (.c (.agg [.u 64 0, .u 64 0, .u 64 0, .u 64 0, .u 64 0, .u 64 0, .u 64 0, .u 64 0, .u 64 0]))),
 ⟨none, none, .stl 8 18 (.t 8) (.t 22)⟩,
 ⟨none, none, .stl 9 9 (.t 9) (.t 23)⟩] [6, 9]) (
 .seq (
 .reg [
 op 24 (.ldl 9 (some 9) (.t 9)),
 ⟨none, none, .stl 6 9 (.t 6) (.t 24)⟩] [6]) (
 .ret))))
def m_divide_Modulus_Mul : MFn := ⟨c_divide_Modulus_Mul, [.cell 6 (some 9)], 0⟩

/-- (curvet/divide.Modulus).Rest -/
def c_divide_Modulus_Rest : Stm :=
 .seq (
 .reg [
 op 2 (.boxv (.t 0)),
 op 3 (.boxv (.t 1)),
 op 4 (.box (.c (.agg [.u 64 0, .u 64 0, .u 64 0, .u 64 0, .u 64 0, .u 64 0, .u 64 0, .u 64 0, .u 64 0])))] [2, 3, 4]) (
 .seq (
 .reg [
 op 8 (.off 0 (.t 2)),
 op 9 (.ld true none (.t 8)),
 op 10 (.off 0 (.t 3)),
 op 11 (.sla true 18 1 (.t 10) none none),
 op 12 (.call f_divide_divisor_divide [] [(.t 9), (.t 11)]),
 mv 7 12,
 op 13 (.ext 0 (.t 7)),
 op 14 (.ext 1 (.t 7)),
 op 5 (.box (.c (.agg [.u 64 0, .u 64 0, .u 64 0, .u 64 0, .u 64 0, .u 64 0, .u 64 0, .u 64 0, .u 64 0, .u 64 0, .u 64 0, .u 64 0, .u 64 0, .u 64 0, .u 64 0, .u 64 0, .u 64 0, .u 64 0]))),
 op 6 (.box (.c (.agg [.u 64 0, .u 64 0, .u 64 0, .u 64 0, .u 64 0, .u 64 0, .u 64 0, .u 64 0, .u 64 0]))),
 ⟨none, none, .stl 5 18 (.t 5) (.t 13)⟩,
 ⟨none, none, .stl 6 9 (.t 6) (.t 14)⟩] [4, 6]) (
 .seq (
 .reg [
 op 15 (.ldl 6 (some 9) (.t 6)),
 ⟨none, none, .stl 4 9 (.t 4) (.t 15)⟩] [4]) (
 .ret)))
def m_divide_Modulus_Rest : MFn := ⟨c_divide_Modulus_Rest, [.cell 4 (some 9)], 0⟩

/-- curvet/curvetref1.trim -/
def c_curvetref1_trim : Stm :=
 .seq (
 .reg [
 op 2 (.mov (.c (.vs 0 [])))] [0]) (
 .seq (
 .reg [
 mv 4 0,
 op 5 (.len (.t 4)),
 mv 3 5] [0, 3]) (
 .seq (
 .block 0 (
 .loop [0, 3] (
 .seq (
 .seq (
 .reg [
 mv 6 3,
 op 7 (.bin .gtr (.t 6) (.c (.i 0))),
 mv 8 7,
 ⟨some 9, (some (8, true)), .mov (.t 0)⟩,
 ⟨some 10, (some (8, true)), .mov (.t 3)⟩,
 ⟨some 11, (some (8, true)), .bin .sub (.t 10) (.c (.i 1))⟩,
 ⟨some 12, (some (8, true)), .idxs 1 (.t 9) (.t 11)⟩,
 ⟨some 13, (some (8, true)), .ld false none (.t 12)⟩,
 ⟨some 14, (some (8, true)), .bin .eql (.t 13) (.c (.u 32 0))⟩,
 op 15 (.pick (.t 8) (.t 14) (.c (.b false)))] [0, 3, 15]) (
 .cond (.t 15) (
 .reg [] [0, 3]) (
 .exit 0 [0, 3]))) (
 .block 1 (
 .reg [
 mv 16 3,
 op 17 (.bin .sub (.t 16) (.c (.i 1))),
 mv 3 17] [0, 3]))))) (
 .seq (
 .reg [
 mv 18 0,
 mv 19 3,
 op 20 (.slv 1 (.t 18) none (some (.t 19))),
 mv 2 20] [2]) (
 .ret))))
def m_curvetref1_trim : MFn := ⟨c_curvetref1_trim, [.tmp 2], 0⟩

/-- curvet/curvetref1.digit -/
def c_curvetref1_digit : Stm :=
 .seq (
 .reg [
 op 4 (.mov (.c (.u 64 0)))] [0, 1]) (
 .seq (
 .seq (
 .reg [
 mv 5 1,
 mv 6 0,
 op 7 (.len (.t 6)),
 op 8 (.bin .lss (.t 5) (.t 7))] [0, 1, 8]) (
 .cond (.t 8) (
 .seq (
 .reg [
 mv 9 0,
 mv 10 1,
 op 11 (.idxs 1 (.t 9) (.t 10)),
 op 12 (.ld false none (.t 11)),
 op 13 (.cvu 64 (.t 12)),
 mv 4 13] [4]) (
 .ret)) (
 .reg [] []))) (
 .seq (
 .reg [
 op 4 (.mov (.c (.u 64 0)))] [4]) (
 .ret)))
def m_curvetref1_digit : MFn := ⟨c_curvetref1_digit, [.tmp 4], 0⟩

/-- curvet/curvetref1.Div -/
def c_curvetref1_Div : Stm :=
 .seq (
 .reg [
 op 4 (.mov (.c (.vs 0 []))),
 op 5 (.mov (.c (.vs 0 [])))] [0, 1]) (
 .seq (
 .seq (
 .reg [
 mv 12 0,
 mv 13 1,
 op 14 (.call f_curvetref1_Cmp [] [(.t 12), (.t 13)]),
 op 15 (.bin .lss (.t 14) (.c (.i 0)))] [0, 1, 15]) (
 .cond (.t 15) (
 .seq (
 .reg [
 mv 16 0,
 op 4 (.mov (.c (.vs 0 []))),
 mv 5 16] [4, 5]) (
 .ret)) (
 .reg [] [0, 1]))) (
 .seq (
 .seq (
 .reg [
 mv 17 1,
 op 18 (.len (.t 17)),
 op 19 (.bin .eql (.t 18) (.c (.i 1)))] [0, 1, 19]) (
 .cond (.t 19) (
 .seq (
 .reg [
 mv 20 0,
 mv 21 1,
 op 22 (.idxs 1 (.t 21) (.c (.i 0))),
 op 23 (.ld false none (.t 22)),
 op 24 (.cvu 64 (.t 23)),
 op 25 (.call f_curvetref1_short [] [(.t 20), (.t 24)]),
 op 26 (.ext 0 (.t 25)),
 op 27 (.ext 1 (.t 25)),
 mv 4 26,
 mv 5 27] [4, 5]) (
 .ret)) (
 .reg [] [0, 1]))) (
 .seq (
 .reg [
 mv 28 1,
 op 29 (.len (.t 28)),
 op 30 (.bin .mul (.c (.i 32)) (.t 29)),
 mv 31 1,
 op 32 (.call f_curvetref1_Bits [] [(.t 31)]),
 op 33 (.bin .sub (.t 30) (.t 32)),
 mv 6 33] [0, 1, 6]) (
 .seq (
 .reg [
 mv 34 1,
 mv 35 6,
 op 36 (.call f_curvetref1_Shl [] [(.t 34), (.t 35)]),
 mv 7 36] [0, 6, 7]) (
 .seq (
 .reg [
 mv 37 0,
 op 38 (.len (.t 37)),
 op 39 (.bin .add (.t 38) (.c (.i 1))),
 op 40 (.mks 1 4 [.u 32 0] (.t 39) (.t 39)),
 mv 8 40] [0, 6, 7, 8]) (
 .seq (
 .reg [
 mv 41 8,
 mv 42 0,
 mv 43 6,
 op 44 (.call f_curvetref1_Shl [] [(.t 42), (.t 43)]),
 op 45 (.cpy 1 (.t 41) (.t 44))] [6, 7, 8]) (
 .seq (
 .reg [
 mv 46 7,
 op 47 (.len (.t 46)),
 mv 9 47] [6, 7, 8, 9]) (
 .seq (
 .reg [
 mv 48 8,
 op 49 (.len (.t 48)),
 mv 50 9,
 op 51 (.bin .sub (.t 49) (.t 50)),
 op 52 (.mks 1 4 [.u 32 0] (.t 51) (.t 51)),
 mv 10 52] [6, 7, 8, 9, 10]) (
 .seq (
 .seq (
 .reg [
 mv 53 8,
 op 54 (.len (.t 53)),
 mv 55 9,
 op 56 (.bin .sub (.t 54) (.t 55)),
 op 57 (.bin .sub (.t 56) (.c (.i 1))),
 mv 11 57] [6, 7, 8, 9, 10, 11]) (
 .block 0 (
 .loop [6, 7, 8, 9, 10, 11] (
 .seq (
 .seq (
 .reg [
 mv 58 11,
 op 59 (.bin .geq (.t 58) (.c (.i 0)))] [6, 7, 8, 9, 10, 11, 59]) (
 .cond (.t 59) (
 .reg [] [6, 7, 8, 9, 10, 11]) (
 .exit 0 [6, 8, 9, 10]))) (
 .seq (
 .block 1 (
 .reg [
 mv 62 10,
 mv 63 11,
 mv 64 8,
 mv 65 7,
 mv 66 11,
 op 67 (.call f_curvetref1_step [] [(.t 64), (.t 65), (.t 66)]),
 op 68 (.cvu 32 (.t 67)),
 op 69 (.idxs 1 (.t 62) (.t 63)),
 ⟨none, none, .st 1 (.t 69) (.t 68)⟩] [6, 7, 8, 9, 10, 11])) (
 .reg [
 mv 60 11,
 op 61 (.bin .sub (.t 60) (.c (.i 1))),
 mv 11 61] [6, 7, 8, 9, 10, 11])))))) (
 .seq (
 .reg [
 mv 70 10,
 op 71 (.call f_curvetref1_trim [] [(.t 70)]),
 mv 72 8,
 mv 73 9,
 op 74 (.slv 1 (.t 72) none (some (.t 73))),
 op 75 (.call f_curvetref1_trim [] [(.t 74)]),
 mv 76 6,
 op 77 (.call f_curvetref1_Shr [] [(.t 75), (.t 76)]),
 mv 4 71,
 mv 5 77] [4, 5]) (
 .ret)))))))))))
def m_curvetref1_Div : MFn := ⟨c_curvetref1_Div, [.tmp 4, .tmp 5], 0⟩

/-- (*curvet/mont.Mont).may -/
def c_mont_Mont_may : Stm :=
 .seq (
 .reg [
 op 4 (.mov (.c (.i 0)))] [0, 1]) (
 .seq (
 .seq (
 .reg [
 mv 7 0,
 op 8 (.eqv .ptr false (.t 7) (.c (.nilp)))] [0, 1, 8]) (
 .cond (.t 8) (
 .seq (
 .reg [
 op 4 (.mov (.c (.i 1)))] [4]) (
 .ret)) (
 .reg [] [0, 1]))) (
 .seq (
 .seq (
 .reg [
 mv 9 1,
 op 10 (.len (.t 9)),
 op 11 (.mov (.c (.i 0)))] [0, 9, 10, 11]) (
 .block 0 (
 .loop [0, 9, 10, 11] (
 .seq (
 .reg [
 op 12 (.bin .lss (.t 11) (.t 10))] [0, 9, 10, 11, 12]) (
 .seq (
 .cond (.t 12) (
 .reg [] [0, 9, 10, 11]) (
 .exit 0 [])) (
 .seq (
 .block 1 (
 .seq (
 .reg [
 op 13 (.idxs 9 (.t 9) (.t 11)),
 op 14 (.ld false (some 9) (.t 13)),
 op 6 (.box (.c (.agg [.u 64 0, .u 64 0, .u 64 0, .u 64 0, .u 64 0, .u 64 0, .u 64 0, .u 64 0, .u 64 0]))),
 ⟨none, none, .stl 6 9 (.t 6) (.t 14)⟩] [0, 6, 9, 10, 11]) (
 .seq (
 .reg [
 op 15 (.ldl 6 (some 9) (.t 6)),
 mv 16 0,
 op 17 (.nck (.t 16)),
 op 18 (.off 0 (.t 17)),
 op 19 (.ld false (some 9) (.t 18)),
 op 20 (.call f_nat_Cmp [] [(.t 15), (.t 19)]),
 op 21 (.bin .geq (.t 20) (.c (.i 0)))] [0, 9, 10, 11, 21]) (
 .cond (.t 21) (
 .seq (
 .reg [
 op 4 (.mov (.c (.i 601)))] [4]) (
 .ret)) (
 .reg [] [0, 9, 10, 11]))))) (
 .reg [
 op 22 (.bin .add (.t 11) (.c (.i 1))),
 mv 11 22] [0, 9, 10, 11]))))))) (
 .seq (
 .reg [
 op 4 (.mov (.c (.i 0)))] [4]) (
 .ret))))
def m_mont_Mont_may : MFn := ⟨c_mont_Mont_may, [.tmp 4], 0⟩

/-- (*curvet/mont.Mont).Raw -/
def c_mont_Mont_Raw : Stm :=
 .seq (
 .reg [
 op 4 (.boxv (.t 1)),
 op 5 (.boxv (.t 2)),
 op 6 (.box (.c (.agg [.u 64 0, .u 64 0, .u 64 0, .u 64 0, .u 64 0, .u 64 0, .u 64 0, .u 64 0, .u 64 0])))] [0, 4, 5, 6]) (
 .seq (
 .reg [
 op 7 (.boxh (.c (.agg [.u 64 0, .u 64 0, .u 64 0, .u 64 0, .u 64 0, .u 64 0, .u 64 0, .u 64 0, .u 64 0, .u 64 0, .u 64 0])))] [0, 4, 5, 6, 7]) (
 .seq (
 .seq (
 .reg [
 mv 14 0,
 op 15 (.nck (.t 14)),
 op 16 (.off 9 (.t 15)),
 op 17 (.ld false none (.t 16)),
 op 18 (.mov (.c (.i 0)))] [0, 4, 5, 6, 7, 17, 18]) (
 .block 0 (
 .loop [0, 4, 5, 6, 7, 17, 18] (
 .seq (
 .reg [
 op 19 (.bin .lss (.t 18) (.t 17))] [0, 4, 5, 6, 7, 17, 18, 19]) (
 .seq (
 .cond (.t 19) (
 .reg [] [0, 4, 5, 6, 7, 17, 18]) (
 .exit 0 [0, 6, 7])) (
 .seq (
 .block 1 (
 .seq (
 .reg [
 mv 20 18,
 mv 8 20] [0, 4, 5, 6, 7, 8, 17, 18]) (
 .seq (
 .reg [
 mv 21 0,
 mv 22 8,
 op 23 (.off 0 (.t 4)),
 op 24 (.idx 9 1 (.t 23) (.t 22)),
 op 25 (.ld true none (.t 24)),
 op 26 (.call f_mont_Mont_round [] [(.t 21), (.t 7), (.t 25), (.t 5)])] [0, 4, 5, 6, 7, 17, 18]) (
 .seq (
 .reg [
 op 27 (.idx 11 1 (.t 7) (.c (.i 0))),
 op 28 (.ld false none (.t 27)),
 mv 29 0,
 op 30 (.nck (.t 29)),
 op 31 (.off 10 (.t 30)),
 op 32 (.ld false none (.t 31)),
 op 33 (.bin .mul (.t 28) (.t 32)),
 mv 9 33] [0, 4, 5, 6, 7, 9, 17, 18]) (
 .seq (
 .reg [
 mv 34 0,
 mv 35 9,
 mv 36 0,
 op 37 (.nck (.t 36)),
 op 38 (.off 0 (.t 37)),
 op 39 (.call f_mont_Mont_round [] [(.t 34), (.t 7), (.t 35), (.t 38)])] [0, 4, 5, 6, 7, 17, 18]) (
 .seq (
 .reg [
 op 40 (.sla false 11 1 (.t 7) none none),
 op 41 (.sla false 11 1 (.t 7) (some (.c (.i 1))) none),
 op 42 (.cpy 1 (.t 40) (.t 41))] [0, 4, 5, 6, 7, 17, 18]) (
 .reg [
 op 43 (.idx 11 1 (.t 7) (.c (.i 10))),
 ⟨none, none, .st 1 (.t 43) (.c (.u 64 0))⟩] [0, 4, 5, 6, 7, 17, 18]))))))) (
 .reg [
 op 44 (.bin .add (.t 18) (.c (.i 1))),
 mv 18 44] [0, 4, 5, 6, 7, 17, 18]))))))) (
 .seq (
 .reg [
 op 10 (.box (.c (.agg [.u 64 0, .u 64 0, .u 64 0, .u 64 0, .u 64 0, .u 64 0, .u 64 0, .u 64 0, .u 64 0])))] [0, 6, 7, 10]) (
 .seq (
 .reg [
 op 45 (.off 0 (.t 10)),
 op 46 (.sla true 9 1 (.t 45) none none),
 mv 47 0,
 op 48 (.nck (.t 47)),
 op 49 (.off 9 (.t 48)),
 op 50 (.ld false none (.t 49)),
 op 51 (.sla false 11 1 (.t 7) none (some (.t 50))),
 op 52 (.cpyl 10 1 [] (.t 46) (.t 51))] [0, 6, 7, 10]) (
 .seq (
 .seq (
 .reg [
 op 54 (.ldl 10 (some 9) (.t 10)),
 mv 55 0,
 op 56 (.nck (.t 55)),
 op 57 (.off 0 (.t 56)),
 op 58 (.ld false (some 9) (.t 57)),
 op 59 (.call f_nat_Sub [] [(.t 54), (.t 58)]),
 mv 53 59,
 op 60 (.ext 0 (.t 53)),
 op 61 (.ext 1 (.t 53)),
 op 11 (.box (.c (.agg [.u 64 0, .u 64 0, .u 64 0, .u 64 0, .u 64 0, .u 64 0, .u 64 0, .u 64 0, .u 64 0]))),
 ⟨none, none, .stl 11 9 (.t 11) (.t 60)⟩,
 mv 12 61] [0, 6, 7, 10, 11, 12]) (
 .seq (
 .reg [
 mv 62 0,
 op 63 (.nck (.t 62)),
 op 64 (.off 9 (.t 63)),
 op 65 (.ld false none (.t 64)),
 op 66 (.idx 11 1 (.t 7) (.t 65)),
 op 67 (.ld false none (.t 66)),
 op 68 (.bin .neq (.t 67) (.c (.u 64 0))),
 mv 69 68,
 ⟨some 70, (some (69, false)), .mov (.t 12)⟩,
 ⟨some 71, (some (69, false)), .un .not (.t 70)⟩,
 op 72 (.pick (.t 69) (.c (.b true)) (.t 71))] [0, 6, 10, 11, 72]) (
 .cond (.t 72) (
 .seq (
 .seq (
 .reg [
 mv 73 0,
 op 74 (.nck (.t 73)),
 op 75 (.off 9 (.t 74)),
 op 76 (.ld false none (.t 75)),
 mv 13 76] [6, 11, 13]) (
 .block 2 (
 .loop [6, 11, 13] (
 .seq (
 .seq (
 .reg [
 mv 77 13,
 op 78 (.bin .lss (.t 77) (.c (.i 9)))] [6, 11, 13, 78]) (
 .cond (.t 78) (
 .reg [] [6, 11, 13]) (
 .exit 2 [6, 11]))) (
 .seq (
 .block 3 (
 .reg [
 mv 81 13,
 op 82 (.off 0 (.t 11)),
 op 83 (.idx 9 1 (.t 82) (.t 81)),
 ⟨none, none, .stl 11 1 (.t 83) (.c (.u 64 0))⟩] [6, 11, 13])) (
 .reg [
 mv 79 13,
 op 80 (.bin .add (.t 79) (.c (.i 1))),
 mv 13 80] [6, 11, 13])))))) (
 .seq (
 .reg [
 op 84 (.ldl 11 (some 9) (.t 11)),
 ⟨none, none, .stl 6 9 (.t 6) (.t 84)⟩] [6]) (
 .ret))) (
 .reg [] [6, 10])))) (
 .seq (
 .reg [
 op 85 (.ldl 10 (some 9) (.t 10)),
 ⟨none, none, .stl 6 9 (.t 6) (.t 85)⟩] [6]) (
 .ret)))))))
def m_mont_Mont_Raw : MFn := ⟨c_mont_Mont_Raw, [.cell 6 (some 9)], 0⟩

/-- curvet/curvetref1.Mul -/
def c_curvetref1_Mul : Stm :=
 .seq (
 .reg [
 op 4 (.mov (.c (.vs 0 [])))] [0, 1]) (
 .seq (
 .reg [
 mv 10 0,
 op 11 (.len (.t 10)),
 mv 12 1,
 op 13 (.len (.t 12)),
 op 14 (.bin .add (.t 11) (.t 13)),
 op 15 (.mks 1 4 [.u 32 0] (.t 14) (.t 14)),
 mv 5 15] [0, 1, 5]) (
 .seq (
 .seq (
 .reg [
 op 6 (.mov (.c (.i 0)))] [0, 1, 5, 6]) (
 .block 0 (
 .loop [0, 1, 5, 6] (
 .seq (
 .seq (
 .reg [
 mv 16 6,
 mv 17 0,
 op 18 (.len (.t 17)),
 op 19 (.bin .lss (.t 16) (.t 18))] [0, 1, 5, 6, 19]) (
 .cond (.t 19) (
 .reg [] [0, 1, 5, 6]) (
 .exit 0 [5]))) (
 .seq (
 .block 1 (
 .seq (
 .reg [
 op 7 (.mov (.c (.u 64 0)))] [0, 1, 5, 6, 7]) (
 .seq (
 .seq (
 .reg [
 op 8 (.mov (.c (.i 0)))] [0, 1, 5, 6, 7, 8]) (
 .block 2 (
 .loop [0, 1, 5, 6, 7, 8] (
 .seq (
 .seq (
 .reg [
 mv 22 8,
 mv 23 1,
 op 24 (.len (.t 23)),
 op 25 (.bin .lss (.t 22) (.t 24))] [0, 1, 5, 6, 7, 8, 25]) (
 .cond (.t 25) (
 .reg [] [0, 1, 5, 6, 7, 8]) (
 .exit 2 [0, 1, 5, 6, 7]))) (
 .seq (
 .block 3 (
 .seq (
 .reg [
 mv 28 0,
 mv 29 6,
 op 30 (.idxs 1 (.t 28) (.t 29)),
 op 31 (.ld false none (.t 30)),
 op 32 (.cvu 64 (.t 31)),
 mv 33 1,
 mv 34 8,
 op 35 (.idxs 1 (.t 33) (.t 34)),
 op 36 (.ld false none (.t 35)),
 op 37 (.cvu 64 (.t 36)),
 op 38 (.bin .mul (.t 32) (.t 37)),
 mv 39 5,
 mv 40 6,
 mv 41 8,
 op 42 (.bin .add (.t 40) (.t 41)),
 op 43 (.idxs 1 (.t 39) (.t 42)),
 op 44 (.ld false none (.t 43)),
 op 45 (.cvu 64 (.t 44)),
 op 46 (.bin .add (.t 38) (.t 45)),
 mv 47 7,
 op 48 (.bin .add (.t 46) (.t 47)),
 mv 9 48] [0, 1, 5, 6, 8, 9]) (
 .seq (
 .reg [
 mv 49 5,
 mv 50 6,
 mv 51 8,
 op 52 (.bin .add (.t 50) (.t 51)),
 mv 53 9,
 op 54 (.bin .and (.t 53) (.c (.u 64 4294967295))),
 op 55 (.cvu 32 (.t 54)),
 op 56 (.idxs 1 (.t 49) (.t 52)),
 ⟨none, none, .st 1 (.t 56) (.t 55)⟩] [0, 1, 5, 6, 8, 9]) (
 .reg [
 mv 57 9,
 op 58 (.bin .shr (.t 57) (.c (.u 64 32))),
 mv 7 58] [0, 1, 5, 6, 7, 8])))) (
 .reg [
 mv 26 8,
 op 27 (.bin .add (.t 26) (.c (.i 1))),
 mv 8 27] [0, 1, 5, 6, 7, 8])))))) (
 .reg [
 mv 59 5,
 mv 60 6,
 mv 61 1,
 op 62 (.len (.t 61)),
 op 63 (.bin .add (.t 60) (.t 62)),
 mv 64 7,
 op 65 (.cvu 32 (.t 64)),
 op 66 (.idxs 1 (.t 59) (.t 63)),
 ⟨none, none, .st 1 (.t 66) (.t 65)⟩] [0, 1, 5, 6])))) (
 .reg [
 mv 20 6,
 op 21 (.bin .add (.t 20) (.c (.i 1))),
 mv 6 21] [0, 1, 5, 6])))))) (
 .seq (
 .reg [
 mv 67 5,
 op 68 (.call f_curvetref1_trim [] [(.t 67)]),
 mv 4 68] [4]) (
 .ret))))
def m_curvetref1_Mul : MFn := ⟨c_curvetref1_Mul, [.tmp 4], 0⟩

/-- curvet/divide.zero -/
def c_divide_zero : Stm :=
 .seq (
 .reg [
 op 2 (.mov (.c (.b false)))] [0]) (
 .seq (
 .reg [
 mv 3 0,
 op 4 (.nck (.t 3)),
 op 5 (.ld false (some 9) (.t 4)),
 op 6 (.build [.u 64 0, .u 64 0, .u 64 0, .u 64 0, .u 64 0, .u 64 0, .u 64 0, .u 64 0, .u 64 0] []),
 op 7 (.eqv (.agg [.u 64, .u 64, .u 64, .u 64, .u 64, .u 64, .u 64, .u 64, .u 64]) false (.t 5) (.t 6)),
 mv 2 7] [2]) (
 .ret))
def m_divide_zero : MFn := ⟨c_divide_zero, [.tmp 2], 0⟩

/-- curvet/divide.of -/
def c_divide_of : Stm :=
 .seq (
 .reg [
 op 2 (.mov (.c (.nilp)))] [0]) (
 .seq (
 .reg [
 mv 5 0,
 op 6 (.nck (.t 5)),
 op 7 (.off 0 (.t 6)),
 op 8 (.ld true (some 9) (.t 7)),
 mv 9 0,
 op 10 (.nck (.t 9)),
 op 11 (.off 0 (.t 10)),
 op 12 (.sla false 9 1 (.t 11) none none),
 op 13 (.call f_divide_length [] [(.t 12)]),
 op 14 (.build [.u 64 0, .u 64 0, .u 64 0, .u 64 0, .u 64 0, .u 64 0, .u 64 0, .u 64 0, .u 64 0, .i 0, .i 0] [(0, 9, (.t 8)), (9, 1, (.t 13))]),
 op 15 (.boxh (.t 14)),
 mv 3 15] [3]) (
 .seq (
 .reg [
 mv 16 3,
 mv 17 3,
 mv 18 3,
 op 19 (.nck (.t 18)),
 op 20 (.off 9 (.t 19)),
 op 21 (.ld false none (.t 20)),
 op 22 (.bin .sub (.t 21) (.c (.i 1))),
 op 23 (.nck (.t 17)),
 op 24 (.off 0 (.t 23)),
 op 25 (.idx 9 1 (.t 24) (.t 22)),
 op 26 (.ld false none (.t 25)),
 op 27 (.call f_bits_LeadingZeros64 [] [(.t 26)]),
 op 28 (.nck (.t 16)),
 op 29 (.off 10 (.t 28)),
 ⟨none, none, .st 1 (.t 29) (.t 27)⟩] [3]) (
 .seq (
 .seq (
 .reg [
 mv 30 3,
 op 31 (.nck (.t 30)),
 op 32 (.off 9 (.t 31)),
 op 33 (.ld false none (.t 32)),
 op 34 (.bin .sub (.t 33) (.c (.i 1))),
 mv 4 34] [3, 4]) (
 .block 0 (
 .loop [3, 4] (
 .seq (
 .seq (
 .reg [
 mv 35 4,
 op 36 (.bin .geq (.t 35) (.c (.i 0)))] [3, 4, 36]) (
 .cond (.t 36) (
 .reg [] [3, 4]) (
 .exit 0 [3]))) (
 .seq (
 .block 1 (
 .seq (
 .reg [
 mv 39 3,
 mv 40 4,
 op 41 (.nck (.t 39)),
 op 42 (.off 0 (.t 41)),
 op 43 (.idx 9 1 (.t 42) (.t 40)),
 op 44 (.ld false none (.t 43)),
 mv 45 3,
 op 46 (.nck (.t 45)),
 op 47 (.off 10 (.t 46)),
 op 48 (.ld false none (.t 47)),
 op 49 (.bin .shl (.t 44) (.t 48)),
 op 50 (.nck (.t 39)),
 op 51 (.off 0 (.t 50)),
 op 52 (.idx 9 1 (.t 51) (.t 40)),
 ⟨none, none, .st 1 (.t 52) (.t 49)⟩] [3, 4]) (
 .seq (
 .reg [
 mv 53 4,
 op 54 (.bin .gtr (.t 53) (.c (.i 0))),
 mv 55 54,
 ⟨some 56, (some (55, true)), .mov (.t 3)⟩,
 ⟨some 57, (some (55, true)), .nck (.t 56)⟩,
 ⟨some 58, (some (55, true)), .off 10 (.t 57)⟩,
 ⟨some 59, (some (55, true)), .ld false none (.t 58)⟩,
 ⟨some 60, (some (55, true)), .bin .gtr (.t 59) (.c (.i 0))⟩,
 op 61 (.pick (.t 55) (.t 60) (.c (.b false)))] [3, 4, 61]) (
 .cond (.t 61) (
 .reg [
 mv 62 3,
 mv 63 4,
 op 64 (.nck (.t 62)),
 op 65 (.off 0 (.t 64)),
 op 66 (.idx 9 1 (.t 65) (.t 63)),
 op 67 (.ld false none (.t 66)),
 mv 68 3,
 mv 69 4,
 op 70 (.bin .sub (.t 69) (.c (.i 1))),
 op 71 (.nck (.t 68)),
 op 72 (.off 0 (.t 71)),
 op 73 (.idx 9 1 (.t 72) (.t 70)),
 op 74 (.ld false none (.t 73)),
 mv 75 3,
 op 76 (.nck (.t 75)),
 op 77 (.off 10 (.t 76)),
 op 78 (.ld false none (.t 77)),
 op 79 (.bin .sub (.c (.i 64)) (.t 78)),
 op 80 (.bin .shr (.t 74) (.t 79)),
 op 81 (.bin .or (.t 67) (.t 80)),
 op 82 (.nck (.t 62)),
 op 83 (.off 0 (.t 82)),
 op 84 (.idx 9 1 (.t 83) (.t 63)),
 ⟨none, none, .st 1 (.t 84) (.t 81)⟩] [3, 4]) (
 .reg [] [3, 4]))))) (
 .reg [
 mv 37 4,
 op 38 (.bin .sub (.t 37) (.c (.i 1))),
 mv 4 38] [3, 4])))))) (
 .seq (
 .reg [
 mv 85 3,
 mv 2 85] [2]) (
 .ret)))))
def m_divide_of : MFn := ⟨c_divide_of, [.tmp 2], 0⟩

/-- (*curvet/divide.divisor).divide -/
def c_divide_divisor_divide : Stm :=
 .seq (
 .reg [
 op 4 (.box (.c (.agg [.u 64 0, .u 64 0, .u 64 0, .u 64 0, .u 64 0, .u 64 0, .u 64 0, .u 64 0, .u 64 0, .u 64 0, .u 64 0, .u 64 0, .u 64 0, .u 64 0, .u 64 0, .u 64 0, .u 64 0, .u 64 0]))),
 op 5 (.box (.c (.agg [.u 64 0, .u 64 0, .u 64 0, .u 64 0, .u 64 0, .u 64 0, .u 64 0, .u 64 0, .u 64 0])))] [0, 1, 4, 5]) (
 .seq (
 .reg [
 op 6 (.boxh (.c (.agg [.u 64 0, .u 64 0, .u 64 0, .u 64 0, .u 64 0, .u 64 0, .u 64 0, .u 64 0, .u 64 0, .u 64 0, .u 64 0, .u 64 0, .u 64 0, .u 64 0, .u 64 0, .u 64 0, .u 64 0, .u 64 0, .u 64 0])))] [0, 1, 4, 5, 6]) (
 .seq (
 .reg [
 op 7 (.box (.c (.agg [.u 64 0, .u 64 0, .u 64 0, .u 64 0, .u 64 0, .u 64 0, .u 64 0, .u 64 0, .u 64 0, .u 64 0, .u 64 0, .u 64 0, .u 64 0, .u 64 0, .u 64 0, .u 64 0, .u 64 0, .u 64 0])))] [0, 1, 4, 5, 6, 7]) (
 .seq (
 .seq (
 .reg [
 mv 15 1,
 op 16 (.len (.t 15)),
 op 17 (.mov (.c (.i 0)))] [0, 1, 4, 5, 6, 7, 15, 16, 17]) (
 .block 0 (
 .loop [0, 1, 4, 5, 6, 7, 15, 16, 17] (
 .seq (
 .reg [
 op 18 (.bin .lss (.t 17) (.t 16))] [0, 1, 4, 5, 6, 7, 15, 16, 17, 18]) (
 .seq (
 .cond (.t 18) (
 .reg [] [0, 1, 4, 5, 6, 7, 15, 16, 17]) (
 .exit 0 [0, 1, 4, 5, 6, 7])) (
 .seq (
 .block 1 (
 .seq (
 .reg [
 mv 19 17,
 op 20 (.idxs 1 (.t 15) (.t 17)),
 op 21 (.ld false none (.t 20)),
 mv 8 19,
 mv 9 21] [0, 1, 4, 5, 6, 7, 8, 9, 15, 16, 17]) (
 .seq (
 .reg [
 mv 22 8,
 op 23 (.idx 19 1 (.t 6) (.t 22)),
 op 24 (.ld false none (.t 23)),
 mv 25 9,
 mv 26 0,
 op 27 (.nck (.t 26)),
 op 28 (.off 10 (.t 27)),
 op 29 (.ld false none (.t 28)),
 op 30 (.bin .shl (.t 25) (.t 29)),
 op 31 (.bin .or (.t 24) (.t 30)),
 op 32 (.idx 19 1 (.t 6) (.t 22)),
 ⟨none, none, .st 1 (.t 32) (.t 31)⟩] [0, 1, 4, 5, 6, 7, 8, 9, 15, 16, 17]) (
 .seq (
 .reg [
 mv 33 0,
 op 34 (.nck (.t 33)),
 op 35 (.off 10 (.t 34)),
 op 36 (.ld false none (.t 35)),
 op 37 (.bin .gtr (.t 36) (.c (.i 0)))] [0, 1, 4, 5, 6, 7, 8, 9, 15, 16, 17, 37]) (
 .cond (.t 37) (
 .reg [
 mv 38 8,
 op 39 (.bin .add (.t 38) (.c (.i 1))),
 mv 40 9,
 mv 41 0,
 op 42 (.nck (.t 41)),
 op 43 (.off 10 (.t 42)),
 op 44 (.ld false none (.t 43)),
 op 45 (.bin .sub (.c (.i 64)) (.t 44)),
 op 46 (.bin .shr (.t 40) (.t 45)),
 op 47 (.idx 19 1 (.t 6) (.t 39)),
 ⟨none, none, .st 1 (.t 47) (.t 46)⟩] [0, 1, 4, 5, 6, 7, 15, 16, 17]) (
 .reg [] [0, 1, 4, 5, 6, 7, 15, 16, 17])))))) (
 .reg [
 op 48 (.bin .add (.t 17) (.c (.i 1))),
 mv 17 48] [0, 1, 4, 5, 6, 7, 15, 16, 17]))))))) (
 .seq (
 .seq (
 .reg [
 mv 49 1,
 op 50 (.len (.t 49)),
 mv 51 0,
 op 52 (.nck (.t 51)),
 op 53 (.off 9 (.t 52)),
 op 54 (.ld false none (.t 53)),
 op 55 (.bin .sub (.t 50) (.t 54)),
 mv 10 55] [0, 4, 5, 6, 7, 10]) (
 .block 2 (
 .loop [0, 4, 5, 6, 7, 10] (
 .seq (
 .seq (
 .reg [
 mv 56 10,
 op 57 (.bin .geq (.t 56) (.c (.i 0)))] [0, 4, 5, 6, 7, 10, 57]) (
 .cond (.t 57) (
 .reg [] [0, 4, 5, 6, 7, 10]) (
 .exit 2 [0, 4, 5, 6, 7]))) (
 .seq (
 .block 3 (
 .seq (
 .reg [
 mv 60 0,
 op 61 (.sla false 19 1 (.t 6) none none),
 mv 62 10,
 op 63 (.call f_divide_divisor_guess [] [(.t 60), (.t 61), (.t 62)]),
 mv 11 63] [0, 4, 5, 6, 7, 10, 11]) (
 .seq (
 .seq (
 .reg [
 mv 64 0,
 op 65 (.sla false 19 1 (.t 6) none none),
 mv 66 10,
 mv 67 11,
 op 68 (.call f_divide_divisor_take [] [(.t 64), (.t 65), (.t 66), (.t 67)]),
 mv 12 68] [0, 4, 5, 6, 7, 10, 11, 12]) (
 .block 4 (
 .loop [0, 4, 5, 6, 7, 10, 11, 12] (
 .seq (
 .seq (
 .reg [
 mv 69 12] [0, 4, 5, 6, 7, 10, 11, 69]) (
 .cond (.t 69) (
 .reg [] [0, 4, 5, 6, 7, 10, 11]) (
 .exit 4 [0, 4, 5, 6, 7, 10, 11]))) (
 .seq (
 .block 5 (
 .reg [
 mv 75 11,
 op 76 (.bin .sub (.t 75) (.c (.u 64 1))),
 mv 11 76] [0, 4, 5, 6, 7, 10, 11])) (
 .reg [
 mv 70 0,
 op 71 (.sla false 19 1 (.t 6) none none),
 mv 72 10,
 op 73 (.call f_divide_divisor_back [] [(.t 70), (.t 71), (.t 72)]),
 op 74 (.un .not (.t 73)),
 mv 12 74] [0, 4, 5, 6, 7, 10, 11, 12])))))) (
 .reg [
 mv 77 10,
 mv 78 11,
 op 79 (.off 0 (.t 7)),
 op 80 (.idx 18 1 (.t 79) (.t 77)),
 ⟨none, none, .stl 7 1 (.t 80) (.t 78)⟩] [0, 4, 5, 6, 7, 10])))) (
 .reg [
 mv 58 10,
 op 59 (.bin .sub (.t 58) (.c (.i 1))),
 mv 10 59] [0, 4, 5, 6, 7, 10])))))) (
 .seq (
 .reg [
 op 13 (.box (.c (.agg [.u 64 0, .u 64 0, .u 64 0, .u 64 0, .u 64 0, .u 64 0, .u 64 0, .u 64 0, .u 64 0])))] [0, 4, 5, 6, 7, 13]) (
 .seq (
 .seq (
 .reg [
 mv 81 0,
 op 82 (.nck (.t 81)),
 op 83 (.off 9 (.t 82)),
 op 84 (.ld false none (.t 83)),
 op 85 (.mov (.c (.i 0)))] [0, 4, 5, 6, 7, 13, 84, 85]) (
 .block 6 (
 .loop [0, 4, 5, 6, 7, 13, 84, 85] (
 .seq (
 .reg [
 op 86 (.bin .lss (.t 85) (.t 84))] [0, 4, 5, 6, 7, 13, 84, 85, 86]) (
 .seq (
 .cond (.t 86) (
 .reg [] [0, 4, 5, 6, 7, 13, 84, 85]) (
 .exit 6 [4, 5, 7, 13])) (
 .seq (
 .block 7 (
 .seq (
 .reg [
 mv 87 85,
 mv 14 87] [0, 4, 5, 6, 7, 13, 14, 84, 85]) (
 .seq (
 .reg [
 mv 88 14,
 mv 89 14,
 op 90 (.idx 19 1 (.t 6) (.t 89)),
 op 91 (.ld false none (.t 90)),
 mv 92 0,
 op 93 (.nck (.t 92)),
 op 94 (.off 10 (.t 93)),
 op 95 (.ld false none (.t 94)),
 op 96 (.bin .shr (.t 91) (.t 95)),
 op 97 (.off 0 (.t 13)),
 op 98 (.idx 9 1 (.t 97) (.t 88)),
 ⟨none, none, .stl 13 1 (.t 98) (.t 96)⟩] [0, 4, 5, 6, 7, 13, 14, 84, 85]) (
 .seq (
 .reg [
 mv 99 0,
 op 100 (.nck (.t 99)),
 op 101 (.off 10 (.t 100)),
 op 102 (.ld false none (.t 101)),
 op 103 (.bin .gtr (.t 102) (.c (.i 0)))] [0, 4, 5, 6, 7, 13, 14, 84, 85, 103]) (
 .cond (.t 103) (
 .reg [
 mv 104 14,
 op 105 (.off 0 (.t 13)),
 op 106 (.idx 9 1 (.t 105) (.t 104)),
 op 107 (.ldl 13 none (.t 106)),
 mv 108 14,
 op 109 (.bin .add (.t 108) (.c (.i 1))),
 op 110 (.idx 19 1 (.t 6) (.t 109)),
 op 111 (.ld false none (.t 110)),
 mv 112 0,
 op 113 (.nck (.t 112)),
 op 114 (.off 10 (.t 113)),
 op 115 (.ld false none (.t 114)),
 op 116 (.bin .sub (.c (.i 64)) (.t 115)),
 op 117 (.bin .shl (.t 111) (.t 116)),
 op 118 (.bin .or (.t 107) (.t 117)),
 op 119 (.off 0 (.t 13)),
 op 120 (.idx 9 1 (.t 119) (.t 104)),
 ⟨none, none, .stl 13 1 (.t 120) (.t 118)⟩] [0, 4, 5, 6, 7, 13, 84, 85]) (
 .reg [] [0, 4, 5, 6, 7, 13, 84, 85])))))) (
 .reg [
 op 121 (.bin .add (.t 85) (.c (.i 1))),
 mv 85 121] [0, 4, 5, 6, 7, 13, 84, 85]))))))) (
 .seq (
 .reg [
 op 122 (.ldl 7 (some 18) (.t 7)),
 op 123 (.ldl 13 (some 9) (.t 13)),
 ⟨none, none, .stl 4 18 (.t 4) (.t 122)⟩,
 ⟨none, none, .stl 5 9 (.t 5) (.t 123)⟩] [4, 5]) (
 .ret))))))))
def m_divide_divisor_divide : MFn := ⟨c_divide_divisor_divide, [.cell 4 (some 18), .cell 5 (some 9)], 0⟩

/-- curvet/curvetref1.SubMod -/
def c_curvetref1_SubMod : Stm :=
 .seq (
 .reg [
 op 6 (.mov (.c (.vs 0 [])))] [0, 1, 2]) (
 .seq (
 .seq (
 .reg [
 mv 7 0,
 mv 8 1,
 op 9 (.call f_curvetref1_Cmp [] [(.t 7), (.t 8)]),
 op 10 (.bin .geq (.t 9) (.c (.i 0)))] [0, 1, 2, 10]) (
 .cond (.t 10) (
 .seq (
 .reg [
 mv 11 0,
 mv 12 1,
 op 13 (.call f_curvetref1_Sub [] [(.t 11), (.t 12)]),
 mv 6 13] [6]) (
 .ret)) (
 .reg [] [0, 1, 2]))) (
 .seq (
 .reg [
 mv 14 0,
 mv 15 2,
 op 16 (.call f_curvetref1_Add [] [(.t 14), (.t 15)]),
 mv 17 1,
 op 18 (.call f_curvetref1_Sub [] [(.t 16), (.t 17)]),
 mv 6 18] [6]) (
 .ret)))
def m_curvetref1_SubMod : MFn := ⟨c_curvetref1_SubMod, [.tmp 6], 0⟩

/-- curvet/nat.Sub -/
def c_nat_Sub : Stm :=
 .seq (
 .reg [
 op 2 (.box (.t 0)),
 op 3 (.boxv (.t 1)),
 op 4 (.box (.c (.agg [.u 64 0, .u 64 0, .u 64 0, .u 64 0, .u 64 0, .u 64 0, .u 64 0, .u 64 0, .u 64 0]))),
 op 5 (.mov (.c (.b false)))] [2, 3, 4]) (
 .seq (
 .reg [
 op 6 (.mov (.c (.u 64 0)))] [2, 3, 4, 6]) (
 .seq (
 .seq (
 .reg [
 op 8 (.mov (.c (.i 0)))] [2, 3, 4, 6, 8]) (
 .block 0 (
 .loop [2, 3, 4, 6, 8] (
 .seq (
 .reg [
 op 9 (.bin .lss (.t 8) (.c (.i 9)))] [2, 3, 4, 6, 8, 9]) (
 .seq (
 .cond (.t 9) (
 .reg [] [2, 3, 4, 6, 8]) (
 .exit 0 [2, 4, 6])) (
 .seq (
 .block 1 (
 .seq (
 .reg [
 mv 10 8,
 mv 7 10] [2, 3, 4, 6, 7, 8]) (
 .reg [
 mv 12 7,
 mv 13 7,
 op 14 (.off 0 (.t 2)),
 op 15 (.idx 9 1 (.t 14) (.t 13)),
 op 16 (.ldl 2 none (.t 15)),
 mv 17 7,
 op 18 (.off 0 (.t 3)),
 op 19 (.idx 9 1 (.t 18) (.t 17)),
 op 20 (.ld true none (.t 19)),
 mv 21 6,
 op 22 (.prim .sub64 [(.t 16), (.t 20), (.t 21)]),
 mv 11 22,
 op 23 (.ext 0 (.t 11)),
 op 24 (.ext 1 (.t 11)),
 op 25 (.off 0 (.t 2)),
 op 26 (.idx 9 1 (.t 25) (.t 12)),
 ⟨none, none, .stl 2 1 (.t 26) (.t 23)⟩,
 mv 6 24] [2, 3, 4, 6, 8]))) (
 .reg [
 op 27 (.bin .add (.t 8) (.c (.i 1))),
 mv 8 27] [2, 3, 4, 6, 8]))))))) (
 .seq (
 .reg [
 op 28 (.ldl 2 (some 9) (.t 2)),
 mv 29 6,
 op 30 (.bin .eql (.t 29) (.c (.u 64 1))),
 ⟨none, none, .stl 4 9 (.t 4) (.t 28)⟩,
 mv 5 30] [4, 5]) (
 .ret))))
def m_nat_Sub : MFn := ⟨c_nat_Sub, [.cell 4 (some 9), .tmp 5], 0⟩

/-- curvet/nat.Add -/
def c_nat_Add : Stm :=
 .seq (
 .reg [
 op 2 (.box (.t 0)),
 op 3 (.boxv (.t 1)),
 op 4 (.box (.c (.agg [.u 64 0, .u 64 0, .u 64 0, .u 64 0, .u 64 0, .u 64 0, .u 64 0, .u 64 0, .u 64 0]))),
 op 5 (.mov (.c (.b false)))] [2, 3, 4]) (
 .seq (
 .reg [
 op 6 (.mov (.c (.u 64 0)))] [2, 3, 4, 6]) (
 .seq (
 .seq (
 .reg [
 op 8 (.mov (.c (.i 0)))] [2, 3, 4, 6, 8]) (
 .block 0 (
 .loop [2, 3, 4, 6, 8] (
 .seq (
 .reg [
 op 9 (.bin .lss (.t 8) (.c (.i 9)))] [2, 3, 4, 6, 8, 9]) (
 .seq (
 .cond (.t 9) (
 .reg [] [2, 3, 4, 6, 8]) (
 .exit 0 [2, 4, 6])) (
 .seq (
 .block 1 (
 .seq (
 .reg [
 mv 10 8,
 mv 7 10] [2, 3, 4, 6, 7, 8]) (
 .reg [
 mv 12 7,
 mv 13 7,
 op 14 (.off 0 (.t 2)),
 op 15 (.idx 9 1 (.t 14) (.t 13)),
 op 16 (.ldl 2 none (.t 15)),
 mv 17 7,
 op 18 (.off 0 (.t 3)),
 op 19 (.idx 9 1 (.t 18) (.t 17)),
 op 20 (.ld true none (.t 19)),
 mv 21 6,
 op 22 (.prim .add64 [(.t 16), (.t 20), (.t 21)]),
 mv 11 22,
 op 23 (.ext 0 (.t 11)),
 op 24 (.ext 1 (.t 11)),
 op 25 (.off 0 (.t 2)),
 op 26 (.idx 9 1 (.t 25) (.t 12)),
 ⟨none, none, .stl 2 1 (.t 26) (.t 23)⟩,
 mv 6 24] [2, 3, 4, 6, 8]))) (
 .reg [
 op 27 (.bin .add (.t 8) (.c (.i 1))),
 mv 8 27] [2, 3, 4, 6, 8]))))))) (
 .seq (
 .reg [
 op 28 (.ldl 2 (some 9) (.t 2)),
 mv 29 6,
 op 30 (.bin .eql (.t 29) (.c (.u 64 1))),
 ⟨none, none, .stl 4 9 (.t 4) (.t 28)⟩,
 mv 5 30] [4, 5]) (
 .ret))))
def m_nat_Add : MFn := ⟨c_nat_Add, [.cell 4 (some 9), .tmp 5], 0⟩

/-- curvet/nat.used -/
def c_nat_used : Stm :=
 .seq (
 .reg [
 op 2 (.mov (.c (.i 0)))] [0]) (
 .seq (
 .reg [
 op 3 (.mov (.c (.i 9)))] [0, 3]) (
 .seq (
 .block 0 (
 .loop [0, 3] (
 .seq (
 .seq (
 .reg [
 mv 4 3,
 op 5 (.bin .gtr (.t 4) (.c (.i 0))),
 mv 6 5,
 ⟨some 7, (some (6, true)), .mov (.t 0)⟩,
 ⟨some 8, (some (6, true)), .mov (.t 3)⟩,
 ⟨some 9, (some (6, true)), .bin .sub (.t 8) (.c (.i 1))⟩,
 ⟨some 10, (some (6, true)), .nck (.t 7)⟩,
 ⟨some 11, (some (6, true)), .off 0 (.t 10)⟩,
 ⟨some 12, (some (6, true)), .idx 9 1 (.t 11) (.t 9)⟩,
 ⟨some 13, (some (6, true)), .ld false none (.t 12)⟩,
 ⟨some 14, (some (6, true)), .bin .eql (.t 13) (.c (.u 64 0))⟩,
 op 15 (.pick (.t 6) (.t 14) (.c (.b false)))] [0, 3, 15]) (
 .cond (.t 15) (
 .reg [] [0, 3]) (
 .exit 0 [3]))) (
 .block 1 (
 .reg [
 mv 16 3,
 op 17 (.bin .sub (.t 16) (.c (.i 1))),
 mv 3 17] [0, 3]))))) (
 .seq (
 .reg [
 mv 18 3,
 mv 2 18] [2]) (
 .ret))))
def m_nat_used : MFn := ⟨c_nat_used, [.tmp 2], 0⟩

/-- math/bits.Len64 -/
def c_bits_Len64 : Stm :=
 .seq (
 .reg [
 op 2 (.mov (.c (.i 0)))] [0, 2]) (
 .seq (
 .seq (
 .reg [
 mv 3 0,
 op 4 (.bin .geq (.t 3) (.c (.u 64 4294967296)))] [0, 2, 4]) (
 .cond (.t 4) (
 .seq (
 .reg [
 mv 5 0,
 op 6 (.bin .shr (.t 5) (.c (.u 64 32))),
 mv 0 6] [0]) (
 .reg [
 op 2 (.mov (.c (.i 32)))] [0, 2])) (
 .reg [] [0, 2]))) (
 .seq (
 .seq (
 .reg [
 mv 7 0,
 op 8 (.bin .geq (.t 7) (.c (.u 64 65536)))] [0, 2, 8]) (
 .cond (.t 8) (
 .seq (
 .reg [
 mv 9 0,
 op 10 (.bin .shr (.t 9) (.c (.u 64 16))),
 mv 0 10] [0, 2]) (
 .reg [
 mv 11 2,
 op 12 (.bin .add (.t 11) (.c (.i 16))),
 mv 2 12] [0, 2])) (
 .reg [] [0, 2]))) (
 .seq (
 .seq (
 .reg [
 mv 13 0,
 op 14 (.bin .geq (.t 13) (.c (.u 64 256)))] [0, 2, 14]) (
 .cond (.t 14) (
 .seq (
 .reg [
 mv 15 0,
 op 16 (.bin .shr (.t 15) (.c (.u 64 8))),
 mv 0 16] [0, 2]) (
 .reg [
 mv 17 2,
 op 18 (.bin .add (.t 17) (.c (.i 8))),
 mv 2 18] [0, 2])) (
 .reg [] [0, 2]))) (
 .seq (
 .reg [
 mv 19 2,
 mv 20 0,
 op 21 (.cvu 8 (.t 20)),
 op 22 (.idxb (.c (.s [0, 1, 2, 2, 3, 3, 3, 3, 4, 4, 4, 4, 4, 4, 4, 4, 5, 5, 5, 5, 5, 5, 5, 5, 5, 5, 5, 5, 5, 5, 5, 5, 6, 6, 6, 6, 6, 6, 6, 6, 6, 6, 6, 6, 6, 6, 6, 6, 6, 6, 6, 6, 6, 6, 6, 6, 6, 6, 6, 6, 6, 6, 6, 6, 7, 7, 7, 7, 7, 7, 7, 7, 7, 7, 7, 7, 7, 7, 7, 7, 7, 7, 7, 7, 7, 7, 7, 7, 7, 7, 7, 7, 7, 7, 7, 7, 7, 7, 7, 7, 7, 7, 7, 7, 7, 7, 7, 7, 7, 7, 7, 7, 7, 7, 7, 7, 7, 7, 7, 7, 7, 7, 7, 7, 7, 7, 7, 7, 8, 8, 8, 8, 8, 8, 8, 8, 8, 8, 8, 8, 8, 8, 8, 8, 8, 8, 8, 8, 8, 8, 8, 8, 8, 8, 8, 8, 8, 8, 8, 8, 8, 8, 8, 8, 8, 8, 8, 8, 8, 8, 8, 8, 8, 8, 8, 8, 8, 8, 8, 8, 8, 8, 8, 8, 8, 8, 8, 8, 8, 8, 8, 8, 8, 8, 8, 8, 8, 8, 8, 8, 8, 8, 8, 8, 8, 8, 8, 8, 8, 8, 8, 8, 8, 8, 8, 8, 8, 8, 8, 8, 8, 8, 8, 8, 8, 8, 8, 8, 8, 8, 8, 8, 8, 8, 8, 8, 8, 8, 8, 8, 8, 8, 8, 8, 8, 8, 8, 8, 8, 8, 8, 8, 8, 8, 8, 8])) (.t 21)),
 op 23 (.cvi (.t 22)),
 op 24 (.bin .add (.t 19) (.t 23)),
 mv 2 24] [2]) (
 .ret)))))
def m_bits_Len64 : MFn := ⟨c_bits_Len64, [.tmp 2], 0⟩

/-- curvet/nat.Mul -/
def c_nat_Mul : Stm :=
 .seq (
 .reg [
 op 2 (.boxv (.t 0)),
 op 3 (.boxv (.t 1)),
 op 4 (.box (.c (.agg [.u 64 0, .u 64 0, .u 64 0, .u 64 0, .u 64 0, .u 64 0, .u 64 0, .u 64 0, .u 64 0, .u 64 0, .u 64 0, .u 64 0, .u 64 0, .u 64 0, .u 64 0, .u 64 0, .u 64 0, .u 64 0])))] [2, 3, 4]) (
 .seq (
 .reg [
 op 5 (.box (.c (.agg [.u 64 0, .u 64 0, .u 64 0, .u 64 0, .u 64 0, .u 64 0, .u 64 0, .u 64 0, .u 64 0, .u 64 0, .u 64 0, .u 64 0, .u 64 0, .u 64 0, .u 64 0, .u 64 0, .u 64 0, .u 64 0])))] [2, 3, 4, 5]) (
 .seq (
 .reg [
 op 14 (.call f_nat_used [] [(.t 2)]),
 op 15 (.call f_nat_used [] [(.t 3)]),
 mv 6 14,
 mv 7 15] [2, 3, 4, 5, 6, 7]) (
 .seq (
 .seq (
 .reg [
 mv 16 6,
 op 17 (.mov (.c (.i 0)))] [2, 3, 4, 5, 7, 16, 17]) (
 .block 0 (
 .loop [2, 3, 4, 5, 7, 16, 17] (
 .seq (
 .reg [
 op 18 (.bin .lss (.t 17) (.t 16))] [2, 3, 4, 5, 7, 16, 17, 18]) (
 .seq (
 .cond (.t 18) (
 .reg [] [2, 3, 4, 5, 7, 16, 17]) (
 .exit 0 [4, 5])) (
 .seq (
 .block 1 (
 .seq (
 .reg [
 mv 19 17,
 mv 8 19] [2, 3, 4, 5, 7, 8, 16, 17]) (
 .seq (
 .reg [
 op 9 (.mov (.c (.u 64 0)))] [2, 3, 4, 5, 7, 8, 9, 16, 17]) (
 .seq (
 .seq (
 .reg [
 mv 20 7,
 op 21 (.mov (.c (.i 0)))] [2, 3, 4, 5, 7, 8, 9, 16, 17, 20, 21]) (
 .block 2 (
 .loop [2, 3, 4, 5, 7, 8, 9, 16, 17, 20, 21] (
 .seq (
 .reg [
 op 22 (.bin .lss (.t 21) (.t 20))] [2, 3, 4, 5, 7, 8, 9, 16, 17, 20, 21, 22]) (
 .seq (
 .cond (.t 22) (
 .reg [] [2, 3, 4, 5, 7, 8, 9, 16, 17, 20, 21]) (
 .exit 2 [2, 3, 4, 5, 7, 8, 9, 16, 17])) (
 .seq (
 .block 3 (
 .seq (
 .reg [
 mv 23 21,
 mv 10 23] [2, 3, 4, 5, 7, 8, 9, 10, 16, 17, 20, 21]) (
 .seq (
 .reg [
 mv 25 8,
 op 26 (.off 0 (.t 2)),
 op 27 (.idx 9 1 (.t 26) (.t 25)),
 op 28 (.ld true none (.t 27)),
 mv 29 10,
 op 30 (.off 0 (.t 3)),
 op 31 (.idx 9 1 (.t 30) (.t 29)),
 op 32 (.ld true none (.t 31)),
 op 33 (.call f_bits_Mul64 [] [(.t 28), (.t 32)]),
 mv 24 33,
 op 34 (.ext 0 (.t 24)),
 op 35 (.ext 1 (.t 24)),
 mv 11 34,
 mv 12 35] [2, 3, 4, 5, 7, 8, 9, 10, 11, 12, 16, 17, 20, 21]) (
 .seq (
 .reg [
 op 13 (.mov (.c (.u 64 0)))] [2, 3, 4, 5, 7, 8, 9, 10, 11, 12, 16, 17, 20, 21]) (
 .seq (
 .reg [
 mv 37 12,
 mv 38 8,
 mv 39 10,
 op 40 (.bin .add (.t 38) (.t 39)),
 op 41 (.off 0 (.t 5)),
 op 42 (.idx 18 1 (.t 41) (.t 40)),
 op 43 (.ldl 5 none (.t 42)),
 op 44 (.prim .add64 [(.t 37), (.t 43), (.c (.u 64 0))]),
 mv 36 44,
 op 45 (.ext 0 (.t 36)),
 op 46 (.ext 1 (.t 36)),
 mv 12 45,
 mv 13 46] [2, 3, 4, 5, 7, 8, 9, 10, 11, 12, 13, 16, 17, 20, 21]) (
 .seq (
 .reg [
 mv 47 11,
 mv 48 13,
 op 49 (.bin .add (.t 47) (.t 48)),
 mv 11 49] [2, 3, 4, 5, 7, 8, 9, 10, 11, 12, 16, 17, 20, 21]) (
 .seq (
 .reg [
 mv 51 12,
 mv 52 9,
 op 53 (.prim .add64 [(.t 51), (.t 52), (.c (.u 64 0))]),
 mv 50 53,
 op 54 (.ext 0 (.t 50)),
 op 55 (.ext 1 (.t 50)),
 mv 12 54,
 mv 13 55] [2, 3, 4, 5, 7, 8, 10, 11, 12, 13, 16, 17, 20, 21]) (
 .reg [
 mv 56 8,
 mv 57 10,
 op 58 (.bin .add (.t 56) (.t 57)),
 mv 59 12,
 mv 60 11,
 mv 61 13,
 op 62 (.bin .add (.t 60) (.t 61)),
 op 63 (.off 0 (.t 5)),
 op 64 (.idx 18 1 (.t 63) (.t 58)),
 ⟨none, none, .stl 5 1 (.t 64) (.t 59)⟩,
 mv 9 62] [2, 3, 4, 5, 7, 8, 9, 16, 17, 20, 21])))))))) (
 .reg [
 op 65 (.bin .add (.t 21) (.c (.i 1))),
 mv 21 65] [2, 3, 4, 5, 7, 8, 9, 16, 17, 20, 21]))))))) (
 .reg [
 mv 66 8,
 mv 67 7,
 op 68 (.bin .add (.t 66) (.t 67)),
 mv 69 9,
 op 70 (.off 0 (.t 5)),
 op 71 (.idx 18 1 (.t 70) (.t 68)),
 ⟨none, none, .stl 5 1 (.t 71) (.t 69)⟩] [2, 3, 4, 5, 7, 16, 17]))))) (
 .reg [
 op 72 (.bin .add (.t 17) (.c (.i 1))),
 mv 17 72] [2, 3, 4, 5, 7, 16, 17]))))))) (
 .seq (
 .reg [
 op 73 (.ldl 5 (some 18) (.t 5)),
 ⟨none, none, .stl 4 18 (.t 4) (.t 73)⟩] [4]) (
 .ret)))))
def m_nat_Mul : MFn := ⟨c_nat_Mul, [.cell 4 (some 18)], 0⟩

/-- curvet/divide.length -/
def c_divide_length : Stm :=
 .seq (
 .reg [
 op 2 (.mov (.c (.i 0)))] [0]) (
 .seq (
 .reg [
 mv 4 0,
 op 5 (.len (.t 4)),
 mv 3 5] [0, 3]) (
 .seq (
 .block 0 (
 .loop [0, 3] (
 .seq (
 .seq (
 .reg [
 mv 6 3,
 op 7 (.bin .gtr (.t 6) (.c (.i 0))),
 mv 8 7,
 ⟨some 9, (some (8, true)), .mov (.t 0)⟩,
 ⟨some 10, (some (8, true)), .mov (.t 3)⟩,
 ⟨some 11, (some (8, true)), .bin .sub (.t 10) (.c (.i 1))⟩,
 ⟨some 12, (some (8, true)), .idxs 1 (.t 9) (.t 11)⟩,
 ⟨some 13, (some (8, true)), .ld false none (.t 12)⟩,
 ⟨some 14, (some (8, true)), .bin .eql (.t 13) (.c (.u 64 0))⟩,
 op 15 (.pick (.t 8) (.t 14) (.c (.b false)))] [0, 3, 15]) (
 .cond (.t 15) (
 .reg [] [0, 3]) (
 .exit 0 [3]))) (
 .block 1 (
 .reg [
 mv 16 3,
 op 17 (.bin .sub (.t 16) (.c (.i 1))),
 mv 3 17] [0, 3]))))) (
 .seq (
 .reg [
 mv 18 3,
 mv 2 18] [2]) (
 .ret))))
def m_divide_length : MFn := ⟨c_divide_length, [.tmp 2], 0⟩

/-- curvet/curvetref1.short -/
def c_curvetref1_short : Stm :=
 .seq (
 .reg [
 op 4 (.mov (.c (.vs 0 []))),
 op 5 (.mov (.c (.vs 0 [])))] [0, 1]) (
 .seq (
 .reg [
 mv 10 0,
 op 11 (.len (.t 10)),
 op 12 (.mks 1 4 [.u 32 0] (.t 11) (.t 11)),
 mv 6 12] [0, 1, 6]) (
 .seq (
 .reg [
 op 7 (.mov (.c (.u 64 0)))] [0, 1, 6, 7]) (
 .seq (
 .seq (
 .reg [
 mv 13 0,
 op 14 (.len (.t 13)),
 op 15 (.bin .sub (.t 14) (.c (.i 1))),
 mv 8 15] [0, 1, 6, 7, 8]) (
 .block 0 (
 .loop [0, 1, 6, 7, 8] (
 .seq (
 .seq (
 .reg [
 mv 16 8,
 op 17 (.bin .geq (.t 16) (.c (.i 0)))] [0, 1, 6, 7, 8, 17]) (
 .cond (.t 17) (
 .reg [] [0, 1, 6, 7, 8]) (
 .exit 0 [6, 7]))) (
 .seq (
 .block 1 (
 .seq (
 .reg [
 mv 20 7,
 op 21 (.bin .shl (.t 20) (.c (.u 64 32))),
 mv 22 0,
 mv 23 8,
 op 24 (.idxs 1 (.t 22) (.t 23)),
 op 25 (.ld false none (.t 24)),
 op 26 (.cvu 64 (.t 25)),
 op 27 (.bin .or (.t 21) (.t 26)),
 mv 9 27] [0, 1, 6, 8, 9]) (
 .seq (
 .reg [
 mv 28 6,
 mv 29 8,
 mv 30 9,
 mv 31 1,
 op 32 (.bin .quo (.t 30) (.t 31)),
 op 33 (.cvu 32 (.t 32)),
 op 34 (.idxs 1 (.t 28) (.t 29)),
 ⟨none, none, .st 1 (.t 34) (.t 33)⟩] [0, 1, 6, 8, 9]) (
 .reg [
 mv 35 9,
 mv 36 1,
 op 37 (.bin .rem (.t 35) (.t 36)),
 mv 7 37] [0, 1, 6, 7, 8])))) (
 .reg [
 mv 18 8,
 op 19 (.bin .sub (.t 18) (.c (.i 1))),
 mv 8 19] [0, 1, 6, 7, 8])))))) (
 .seq (
 .reg [
 mv 38 6,
 op 39 (.call f_curvetref1_trim [] [(.t 38)]),
 mv 40 7,
 op 41 (.cvu 32 (.t 40)),
 op 42 (.lit true 1 1 [.u 32 0] [(0, 1, (.t 41))]),
 op 43 (.call f_curvetref1_trim [] [(.t 42)]),
 mv 4 39,
 mv 5 43] [4, 5]) (
 .ret)))))
def m_curvetref1_short : MFn := ⟨c_curvetref1_short, [.tmp 4, .tmp 5], 0⟩

/-- curvet/curvetref1.step -/
def c_curvetref1_step : Stm :=
 .seq (
 .reg [
 op 6 (.mov (.c (.u 64 0)))] [0, 1, 2]) (
 .seq (
 .reg [
 mv 19 1,
 op 20 (.len (.t 19)),
 mv 7 20] [0, 1, 2, 7]) (
 .seq (
 .reg [
 mv 21 0,
 mv 22 2,
 mv 23 7,
 op 24 (.bin .add (.t 22) (.t 23)),
 op 25 (.idxs 1 (.t 21) (.t 24)),
 op 26 (.ld false none (.t 25)),
 op 27 (.cvu 64 (.t 26)),
 op 28 (.bin .shl (.t 27) (.c (.u 64 32))),
 mv 29 0,
 mv 30 2,
 mv 31 7,
 op 32 (.bin .add (.t 30) (.t 31)),
 op 33 (.bin .sub (.t 32) (.c (.i 1))),
 op 34 (.idxs 1 (.t 29) (.t 33)),
 op 35 (.ld false none (.t 34)),
 op 36 (.cvu 64 (.t 35)),
 op 37 (.bin .or (.t 28) (.t 36)),
 mv 8 37] [0, 1, 2, 7, 8]) (
 .seq (
 .reg [
 mv 38 8,
 mv 39 1,
 mv 40 7,
 op 41 (.bin .sub (.t 40) (.c (.i 1))),
 op 42 (.idxs 1 (.t 39) (.t 41)),
 op 43 (.ld false none (.t 42)),
 op 44 (.cvu 64 (.t 43)),
 op 45 (.bin .quo (.t 38) (.t 44)),
 mv 46 8,
 mv 47 1,
 mv 48 7,
 op 49 (.bin .sub (.t 48) (.c (.i 1))),
 op 50 (.idxs 1 (.t 47) (.t 49)),
 op 51 (.ld false none (.t 50)),
 op 52 (.cvu 64 (.t 51)),
 op 53 (.bin .rem (.t 46) (.t 52)),
 mv 9 45,
 mv 10 53] [0, 1, 2, 7, 9, 10]) (
 .seq (
 .block 0 (
 .loop [0, 1, 2, 7, 9, 10] (
 .seq (
 .seq (
 .reg [
 mv 54 9,
 op 55 (.bin .geq (.t 54) (.c (.u 64 4294967296))),
 mv 56 55,
 ⟨some 57, (some (56, false)), .mov (.t 9)⟩,
 ⟨some 58, (some (56, false)), .mov (.t 1)⟩,
 ⟨some 59, (some (56, false)), .mov (.t 7)⟩,
 ⟨some 60, (some (56, false)), .bin .sub (.t 59) (.c (.i 2))⟩,
 ⟨some 61, (some (56, false)), .idxs 1 (.t 58) (.t 60)⟩,
 ⟨some 62, (some (56, false)), .ld false none (.t 61)⟩,
 ⟨some 63, (some (56, false)), .cvu 64 (.t 62)⟩,
 ⟨some 64, (some (56, false)), .bin .mul (.t 57) (.t 63)⟩,
 ⟨some 65, (some (56, false)), .mov (.t 10)⟩,
 ⟨some 66, (some (56, false)), .bin .shl (.t 65) (.c (.u 64 32))⟩,
 ⟨some 67, (some (56, false)), .mov (.t 0)⟩,
 ⟨some 68, (some (56, false)), .mov (.t 2)⟩,
 ⟨some 69, (some (56, false)), .mov (.t 7)⟩,
 ⟨some 70, (some (56, false)), .bin .add (.t 68) (.t 69)⟩,
 ⟨some 71, (some (56, false)), .bin .sub (.t 70) (.c (.i 2))⟩,
 ⟨some 72, (some (56, false)), .idxs 1 (.t 67) (.t 71)⟩,
 ⟨some 73, (some (56, false)), .ld false none (.t 72)⟩,
 ⟨some 74, (some (56, false)), .cvu 64 (.t 73)⟩,
 ⟨some 75, (some (56, false)), .bin .or (.t 66) (.t 74)⟩,
 ⟨some 76, (some (56, false)), .bin .gtr (.t 64) (.t 75)⟩,
 op 77 (.pick (.t 56) (.c (.b true)) (.t 76))] [0, 1, 2, 7, 9, 10, 77]) (
 .cond (.t 77) (
 .reg [] [0, 1, 2, 7, 9, 10]) (
 .exit 0 [0, 1, 2, 7, 9]))) (
 .block 1 (
 .seq (
 .reg [
 mv 78 9,
 op 79 (.bin .sub (.t 78) (.c (.u 64 1))),
 mv 9 79] [0, 1, 2, 7, 9, 10]) (
 .seq (
 .reg [
 mv 80 10,
 mv 81 1,
 mv 82 7,
 op 83 (.bin .sub (.t 82) (.c (.i 1))),
 op 84 (.idxs 1 (.t 81) (.t 83)),
 op 85 (.ld false none (.t 84)),
 op 86 (.cvu 64 (.t 85)),
 op 87 (.bin .add (.t 80) (.t 86)),
 mv 10 87] [0, 1, 2, 7, 9, 10]) (
 .seq (
 .reg [
 mv 88 10,
 op 89 (.bin .geq (.t 88) (.c (.u 64 4294967296)))] [0, 1, 2, 7, 9, 10, 89]) (
 .cond (.t 89) (
 .exit 0 [0, 1, 2, 7, 9]) (
 .reg [] [0, 1, 2, 7, 9, 10]))))))))) (
 .seq (
 .reg [
 op 11 (.mov (.c (.u 64 0))),
 op 12 (.mov (.c (.u 64 0)))] [0, 1, 2, 7, 9, 11, 12]) (
 .seq (
 .seq (
 .reg [
 op 13 (.mov (.c (.i 0)))] [0, 1, 2, 7, 9, 11, 12, 13]) (
 .block 2 (
 .loop [0, 1, 2, 7, 9, 11, 12, 13] (
 .seq (
 .seq (
 .reg [
 mv 90 13,
 mv 91 7,
 op 92 (.bin .lss (.t 90) (.t 91))] [0, 1, 2, 7, 9, 11, 12, 13, 92]) (
 .cond (.t 92) (
 .reg [] [0, 1, 2, 7, 9, 11, 12, 13]) (
 .exit 2 [0, 1, 2, 7, 9, 11, 12]))) (
 .seq (
 .block 3 (
 .seq (
 .reg [
 mv 95 9,
 mv 96 1,
 mv 97 13,
 op 98 (.idxs 1 (.t 96) (.t 97)),
 op 99 (.ld false none (.t 98)),
 op 100 (.cvu 64 (.t 99)),
 op 101 (.bin .mul (.t 95) (.t 100)),
 mv 102 11,
 op 103 (.bin .add (.t 101) (.t 102)),
 mv 14 103] [0, 1, 2, 7, 9, 12, 13, 14]) (
 .seq (
 .reg [
 mv 104 14,
 op 105 (.bin .shr (.t 104) (.c (.u 64 32))),
 mv 11 105] [0, 1, 2, 7, 9, 11, 12, 13, 14]) (
 .seq (
 .reg [
 mv 106 0,
 mv 107 13,
 mv 108 2,
 op 109 (.bin .add (.t 107) (.t 108)),
 op 110 (.idxs 1 (.t 106) (.t 109)),
 op 111 (.ld false none (.t 110)),
 op 112 (.cvu 64 (.t 111)),
 op 113 (.bin .add (.t 112) (.c (.u 64 4294967296))),
 mv 114 14,
 op 115 (.bin .and (.t 114) (.c (.u 64 4294967295))),
 op 116 (.bin .sub (.t 113) (.t 115)),
 mv 117 12,
 op 118 (.bin .sub (.t 116) (.t 117)),
 mv 15 118] [0, 1, 2, 7, 9, 11, 13, 15]) (
 .seq (
 .reg [
 mv 119 0,
 mv 120 13,
 mv 121 2,
 op 122 (.bin .add (.t 120) (.t 121)),
 mv 123 15,
 op 124 (.bin .and (.t 123) (.c (.u 64 4294967295))),
 op 125 (.cvu 32 (.t 124)),
 op 126 (.idxs 1 (.t 119) (.t 122)),
 ⟨none, none, .st 1 (.t 126) (.t 125)⟩] [0, 1, 2, 7, 9, 11, 13, 15]) (
 .reg [
 mv 127 15,
 op 128 (.bin .shr (.t 127) (.c (.u 64 32))),
 op 129 (.bin .sub (.c (.u 64 1)) (.t 128)),
 mv 12 129] [0, 1, 2, 7, 9, 11, 12, 13])))))) (
 .reg [
 mv 93 13,
 op 94 (.bin .add (.t 93) (.c (.i 1))),
 mv 13 94] [0, 1, 2, 7, 9, 11, 12, 13])))))) (
 .seq (
 .reg [
 mv 130 0,
 mv 131 2,
 mv 132 7,
 op 133 (.bin .add (.t 131) (.t 132)),
 op 134 (.idxs 1 (.t 130) (.t 133)),
 op 135 (.ld false none (.t 134)),
 op 136 (.cvu 64 (.t 135)),
 op 137 (.bin .add (.t 136) (.c (.u 64 4294967296))),
 mv 138 11,
 op 139 (.bin .sub (.t 137) (.t 138)),
 mv 140 12,
 op 141 (.bin .sub (.t 139) (.t 140)),
 mv 16 141] [0, 1, 2, 7, 9, 16]) (
 .seq (
 .reg [
 mv 142 0,
 mv 143 2,
 mv 144 7,
 op 145 (.bin .add (.t 143) (.t 144)),
 mv 146 16,
 op 147 (.bin .and (.t 146) (.c (.u 64 4294967295))),
 op 148 (.cvu 32 (.t 147)),
 op 149 (.idxs 1 (.t 142) (.t 145)),
 ⟨none, none, .st 1 (.t 149) (.t 148)⟩] [0, 1, 2, 7, 9, 16]) (
 .seq (
 .seq (
 .reg [
 mv 150 16,
 op 151 (.bin .shr (.t 150) (.c (.u 64 32))),
 op 152 (.bin .eql (.t 151) (.c (.u 64 1)))] [0, 1, 2, 7, 9, 152]) (
 .cond (.t 152) (
 .seq (
 .reg [
 mv 153 9,
 mv 6 153] [6]) (
 .ret)) (
 .reg [] [0, 1, 2, 7, 9]))) (
 .seq (
 .reg [
 op 11 (.mov (.c (.u 64 0)))] [0, 1, 2, 7, 9, 11]) (
 .seq (
 .seq (
 .reg [
 op 17 (.mov (.c (.i 0)))] [0, 1, 2, 7, 9, 11, 17]) (
 .block 4 (
 .loop [0, 1, 2, 7, 9, 11, 17] (
 .seq (
 .seq (
 .reg [
 mv 154 17,
 mv 155 7,
 op 156 (.bin .lss (.t 154) (.t 155))] [0, 1, 2, 7, 9, 11, 17, 156]) (
 .cond (.t 156) (
 .reg [] [0, 1, 2, 7, 9, 11, 17]) (
 .exit 4 [0, 2, 7, 9, 11]))) (
 .seq (
 .block 5 (
 .seq (
 .reg [
 mv 159 0,
 mv 160 17,
 mv 161 2,
 op 162 (.bin .add (.t 160) (.t 161)),
 op 163 (.idxs 1 (.t 159) (.t 162)),
 op 164 (.ld false none (.t 163)),
 op 165 (.cvu 64 (.t 164)),
 mv 166 1,
 mv 167 17,
 op 168 (.idxs 1 (.t 166) (.t 167)),
 op 169 (.ld false none (.t 168)),
 op 170 (.cvu 64 (.t 169)),
 op 171 (.bin .add (.t 165) (.t 170)),
 mv 172 11,
 op 173 (.bin .add (.t 171) (.t 172)),
 mv 18 173] [0, 1, 2, 7, 9, 17, 18]) (
 .seq (
 .reg [
 mv 174 0,
 mv 175 17,
 mv 176 2,
 op 177 (.bin .add (.t 175) (.t 176)),
 mv 178 18,
 op 179 (.bin .and (.t 178) (.c (.u 64 4294967295))),
 op 180 (.cvu 32 (.t 179)),
 op 181 (.idxs 1 (.t 174) (.t 177)),
 ⟨none, none, .st 1 (.t 181) (.t 180)⟩] [0, 1, 2, 7, 9, 17, 18]) (
 .reg [
 mv 182 18,
 op 183 (.bin .shr (.t 182) (.c (.u 64 32))),
 mv 11 183] [0, 1, 2, 7, 9, 11, 17])))) (
 .reg [
 mv 157 17,
 op 158 (.bin .add (.t 157) (.c (.i 1))),
 mv 17 158] [0, 1, 2, 7, 9, 11, 17])))))) (
 .seq (
 .reg [
 mv 184 0,
 mv 185 2,
 mv 186 7,
 op 187 (.bin .add (.t 185) (.t 186)),
 mv 188 0,
 mv 189 2,
 mv 190 7,
 op 191 (.bin .add (.t 189) (.t 190)),
 op 192 (.idxs 1 (.t 188) (.t 191)),
 op 193 (.ld false none (.t 192)),
 mv 194 11,
 op 195 (.cvu 32 (.t 194)),
 op 196 (.bin .add (.t 193) (.t 195)),
 op 197 (.idxs 1 (.t 184) (.t 187)),
 ⟨none, none, .st 1 (.t 197) (.t 196)⟩] [9]) (
 .seq (
 .reg [
 mv 198 9,
 op 199 (.bin .sub (.t 198) (.c (.u 64 1))),
 mv 6 199] [6]) (
 .ret))))))))))))))
def m_curvetref1_step : MFn := ⟨c_curvetref1_step, [.tmp 6], 0⟩

/-- curvet/curvetref1.Shr -/
def c_curvetref1_Shr : Stm :=
 .seq (
 .reg [
 op 4 (.mov (.c (.vs 0 [])))] [0, 1]) (
 .seq (
 .seq (
 .reg [
 mv 8 1,
 op 9 (.bin .quo (.t 8) (.c (.i 32))),
 mv 10 0,
 op 11 (.len (.t 10)),
 op 12 (.bin .geq (.t 9) (.t 11))] [0, 1, 12]) (
 .cond (.t 12) (
 .seq (
 .reg [
 op 4 (.mov (.c (.vs 0 [])))] [4]) (
 .ret)) (
 .reg [] [0, 1]))) (
 .seq (
 .reg [
 mv 13 0,
 op 14 (.len (.t 13)),
 mv 15 1,
 op 16 (.bin .quo (.t 15) (.c (.i 32))),
 op 17 (.bin .sub (.t 14) (.t 16)),
 op 18 (.mks 1 4 [.u 32 0] (.t 17) (.t 17)),
 mv 5 18] [0, 1, 5]) (
 .seq (
 .seq (
 .reg [
 op 6 (.mov (.c (.i 0)))] [0, 1, 5, 6]) (
 .block 0 (
 .loop [0, 1, 5, 6] (
 .seq (
 .seq (
 .reg [
 mv 19 6,
 mv 20 5,
 op 21 (.len (.t 20)),
 op 22 (.bin .lss (.t 19) (.t 21))] [0, 1, 5, 6, 22]) (
 .cond (.t 22) (
 .reg [] [0, 1, 5, 6]) (
 .exit 0 [5]))) (
 .seq (
 .block 1 (
 .seq (
 .reg [
 mv 25 0,
 mv 26 6,
 mv 27 1,
 op 28 (.bin .quo (.t 27) (.c (.i 32))),
 op 29 (.bin .add (.t 26) (.t 28)),
 op 30 (.call f_curvetref1_digit [] [(.t 25), (.t 29)]),
 mv 31 0,
 mv 32 6,
 mv 33 1,
 op 34 (.bin .quo (.t 33) (.c (.i 32))),
 op 35 (.bin .add (.t 32) (.t 34)),
 op 36 (.bin .add (.t 35) (.c (.i 1))),
 op 37 (.call f_curvetref1_digit [] [(.t 31), (.t 36)]),
 op 38 (.bin .shl (.t 37) (.c (.u 64 32))),
 op 39 (.bin .or (.t 30) (.t 38)),
 mv 7 39] [0, 1, 5, 6, 7]) (
 .reg [
 mv 40 5,
 mv 41 6,
 mv 42 7,
 mv 43 1,
 op 44 (.bin .rem (.t 43) (.c (.i 32))),
 op 45 (.bin .shr (.t 42) (.t 44)),
 op 46 (.bin .and (.t 45) (.c (.u 64 4294967295))),
 op 47 (.cvu 32 (.t 46)),
 op 48 (.idxs 1 (.t 40) (.t 41)),
 ⟨none, none, .st 1 (.t 48) (.t 47)⟩] [0, 1, 5, 6]))) (
 .reg [
 mv 23 6,
 op 24 (.bin .add (.t 23) (.c (.i 1))),
 mv 6 24] [0, 1, 5, 6])))))) (
 .seq (
 .reg [
 mv 49 5,
 op 50 (.call f_curvetref1_trim [] [(.t 49)]),
 mv 4 50] [4]) (
 .ret)))))
def m_curvetref1_Shr : MFn := ⟨c_curvetref1_Shr, [.tmp 4], 0⟩

/-- (*curvet/mont.Mont).round -/
def c_mont_Mont_round : Stm :=
 .seq (
 .reg [
 op 8 (.mov (.c (.u 64 0)))] [0, 1, 2, 3, 8]) (
 .seq (
 .seq (
 .reg [
 mv 14 0,
 op 15 (.nck (.t 14)),
 op 16 (.off 9 (.t 15)),
 op 17 (.ld false none (.t 16)),
 op 18 (.mov (.c (.i 0)))] [0, 1, 2, 3, 8, 17, 18]) (
 .block 0 (
 .loop [0, 1, 2, 3, 8, 17, 18] (
 .seq (
 .reg [
 op 19 (.bin .lss (.t 18) (.t 17))] [0, 1, 2, 3, 8, 17, 18, 19]) (
 .seq (
 .cond (.t 19) (
 .reg [] [0, 1, 2, 3, 8, 17, 18]) (
 .exit 0 [0, 1, 8])) (
 .seq (
 .block 1 (
 .seq (
 .reg [
 mv 20 18,
 mv 9 20] [0, 1, 2, 3, 8, 9, 17, 18]) (
 .seq (
 .reg [
 mv 22 2,
 mv 23 3,
 mv 24 9,
 op 25 (.nck (.t 23)),
 op 26 (.off 0 (.t 25)),
 op 27 (.idx 9 1 (.t 26) (.t 24)),
 op 28 (.ld false none (.t 27)),
 op 29 (.call f_bits_Mul64 [] [(.t 22), (.t 28)]),
 mv 21 29,
 op 30 (.ext 0 (.t 21)),
 op 31 (.ext 1 (.t 21)),
 mv 10 30,
 mv 11 31] [0, 1, 2, 3, 8, 9, 10, 11, 17, 18]) (
 .seq (
 .reg [
 op 12 (.mov (.c (.u 64 0)))] [0, 1, 2, 3, 8, 9, 10, 11, 17, 18]) (
 .seq (
 .reg [
 mv 33 11,
 mv 34 8,
 op 35 (.prim .add64 [(.t 33), (.t 34), (.c (.u 64 0))]),
 mv 32 35,
 op 36 (.ext 0 (.t 32)),
 op 37 (.ext 1 (.t 32)),
 mv 11 36,
 mv 12 37] [0, 1, 2, 3, 9, 10, 11, 12, 17, 18]) (
 .seq (
 .reg [
 mv 38 10,
 mv 39 12,
 op 40 (.bin .add (.t 38) (.t 39)),
 mv 10 40] [0, 1, 2, 3, 9, 10, 11, 17, 18]) (
 .seq (
 .reg [
 mv 42 1,
 mv 43 9,
 mv 44 1,
 mv 45 9,
 op 46 (.nck (.t 44)),
 op 47 (.idx 11 1 (.t 46) (.t 45)),
 op 48 (.ld false none (.t 47)),
 mv 49 11,
 op 50 (.prim .add64 [(.t 48), (.t 49), (.c (.u 64 0))]),
 mv 41 50,
 op 51 (.ext 0 (.t 41)),
 op 52 (.ext 1 (.t 41)),
 op 53 (.nck (.t 42)),
 op 54 (.idx 11 1 (.t 53) (.t 43)),
 ⟨none, none, .st 1 (.t 54) (.t 51)⟩,
 mv 12 52] [0, 1, 2, 3, 10, 12, 17, 18]) (
 .reg [
 mv 55 10,
 mv 56 12,
 op 57 (.bin .add (.t 55) (.t 56)),
 mv 8 57] [0, 1, 2, 3, 8, 17, 18])))))))) (
 .reg [
 op 58 (.bin .add (.t 18) (.c (.i 1))),
 mv 18 58] [0, 1, 2, 3, 8, 17, 18]))))))) (
 .seq (
 .reg [
 op 13 (.mov (.c (.u 64 0)))] [0, 1, 8]) (
 .seq (
 .reg [
 mv 60 1,
 mv 61 0,
 op 62 (.nck (.t 61)),
 op 63 (.off 9 (.t 62)),
 op 64 (.ld false none (.t 63)),
 mv 65 1,
 mv 66 0,
 op 67 (.nck (.t 66)),
 op 68 (.off 9 (.t 67)),
 op 69 (.ld false none (.t 68)),
 op 70 (.nck (.t 65)),
 op 71 (.idx 11 1 (.t 70) (.t 69)),
 op 72 (.ld false none (.t 71)),
 mv 73 8,
 op 74 (.prim .add64 [(.t 72), (.t 73), (.c (.u 64 0))]),
 mv 59 74,
 op 75 (.ext 0 (.t 59)),
 op 76 (.ext 1 (.t 59)),
 op 77 (.nck (.t 60)),
 op 78 (.idx 11 1 (.t 77) (.t 64)),
 ⟨none, none, .st 1 (.t 78) (.t 75)⟩,
 mv 13 76] [0, 1, 13]) (
 .reg [
 mv 79 1,
 mv 80 0,
 op 81 (.nck (.t 80)),
 op 82 (.off 9 (.t 81)),
 op 83 (.ld false none (.t 82)),
 op 84 (.bin .add (.t 83) (.c (.i 1))),
 op 85 (.nck (.t 79)),
 op 86 (.idx 11 1 (.t 85) (.t 84)),
 op 87 (.ld false none (.t 86)),
 mv 88 13,
 op 89 (.bin .add (.t 87) (.t 88)),
 op 90 (.nck (.t 79)),
 op 91 (.idx 11 1 (.t 90) (.t 84)),
 ⟨none, none, .st 1 (.t 91) (.t 89)⟩] []))))
def m_mont_Mont_round : MFn := ⟨c_mont_Mont_round, [], 0⟩

/-- math/bits.LeadingZeros64 -/
def c_bits_LeadingZeros64 : Stm :=
 .seq (
 .reg [
 op 2 (.mov (.c (.i 0)))] [0]) (
 .seq (
 .reg [
 mv 3 0,
 op 4 (.call f_bits_Len64 [] [(.t 3)]),
 op 5 (.bin .sub (.c (.i 64)) (.t 4)),
 mv 2 5] [2]) (
 .ret))
def m_bits_LeadingZeros64 : MFn := ⟨c_bits_LeadingZeros64, [.tmp 2], 0⟩

/-- (*curvet/divide.divisor).guess -/
def c_divide_divisor_guess : Stm :=
 .seq (
 .reg [
 op 6 (.mov (.c (.u 64 0)))] [0, 1, 2]) (
 .seq (
 .reg [
 mv 15 0,
 mv 16 0,
 op 17 (.nck (.t 16)),
 op 18 (.off 9 (.t 17)),
 op 19 (.ld false none (.t 18)),
 op 20 (.bin .sub (.t 19) (.c (.i 1))),
 op 21 (.nck (.t 15)),
 op 22 (.off 0 (.t 21)),
 op 23 (.idx 9 1 (.t 22) (.t 20)),
 op 24 (.ld false none (.t 23)),
 mv 7 24] [0, 1, 2, 7]) (
 .seq (
 .reg [
 mv 25 1,
 mv 26 2,
 mv 27 0,
 op 28 (.nck (.t 27)),
 op 29 (.off 9 (.t 28)),
 op 30 (.ld false none (.t 29)),
 op 31 (.bin .add (.t 26) (.t 30)),
 op 32 (.idxs 1 (.t 25) (.t 31)),
 op 33 (.ld false none (.t 32)),
 mv 34 1,
 mv 35 2,
 mv 36 0,
 op 37 (.nck (.t 36)),
 op 38 (.off 9 (.t 37)),
 op 39 (.ld false none (.t 38)),
 op 40 (.bin .add (.t 35) (.t 39)),
 op 41 (.bin .sub (.t 40) (.c (.i 1))),
 op 42 (.idxs 1 (.t 34) (.t 41)),
 op 43 (.ld false none (.t 42)),
 mv 8 33,
 mv 9 43] [0, 1, 2, 7, 8, 9]) (
 .seq (
 .seq (
 .reg [
 mv 44 8,
 mv 45 7,
 op 46 (.bin .geq (.t 44) (.t 45))] [0, 1, 2, 7, 8, 9, 46]) (
 .cond (.t 46) (
 .seq (
 .reg [
 op 6 (.mov (.c (.u 64 18446744073709551615)))] [6]) (
 .ret)) (
 .reg [] [0, 1, 2, 7, 8, 9]))) (
 .seq (
 .reg [
 mv 48 8,
 mv 49 9,
 mv 50 7,
 op 51 (.call f_bits_Div64 [] [(.t 48), (.t 49), (.t 50)]),
 mv 47 51,
 op 52 (.ext 0 (.t 47)),
 op 53 (.ext 1 (.t 47)),
 mv 10 52,
 mv 11 53] [0, 1, 2, 7, 10, 11]) (
 .seq (
 .seq (
 .reg [
 mv 54 0,
 op 55 (.nck (.t 54)),
 op 56 (.off 9 (.t 55)),
 op 57 (.ld false none (.t 56)),
 op 58 (.bin .eql (.t 57) (.c (.i 1)))] [0, 1, 2, 7, 10, 11, 58]) (
 .cond (.t 58) (
 .seq (
 .reg [
 mv 59 10,
 mv 6 59] [6]) (
 .ret)) (
 .reg [] [0, 1, 2, 7, 10, 11]))) (
 .block 0 (
 .loop [0, 1, 2, 7, 10, 11] (
 .block 1 (
 .seq (
 .reg [
 mv 61 10,
 mv 62 0,
 mv 63 0,
 op 64 (.nck (.t 63)),
 op 65 (.off 9 (.t 64)),
 op 66 (.ld false none (.t 65)),
 op 67 (.bin .sub (.t 66) (.c (.i 2))),
 op 68 (.nck (.t 62)),
 op 69 (.off 0 (.t 68)),
 op 70 (.idx 9 1 (.t 69) (.t 67)),
 op 71 (.ld false none (.t 70)),
 op 72 (.call f_bits_Mul64 [] [(.t 61), (.t 71)]),
 mv 60 72,
 op 73 (.ext 0 (.t 60)),
 op 74 (.ext 1 (.t 60)),
 mv 12 73,
 mv 13 74] [0, 1, 2, 7, 10, 11, 12, 13]) (
 .seq (
 .seq (
 .reg [
 mv 75 12,
 mv 76 11,
 op 77 (.bin .lss (.t 75) (.t 76)),
 mv 78 77,
 ⟨some 79, (some (78, false)), .mov (.t 12)⟩,
 ⟨some 80, (some (78, false)), .mov (.t 11)⟩,
 ⟨some 81, (some (78, false)), .bin .eql (.t 79) (.t 80)⟩,
 ⟨some 82, (some (78, false)), .mov (.t 81)⟩,
 ⟨some 83, (some (82, true)), .mov (.t 13)⟩,
 ⟨some 84, (some (82, true)), .mov (.t 1)⟩,
 ⟨some 85, (some (82, true)), .mov (.t 2)⟩,
 ⟨some 86, (some (82, true)), .mov (.t 0)⟩,
 ⟨some 87, (some (82, true)), .nck (.t 86)⟩,
 ⟨some 88, (some (82, true)), .off 9 (.t 87)⟩,
 ⟨some 89, (some (82, true)), .ld false none (.t 88)⟩,
 ⟨some 90, (some (82, true)), .bin .add (.t 85) (.t 89)⟩,
 ⟨some 91, (some (82, true)), .bin .sub (.t 90) (.c (.i 2))⟩,
 ⟨some 92, (some (82, true)), .idxs 1 (.t 84) (.t 91)⟩,
 ⟨some 93, (some (82, true)), .ld false none (.t 92)⟩,
 ⟨some 94, (some (82, true)), .bin .leq (.t 83) (.t 93)⟩,
 ⟨some 95, (some (78, false)), .pick (.t 82) (.t 94) (.c (.b false))⟩,
 op 96 (.pick (.t 78) (.c (.b true)) (.t 95))] [0, 1, 2, 7, 10, 11, 96]) (
 .cond (.t 96) (
 .seq (
 .reg [
 mv 97 10,
 mv 6 97] [6]) (
 .ret)) (
 .reg [] [0, 1, 2, 7, 10, 11]))) (
 .seq (
 .reg [
 mv 98 10,
 op 99 (.bin .sub (.t 98) (.c (.u 64 1))),
 mv 10 99] [0, 1, 2, 7, 10, 11]) (
 .seq (
 .reg [
 mv 100 11,
 mv 101 7,
 op 102 (.bin .add (.t 100) (.t 101)),
 mv 14 102] [0, 1, 2, 7, 10, 11, 14]) (
 .seq (
 .seq (
 .reg [
 mv 103 14,
 mv 104 11,
 op 105 (.bin .lss (.t 103) (.t 104))] [0, 1, 2, 7, 10, 14, 105]) (
 .cond (.t 105) (
 .seq (
 .reg [
 mv 106 10,
 mv 6 106] [6]) (
 .ret)) (
 .reg [] [0, 1, 2, 7, 10, 14]))) (
 .reg [
 mv 107 14,
 mv 11 107] [0, 1, 2, 7, 10, 11]))))))))))))))
def m_divide_divisor_guess : MFn := ⟨c_divide_divisor_guess, [.tmp 6], 0⟩

/-- (*curvet/divide.divisor).take -/
def c_divide_divisor_take : Stm :=
 .seq (
 .reg [
 op 8 (.mov (.c (.b false)))] [0, 1, 2, 3]) (
 .seq (
 .reg [
 op 9 (.mov (.c (.u 64 0))),
 op 10 (.mov (.c (.u 64 0)))] [0, 1, 2, 3, 9, 10]) (
 .seq (
 .seq (
 .reg [
 mv 15 0,
 op 16 (.nck (.t 15)),
 op 17 (.off 9 (.t 16)),
 op 18 (.ld false none (.t 17)),
 op 19 (.mov (.c (.i 0)))] [0, 1, 2, 3, 9, 10, 18, 19]) (
 .block 0 (
 .loop [0, 1, 2, 3, 9, 10, 18, 19] (
 .seq (
 .reg [
 op 20 (.bin .lss (.t 19) (.t 18))] [0, 1, 2, 3, 9, 10, 18, 19, 20]) (
 .seq (
 .cond (.t 20) (
 .reg [] [0, 1, 2, 3, 9, 10, 18, 19]) (
 .exit 0 [0, 1, 2, 9, 10])) (
 .seq (
 .block 1 (
 .seq (
 .reg [
 mv 21 19,
 mv 11 21] [0, 1, 2, 3, 9, 10, 11, 18, 19]) (
 .seq (
 .reg [
 mv 23 3,
 mv 24 0,
 mv 25 11,
 op 26 (.nck (.t 24)),
 op 27 (.off 0 (.t 26)),
 op 28 (.idx 9 1 (.t 27) (.t 25)),
 op 29 (.ld false none (.t 28)),
 op 30 (.call f_bits_Mul64 [] [(.t 23), (.t 29)]),
 mv 22 30,
 op 31 (.ext 0 (.t 22)),
 op 32 (.ext 1 (.t 22)),
 mv 12 31,
 mv 13 32] [0, 1, 2, 3, 9, 10, 11, 12, 13, 18, 19]) (
 .seq (
 .reg [
 op 14 (.mov (.c (.u 64 0)))] [0, 1, 2, 3, 9, 10, 11, 12, 13, 18, 19]) (
 .seq (
 .reg [
 mv 34 13,
 mv 35 10,
 op 36 (.prim .add64 [(.t 34), (.t 35), (.c (.u 64 0))]),
 mv 33 36,
 op 37 (.ext 0 (.t 33)),
 op 38 (.ext 1 (.t 33)),
 mv 13 37,
 mv 14 38] [0, 1, 2, 3, 9, 11, 12, 13, 14, 18, 19]) (
 .seq (
 .reg [
 mv 39 12,
 mv 40 14,
 op 41 (.bin .add (.t 39) (.t 40)),
 mv 10 41] [0, 1, 2, 3, 9, 10, 11, 13, 18, 19]) (
 .reg [
 mv 43 1,
 mv 44 2,
 mv 45 11,
 op 46 (.bin .add (.t 44) (.t 45)),
 mv 47 1,
 mv 48 2,
 mv 49 11,
 op 50 (.bin .add (.t 48) (.t 49)),
 op 51 (.idxs 1 (.t 47) (.t 50)),
 op 52 (.ld false none (.t 51)),
 mv 53 13,
 mv 54 9,
 op 55 (.prim .sub64 [(.t 52), (.t 53), (.t 54)]),
 mv 42 55,
 op 56 (.ext 0 (.t 42)),
 op 57 (.ext 1 (.t 42)),
 op 58 (.idxs 1 (.t 43) (.t 46)),
 ⟨none, none, .st 1 (.t 58) (.t 56)⟩,
 mv 9 57] [0, 1, 2, 3, 9, 10, 18, 19]))))))) (
 .reg [
 op 59 (.bin .add (.t 19) (.c (.i 1))),
 mv 19 59] [0, 1, 2, 3, 9, 10, 18, 19]))))))) (
 .seq (
 .reg [
 mv 61 1,
 mv 62 2,
 mv 63 0,
 op 64 (.nck (.t 63)),
 op 65 (.off 9 (.t 64)),
 op 66 (.ld false none (.t 65)),
 op 67 (.bin .add (.t 62) (.t 66)),
 mv 68 1,
 mv 69 2,
 mv 70 0,
 op 71 (.nck (.t 70)),
 op 72 (.off 9 (.t 71)),
 op 73 (.ld false none (.t 72)),
 op 74 (.bin .add (.t 69) (.t 73)),
 op 75 (.idxs 1 (.t 68) (.t 74)),
 op 76 (.ld false none (.t 75)),
 mv 77 10,
 mv 78 9,
 op 79 (.prim .sub64 [(.t 76), (.t 77), (.t 78)]),
 mv 60 79,
 op 80 (.ext 0 (.t 60)),
 op 81 (.ext 1 (.t 60)),
 op 82 (.idxs 1 (.t 61) (.t 67)),
 ⟨none, none, .st 1 (.t 82) (.t 80)⟩,
 mv 9 81] [9]) (
 .seq (
 .reg [
 mv 83 9,
 op 84 (.bin .eql (.t 83) (.c (.u 64 1))),
 mv 8 84] [8]) (
 .ret)))))
def m_divide_divisor_take : MFn := ⟨c_divide_divisor_take, [.tmp 8], 0⟩

/-- (*curvet/divide.divisor).back -/
def c_divide_divisor_back : Stm :=
 .seq (
 .reg [
 op 6 (.mov (.c (.b false)))] [0, 1, 2]) (
 .seq (
 .reg [
 op 7 (.mov (.c (.u 64 0)))] [0, 1, 2, 7]) (
 .seq (
 .seq (
 .reg [
 mv 9 0,
 op 10 (.nck (.t 9)),
 op 11 (.off 9 (.t 10)),
 op 12 (.ld false none (.t 11)),
 op 13 (.mov (.c (.i 0)))] [0, 1, 2, 7, 12, 13]) (
 .block 0 (
 .loop [0, 1, 2, 7, 12, 13] (
 .seq (
 .reg [
 op 14 (.bin .lss (.t 13) (.t 12))] [0, 1, 2, 7, 12, 13, 14]) (
 .seq (
 .cond (.t 14) (
 .reg [] [0, 1, 2, 7, 12, 13]) (
 .exit 0 [0, 1, 2, 7])) (
 .seq (
 .block 1 (
 .seq (
 .reg [
 mv 15 13,
 mv 8 15] [0, 1, 2, 7, 8, 12, 13]) (
 .reg [
 mv 17 1,
 mv 18 2,
 mv 19 8,
 op 20 (.bin .add (.t 18) (.t 19)),
 mv 21 1,
 mv 22 2,
 mv 23 8,
 op 24 (.bin .add (.t 22) (.t 23)),
 op 25 (.idxs 1 (.t 21) (.t 24)),
 op 26 (.ld false none (.t 25)),
 mv 27 0,
 mv 28 8,
 op 29 (.nck (.t 27)),
 op 30 (.off 0 (.t 29)),
 op 31 (.idx 9 1 (.t 30) (.t 28)),
 op 32 (.ld false none (.t 31)),
 mv 33 7,
 op 34 (.prim .add64 [(.t 26), (.t 32), (.t 33)]),
 mv 16 34,
 op 35 (.ext 0 (.t 16)),
 op 36 (.ext 1 (.t 16)),
 op 37 (.idxs 1 (.t 17) (.t 20)),
 ⟨none, none, .st 1 (.t 37) (.t 35)⟩,
 mv 7 36] [0, 1, 2, 7, 12, 13]))) (
 .reg [
 op 38 (.bin .add (.t 13) (.c (.i 1))),
 mv 13 38] [0, 1, 2, 7, 12, 13]))))))) (
 .seq (
 .reg [
 mv 40 1,
 mv 41 2,
 mv 42 0,
 op 43 (.nck (.t 42)),
 op 44 (.off 9 (.t 43)),
 op 45 (.ld false none (.t 44)),
 op 46 (.bin .add (.t 41) (.t 45)),
 mv 47 1,
 mv 48 2,
 mv 49 0,
 op 50 (.nck (.t 49)),
 op 51 (.off 9 (.t 50)),
 op 52 (.ld false none (.t 51)),
 op 53 (.bin .add (.t 48) (.t 52)),
 op 54 (.idxs 1 (.t 47) (.t 53)),
 op 55 (.ld false none (.t 54)),
 mv 56 7,
 op 57 (.prim .add64 [(.t 55), (.c (.u 64 0)), (.t 56)]),
 mv 39 57,
 op 58 (.ext 0 (.t 39)),
 op 59 (.ext 1 (.t 39)),
 op 60 (.idxs 1 (.t 40) (.t 46)),
 ⟨none, none, .st 1 (.t 60) (.t 58)⟩,
 mv 7 59] [7]) (
 .seq (
 .reg [
 mv 61 7,
 op 62 (.bin .eql (.t 61) (.c (.u 64 1))),
 mv 6 62] [6]) (
 .ret)))))
def m_divide_divisor_back : MFn := ⟨c_divide_divisor_back, [.tmp 6], 0⟩

/-- curvet/curvetref1.Sub -/
def c_curvetref1_Sub : Stm :=
 .seq (
 .reg [
 op 4 (.mov (.c (.vs 0 [])))] [0, 1]) (
 .seq (
 .reg [
 mv 9 0,
 op 10 (.len (.t 9)),
 op 11 (.mks 1 4 [.u 32 0] (.t 10) (.t 10)),
 mv 5 11] [0, 1, 5]) (
 .seq (
 .reg [
 op 6 (.mov (.c (.u 64 0)))] [0, 1, 5, 6]) (
 .seq (
 .seq (
 .reg [
 op 7 (.mov (.c (.i 0)))] [0, 1, 5, 6, 7]) (
 .block 0 (
 .loop [0, 1, 5, 6, 7] (
 .seq (
 .seq (
 .reg [
 mv 12 7,
 mv 13 0,
 op 14 (.len (.t 13)),
 op 15 (.bin .lss (.t 12) (.t 14))] [0, 1, 5, 6, 7, 15]) (
 .cond (.t 15) (
 .reg [] [0, 1, 5, 6, 7]) (
 .exit 0 [5]))) (
 .seq (
 .block 1 (
 .seq (
 .reg [
 mv 18 0,
 mv 19 7,
 op 20 (.call f_curvetref1_digit [] [(.t 18), (.t 19)]),
 op 21 (.bin .add (.t 20) (.c (.u 64 4294967296))),
 mv 22 1,
 mv 23 7,
 op 24 (.call f_curvetref1_digit [] [(.t 22), (.t 23)]),
 op 25 (.bin .sub (.t 21) (.t 24)),
 mv 26 6,
 op 27 (.bin .sub (.t 25) (.t 26)),
 mv 8 27] [0, 1, 5, 7, 8]) (
 .seq (
 .reg [
 mv 28 5,
 mv 29 7,
 mv 30 8,
 op 31 (.bin .and (.t 30) (.c (.u 64 4294967295))),
 op 32 (.cvu 32 (.t 31)),
 op 33 (.idxs 1 (.t 28) (.t 29)),
 ⟨none, none, .st 1 (.t 33) (.t 32)⟩] [0, 1, 5, 7, 8]) (
 .reg [
 mv 34 8,
 op 35 (.bin .shr (.t 34) (.c (.u 64 32))),
 op 36 (.bin .sub (.c (.u 64 1)) (.t 35)),
 mv 6 36] [0, 1, 5, 6, 7])))) (
 .reg [
 mv 16 7,
 op 17 (.bin .add (.t 16) (.c (.i 1))),
 mv 7 17] [0, 1, 5, 6, 7])))))) (
 .seq (
 .reg [
 mv 37 5,
 op 38 (.call f_curvetref1_trim [] [(.t 37)]),
 mv 4 38] [4]) (
 .ret)))))
def m_curvetref1_Sub : MFn := ⟨c_curvetref1_Sub, [.tmp 4], 0⟩

/-- curvet/curvetref1.Add -/
def c_curvetref1_Add : Stm :=
 .seq (
 .reg [
 op 4 (.mov (.c (.vs 0 [])))] [0, 1]) (
 .seq (
 .reg [
 mv 10 0,
 op 11 (.len (.t 10)),
 mv 12 1,
 op 13 (.len (.t 12)),
 op 14 (.mx (.t 11) (.t 13)),
 mv 5 14] [0, 1, 5]) (
 .seq (
 .reg [
 mv 15 5,
 op 16 (.bin .add (.t 15) (.c (.i 1))),
 op 17 (.mks 1 4 [.u 32 0] (.t 16) (.t 16)),
 mv 6 17] [0, 1, 5, 6]) (
 .seq (
 .reg [
 op 7 (.mov (.c (.u 64 0)))] [0, 1, 5, 6, 7]) (
 .seq (
 .seq (
 .reg [
 op 8 (.mov (.c (.i 0)))] [0, 1, 5, 6, 7, 8]) (
 .block 0 (
 .loop [0, 1, 5, 6, 7, 8] (
 .seq (
 .seq (
 .reg [
 mv 18 8,
 mv 19 5,
 op 20 (.bin .lss (.t 18) (.t 19))] [0, 1, 5, 6, 7, 8, 20]) (
 .cond (.t 20) (
 .reg [] [0, 1, 5, 6, 7, 8]) (
 .exit 0 [5, 6, 7]))) (
 .seq (
 .block 1 (
 .seq (
 .reg [
 mv 23 0,
 mv 24 8,
 op 25 (.call f_curvetref1_digit [] [(.t 23), (.t 24)]),
 mv 26 1,
 mv 27 8,
 op 28 (.call f_curvetref1_digit [] [(.t 26), (.t 27)]),
 op 29 (.bin .add (.t 25) (.t 28)),
 mv 30 7,
 op 31 (.bin .add (.t 29) (.t 30)),
 mv 9 31] [0, 1, 5, 6, 8, 9]) (
 .seq (
 .reg [
 mv 32 6,
 mv 33 8,
 mv 34 9,
 op 35 (.bin .and (.t 34) (.c (.u 64 4294967295))),
 op 36 (.cvu 32 (.t 35)),
 op 37 (.idxs 1 (.t 32) (.t 33)),
 ⟨none, none, .st 1 (.t 37) (.t 36)⟩] [0, 1, 5, 6, 8, 9]) (
 .reg [
 mv 38 9,
 op 39 (.bin .shr (.t 38) (.c (.u 64 32))),
 mv 7 39] [0, 1, 5, 6, 7, 8])))) (
 .reg [
 mv 21 8,
 op 22 (.bin .add (.t 21) (.c (.i 1))),
 mv 8 22] [0, 1, 5, 6, 7, 8])))))) (
 .seq (
 .reg [
 mv 40 6,
 mv 41 5,
 mv 42 7,
 op 43 (.cvu 32 (.t 42)),
 op 44 (.idxs 1 (.t 40) (.t 41)),
 ⟨none, none, .st 1 (.t 44) (.t 43)⟩] [6]) (
 .seq (
 .reg [
 mv 45 6,
 op 46 (.call f_curvetref1_trim [] [(.t 45)]),
 mv 4 46] [4]) (
 .ret)))))))
def m_curvetref1_Add : MFn := ⟨c_curvetref1_Add, [.tmp 4], 0⟩

/-- math/bits.Mul64 -/
def c_bits_Mul64 : Stm :=
 .seq (
 .reg [
 op 4 (.mov (.c (.u 64 0))),
 op 5 (.mov (.c (.u 64 0)))] [0, 1]) (
 .seq (
 .reg [
 mv 14 0,
 op 15 (.bin .and (.t 14) (.c (.u 64 4294967295))),
 mv 6 15] [0, 1, 6]) (
 .seq (
 .reg [
 mv 16 0,
 op 17 (.bin .shr (.t 16) (.c (.u 64 32))),
 mv 7 17] [0, 1, 6, 7]) (
 .seq (
 .reg [
 mv 18 1,
 op 19 (.bin .and (.t 18) (.c (.u 64 4294967295))),
 mv 8 19] [0, 1, 6, 7, 8]) (
 .seq (
 .reg [
 mv 20 1,
 op 21 (.bin .shr (.t 20) (.c (.u 64 32))),
 mv 9 21] [0, 1, 6, 7, 8, 9]) (
 .seq (
 .reg [
 mv 22 6,
 mv 23 8,
 op 24 (.bin .mul (.t 22) (.t 23)),
 mv 10 24] [0, 1, 6, 7, 8, 9, 10]) (
 .seq (
 .reg [
 mv 25 7,
 mv 26 8,
 op 27 (.bin .mul (.t 25) (.t 26)),
 mv 28 10,
 op 29 (.bin .shr (.t 28) (.c (.u 64 32))),
 op 30 (.bin .add (.t 27) (.t 29)),
 mv 11 30] [0, 1, 6, 7, 9, 11]) (
 .seq (
 .reg [
 mv 31 11,
 op 32 (.bin .and (.t 31) (.c (.u 64 4294967295))),
 mv 12 32] [0, 1, 6, 7, 9, 11, 12]) (
 .seq (
 .reg [
 mv 33 11,
 op 34 (.bin .shr (.t 33) (.c (.u 64 32))),
 mv 13 34] [0, 1, 6, 7, 9, 12, 13]) (
 .seq (
 .reg [
 mv 35 12,
 mv 36 6,
 mv 37 9,
 op 38 (.bin .mul (.t 36) (.t 37)),
 op 39 (.bin .add (.t 35) (.t 38)),
 mv 12 39] [0, 1, 7, 9, 12, 13]) (
 .seq (
 .reg [
 mv 40 7,
 mv 41 9,
 op 42 (.bin .mul (.t 40) (.t 41)),
 mv 43 13,
 op 44 (.bin .add (.t 42) (.t 43)),
 mv 45 12,
 op 46 (.bin .shr (.t 45) (.c (.u 64 32))),
 op 47 (.bin .add (.t 44) (.t 46)),
 mv 4 47] [0, 1, 4]) (
 .seq (
 .reg [
 mv 48 0,
 mv 49 1,
 op 50 (.bin .mul (.t 48) (.t 49)),
 mv 5 50] [4, 5]) (
 .ret))))))))))))
def m_bits_Mul64 : MFn := ⟨c_bits_Mul64, [.tmp 4, .tmp 5], 0⟩

/-- math/bits.Div64 -/
def c_bits_Div64 : Stm :=
 .seq (
 .reg [
 op 6 (.mov (.c (.u 64 0))),
 op 7 (.mov (.c (.u 64 0)))] [0, 1, 2]) (
 .seq (
 .seq (
 .reg [
 mv 19 2,
 op 20 (.bin .eql (.t 19) (.c (.u 64 0)))] [0, 1, 2, 20]) (
 .cond (.t 20) (
 .reg [
 op 21 (.fail),
 ⟨none, none, .fail⟩] [0, 1, 2]) (
 .reg [] [0, 1, 2]))) (
 .seq (
 .seq (
 .reg [
 mv 22 2,
 mv 23 0,
 op 24 (.bin .leq (.t 22) (.t 23))] [0, 1, 2, 24]) (
 .cond (.t 24) (
 .reg [
 op 25 (.fail),
 ⟨none, none, .fail⟩] [0, 1, 2]) (
 .reg [] [0, 1, 2]))) (
 .seq (
 .seq (
 .reg [
 mv 26 0,
 op 27 (.bin .eql (.t 26) (.c (.u 64 0)))] [0, 1, 2, 27]) (
 .cond (.t 27) (
 .seq (
 .reg [
 mv 28 1,
 mv 29 2,
 op 30 (.bin .quo (.t 28) (.t 29)),
 mv 31 1,
 mv 32 2,
 op 33 (.bin .rem (.t 31) (.t 32)),
 mv 6 30,
 mv 7 33] [6, 7]) (
 .ret)) (
 .reg [] [0, 1, 2]))) (
 .seq (
 .reg [
 mv 34 2,
 op 35 (.call f_bits_LeadingZeros64 [] [(.t 34)]),
 op 36 (.cvu 64 (.t 35)),
 mv 8 36] [0, 1, 2, 8]) (
 .seq (
 .reg [
 mv 37 2,
 mv 38 8,
 op 39 (.bin .shl (.t 37) (.t 38)),
 mv 2 39] [0, 1, 2, 8]) (
 .seq (
 .reg [
 mv 40 2,
 op 41 (.bin .shr (.t 40) (.c (.u 64 32))),
 mv 9 41] [0, 1, 2, 8, 9]) (
 .seq (
 .reg [
 mv 42 2,
 op 43 (.bin .and (.t 42) (.c (.u 64 4294967295))),
 mv 10 43] [0, 1, 2, 8, 9, 10]) (
 .seq (
 .reg [
 mv 44 0,
 mv 45 8,
 op 46 (.bin .shl (.t 44) (.t 45)),
 mv 47 1,
 mv 48 8,
 op 49 (.bin .sub (.c (.u 64 64)) (.t 48)),
 op 50 (.bin .shr (.t 47) (.t 49)),
 op 51 (.bin .or (.t 46) (.t 50)),
 mv 11 51] [1, 2, 8, 9, 10, 11]) (
 .seq (
 .reg [
 mv 52 1,
 mv 53 8,
 op 54 (.bin .shl (.t 52) (.t 53)),
 mv 12 54] [2, 8, 9, 10, 11, 12]) (
 .seq (
 .reg [
 mv 55 12,
 op 56 (.bin .shr (.t 55) (.c (.u 64 32))),
 mv 13 56] [2, 8, 9, 10, 11, 12, 13]) (
 .seq (
 .reg [
 mv 57 12,
 op 58 (.bin .and (.t 57) (.c (.u 64 4294967295))),
 mv 14 58] [2, 8, 9, 10, 11, 13, 14]) (
 .seq (
 .reg [
 mv 59 11,
 mv 60 9,
 op 61 (.bin .quo (.t 59) (.t 60)),
 mv 15 61] [2, 8, 9, 10, 11, 13, 14, 15]) (
 .seq (
 .reg [
 mv 62 11,
 mv 63 15,
 mv 64 9,
 op 65 (.bin .mul (.t 63) (.t 64)),
 op 66 (.bin .sub (.t 62) (.t 65)),
 mv 16 66] [2, 8, 9, 10, 11, 13, 14, 15, 16]) (
 .seq (
 .block 0 (
 .loop [2, 8, 9, 10, 11, 13, 14, 15, 16] (
 .seq (
 .seq (
 .reg [
 mv 67 15,
 op 68 (.bin .geq (.t 67) (.c (.u 64 4294967296))),
 mv 69 68,
 ⟨some 70, (some (69, false)), .mov (.t 15)⟩,
 ⟨some 71, (some (69, false)), .mov (.t 10)⟩,
 ⟨some 72, (some (69, false)), .bin .mul (.t 70) (.t 71)⟩,
 ⟨some 73, (some (69, false)), .mov (.t 16)⟩,
 ⟨some 74, (some (69, false)), .bin .mul (.c (.u 64 4294967296)) (.t 73)⟩,
 ⟨some 75, (some (69, false)), .mov (.t 13)⟩,
 ⟨some 76, (some (69, false)), .bin .add (.t 74) (.t 75)⟩,
 ⟨some 77, (some (69, false)), .bin .gtr (.t 72) (.t 76)⟩,
 op 78 (.pick (.t 69) (.c (.b true)) (.t 77))] [2, 8, 9, 10, 11, 13, 14, 15, 16, 78]) (
 .cond (.t 78) (
 .reg [] [2, 8, 9, 10, 11, 13, 14, 15, 16]) (
 .exit 0 [2, 8, 9, 10, 11, 13, 14, 15]))) (
 .block 1 (
 .seq (
 .reg [
 mv 79 15,
 op 80 (.bin .sub (.t 79) (.c (.u 64 1))),
 mv 15 80] [2, 8, 9, 10, 11, 13, 14, 15, 16]) (
 .seq (
 .reg [
 mv 81 16,
 mv 82 9,
 op 83 (.bin .add (.t 81) (.t 82)),
 mv 16 83] [2, 8, 9, 10, 11, 13, 14, 15, 16]) (
 .seq (
 .reg [
 mv 84 16,
 op 85 (.bin .geq (.t 84) (.c (.u 64 4294967296)))] [2, 8, 9, 10, 11, 13, 14, 15, 16, 85]) (
 .cond (.t 85) (
 .exit 0 [2, 8, 9, 10, 11, 13, 14, 15]) (
 .reg [] [2, 8, 9, 10, 11, 13, 14, 15, 16]))))))))) (
 .seq (
 .reg [
 mv 86 11,
 op 87 (.bin .mul (.t 86) (.c (.u 64 4294967296))),
 mv 88 13,
 op 89 (.bin .add (.t 87) (.t 88)),
 mv 90 15,
 mv 91 2,
 op 92 (.bin .mul (.t 90) (.t 91)),
 op 93 (.bin .sub (.t 89) (.t 92)),
 mv 17 93] [2, 8, 9, 10, 14, 15, 17]) (
 .seq (
 .reg [
 mv 94 17,
 mv 95 9,
 op 96 (.bin .quo (.t 94) (.t 95)),
 mv 18 96] [2, 8, 9, 10, 14, 15, 17, 18]) (
 .seq (
 .reg [
 mv 97 17,
 mv 98 18,
 mv 99 9,
 op 100 (.bin .mul (.t 98) (.t 99)),
 op 101 (.bin .sub (.t 97) (.t 100)),
 mv 16 101] [2, 8, 9, 10, 14, 15, 16, 17, 18]) (
 .seq (
 .block 2 (
 .loop [2, 8, 9, 10, 14, 15, 16, 17, 18] (
 .seq (
 .seq (
 .reg [
 mv 102 18,
 op 103 (.bin .geq (.t 102) (.c (.u 64 4294967296))),
 mv 104 103,
 ⟨some 105, (some (104, false)), .mov (.t 18)⟩,
 ⟨some 106, (some (104, false)), .mov (.t 10)⟩,
 ⟨some 107, (some (104, false)), .bin .mul (.t 105) (.t 106)⟩,
 ⟨some 108, (some (104, false)), .mov (.t 16)⟩,
 ⟨some 109, (some (104, false)), .bin .mul (.c (.u 64 4294967296)) (.t 108)⟩,
 ⟨some 110, (some (104, false)), .mov (.t 14)⟩,
 ⟨some 111, (some (104, false)), .bin .add (.t 109) (.t 110)⟩,
 ⟨some 112, (some (104, false)), .bin .gtr (.t 107) (.t 111)⟩,
 op 113 (.pick (.t 104) (.c (.b true)) (.t 112))] [2, 8, 9, 10, 14, 15, 16, 17, 18, 113]) (
 .cond (.t 113) (
 .reg [] [2, 8, 9, 10, 14, 15, 16, 17, 18]) (
 .exit 2 [2, 8, 14, 15, 17, 18]))) (
 .block 3 (
 .seq (
 .reg [
 mv 114 18,
 op 115 (.bin .sub (.t 114) (.c (.u 64 1))),
 mv 18 115] [2, 8, 9, 10, 14, 15, 16, 17, 18]) (
 .seq (
 .reg [
 mv 116 16,
 mv 117 9,
 op 118 (.bin .add (.t 116) (.t 117)),
 mv 16 118] [2, 8, 9, 10, 14, 15, 16, 17, 18]) (
 .seq (
 .reg [
 mv 119 16,
 op 120 (.bin .geq (.t 119) (.c (.u 64 4294967296)))] [2, 8, 9, 10, 14, 15, 16, 17, 18, 120]) (
 .cond (.t 120) (
 .exit 2 [2, 8, 14, 15, 17, 18]) (
 .reg [] [2, 8, 9, 10, 14, 15, 16, 17, 18]))))))))) (
 .seq (
 .reg [
 mv 121 15,
 op 122 (.bin .mul (.t 121) (.c (.u 64 4294967296))),
 mv 123 18,
 op 124 (.bin .add (.t 122) (.t 123)),
 mv 125 17,
 op 126 (.bin .mul (.t 125) (.c (.u 64 4294967296))),
 mv 127 14,
 op 128 (.bin .add (.t 126) (.t 127)),
 mv 129 18,
 mv 130 2,
 op 131 (.bin .mul (.t 129) (.t 130)),
 op 132 (.bin .sub (.t 128) (.t 131)),
 mv 133 8,
 op 134 (.bin .shr (.t 132) (.t 133)),
 mv 6 124,
 mv 7 134] [6, 7]) (
 .ret))))))))))))))))))))
def m_bits_Div64 : MFn := ⟨c_bits_Div64, [.tmp 6, .tmp 7], 0⟩

/-- curvet/nat.Of -/
def c_nat_Of : Stm :=
 .seq (
 .reg [
 op 2 (.box (.c (.agg [.u 64 0, .u 64 0, .u 64 0, .u 64 0, .u 64 0, .u 64 0, .u 64 0, .u 64 0, .u 64 0]))),
 op 3 (.mov (.c (.i 0)))] [0, 2]) (
 .seq (
 .seq (
 .reg [
 mv 7 0,
 op 8 (.lens (.t 7)),
 op 9 (.bin .gtr (.t 8) (.c (.i 72)))] [0, 2, 9]) (
 .cond (.t 9) (
 .seq (
 .reg [
 op 10 (.build [.u 64 0, .u 64 0, .u 64 0, .u 64 0, .u 64 0, .u 64 0, .u 64 0, .u 64 0, .u 64 0] []),
 ⟨none, none, .stl 2 9 (.t 2) (.t 10)⟩,
 op 3 (.mov (.c (.i 100)))] [2, 3]) (
 .ret)) (
 .reg [] [0, 2]))) (
 .seq (
 .reg [
 op 4 (.box (.c (.agg [.u 64 0, .u 64 0, .u 64 0, .u 64 0, .u 64 0, .u 64 0, .u 64 0, .u 64 0, .u 64 0])))] [0, 2, 4]) (
 .seq (
 .seq (
 .reg [
 mv 11 0,
 op 12 (.lens (.t 11)),
 op 13 (.mov (.c (.i 0)))] [0, 2, 4, 12, 13]) (
 .block 0 (
 .loop [0, 2, 4, 12, 13] (
 .seq (
 .reg [
 op 14 (.bin .lss (.t 13) (.t 12))] [0, 2, 4, 12, 13, 14]) (
 .seq (
 .cond (.t 14) (
 .reg [] [0, 2, 4, 12, 13]) (
 .exit 0 [2, 4])) (
 .seq (
 .block 1 (
 .seq (
 .reg [
 mv 15 13,
 mv 5 15] [0, 2, 4, 5, 12, 13]) (
 .seq (
 .reg [
 mv 16 0,
 op 17 (.lens (.t 16)),
 op 18 (.bin .sub (.t 17) (.c (.i 1))),
 mv 19 5,
 op 20 (.bin .sub (.t 18) (.t 19)),
 mv 6 20] [0, 2, 4, 5, 6, 12, 13]) (
 .reg [
 mv 21 5,
 op 22 (.bin .quo (.t 21) (.c (.i 8))),
 op 23 (.off 0 (.t 4)),
 op 24 (.idx 9 1 (.t 23) (.t 22)),
 op 25 (.ldl 4 none (.t 24)),
 mv 26 0,
 mv 27 6,
 op 28 (.idxb (.t 26) (.t 27)),
 op 29 (.cvu 64 (.t 28)),
 mv 30 5,
 op 31 (.bin .rem (.t 30) (.c (.i 8))),
 op 32 (.bin .mul (.c (.i 8)) (.t 31)),
 op 33 (.bin .shl (.t 29) (.t 32)),
 op 34 (.bin .or (.t 25) (.t 33)),
 op 35 (.off 0 (.t 4)),
 op 36 (.idx 9 1 (.t 35) (.t 22)),
 ⟨none, none, .stl 4 1 (.t 36) (.t 34)⟩] [0, 2, 4, 12, 13])))) (
 .reg [
 op 37 (.bin .add (.t 13) (.c (.i 1))),
 mv 13 37] [0, 2, 4, 12, 13]))))))) (
 .seq (
 .reg [
 op 38 (.ldl 4 (some 9) (.t 4)),
 ⟨none, none, .stl 2 9 (.t 2) (.t 38)⟩,
 op 3 (.mov (.c (.i 0)))] [2, 3]) (
 .ret)))))
def m_nat_Of : MFn := ⟨c_nat_Of, [.cell 2 (some 9), .tmp 3], 0⟩

/-- curvet/nat.Bytes -/
def c_nat_Bytes : Stm :=
 .seq (
 .reg [
 op 2 (.boxv (.t 0)),
 op 4 (.mov (.c (.s []))),
 op 5 (.mov (.c (.i 0)))] [1, 2]) (
 .seq (
 .seq (
 .reg [
 mv 8 1,
 op 9 (.bin .lss (.t 8) (.c (.i 0))),
 mv 10 9,
 ⟨some 11, (some (10, false)), .mov (.t 1)⟩,
 ⟨some 12, (some (10, false)), .bin .gtr (.t 11) (.c (.i 72))⟩,
 op 13 (.pick (.t 10) (.c (.b true)) (.t 12)),
 mv 14 13,
 ⟨some 15, (some (14, false)), .ld true (some 9) (.t 2)⟩,
 ⟨some 16, (some (14, false)), .call f_nat_Bits [] [(.t 15)]⟩,
 ⟨some 17, (some (14, false)), .mov (.t 1)⟩,
 ⟨some 18, (some (14, false)), .bin .mul (.c (.i 8)) (.t 17)⟩,
 ⟨some 19, (some (14, false)), .bin .gtr (.t 16) (.t 18)⟩,
 op 20 (.pick (.t 14) (.c (.b true)) (.t 19))] [1, 2, 20]) (
 .cond (.t 20) (
 .seq (
 .reg [
 op 4 (.mov (.c (.s []))),
 op 5 (.mov (.c (.i 101)))] [4, 5]) (
 .ret)) (
 .reg [] [1, 2]))) (
 .seq (
 .reg [
 mv 21 1,
 op 22 (.mks 1 1 [.u 8 0] (.t 21) (.t 21)),
 mv 6 22] [1, 2, 6]) (
 .seq (
 .seq (
 .reg [
 mv 23 6,
 op 24 (.len (.t 23)),
 op 25 (.mov (.c (.i 0)))] [1, 2, 6, 24, 25]) (
 .block 0 (
 .loop [1, 2, 6, 24, 25] (
 .seq (
 .reg [
 op 26 (.bin .lss (.t 25) (.t 24))] [1, 2, 6, 24, 25, 26]) (
 .seq (
 .cond (.t 26) (
 .reg [] [1, 2, 6, 24, 25]) (
 .exit 0 [6])) (
 .seq (
 .block 1 (
 .seq (
 .reg [
 mv 27 25,
 mv 7 27] [1, 2, 6, 7, 24, 25]) (
 .reg [
 mv 28 6,
 mv 29 1,
 op 30 (.bin .sub (.t 29) (.c (.i 1))),
 mv 31 7,
 op 32 (.bin .sub (.t 30) (.t 31)),
 mv 33 7,
 op 34 (.bin .quo (.t 33) (.c (.i 8))),
 op 35 (.off 0 (.t 2)),
 op 36 (.idx 9 1 (.t 35) (.t 34)),
 op 37 (.ld true none (.t 36)),
 mv 38 7,
 op 39 (.bin .rem (.t 38) (.c (.i 8))),
 op 40 (.bin .mul (.c (.i 8)) (.t 39)),
 op 41 (.bin .shr (.t 37) (.t 40)),
 op 42 (.cvu 8 (.t 41)),
 op 43 (.idxs 1 (.t 28) (.t 32)),
 ⟨none, none, .st 1 (.t 43) (.t 42)⟩] [1, 2, 6, 24, 25]))) (
 .reg [
 op 44 (.bin .add (.t 25) (.c (.i 1))),
 mv 25 44] [1, 2, 6, 24, 25]))))))) (
 .seq (
 .reg [
 mv 45 6,
 op 46 (.b2s false (.t 45)),
 mv 4 46,
 op 5 (.mov (.c (.i 0)))] [4, 5]) (
 .ret)))))
def m_nat_Bytes : MFn := ⟨c_nat_Bytes, [.tmp 4, .tmp 5], 0⟩

/-- curvet/curvetref1.Bytes -/
def c_curvetref1_Bytes : Stm :=
 .seq (
 .reg [
 op 4 (.mov (.c (.s []))),
 op 5 (.mov (.c (.b false)))] [0, 1]) (
 .seq (
 .seq (
 .reg [
 mv 8 1,
 op 9 (.bin .lss (.t 8) (.c (.i 0))),
 mv 10 9,
 ⟨some 11, (some (10, false)), .mov (.t 1)⟩,
 ⟨some 12, (some (10, false)), .bin .gtr (.t 11) (.c (.i 72))⟩,
 op 13 (.pick (.t 10) (.c (.b true)) (.t 12)),
 mv 14 13,
 ⟨some 15, (some (14, false)), .mov (.t 0)⟩,
 ⟨some 16, (some (14, false)), .call f_curvetref1_Bits [] [(.t 15)]⟩,
 ⟨some 17, (some (14, false)), .mov (.t 1)⟩,
 ⟨some 18, (some (14, false)), .bin .mul (.c (.i 8)) (.t 17)⟩,
 ⟨some 19, (some (14, false)), .bin .gtr (.t 16) (.t 18)⟩,
 op 20 (.pick (.t 14) (.c (.b true)) (.t 19))] [0, 1, 20]) (
 .cond (.t 20) (
 .seq (
 .reg [
 op 4 (.mov (.c (.s []))),
 op 5 (.mov (.c (.b false)))] [4, 5]) (
 .ret)) (
 .reg [] [0, 1]))) (
 .seq (
 .reg [
 mv 21 1,
 op 22 (.mks 1 1 [.u 8 0] (.t 21) (.t 21)),
 mv 6 22] [0, 1, 6]) (
 .seq (
 .seq (
 .reg [
 op 7 (.mov (.c (.i 0)))] [0, 1, 6, 7]) (
 .block 0 (
 .loop [0, 1, 6, 7] (
 .seq (
 .seq (
 .reg [
 mv 23 7,
 mv 24 1,
 op 25 (.bin .lss (.t 23) (.t 24))] [0, 1, 6, 7, 25]) (
 .cond (.t 25) (
 .reg [] [0, 1, 6, 7]) (
 .exit 0 [6]))) (
 .seq (
 .block 1 (
 .reg [
 mv 28 6,
 mv 29 1,
 op 30 (.bin .sub (.t 29) (.c (.i 1))),
 mv 31 7,
 op 32 (.bin .sub (.t 30) (.t 31)),
 mv 33 0,
 mv 34 7,
 op 35 (.bin .quo (.t 34) (.c (.i 4))),
 op 36 (.call f_curvetref1_digit [] [(.t 33), (.t 35)]),
 mv 37 7,
 op 38 (.bin .rem (.t 37) (.c (.i 4))),
 op 39 (.bin .mul (.t 38) (.c (.i 8))),
 op 40 (.bin .shr (.t 36) (.t 39)),
 op 41 (.bin .and (.t 40) (.c (.u 64 255))),
 op 42 (.cvu 8 (.t 41)),
 op 43 (.idxs 1 (.t 28) (.t 32)),
 ⟨none, none, .st 1 (.t 43) (.t 42)⟩] [0, 1, 6, 7])) (
 .reg [
 mv 26 7,
 op 27 (.bin .add (.t 26) (.c (.i 1))),
 mv 7 27] [0, 1, 6, 7])))))) (
 .seq (
 .reg [
 mv 44 6,
 op 45 (.b2s false (.t 44)),
 mv 4 45,
 op 5 (.mov (.c (.b true)))] [4, 5]) (
 .ret)))))
def m_curvetref1_Bytes : MFn := ⟨c_curvetref1_Bytes, [.tmp 4, .tmp 5], 0⟩

/-- curvet/curvetref1.Read -/
def c_curvetref1_Read : Stm :=
 .seq (
 .reg [
 op 2 (.mov (.c (.vs 0 [])))] [0]) (
 .seq (
 .reg [
 mv 6 0,
 op 7 (.lens (.t 6)),
 op 8 (.bin .quo (.t 7) (.c (.i 4))),
 op 9 (.bin .add (.t 8) (.c (.i 1))),
 op 10 (.mks 1 4 [.u 32 0] (.t 9) (.t 9)),
 mv 3 10] [0, 3]) (
 .seq (
 .seq (
 .reg [
 op 4 (.mov (.c (.i 0)))] [0, 3, 4]) (
 .block 0 (
 .loop [0, 3, 4] (
 .seq (
 .seq (
 .reg [
 mv 11 4,
 mv 12 0,
 op 13 (.lens (.t 12)),
 op 14 (.bin .lss (.t 11) (.t 13))] [0, 3, 4, 14]) (
 .cond (.t 14) (
 .reg [] [0, 3, 4]) (
 .exit 0 [3]))) (
 .seq (
 .block 1 (
 .seq (
 .reg [
 mv 17 0,
 op 18 (.lens (.t 17)),
 op 19 (.bin .sub (.t 18) (.c (.i 1))),
 mv 20 4,
 op 21 (.bin .sub (.t 19) (.t 20)),
 mv 5 21] [0, 3, 4, 5]) (
 .reg [
 mv 22 3,
 mv 23 5,
 op 24 (.bin .quo (.t 23) (.c (.i 4))),
 mv 25 3,
 mv 26 5,
 op 27 (.bin .quo (.t 26) (.c (.i 4))),
 op 28 (.idxs 1 (.t 25) (.t 27)),
 op 29 (.ld false none (.t 28)),
 mv 30 0,
 mv 31 4,
 op 32 (.idxb (.t 30) (.t 31)),
 op 33 (.cvu 32 (.t 32)),
 mv 34 5,
 op 35 (.bin .rem (.t 34) (.c (.i 4))),
 op 36 (.bin .mul (.t 35) (.c (.i 8))),
 op 37 (.bin .shl (.t 33) (.t 36)),
 op 38 (.bin .or (.t 29) (.t 37)),
 op 39 (.idxs 1 (.t 22) (.t 24)),
 ⟨none, none, .st 1 (.t 39) (.t 38)⟩] [0, 3, 4]))) (
 .reg [
 mv 15 4,
 op 16 (.bin .add (.t 15) (.c (.i 1))),
 mv 4 16] [0, 3, 4])))))) (
 .seq (
 .reg [
 mv 40 3,
 op 41 (.call f_curvetref1_trim [] [(.t 40)]),
 mv 2 41] [2]) (
 .ret))))
def m_curvetref1_Read : MFn := ⟨c_curvetref1_Read, [.tmp 2], 0⟩

/-- curvet/nat.Shl -/
def c_nat_Shl : Stm :=
 .seq (
 .reg [
 op 2 (.boxv (.t 0)),
 op 4 (.box (.c (.agg [.u 64 0, .u 64 0, .u 64 0, .u 64 0, .u 64 0, .u 64 0, .u 64 0, .u 64 0, .u 64 0]))),
 op 5 (.mov (.c (.i 0)))] [1, 2, 4]) (
 .seq (
 .seq (
 .reg [
 mv 10 1,
 op 11 (.bin .lss (.t 10) (.c (.i 0))),
 mv 12 11,
 ⟨some 13, (some (12, false)), .mov (.t 1)⟩,
 ⟨some 14, (some (12, false)), .bin .gtr (.t 13) (.c (.i 576))⟩,
 op 15 (.pick (.t 12) (.c (.b true)) (.t 14))] [1, 2, 4, 15]) (
 .cond (.t 15) (
 .seq (
 .reg [
 op 16 (.build [.u 64 0, .u 64 0, .u 64 0, .u 64 0, .u 64 0, .u 64 0, .u 64 0, .u 64 0, .u 64 0] []),
 ⟨none, none, .stl 4 9 (.t 4) (.t 16)⟩,
 op 5 (.mov (.c (.i 102)))] [4, 5]) (
 .ret)) (
 .reg [] [1, 2, 4]))) (
 .seq (
 .reg [
 op 6 (.box (.c (.agg [.u 64 0, .u 64 0, .u 64 0, .u 64 0, .u 64 0, .u 64 0, .u 64 0, .u 64 0, .u 64 0])))] [1, 2, 4, 6]) (
 .seq (
 .reg [
 mv 17 1,
 op 18 (.bin .quo (.t 17) (.c (.i 64))),
 mv 19 1,
 op 20 (.bin .rem (.t 19) (.c (.i 64))),
 mv 7 18,
 mv 8 20] [2, 4, 6, 7, 8]) (
 .seq (
 .seq (
 .reg [
 mv 21 7,
 mv 9 21] [2, 4, 6, 7, 8, 9]) (
 .block 0 (
 .loop [2, 4, 6, 7, 8, 9] (
 .seq (
 .seq (
 .reg [
 mv 22 9,
 op 23 (.bin .lss (.t 22) (.c (.i 9)))] [2, 4, 6, 7, 8, 9, 23]) (
 .cond (.t 23) (
 .reg [] [2, 4, 6, 7, 8, 9]) (
 .exit 0 [4, 6]))) (
 .seq (
 .block 1 (
 .seq (
 .reg [
 mv 26 9,
 mv 27 9,
 mv 28 7,
 op 29 (.bin .sub (.t 27) (.t 28)),
 op 30 (.off 0 (.t 2)),
 op 31 (.idx 9 1 (.t 30) (.t 29)),
 op 32 (.ld true none (.t 31)),
 mv 33 8,
 op 34 (.bin .shl (.t 32) (.t 33)),
 op 35 (.off 0 (.t 6)),
 op 36 (.idx 9 1 (.t 35) (.t 26)),
 ⟨none, none, .stl 6 1 (.t 36) (.t 34)⟩] [2, 4, 6, 7, 8, 9]) (
 .seq (
 .reg [
 mv 37 9,
 mv 38 7,
 op 39 (.bin .gtr (.t 37) (.t 38))] [2, 4, 6, 7, 8, 9, 39]) (
 .cond (.t 39) (
 .reg [
 mv 40 9,
 op 41 (.off 0 (.t 6)),
 op 42 (.idx 9 1 (.t 41) (.t 40)),
 op 43 (.ldl 6 none (.t 42)),
 mv 44 9,
 mv 45 7,
 op 46 (.bin .sub (.t 44) (.t 45)),
 op 47 (.bin .sub (.t 46) (.c (.i 1))),
 op 48 (.off 0 (.t 2)),
 op 49 (.idx 9 1 (.t 48) (.t 47)),
 op 50 (.ld true none (.t 49)),
 mv 51 8,
 op 52 (.bin .sub (.c (.i 64)) (.t 51)),
 op 53 (.bin .shr (.t 50) (.t 52)),
 op 54 (.bin .or (.t 43) (.t 53)),
 op 55 (.off 0 (.t 6)),
 op 56 (.idx 9 1 (.t 55) (.t 40)),
 ⟨none, none, .stl 6 1 (.t 56) (.t 54)⟩] [2, 4, 6, 7, 8, 9]) (
 .reg [] [2, 4, 6, 7, 8, 9]))))) (
 .reg [
 mv 24 9,
 op 25 (.bin .add (.t 24) (.c (.i 1))),
 mv 9 25] [2, 4, 6, 7, 8, 9])))))) (
 .seq (
 .reg [
 op 57 (.ldl 6 (some 9) (.t 6)),
 ⟨none, none, .stl 4 9 (.t 4) (.t 57)⟩,
 op 5 (.mov (.c (.i 0)))] [4, 5]) (
 .ret))))))
def m_nat_Shl : MFn := ⟨c_nat_Shl, [.cell 4 (some 9), .tmp 5], 0⟩

/-- curvet/nat.Bit -/
def c_nat_Bit : Stm :=
 .seq (
 .reg [
 op 2 (.boxv (.t 0)),
 op 4 (.mov (.c (.i 0)))] [1, 2]) (
 .seq (
 .seq (
 .reg [
 mv 5 1,
 op 6 (.bin .lss (.t 5) (.c (.i 0))),
 mv 7 6,
 ⟨some 8, (some (7, false)), .mov (.t 1)⟩,
 ⟨some 9, (some (7, false)), .bin .geq (.t 8) (.c (.i 576))⟩,
 op 10 (.pick (.t 7) (.c (.b true)) (.t 9))] [1, 2, 10]) (
 .cond (.t 10) (
 .seq (
 .reg [
 op 4 (.mov (.c (.i 0)))] [4]) (
 .ret)) (
 .reg [] [1, 2]))) (
 .seq (
 .reg [
 mv 11 1,
 op 12 (.bin .quo (.t 11) (.c (.i 64))),
 op 13 (.off 0 (.t 2)),
 op 14 (.idx 9 1 (.t 13) (.t 12)),
 op 15 (.ld true none (.t 14)),
 mv 16 1,
 op 17 (.bin .rem (.t 16) (.c (.i 64))),
 op 18 (.bin .shr (.t 15) (.t 17)),
 op 19 (.bin .and (.t 18) (.c (.u 64 1))),
 op 20 (.cvi (.t 19)),
 mv 4 20] [4]) (
 .ret)))
def m_nat_Bit : MFn := ⟨c_nat_Bit, [.tmp 4], 0⟩

/-- curvet/curvetref1.Wide -/
def c_curvetref1_Wide : Stm :=
 .seq (
 .reg [
 op 2 (.box (.c (.agg [.u 64 0, .u 64 0, .u 64 0, .u 64 0, .u 64 0, .u 64 0, .u 64 0, .u 64 0, .u 64 0, .u 64 0, .u 64 0, .u 64 0, .u 64 0, .u 64 0, .u 64 0, .u 64 0, .u 64 0, .u 64 0])))] [0, 2]) (
 .seq (
 .reg [
 op 3 (.box (.c (.agg [.u 64 0, .u 64 0, .u 64 0, .u 64 0, .u 64 0, .u 64 0, .u 64 0, .u 64 0, .u 64 0, .u 64 0, .u 64 0, .u 64 0, .u 64 0, .u 64 0, .u 64 0, .u 64 0, .u 64 0, .u 64 0])))] [0, 2, 3]) (
 .seq (
 .seq (
 .reg [
 op 4 (.mov (.c (.i 0)))] [0, 2, 3, 4]) (
 .block 0 (
 .loop [0, 2, 3, 4] (
 .seq (
 .seq (
 .reg [
 mv 5 4,
 op 6 (.bin .lss (.t 5) (.c (.i 18)))] [0, 2, 3, 4, 6]) (
 .cond (.t 6) (
 .reg [] [0, 2, 3, 4]) (
 .exit 0 [2, 3]))) (
 .seq (
 .block 1 (
 .reg [
 mv 9 4,
 mv 10 0,
 mv 11 4,
 op 12 (.bin .mul (.c (.i 2)) (.t 11)),
 op 13 (.call f_curvetref1_digit [] [(.t 10), (.t 12)]),
 mv 14 0,
 mv 15 4,
 op 16 (.bin .mul (.c (.i 2)) (.t 15)),
 op 17 (.bin .add (.t 16) (.c (.i 1))),
 op 18 (.call f_curvetref1_digit [] [(.t 14), (.t 17)]),
 op 19 (.bin .shl (.t 18) (.c (.u 64 32))),
 op 20 (.bin .or (.t 13) (.t 19)),
 op 21 (.off 0 (.t 3)),
 op 22 (.idx 18 1 (.t 21) (.t 9)),
 ⟨none, none, .stl 3 1 (.t 22) (.t 20)⟩] [0, 2, 3, 4])) (
 .reg [
 mv 7 4,
 op 8 (.bin .add (.t 7) (.c (.i 1))),
 mv 4 8] [0, 2, 3, 4])))))) (
 .seq (
 .reg [
 op 23 (.ldl 3 (some 18) (.t 3)),
 ⟨none, none, .stl 2 18 (.t 2) (.t 23)⟩] [2]) (
 .ret))))
def m_curvetref1_Wide : MFn := ⟨c_curvetref1_Wide, [.cell 2 (some 18)], 0⟩

/-- curvet/nat.Shr -/
def c_nat_Shr : Stm :=
 .seq (
 .reg [
 op 2 (.boxv (.t 0)),
 op 4 (.box (.c (.agg [.u 64 0, .u 64 0, .u 64 0, .u 64 0, .u 64 0, .u 64 0, .u 64 0, .u 64 0, .u 64 0]))),
 op 5 (.mov (.c (.i 0)))] [1, 2, 4]) (
 .seq (
 .seq (
 .reg [
 mv 10 1,
 op 11 (.bin .lss (.t 10) (.c (.i 0))),
 mv 12 11,
 ⟨some 13, (some (12, false)), .mov (.t 1)⟩,
 ⟨some 14, (some (12, false)), .bin .gtr (.t 13) (.c (.i 576))⟩,
 op 15 (.pick (.t 12) (.c (.b true)) (.t 14))] [1, 2, 4, 15]) (
 .cond (.t 15) (
 .seq (
 .reg [
 op 16 (.build [.u 64 0, .u 64 0, .u 64 0, .u 64 0, .u 64 0, .u 64 0, .u 64 0, .u 64 0, .u 64 0] []),
 ⟨none, none, .stl 4 9 (.t 4) (.t 16)⟩,
 op 5 (.mov (.c (.i 102)))] [4, 5]) (
 .ret)) (
 .reg [] [1, 2, 4]))) (
 .seq (
 .reg [
 op 6 (.box (.c (.agg [.u 64 0, .u 64 0, .u 64 0, .u 64 0, .u 64 0, .u 64 0, .u 64 0, .u 64 0, .u 64 0])))] [1, 2, 4, 6]) (
 .seq (
 .reg [
 mv 17 1,
 op 18 (.bin .quo (.t 17) (.c (.i 64))),
 mv 19 1,
 op 20 (.bin .rem (.t 19) (.c (.i 64))),
 mv 7 18,
 mv 8 20] [2, 4, 6, 7, 8]) (
 .seq (
 .seq (
 .reg [
 mv 21 7,
 op 22 (.bin .sub (.c (.i 9)) (.t 21)),
 op 23 (.mov (.c (.i 0)))] [2, 4, 6, 7, 8, 22, 23]) (
 .block 0 (
 .loop [2, 4, 6, 7, 8, 22, 23] (
 .seq (
 .reg [
 op 24 (.bin .lss (.t 23) (.t 22))] [2, 4, 6, 7, 8, 22, 23, 24]) (
 .seq (
 .cond (.t 24) (
 .reg [] [2, 4, 6, 7, 8, 22, 23]) (
 .exit 0 [4, 6])) (
 .seq (
 .block 1 (
 .seq (
 .reg [
 mv 25 23,
 mv 9 25] [2, 4, 6, 7, 8, 9, 22, 23]) (
 .seq (
 .reg [
 mv 26 9,
 mv 27 9,
 mv 28 7,
 op 29 (.bin .add (.t 27) (.t 28)),
 op 30 (.off 0 (.t 2)),
 op 31 (.idx 9 1 (.t 30) (.t 29)),
 op 32 (.ld true none (.t 31)),
 mv 33 8,
 op 34 (.bin .shr (.t 32) (.t 33)),
 op 35 (.off 0 (.t 6)),
 op 36 (.idx 9 1 (.t 35) (.t 26)),
 ⟨none, none, .stl 6 1 (.t 36) (.t 34)⟩] [2, 4, 6, 7, 8, 9, 22, 23]) (
 .seq (
 .reg [
 mv 37 9,
 mv 38 7,
 op 39 (.bin .add (.t 37) (.t 38)),
 op 40 (.bin .add (.t 39) (.c (.i 1))),
 op 41 (.bin .lss (.t 40) (.c (.i 9)))] [2, 4, 6, 7, 8, 9, 22, 23, 41]) (
 .cond (.t 41) (
 .reg [
 mv 42 9,
 op 43 (.off 0 (.t 6)),
 op 44 (.idx 9 1 (.t 43) (.t 42)),
 op 45 (.ldl 6 none (.t 44)),
 mv 46 9,
 mv 47 7,
 op 48 (.bin .add (.t 46) (.t 47)),
 op 49 (.bin .add (.t 48) (.c (.i 1))),
 op 50 (.off 0 (.t 2)),
 op 51 (.idx 9 1 (.t 50) (.t 49)),
 op 52 (.ld true none (.t 51)),
 mv 53 8,
 op 54 (.bin .sub (.c (.i 64)) (.t 53)),
 op 55 (.bin .shl (.t 52) (.t 54)),
 op 56 (.bin .or (.t 45) (.t 55)),
 op 57 (.off 0 (.t 6)),
 op 58 (.idx 9 1 (.t 57) (.t 42)),
 ⟨none, none, .stl 6 1 (.t 58) (.t 56)⟩] [2, 4, 6, 7, 8, 22, 23]) (
 .reg [] [2, 4, 6, 7, 8, 22, 23])))))) (
 .reg [
 op 59 (.bin .add (.t 23) (.c (.i 1))),
 mv 23 59] [2, 4, 6, 7, 8, 22, 23]))))))) (
 .seq (
 .reg [
 op 60 (.ldl 6 (some 9) (.t 6)),
 ⟨none, none, .stl 4 9 (.t 4) (.t 60)⟩,
 op 5 (.mov (.c (.i 0)))] [4, 5]) (
 .ret))))))
def m_nat_Shr : MFn := ⟨c_nat_Shr, [.cell 4 (some 9), .tmp 5], 0⟩

/-- curvet/curvetref1.Small -/
def c_curvetref1_Small : Stm :=
 .seq (
 .reg [
 op 2 (.mov (.c (.vs 0 [])))] [0]) (
 .seq (
 .seq (
 .reg [
 mv 3 0,
 op 4 (.bin .lss (.t 3) (.c (.i 0)))] [0, 4]) (
 .cond (.t 4) (
 .seq (
 .reg [
 op 2 (.mov (.c (.vs 0 [])))] [2]) (
 .ret)) (
 .reg [] [0]))) (
 .seq (
 .reg [
 mv 5 0,
 op 6 (.cvu 64 (.t 5)),
 op 7 (.bin .and (.t 6) (.c (.u 64 4294967295))),
 op 8 (.cvu 32 (.t 7)),
 mv 9 0,
 op 10 (.cvu 64 (.t 9)),
 op 11 (.bin .shr (.t 10) (.c (.u 64 32))),
 op 12 (.cvu 32 (.t 11)),
 op 13 (.lit true 1 2 [.u 32 0, .u 32 0] [(0, 1, (.t 8)), (1, 1, (.t 12))]),
 op 14 (.call f_curvetref1_trim [] [(.t 13)]),
 mv 2 14] [2]) (
 .ret)))
def m_curvetref1_Small : MFn := ⟨c_curvetref1_Small, [.tmp 2], 0⟩

/-- curvet/divide.PowMod -/
def c_divide_PowMod : Stm :=
 .seq (
 .reg [
 op 3 (.boxv (.t 0)),
 op 4 (.boxv (.t 1)),
 op 5 (.boxv (.t 2)),
 op 6 (.box (.c (.agg [.u 64 0, .u 64 0, .u 64 0, .u 64 0, .u 64 0, .u 64 0, .u 64 0, .u 64 0, .u 64 0]))),
 op 7 (.mov (.c (.i 0)))] [3, 4, 5, 6]) (
 .seq (
 .seq (
 .reg [
 op 8 (.call f_divide_zero [] [(.t 5)])] [3, 4, 5, 6, 8]) (
 .cond (.t 8) (
 .seq (
 .reg [
 op 9 (.build [.u 64 0, .u 64 0, .u 64 0, .u 64 0, .u 64 0, .u 64 0, .u 64 0, .u 64 0, .u 64 0] []),
 ⟨none, none, .stl 6 9 (.t 6) (.t 9)⟩,
 op 7 (.mov (.c (.i 400)))] [6, 7]) (
 .ret)) (
 .reg [] [3, 4, 5, 6]))) (
 .seq (
 .reg [
 op 10 (.ld true (some 9) (.t 5)),
 op 11 (.call f_divide_By [] [(.t 10)]),
 op 12 (.ld true (some 9) (.t 3)),
 op 13 (.ld true (some 9) (.t 4)),
 op 14 (.call f_divide_Modulus_Pow [] [(.t 11), (.t 12), (.t 13)]),
 ⟨none, none, .stl 6 9 (.t 6) (.t 14)⟩,
 op 7 (.mov (.c (.i 0)))] [6, 7]) (
 .ret)))
def m_divide_PowMod : MFn := ⟨c_divide_PowMod, [.cell 6 (some 9), .tmp 7], 0⟩

/-- curvet/curvetref1.PowMod -/
def c_curvetref1_PowMod : Stm :=
 .seq (
 .reg [
 op 6 (.mov (.c (.vs 0 [])))] [0, 1, 2]) (
 .seq (
 .reg [
 op 10 (.lit true 1 1 [.u 32 0] [(0, 1, (.c (.u 32 1)))]),
 mv 11 2,
 op 12 (.call f_curvetref1_Mod [] [(.t 10), (.t 11)]),
 mv 7 12] [0, 1, 2, 7]) (
 .seq (
 .reg [
 mv 13 0,
 mv 14 2,
 op 15 (.call f_curvetref1_Mod [] [(.t 13), (.t 14)]),
 mv 8 15] [1, 2, 7, 8]) (
 .seq (
 .seq (
 .reg [
 mv 16 1,
 op 17 (.call f_curvetref1_Bits [] [(.t 16)]),
 op 18 (.bin .sub (.t 17) (.c (.i 1))),
 mv 9 18] [1, 2, 7, 8, 9]) (
 .block 0 (
 .loop [1, 2, 7, 8, 9] (
 .seq (
 .seq (
 .reg [
 mv 19 9,
 op 20 (.bin .geq (.t 19) (.c (.i 0)))] [1, 2, 7, 8, 9, 20]) (
 .cond (.t 20) (
 .reg [] [1, 2, 7, 8, 9]) (
 .exit 0 [7]))) (
 .seq (
 .block 1 (
 .seq (
 .reg [
 mv 23 7,
 mv 24 7,
 mv 25 2,
 op 26 (.call f_curvetref1_MulMod [] [(.t 23), (.t 24), (.t 25)]),
 mv 7 26] [1, 2, 7, 8, 9]) (
 .seq (
 .reg [
 mv 27 1,
 mv 28 9,
 op 29 (.call f_curvetref1_Bit [] [(.t 27), (.t 28)]),
 op 30 (.bin .eql (.t 29) (.c (.i 1)))] [1, 2, 7, 8, 9, 30]) (
 .cond (.t 30) (
 .reg [
 mv 31 7,
 mv 32 8,
 mv 33 2,
 op 34 (.call f_curvetref1_MulMod [] [(.t 31), (.t 32), (.t 33)]),
 mv 7 34] [1, 2, 7, 8, 9]) (
 .reg [] [1, 2, 7, 8, 9]))))) (
 .reg [
 mv 21 9,
 op 22 (.bin .sub (.t 21) (.c (.i 1))),
 mv 9 22] [1, 2, 7, 8, 9])))))) (
 .seq (
 .reg [
 mv 35 7,
 mv 6 35] [6]) (
 .ret)))))
def m_curvetref1_PowMod : MFn := ⟨c_curvetref1_PowMod, [.tmp 6], 0⟩

/-- curvet/divide.Mod -/
def c_divide_Mod : Stm :=
 .seq (
 .reg [
 op 2 (.boxv (.t 0)),
 op 3 (.boxv (.t 1)),
 op 4 (.box (.c (.agg [.u 64 0, .u 64 0, .u 64 0, .u 64 0, .u 64 0, .u 64 0, .u 64 0, .u 64 0, .u 64 0]))),
 op 5 (.mov (.c (.i 0)))] [2, 3, 4]) (
 .seq (
 .seq (
 .reg [
 op 8 (.call f_divide_zero [] [(.t 3)])] [2, 3, 4, 8]) (
 .cond (.t 8) (
 .seq (
 .reg [
 op 9 (.build [.u 64 0, .u 64 0, .u 64 0, .u 64 0, .u 64 0, .u 64 0, .u 64 0, .u 64 0, .u 64 0] []),
 ⟨none, none, .stl 4 9 (.t 4) (.t 9)⟩,
 op 5 (.mov (.c (.i 400)))] [4, 5]) (
 .ret)) (
 .reg [] [2, 3, 4]))) (
 .seq (
 .reg [
 op 11 (.call f_divide_of [] [(.t 3)]),
 op 12 (.off 0 (.t 2)),
 op 13 (.sla true 18 1 (.t 12) none none),
 op 14 (.call f_divide_divisor_divide [] [(.t 11), (.t 13)]),
 mv 10 14,
 op 15 (.ext 0 (.t 10)),
 op 16 (.ext 1 (.t 10)),
 op 6 (.box (.c (.agg [.u 64 0, .u 64 0, .u 64 0, .u 64 0, .u 64 0, .u 64 0, .u 64 0, .u 64 0, .u 64 0, .u 64 0, .u 64 0, .u 64 0, .u 64 0, .u 64 0, .u 64 0, .u 64 0, .u 64 0, .u 64 0]))),
 op 7 (.box (.c (.agg [.u 64 0, .u 64 0, .u 64 0, .u 64 0, .u 64 0, .u 64 0, .u 64 0, .u 64 0, .u 64 0]))),
 ⟨none, none, .stl 6 18 (.t 6) (.t 15)⟩,
 ⟨none, none, .stl 7 9 (.t 7) (.t 16)⟩] [4, 7]) (
 .seq (
 .reg [
 op 17 (.ldl 7 (some 9) (.t 7)),
 ⟨none, none, .stl 4 9 (.t 4) (.t 17)⟩,
 op 5 (.mov (.c (.i 0)))] [4, 5]) (
 .ret))))
def m_divide_Mod : MFn := ⟨c_divide_Mod, [.cell 4 (some 9), .tmp 5], 0⟩

/-- curvet/curvetref1.Of -/
def c_curvetref1_Of : Stm :=
 .seq (
 .reg [
 op 1 (.boxv (.t 0)),
 op 2 (.mov (.c (.vs 0 [])))] [1]) (
 .seq (
 .reg [
 op 5 (.mks 1 4 [.u 32 0] (.c (.i 36)) (.c (.i 36))),
 mv 3 5] [1, 3]) (
 .seq (
 .seq (
 .reg [
 op 4 (.mov (.c (.i 0)))] [1, 3, 4]) (
 .block 0 (
 .loop [1, 3, 4] (
 .seq (
 .seq (
 .reg [
 mv 6 4,
 op 7 (.bin .lss (.t 6) (.c (.i 18)))] [1, 3, 4, 7]) (
 .cond (.t 7) (
 .reg [] [1, 3, 4]) (
 .exit 0 [3]))) (
 .seq (
 .block 1 (
 .seq (
 .reg [
 mv 10 3,
 mv 11 4,
 op 12 (.bin .mul (.c (.i 2)) (.t 11)),
 mv 13 4,
 op 14 (.off 0 (.t 1)),
 op 15 (.idx 18 1 (.t 14) (.t 13)),
 op 16 (.ld true none (.t 15)),
 op 17 (.bin .and (.t 16) (.c (.u 64 4294967295))),
 op 18 (.cvu 32 (.t 17)),
 op 19 (.idxs 1 (.t 10) (.t 12)),
 ⟨none, none, .st 1 (.t 19) (.t 18)⟩] [1, 3, 4]) (
 .reg [
 mv 20 3,
 mv 21 4,
 op 22 (.bin .mul (.c (.i 2)) (.t 21)),
 op 23 (.bin .add (.t 22) (.c (.i 1))),
 mv 24 4,
 op 25 (.off 0 (.t 1)),
 op 26 (.idx 18 1 (.t 25) (.t 24)),
 op 27 (.ld true none (.t 26)),
 op 28 (.bin .shr (.t 27) (.c (.u 64 32))),
 op 29 (.cvu 32 (.t 28)),
 op 30 (.idxs 1 (.t 20) (.t 23)),
 ⟨none, none, .st 1 (.t 30) (.t 29)⟩] [1, 3, 4]))) (
 .reg [
 mv 8 4,
 op 9 (.bin .add (.t 8) (.c (.i 1))),
 mv 4 9] [1, 3, 4])))))) (
 .seq (
 .reg [
 mv 31 3,
 op 32 (.call f_curvetref1_trim [] [(.t 31)]),
 mv 2 32] [2]) (
 .ret))))
def m_curvetref1_Of : MFn := ⟨c_curvetref1_Of, [.tmp 2], 0⟩

/-- (curvet/divide.Modulus).Pow -/
def c_divide_Modulus_Pow : Stm :=
 .seq (
 .reg [
 op 3 (.boxv (.t 0)),
 op 4 (.boxv (.t 1)),
 op 5 (.boxv (.t 2)),
 op 6 (.box (.c (.agg [.u 64 0, .u 64 0, .u 64 0, .u 64 0, .u 64 0, .u 64 0, .u 64 0, .u 64 0, .u 64 0])))] [3, 4, 5, 6]) (
 .seq (
 .reg [
 op 9 (.ld true (some 1) (.t 3)),
 op 10 (.call f_nat_Small [] [(.c (.i 1))]),
 op 11 (.call f_nat_Small [] [(.c (.i 1))]),
 op 12 (.call f_divide_Modulus_Mul [] [(.t 9), (.t 10), (.t 11)]),
 op 7 (.box (.c (.agg [.u 64 0, .u 64 0, .u 64 0, .u 64 0, .u 64 0, .u 64 0, .u 64 0, .u 64 0, .u 64 0]))),
 ⟨none, none, .stl 7 9 (.t 7) (.t 12)⟩] [3, 4, 5, 6, 7]) (
 .seq (
 .seq (
 .reg [
 op 13 (.ld true (some 9) (.t 5)),
 op 14 (.call f_nat_Bits [] [(.t 13)]),
 op 15 (.bin .sub (.t 14) (.c (.i 1))),
 mv 8 15] [3, 4, 5, 6, 7, 8]) (
 .block 0 (
 .loop [3, 4, 5, 6, 7, 8] (
 .seq (
 .seq (
 .reg [
 mv 16 8,
 op 17 (.bin .geq (.t 16) (.c (.i 0)))] [3, 4, 5, 6, 7, 8, 17]) (
 .cond (.t 17) (
 .reg [] [3, 4, 5, 6, 7, 8]) (
 .exit 0 [6, 7]))) (
 .seq (
 .block 1 (
 .seq (
 .reg [
 op 20 (.ld true (some 1) (.t 3)),
 op 21 (.ldl 7 (some 9) (.t 7)),
 op 22 (.ldl 7 (some 9) (.t 7)),
 op 23 (.call f_divide_Modulus_Mul [] [(.t 20), (.t 21), (.t 22)]),
 ⟨none, none, .stl 7 9 (.t 7) (.t 23)⟩] [3, 4, 5, 6, 7, 8]) (
 .seq (
 .reg [
 op 24 (.ld true (some 9) (.t 5)),
 mv 25 8,
 op 26 (.call f_nat_Bit [] [(.t 24), (.t 25)]),
 op 27 (.bin .eql (.t 26) (.c (.i 1)))] [3, 4, 5, 6, 7, 8, 27]) (
 .cond (.t 27) (
 .reg [
 op 28 (.ld true (some 1) (.t 3)),
 op 29 (.ldl 7 (some 9) (.t 7)),
 op 30 (.ld true (some 9) (.t 4)),
 op 31 (.call f_divide_Modulus_Mul [] [(.t 28), (.t 29), (.t 30)]),
 ⟨none, none, .stl 7 9 (.t 7) (.t 31)⟩] [3, 4, 5, 6, 7, 8]) (
 .reg [] [3, 4, 5, 6, 7, 8]))))) (
 .reg [
 mv 18 8,
 op 19 (.bin .sub (.t 18) (.c (.i 1))),
 mv 8 19] [3, 4, 5, 6, 7, 8])))))) (
 .seq (
 .reg [
 op 32 (.ldl 7 (some 9) (.t 7)),
 ⟨none, none, .stl 6 9 (.t 6) (.t 32)⟩] [6]) (
 .ret))))
def m_divide_Modulus_Pow : MFn := ⟨c_divide_Modulus_Pow, [.cell 6 (some 9)], 0⟩

def tab : List (Nat × MFn) := [
 (f_curvetlaw6_MontBack, m_curvetlaw6_MontBack),
 (f_curvetlaw6_MontTiny, m_curvetlaw6_MontTiny),
 (f_curvetlaw6_MontShares, m_curvetlaw6_MontShares),
 (f_curvetlaw6_Monts, m_curvetlaw6_Monts),
 (f_curvetlaw6_MontOnes, m_curvetlaw6_MontOnes),
 (f_curvetlaw6_awake, m_curvetlaw6_awake),
 (f_mont_New, m_mont_New),
 (f_curvetlaw0_Num, m_curvetlaw0_Num),
 (f_curvetref1_From, m_curvetref1_From),
 (f_curvetref1_Nat, m_curvetref1_Nat),
 (f_curvetref1_Mod, m_curvetref1_Mod),
 (f_mont_Mont_To, m_mont_Mont_To),
 (f_mont_Mont_Mul, m_mont_Mont_Mul),
 (f_mont_Mont_From, m_mont_Mont_From),
 (f_curvetref1_MulMod, m_curvetref1_MulMod),
 (f_curvetlaw0_One, m_curvetlaw0_One),
 (f_mont_Mont_Words, m_mont_Mont_Words),
 (f_curvetlaw0_Nat, m_curvetlaw0_Nat),
 (f_divide_Div, m_divide_Div),
 (f_divide_MulMod, m_divide_MulMod),
 (f_curvetlaw6_add, m_curvetlaw6_add),
 (f_curvetref1_Bit, m_curvetref1_Bit),
 (f_curvetref1_Cmp, m_curvetref1_Cmp),
 (f_curvetref1_Bits, m_curvetref1_Bits),
 (f_mont_Mont_Inv, m_mont_Mont_Inv),
 (f_curvetref1_Shl, m_curvetref1_Shl),
 (f_curvetref1_Inverse, m_curvetref1_Inverse),
 (f_divide_Inverse, m_divide_Inverse),
 (f_nat_Cmp, m_nat_Cmp),
 (f_nat_Small, m_nat_Small),
 (f_nat_Bits, m_nat_Bits),
 (f_divide_By, m_divide_By),
 (f_divide_Modulus_Mul, m_divide_Modulus_Mul),
 (f_divide_Modulus_Rest, m_divide_Modulus_Rest),
 (f_curvetref1_trim, m_curvetref1_trim),
 (f_curvetref1_digit, m_curvetref1_digit),
 (f_curvetref1_Div, m_curvetref1_Div),
 (f_mont_Mont_may, m_mont_Mont_may),
 (f_mont_Mont_Raw, m_mont_Mont_Raw),
 (f_curvetref1_Mul, m_curvetref1_Mul),
 (f_divide_zero, m_divide_zero),
 (f_divide_of, m_divide_of),
 (f_divide_divisor_divide, m_divide_divisor_divide),
 (f_curvetref1_SubMod, m_curvetref1_SubMod),
 (f_nat_Sub, m_nat_Sub),
 (f_nat_Add, m_nat_Add),
 (f_nat_used, m_nat_used),
 (f_bits_Len64, m_bits_Len64),
 (f_nat_Mul, m_nat_Mul),
 (f_divide_length, m_divide_length),
 (f_curvetref1_short, m_curvetref1_short),
 (f_curvetref1_step, m_curvetref1_step),
 (f_curvetref1_Shr, m_curvetref1_Shr),
 (f_mont_Mont_round, m_mont_Mont_round),
 (f_bits_LeadingZeros64, m_bits_LeadingZeros64),
 (f_divide_divisor_guess, m_divide_divisor_guess),
 (f_divide_divisor_take, m_divide_divisor_take),
 (f_divide_divisor_back, m_divide_divisor_back),
 (f_curvetref1_Sub, m_curvetref1_Sub),
 (f_curvetref1_Add, m_curvetref1_Add),
 (f_bits_Mul64, m_bits_Mul64),
 (f_bits_Div64, m_bits_Div64),
 (f_nat_Of, m_nat_Of),
 (f_nat_Bytes, m_nat_Bytes),
 (f_curvetref1_Bytes, m_curvetref1_Bytes),
 (f_curvetref1_Read, m_curvetref1_Read),
 (f_nat_Shl, m_nat_Shl),
 (f_nat_Bit, m_nat_Bit),
 (f_curvetref1_Wide, m_curvetref1_Wide),
 (f_nat_Shr, m_nat_Shr),
 (f_curvetref1_Small, m_curvetref1_Small),
 (f_divide_PowMod, m_divide_PowMod),
 (f_curvetref1_PowMod, m_curvetref1_PowMod),
 (f_divide_Mod, m_divide_Mod),
 (f_curvetref1_Of, m_curvetref1_Of),
 (f_divide_Modulus_Pow, m_divide_Modulus_Pow)]
def look (f : Nat) : List (Nat × MFn) → Option MFn
 | [] => none
 | (g, m) :: r => bif Nat.beq g f then some m else look f r
def T (f : Nat) : Option MFn := look f tab
end Mir
