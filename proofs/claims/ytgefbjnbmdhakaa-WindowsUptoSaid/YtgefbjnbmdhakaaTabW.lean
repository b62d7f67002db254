/- The functions of the cut, written down in the small language. Conditions: none. -/
import Derived.Test.YtgefbjnbmdhakaaLim
set_option maxRecDepth 100000
namespace Mir

abbrev f_curvetlaw17_Windows : Nat := 99
abbrev f_curvetlaw17_WindowBack : Nat := 100
abbrev f_curvetlaw17_WindowWidths : Nat := 101
abbrev f_curvetlaw17_WindowOnes : Nat := 102
abbrev f_curvetlaw17_WindowShifts : Nat := 103
abbrev f_window_Digits : Nat := 104
abbrev f_curvetref13_Digits : Nat := 105
abbrev f_curvetref1_From : Nat := 14
abbrev f_curvetlaw0_LendInts : Nat := 106
abbrev f_window_Value : Nat := 107
abbrev f_curvetref13_Value : Nat := 108
abbrev f_curvetlaw0_SameInts : Nat := 109
abbrev f_curvetlaw0_Num : Nat := 15
abbrev f_curvetref1_Nat : Nat := 17
abbrev f_curvetlaw0_KeptInts : Nat := 110
abbrev f_curvetlaw0_SpoilInts : Nat := 111
abbrev f_curvetlaw17_awake : Nat := 112
abbrev f_curvetref1_Bits : Nat := 32
abbrev f_curvetlaw0_Nat : Nat := 20
abbrev f_nat_Bit : Nat := 27
abbrev f_nat_Shl : Nat := 26
abbrev f_nat_Add : Nat := 21
abbrev f_curvetlaw0_One : Nat := 24
abbrev f_window_wide : Nat := 113
abbrev f_nat_Bits : Nat := 19
abbrev f_nat_Shr : Nat := 36
abbrev f_curvetref1_Shr : Nat := 40
abbrev f_curvetref1_trim : Nat := 42
abbrev f_curvetlaw0_CopyInts : Nat := 114
abbrev f_curvetref1_Add : Nat := 28
abbrev f_curvetref1_Shl : Nat := 31
abbrev f_curvetref1_Small : Nat := 39
abbrev f_curvetref1_digit : Nat := 41
abbrev f_nat_used : Nat := 43
abbrev f_bits_Len64 : Nat := 44
abbrev f_nat_Of : Nat := 11
abbrev f_nat_Bytes : Nat := 12
abbrev f_curvetref1_Bytes : Nat := 13
abbrev f_curvetref1_Read : Nat := 18
abbrev f_nat_Mul : Nat := 23
abbrev f_nat_Sub : Nat := 25
abbrev f_curvetref1_Cmp : Nat := 29
abbrev f_curvetref1_Sub : Nat := 30
abbrev f_curvetref1_Wide : Nat := 33
abbrev f_curvetref1_Mul : Nat := 34
abbrev f_nat_Cmp : Nat := 35
abbrev f_curvetref1_Bit : Nat := 37
abbrev f_nat_Small : Nat := 38
abbrev f_bits_Mul64 : Nat := 45

/-- curvet/curvetlaw17.Windows -/
def c_curvetlaw17_Windows : Stm :=
 .seq (
 .reg [
 op 4 (.boxv (.t 0)),
 op 8 (.mov (.c (.b false)))] [1, 2, 3, 4]) (
 .seq (
 .reg [
 op 21 (.ld true (some 9) (.t 4)),
 mv 22 1,
 mv 23 2,
 op 24 (.callo f_window_Digits [(.t 21), (.t 22), (.t 23)]),
 mv 20 24,
 op 25 (.ext 0 (.t 20)),
 op 26 (.ext 1 (.t 20)),
 mv 9 25,
 mv 10 26] [1, 2, 3, 4, 9, 10]) (
 .seq (
 .reg [
 op 28 (.ld true (some 9) (.t 4)),
 mv 29 1,
 mv 30 2,
 op 31 (.callo f_window_Digits [(.t 28), (.t 29), (.t 30)]),
 mv 27 31,
 op 32 (.ext 0 (.t 27)),
 op 33 (.ext 1 (.t 27)),
 mv 11 32,
 mv 12 33] [1, 2, 3, 4, 9, 10, 11, 12]) (
 .seq (
 .reg [
 op 35 (.ld true (some 9) (.t 4)),
 op 36 (.call f_curvetref1_From [] [(.t 35)]),
 mv 37 1,
 mv 38 2,
 op 39 (.call f_curvetref13_Digits [] [(.t 36), (.t 37), (.t 38)]),
 mv 34 39,
 op 40 (.ext 0 (.t 34)),
 op 41 (.ext 1 (.t 34)),
 mv 13 40,
 mv 14 41] [2, 3, 9, 10, 11, 12, 13, 14]) (
 .seq (
 .reg [
 mv 42 3,
 op 43 (.callo f_curvetlaw0_LendInts [(.t 42)]),
 mv 15 43] [2, 3, 9, 10, 11, 12, 13, 14, 15]) (
 .seq (
 .reg [
 mv 45 15,
 mv 46 2,
 op 47 (.call f_window_Value [] [(.t 45), (.t 46)]),
 mv 44 47,
 op 48 (.ext 0 (.t 44)),
 op 49 (.ext 1 (.t 44)),
 op 16 (.box (.c (.agg [.u 64 0, .u 64 0, .u 64 0, .u 64 0, .u 64 0, .u 64 0, .u 64 0, .u 64 0, .u 64 0]))),
 ⟨none, none, .stl 16 9 (.t 16) (.t 48)⟩,
 mv 17 49] [2, 3, 9, 10, 11, 12, 13, 14, 15, 16, 17]) (
 .seq (
 .reg [
 mv 51 3,
 mv 52 2,
 op 53 (.call f_curvetref13_Value [] [(.t 51), (.t 52)]),
 mv 50 53,
 op 54 (.ext 0 (.t 50)),
 op 55 (.ext 1 (.t 50)),
 mv 18 54,
 mv 19 55] [3, 9, 10, 11, 12, 13, 14, 15, 16, 17, 18, 19]) (
 .seq (
 .seq (
 .reg [
 mv 56 9,
 mv 57 13,
 op 58 (.call f_curvetlaw0_SameInts [] [(.t 56), (.t 57)]),
 op 59 (.un .not (.t 58)),
 mv 60 59,
 ⟨some 61, (some (60, false)), .mov (.t 10)⟩,
 ⟨some 62, (some (60, false)), .call f_curvetlaw0_Num [] [(.t 61)]⟩,
 ⟨some 63, (some (60, false)), .mov (.t 14)⟩,
 ⟨some 64, (some (60, false)), .bin .neq (.t 62) (.t 63)⟩,
 op 65 (.pick (.t 60) (.c (.b true)) (.t 64)),
 mv 66 65,
 ⟨some 67, (some (66, false)), .mov (.t 12)⟩,
 ⟨some 68, (some (66, false)), .call f_curvetlaw0_Num [] [(.t 67)]⟩,
 ⟨some 69, (some (66, false)), .mov (.t 14)⟩,
 ⟨some 70, (some (66, false)), .bin .neq (.t 68) (.t 69)⟩,
 op 71 (.pick (.t 66) (.c (.b true)) (.t 70)),
 mv 72 71,
 ⟨some 73, (some (72, false)), .mov (.t 17)⟩,
 ⟨some 74, (some (72, false)), .call f_curvetlaw0_Num [] [(.t 73)]⟩,
 ⟨some 75, (some (72, false)), .mov (.t 19)⟩,
 ⟨some 76, (some (72, false)), .bin .neq (.t 74) (.t 75)⟩,
 op 77 (.pick (.t 72) (.c (.b true)) (.t 76)),
 mv 78 77,
 ⟨some 79, (some (78, false)), .mov (.t 19)⟩,
 ⟨some 80, (some (78, false)), .bin .eql (.t 79) (.c (.i 0))⟩,
 ⟨some 81, (some (78, false)), .mov (.t 80)⟩,
 ⟨some 82, (some (81, true)), .ldl 16 (some 9) (.t 16)⟩,
 ⟨some 83, (some (81, true)), .mov (.t 18)⟩,
 ⟨some 84, (some (81, true)), .call f_curvetref1_Nat [] [(.t 83)]⟩,
 ⟨some 85, (some (81, true)), .eqv (.agg [.u 64, .u 64, .u 64, .u 64, .u 64, .u 64, .u 64, .u 64, .u 64]) true (.t 82) (.t 84)⟩,
 ⟨some 86, (some (78, false)), .pick (.t 81) (.t 85) (.c (.b false))⟩,
 op 87 (.pick (.t 78) (.c (.b true)) (.t 86)),
 mv 88 87,
 ⟨some 89, (some (88, false)), .mov (.t 19)⟩,
 ⟨some 90, (some (88, false)), .bin .neq (.t 89) (.c (.i 0))⟩,
 ⟨some 91, (some (88, false)), .mov (.t 90)⟩,
 ⟨some 92, (some (91, true)), .ldl 16 (some 9) (.t 16)⟩,
 ⟨some 93, (some (91, true)), .build [.u 64 0, .u 64 0, .u 64 0, .u 64 0, .u 64 0, .u 64 0, .u 64 0, .u 64 0, .u 64 0] []⟩,
 ⟨some 94, (some (91, true)), .eqv (.agg [.u 64, .u 64, .u 64, .u 64, .u 64, .u 64, .u 64, .u 64, .u 64]) true (.t 92) (.t 93)⟩,
 ⟨some 95, (some (88, false)), .pick (.t 91) (.t 94) (.c (.b false))⟩,
 op 96 (.pick (.t 88) (.c (.b true)) (.t 95)),
 mv 97 96,
 ⟨some 98, (some (97, false)), .mov (.t 15)⟩,
 ⟨some 99, (some (97, false)), .mov (.t 3)⟩,
 ⟨some 100, (some (97, false)), .call f_curvetlaw0_KeptInts [] [(.t 98), (.t 99)]⟩,
 ⟨some 101, (some (97, false)), .un .not (.t 100)⟩,
 op 102 (.pick (.t 97) (.c (.b true)) (.t 101))] [9, 11, 13, 102]) (
 .cond (.t 102) (
 .seq (
 .reg [
 op 8 (.mov (.c (.b false)))] [8]) (
 .ret)) (
 .reg [] [9, 11, 13]))) (
 .seq (
 .reg [
 mv 103 9,
 op 104 (.call f_curvetlaw0_SpoilInts [] [(.t 103)])] [11, 13]) (
 .seq (
 .reg [
 mv 105 11,
 mv 106 13,
 op 107 (.call f_curvetlaw0_SameInts [] [(.t 105), (.t 106)]),
 mv 108 107,
 ⟨some 109, (some (108, true)), .call f_curvetlaw17_awake [] []⟩,
 op 110 (.pick (.t 108) (.t 109) (.c (.b false))),
 mv 8 110] [8]) (
 .ret))))))))))
def m_curvetlaw17_Windows : MFn := ⟨c_curvetlaw17_Windows, [.tmp 8], 0⟩

/-- curvet/curvetlaw17.WindowBack -/
def c_curvetlaw17_WindowBack : Stm :=
 .seq (
 .reg [
 op 3 (.boxv (.t 0)),
 op 6 (.mov (.c (.b false)))] [1, 2, 3]) (
 .seq (
 .seq (
 .reg [
 op 15 (.call f_curvetlaw17_awake [] []),
 op 16 (.un .not (.t 15))] [1, 2, 3, 16]) (
 .cond (.t 16) (
 .seq (
 .reg [
 op 6 (.mov (.c (.b false)))] [6]) (
 .ret)) (
 .reg [] [1, 2, 3]))) (
 .seq (
 .reg [
 mv 17 1,
 op 18 (.cvu 64 (.t 17)),
 op 19 (.bin .rem (.t 18) (.c (.u 64 6))),
 op 20 (.cvi (.t 19)),
 op 21 (.bin .add (.c (.i 1)) (.t 20)),
 mv 7 21] [2, 3, 7]) (
 .seq (
 .reg [
 op 22 (.ld true (some 9) (.t 3)),
 op 23 (.call f_curvetref1_From [] [(.t 22)]),
 op 24 (.call f_curvetref1_Bits [] [(.t 23)]),
 mv 8 24] [2, 3, 7, 8]) (
 .seq (
 .reg [
 mv 25 8,
 mv 26 2,
 op 27 (.bin .and (.t 26) (.c (.i 63))),
 op 28 (.bin .add (.t 25) (.t 27)),
 op 29 (.mn (.c (.i 576)) (.t 28)),
 mv 9 29] [3, 7, 9]) (
 .seq (
 .seq (
 .reg [
 mv 30 9,
 op 31 (.bin .eql (.t 30) (.c (.i 0)))] [3, 7, 9, 31]) (
 .cond (.t 31) (
 .reg [
 op 9 (.mov (.c (.i 1)))] [3, 7, 9]) (
 .reg [] [3, 7, 9]))) (
 .seq (
 .reg [
 op 33 (.ld true (some 9) (.t 3)),
 mv 34 9,
 mv 35 7,
 op 36 (.callo f_window_Digits [(.t 33), (.t 34), (.t 35)]),
 mv 32 36,
 op 37 (.ext 0 (.t 32)),
 op 38 (.ext 1 (.t 32)),
 mv 10 37,
 mv 11 38] [3, 7, 9, 10, 11]) (
 .seq (
 .reg [
 mv 40 10,
 mv 41 7,
 op 42 (.call f_window_Value [] [(.t 40), (.t 41)]),
 mv 39 42,
 op 43 (.ext 0 (.t 39)),
 op 44 (.ext 1 (.t 39)),
 op 12 (.box (.c (.agg [.u 64 0, .u 64 0, .u 64 0, .u 64 0, .u 64 0, .u 64 0, .u 64 0, .u 64 0, .u 64 0]))),
 ⟨none, none, .stl 12 9 (.t 12) (.t 43)⟩,
 mv 13 44] [3, 7, 9, 10, 11, 12, 13]) (
 .seq (
 .seq (
 .reg [
 op 14 (.mov (.c (.i 0)))] [3, 7, 9, 10, 11, 12, 13, 14]) (
 .block 0 (
 .loop [3, 7, 9, 10, 11, 12, 13, 14] (
 .seq (
 .seq (
 .reg [
 mv 45 14,
 mv 46 10,
 op 47 (.len (.t 46)),
 op 48 (.bin .lss (.t 45) (.t 47))] [3, 7, 9, 10, 11, 12, 13, 14, 48]) (
 .cond (.t 48) (
 .reg [] [3, 7, 9, 10, 11, 12, 13, 14]) (
 .exit 0 [3, 7, 9, 10, 11, 12, 13]))) (
 .seq (
 .block 1 (
 .seq (
 .reg [
 mv 51 10,
 mv 52 14,
 op 53 (.idxs 1 (.t 51) (.t 52)),
 op 54 (.ld false none (.t 53)),
 op 55 (.bin .lss (.t 54) (.c (.i 0))),
 mv 56 55,
 ⟨some 57, (some (56, false)), .mov (.t 10)⟩,
 ⟨some 58, (some (56, false)), .mov (.t 14)⟩,
 ⟨some 59, (some (56, false)), .idxs 1 (.t 57) (.t 58)⟩,
 ⟨some 60, (some (56, false)), .ld false none (.t 59)⟩,
 ⟨some 61, (some (56, false)), .mov (.t 7)⟩,
 ⟨some 62, (some (56, false)), .bin .shl (.c (.i 1)) (.t 61)⟩,
 ⟨some 63, (some (56, false)), .bin .geq (.t 60) (.t 62)⟩,
 op 64 (.pick (.t 56) (.c (.b true)) (.t 63))] [3, 7, 9, 10, 11, 12, 13, 14, 64]) (
 .cond (.t 64) (
 .seq (
 .reg [
 op 6 (.mov (.c (.b false)))] [6]) (
 .ret)) (
 .reg [] [3, 7, 9, 10, 11, 12, 13, 14])))) (
 .reg [
 mv 49 14,
 op 50 (.bin .add (.t 49) (.c (.i 1))),
 mv 14 50] [3, 7, 9, 10, 11, 12, 13, 14])))))) (
 .seq (
 .reg [
 mv 65 11,
 op 66 (.call f_curvetlaw0_Num [] [(.t 65)]),
 op 67 (.bin .eql (.t 66) (.c (.i 0))),
 mv 68 67,
 ⟨some 69, (some (68, true)), .mov (.t 13)⟩,
 ⟨some 70, (some (68, true)), .call f_curvetlaw0_Num [] [(.t 69)]⟩,
 ⟨some 71, (some (68, true)), .bin .eql (.t 70) (.c (.i 0))⟩,
 op 72 (.pick (.t 68) (.t 71) (.c (.b false))),
 mv 73 72,
 ⟨some 74, (some (73, true)), .ldl 12 (some 9) (.t 12)⟩,
 ⟨some 75, (some (73, true)), .ld true (some 9) (.t 3)⟩,
 ⟨some 76, (some (73, true)), .eqv (.agg [.u 64, .u 64, .u 64, .u 64, .u 64, .u 64, .u 64, .u 64, .u 64]) false (.t 74) (.t 75)⟩,
 op 77 (.pick (.t 73) (.t 76) (.c (.b false))),
 mv 78 77,
 ⟨some 79, (some (78, true)), .mov (.t 10)⟩,
 ⟨some 80, (some (78, true)), .len (.t 79)⟩,
 ⟨some 81, (some (78, true)), .mov (.t 9)⟩,
 ⟨some 82, (some (78, true)), .mov (.t 7)⟩,
 ⟨some 83, (some (78, true)), .bin .add (.t 81) (.t 82)⟩,
 ⟨some 84, (some (78, true)), .bin .sub (.t 83) (.c (.i 1))⟩,
 ⟨some 85, (some (78, true)), .mov (.t 7)⟩,
 ⟨some 86, (some (78, true)), .bin .quo (.t 84) (.t 85)⟩,
 ⟨some 87, (some (78, true)), .bin .eql (.t 80) (.t 86)⟩,
 op 88 (.pick (.t 78) (.t 87) (.c (.b false))),
 mv 6 88] [6]) (
 .ret))))))))))
def m_curvetlaw17_WindowBack : MFn := ⟨c_curvetlaw17_WindowBack, [.tmp 6], 0⟩

/-- curvet/curvetlaw17.WindowWidths -/
def c_curvetlaw17_WindowWidths : Stm :=
 .seq (
 .reg [
 op 3 (.boxv (.t 0)),
 op 6 (.mov (.c (.b false)))] [1, 2, 3]) (
 .seq (
 .seq (
 .reg [
 op 15 (.call f_curvetlaw17_awake [] []),
 op 16 (.un .not (.t 15))] [1, 2, 3, 16]) (
 .cond (.t 16) (
 .seq (
 .reg [
 op 6 (.mov (.c (.b false)))] [6]) (
 .ret)) (
 .reg [] [1, 2, 3]))) (
 .seq (
 .reg [
 mv 17 1,
 op 18 (.cvu 64 (.t 17)),
 op 19 (.bin .rem (.t 18) (.c (.u 64 3))),
 op 20 (.cvi (.t 19)),
 op 21 (.bin .add (.c (.i 1)) (.t 20)),
 mv 7 21] [2, 3, 7]) (
 .seq (
 .reg [
 mv 22 7,
 op 23 (.bin .mul (.c (.i 2)) (.t 22)),
 mv 24 2,
 op 25 (.cvu 64 (.t 24)),
 op 26 (.bin .rem (.t 25) (.c (.u 64 40))),
 op 27 (.cvi (.t 26)),
 op 28 (.bin .add (.c (.i 1)) (.t 27)),
 op 29 (.bin .mul (.t 23) (.t 28)),
 mv 8 29] [3, 7, 8]) (
 .seq (
 .reg [
 op 30 (.off 0 (.t 3)),
 op 31 (.ld true (some 9) (.t 30)),
 mv 32 8,
 op 33 (.call f_curvetlaw0_Nat [] [(.t 31), (.t 32)]),
 op 9 (.box (.c (.agg [.u 64 0, .u 64 0, .u 64 0, .u 64 0, .u 64 0, .u 64 0, .u 64 0, .u 64 0, .u 64 0]))),
 ⟨none, none, .stl 9 9 (.t 9) (.t 33)⟩] [7, 8, 9]) (
 .seq (
 .reg [
 op 35 (.ldl 9 (some 9) (.t 9)),
 mv 36 8,
 mv 37 7,
 op 38 (.callo f_window_Digits [(.t 35), (.t 36), (.t 37)]),
 mv 34 38,
 op 39 (.ext 0 (.t 34)),
 op 40 (.ext 1 (.t 34)),
 mv 10 39,
 mv 11 40] [7, 8, 9, 10, 11]) (
 .seq (
 .reg [
 op 42 (.ldl 9 (some 9) (.t 9)),
 mv 43 8,
 mv 44 7,
 op 45 (.bin .mul (.c (.i 2)) (.t 44)),
 op 46 (.callo f_window_Digits [(.t 42), (.t 43), (.t 45)]),
 mv 41 46,
 op 47 (.ext 0 (.t 41)),
 op 48 (.ext 1 (.t 41)),
 mv 12 47,
 mv 13 48] [7, 10, 11, 12, 13]) (
 .seq (
 .seq (
 .reg [
 mv 49 11,
 op 50 (.call f_curvetlaw0_Num [] [(.t 49)]),
 op 51 (.bin .neq (.t 50) (.c (.i 0))),
 mv 52 51,
 ⟨some 53, (some (52, false)), .mov (.t 13)⟩,
 ⟨some 54, (some (52, false)), .call f_curvetlaw0_Num [] [(.t 53)]⟩,
 ⟨some 55, (some (52, false)), .bin .neq (.t 54) (.c (.i 0))⟩,
 op 56 (.pick (.t 52) (.c (.b true)) (.t 55)),
 mv 57 56,
 ⟨some 58, (some (57, false)), .mov (.t 10)⟩,
 ⟨some 59, (some (57, false)), .len (.t 58)⟩,
 ⟨some 60, (some (57, false)), .mov (.t 12)⟩,
 ⟨some 61, (some (57, false)), .len (.t 60)⟩,
 ⟨some 62, (some (57, false)), .bin .mul (.c (.i 2)) (.t 61)⟩,
 ⟨some 63, (some (57, false)), .bin .neq (.t 59) (.t 62)⟩,
 op 64 (.pick (.t 57) (.c (.b true)) (.t 63))] [7, 10, 12, 64]) (
 .cond (.t 64) (
 .seq (
 .reg [
 op 6 (.mov (.c (.b false)))] [6]) (
 .ret)) (
 .reg [] [7, 10, 12]))) (
 .seq (
 .seq (
 .reg [
 op 14 (.mov (.c (.i 0)))] [7, 10, 12, 14]) (
 .block 0 (
 .loop [7, 10, 12, 14] (
 .seq (
 .seq (
 .reg [
 mv 65 14,
 mv 66 12,
 op 67 (.len (.t 66)),
 op 68 (.bin .lss (.t 65) (.t 67))] [7, 10, 12, 14, 68]) (
 .cond (.t 68) (
 .reg [] [7, 10, 12, 14]) (
 .exit 0 []))) (
 .seq (
 .block 1 (
 .seq (
 .reg [
 mv 71 12,
 mv 72 14,
 op 73 (.idxs 1 (.t 71) (.t 72)),
 op 74 (.ld false none (.t 73)),
 mv 75 10,
 mv 76 14,
 op 77 (.bin .mul (.c (.i 2)) (.t 76)),
 op 78 (.idxs 1 (.t 75) (.t 77)),
 op 79 (.ld false none (.t 78)),
 mv 80 7,
 op 81 (.bin .shl (.t 79) (.t 80)),
 mv 82 10,
 mv 83 14,
 op 84 (.bin .mul (.c (.i 2)) (.t 83)),
 op 85 (.bin .add (.t 84) (.c (.i 1))),
 op 86 (.idxs 1 (.t 82) (.t 85)),
 op 87 (.ld false none (.t 86)),
 op 88 (.bin .add (.t 81) (.t 87)),
 op 89 (.bin .neq (.t 74) (.t 88))] [7, 10, 12, 14, 89]) (
 .cond (.t 89) (
 .seq (
 .reg [
 op 6 (.mov (.c (.b false)))] [6]) (
 .ret)) (
 .reg [] [7, 10, 12, 14])))) (
 .reg [
 mv 69 14,
 op 70 (.bin .add (.t 69) (.c (.i 1))),
 mv 14 70] [7, 10, 12, 14])))))) (
 .seq (
 .reg [
 op 6 (.mov (.c (.b true)))] [6]) (
 .ret))))))))))
def m_curvetlaw17_WindowWidths : MFn := ⟨c_curvetlaw17_WindowWidths, [.tmp 6], 0⟩

/-- curvet/curvetlaw17.WindowOnes -/
def c_curvetlaw17_WindowOnes : Stm :=
 .seq (
 .reg [
 op 2 (.boxv (.t 0)),
 op 4 (.mov (.c (.b false)))] [1, 2]) (
 .seq (
 .seq (
 .reg [
 op 16 (.call f_curvetlaw17_awake [] []),
 op 17 (.un .not (.t 16))] [1, 2, 17]) (
 .cond (.t 17) (
 .seq (
 .reg [
 op 4 (.mov (.c (.b false)))] [4]) (
 .ret)) (
 .reg [] [1, 2]))) (
 .seq (
 .reg [
 mv 18 1,
 op 19 (.cvu 64 (.t 18)),
 op 20 (.bin .rem (.t 19) (.c (.u 64 576))),
 op 21 (.cvi (.t 20)),
 op 22 (.bin .add (.c (.i 1)) (.t 21)),
 mv 5 22] [2, 5]) (
 .seq (
 .reg [
 op 23 (.off 0 (.t 2)),
 op 24 (.ld true (some 9) (.t 23)),
 mv 25 5,
 op 26 (.call f_curvetlaw0_Nat [] [(.t 24), (.t 25)]),
 op 6 (.box (.c (.agg [.u 64 0, .u 64 0, .u 64 0, .u 64 0, .u 64 0, .u 64 0, .u 64 0, .u 64 0, .u 64 0]))),
 ⟨none, none, .stl 6 9 (.t 6) (.t 26)⟩] [5, 6]) (
 .seq (
 .reg [
 op 28 (.ldl 6 (some 9) (.t 6)),
 mv 29 5,
 op 30 (.callo f_window_Digits [(.t 28), (.t 29), (.c (.i 1))]),
 mv 27 30,
 op 31 (.ext 0 (.t 27)),
 op 32 (.ext 1 (.t 27)),
 mv 7 31,
 mv 8 32] [5, 6, 7, 8]) (
 .seq (
 .seq (
 .reg [
 mv 33 8,
 op 34 (.call f_curvetlaw0_Num [] [(.t 33)]),
 op 35 (.bin .neq (.t 34) (.c (.i 0))),
 mv 36 35,
 ⟨some 37, (some (36, false)), .mov (.t 7)⟩,
 ⟨some 38, (some (36, false)), .len (.t 37)⟩,
 ⟨some 39, (some (36, false)), .mov (.t 5)⟩,
 ⟨some 40, (some (36, false)), .bin .neq (.t 38) (.t 39)⟩,
 op 41 (.pick (.t 36) (.c (.b true)) (.t 40))] [5, 6, 7, 41]) (
 .cond (.t 41) (
 .seq (
 .reg [
 op 4 (.mov (.c (.b false)))] [4]) (
 .ret)) (
 .reg [] [5, 6, 7]))) (
 .seq (
 .seq (
 .reg [
 op 9 (.mov (.c (.i 0)))] [5, 6, 7, 9]) (
 .block 0 (
 .loop [5, 6, 7, 9] (
 .seq (
 .seq (
 .reg [
 mv 42 9,
 mv 43 5,
 op 44 (.bin .lss (.t 42) (.t 43))] [5, 6, 7, 9, 44]) (
 .cond (.t 44) (
 .reg [] [5, 6, 7, 9]) (
 .exit 0 [5, 6]))) (
 .seq (
 .block 1 (
 .seq (
 .reg [
 mv 47 7,
 mv 48 5,
 op 49 (.bin .sub (.t 48) (.c (.i 1))),
 mv 50 9,
 op 51 (.bin .sub (.t 49) (.t 50)),
 op 52 (.idxs 1 (.t 47) (.t 51)),
 op 53 (.ld true none (.t 52)),
 op 54 (.ldl 6 (some 9) (.t 6)),
 mv 55 9,
 op 56 (.call f_nat_Bit [] [(.t 54), (.t 55)]),
 op 57 (.bin .neq (.t 53) (.t 56))] [5, 6, 7, 9, 57]) (
 .cond (.t 57) (
 .seq (
 .reg [
 op 4 (.mov (.c (.b false)))] [4]) (
 .ret)) (
 .reg [] [5, 6, 7, 9])))) (
 .reg [
 mv 45 9,
 op 46 (.bin .add (.t 45) (.c (.i 1))),
 mv 9 46] [5, 6, 7, 9])))))) (
 .seq (
 .reg [
 op 59 (.ldl 6 (some 9) (.t 6)),
 op 60 (.callo f_window_Digits [(.t 59), (.c (.i 0)), (.c (.i 1))]),
 mv 58 60,
 op 61 (.ext 0 (.t 58)),
 op 62 (.ext 1 (.t 58)),
 mv 10 61,
 mv 11 62] [5, 6, 11]) (
 .seq (
 .reg [
 op 64 (.ldl 6 (some 9) (.t 6)),
 mv 65 5,
 op 66 (.callo f_window_Digits [(.t 64), (.t 65), (.c (.i 7))]),
 mv 63 66,
 op 67 (.ext 0 (.t 63)),
 op 68 (.ext 1 (.t 63)),
 mv 12 67,
 mv 13 68] [6, 11, 13]) (
 .seq (
 .reg [
 op 70 (.ldl 6 (some 9) (.t 6)),
 op 71 (.callo f_window_Digits [(.t 70), (.c (.i 577)), (.c (.i 1))]),
 mv 69 71,
 op 72 (.ext 0 (.t 69)),
 op 73 (.ext 1 (.t 69)),
 mv 14 72,
 mv 15 73] [11, 13, 15]) (
 .seq (
 .reg [
 mv 74 11,
 op 75 (.call f_curvetlaw0_Num [] [(.t 74)]),
 op 76 (.bin .eql (.t 75) (.c (.i 1700))),
 mv 77 76,
 ⟨some 78, (some (77, true)), .mov (.t 13)⟩,
 ⟨some 79, (some (77, true)), .call f_curvetlaw0_Num [] [(.t 78)]⟩,
 ⟨some 80, (some (77, true)), .bin .eql (.t 79) (.c (.i 1700))⟩,
 op 81 (.pick (.t 77) (.t 80) (.c (.b false))),
 mv 82 81,
 ⟨some 83, (some (82, true)), .mov (.t 15)⟩,
 ⟨some 84, (some (82, true)), .call f_curvetlaw0_Num [] [(.t 83)]⟩,
 ⟨some 85, (some (82, true)), .bin .eql (.t 84) (.c (.i 1700))⟩,
 op 86 (.pick (.t 82) (.t 85) (.c (.b false))),
 mv 4 86] [4]) (
 .ret)))))))))))
def m_curvetlaw17_WindowOnes : MFn := ⟨c_curvetlaw17_WindowOnes, [.tmp 4], 0⟩

/-- curvet/curvetlaw17.WindowShifts -/
def c_curvetlaw17_WindowShifts : Stm :=
 .seq (
 .reg [
 op 3 (.boxv (.t 0)),
 op 6 (.mov (.c (.b false)))] [1, 2, 3]) (
 .seq (
 .seq (
 .reg [
 op 21 (.call f_curvetlaw17_awake [] []),
 op 22 (.un .not (.t 21))] [1, 2, 3, 22]) (
 .cond (.t 22) (
 .seq (
 .reg [
 op 6 (.mov (.c (.b false)))] [6]) (
 .ret)) (
 .reg [] [1, 2, 3]))) (
 .seq (
 .reg [
 mv 23 1,
 op 24 (.cvu 64 (.t 23)),
 op 25 (.bin .rem (.t 24) (.c (.u 64 6))),
 op 26 (.cvi (.t 25)),
 op 27 (.bin .add (.c (.i 1)) (.t 26)),
 mv 7 27] [2, 3, 7]) (
 .seq (
 .reg [
 op 28 (.off 0 (.t 3)),
 op 29 (.ld true (some 9) (.t 28)),
 op 30 (.call f_curvetlaw0_Nat [] [(.t 29), (.c (.i 500))]),
 op 8 (.box (.c (.agg [.u 64 0, .u 64 0, .u 64 0, .u 64 0, .u 64 0, .u 64 0, .u 64 0, .u 64 0, .u 64 0]))),
 ⟨none, none, .stl 8 9 (.t 8) (.t 30)⟩] [2, 7, 8]) (
 .seq (
 .reg [
 op 32 (.ldl 8 (some 9) (.t 8)),
 mv 33 7,
 op 34 (.callo f_window_Digits [(.t 32), (.c (.i 500)), (.t 33)]),
 mv 31 34,
 op 35 (.ext 0 (.t 31)),
 op 36 (.ext 1 (.t 31)),
 mv 9 35,
 mv 10 36] [2, 7, 8, 9, 10]) (
 .seq (
 .reg [
 mv 37 2,
 mv 38 7,
 op 39 (.bin .shl (.c (.i 1)) (.t 38)),
 op 40 (.bin .sub (.t 39) (.c (.i 1))),
 op 41 (.bin .and (.t 37) (.t 40)),
 mv 11 41] [7, 8, 9, 10, 11]) (
 .seq (
 .reg [
 op 42 (.lit false 1 0 [] []),
 mv 43 9,
 op 44 (.app 1 8 (.t 42) (.t 43)),
 mv 12 44] [7, 8, 10, 11, 12]) (
 .seq (
 .reg [
 mv 45 12,
 mv 46 11,
 op 47 (.lit true 1 1 [.i 0] [(0, 1, (.t 46))]),
 op 48 (.app 1 8 (.t 45) (.t 47)),
 mv 12 48] [7, 8, 10, 11, 12]) (
 .seq (
 .reg [
 mv 50 12,
 mv 51 7,
 op 52 (.call f_window_Value [] [(.t 50), (.t 51)]),
 mv 49 52,
 op 53 (.ext 0 (.t 49)),
 op 54 (.ext 1 (.t 49)),
 op 13 (.box (.c (.agg [.u 64 0, .u 64 0, .u 64 0, .u 64 0, .u 64 0, .u 64 0, .u 64 0, .u 64 0, .u 64 0]))),
 ⟨none, none, .stl 13 9 (.t 13) (.t 53)⟩,
 mv 14 54] [7, 8, 10, 11, 13, 14]) (
 .seq (
 .reg [
 op 56 (.ldl 8 (some 9) (.t 8)),
 mv 57 7,
 op 58 (.call f_nat_Shl [] [(.t 56), (.t 57)]),
 mv 55 58,
 op 59 (.ext 0 (.t 55)),
 op 60 (.ext 1 (.t 55)),
 op 15 (.box (.c (.agg [.u 64 0, .u 64 0, .u 64 0, .u 64 0, .u 64 0, .u 64 0, .u 64 0, .u 64 0, .u 64 0]))),
 ⟨none, none, .stl 15 9 (.t 15) (.t 59)⟩,
 mv 16 60] [7, 10, 11, 13, 14, 15, 16]) (
 .seq (
 .reg [
 op 62 (.ldl 15 (some 9) (.t 15)),
 mv 63 11,
 op 64 (.cvu 64 (.t 63)),
 op 65 (.call f_curvetlaw0_One [] [(.t 64)]),
 op 66 (.call f_nat_Add [] [(.t 62), (.t 65)]),
 mv 61 66,
 op 67 (.ext 0 (.t 61)),
 op 68 (.ext 1 (.t 61)),
 op 17 (.box (.c (.agg [.u 64 0, .u 64 0, .u 64 0, .u 64 0, .u 64 0, .u 64 0, .u 64 0, .u 64 0, .u 64 0]))),
 ⟨none, none, .stl 17 9 (.t 17) (.t 67)⟩,
 mv 18 68] [7, 10, 13, 14, 16, 17]) (
 .seq (
 .reg [
 mv 70 7,
 op 71 (.call f_window_Value [] [(.c (.nils)), (.t 70)]),
 mv 69 71,
 op 72 (.ext 0 (.t 69)),
 op 73 (.ext 1 (.t 69)),
 op 19 (.box (.c (.agg [.u 64 0, .u 64 0, .u 64 0, .u 64 0, .u 64 0, .u 64 0, .u 64 0, .u 64 0, .u 64 0]))),
 ⟨none, none, .stl 19 9 (.t 19) (.t 72)⟩,
 mv 20 73] [10, 13, 14, 16, 17, 19, 20]) (
 .seq (
 .reg [
 mv 74 10,
 op 75 (.call f_curvetlaw0_Num [] [(.t 74)]),
 op 76 (.bin .eql (.t 75) (.c (.i 0))),
 mv 77 76,
 ⟨some 78, (some (77, true)), .mov (.t 14)⟩,
 ⟨some 79, (some (77, true)), .call f_curvetlaw0_Num [] [(.t 78)]⟩,
 ⟨some 80, (some (77, true)), .bin .eql (.t 79) (.c (.i 0))⟩,
 op 81 (.pick (.t 77) (.t 80) (.c (.b false))),
 mv 82 81,
 ⟨some 83, (some (82, true)), .mov (.t 16)⟩,
 ⟨some 84, (some (82, true)), .call f_curvetlaw0_Num [] [(.t 83)]⟩,
 ⟨some 85, (some (82, true)), .bin .eql (.t 84) (.c (.i 0))⟩,
 op 86 (.pick (.t 82) (.t 85) (.c (.b false))),
 mv 87 86,
 ⟨some 88, (some (87, true)), .mov (.t 20)⟩,
 ⟨some 89, (some (87, true)), .call f_curvetlaw0_Num [] [(.t 88)]⟩,
 ⟨some 90, (some (87, true)), .bin .eql (.t 89) (.c (.i 0))⟩,
 op 91 (.pick (.t 87) (.t 90) (.c (.b false))),
 mv 92 91,
 ⟨some 93, (some (92, true)), .ldl 13 (some 9) (.t 13)⟩,
 ⟨some 94, (some (92, true)), .ldl 17 (some 9) (.t 17)⟩,
 ⟨some 95, (some (92, true)), .eqv (.agg [.u 64, .u 64, .u 64, .u 64, .u 64, .u 64, .u 64, .u 64, .u 64]) false (.t 93) (.t 94)⟩,
 op 96 (.pick (.t 92) (.t 95) (.c (.b false))),
 mv 97 96,
 ⟨some 98, (some (97, true)), .ldl 19 (some 9) (.t 19)⟩,
 ⟨some 99, (some (97, true)), .build [.u 64 0, .u 64 0, .u 64 0, .u 64 0, .u 64 0, .u 64 0, .u 64 0, .u 64 0, .u 64 0] []⟩,
 ⟨some 100, (some (97, true)), .eqv (.agg [.u 64, .u 64, .u 64, .u 64, .u 64, .u 64, .u 64, .u 64, .u 64]) false (.t 98) (.t 99)⟩,
 op 101 (.pick (.t 97) (.t 100) (.c (.b false))),
 mv 6 101] [6]) (
 .ret)))))))))))))
def m_curvetlaw17_WindowShifts : MFn := ⟨c_curvetlaw17_WindowShifts, [.tmp 6], 0⟩

/-- curvet/window.Digits -/
def c_window_Digits : Stm :=
 .seq (
 .reg [
 op 3 (.boxv (.t 0)),
 op 6 (.mov (.c (.nils))),
 op 7 (.mov (.c (.i 0)))] [1, 2, 3]) (
 .seq (
 .seq (
 .reg [
 mv 12 2,
 op 13 (.call f_window_wide [] [(.t 12)]),
 op 14 (.un .not (.t 13)),
 mv 15 14,
 ⟨some 16, (some (15, false)), .mov (.t 1)⟩,
 ⟨some 17, (some (15, false)), .bin .lss (.t 16) (.c (.i 1))⟩,
 op 18 (.pick (.t 15) (.c (.b true)) (.t 17)),
 mv 19 18,
 ⟨some 20, (some (19, false)), .mov (.t 1)⟩,
 ⟨some 21, (some (19, false)), .bin .gtr (.t 20) (.c (.i 576))⟩,
 op 22 (.pick (.t 19) (.c (.b true)) (.t 21)),
 mv 23 22,
 ⟨some 24, (some (23, false)), .ld true (some 9) (.t 3)⟩,
 ⟨some 25, (some (23, false)), .call f_nat_Bits [] [(.t 24)]⟩,
 ⟨some 26, (some (23, false)), .mov (.t 1)⟩,
 ⟨some 27, (some (23, false)), .bin .gtr (.t 25) (.t 26)⟩,
 op 28 (.pick (.t 23) (.c (.b true)) (.t 27))] [1, 2, 3, 28]) (
 .cond (.t 28) (
 .seq (
 .reg [
 op 6 (.mov (.c (.nils))),
 op 7 (.mov (.c (.i 1700)))] [6, 7]) (
 .ret)) (
 .reg [] [1, 2, 3]))) (
 .seq (
 .reg [
 op 8 (.mov (.c (.nils)))] [1, 2, 3, 8]) (
 .seq (
 .seq (
 .reg [
 mv 29 1,
 mv 30 2,
 op 31 (.bin .add (.t 29) (.t 30)),
 op 32 (.bin .sub (.t 31) (.c (.i 1))),
 mv 33 2,
 op 34 (.bin .quo (.t 32) (.t 33)),
 op 35 (.bin .sub (.t 34) (.c (.i 1))),
 mv 9 35] [2, 3, 8, 9]) (
 .block 0 (
 .loop [2, 3, 8, 9] (
 .seq (
 .seq (
 .reg [
 mv 36 9,
 op 37 (.bin .geq (.t 36) (.c (.i 0)))] [2, 3, 8, 9, 37]) (
 .cond (.t 37) (
 .reg [] [2, 3, 8, 9]) (
 .exit 0 [8]))) (
 .seq (
 .block 1 (
 .seq (
 .reg [
 op 41 (.ld true (some 9) (.t 3)),
 mv 42 9,
 mv 43 2,
 op 44 (.bin .mul (.t 42) (.t 43)),
 op 45 (.mn (.t 44) (.c (.i 576))),
 op 46 (.call f_nat_Shr [] [(.t 41), (.t 45)]),
 mv 40 46,
 op 47 (.ext 0 (.t 40)),
 op 48 (.ext 1 (.t 40)),
 op 10 (.box (.c (.agg [.u 64 0, .u 64 0, .u 64 0, .u 64 0, .u 64 0, .u 64 0, .u 64 0, .u 64 0, .u 64 0]))),
 ⟨none, none, .stl 10 9 (.t 10) (.t 47)⟩,
 mv 11 48] [2, 3, 8, 9, 10]) (
 .reg [
 mv 49 8,
 op 50 (.off 0 (.t 10)),
 op 51 (.idx 9 1 (.t 50) (.c (.i 0))),
 op 52 (.ldl 10 none (.t 51)),
 mv 53 2,
 op 54 (.bin .shl (.c (.u 64 1)) (.t 53)),
 op 55 (.bin .sub (.t 54) (.c (.u 64 1))),
 op 56 (.bin .and (.t 52) (.t 55)),
 op 57 (.cvi (.t 56)),
 op 58 (.lit true 1 1 [.i 0] [(0, 1, (.t 57))]),
 op 59 (.app 1 8 (.t 49) (.t 58)),
 mv 8 59] [2, 3, 8, 9]))) (
 .reg [
 mv 38 9,
 op 39 (.bin .sub (.t 38) (.c (.i 1))),
 mv 9 39] [2, 3, 8, 9])))))) (
 .seq (
 .reg [
 mv 60 8,
 mv 6 60,
 op 7 (.mov (.c (.i 0)))] [6, 7]) (
 .ret)))))
def m_window_Digits : MFn := ⟨c_window_Digits, [.tmp 6, .tmp 7], 1⟩

/-- curvet/curvetref13.Digits -/
def c_curvetref13_Digits : Stm :=
 .seq (
 .reg [
 op 6 (.mov (.c (.vs 0 []))),
 op 7 (.mov (.c (.i 0)))] [0, 1, 2]) (
 .seq (
 .seq (
 .reg [
 mv 12 2,
 op 13 (.bin .lss (.t 12) (.c (.i 1))),
 mv 14 13,
 ⟨some 15, (some (14, false)), .mov (.t 2)⟩,
 ⟨some 16, (some (14, false)), .bin .gtr (.t 15) (.c (.i 6))⟩,
 op 17 (.pick (.t 14) (.c (.b true)) (.t 16)),
 mv 18 17,
 ⟨some 19, (some (18, false)), .mov (.t 1)⟩,
 ⟨some 20, (some (18, false)), .bin .lss (.t 19) (.c (.i 1))⟩,
 op 21 (.pick (.t 18) (.c (.b true)) (.t 20)),
 mv 22 21,
 ⟨some 23, (some (22, false)), .mov (.t 1)⟩,
 ⟨some 24, (some (22, false)), .bin .gtr (.t 23) (.c (.i 576))⟩,
 op 25 (.pick (.t 22) (.c (.b true)) (.t 24)),
 mv 26 25,
 ⟨some 27, (some (26, false)), .mov (.t 0)⟩,
 ⟨some 28, (some (26, false)), .call f_curvetref1_Bits [] [(.t 27)]⟩,
 ⟨some 29, (some (26, false)), .mov (.t 1)⟩,
 ⟨some 30, (some (26, false)), .bin .gtr (.t 28) (.t 29)⟩,
 op 31 (.pick (.t 26) (.c (.b true)) (.t 30))] [0, 1, 2, 31]) (
 .cond (.t 31) (
 .seq (
 .reg [
 op 6 (.mov (.c (.vs 0 []))),
 op 7 (.mov (.c (.i 1700)))] [6, 7]) (
 .ret)) (
 .reg [] [0, 1, 2]))) (
 .seq (
 .reg [
 mv 32 1,
 mv 33 2,
 op 34 (.bin .add (.t 32) (.t 33)),
 op 35 (.bin .sub (.t 34) (.c (.i 1))),
 mv 36 2,
 op 37 (.bin .quo (.t 35) (.t 36)),
 mv 8 37] [0, 2, 8]) (
 .seq (
 .reg [
 mv 38 8,
 op 39 (.mks 1 8 [.i 0] (.t 38) (.t 38)),
 mv 9 39] [0, 2, 8, 9]) (
 .seq (
 .seq (
 .reg [
 op 10 (.mov (.c (.i 0)))] [0, 2, 8, 9, 10]) (
 .block 0 (
 .loop [0, 2, 8, 9, 10] (
 .seq (
 .seq (
 .reg [
 mv 40 10,
 mv 41 8,
 op 42 (.bin .lss (.t 40) (.t 41))] [0, 2, 8, 9, 10, 42]) (
 .cond (.t 42) (
 .reg [] [0, 2, 8, 9, 10]) (
 .exit 0 [9]))) (
 .seq (
 .block 1 (
 .seq (
 .reg [
 mv 45 0,
 mv 46 2,
 mv 47 10,
 op 48 (.bin .mul (.t 46) (.t 47)),
 op 49 (.call f_curvetref1_Shr [] [(.t 45), (.t 48)]),
 mv 11 49] [0, 2, 8, 9, 10, 11]) (
 .seq (
 .reg [
 mv 50 11,
 op 51 (.len (.t 50)),
 op 52 (.bin .gtr (.t 51) (.c (.i 0)))] [0, 2, 8, 9, 10, 11, 52]) (
 .cond (.t 52) (
 .reg [
 mv 53 9,
 mv 54 8,
 op 55 (.bin .sub (.t 54) (.c (.i 1))),
 mv 56 10,
 op 57 (.bin .sub (.t 55) (.t 56)),
 mv 58 11,
 op 59 (.idxs 1 (.t 58) (.c (.i 0))),
 op 60 (.ld false none (.t 59)),
 mv 61 2,
 op 62 (.bin .shl (.c (.u 32 1)) (.t 61)),
 op 63 (.bin .sub (.t 62) (.c (.u 32 1))),
 op 64 (.bin .and (.t 60) (.t 63)),
 op 65 (.cvi (.t 64)),
 op 66 (.idxs 1 (.t 53) (.t 57)),
 ⟨none, none, .st 1 (.t 66) (.t 65)⟩] [0, 2, 8, 9, 10]) (
 .reg [] [0, 2, 8, 9, 10]))))) (
 .reg [
 mv 43 10,
 op 44 (.bin .add (.t 43) (.c (.i 1))),
 mv 10 44] [0, 2, 8, 9, 10])))))) (
 .seq (
 .reg [
 mv 67 9,
 mv 6 67,
 op 7 (.mov (.c (.i 0)))] [6, 7]) (
 .ret))))))
def m_curvetref13_Digits : MFn := ⟨c_curvetref13_Digits, [.tmp 6, .tmp 7], 0⟩

/-- curvet/curvetref1.From -/
def c_curvetref1_From : Stm :=
 .seq (
 .reg [
 op 1 (.boxv (.t 0)),
 op 2 (.mov (.c (.vs 0 [])))] [1]) (
 .seq (
 .reg [
 op 5 (.mks 1 4 [.u 32 0] (.c (.i 18)) (.c (.i 18))),
 mv 3 5] [1, 3]) (
 .seq (
 .seq (
 .reg [
 op 4 (.mov (.c (.i 0)))] [1, 3, 4]) (
 .block 0 (
 .loop [1, 3, 4] (
 .seq (
 .seq (
 .reg [
 mv 6 4,
 op 7 (.bin .lss (.t 6) (.c (.i 9)))] [1, 3, 4, 7]) (
 .cond (.t 7) (
 .reg [] [1, 3, 4]) (
 .exit 0 [3]))) (
 .seq (
 .block 1 (
 .seq (
 .reg [
 mv 10 3,
 mv 11 4,
 op 12 (.bin .mul (.c (.i 2)) (.t 11)),
 mv 13 4,
 op 14 (.off 0 (.t 1)),
 op 15 (.idx 9 1 (.t 14) (.t 13)),
 op 16 (.ld true none (.t 15)),
 op 17 (.bin .and (.t 16) (.c (.u 64 4294967295))),
 op 18 (.cvu 32 (.t 17)),
 op 19 (.idxs 1 (.t 10) (.t 12)),
 ⟨none, none, .st 1 (.t 19) (.t 18)⟩] [1, 3, 4]) (
 .reg [
 mv 20 3,
 mv 21 4,
 op 22 (.bin .mul (.c (.i 2)) (.t 21)),
 op 23 (.bin .add (.t 22) (.c (.i 1))),
 mv 24 4,
 op 25 (.off 0 (.t 1)),
 op 26 (.idx 9 1 (.t 25) (.t 24)),
 op 27 (.ld true none (.t 26)),
 op 28 (.bin .shr (.t 27) (.c (.u 64 32))),
 op 29 (.cvu 32 (.t 28)),
 op 30 (.idxs 1 (.t 20) (.t 23)),
 ⟨none, none, .st 1 (.t 30) (.t 29)⟩] [1, 3, 4]))) (
 .reg [
 mv 8 4,
 op 9 (.bin .add (.t 8) (.c (.i 1))),
 mv 4 9] [1, 3, 4])))))) (
 .seq (
 .reg [
 mv 31 3,
 op 32 (.call f_curvetref1_trim [] [(.t 31)]),
 mv 2 32] [2]) (
 .ret))))
def m_curvetref1_From : MFn := ⟨c_curvetref1_From, [.tmp 2], 0⟩

/-- curvet/curvetlaw0.LendInts -/
def c_curvetlaw0_LendInts : Stm :=
 .seq (
 .reg [
 op 2 (.mov (.c (.nils)))] [0]) (
 .seq (
 .reg [
 mv 4 0,
 op 5 (.callo f_curvetlaw0_CopyInts [(.t 4)]),
 op 6 (.lit true 1 2 [.i 0, .i 0] [(0, 1, (.c (.i (-7777)))), (1, 1, (.c (.i (-8888))))]),
 op 7 (.app 1 8 (.t 5) (.t 6)),
 mv 3 7] [0, 3]) (
 .seq (
 .reg [
 mv 8 3,
 mv 9 0,
 op 10 (.len (.t 9)),
 op 11 (.slv 1 (.t 8) none (some (.t 10))),
 mv 2 11] [2]) (
 .ret)))
def m_curvetlaw0_LendInts : MFn := ⟨c_curvetlaw0_LendInts, [.tmp 2], 1⟩

/-- curvet/window.Value -/
def c_window_Value : Stm :=
 .seq (
 .reg [
 op 4 (.box (.c (.agg [.u 64 0, .u 64 0, .u 64 0, .u 64 0, .u 64 0, .u 64 0, .u 64 0, .u 64 0, .u 64 0]))),
 op 5 (.mov (.c (.i 0)))] [0, 1, 4]) (
 .seq (
 .seq (
 .reg [
 mv 10 1,
 op 11 (.call f_window_wide [] [(.t 10)]),
 op 12 (.un .not (.t 11))] [0, 1, 4, 12]) (
 .cond (.t 12) (
 .seq (
 .reg [
 op 13 (.build [.u 64 0, .u 64 0, .u 64 0, .u 64 0, .u 64 0, .u 64 0, .u 64 0, .u 64 0, .u 64 0] []),
 ⟨none, none, .stl 4 9 (.t 4) (.t 13)⟩,
 op 5 (.mov (.c (.i 1700)))] [4, 5]) (
 .ret)) (
 .reg [] [0, 1, 4]))) (
 .seq (
 .reg [
 op 6 (.box (.c (.agg [.u 64 0, .u 64 0, .u 64 0, .u 64 0, .u 64 0, .u 64 0, .u 64 0, .u 64 0, .u 64 0])))] [0, 1, 4, 6]) (
 .seq (
 .reg [
 op 7 (.mov (.c (.b true)))] [0, 1, 4, 6, 7]) (
 .seq (
 .seq (
 .reg [
 mv 14 0,
 op 15 (.len (.t 14)),
 op 16 (.mov (.c (.i 0)))] [1, 4, 6, 7, 14, 15, 16]) (
 .block 0 (
 .loop [1, 4, 6, 7, 14, 15, 16] (
 .seq (
 .reg [
 op 17 (.bin .lss (.t 16) (.t 15))] [1, 4, 6, 7, 14, 15, 16, 17]) (
 .seq (
 .cond (.t 17) (
 .reg [] [1, 4, 6, 7, 14, 15, 16]) (
 .exit 0 [4, 6, 7])) (
 .seq (
 .block 1 (
 .seq (
 .reg [
 op 18 (.idxs 1 (.t 14) (.t 16)),
 op 19 (.ld false none (.t 18)),
 mv 9 19] [1, 4, 6, 7, 9, 14, 15, 16]) (
 .seq (
 .seq (
 .reg [
 mv 20 9,
 op 21 (.bin .lss (.t 20) (.c (.i 0))),
 mv 22 21,
 ⟨some 23, (some (22, false)), .mov (.t 9)⟩,
 ⟨some 24, (some (22, false)), .mov (.t 1)⟩,
 ⟨some 25, (some (22, false)), .bin .shl (.c (.i 1)) (.t 24)⟩,
 ⟨some 26, (some (22, false)), .bin .geq (.t 23) (.t 25)⟩,
 op 27 (.pick (.t 22) (.c (.b true)) (.t 26))] [1, 4, 6, 7, 9, 14, 15, 16, 27]) (
 .cond (.t 27) (
 .seq (
 .reg [
 op 28 (.build [.u 64 0, .u 64 0, .u 64 0, .u 64 0, .u 64 0, .u 64 0, .u 64 0, .u 64 0, .u 64 0] []),
 ⟨none, none, .stl 4 9 (.t 4) (.t 28)⟩,
 op 5 (.mov (.c (.i 1700)))] [4, 5]) (
 .ret)) (
 .reg [] [1, 4, 6, 7, 9, 14, 15, 16]))) (
 .seq (
 .reg [
 mv 29 7,
 mv 30 29,
 ⟨some 31, (some (30, true)), .ldl 6 (some 9) (.t 6)⟩,
 ⟨some 32, (some (30, true)), .call f_nat_Bits [] [(.t 31)]⟩,
 ⟨some 33, (some (30, true)), .mov (.t 1)⟩,
 ⟨some 34, (some (30, true)), .bin .sub (.c (.i 576)) (.t 33)⟩,
 ⟨some 35, (some (30, true)), .bin .leq (.t 32) (.t 34)⟩,
 op 36 (.pick (.t 30) (.t 35) (.c (.b false))),
 mv 7 36] [1, 4, 6, 7, 9, 14, 15, 16]) (
 .seq (
 .reg [
 op 38 (.ldl 6 (some 9) (.t 6)),
 mv 39 1,
 op 40 (.call f_nat_Shl [] [(.t 38), (.t 39)]),
 mv 37 40,
 op 41 (.ext 0 (.t 37)),
 op 42 (.ext 1 (.t 37)),
 ⟨none, none, .stl 6 9 (.t 6) (.t 41)⟩] [1, 4, 6, 7, 9, 14, 15, 16]) (
 .reg [
 op 43 (.off 0 (.t 6)),
 op 44 (.idx 9 1 (.t 43) (.c (.i 0))),
 op 45 (.ldl 6 none (.t 44)),
 mv 46 9,
 op 47 (.cvu 64 (.t 46)),
 op 48 (.bin .or (.t 45) (.t 47)),
 op 49 (.off 0 (.t 6)),
 op 50 (.idx 9 1 (.t 49) (.c (.i 0))),
 ⟨none, none, .stl 6 1 (.t 50) (.t 48)⟩] [1, 4, 6, 7, 14, 15, 16])))))) (
 .reg [
 op 51 (.bin .add (.t 16) (.c (.i 1))),
 mv 16 51] [1, 4, 6, 7, 14, 15, 16]))))))) (
 .seq (
 .seq (
 .reg [
 mv 52 7,
 op 53 (.un .not (.t 52))] [4, 6, 53]) (
 .cond (.t 53) (
 .seq (
 .reg [
 op 54 (.build [.u 64 0, .u 64 0, .u 64 0, .u 64 0, .u 64 0, .u 64 0, .u 64 0, .u 64 0, .u 64 0] []),
 ⟨none, none, .stl 4 9 (.t 4) (.t 54)⟩,
 op 5 (.mov (.c (.i 1700)))] [4, 5]) (
 .ret)) (
 .reg [] [4, 6]))) (
 .seq (
 .reg [
 op 55 (.ldl 6 (some 9) (.t 6)),
 ⟨none, none, .stl 4 9 (.t 4) (.t 55)⟩,
 op 5 (.mov (.c (.i 0)))] [4, 5]) (
 .ret)))))))
def m_window_Value : MFn := ⟨c_window_Value, [.cell 4 (some 9), .tmp 5], 0⟩

/-- curvet/curvetref13.Value -/
def c_curvetref13_Value : Stm :=
 .seq (
 .reg [
 op 4 (.mov (.c (.vs 0 []))),
 op 5 (.mov (.c (.i 0)))] [0, 1]) (
 .seq (
 .seq (
 .reg [
 mv 8 1,
 op 9 (.bin .lss (.t 8) (.c (.i 1))),
 mv 10 9,
 ⟨some 11, (some (10, false)), .mov (.t 1)⟩,
 ⟨some 12, (some (10, false)), .bin .gtr (.t 11) (.c (.i 6))⟩,
 op 13 (.pick (.t 10) (.c (.b true)) (.t 12))] [0, 1, 13]) (
 .cond (.t 13) (
 .seq (
 .reg [
 op 4 (.mov (.c (.vs 0 []))),
 op 5 (.mov (.c (.i 1700)))] [4, 5]) (
 .ret)) (
 .reg [] [0, 1]))) (
 .seq (
 .reg [
 op 6 (.mov (.c (.vs 0 [])))] [0, 1, 6]) (
 .seq (
 .seq (
 .reg [
 op 7 (.mov (.c (.i 0)))] [0, 1, 6, 7]) (
 .block 0 (
 .loop [0, 1, 6, 7] (
 .seq (
 .seq (
 .reg [
 mv 14 7,
 mv 15 0,
 op 16 (.len (.t 15)),
 op 17 (.bin .lss (.t 14) (.t 16))] [0, 1, 6, 7, 17]) (
 .cond (.t 17) (
 .reg [] [0, 1, 6, 7]) (
 .exit 0 [6]))) (
 .seq (
 .block 1 (
 .seq (
 .seq (
 .reg [
 mv 20 0,
 mv 21 7,
 op 22 (.idxs 1 (.t 20) (.t 21)),
 op 23 (.ld false none (.t 22)),
 op 24 (.bin .lss (.t 23) (.c (.i 0))),
 mv 25 24,
 ⟨some 26, (some (25, false)), .mov (.t 0)⟩,
 ⟨some 27, (some (25, false)), .mov (.t 7)⟩,
 ⟨some 28, (some (25, false)), .idxs 1 (.t 26) (.t 27)⟩,
 ⟨some 29, (some (25, false)), .ld false none (.t 28)⟩,
 ⟨some 30, (some (25, false)), .mov (.t 1)⟩,
 ⟨some 31, (some (25, false)), .bin .shl (.c (.i 1)) (.t 30)⟩,
 ⟨some 32, (some (25, false)), .bin .geq (.t 29) (.t 31)⟩,
 op 33 (.pick (.t 25) (.c (.b true)) (.t 32))] [0, 1, 6, 7, 33]) (
 .cond (.t 33) (
 .seq (
 .reg [
 op 4 (.mov (.c (.vs 0 []))),
 op 5 (.mov (.c (.i 1700)))] [4, 5]) (
 .ret)) (
 .reg [] [0, 1, 6, 7]))) (
 .seq (
 .reg [
 mv 34 6,
 op 35 (.call f_curvetref1_Bits [] [(.t 34)]),
 op 36 (.bin .leq (.t 35) (.c (.i 576)))] [0, 1, 6, 7, 36]) (
 .cond (.t 36) (
 .reg [
 mv 37 6,
 mv 38 1,
 op 39 (.call f_curvetref1_Shl [] [(.t 37), (.t 38)]),
 mv 40 0,
 mv 41 7,
 op 42 (.idxs 1 (.t 40) (.t 41)),
 op 43 (.ld true none (.t 42)),
 op 44 (.call f_curvetref1_Small [] [(.t 43)]),
 op 45 (.call f_curvetref1_Add [] [(.t 39), (.t 44)]),
 mv 6 45] [0, 1, 6, 7]) (
 .reg [] [0, 1, 6, 7]))))) (
 .reg [
 mv 18 7,
 op 19 (.bin .add (.t 18) (.c (.i 1))),
 mv 7 19] [0, 1, 6, 7])))))) (
 .seq (
 .seq (
 .reg [
 mv 46 6,
 op 47 (.call f_curvetref1_Bits [] [(.t 46)]),
 op 48 (.bin .gtr (.t 47) (.c (.i 576)))] [6, 48]) (
 .cond (.t 48) (
 .seq (
 .reg [
 op 4 (.mov (.c (.vs 0 []))),
 op 5 (.mov (.c (.i 1700)))] [4, 5]) (
 .ret)) (
 .reg [] [6]))) (
 .seq (
 .reg [
 mv 49 6,
 mv 4 49,
 op 5 (.mov (.c (.i 0)))] [4, 5]) (
 .ret))))))
def m_curvetref13_Value : MFn := ⟨c_curvetref13_Value, [.tmp 4, .tmp 5], 0⟩

/-- curvet/curvetlaw0.SameInts -/
def c_curvetlaw0_SameInts : Stm :=
 .seq (
 .reg [
 op 4 (.mov (.c (.b false)))] [0, 1]) (
 .seq (
 .seq (
 .reg [
 mv 6 0,
 op 7 (.len (.t 6)),
 mv 8 1,
 op 9 (.len (.t 8)),
 op 10 (.bin .neq (.t 7) (.t 9))] [0, 1, 10]) (
 .cond (.t 10) (
 .seq (
 .reg [
 op 4 (.mov (.c (.b false)))] [4]) (
 .ret)) (
 .reg [] [0, 1]))) (
 .seq (
 .seq (
 .reg [
 op 5 (.mov (.c (.i 0)))] [0, 1, 5]) (
 .block 0 (
 .loop [0, 1, 5] (
 .seq (
 .seq (
 .reg [
 mv 11 5,
 mv 12 0,
 op 13 (.len (.t 12)),
 op 14 (.bin .lss (.t 11) (.t 13))] [0, 1, 5, 14]) (
 .cond (.t 14) (
 .reg [] [0, 1, 5]) (
 .exit 0 []))) (
 .seq (
 .block 1 (
 .seq (
 .reg [
 mv 17 0,
 mv 18 5,
 op 19 (.idxs 1 (.t 17) (.t 18)),
 op 20 (.ld false none (.t 19)),
 mv 21 1,
 mv 22 5,
 op 23 (.idxs 1 (.t 21) (.t 22)),
 op 24 (.ld false none (.t 23)),
 op 25 (.bin .neq (.t 20) (.t 24))] [0, 1, 5, 25]) (
 .cond (.t 25) (
 .seq (
 .reg [
 op 4 (.mov (.c (.b false)))] [4]) (
 .ret)) (
 .reg [] [0, 1, 5])))) (
 .reg [
 mv 15 5,
 op 16 (.bin .add (.t 15) (.c (.i 1))),
 mv 5 16] [0, 1, 5])))))) (
 .seq (
 .reg [
 op 4 (.mov (.c (.b true)))] [4]) (
 .ret))))
def m_curvetlaw0_SameInts : MFn := ⟨c_curvetlaw0_SameInts, [.tmp 4], 0⟩

/-- curvet/curvetlaw0.Num -/
def c_curvetlaw0_Num : Stm :=
 .seq (
 .reg [
 op 2 (.mov (.c (.i 0)))] [0]) (
 .seq (
 .reg [
 mv 3 0,
 mv 2 3] [2]) (
 .ret))
def m_curvetlaw0_Num : MFn := ⟨c_curvetlaw0_Num, [.tmp 2], 0⟩

/-- curvet/curvetref1.Nat -/
def c_curvetref1_Nat : Stm :=
 .seq (
 .reg [
 op 2 (.box (.c (.agg [.u 64 0, .u 64 0, .u 64 0, .u 64 0, .u 64 0, .u 64 0, .u 64 0, .u 64 0, .u 64 0])))] [0, 2]) (
 .seq (
 .reg [
 op 3 (.box (.c (.agg [.u 64 0, .u 64 0, .u 64 0, .u 64 0, .u 64 0, .u 64 0, .u 64 0, .u 64 0, .u 64 0])))] [0, 2, 3]) (
 .seq (
 .seq (
 .reg [
 op 4 (.mov (.c (.i 0)))] [0, 2, 3, 4]) (
 .block 0 (
 .loop [0, 2, 3, 4] (
 .seq (
 .seq (
 .reg [
 mv 5 4,
 op 6 (.bin .lss (.t 5) (.c (.i 9)))] [0, 2, 3, 4, 6]) (
 .cond (.t 6) (
 .reg [] [0, 2, 3, 4]) (
 .exit 0 [2, 3]))) (
 .seq (
 .block 1 (
 .reg [
 mv 9 4,
 mv 10 0,
 mv 11 4,
 op 12 (.bin .mul (.c (.i 2)) (.t 11)),
 op 13 (.call f_curvetref1_digit [] [(.t 10), (.t 12)]),
 mv 14 0,
 mv 15 4,
 op 16 (.bin .mul (.c (.i 2)) (.t 15)),
 op 17 (.bin .add (.t 16) (.c (.i 1))),
 op 18 (.call f_curvetref1_digit [] [(.t 14), (.t 17)]),
 op 19 (.bin .shl (.t 18) (.c (.u 64 32))),
 op 20 (.bin .or (.t 13) (.t 19)),
 op 21 (.off 0 (.t 3)),
 op 22 (.idx 9 1 (.t 21) (.t 9)),
 ⟨none, none, .stl 3 1 (.t 22) (.t 20)⟩] [0, 2, 3, 4])) (
 .reg [
 mv 7 4,
 op 8 (.bin .add (.t 7) (.c (.i 1))),
 mv 4 8] [0, 2, 3, 4])))))) (
 .seq (
 .reg [
 op 23 (.ldl 3 (some 9) (.t 3)),
 ⟨none, none, .stl 2 9 (.t 2) (.t 23)⟩] [2]) (
 .ret))))
def m_curvetref1_Nat : MFn := ⟨c_curvetref1_Nat, [.cell 2 (some 9)], 0⟩

/-- curvet/curvetlaw0.KeptInts -/
def c_curvetlaw0_KeptInts : Stm :=
 .seq (
 .reg [
 op 4 (.mov (.c (.b false)))] [0, 1]) (
 .seq (
 .reg [
 mv 6 0,
 mv 7 0,
 op 8 (.len (.t 7)),
 op 9 (.bin .add (.t 8) (.c (.i 2))),
 op 10 (.slv 1 (.t 6) none (some (.t 9))),
 mv 5 10] [0, 1, 5]) (
 .seq (
 .reg [
 mv 11 0,
 mv 12 1,
 op 13 (.call f_curvetlaw0_SameInts [] [(.t 11), (.t 12)]),
 mv 14 13,
 ⟨some 15, (some (14, true)), .mov (.t 5)⟩,
 ⟨some 16, (some (14, true)), .mov (.t 1)⟩,
 ⟨some 17, (some (14, true)), .len (.t 16)⟩,
 ⟨some 18, (some (14, true)), .idxs 1 (.t 15) (.t 17)⟩,
 ⟨some 19, (some (14, true)), .ld false none (.t 18)⟩,
 ⟨some 20, (some (14, true)), .bin .eql (.t 19) (.c (.i (-7777)))⟩,
 op 21 (.pick (.t 14) (.t 20) (.c (.b false))),
 mv 22 21,
 ⟨some 23, (some (22, true)), .mov (.t 5)⟩,
 ⟨some 24, (some (22, true)), .mov (.t 1)⟩,
 ⟨some 25, (some (22, true)), .len (.t 24)⟩,
 ⟨some 26, (some (22, true)), .bin .add (.t 25) (.c (.i 1))⟩,
 ⟨some 27, (some (22, true)), .idxs 1 (.t 23) (.t 26)⟩,
 ⟨some 28, (some (22, true)), .ld false none (.t 27)⟩,
 ⟨some 29, (some (22, true)), .bin .eql (.t 28) (.c (.i (-8888)))⟩,
 op 30 (.pick (.t 22) (.t 29) (.c (.b false))),
 mv 4 30] [4]) (
 .ret)))
def m_curvetlaw0_KeptInts : MFn := ⟨c_curvetlaw0_KeptInts, [.tmp 4], 0⟩

/-- curvet/curvetlaw0.SpoilInts -/
def c_curvetlaw0_SpoilInts : Stm :=
 .seq (
 .reg [
 op 2 (.mov (.c (.i 0)))] [0, 2]) (
 .block 0 (
 .loop [0, 2] (
 .seq (
 .seq (
 .reg [
 mv 3 2,
 mv 4 0,
 op 5 (.len (.t 4)),
 op 6 (.bin .lss (.t 3) (.t 5))] [0, 2, 6]) (
 .cond (.t 6) (
 .reg [] [0, 2]) (
 .exit 0 []))) (
 .seq (
 .block 1 (
 .reg [
 mv 9 0,
 mv 10 2,
 mv 11 0,
 mv 12 2,
 op 13 (.idxs 1 (.t 11) (.t 12)),
 op 14 (.ld false none (.t 13)),
 op 15 (.bin .sub (.c (.i (-9))) (.t 14)),
 op 16 (.idxs 1 (.t 9) (.t 10)),
 ⟨none, none, .st 1 (.t 16) (.t 15)⟩] [0, 2])) (
 .reg [
 mv 7 2,
 op 8 (.bin .add (.t 7) (.c (.i 1))),
 mv 2 8] [0, 2])))))
def m_curvetlaw0_SpoilInts : MFn := ⟨c_curvetlaw0_SpoilInts, [], 0⟩

/-- curvet/curvetlaw17.awake -/
def c_curvetlaw17_awake : Stm :=
 .seq (
 .reg [
 op 0 (.mov (.c (.b false)))] []) (
 .seq (
 .reg [
 op 10 (.call f_curvetlaw0_One [] [(.c (.u 64 43))]),
 op 11 (.callo f_window_Digits [(.t 10), (.c (.i 8)), (.c (.i 4))]),
 mv 9 11,
 op 12 (.ext 0 (.t 9)),
 op 13 (.ext 1 (.t 9)),
 mv 1 12,
 mv 2 13] [1, 2]) (
 .seq (
 .reg [
 op 15 (.lit true 1 2 [.i 0, .i 0] [(0, 1, (.c (.i 2))), (1, 1, (.c (.i 11)))]),
 op 16 (.call f_window_Value [] [(.t 15), (.c (.i 4))]),
 mv 14 16,
 op 17 (.ext 0 (.t 14)),
 op 18 (.ext 1 (.t 14)),
 op 3 (.box (.c (.agg [.u 64 0, .u 64 0, .u 64 0, .u 64 0, .u 64 0, .u 64 0, .u 64 0, .u 64 0, .u 64 0]))),
 ⟨none, none, .stl 3 9 (.t 3) (.t 17)⟩,
 mv 4 18] [1, 2, 3, 4]) (
 .seq (
 .reg [
 op 20 (.call f_curvetlaw0_One [] [(.c (.u 64 256))]),
 op 21 (.callo f_window_Digits [(.t 20), (.c (.i 8)), (.c (.i 4))]),
 mv 19 21,
 op 22 (.ext 0 (.t 19)),
 op 23 (.ext 1 (.t 19)),
 mv 5 22,
 mv 6 23] [1, 2, 3, 4, 6]) (
 .seq (
 .reg [
 op 25 (.lit true 1 1 [.i 0] [(0, 1, (.c (.i 16)))]),
 op 26 (.call f_window_Value [] [(.t 25), (.c (.i 4))]),
 mv 24 26,
 op 27 (.ext 0 (.t 24)),
 op 28 (.ext 1 (.t 24)),
 op 7 (.box (.c (.agg [.u 64 0, .u 64 0, .u 64 0, .u 64 0, .u 64 0, .u 64 0, .u 64 0, .u 64 0, .u 64 0]))),
 ⟨none, none, .stl 7 9 (.t 7) (.t 27)⟩,
 mv 8 28] [1, 2, 3, 4, 6, 8]) (
 .seq (
 .reg [
 mv 29 2,
 op 30 (.call f_curvetlaw0_Num [] [(.t 29)]),
 op 31 (.bin .eql (.t 30) (.c (.i 0))),
 mv 32 31,
 ⟨some 33, (some (32, true)), .mov (.t 1)⟩,
 ⟨some 34, (some (32, true)), .lit true 1 2 [.i 0, .i 0] [(0, 1, (.c (.i 2))), (1, 1, (.c (.i 11)))]⟩,
 ⟨some 35, (some (32, true)), .call f_curvetlaw0_SameInts [] [(.t 33), (.t 34)]⟩,
 op 36 (.pick (.t 32) (.t 35) (.c (.b false))),
 mv 37 36,
 ⟨some 38, (some (37, true)), .ldl 3 (some 9) (.t 3)⟩,
 ⟨some 39, (some (37, true)), .call f_curvetlaw0_One [] [(.c (.u 64 43))]⟩,
 ⟨some 40, (some (37, true)), .eqv (.agg [.u 64, .u 64, .u 64, .u 64, .u 64, .u 64, .u 64, .u 64, .u 64]) false (.t 38) (.t 39)⟩,
 op 41 (.pick (.t 37) (.t 40) (.c (.b false))),
 mv 42 41,
 ⟨some 43, (some (42, true)), .mov (.t 4)⟩,
 ⟨some 44, (some (42, true)), .call f_curvetlaw0_Num [] [(.t 43)]⟩,
 ⟨some 45, (some (42, true)), .bin .eql (.t 44) (.c (.i 0))⟩,
 op 46 (.pick (.t 42) (.t 45) (.c (.b false))),
 mv 47 46,
 ⟨some 48, (some (47, true)), .mov (.t 6)⟩,
 ⟨some 49, (some (47, true)), .call f_curvetlaw0_Num [] [(.t 48)]⟩,
 ⟨some 50, (some (47, true)), .bin .eql (.t 49) (.c (.i 1700))⟩,
 op 51 (.pick (.t 47) (.t 50) (.c (.b false))),
 mv 52 51,
 ⟨some 53, (some (52, true)), .mov (.t 8)⟩,
 ⟨some 54, (some (52, true)), .call f_curvetlaw0_Num [] [(.t 53)]⟩,
 ⟨some 55, (some (52, true)), .bin .eql (.t 54) (.c (.i 1700))⟩,
 op 56 (.pick (.t 52) (.t 55) (.c (.b false))),
 mv 0 56] [0]) (
 .ret))))))
def m_curvetlaw17_awake : MFn := ⟨c_curvetlaw17_awake, [.tmp 0], 0⟩

/-- curvet/curvetref1.Bits -/
def c_curvetref1_Bits : Stm :=
 .seq (
 .reg [
 op 2 (.mov (.c (.i 0)))] [0]) (
 .seq (
 .seq (
 .reg [
 mv 5 0,
 op 6 (.len (.t 5)),
 op 7 (.bin .eql (.t 6) (.c (.i 0)))] [0, 7]) (
 .cond (.t 7) (
 .seq (
 .reg [
 op 2 (.mov (.c (.i 0)))] [2]) (
 .ret)) (
 .reg [] [0]))) (
 .seq (
 .reg [
 mv 8 0,
 op 9 (.len (.t 8)),
 op 10 (.bin .sub (.t 9) (.c (.i 1))),
 op 11 (.bin .mul (.c (.i 32)) (.t 10)),
 mv 3 11] [0, 3]) (
 .seq (
 .seq (
 .reg [
 mv 12 0,
 mv 13 0,
 op 14 (.len (.t 13)),
 op 15 (.bin .sub (.t 14) (.c (.i 1))),
 op 16 (.idxs 1 (.t 12) (.t 15)),
 op 17 (.ld false none (.t 16)),
 mv 4 17] [3, 4]) (
 .block 0 (
 .loop [3, 4] (
 .seq (
 .seq (
 .reg [
 mv 18 4,
 op 19 (.bin .gtr (.t 18) (.c (.u 32 0)))] [3, 4, 19]) (
 .cond (.t 19) (
 .reg [] [3, 4]) (
 .exit 0 [3]))) (
 .seq (
 .block 1 (
 .reg [
 mv 22 3,
 op 23 (.bin .add (.t 22) (.c (.i 1))),
 mv 3 23] [3, 4])) (
 .reg [
 mv 20 4,
 op 21 (.bin .shr (.t 20) (.c (.u 64 1))),
 mv 4 21] [3, 4])))))) (
 .seq (
 .reg [
 mv 24 3,
 mv 2 24] [2]) (
 .ret)))))
def m_curvetref1_Bits : MFn := ⟨c_curvetref1_Bits, [.tmp 2], 0⟩

/-- curvet/curvetlaw0.Nat -/
def c_curvetlaw0_Nat : Stm :=
 .seq (
 .reg [
 op 2 (.boxv (.t 0)),
 op 4 (.box (.c (.agg [.u 64 0, .u 64 0, .u 64 0, .u 64 0, .u 64 0, .u 64 0, .u 64 0, .u 64 0, .u 64 0])))] [1, 2, 4]) (
 .seq (
 .reg [
 op 5 (.box (.c (.agg [.u 64 0, .u 64 0, .u 64 0, .u 64 0, .u 64 0, .u 64 0, .u 64 0, .u 64 0, .u 64 0])))] [1, 2, 4, 5]) (
 .seq (
 .seq (
 .reg [
 op 6 (.mov (.c (.i 0)))] [1, 2, 4, 5, 6]) (
 .block 0 (
 .loop [1, 2, 4, 5, 6] (
 .seq (
 .seq (
 .reg [
 mv 8 6,
 op 9 (.bin .lss (.t 8) (.c (.i 9)))] [1, 2, 4, 5, 6, 9]) (
 .cond (.t 9) (
 .reg [] [1, 2, 4, 5, 6]) (
 .exit 0 [4, 5]))) (
 .seq (
 .block 1 (
 .seq (
 .reg [
 mv 12 1,
 mv 13 6,
 op 14 (.bin .mul (.c (.i 64)) (.t 13)),
 op 15 (.bin .sub (.t 12) (.t 14)),
 mv 7 15] [1, 2, 4, 5, 6, 7]) (
 .block 2 (
 .seq (
 .reg [
 mv 17 7,
 op 18 (.bin .geq (.t 17) (.c (.i 64))),
 mv 16 18] [1, 2, 4, 5, 6, 7, 16]) (
 .cond (.t 16) (
 .reg [
 mv 19 6,
 mv 20 6,
 op 21 (.idx 9 1 (.t 2) (.t 20)),
 op 22 (.ld true none (.t 21)),
 op 23 (.off 0 (.t 5)),
 op 24 (.idx 9 1 (.t 23) (.t 19)),
 ⟨none, none, .stl 5 1 (.t 24) (.t 22)⟩] [1, 2, 4, 5, 6]) (
 .seq (
 .reg [
 mv 26 7,
 op 27 (.bin .gtr (.t 26) (.c (.i 0))),
 mv 25 27] [1, 2, 4, 5, 6, 7, 25]) (
 .cond (.t 25) (
 .reg [
 mv 28 6,
 mv 29 6,
 op 30 (.idx 9 1 (.t 2) (.t 29)),
 op 31 (.ld true none (.t 30)),
 mv 32 7,
 op 33 (.bin .shl (.c (.u 64 1)) (.t 32)),
 op 34 (.bin .sub (.t 33) (.c (.u 64 1))),
 op 35 (.bin .and (.t 31) (.t 34)),
 op 36 (.off 0 (.t 5)),
 op 37 (.idx 9 1 (.t 36) (.t 28)),
 ⟨none, none, .stl 5 1 (.t 37) (.t 35)⟩] [1, 2, 4, 5, 6]) (
 .reg [] [1, 2, 4, 5, 6])))))))) (
 .reg [
 mv 10 6,
 op 11 (.bin .add (.t 10) (.c (.i 1))),
 mv 6 11] [1, 2, 4, 5, 6])))))) (
 .seq (
 .reg [
 op 38 (.ldl 5 (some 9) (.t 5)),
 ⟨none, none, .stl 4 9 (.t 4) (.t 38)⟩] [4]) (
 .ret))))
def m_curvetlaw0_Nat : MFn := ⟨c_curvetlaw0_Nat, [.cell 4 (some 9)], 0⟩

/-- curvet/nat.Bit -/
def c_nat_Bit : Stm :=
 .seq (
 .reg [
 op 2 (.boxv (.t 0)),
 op 4 (.mov (.c (.i 0)))] [1, 2]) (
 .seq (
 .seq (
 .reg [
 mv 5 1,
 op 6 (.bin .lss (.t 5) (.c (.i 0))),
 mv 7 6,
 ⟨some 8, (some (7, false)), .mov (.t 1)⟩,
 ⟨some 9, (some (7, false)), .bin .geq (.t 8) (.c (.i 576))⟩,
 op 10 (.pick (.t 7) (.c (.b true)) (.t 9))] [1, 2, 10]) (
 .cond (.t 10) (
 .seq (
 .reg [
 op 4 (.mov (.c (.i 0)))] [4]) (
 .ret)) (
 .reg [] [1, 2]))) (
 .seq (
 .reg [
 mv 11 1,
 op 12 (.bin .quo (.t 11) (.c (.i 64))),
 op 13 (.off 0 (.t 2)),
 op 14 (.idx 9 1 (.t 13) (.t 12)),
 op 15 (.ld true none (.t 14)),
 mv 16 1,
 op 17 (.bin .rem (.t 16) (.c (.i 64))),
 op 18 (.bin .shr (.t 15) (.t 17)),
 op 19 (.bin .and (.t 18) (.c (.u 64 1))),
 op 20 (.cvi (.t 19)),
 mv 4 20] [4]) (
 .ret)))
def m_nat_Bit : MFn := ⟨c_nat_Bit, [.tmp 4], 0⟩

/-- curvet/nat.Shl -/
def c_nat_Shl : Stm :=
 .seq (
 .reg [
 op 2 (.boxv (.t 0)),
 op 4 (.box (.c (.agg [.u 64 0, .u 64 0, .u 64 0, .u 64 0, .u 64 0, .u 64 0, .u 64 0, .u 64 0, .u 64 0]))),
 op 5 (.mov (.c (.i 0)))] [1, 2, 4]) (
 .seq (
 .seq (
 .reg [
 mv 10 1,
 op 11 (.bin .lss (.t 10) (.c (.i 0))),
 mv 12 11,
 ⟨some 13, (some (12, false)), .mov (.t 1)⟩,
 ⟨some 14, (some (12, false)), .bin .gtr (.t 13) (.c (.i 576))⟩,
 op 15 (.pick (.t 12) (.c (.b true)) (.t 14))] [1, 2, 4, 15]) (
 .cond (.t 15) (
 .seq (
 .reg [
 op 16 (.build [.u 64 0, .u 64 0, .u 64 0, .u 64 0, .u 64 0, .u 64 0, .u 64 0, .u 64 0, .u 64 0] []),
 ⟨none, none, .stl 4 9 (.t 4) (.t 16)⟩,
 op 5 (.mov (.c (.i 102)))] [4, 5]) (
 .ret)) (
 .reg [] [1, 2, 4]))) (
 .seq (
 .reg [
 op 6 (.box (.c (.agg [.u 64 0, .u 64 0, .u 64 0, .u 64 0, .u 64 0, .u 64 0, .u 64 0, .u 64 0, .u 64 0])))] [1, 2, 4, 6]) (
 .seq (
 .reg [
 mv 17 1,
 op 18 (.bin .quo (.t 17) (.c (.i 64))),
 mv 19 1,
 op 20 (.bin .rem (.t 19) (.c (.i 64))),
 mv 7 18,
 mv 8 20] [2, 4, 6, 7, 8]) (
 .seq (
 .seq (
 .reg [
 mv 21 7,
 mv 9 21] [2, 4, 6, 7, 8, 9]) (
 .block 0 (
 .loop [2, 4, 6, 7, 8, 9] (
 .seq (
 .seq (
 .reg [
 mv 22 9,
 op 23 (.bin .lss (.t 22) (.c (.i 9)))] [2, 4, 6, 7, 8, 9, 23]) (
 .cond (.t 23) (
 .reg [] [2, 4, 6, 7, 8, 9]) (
 .exit 0 [4, 6]))) (
 .seq (
 .block 1 (
 .seq (
 .reg [
 mv 26 9,
 mv 27 9,
 mv 28 7,
 op 29 (.bin .sub (.t 27) (.t 28)),
 op 30 (.off 0 (.t 2)),
 op 31 (.idx 9 1 (.t 30) (.t 29)),
 op 32 (.ld true none (.t 31)),
 mv 33 8,
 op 34 (.bin .shl (.t 32) (.t 33)),
 op 35 (.off 0 (.t 6)),
 op 36 (.idx 9 1 (.t 35) (.t 26)),
 ⟨none, none, .stl 6 1 (.t 36) (.t 34)⟩] [2, 4, 6, 7, 8, 9]) (
 .seq (
 .reg [
 mv 37 9,
 mv 38 7,
 op 39 (.bin .gtr (.t 37) (.t 38))] [2, 4, 6, 7, 8, 9, 39]) (
 .cond (.t 39) (
 .reg [
 mv 40 9,
 op 41 (.off 0 (.t 6)),
 op 42 (.idx 9 1 (.t 41) (.t 40)),
 op 43 (.ldl 6 none (.t 42)),
 mv 44 9,
 mv 45 7,
 op 46 (.bin .sub (.t 44) (.t 45)),
 op 47 (.bin .sub (.t 46) (.c (.i 1))),
 op 48 (.off 0 (.t 2)),
 op 49 (.idx 9 1 (.t 48) (.t 47)),
 op 50 (.ld true none (.t 49)),
 mv 51 8,
 op 52 (.bin .sub (.c (.i 64)) (.t 51)),
 op 53 (.bin .shr (.t 50) (.t 52)),
 op 54 (.bin .or (.t 43) (.t 53)),
 op 55 (.off 0 (.t 6)),
 op 56 (.idx 9 1 (.t 55) (.t 40)),
 ⟨none, none, .stl 6 1 (.t 56) (.t 54)⟩] [2, 4, 6, 7, 8, 9]) (
 .reg [] [2, 4, 6, 7, 8, 9]))))) (
 .reg [
 mv 24 9,
 op 25 (.bin .add (.t 24) (.c (.i 1))),
 mv 9 25] [2, 4, 6, 7, 8, 9])))))) (
 .seq (
 .reg [
 op 57 (.ldl 6 (some 9) (.t 6)),
 ⟨none, none, .stl 4 9 (.t 4) (.t 57)⟩,
 op 5 (.mov (.c (.i 0)))] [4, 5]) (
 .ret))))))
def m_nat_Shl : MFn := ⟨c_nat_Shl, [.cell 4 (some 9), .tmp 5], 0⟩

/-- curvet/nat.Add -/
def c_nat_Add : Stm :=
 .seq (
 .reg [
 op 2 (.box (.t 0)),
 op 3 (.boxv (.t 1)),
 op 4 (.box (.c (.agg [.u 64 0, .u 64 0, .u 64 0, .u 64 0, .u 64 0, .u 64 0, .u 64 0, .u 64 0, .u 64 0]))),
 op 5 (.mov (.c (.b false)))] [2, 3, 4]) (
 .seq (
 .reg [
 op 6 (.mov (.c (.u 64 0)))] [2, 3, 4, 6]) (
 .seq (
 .seq (
 .reg [
 op 8 (.mov (.c (.i 0)))] [2, 3, 4, 6, 8]) (
 .block 0 (
 .loop [2, 3, 4, 6, 8] (
 .seq (
 .reg [
 op 9 (.bin .lss (.t 8) (.c (.i 9)))] [2, 3, 4, 6, 8, 9]) (
 .seq (
 .cond (.t 9) (
 .reg [] [2, 3, 4, 6, 8]) (
 .exit 0 [2, 4, 6])) (
 .seq (
 .block 1 (
 .seq (
 .reg [
 mv 10 8,
 mv 7 10] [2, 3, 4, 6, 7, 8]) (
 .reg [
 mv 12 7,
 mv 13 7,
 op 14 (.off 0 (.t 2)),
 op 15 (.idx 9 1 (.t 14) (.t 13)),
 op 16 (.ldl 2 none (.t 15)),
 mv 17 7,
 op 18 (.off 0 (.t 3)),
 op 19 (.idx 9 1 (.t 18) (.t 17)),
 op 20 (.ld true none (.t 19)),
 mv 21 6,
 op 22 (.prim .add64 [(.t 16), (.t 20), (.t 21)]),
 mv 11 22,
 op 23 (.ext 0 (.t 11)),
 op 24 (.ext 1 (.t 11)),
 op 25 (.off 0 (.t 2)),
 op 26 (.idx 9 1 (.t 25) (.t 12)),
 ⟨none, none, .stl 2 1 (.t 26) (.t 23)⟩,
 mv 6 24] [2, 3, 4, 6, 8]))) (
 .reg [
 op 27 (.bin .add (.t 8) (.c (.i 1))),
 mv 8 27] [2, 3, 4, 6, 8]))))))) (
 .seq (
 .reg [
 op 28 (.ldl 2 (some 9) (.t 2)),
 mv 29 6,
 op 30 (.bin .eql (.t 29) (.c (.u 64 1))),
 ⟨none, none, .stl 4 9 (.t 4) (.t 28)⟩,
 mv 5 30] [4, 5]) (
 .ret))))
def m_nat_Add : MFn := ⟨c_nat_Add, [.cell 4 (some 9), .tmp 5], 0⟩

/-- curvet/curvetlaw0.One -/
def c_curvetlaw0_One : Stm :=
 .seq (
 .reg [
 op 2 (.box (.c (.agg [.u 64 0, .u 64 0, .u 64 0, .u 64 0, .u 64 0, .u 64 0, .u 64 0, .u 64 0, .u 64 0])))] [0, 2]) (
 .seq (
 .reg [
 op 3 (.box (.c (.agg [.u 64 0, .u 64 0, .u 64 0, .u 64 0, .u 64 0, .u 64 0, .u 64 0, .u 64 0, .u 64 0])))] [0, 2, 3]) (
 .seq (
 .reg [
 mv 4 0,
 op 5 (.off 0 (.t 3)),
 op 6 (.idx 9 1 (.t 5) (.c (.i 0))),
 ⟨none, none, .stl 3 1 (.t 6) (.t 4)⟩] [2, 3]) (
 .seq (
 .reg [
 op 7 (.ldl 3 (some 9) (.t 3)),
 ⟨none, none, .stl 2 9 (.t 2) (.t 7)⟩] [2]) (
 .ret))))
def m_curvetlaw0_One : MFn := ⟨c_curvetlaw0_One, [.cell 2 (some 9)], 0⟩

/-- curvet/window.wide -/
def c_window_wide : Stm :=
 .seq (
 .reg [
 op 2 (.mov (.c (.b false)))] [0]) (
 .seq (
 .reg [
 mv 3 0,
 op 4 (.bin .geq (.t 3) (.c (.i 1))),
 mv 5 4,
 ⟨some 6, (some (5, true)), .mov (.t 0)⟩,
 ⟨some 7, (some (5, true)), .bin .leq (.t 6) (.c (.i 6))⟩,
 op 8 (.pick (.t 5) (.t 7) (.c (.b false))),
 mv 2 8] [2]) (
 .ret))
def m_window_wide : MFn := ⟨c_window_wide, [.tmp 2], 0⟩

/-- curvet/nat.Bits -/
def c_nat_Bits : Stm :=
 .seq (
 .reg [
 op 1 (.boxv (.t 0)),
 op 2 (.mov (.c (.i 0)))] [1]) (
 .seq (
 .reg [
 op 4 (.call f_nat_used [] [(.t 1)]),
 mv 3 4] [1, 3]) (
 .seq (
 .seq (
 .reg [
 mv 5 3,
 op 6 (.bin .eql (.t 5) (.c (.i 0)))] [1, 3, 6]) (
 .cond (.t 6) (
 .seq (
 .reg [
 op 2 (.mov (.c (.i 0)))] [2]) (
 .ret)) (
 .reg [] [1, 3]))) (
 .seq (
 .reg [
 mv 7 3,
 op 8 (.bin .sub (.t 7) (.c (.i 1))),
 op 9 (.bin .mul (.t 8) (.c (.i 64))),
 mv 10 3,
 op 11 (.bin .sub (.t 10) (.c (.i 1))),
 op 12 (.off 0 (.t 1)),
 op 13 (.idx 9 1 (.t 12) (.t 11)),
 op 14 (.ld true none (.t 13)),
 op 15 (.call f_bits_Len64 [] [(.t 14)]),
 op 16 (.bin .add (.t 9) (.t 15)),
 mv 2 16] [2]) (
 .ret))))
def m_nat_Bits : MFn := ⟨c_nat_Bits, [.tmp 2], 0⟩

/-- curvet/nat.Shr -/
def c_nat_Shr : Stm :=
 .seq (
 .reg [
 op 2 (.boxv (.t 0)),
 op 4 (.box (.c (.agg [.u 64 0, .u 64 0, .u 64 0, .u 64 0, .u 64 0, .u 64 0, .u 64 0, .u 64 0, .u 64 0]))),
 op 5 (.mov (.c (.i 0)))] [1, 2, 4]) (
 .seq (
 .seq (
 .reg [
 mv 10 1,
 op 11 (.bin .lss (.t 10) (.c (.i 0))),
 mv 12 11,
 ⟨some 13, (some (12, false)), .mov (.t 1)⟩,
 ⟨some 14, (some (12, false)), .bin .gtr (.t 13) (.c (.i 576))⟩,
 op 15 (.pick (.t 12) (.c (.b true)) (.t 14))] [1, 2, 4, 15]) (
 .cond (.t 15) (
 .seq (
 .reg [
 op 16 (.build [.u 64 0, .u 64 0, .u 64 0, .u 64 0, .u 64 0, .u 64 0, .u 64 0, .u 64 0, .u 64 0] []),
 ⟨none, none, .stl 4 9 (.t 4) (.t 16)⟩,
 op 5 (.mov (.c (.i 102)))] [4, 5]) (
 .ret)) (
 .reg [] [1, 2, 4]))) (
 .seq (
 .reg [
 op 6 (.box (.c (.agg [.u 64 0, .u 64 0, .u 64 0, .u 64 0, .u 64 0, .u 64 0, .u 64 0, .u 64 0, .u 64 0])))] [1, 2, 4, 6]) (
 .seq (
 .reg [
 mv 17 1,
 op 18 (.bin .quo (.t 17) (.c (.i 64))),
 mv 19 1,
 op 20 (.bin .rem (.t 19) (.c (.i 64))),
 mv 7 18,
 mv 8 20] [2, 4, 6, 7, 8]) (
 .seq (
 .seq (
 .reg [
 mv 21 7,
 op 22 (.bin .sub (.c (.i 9)) (.t 21)),
 op 23 (.mov (.c (.i 0)))] [2, 4, 6, 7, 8, 22, 23]) (
 .block 0 (
 .loop [2, 4, 6, 7, 8, 22, 23] (
 .seq (
 .reg [
 op 24 (.bin .lss (.t 23) (.t 22))] [2, 4, 6, 7, 8, 22, 23, 24]) (
 .seq (
 .cond (.t 24) (
 .reg [] [2, 4, 6, 7, 8, 22, 23]) (
 .exit 0 [4, 6])) (
 .seq (
 .block 1 (
 .seq (
 .reg [
 mv 25 23,
 mv 9 25] [2, 4, 6, 7, 8, 9, 22, 23]) (
 .seq (
 .reg [
 mv 26 9,
 mv 27 9,
 mv 28 7,
 op 29 (.bin .add (.t 27) (.t 28)),
 op 30 (.off 0 (.t 2)),
 op 31 (.idx 9 1 (.t 30) (.t 29)),
 op 32 (.ld true none (.t 31)),
 mv 33 8,
 op 34 (.bin .shr (.t 32) (.t 33)),
 op 35 (.off 0 (.t 6)),
 op 36 (.idx 9 1 (.t 35) (.t 26)),
 ⟨none, none, .stl 6 1 (.t 36) (.t 34)⟩] [2, 4, 6, 7, 8, 9, 22, 23]) (
 .seq (
 .reg [
 mv 37 9,
 mv 38 7,
 op 39 (.bin .add (.t 37) (.t 38)),
 op 40 (.bin .add (.t 39) (.c (.i 1))),
 op 41 (.bin .lss (.t 40) (.c (.i 9)))] [2, 4, 6, 7, 8, 9, 22, 23, 41]) (
 .cond (.t 41) (
 .reg [
 mv 42 9,
 op 43 (.off 0 (.t 6)),
 op 44 (.idx 9 1 (.t 43) (.t 42)),
 op 45 (.ldl 6 none (.t 44)),
 mv 46 9,
 mv 47 7,
 op 48 (.bin .add (.t 46) (.t 47)),
 op 49 (.bin .add (.t 48) (.c (.i 1))),
 op 50 (.off 0 (.t 2)),
 op 51 (.idx 9 1 (.t 50) (.t 49)),
 op 52 (.ld true none (.t 51)),
 mv 53 8,
 op 54 (.bin .sub (.c (.i 64)) (.t 53)),
 op 55 (.bin .shl (.t 52) (.t 54)),
 op 56 (.bin .or (.t 45) (.t 55)),
 op 57 (.off 0 (.t 6)),
 op 58 (.idx 9 1 (.t 57) (.t 42)),
 ⟨none, none, .stl 6 1 (.t 58) (.t 56)⟩] [2, 4, 6, 7, 8, 22, 23]) (
 .reg [] [2, 4, 6, 7, 8, 22, 23])))))) (
 .reg [
 op 59 (.bin .add (.t 23) (.c (.i 1))),
 mv 23 59] [2, 4, 6, 7, 8, 22, 23]))))))) (
 .seq (
 .reg [
 op 60 (.ldl 6 (some 9) (.t 6)),
 ⟨none, none, .stl 4 9 (.t 4) (.t 60)⟩,
 op 5 (.mov (.c (.i 0)))] [4, 5]) (
 .ret))))))
def m_nat_Shr : MFn := ⟨c_nat_Shr, [.cell 4 (some 9), .tmp 5], 0⟩

/-- curvet/curvetref1.Shr -/
def c_curvetref1_Shr : Stm :=
 .seq (
 .reg [
 op 4 (.mov (.c (.vs 0 [])))] [0, 1]) (
 .seq (
 .seq (
 .reg [
 mv 8 1,
 op 9 (.bin .quo (.t 8) (.c (.i 32))),
 mv 10 0,
 op 11 (.len (.t 10)),
 op 12 (.bin .geq (.t 9) (.t 11))] [0, 1, 12]) (
 .cond (.t 12) (
 .seq (
 .reg [
 op 4 (.mov (.c (.vs 0 [])))] [4]) (
 .ret)) (
 .reg [] [0, 1]))) (
 .seq (
 .reg [
 mv 13 0,
 op 14 (.len (.t 13)),
 mv 15 1,
 op 16 (.bin .quo (.t 15) (.c (.i 32))),
 op 17 (.bin .sub (.t 14) (.t 16)),
 op 18 (.mks 1 4 [.u 32 0] (.t 17) (.t 17)),
 mv 5 18] [0, 1, 5]) (
 .seq (
 .seq (
 .reg [
 op 6 (.mov (.c (.i 0)))] [0, 1, 5, 6]) (
 .block 0 (
 .loop [0, 1, 5, 6] (
 .seq (
 .seq (
 .reg [
 mv 19 6,
 mv 20 5,
 op 21 (.len (.t 20)),
 op 22 (.bin .lss (.t 19) (.t 21))] [0, 1, 5, 6, 22]) (
 .cond (.t 22) (
 .reg [] [0, 1, 5, 6]) (
 .exit 0 [5]))) (
 .seq (
 .block 1 (
 .seq (
 .reg [
 mv 25 0,
 mv 26 6,
 mv 27 1,
 op 28 (.bin .quo (.t 27) (.c (.i 32))),
 op 29 (.bin .add (.t 26) (.t 28)),
 op 30 (.call f_curvetref1_digit [] [(.t 25), (.t 29)]),
 mv 31 0,
 mv 32 6,
 mv 33 1,
 op 34 (.bin .quo (.t 33) (.c (.i 32))),
 op 35 (.bin .add (.t 32) (.t 34)),
 op 36 (.bin .add (.t 35) (.c (.i 1))),
 op 37 (.call f_curvetref1_digit [] [(.t 31), (.t 36)]),
 op 38 (.bin .shl (.t 37) (.c (.u 64 32))),
 op 39 (.bin .or (.t 30) (.t 38)),
 mv 7 39] [0, 1, 5, 6, 7]) (
 .reg [
 mv 40 5,
 mv 41 6,
 mv 42 7,
 mv 43 1,
 op 44 (.bin .rem (.t 43) (.c (.i 32))),
 op 45 (.bin .shr (.t 42) (.t 44)),
 op 46 (.bin .and (.t 45) (.c (.u 64 4294967295))),
 op 47 (.cvu 32 (.t 46)),
 op 48 (.idxs 1 (.t 40) (.t 41)),
 ⟨none, none, .st 1 (.t 48) (.t 47)⟩] [0, 1, 5, 6]))) (
 .reg [
 mv 23 6,
 op 24 (.bin .add (.t 23) (.c (.i 1))),
 mv 6 24] [0, 1, 5, 6])))))) (
 .seq (
 .reg [
 mv 49 5,
 op 50 (.call f_curvetref1_trim [] [(.t 49)]),
 mv 4 50] [4]) (
 .ret)))))
def m_curvetref1_Shr : MFn := ⟨c_curvetref1_Shr, [.tmp 4], 0⟩

/-- curvet/curvetref1.trim -/
def c_curvetref1_trim : Stm :=
 .seq (
 .reg [
 op 2 (.mov (.c (.vs 0 [])))] [0]) (
 .seq (
 .reg [
 mv 4 0,
 op 5 (.len (.t 4)),
 mv 3 5] [0, 3]) (
 .seq (
 .block 0 (
 .loop [0, 3] (
 .seq (
 .seq (
 .reg [
 mv 6 3,
 op 7 (.bin .gtr (.t 6) (.c (.i 0))),
 mv 8 7,
 ⟨some 9, (some (8, true)), .mov (.t 0)⟩,
 ⟨some 10, (some (8, true)), .mov (.t 3)⟩,
 ⟨some 11, (some (8, true)), .bin .sub (.t 10) (.c (.i 1))⟩,
 ⟨some 12, (some (8, true)), .idxs 1 (.t 9) (.t 11)⟩,
 ⟨some 13, (some (8, true)), .ld false none (.t 12)⟩,
 ⟨some 14, (some (8, true)), .bin .eql (.t 13) (.c (.u 32 0))⟩,
 op 15 (.pick (.t 8) (.t 14) (.c (.b false)))] [0, 3, 15]) (
 .cond (.t 15) (
 .reg [] [0, 3]) (
 .exit 0 [0, 3]))) (
 .block 1 (
 .reg [
 mv 16 3,
 op 17 (.bin .sub (.t 16) (.c (.i 1))),
 mv 3 17] [0, 3]))))) (
 .seq (
 .reg [
 mv 18 0,
 mv 19 3,
 op 20 (.slv 1 (.t 18) none (some (.t 19))),
 mv 2 20] [2]) (
 .ret))))
def m_curvetref1_trim : MFn := ⟨c_curvetref1_trim, [.tmp 2], 0⟩

/-- curvet/curvetlaw0.CopyInts -/
def c_curvetlaw0_CopyInts : Stm :=
 .seq (
 .reg [
 op 2 (.mov (.c (.nils)))] [0]) (
 .seq (
 .reg [
 op 3 (.lit false 1 0 [] []),
 mv 4 0,
 op 5 (.app 1 8 (.t 3) (.t 4)),
 mv 2 5] [2]) (
 .ret))
def m_curvetlaw0_CopyInts : MFn := ⟨c_curvetlaw0_CopyInts, [.tmp 2], 1⟩

/-- curvet/curvetref1.Add -/
def c_curvetref1_Add : Stm :=
 .seq (
 .reg [
 op 4 (.mov (.c (.vs 0 [])))] [0, 1]) (
 .seq (
 .reg [
 mv 10 0,
 op 11 (.len (.t 10)),
 mv 12 1,
 op 13 (.len (.t 12)),
 op 14 (.mx (.t 11) (.t 13)),
 mv 5 14] [0, 1, 5]) (
 .seq (
 .reg [
 mv 15 5,
 op 16 (.bin .add (.t 15) (.c (.i 1))),
 op 17 (.mks 1 4 [.u 32 0] (.t 16) (.t 16)),
 mv 6 17] [0, 1, 5, 6]) (
 .seq (
 .reg [
 op 7 (.mov (.c (.u 64 0)))] [0, 1, 5, 6, 7]) (
 .seq (
 .seq (
 .reg [
 op 8 (.mov (.c (.i 0)))] [0, 1, 5, 6, 7, 8]) (
 .block 0 (
 .loop [0, 1, 5, 6, 7, 8] (
 .seq (
 .seq (
 .reg [
 mv 18 8,
 mv 19 5,
 op 20 (.bin .lss (.t 18) (.t 19))] [0, 1, 5, 6, 7, 8, 20]) (
 .cond (.t 20) (
 .reg [] [0, 1, 5, 6, 7, 8]) (
 .exit 0 [5, 6, 7]))) (
 .seq (
 .block 1 (
 .seq (
 .reg [
 mv 23 0,
 mv 24 8,
 op 25 (.call f_curvetref1_digit [] [(.t 23), (.t 24)]),
 mv 26 1,
 mv 27 8,
 op 28 (.call f_curvetref1_digit [] [(.t 26), (.t 27)]),
 op 29 (.bin .add (.t 25) (.t 28)),
 mv 30 7,
 op 31 (.bin .add (.t 29) (.t 30)),
 mv 9 31] [0, 1, 5, 6, 8, 9]) (
 .seq (
 .reg [
 mv 32 6,
 mv 33 8,
 mv 34 9,
 op 35 (.bin .and (.t 34) (.c (.u 64 4294967295))),
 op 36 (.cvu 32 (.t 35)),
 op 37 (.idxs 1 (.t 32) (.t 33)),
 ⟨none, none, .st 1 (.t 37) (.t 36)⟩] [0, 1, 5, 6, 8, 9]) (
 .reg [
 mv 38 9,
 op 39 (.bin .shr (.t 38) (.c (.u 64 32))),
 mv 7 39] [0, 1, 5, 6, 7, 8])))) (
 .reg [
 mv 21 8,
 op 22 (.bin .add (.t 21) (.c (.i 1))),
 mv 8 22] [0, 1, 5, 6, 7, 8])))))) (
 .seq (
 .reg [
 mv 40 6,
 mv 41 5,
 mv 42 7,
 op 43 (.cvu 32 (.t 42)),
 op 44 (.idxs 1 (.t 40) (.t 41)),
 ⟨none, none, .st 1 (.t 44) (.t 43)⟩] [6]) (
 .seq (
 .reg [
 mv 45 6,
 op 46 (.call f_curvetref1_trim [] [(.t 45)]),
 mv 4 46] [4]) (
 .ret)))))))
def m_curvetref1_Add : MFn := ⟨c_curvetref1_Add, [.tmp 4], 0⟩

/-- curvet/curvetref1.Shl -/
def c_curvetref1_Shl : Stm :=
 .seq (
 .reg [
 op 4 (.mov (.c (.vs 0 [])))] [0, 1]) (
 .seq (
 .reg [
 mv 8 0,
 op 9 (.len (.t 8)),
 mv 10 1,
 op 11 (.bin .quo (.t 10) (.c (.i 32))),
 op 12 (.bin .add (.t 9) (.t 11)),
 op 13 (.bin .add (.t 12) (.c (.i 1))),
 op 14 (.mks 1 4 [.u 32 0] (.t 13) (.t 13)),
 mv 5 14] [0, 1, 5]) (
 .seq (
 .seq (
 .reg [
 op 6 (.mov (.c (.i 0)))] [0, 1, 5, 6]) (
 .block 0 (
 .loop [0, 1, 5, 6] (
 .seq (
 .seq (
 .reg [
 mv 15 6,
 mv 16 0,
 op 17 (.len (.t 16)),
 op 18 (.bin .lss (.t 15) (.t 17))] [0, 1, 5, 6, 18]) (
 .cond (.t 18) (
 .reg [] [0, 1, 5, 6]) (
 .exit 0 [5]))) (
 .seq (
 .block 1 (
 .seq (
 .reg [
 mv 21 0,
 mv 22 6,
 op 23 (.idxs 1 (.t 21) (.t 22)),
 op 24 (.ld false none (.t 23)),
 op 25 (.cvu 64 (.t 24)),
 mv 26 1,
 op 27 (.bin .rem (.t 26) (.c (.i 32))),
 op 28 (.bin .shl (.t 25) (.t 27)),
 mv 7 28] [0, 1, 5, 6, 7]) (
 .seq (
 .reg [
 mv 29 5,
 mv 30 6,
 mv 31 1,
 op 32 (.bin .quo (.t 31) (.c (.i 32))),
 op 33 (.bin .add (.t 30) (.t 32)),
 mv 34 5,
 mv 35 6,
 mv 36 1,
 op 37 (.bin .quo (.t 36) (.c (.i 32))),
 op 38 (.bin .add (.t 35) (.t 37)),
 op 39 (.idxs 1 (.t 34) (.t 38)),
 op 40 (.ld false none (.t 39)),
 mv 41 7,
 op 42 (.bin .and (.t 41) (.c (.u 64 4294967295))),
 op 43 (.cvu 32 (.t 42)),
 op 44 (.bin .or (.t 40) (.t 43)),
 op 45 (.idxs 1 (.t 29) (.t 33)),
 ⟨none, none, .st 1 (.t 45) (.t 44)⟩] [0, 1, 5, 6, 7]) (
 .reg [
 mv 46 5,
 mv 47 6,
 mv 48 1,
 op 49 (.bin .quo (.t 48) (.c (.i 32))),
 op 50 (.bin .add (.t 47) (.t 49)),
 op 51 (.bin .add (.t 50) (.c (.i 1))),
 mv 52 7,
 op 53 (.bin .shr (.t 52) (.c (.u 64 32))),
 op 54 (.cvu 32 (.t 53)),
 op 55 (.idxs 1 (.t 46) (.t 51)),
 ⟨none, none, .st 1 (.t 55) (.t 54)⟩] [0, 1, 5, 6])))) (
 .reg [
 mv 19 6,
 op 20 (.bin .add (.t 19) (.c (.i 1))),
 mv 6 20] [0, 1, 5, 6])))))) (
 .seq (
 .reg [
 mv 56 5,
 op 57 (.call f_curvetref1_trim [] [(.t 56)]),
 mv 4 57] [4]) (
 .ret))))
def m_curvetref1_Shl : MFn := ⟨c_curvetref1_Shl, [.tmp 4], 0⟩

/-- curvet/curvetref1.Small -/
def c_curvetref1_Small : Stm :=
 .seq (
 .reg [
 op 2 (.mov (.c (.vs 0 [])))] [0]) (
 .seq (
 .seq (
 .reg [
 mv 3 0,
 op 4 (.bin .lss (.t 3) (.c (.i 0)))] [0, 4]) (
 .cond (.t 4) (
 .seq (
 .reg [
 op 2 (.mov (.c (.vs 0 [])))] [2]) (
 .ret)) (
 .reg [] [0]))) (
 .seq (
 .reg [
 mv 5 0,
 op 6 (.cvu 64 (.t 5)),
 op 7 (.bin .and (.t 6) (.c (.u 64 4294967295))),
 op 8 (.cvu 32 (.t 7)),
 mv 9 0,
 op 10 (.cvu 64 (.t 9)),
 op 11 (.bin .shr (.t 10) (.c (.u 64 32))),
 op 12 (.cvu 32 (.t 11)),
 op 13 (.lit true 1 2 [.u 32 0, .u 32 0] [(0, 1, (.t 8)), (1, 1, (.t 12))]),
 op 14 (.call f_curvetref1_trim [] [(.t 13)]),
 mv 2 14] [2]) (
 .ret)))
def m_curvetref1_Small : MFn := ⟨c_curvetref1_Small, [.tmp 2], 0⟩

/-- curvet/curvetref1.digit -/
def c_curvetref1_digit : Stm :=
 .seq (
 .reg [
 op 4 (.mov (.c (.u 64 0)))] [0, 1]) (
 .seq (
 .seq (
 .reg [
 mv 5 1,
 mv 6 0,
 op 7 (.len (.t 6)),
 op 8 (.bin .lss (.t 5) (.t 7))] [0, 1, 8]) (
 .cond (.t 8) (
 .seq (
 .reg [
 mv 9 0,
 mv 10 1,
 op 11 (.idxs 1 (.t 9) (.t 10)),
 op 12 (.ld false none (.t 11)),
 op 13 (.cvu 64 (.t 12)),
 mv 4 13] [4]) (
 .ret)) (
 .reg [] []))) (
 .seq (
 .reg [
 op 4 (.mov (.c (.u 64 0)))] [4]) (
 .ret)))
def m_curvetref1_digit : MFn := ⟨c_curvetref1_digit, [.tmp 4], 0⟩

/-- curvet/nat.used -/
def c_nat_used : Stm :=
 .seq (
 .reg [
 op 2 (.mov (.c (.i 0)))] [0]) (
 .seq (
 .reg [
 op 3 (.mov (.c (.i 9)))] [0, 3]) (
 .seq (
 .block 0 (
 .loop [0, 3] (
 .seq (
 .seq (
 .reg [
 mv 4 3,
 op 5 (.bin .gtr (.t 4) (.c (.i 0))),
 mv 6 5,
 ⟨some 7, (some (6, true)), .mov (.t 0)⟩,
 ⟨some 8, (some (6, true)), .mov (.t 3)⟩,
 ⟨some 9, (some (6, true)), .bin .sub (.t 8) (.c (.i 1))⟩,
 ⟨some 10, (some (6, true)), .nck (.t 7)⟩,
 ⟨some 11, (some (6, true)), .off 0 (.t 10)⟩,
 ⟨some 12, (some (6, true)), .idx 9 1 (.t 11) (.t 9)⟩,
 ⟨some 13, (some (6, true)), .ld false none (.t 12)⟩,
 ⟨some 14, (some (6, true)), .bin .eql (.t 13) (.c (.u 64 0))⟩,
 op 15 (.pick (.t 6) (.t 14) (.c (.b false)))] [0, 3, 15]) (
 .cond (.t 15) (
 .reg [] [0, 3]) (
 .exit 0 [3]))) (
 .block 1 (
 .reg [
 mv 16 3,
 op 17 (.bin .sub (.t 16) (.c (.i 1))),
 mv 3 17] [0, 3]))))) (
 .seq (
 .reg [
 mv 18 3,
 mv 2 18] [2]) (
 .ret))))
def m_nat_used : MFn := ⟨c_nat_used, [.tmp 2], 0⟩

/-- math/bits.Len64 -/
def c_bits_Len64 : Stm :=
 .seq (
 .reg [
 op 2 (.mov (.c (.i 0)))] [0, 2]) (
 .seq (
 .seq (
 .reg [
 mv 3 0,
 op 4 (.bin .geq (.t 3) (.c (.u 64 4294967296)))] [0, 2, 4]) (
 .cond (.t 4) (
 .seq (
 .reg [
 mv 5 0,
 op 6 (.bin .shr (.t 5) (.c (.u 64 32))),
 mv 0 6] [0]) (
 .reg [
 op 2 (.mov (.c (.i 32)))] [0, 2])) (
 .reg [] [0, 2]))) (
 .seq (
 .seq (
 .reg [
 mv 7 0,
 op 8 (.bin .geq (.t 7) (.c (.u 64 65536)))] [0, 2, 8]) (
 .cond (.t 8) (
 .seq (
 .reg [
 mv 9 0,
 op 10 (.bin .shr (.t 9) (.c (.u 64 16))),
 mv 0 10] [0, 2]) (
 .reg [
 mv 11 2,
 op 12 (.bin .add (.t 11) (.c (.i 16))),
 mv 2 12] [0, 2])) (
 .reg [] [0, 2]))) (
 .seq (
 .seq (
 .reg [
 mv 13 0,
 op 14 (.bin .geq (.t 13) (.c (.u 64 256)))] [0, 2, 14]) (
 .cond (.t 14) (
 .seq (
 .reg [
 mv 15 0,
 op 16 (.bin .shr (.t 15) (.c (.u 64 8))),
 mv 0 16] [0, 2]) (
 .reg [
 mv 17 2,
 op 18 (.bin .add (.t 17) (.c (.i 8))),
 mv 2 18] [0, 2])) (
 .reg [] [0, 2]))) (
 .seq (
 .reg [
 mv 19 2,
 mv 20 0,
 op 21 (.cvu 8 (.t 20)),
 op 22 (.idxb (.c (.s [0, 1, 2, 2, 3, 3, 3, 3, 4, 4, 4, 4, 4, 4, 4, 4, 5, 5, 5, 5, 5, 5, 5, 5, 5, 5, 5, 5, 5, 5, 5, 5, 6, 6, 6, 6, 6, 6, 6, 6, 6, 6, 6, 6, 6, 6, 6, 6, 6, 6, 6, 6, 6, 6, 6, 6, 6, 6, 6, 6, 6, 6, 6, 6, 7, 7, 7, 7, 7, 7, 7, 7, 7, 7, 7, 7, 7, 7, 7, 7, 7, 7, 7, 7, 7, 7, 7, 7, 7, 7, 7, 7, 7, 7, 7, 7, 7, 7, 7, 7, 7, 7, 7, 7, 7, 7, 7, 7, 7, 7, 7, 7, 7, 7, 7, 7, 7, 7, 7, 7, 7, 7, 7, 7, 7, 7, 7, 7, 8, 8, 8, 8, 8, 8, 8, 8, 8, 8, 8, 8, 8, 8, 8, 8, 8, 8, 8, 8, 8, 8, 8, 8, 8, 8, 8, 8, 8, 8, 8, 8, 8, 8, 8, 8, 8, 8, 8, 8, 8, 8, 8, 8, 8, 8, 8, 8, 8, 8, 8, 8, 8, 8, 8, 8, 8, 8, 8, 8, 8, 8, 8, 8, 8, 8, 8, 8, 8, 8, 8, 8, 8, 8, 8, 8, 8, 8, 8, 8, 8, 8, 8, 8, 8, 8, 8, 8, 8, 8, 8, 8, 8, 8, 8, 8, 8, 8, 8, 8, 8, 8, 8, 8, 8, 8, 8, 8, 8, 8, 8, 8, 8, 8, 8, 8, 8, 8, 8, 8, 8, 8, 8, 8, 8, 8, 8, 8])) (.t 21)),
 op 23 (.cvi (.t 22)),
 op 24 (.bin .add (.t 19) (.t 23)),
 mv 2 24] [2]) (
 .ret)))))
def m_bits_Len64 : MFn := ⟨c_bits_Len64, [.tmp 2], 0⟩

/-- curvet/nat.Of -/
def c_nat_Of : Stm :=
 .seq (
 .reg [
 op 2 (.box (.c (.agg [.u 64 0, .u 64 0, .u 64 0, .u 64 0, .u 64 0, .u 64 0, .u 64 0, .u 64 0, .u 64 0]))),
 op 3 (.mov (.c (.i 0)))] [0, 2]) (
 .seq (
 .seq (
 .reg [
 mv 7 0,
 op 8 (.lens (.t 7)),
 op 9 (.bin .gtr (.t 8) (.c (.i 72)))] [0, 2, 9]) (
 .cond (.t 9) (
 .seq (
 .reg [
 op 10 (.build [.u 64 0, .u 64 0, .u 64 0, .u 64 0, .u 64 0, .u 64 0, .u 64 0, .u 64 0, .u 64 0] []),
 ⟨none, none, .stl 2 9 (.t 2) (.t 10)⟩,
 op 3 (.mov (.c (.i 100)))] [2, 3]) (
 .ret)) (
 .reg [] [0, 2]))) (
 .seq (
 .reg [
 op 4 (.box (.c (.agg [.u 64 0, .u 64 0, .u 64 0, .u 64 0, .u 64 0, .u 64 0, .u 64 0, .u 64 0, .u 64 0])))] [0, 2, 4]) (
 .seq (
 .seq (
 .reg [
 mv 11 0,
 op 12 (.lens (.t 11)),
 op 13 (.mov (.c (.i 0)))] [0, 2, 4, 12, 13]) (
 .block 0 (
 .loop [0, 2, 4, 12, 13] (
 .seq (
 .reg [
 op 14 (.bin .lss (.t 13) (.t 12))] [0, 2, 4, 12, 13, 14]) (
 .seq (
 .cond (.t 14) (
 .reg [] [0, 2, 4, 12, 13]) (
 .exit 0 [2, 4])) (
 .seq (
 .block 1 (
 .seq (
 .reg [
 mv 15 13,
 mv 5 15] [0, 2, 4, 5, 12, 13]) (
 .seq (
 .reg [
 mv 16 0,
 op 17 (.lens (.t 16)),
 op 18 (.bin .sub (.t 17) (.c (.i 1))),
 mv 19 5,
 op 20 (.bin .sub (.t 18) (.t 19)),
 mv 6 20] [0, 2, 4, 5, 6, 12, 13]) (
 .reg [
 mv 21 5,
 op 22 (.bin .quo (.t 21) (.c (.i 8))),
 op 23 (.off 0 (.t 4)),
 op 24 (.idx 9 1 (.t 23) (.t 22)),
 op 25 (.ldl 4 none (.t 24)),
 mv 26 0,
 mv 27 6,
 op 28 (.idxb (.t 26) (.t 27)),
 op 29 (.cvu 64 (.t 28)),
 mv 30 5,
 op 31 (.bin .rem (.t 30) (.c (.i 8))),
 op 32 (.bin .mul (.c (.i 8)) (.t 31)),
 op 33 (.bin .shl (.t 29) (.t 32)),
 op 34 (.bin .or (.t 25) (.t 33)),
 op 35 (.off 0 (.t 4)),
 op 36 (.idx 9 1 (.t 35) (.t 22)),
 ⟨none, none, .stl 4 1 (.t 36) (.t 34)⟩] [0, 2, 4, 12, 13])))) (
 .reg [
 op 37 (.bin .add (.t 13) (.c (.i 1))),
 mv 13 37] [0, 2, 4, 12, 13]))))))) (
 .seq (
 .reg [
 op 38 (.ldl 4 (some 9) (.t 4)),
 ⟨none, none, .stl 2 9 (.t 2) (.t 38)⟩,
 op 3 (.mov (.c (.i 0)))] [2, 3]) (
 .ret)))))
def m_nat_Of : MFn := ⟨c_nat_Of, [.cell 2 (some 9), .tmp 3], 0⟩

/-- curvet/nat.Bytes -/
def c_nat_Bytes : Stm :=
 .seq (
 .reg [
 op 2 (.boxv (.t 0)),
 op 4 (.mov (.c (.s []))),
 op 5 (.mov (.c (.i 0)))] [1, 2]) (
 .seq (
 .seq (
 .reg [
 mv 8 1,
 op 9 (.bin .lss (.t 8) (.c (.i 0))),
 mv 10 9,
 ⟨some 11, (some (10, false)), .mov (.t 1)⟩,
 ⟨some 12, (some (10, false)), .bin .gtr (.t 11) (.c (.i 72))⟩,
 op 13 (.pick (.t 10) (.c (.b true)) (.t 12)),
 mv 14 13,
 ⟨some 15, (some (14, false)), .ld true (some 9) (.t 2)⟩,
 ⟨some 16, (some (14, false)), .call f_nat_Bits [] [(.t 15)]⟩,
 ⟨some 17, (some (14, false)), .mov (.t 1)⟩,
 ⟨some 18, (some (14, false)), .bin .mul (.c (.i 8)) (.t 17)⟩,
 ⟨some 19, (some (14, false)), .bin .gtr (.t 16) (.t 18)⟩,
 op 20 (.pick (.t 14) (.c (.b true)) (.t 19))] [1, 2, 20]) (
 .cond (.t 20) (
 .seq (
 .reg [
 op 4 (.mov (.c (.s []))),
 op 5 (.mov (.c (.i 101)))] [4, 5]) (
 .ret)) (
 .reg [] [1, 2]))) (
 .seq (
 .reg [
 mv 21 1,
 op 22 (.mks 1 1 [.u 8 0] (.t 21) (.t 21)),
 mv 6 22] [1, 2, 6]) (
 .seq (
 .seq (
 .reg [
 mv 23 6,
 op 24 (.len (.t 23)),
 op 25 (.mov (.c (.i 0)))] [1, 2, 6, 24, 25]) (
 .block 0 (
 .loop [1, 2, 6, 24, 25] (
 .seq (
 .reg [
 op 26 (.bin .lss (.t 25) (.t 24))] [1, 2, 6, 24, 25, 26]) (
 .seq (
 .cond (.t 26) (
 .reg [] [1, 2, 6, 24, 25]) (
 .exit 0 [6])) (
 .seq (
 .block 1 (
 .seq (
 .reg [
 mv 27 25,
 mv 7 27] [1, 2, 6, 7, 24, 25]) (
 .reg [
 mv 28 6,
 mv 29 1,
 op 30 (.bin .sub (.t 29) (.c (.i 1))),
 mv 31 7,
 op 32 (.bin .sub (.t 30) (.t 31)),
 mv 33 7,
 op 34 (.bin .quo (.t 33) (.c (.i 8))),
 op 35 (.off 0 (.t 2)),
 op 36 (.idx 9 1 (.t 35) (.t 34)),
 op 37 (.ld true none (.t 36)),
 mv 38 7,
 op 39 (.bin .rem (.t 38) (.c (.i 8))),
 op 40 (.bin .mul (.c (.i 8)) (.t 39)),
 op 41 (.bin .shr (.t 37) (.t 40)),
 op 42 (.cvu 8 (.t 41)),
 op 43 (.idxs 1 (.t 28) (.t 32)),
 ⟨none, none, .st 1 (.t 43) (.t 42)⟩] [1, 2, 6, 24, 25]))) (
 .reg [
 op 44 (.bin .add (.t 25) (.c (.i 1))),
 mv 25 44] [1, 2, 6, 24, 25]))))))) (
 .seq (
 .reg [
 mv 45 6,
 op 46 (.b2s false (.t 45)),
 mv 4 46,
 op 5 (.mov (.c (.i 0)))] [4, 5]) (
 .ret)))))
def m_nat_Bytes : MFn := ⟨c_nat_Bytes, [.tmp 4, .tmp 5], 0⟩

/-- curvet/curvetref1.Bytes -/
def c_curvetref1_Bytes : Stm :=
 .seq (
 .reg [
 op 4 (.mov (.c (.s []))),
 op 5 (.mov (.c (.b false)))] [0, 1]) (
 .seq (
 .seq (
 .reg [
 mv 8 1,
 op 9 (.bin .lss (.t 8) (.c (.i 0))),
 mv 10 9,
 ⟨some 11, (some (10, false)), .mov (.t 1)⟩,
 ⟨some 12, (some (10, false)), .bin .gtr (.t 11) (.c (.i 72))⟩,
 op 13 (.pick (.t 10) (.c (.b true)) (.t 12)),
 mv 14 13,
 ⟨some 15, (some (14, false)), .mov (.t 0)⟩,
 ⟨some 16, (some (14, false)), .call f_curvetref1_Bits [] [(.t 15)]⟩,
 ⟨some 17, (some (14, false)), .mov (.t 1)⟩,
 ⟨some 18, (some (14, false)), .bin .mul (.c (.i 8)) (.t 17)⟩,
 ⟨some 19, (some (14, false)), .bin .gtr (.t 16) (.t 18)⟩,
 op 20 (.pick (.t 14) (.c (.b true)) (.t 19))] [0, 1, 20]) (
 .cond (.t 20) (
 .seq (
 .reg [
 op 4 (.mov (.c (.s []))),
 op 5 (.mov (.c (.b false)))] [4, 5]) (
 .ret)) (
 .reg [] [0, 1]))) (
 .seq (
 .reg [
 mv 21 1,
 op 22 (.mks 1 1 [.u 8 0] (.t 21) (.t 21)),
 mv 6 22] [0, 1, 6]) (
 .seq (
 .seq (
 .reg [
 op 7 (.mov (.c (.i 0)))] [0, 1, 6, 7]) (
 .block 0 (
 .loop [0, 1, 6, 7] (
 .seq (
 .seq (
 .reg [
 mv 23 7,
 mv 24 1,
 op 25 (.bin .lss (.t 23) (.t 24))] [0, 1, 6, 7, 25]) (
 .cond (.t 25) (
 .reg [] [0, 1, 6, 7]) (
 .exit 0 [6]))) (
 .seq (
 .block 1 (
 .reg [
 mv 28 6,
 mv 29 1,
 op 30 (.bin .sub (.t 29) (.c (.i 1))),
 mv 31 7,
 op 32 (.bin .sub (.t 30) (.t 31)),
 mv 33 0,
 mv 34 7,
 op 35 (.bin .quo (.t 34) (.c (.i 4))),
 op 36 (.call f_curvetref1_digit [] [(.t 33), (.t 35)]),
 mv 37 7,
 op 38 (.bin .rem (.t 37) (.c (.i 4))),
 op 39 (.bin .mul (.t 38) (.c (.i 8))),
 op 40 (.bin .shr (.t 36) (.t 39)),
 op 41 (.bin .and (.t 40) (.c (.u 64 255))),
 op 42 (.cvu 8 (.t 41)),
 op 43 (.idxs 1 (.t 28) (.t 32)),
 ⟨none, none, .st 1 (.t 43) (.t 42)⟩] [0, 1, 6, 7])) (
 .reg [
 mv 26 7,
 op 27 (.bin .add (.t 26) (.c (.i 1))),
 mv 7 27] [0, 1, 6, 7])))))) (
 .seq (
 .reg [
 mv 44 6,
 op 45 (.b2s false (.t 44)),
 mv 4 45,
 op 5 (.mov (.c (.b true)))] [4, 5]) (
 .ret)))))
def m_curvetref1_Bytes : MFn := ⟨c_curvetref1_Bytes, [.tmp 4, .tmp 5], 0⟩

/-- curvet/curvetref1.Read -/
def c_curvetref1_Read : Stm :=
 .seq (
 .reg [
 op 2 (.mov (.c (.vs 0 [])))] [0]) (
 .seq (
 .reg [
 mv 6 0,
 op 7 (.lens (.t 6)),
 op 8 (.bin .quo (.t 7) (.c (.i 4))),
 op 9 (.bin .add (.t 8) (.c (.i 1))),
 op 10 (.mks 1 4 [.u 32 0] (.t 9) (.t 9)),
 mv 3 10] [0, 3]) (
 .seq (
 .seq (
 .reg [
 op 4 (.mov (.c (.i 0)))] [0, 3, 4]) (
 .block 0 (
 .loop [0, 3, 4] (
 .seq (
 .seq (
 .reg [
 mv 11 4,
 mv 12 0,
 op 13 (.lens (.t 12)),
 op 14 (.bin .lss (.t 11) (.t 13))] [0, 3, 4, 14]) (
 .cond (.t 14) (
 .reg [] [0, 3, 4]) (
 .exit 0 [3]))) (
 .seq (
 .block 1 (
 .seq (
 .reg [
 mv 17 0,
 op 18 (.lens (.t 17)),
 op 19 (.bin .sub (.t 18) (.c (.i 1))),
 mv 20 4,
 op 21 (.bin .sub (.t 19) (.t 20)),
 mv 5 21] [0, 3, 4, 5]) (
 .reg [
 mv 22 3,
 mv 23 5,
 op 24 (.bin .quo (.t 23) (.c (.i 4))),
 mv 25 3,
 mv 26 5,
 op 27 (.bin .quo (.t 26) (.c (.i 4))),
 op 28 (.idxs 1 (.t 25) (.t 27)),
 op 29 (.ld false none (.t 28)),
 mv 30 0,
 mv 31 4,
 op 32 (.idxb (.t 30) (.t 31)),
 op 33 (.cvu 32 (.t 32)),
 mv 34 5,
 op 35 (.bin .rem (.t 34) (.c (.i 4))),
 op 36 (.bin .mul (.t 35) (.c (.i 8))),
 op 37 (.bin .shl (.t 33) (.t 36)),
 op 38 (.bin .or (.t 29) (.t 37)),
 op 39 (.idxs 1 (.t 22) (.t 24)),
 ⟨none, none, .st 1 (.t 39) (.t 38)⟩] [0, 3, 4]))) (
 .reg [
 mv 15 4,
 op 16 (.bin .add (.t 15) (.c (.i 1))),
 mv 4 16] [0, 3, 4])))))) (
 .seq (
 .reg [
 mv 40 3,
 op 41 (.call f_curvetref1_trim [] [(.t 40)]),
 mv 2 41] [2]) (
 .ret))))
def m_curvetref1_Read : MFn := ⟨c_curvetref1_Read, [.tmp 2], 0⟩

/-- curvet/nat.Mul -/
def c_nat_Mul : Stm :=
 .seq (
 .reg [
 op 2 (.boxv (.t 0)),
 op 3 (.boxv (.t 1)),
 op 4 (.box (.c (.agg [.u 64 0, .u 64 0, .u 64 0, .u 64 0, .u 64 0, .u 64 0, .u 64 0, .u 64 0, .u 64 0, .u 64 0, .u 64 0, .u 64 0, .u 64 0, .u 64 0, .u 64 0, .u 64 0, .u 64 0, .u 64 0])))] [2, 3, 4]) (
 .seq (
 .reg [
 op 5 (.box (.c (.agg [.u 64 0, .u 64 0, .u 64 0, .u 64 0, .u 64 0, .u 64 0, .u 64 0, .u 64 0, .u 64 0, .u 64 0, .u 64 0, .u 64 0, .u 64 0, .u 64 0, .u 64 0, .u 64 0, .u 64 0, .u 64 0])))] [2, 3, 4, 5]) (
 .seq (
 .reg [
 op 14 (.call f_nat_used [] [(.t 2)]),
 op 15 (.call f_nat_used [] [(.t 3)]),
 mv 6 14,
 mv 7 15] [2, 3, 4, 5, 6, 7]) (
 .seq (
 .seq (
 .reg [
 mv 16 6,
 op 17 (.mov (.c (.i 0)))] [2, 3, 4, 5, 7, 16, 17]) (
 .block 0 (
 .loop [2, 3, 4, 5, 7, 16, 17] (
 .seq (
 .reg [
 op 18 (.bin .lss (.t 17) (.t 16))] [2, 3, 4, 5, 7, 16, 17, 18]) (
 .seq (
 .cond (.t 18) (
 .reg [] [2, 3, 4, 5, 7, 16, 17]) (
 .exit 0 [4, 5])) (
 .seq (
 .block 1 (
 .seq (
 .reg [
 mv 19 17,
 mv 8 19] [2, 3, 4, 5, 7, 8, 16, 17]) (
 .seq (
 .reg [
 op 9 (.mov (.c (.u 64 0)))] [2, 3, 4, 5, 7, 8, 9, 16, 17]) (
 .seq (
 .seq (
 .reg [
 mv 20 7,
 op 21 (.mov (.c (.i 0)))] [2, 3, 4, 5, 7, 8, 9, 16, 17, 20, 21]) (
 .block 2 (
 .loop [2, 3, 4, 5, 7, 8, 9, 16, 17, 20, 21] (
 .seq (
 .reg [
 op 22 (.bin .lss (.t 21) (.t 20))] [2, 3, 4, 5, 7, 8, 9, 16, 17, 20, 21, 22]) (
 .seq (
 .cond (.t 22) (
 .reg [] [2, 3, 4, 5, 7, 8, 9, 16, 17, 20, 21]) (
 .exit 2 [2, 3, 4, 5, 7, 8, 9, 16, 17])) (
 .seq (
 .block 3 (
 .seq (
 .reg [
 mv 23 21,
 mv 10 23] [2, 3, 4, 5, 7, 8, 9, 10, 16, 17, 20, 21]) (
 .seq (
 .reg [
 mv 25 8,
 op 26 (.off 0 (.t 2)),
 op 27 (.idx 9 1 (.t 26) (.t 25)),
 op 28 (.ld true none (.t 27)),
 mv 29 10,
 op 30 (.off 0 (.t 3)),
 op 31 (.idx 9 1 (.t 30) (.t 29)),
 op 32 (.ld true none (.t 31)),
 op 33 (.call f_bits_Mul64 [] [(.t 28), (.t 32)]),
 mv 24 33,
 op 34 (.ext 0 (.t 24)),
 op 35 (.ext 1 (.t 24)),
 mv 11 34,
 mv 12 35] [2, 3, 4, 5, 7, 8, 9, 10, 11, 12, 16, 17, 20, 21]) (
 .seq (
 .reg [
 op 13 (.mov (.c (.u 64 0)))] [2, 3, 4, 5, 7, 8, 9, 10, 11, 12, 16, 17, 20, 21]) (
 .seq (
 .reg [
 mv 37 12,
 mv 38 8,
 mv 39 10,
 op 40 (.bin .add (.t 38) (.t 39)),
 op 41 (.off 0 (.t 5)),
 op 42 (.idx 18 1 (.t 41) (.t 40)),
 op 43 (.ldl 5 none (.t 42)),
 op 44 (.prim .add64 [(.t 37), (.t 43), (.c (.u 64 0))]),
 mv 36 44,
 op 45 (.ext 0 (.t 36)),
 op 46 (.ext 1 (.t 36)),
 mv 12 45,
 mv 13 46] [2, 3, 4, 5, 7, 8, 9, 10, 11, 12, 13, 16, 17, 20, 21]) (
 .seq (
 .reg [
 mv 47 11,
 mv 48 13,
 op 49 (.bin .add (.t 47) (.t 48)),
 mv 11 49] [2, 3, 4, 5, 7, 8, 9, 10, 11, 12, 16, 17, 20, 21]) (
 .seq (
 .reg [
 mv 51 12,
 mv 52 9,
 op 53 (.prim .add64 [(.t 51), (.t 52), (.c (.u 64 0))]),
 mv 50 53,
 op 54 (.ext 0 (.t 50)),
 op 55 (.ext 1 (.t 50)),
 mv 12 54,
 mv 13 55] [2, 3, 4, 5, 7, 8, 10, 11, 12, 13, 16, 17, 20, 21]) (
 .reg [
 mv 56 8,
 mv 57 10,
 op 58 (.bin .add (.t 56) (.t 57)),
 mv 59 12,
 mv 60 11,
 mv 61 13,
 op 62 (.bin .add (.t 60) (.t 61)),
 op 63 (.off 0 (.t 5)),
 op 64 (.idx 18 1 (.t 63) (.t 58)),
 ⟨none, none, .stl 5 1 (.t 64) (.t 59)⟩,
 mv 9 62] [2, 3, 4, 5, 7, 8, 9, 16, 17, 20, 21])))))))) (
 .reg [
 op 65 (.bin .add (.t 21) (.c (.i 1))),
 mv 21 65] [2, 3, 4, 5, 7, 8, 9, 16, 17, 20, 21]))))))) (
 .reg [
 mv 66 8,
 mv 67 7,
 op 68 (.bin .add (.t 66) (.t 67)),
 mv 69 9,
 op 70 (.off 0 (.t 5)),
 op 71 (.idx 18 1 (.t 70) (.t 68)),
 ⟨none, none, .stl 5 1 (.t 71) (.t 69)⟩] [2, 3, 4, 5, 7, 16, 17]))))) (
 .reg [
 op 72 (.bin .add (.t 17) (.c (.i 1))),
 mv 17 72] [2, 3, 4, 5, 7, 16, 17]))))))) (
 .seq (
 .reg [
 op 73 (.ldl 5 (some 18) (.t 5)),
 ⟨none, none, .stl 4 18 (.t 4) (.t 73)⟩] [4]) (
 .ret)))))
def m_nat_Mul : MFn := ⟨c_nat_Mul, [.cell 4 (some 18)], 0⟩

/-- curvet/nat.Sub -/
def c_nat_Sub : Stm :=
 .seq (
 .reg [
 op 2 (.box (.t 0)),
 op 3 (.boxv (.t 1)),
 op 4 (.box (.c (.agg [.u 64 0, .u 64 0, .u 64 0, .u 64 0, .u 64 0, .u 64 0, .u 64 0, .u 64 0, .u 64 0]))),
 op 5 (.mov (.c (.b false)))] [2, 3, 4]) (
 .seq (
 .reg [
 op 6 (.mov (.c (.u 64 0)))] [2, 3, 4, 6]) (
 .seq (
 .seq (
 .reg [
 op 8 (.mov (.c (.i 0)))] [2, 3, 4, 6, 8]) (
 .block 0 (
 .loop [2, 3, 4, 6, 8] (
 .seq (
 .reg [
 op 9 (.bin .lss (.t 8) (.c (.i 9)))] [2, 3, 4, 6, 8, 9]) (
 .seq (
 .cond (.t 9) (
 .reg [] [2, 3, 4, 6, 8]) (
 .exit 0 [2, 4, 6])) (
 .seq (
 .block 1 (
 .seq (
 .reg [
 mv 10 8,
 mv 7 10] [2, 3, 4, 6, 7, 8]) (
 .reg [
 mv 12 7,
 mv 13 7,
 op 14 (.off 0 (.t 2)),
 op 15 (.idx 9 1 (.t 14) (.t 13)),
 op 16 (.ldl 2 none (.t 15)),
 mv 17 7,
 op 18 (.off 0 (.t 3)),
 op 19 (.idx 9 1 (.t 18) (.t 17)),
 op 20 (.ld true none (.t 19)),
 mv 21 6,
 op 22 (.prim .sub64 [(.t 16), (.t 20), (.t 21)]),
 mv 11 22,
 op 23 (.ext 0 (.t 11)),
 op 24 (.ext 1 (.t 11)),
 op 25 (.off 0 (.t 2)),
 op 26 (.idx 9 1 (.t 25) (.t 12)),
 ⟨none, none, .stl 2 1 (.t 26) (.t 23)⟩,
 mv 6 24] [2, 3, 4, 6, 8]))) (
 .reg [
 op 27 (.bin .add (.t 8) (.c (.i 1))),
 mv 8 27] [2, 3, 4, 6, 8]))))))) (
 .seq (
 .reg [
 op 28 (.ldl 2 (some 9) (.t 2)),
 mv 29 6,
 op 30 (.bin .eql (.t 29) (.c (.u 64 1))),
 ⟨none, none, .stl 4 9 (.t 4) (.t 28)⟩,
 mv 5 30] [4, 5]) (
 .ret))))
def m_nat_Sub : MFn := ⟨c_nat_Sub, [.cell 4 (some 9), .tmp 5], 0⟩

/-- curvet/curvetref1.Cmp -/
def c_curvetref1_Cmp : Stm :=
 .seq (
 .reg [
 op 4 (.mov (.c (.i 0)))] [0, 1]) (
 .seq (
 .seq (
 .reg [
 mv 6 0,
 op 7 (.len (.t 6)),
 mv 8 1,
 op 9 (.len (.t 8)),
 op 10 (.bin .neq (.t 7) (.t 9))] [0, 1, 10]) (
 .cond (.t 10) (
 .seq (
 .seq (
 .reg [
 mv 11 0,
 op 12 (.len (.t 11)),
 mv 13 1,
 op 14 (.len (.t 13)),
 op 15 (.bin .lss (.t 12) (.t 14))] [15]) (
 .cond (.t 15) (
 .seq (
 .reg [
 op 4 (.mov (.c (.i (-1))))] [4]) (
 .ret)) (
 .reg [] []))) (
 .seq (
 .reg [
 op 4 (.mov (.c (.i 1)))] [4]) (
 .ret))) (
 .reg [] [0, 1]))) (
 .seq (
 .seq (
 .reg [
 mv 16 0,
 op 17 (.len (.t 16)),
 op 18 (.bin .sub (.t 17) (.c (.i 1))),
 mv 5 18] [0, 1, 5]) (
 .block 0 (
 .loop [0, 1, 5] (
 .seq (
 .seq (
 .reg [
 mv 19 5,
 op 20 (.bin .geq (.t 19) (.c (.i 0)))] [0, 1, 5, 20]) (
 .cond (.t 20) (
 .reg [] [0, 1, 5]) (
 .exit 0 []))) (
 .seq (
 .block 1 (
 .seq (
 .reg [
 mv 23 0,
 mv 24 5,
 op 25 (.idxs 1 (.t 23) (.t 24)),
 op 26 (.ld false none (.t 25)),
 mv 27 1,
 mv 28 5,
 op 29 (.idxs 1 (.t 27) (.t 28)),
 op 30 (.ld false none (.t 29)),
 op 31 (.bin .neq (.t 26) (.t 30))] [0, 1, 5, 31]) (
 .cond (.t 31) (
 .seq (
 .seq (
 .reg [
 mv 32 0,
 mv 33 5,
 op 34 (.idxs 1 (.t 32) (.t 33)),
 op 35 (.ld false none (.t 34)),
 mv 36 1,
 mv 37 5,
 op 38 (.idxs 1 (.t 36) (.t 37)),
 op 39 (.ld false none (.t 38)),
 op 40 (.bin .lss (.t 35) (.t 39))] [40]) (
 .cond (.t 40) (
 .seq (
 .reg [
 op 4 (.mov (.c (.i (-1))))] [4]) (
 .ret)) (
 .reg [] []))) (
 .seq (
 .reg [
 op 4 (.mov (.c (.i 1)))] [4]) (
 .ret))) (
 .reg [] [0, 1, 5])))) (
 .reg [
 mv 21 5,
 op 22 (.bin .sub (.t 21) (.c (.i 1))),
 mv 5 22] [0, 1, 5])))))) (
 .seq (
 .reg [
 op 4 (.mov (.c (.i 0)))] [4]) (
 .ret))))
def m_curvetref1_Cmp : MFn := ⟨c_curvetref1_Cmp, [.tmp 4], 0⟩

/-- curvet/curvetref1.Sub -/
def c_curvetref1_Sub : Stm :=
 .seq (
 .reg [
 op 4 (.mov (.c (.vs 0 [])))] [0, 1]) (
 .seq (
 .reg [
 mv 9 0,
 op 10 (.len (.t 9)),
 op 11 (.mks 1 4 [.u 32 0] (.t 10) (.t 10)),
 mv 5 11] [0, 1, 5]) (
 .seq (
 .reg [
 op 6 (.mov (.c (.u 64 0)))] [0, 1, 5, 6]) (
 .seq (
 .seq (
 .reg [
 op 7 (.mov (.c (.i 0)))] [0, 1, 5, 6, 7]) (
 .block 0 (
 .loop [0, 1, 5, 6, 7] (
 .seq (
 .seq (
 .reg [
 mv 12 7,
 mv 13 0,
 op 14 (.len (.t 13)),
 op 15 (.bin .lss (.t 12) (.t 14))] [0, 1, 5, 6, 7, 15]) (
 .cond (.t 15) (
 .reg [] [0, 1, 5, 6, 7]) (
 .exit 0 [5]))) (
 .seq (
 .block 1 (
 .seq (
 .reg [
 mv 18 0,
 mv 19 7,
 op 20 (.call f_curvetref1_digit [] [(.t 18), (.t 19)]),
 op 21 (.bin .add (.t 20) (.c (.u 64 4294967296))),
 mv 22 1,
 mv 23 7,
 op 24 (.call f_curvetref1_digit [] [(.t 22), (.t 23)]),
 op 25 (.bin .sub (.t 21) (.t 24)),
 mv 26 6,
 op 27 (.bin .sub (.t 25) (.t 26)),
 mv 8 27] [0, 1, 5, 7, 8]) (
 .seq (
 .reg [
 mv 28 5,
 mv 29 7,
 mv 30 8,
 op 31 (.bin .and (.t 30) (.c (.u 64 4294967295))),
 op 32 (.cvu 32 (.t 31)),
 op 33 (.idxs 1 (.t 28) (.t 29)),
 ⟨none, none, .st 1 (.t 33) (.t 32)⟩] [0, 1, 5, 7, 8]) (
 .reg [
 mv 34 8,
 op 35 (.bin .shr (.t 34) (.c (.u 64 32))),
 op 36 (.bin .sub (.c (.u 64 1)) (.t 35)),
 mv 6 36] [0, 1, 5, 6, 7])))) (
 .reg [
 mv 16 7,
 op 17 (.bin .add (.t 16) (.c (.i 1))),
 mv 7 17] [0, 1, 5, 6, 7])))))) (
 .seq (
 .reg [
 mv 37 5,
 op 38 (.call f_curvetref1_trim [] [(.t 37)]),
 mv 4 38] [4]) (
 .ret)))))
def m_curvetref1_Sub : MFn := ⟨c_curvetref1_Sub, [.tmp 4], 0⟩

/-- curvet/curvetref1.Wide -/
def c_curvetref1_Wide : Stm :=
 .seq (
 .reg [
 op 2 (.box (.c (.agg [.u 64 0, .u 64 0, .u 64 0, .u 64 0, .u 64 0, .u 64 0, .u 64 0, .u 64 0, .u 64 0, .u 64 0, .u 64 0, .u 64 0, .u 64 0, .u 64 0, .u 64 0, .u 64 0, .u 64 0, .u 64 0])))] [0, 2]) (
 .seq (
 .reg [
 op 3 (.box (.c (.agg [.u 64 0, .u 64 0, .u 64 0, .u 64 0, .u 64 0, .u 64 0, .u 64 0, .u 64 0, .u 64 0, .u 64 0, .u 64 0, .u 64 0, .u 64 0, .u 64 0, .u 64 0, .u 64 0, .u 64 0, .u 64 0])))] [0, 2, 3]) (
 .seq (
 .seq (
 .reg [
 op 4 (.mov (.c (.i 0)))] [0, 2, 3, 4]) (
 .block 0 (
 .loop [0, 2, 3, 4] (
 .seq (
 .seq (
 .reg [
 mv 5 4,
 op 6 (.bin .lss (.t 5) (.c (.i 18)))] [0, 2, 3, 4, 6]) (
 .cond (.t 6) (
 .reg [] [0, 2, 3, 4]) (
 .exit 0 [2, 3]))) (
 .seq (
 .block 1 (
 .reg [
 mv 9 4,
 mv 10 0,
 mv 11 4,
 op 12 (.bin .mul (.c (.i 2)) (.t 11)),
 op 13 (.call f_curvetref1_digit [] [(.t 10), (.t 12)]),
 mv 14 0,
 mv 15 4,
 op 16 (.bin .mul (.c (.i 2)) (.t 15)),
 op 17 (.bin .add (.t 16) (.c (.i 1))),
 op 18 (.call f_curvetref1_digit [] [(.t 14), (.t 17)]),
 op 19 (.bin .shl (.t 18) (.c (.u 64 32))),
 op 20 (.bin .or (.t 13) (.t 19)),
 op 21 (.off 0 (.t 3)),
 op 22 (.idx 18 1 (.t 21) (.t 9)),
 ⟨none, none, .stl 3 1 (.t 22) (.t 20)⟩] [0, 2, 3, 4])) (
 .reg [
 mv 7 4,
 op 8 (.bin .add (.t 7) (.c (.i 1))),
 mv 4 8] [0, 2, 3, 4])))))) (
 .seq (
 .reg [
 op 23 (.ldl 3 (some 18) (.t 3)),
 ⟨none, none, .stl 2 18 (.t 2) (.t 23)⟩] [2]) (
 .ret))))
def m_curvetref1_Wide : MFn := ⟨c_curvetref1_Wide, [.cell 2 (some 18)], 0⟩

/-- curvet/curvetref1.Mul -/
def c_curvetref1_Mul : Stm :=
 .seq (
 .reg [
 op 4 (.mov (.c (.vs 0 [])))] [0, 1]) (
 .seq (
 .reg [
 mv 10 0,
 op 11 (.len (.t 10)),
 mv 12 1,
 op 13 (.len (.t 12)),
 op 14 (.bin .add (.t 11) (.t 13)),
 op 15 (.mks 1 4 [.u 32 0] (.t 14) (.t 14)),
 mv 5 15] [0, 1, 5]) (
 .seq (
 .seq (
 .reg [
 op 6 (.mov (.c (.i 0)))] [0, 1, 5, 6]) (
 .block 0 (
 .loop [0, 1, 5, 6] (
 .seq (
 .seq (
 .reg [
 mv 16 6,
 mv 17 0,
 op 18 (.len (.t 17)),
 op 19 (.bin .lss (.t 16) (.t 18))] [0, 1, 5, 6, 19]) (
 .cond (.t 19) (
 .reg [] [0, 1, 5, 6]) (
 .exit 0 [5]))) (
 .seq (
 .block 1 (
 .seq (
 .reg [
 op 7 (.mov (.c (.u 64 0)))] [0, 1, 5, 6, 7]) (
 .seq (
 .seq (
 .reg [
 op 8 (.mov (.c (.i 0)))] [0, 1, 5, 6, 7, 8]) (
 .block 2 (
 .loop [0, 1, 5, 6, 7, 8] (
 .seq (
 .seq (
 .reg [
 mv 22 8,
 mv 23 1,
 op 24 (.len (.t 23)),
 op 25 (.bin .lss (.t 22) (.t 24))] [0, 1, 5, 6, 7, 8, 25]) (
 .cond (.t 25) (
 .reg [] [0, 1, 5, 6, 7, 8]) (
 .exit 2 [0, 1, 5, 6, 7]))) (
 .seq (
 .block 3 (
 .seq (
 .reg [
 mv 28 0,
 mv 29 6,
 op 30 (.idxs 1 (.t 28) (.t 29)),
 op 31 (.ld false none (.t 30)),
 op 32 (.cvu 64 (.t 31)),
 mv 33 1,
 mv 34 8,
 op 35 (.idxs 1 (.t 33) (.t 34)),
 op 36 (.ld false none (.t 35)),
 op 37 (.cvu 64 (.t 36)),
 op 38 (.bin .mul (.t 32) (.t 37)),
 mv 39 5,
 mv 40 6,
 mv 41 8,
 op 42 (.bin .add (.t 40) (.t 41)),
 op 43 (.idxs 1 (.t 39) (.t 42)),
 op 44 (.ld false none (.t 43)),
 op 45 (.cvu 64 (.t 44)),
 op 46 (.bin .add (.t 38) (.t 45)),
 mv 47 7,
 op 48 (.bin .add (.t 46) (.t 47)),
 mv 9 48] [0, 1, 5, 6, 8, 9]) (
 .seq (
 .reg [
 mv 49 5,
 mv 50 6,
 mv 51 8,
 op 52 (.bin .add (.t 50) (.t 51)),
 mv 53 9,
 op 54 (.bin .and (.t 53) (.c (.u 64 4294967295))),
 op 55 (.cvu 32 (.t 54)),
 op 56 (.idxs 1 (.t 49) (.t 52)),
 ⟨none, none, .st 1 (.t 56) (.t 55)⟩] [0, 1, 5, 6, 8, 9]) (
 .reg [
 mv 57 9,
 op 58 (.bin .shr (.t 57) (.c (.u 64 32))),
 mv 7 58] [0, 1, 5, 6, 7, 8])))) (
 .reg [
 mv 26 8,
 op 27 (.bin .add (.t 26) (.c (.i 1))),
 mv 8 27] [0, 1, 5, 6, 7, 8])))))) (
 .reg [
 mv 59 5,
 mv 60 6,
 mv 61 1,
 op 62 (.len (.t 61)),
 op 63 (.bin .add (.t 60) (.t 62)),
 mv 64 7,
 op 65 (.cvu 32 (.t 64)),
 op 66 (.idxs 1 (.t 59) (.t 63)),
 ⟨none, none, .st 1 (.t 66) (.t 65)⟩] [0, 1, 5, 6])))) (
 .reg [
 mv 20 6,
 op 21 (.bin .add (.t 20) (.c (.i 1))),
 mv 6 21] [0, 1, 5, 6])))))) (
 .seq (
 .reg [
 mv 67 5,
 op 68 (.call f_curvetref1_trim [] [(.t 67)]),
 mv 4 68] [4]) (
 .ret))))
def m_curvetref1_Mul : MFn := ⟨c_curvetref1_Mul, [.tmp 4], 0⟩

/-- curvet/nat.Cmp -/
def c_nat_Cmp : Stm :=
 .seq (
 .reg [
 op 2 (.boxv (.t 0)),
 op 3 (.boxv (.t 1)),
 op 4 (.mov (.c (.i 0)))] [2, 3]) (
 .seq (
 .seq (
 .reg [
 op 5 (.mov (.c (.i 8)))] [2, 3, 5]) (
 .block 0 (
 .loop [2, 3, 5] (
 .seq (
 .seq (
 .reg [
 mv 6 5,
 op 7 (.bin .geq (.t 6) (.c (.i 0)))] [2, 3, 5, 7]) (
 .cond (.t 7) (
 .reg [] [2, 3, 5]) (
 .exit 0 []))) (
 .seq (
 .block 1 (
 .block 2 (
 .seq (
 .reg [
 mv 11 5,
 op 12 (.off 0 (.t 2)),
 op 13 (.idx 9 1 (.t 12) (.t 11)),
 op 14 (.ld true none (.t 13)),
 mv 15 5,
 op 16 (.off 0 (.t 3)),
 op 17 (.idx 9 1 (.t 16) (.t 15)),
 op 18 (.ld true none (.t 17)),
 op 19 (.bin .lss (.t 14) (.t 18)),
 mv 10 19] [2, 3, 5, 10]) (
 .cond (.t 10) (
 .seq (
 .reg [
 op 4 (.mov (.c (.i (-1))))] [4]) (
 .ret)) (
 .seq (
 .reg [
 mv 21 5,
 op 22 (.off 0 (.t 2)),
 op 23 (.idx 9 1 (.t 22) (.t 21)),
 op 24 (.ld true none (.t 23)),
 mv 25 5,
 op 26 (.off 0 (.t 3)),
 op 27 (.idx 9 1 (.t 26) (.t 25)),
 op 28 (.ld true none (.t 27)),
 op 29 (.bin .gtr (.t 24) (.t 28)),
 mv 20 29] [2, 3, 5, 20]) (
 .cond (.t 20) (
 .seq (
 .reg [
 op 4 (.mov (.c (.i 1)))] [4]) (
 .ret)) (
 .reg [] [2, 3, 5]))))))) (
 .reg [
 mv 8 5,
 op 9 (.bin .sub (.t 8) (.c (.i 1))),
 mv 5 9] [2, 3, 5])))))) (
 .seq (
 .reg [
 op 4 (.mov (.c (.i 0)))] [4]) (
 .ret)))
def m_nat_Cmp : MFn := ⟨c_nat_Cmp, [.tmp 4], 0⟩

/-- curvet/curvetref1.Bit -/
def c_curvetref1_Bit : Stm :=
 .seq (
 .reg [
 op 4 (.mov (.c (.i 0)))] [0, 1]) (
 .seq (
 .reg [
 mv 5 0,
 mv 6 1,
 op 7 (.bin .quo (.t 6) (.c (.i 32))),
 op 8 (.call f_curvetref1_digit [] [(.t 5), (.t 7)]),
 mv 9 1,
 op 10 (.bin .rem (.t 9) (.c (.i 32))),
 op 11 (.bin .shr (.t 8) (.t 10)),
 op 12 (.bin .and (.t 11) (.c (.u 64 1))),
 op 13 (.cvi (.t 12)),
 mv 4 13] [4]) (
 .ret))
def m_curvetref1_Bit : MFn := ⟨c_curvetref1_Bit, [.tmp 4], 0⟩

/-- curvet/nat.Small -/
def c_nat_Small : Stm :=
 .seq (
 .reg [
 op 2 (.box (.c (.agg [.u 64 0, .u 64 0, .u 64 0, .u 64 0, .u 64 0, .u 64 0, .u 64 0, .u 64 0, .u 64 0])))] [0, 2]) (
 .seq (
 .reg [
 mv 3 0,
 op 4 (.mx (.t 3) (.c (.i 0))),
 op 5 (.cvu 64 (.t 4)),
 op 6 (.build [.u 64 0, .u 64 0, .u 64 0, .u 64 0, .u 64 0, .u 64 0, .u 64 0, .u 64 0, .u 64 0] [(0, 1, (.t 5))]),
 op 7 (.build [.u 64 0, .u 64 0, .u 64 0, .u 64 0, .u 64 0, .u 64 0, .u 64 0, .u 64 0, .u 64 0] [(0, 9, (.t 6))]),
 ⟨none, none, .stl 2 9 (.t 2) (.t 7)⟩] [2]) (
 .ret))
def m_nat_Small : MFn := ⟨c_nat_Small, [.cell 2 (some 9)], 0⟩

/-- math/bits.Mul64 -/
def c_bits_Mul64 : Stm :=
 .seq (
 .reg [
 op 4 (.mov (.c (.u 64 0))),
 op 5 (.mov (.c (.u 64 0)))] [0, 1]) (
 .seq (
 .reg [
 mv 14 0,
 op 15 (.bin .and (.t 14) (.c (.u 64 4294967295))),
 mv 6 15] [0, 1, 6]) (
 .seq (
 .reg [
 mv 16 0,
 op 17 (.bin .shr (.t 16) (.c (.u 64 32))),
 mv 7 17] [0, 1, 6, 7]) (
 .seq (
 .reg [
 mv 18 1,
 op 19 (.bin .and (.t 18) (.c (.u 64 4294967295))),
 mv 8 19] [0, 1, 6, 7, 8]) (
 .seq (
 .reg [
 mv 20 1,
 op 21 (.bin .shr (.t 20) (.c (.u 64 32))),
 mv 9 21] [0, 1, 6, 7, 8, 9]) (
 .seq (
 .reg [
 mv 22 6,
 mv 23 8,
 op 24 (.bin .mul (.t 22) (.t 23)),
 mv 10 24] [0, 1, 6, 7, 8, 9, 10]) (
 .seq (
 .reg [
 mv 25 7,
 mv 26 8,
 op 27 (.bin .mul (.t 25) (.t 26)),
 mv 28 10,
 op 29 (.bin .shr (.t 28) (.c (.u 64 32))),
 op 30 (.bin .add (.t 27) (.t 29)),
 mv 11 30] [0, 1, 6, 7, 9, 11]) (
 .seq (
 .reg [
 mv 31 11,
 op 32 (.bin .and (.t 31) (.c (.u 64 4294967295))),
 mv 12 32] [0, 1, 6, 7, 9, 11, 12]) (
 .seq (
 .reg [
 mv 33 11,
 op 34 (.bin .shr (.t 33) (.c (.u 64 32))),
 mv 13 34] [0, 1, 6, 7, 9, 12, 13]) (
 .seq (
 .reg [
 mv 35 12,
 mv 36 6,
 mv 37 9,
 op 38 (.bin .mul (.t 36) (.t 37)),
 op 39 (.bin .add (.t 35) (.t 38)),
 mv 12 39] [0, 1, 7, 9, 12, 13]) (
 .seq (
 .reg [
 mv 40 7,
 mv 41 9,
 op 42 (.bin .mul (.t 40) (.t 41)),
 mv 43 13,
 op 44 (.bin .add (.t 42) (.t 43)),
 mv 45 12,
 op 46 (.bin .shr (.t 45) (.c (.u 64 32))),
 op 47 (.bin .add (.t 44) (.t 46)),
 mv 4 47] [0, 1, 4]) (
 .seq (
 .reg [
 mv 48 0,
 mv 49 1,
 op 50 (.bin .mul (.t 48) (.t 49)),
 mv 5 50] [4, 5]) (
 .ret))))))))))))
def m_bits_Mul64 : MFn := ⟨c_bits_Mul64, [.tmp 4, .tmp 5], 0⟩

def tab : List (Nat × MFn) := [
 (f_curvetlaw17_Windows, m_curvetlaw17_Windows),
 (f_curvetlaw17_WindowBack, m_curvetlaw17_WindowBack),
 (f_curvetlaw17_WindowWidths, m_curvetlaw17_WindowWidths),
 (f_curvetlaw17_WindowOnes, m_curvetlaw17_WindowOnes),
 (f_curvetlaw17_WindowShifts, m_curvetlaw17_WindowShifts),
 (f_window_Digits, m_window_Digits),
 (f_curvetref13_Digits, m_curvetref13_Digits),
 (f_curvetref1_From, m_curvetref1_From),
 (f_curvetlaw0_LendInts, m_curvetlaw0_LendInts),
 (f_window_Value, m_window_Value),
 (f_curvetref13_Value, m_curvetref13_Value),
 (f_curvetlaw0_SameInts, m_curvetlaw0_SameInts),
 (f_curvetlaw0_Num, m_curvetlaw0_Num),
 (f_curvetref1_Nat, m_curvetref1_Nat),
 (f_curvetlaw0_KeptInts, m_curvetlaw0_KeptInts),
 (f_curvetlaw0_SpoilInts, m_curvetlaw0_SpoilInts),
 (f_curvetlaw17_awake, m_curvetlaw17_awake),
 (f_curvetref1_Bits, m_curvetref1_Bits),
 (f_curvetlaw0_Nat, m_curvetlaw0_Nat),
 (f_nat_Bit, m_nat_Bit),
 (f_nat_Shl, m_nat_Shl),
 (f_nat_Add, m_nat_Add),
 (f_curvetlaw0_One, m_curvetlaw0_One),
 (f_window_wide, m_window_wide),
 (f_nat_Bits, m_nat_Bits),
 (f_nat_Shr, m_nat_Shr),
 (f_curvetref1_Shr, m_curvetref1_Shr),
 (f_curvetref1_trim, m_curvetref1_trim),
 (f_curvetlaw0_CopyInts, m_curvetlaw0_CopyInts),
 (f_curvetref1_Add, m_curvetref1_Add),
 (f_curvetref1_Shl, m_curvetref1_Shl),
 (f_curvetref1_Small, m_curvetref1_Small),
 (f_curvetref1_digit, m_curvetref1_digit),
 (f_nat_used, m_nat_used),
 (f_bits_Len64, m_bits_Len64),
 (f_nat_Of, m_nat_Of),
 (f_nat_Bytes, m_nat_Bytes),
 (f_curvetref1_Bytes, m_curvetref1_Bytes),
 (f_curvetref1_Read, m_curvetref1_Read),
 (f_nat_Mul, m_nat_Mul),
 (f_nat_Sub, m_nat_Sub),
 (f_curvetref1_Cmp, m_curvetref1_Cmp),
 (f_curvetref1_Sub, m_curvetref1_Sub),
 (f_curvetref1_Wide, m_curvetref1_Wide),
 (f_curvetref1_Mul, m_curvetref1_Mul),
 (f_nat_Cmp, m_nat_Cmp),
 (f_curvetref1_Bit, m_curvetref1_Bit),
 (f_nat_Small, m_nat_Small),
 (f_bits_Mul64, m_bits_Mul64)]
def look (f : Nat) : List (Nat × MFn) → Option MFn
 | [] => none
 | (g, m) :: r => bif Nat.beq g f then some m else look f r
def T (f : Nat) : Option MFn := look f tab
end Mir
