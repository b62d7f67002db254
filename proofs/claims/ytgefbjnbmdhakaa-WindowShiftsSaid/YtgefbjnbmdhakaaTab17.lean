/- The functions of the cut, written down in the small language. Conditions: none. -/
import Derived.Test.YtgefbjnbmdhakaaLim
set_option maxRecDepth 100000
namespace Mir

abbrev f_curvetlaw17_Windows : Nat := 99
abbrev f_curvetlaw17_WindowBack : Nat := 100
abbrev f_curvetlaw17_WindowWidths : Nat := 101
abbrev f_curvetlaw17_WindowOnes : Nat := 102
abbrev f_curvetlaw17_WindowShifts : Nat := 103
abbrev f_window_Digits : Nat := 104
abbrev f_curvetref13_Digits : Nat := 105
abbrev f_curvetref1_From : Nat := 14
abbrev f_curvetlaw0_LendInts : Nat := 106
abbrev f_window_Value : Nat := 107
abbrev f_curvetref13_Value : Nat := 108
abbrev f_curvetlaw0_SameInts : Nat := 109
abbrev f_curvetlaw0_Num : Nat := 15
abbrev f_curvetref1_Nat : Nat := 17
abbrev f_curvetlaw0_KeptInts : Nat := 110
abbrev f_curvetlaw0_SpoilInts : Nat := 111
abbrev f_curvetlaw17_awake : Nat := 112
abbrev f_curvetref1_Bits : Nat := 32
abbrev f_curvetlaw0_Nat : Nat := 20
abbrev f_nat_Bit : Nat := 27
abbrev f_nat_Shl : Nat := 26
abbrev f_nat_Add : Nat := 21
abbrev f_curvetlaw0_One : Nat := 24
abbrev f_window_wide : Nat := 113
abbrev f_nat_Bits : Nat := 19
abbrev f_nat_Shr : Nat := 36
abbrev f_curvetref1_Shr : Nat := 40
abbrev f_curvetref1_trim : Nat := 42
abbrev f_curvetlaw0_CopyInts : Nat := 114
abbrev f_curvetref1_Add : Nat := 28
abbrev f_curvetref1_Shl : Nat := 31
abbrev f_curvetref1_Small : Nat := 39
abbrev f_curvetref1_digit : Nat := 41
abbrev f_nat_used : Nat := 43
abbrev f_bits_Len64 : Nat := 44

/-- curvet/curvetlaw17.Windows -/
def c_curvetlaw17_Windows : Stm :=
  .seq (
  .reg [
    ⟨some 4, none, .boxv (.t 0)⟩,
    ⟨some 8, none, .mov (.c (.b false))⟩] [1, 2, 3, 4]) (
  .seq (
  .reg [
    ⟨some 21, none, .ld true (some 9) (.t 4)⟩,
    ⟨some 22, none, .mov (.t 1)⟩,
    ⟨some 23, none, .mov (.t 2)⟩,
    ⟨some 24, none, .call f_window_Digits [] [(.t 21), (.t 22), (.t 23)]⟩,
    ⟨some 20, none, .mov (.t 24)⟩,
    ⟨some 25, none, .ext 0 (.t 20)⟩,
    ⟨some 26, none, .ext 1 (.t 20)⟩,
    ⟨some 9, none, .mov (.t 25)⟩,
    ⟨some 10, none, .mov (.t 26)⟩] [1, 2, 3, 4, 9, 10]) (
  .seq (
  .reg [
    ⟨some 28, none, .ld true (some 9) (.t 4)⟩,
    ⟨some 29, none, .mov (.t 1)⟩,
    ⟨some 30, none, .mov (.t 2)⟩,
    ⟨some 31, none, .call f_window_Digits [] [(.t 28), (.t 29), (.t 30)]⟩,
    ⟨some 27, none, .mov (.t 31)⟩,
    ⟨some 32, none, .ext 0 (.t 27)⟩,
    ⟨some 33, none, .ext 1 (.t 27)⟩,
    ⟨some 11, none, .mov (.t 32)⟩,
    ⟨some 12, none, .mov (.t 33)⟩] [1, 2, 3, 4, 9, 10, 11, 12]) (
  .seq (
  .reg [
    ⟨some 35, none, .ld true (some 9) (.t 4)⟩,
    ⟨some 36, none, .call f_curvetref1_From [] [(.t 35)]⟩,
    ⟨some 37, none, .mov (.t 1)⟩,
    ⟨some 38, none, .mov (.t 2)⟩,
    ⟨some 39, none, .call f_curvetref13_Digits [] [(.t 36), (.t 37), (.t 38)]⟩,
    ⟨some 34, none, .mov (.t 39)⟩,
    ⟨some 40, none, .ext 0 (.t 34)⟩,
    ⟨some 41, none, .ext 1 (.t 34)⟩,
    ⟨some 13, none, .mov (.t 40)⟩,
    ⟨some 14, none, .mov (.t 41)⟩] [2, 3, 9, 10, 11, 12, 13, 14]) (
  .seq (
  .reg [
    ⟨some 42, none, .mov (.t 3)⟩,
    ⟨some 43, none, .call f_curvetlaw0_LendInts [] [(.t 42)]⟩,
    ⟨some 15, none, .mov (.t 43)⟩] [2, 3, 9, 10, 11, 12, 13, 14, 15]) (
  .seq (
  .reg [
    ⟨some 45, none, .mov (.t 15)⟩,
    ⟨some 46, none, .mov (.t 2)⟩,
    ⟨some 47, none, .call f_window_Value [] [(.t 45), (.t 46)]⟩,
    ⟨some 44, none, .mov (.t 47)⟩,
    ⟨some 48, none, .ext 0 (.t 44)⟩,
    ⟨some 49, none, .ext 1 (.t 44)⟩,
    ⟨some 16, none, .box (.c (.agg [.u 64 0, .u 64 0, .u 64 0, .u 64 0, .u 64 0, .u 64 0, .u 64 0, .u 64 0, .u 64 0]))⟩,
    ⟨none, none, .stl 16 9 (.t 16) (.t 48)⟩,
    ⟨some 17, none, .mov (.t 49)⟩] [2, 3, 9, 10, 11, 12, 13, 14, 15, 16, 17]) (
  .seq (
  .reg [
    ⟨some 51, none, .mov (.t 3)⟩,
    ⟨some 52, none, .mov (.t 2)⟩,
    ⟨some 53, none, .call f_curvetref13_Value [] [(.t 51), (.t 52)]⟩,
    ⟨some 50, none, .mov (.t 53)⟩,
    ⟨some 54, none, .ext 0 (.t 50)⟩,
    ⟨some 55, none, .ext 1 (.t 50)⟩,
    ⟨some 18, none, .mov (.t 54)⟩,
    ⟨some 19, none, .mov (.t 55)⟩] [3, 9, 10, 11, 12, 13, 14, 15, 16, 17, 18, 19]) (
  .seq (
  .seq (
  .reg [
    ⟨some 56, none, .mov (.t 9)⟩,
    ⟨some 57, none, .mov (.t 13)⟩,
    ⟨some 58, none, .call f_curvetlaw0_SameInts [] [(.t 56), (.t 57)]⟩,
    ⟨some 59, none, .un .not (.t 58)⟩,
    ⟨some 60, none, .mov (.t 59)⟩,
    ⟨some 61, (some (60, false)), .mov (.t 10)⟩,
    ⟨some 62, (some (60, false)), .call f_curvetlaw0_Num [] [(.t 61)]⟩,
    ⟨some 63, (some (60, false)), .mov (.t 14)⟩,
    ⟨some 64, (some (60, false)), .bin .neq (.t 62) (.t 63)⟩,
    ⟨some 65, none, .pick (.t 60) (.c (.b true)) (.t 64)⟩,
    ⟨some 66, none, .mov (.t 65)⟩,
    ⟨some 67, (some (66, false)), .mov (.t 12)⟩,
    ⟨some 68, (some (66, false)), .call f_curvetlaw0_Num [] [(.t 67)]⟩,
    ⟨some 69, (some (66, false)), .mov (.t 14)⟩,
    ⟨some 70, (some (66, false)), .bin .neq (.t 68) (.t 69)⟩,
    ⟨some 71, none, .pick (.t 66) (.c (.b true)) (.t 70)⟩,
    ⟨some 72, none, .mov (.t 71)⟩,
    ⟨some 73, (some (72, false)), .mov (.t 17)⟩,
    ⟨some 74, (some (72, false)), .call f_curvetlaw0_Num [] [(.t 73)]⟩,
    ⟨some 75, (some (72, false)), .mov (.t 19)⟩,
    ⟨some 76, (some (72, false)), .bin .neq (.t 74) (.t 75)⟩,
    ⟨some 77, none, .pick (.t 72) (.c (.b true)) (.t 76)⟩,
    ⟨some 78, none, .mov (.t 77)⟩,
    ⟨some 79, (some (78, false)), .mov (.t 19)⟩,
    ⟨some 80, (some (78, false)), .bin .eql (.t 79) (.c (.i 0))⟩,
    ⟨some 81, (some (78, false)), .mov (.t 80)⟩,
    ⟨some 82, (some (81, true)), .ldl 16 (some 9) (.t 16)⟩,
    ⟨some 83, (some (81, true)), .mov (.t 18)⟩,
    ⟨some 84, (some (81, true)), .call f_curvetref1_Nat [] [(.t 83)]⟩,
    ⟨some 85, (some (81, true)), .eqv (.agg [.u 64, .u 64, .u 64, .u 64, .u 64, .u 64, .u 64, .u 64, .u 64]) true (.t 82) (.t 84)⟩,
    ⟨some 86, (some (78, false)), .pick (.t 81) (.t 85) (.c (.b false))⟩,
    ⟨some 87, none, .pick (.t 78) (.c (.b true)) (.t 86)⟩,
    ⟨some 88, none, .mov (.t 87)⟩,
    ⟨some 89, (some (88, false)), .mov (.t 19)⟩,
    ⟨some 90, (some (88, false)), .bin .neq (.t 89) (.c (.i 0))⟩,
    ⟨some 91, (some (88, false)), .mov (.t 90)⟩,
    ⟨some 92, (some (91, true)), .ldl 16 (some 9) (.t 16)⟩,
    ⟨some 93, (some (91, true)), .build [.u 64 0, .u 64 0, .u 64 0, .u 64 0, .u 64 0, .u 64 0, .u 64 0, .u 64 0, .u 64 0] []⟩,
    ⟨some 94, (some (91, true)), .eqv (.agg [.u 64, .u 64, .u 64, .u 64, .u 64, .u 64, .u 64, .u 64, .u 64]) true (.t 92) (.t 93)⟩,
    ⟨some 95, (some (88, false)), .pick (.t 91) (.t 94) (.c (.b false))⟩,
    ⟨some 96, none, .pick (.t 88) (.c (.b true)) (.t 95)⟩,
    ⟨some 97, none, .mov (.t 96)⟩,
    ⟨some 98, (some (97, false)), .mov (.t 15)⟩,
    ⟨some 99, (some (97, false)), .mov (.t 3)⟩,
    ⟨some 100, (some (97, false)), .call f_curvetlaw0_KeptInts [] [(.t 98), (.t 99)]⟩,
    ⟨some 101, (some (97, false)), .un .not (.t 100)⟩,
    ⟨some 102, none, .pick (.t 97) (.c (.b true)) (.t 101)⟩] [9, 11, 13, 102]) (
  .cond (.t 102) (
   .seq (
   .reg [
     ⟨some 8, none, .mov (.c (.b false))⟩] [8]) (
   .ret)) (
   .reg [] [9, 11, 13]))) (
  .seq (
  .reg [
    ⟨some 103, none, .mov (.t 9)⟩,
    ⟨some 104, none, .call f_curvetlaw0_SpoilInts [] [(.t 103)]⟩] [11, 13]) (
  .seq (
  .reg [
    ⟨some 105, none, .mov (.t 11)⟩,
    ⟨some 106, none, .mov (.t 13)⟩,
    ⟨some 107, none, .call f_curvetlaw0_SameInts [] [(.t 105), (.t 106)]⟩,
    ⟨some 108, none, .mov (.t 107)⟩,
    ⟨some 109, (some (108, true)), .call f_curvetlaw17_awake [] []⟩,
    ⟨some 110, none, .pick (.t 108) (.t 109) (.c (.b false))⟩,
    ⟨some 8, none, .mov (.t 110)⟩] [8]) (
  .ret))))))))))
def m_curvetlaw17_Windows : MFn := ⟨c_curvetlaw17_Windows, [.tmp 8], 0⟩

/-- curvet/curvetlaw17.WindowBack -/
def c_curvetlaw17_WindowBack : Stm :=
  .seq (
  .reg [
    ⟨some 3, none, .boxv (.t 0)⟩,
    ⟨some 6, none, .mov (.c (.b false))⟩] [1, 2, 3]) (
  .seq (
  .seq (
  .reg [
    ⟨some 15, none, .call f_curvetlaw17_awake [] []⟩,
    ⟨some 16, none, .un .not (.t 15)⟩] [1, 2, 3, 16]) (
  .cond (.t 16) (
   .seq (
   .reg [
     ⟨some 6, none, .mov (.c (.b false))⟩] [6]) (
   .ret)) (
   .reg [] [1, 2, 3]))) (
  .seq (
  .reg [
    ⟨some 17, none, .mov (.t 1)⟩,
    ⟨some 18, none, .cvu 64 (.t 17)⟩,
    ⟨some 19, none, .bin .rem (.t 18) (.c (.u 64 6))⟩,
    ⟨some 20, none, .cvi (.t 19)⟩,
    ⟨some 21, none, .bin .add (.c (.i 1)) (.t 20)⟩,
    ⟨some 7, none, .mov (.t 21)⟩] [2, 3, 7]) (
  .seq (
  .reg [
    ⟨some 22, none, .ld true (some 9) (.t 3)⟩,
    ⟨some 23, none, .call f_curvetref1_From [] [(.t 22)]⟩,
    ⟨some 24, none, .call f_curvetref1_Bits [] [(.t 23)]⟩,
    ⟨some 8, none, .mov (.t 24)⟩] [2, 3, 7, 8]) (
  .seq (
  .reg [
    ⟨some 25, none, .mov (.t 8)⟩,
    ⟨some 26, none, .mov (.t 2)⟩,
    ⟨some 27, none, .bin .and (.t 26) (.c (.i 63))⟩,
    ⟨some 28, none, .bin .add (.t 25) (.t 27)⟩,
    ⟨some 29, none, .mn (.c (.i 576)) (.t 28)⟩,
    ⟨some 9, none, .mov (.t 29)⟩] [3, 7, 9]) (
  .seq (
  .seq (
  .reg [
    ⟨some 30, none, .mov (.t 9)⟩,
    ⟨some 31, none, .bin .eql (.t 30) (.c (.i 0))⟩] [3, 7, 9, 31]) (
  .cond (.t 31) (
   .reg [
     ⟨some 9, none, .mov (.c (.i 1))⟩] [3, 7, 9]) (
   .reg [] [3, 7, 9]))) (
  .seq (
  .reg [
    ⟨some 33, none, .ld true (some 9) (.t 3)⟩,
    ⟨some 34, none, .mov (.t 9)⟩,
    ⟨some 35, none, .mov (.t 7)⟩,
    ⟨some 36, none, .call f_window_Digits [] [(.t 33), (.t 34), (.t 35)]⟩,
    ⟨some 32, none, .mov (.t 36)⟩,
    ⟨some 37, none, .ext 0 (.t 32)⟩,
    ⟨some 38, none, .ext 1 (.t 32)⟩,
    ⟨some 10, none, .mov (.t 37)⟩,
    ⟨some 11, none, .mov (.t 38)⟩] [3, 7, 9, 10, 11]) (
  .seq (
  .reg [
    ⟨some 40, none, .mov (.t 10)⟩,
    ⟨some 41, none, .mov (.t 7)⟩,
    ⟨some 42, none, .call f_window_Value [] [(.t 40), (.t 41)]⟩,
    ⟨some 39, none, .mov (.t 42)⟩,
    ⟨some 43, none, .ext 0 (.t 39)⟩,
    ⟨some 44, none, .ext 1 (.t 39)⟩,
    ⟨some 12, none, .box (.c (.agg [.u 64 0, .u 64 0, .u 64 0, .u 64 0, .u 64 0, .u 64 0, .u 64 0, .u 64 0, .u 64 0]))⟩,
    ⟨none, none, .stl 12 9 (.t 12) (.t 43)⟩,
    ⟨some 13, none, .mov (.t 44)⟩] [3, 7, 9, 10, 11, 12, 13]) (
  .seq (
  .seq (
  .reg [
    ⟨some 14, none, .mov (.c (.i 0))⟩] [3, 7, 9, 10, 11, 12, 13, 14]) (
  .block 0 (
   .loop [3, 7, 9, 10, 11, 12, 13, 14] (
    .seq (
    .seq (
    .reg [
      ⟨some 45, none, .mov (.t 14)⟩,
      ⟨some 46, none, .mov (.t 10)⟩,
      ⟨some 47, none, .len (.t 46)⟩,
      ⟨some 48, none, .bin .lss (.t 45) (.t 47)⟩] [3, 7, 9, 10, 11, 12, 13, 14, 48]) (
    .cond (.t 48) (
     .reg [] [3, 7, 9, 10, 11, 12, 13, 14]) (
     .exit 0 [3, 7, 9, 10, 11, 12, 13]))) (
    .seq (
    .block 1 (
     .seq (
     .reg [
       ⟨some 51, none, .mov (.t 10)⟩,
       ⟨some 52, none, .mov (.t 14)⟩,
       ⟨some 53, none, .idxs 1 (.t 51) (.t 52)⟩,
       ⟨some 54, none, .ld false none (.t 53)⟩,
       ⟨some 55, none, .bin .lss (.t 54) (.c (.i 0))⟩,
       ⟨some 56, none, .mov (.t 55)⟩,
       ⟨some 57, (some (56, false)), .mov (.t 10)⟩,
       ⟨some 58, (some (56, false)), .mov (.t 14)⟩,
       ⟨some 59, (some (56, false)), .idxs 1 (.t 57) (.t 58)⟩,
       ⟨some 60, (some (56, false)), .ld false none (.t 59)⟩,
       ⟨some 61, (some (56, false)), .mov (.t 7)⟩,
       ⟨some 62, (some (56, false)), .bin .shl (.c (.i 1)) (.t 61)⟩,
       ⟨some 63, (some (56, false)), .bin .geq (.t 60) (.t 62)⟩,
       ⟨some 64, none, .pick (.t 56) (.c (.b true)) (.t 63)⟩] [3, 7, 9, 10, 11, 12, 13, 14, 64]) (
     .cond (.t 64) (
      .seq (
      .reg [
        ⟨some 6, none, .mov (.c (.b false))⟩] [6]) (
      .ret)) (
      .reg [] [3, 7, 9, 10, 11, 12, 13, 14])))) (
    .reg [
      ⟨some 49, none, .mov (.t 14)⟩,
      ⟨some 50, none, .bin .add (.t 49) (.c (.i 1))⟩,
      ⟨some 14, none, .mov (.t 50)⟩] [3, 7, 9, 10, 11, 12, 13, 14])))))) (
  .seq (
  .reg [
    ⟨some 65, none, .mov (.t 11)⟩,
    ⟨some 66, none, .call f_curvetlaw0_Num [] [(.t 65)]⟩,
    ⟨some 67, none, .bin .eql (.t 66) (.c (.i 0))⟩,
    ⟨some 68, none, .mov (.t 67)⟩,
    ⟨some 69, (some (68, true)), .mov (.t 13)⟩,
    ⟨some 70, (some (68, true)), .call f_curvetlaw0_Num [] [(.t 69)]⟩,
    ⟨some 71, (some (68, true)), .bin .eql (.t 70) (.c (.i 0))⟩,
    ⟨some 72, none, .pick (.t 68) (.t 71) (.c (.b false))⟩,
    ⟨some 73, none, .mov (.t 72)⟩,
    ⟨some 74, (some (73, true)), .ldl 12 (some 9) (.t 12)⟩,
    ⟨some 75, (some (73, true)), .ld true (some 9) (.t 3)⟩,
    ⟨some 76, (some (73, true)), .eqv (.agg [.u 64, .u 64, .u 64, .u 64, .u 64, .u 64, .u 64, .u 64, .u 64]) false (.t 74) (.t 75)⟩,
    ⟨some 77, none, .pick (.t 73) (.t 76) (.c (.b false))⟩,
    ⟨some 78, none, .mov (.t 77)⟩,
    ⟨some 79, (some (78, true)), .mov (.t 10)⟩,
    ⟨some 80, (some (78, true)), .len (.t 79)⟩,
    ⟨some 81, (some (78, true)), .mov (.t 9)⟩,
    ⟨some 82, (some (78, true)), .mov (.t 7)⟩,
    ⟨some 83, (some (78, true)), .bin .add (.t 81) (.t 82)⟩,
    ⟨some 84, (some (78, true)), .bin .sub (.t 83) (.c (.i 1))⟩,
    ⟨some 85, (some (78, true)), .mov (.t 7)⟩,
    ⟨some 86, (some (78, true)), .bin .quo (.t 84) (.t 85)⟩,
    ⟨some 87, (some (78, true)), .bin .eql (.t 80) (.t 86)⟩,
    ⟨some 88, none, .pick (.t 78) (.t 87) (.c (.b false))⟩,
    ⟨some 6, none, .mov (.t 88)⟩] [6]) (
  .ret))))))))))
def m_curvetlaw17_WindowBack : MFn := ⟨c_curvetlaw17_WindowBack, [.tmp 6], 0⟩

/-- curvet/curvetlaw17.WindowWidths -/
def c_curvetlaw17_WindowWidths : Stm :=
  .seq (
  .reg [
    ⟨some 3, none, .boxv (.t 0)⟩,
    ⟨some 6, none, .mov (.c (.b false))⟩] [1, 2, 3]) (
  .seq (
  .seq (
  .reg [
    ⟨some 15, none, .call f_curvetlaw17_awake [] []⟩,
    ⟨some 16, none, .un .not (.t 15)⟩] [1, 2, 3, 16]) (
  .cond (.t 16) (
   .seq (
   .reg [
     ⟨some 6, none, .mov (.c (.b false))⟩] [6]) (
   .ret)) (
   .reg [] [1, 2, 3]))) (
  .seq (
  .reg [
    ⟨some 17, none, .mov (.t 1)⟩,
    ⟨some 18, none, .cvu 64 (.t 17)⟩,
    ⟨some 19, none, .bin .rem (.t 18) (.c (.u 64 3))⟩,
    ⟨some 20, none, .cvi (.t 19)⟩,
    ⟨some 21, none, .bin .add (.c (.i 1)) (.t 20)⟩,
    ⟨some 7, none, .mov (.t 21)⟩] [2, 3, 7]) (
  .seq (
  .reg [
    ⟨some 22, none, .mov (.t 7)⟩,
    ⟨some 23, none, .bin .mul (.c (.i 2)) (.t 22)⟩,
    ⟨some 24, none, .mov (.t 2)⟩,
    ⟨some 25, none, .cvu 64 (.t 24)⟩,
    ⟨some 26, none, .bin .rem (.t 25) (.c (.u 64 40))⟩,
    ⟨some 27, none, .cvi (.t 26)⟩,
    ⟨some 28, none, .bin .add (.c (.i 1)) (.t 27)⟩,
    ⟨some 29, none, .bin .mul (.t 23) (.t 28)⟩,
    ⟨some 8, none, .mov (.t 29)⟩] [3, 7, 8]) (
  .seq (
  .reg [
    ⟨some 30, none, .off 0 (.t 3)⟩,
    ⟨some 31, none, .ld true (some 9) (.t 30)⟩,
    ⟨some 32, none, .mov (.t 8)⟩,
    ⟨some 33, none, .call f_curvetlaw0_Nat [] [(.t 31), (.t 32)]⟩,
    ⟨some 9, none, .box (.c (.agg [.u 64 0, .u 64 0, .u 64 0, .u 64 0, .u 64 0, .u 64 0, .u 64 0, .u 64 0, .u 64 0]))⟩,
    ⟨none, none, .stl 9 9 (.t 9) (.t 33)⟩] [7, 8, 9]) (
  .seq (
  .reg [
    ⟨some 35, none, .ldl 9 (some 9) (.t 9)⟩,
    ⟨some 36, none, .mov (.t 8)⟩,
    ⟨some 37, none, .mov (.t 7)⟩,
    ⟨some 38, none, .call f_window_Digits [] [(.t 35), (.t 36), (.t 37)]⟩,
    ⟨some 34, none, .mov (.t 38)⟩,
    ⟨some 39, none, .ext 0 (.t 34)⟩,
    ⟨some 40, none, .ext 1 (.t 34)⟩,
    ⟨some 10, none, .mov (.t 39)⟩,
    ⟨some 11, none, .mov (.t 40)⟩] [7, 8, 9, 10, 11]) (
  .seq (
  .reg [
    ⟨some 42, none, .ldl 9 (some 9) (.t 9)⟩,
    ⟨some 43, none, .mov (.t 8)⟩,
    ⟨some 44, none, .mov (.t 7)⟩,
    ⟨some 45, none, .bin .mul (.c (.i 2)) (.t 44)⟩,
    ⟨some 46, none, .call f_window_Digits [] [(.t 42), (.t 43), (.t 45)]⟩,
    ⟨some 41, none, .mov (.t 46)⟩,
    ⟨some 47, none, .ext 0 (.t 41)⟩,
    ⟨some 48, none, .ext 1 (.t 41)⟩,
    ⟨some 12, none, .mov (.t 47)⟩,
    ⟨some 13, none, .mov (.t 48)⟩] [7, 10, 11, 12, 13]) (
  .seq (
  .seq (
  .reg [
    ⟨some 49, none, .mov (.t 11)⟩,
    ⟨some 50, none, .call f_curvetlaw0_Num [] [(.t 49)]⟩,
    ⟨some 51, none, .bin .neq (.t 50) (.c (.i 0))⟩,
    ⟨some 52, none, .mov (.t 51)⟩,
    ⟨some 53, (some (52, false)), .mov (.t 13)⟩,
    ⟨some 54, (some (52, false)), .call f_curvetlaw0_Num [] [(.t 53)]⟩,
    ⟨some 55, (some (52, false)), .bin .neq (.t 54) (.c (.i 0))⟩,
    ⟨some 56, none, .pick (.t 52) (.c (.b true)) (.t 55)⟩,
    ⟨some 57, none, .mov (.t 56)⟩,
    ⟨some 58, (some (57, false)), .mov (.t 10)⟩,
    ⟨some 59, (some (57, false)), .len (.t 58)⟩,
    ⟨some 60, (some (57, false)), .mov (.t 12)⟩,
    ⟨some 61, (some (57, false)), .len (.t 60)⟩,
    ⟨some 62, (some (57, false)), .bin .mul (.c (.i 2)) (.t 61)⟩,
    ⟨some 63, (some (57, false)), .bin .neq (.t 59) (.t 62)⟩,
    ⟨some 64, none, .pick (.t 57) (.c (.b true)) (.t 63)⟩] [7, 10, 12, 64]) (
  .cond (.t 64) (
   .seq (
   .reg [
     ⟨some 6, none, .mov (.c (.b false))⟩] [6]) (
   .ret)) (
   .reg [] [7, 10, 12]))) (
  .seq (
  .seq (
  .reg [
    ⟨some 14, none, .mov (.c (.i 0))⟩] [7, 10, 12, 14]) (
  .block 0 (
   .loop [7, 10, 12, 14] (
    .seq (
    .seq (
    .reg [
      ⟨some 65, none, .mov (.t 14)⟩,
      ⟨some 66, none, .mov (.t 12)⟩,
      ⟨some 67, none, .len (.t 66)⟩,
      ⟨some 68, none, .bin .lss (.t 65) (.t 67)⟩] [7, 10, 12, 14, 68]) (
    .cond (.t 68) (
     .reg [] [7, 10, 12, 14]) (
     .exit 0 []))) (
    .seq (
    .block 1 (
     .seq (
     .reg [
       ⟨some 71, none, .mov (.t 12)⟩,
       ⟨some 72, none, .mov (.t 14)⟩,
       ⟨some 73, none, .idxs 1 (.t 71) (.t 72)⟩,
       ⟨some 74, none, .ld false none (.t 73)⟩,
       ⟨some 75, none, .mov (.t 10)⟩,
       ⟨some 76, none, .mov (.t 14)⟩,
       ⟨some 77, none, .bin .mul (.c (.i 2)) (.t 76)⟩,
       ⟨some 78, none, .idxs 1 (.t 75) (.t 77)⟩,
       ⟨some 79, none, .ld false none (.t 78)⟩,
       ⟨some 80, none, .mov (.t 7)⟩,
       ⟨some 81, none, .bin .shl (.t 79) (.t 80)⟩,
       ⟨some 82, none, .mov (.t 10)⟩,
       ⟨some 83, none, .mov (.t 14)⟩,
       ⟨some 84, none, .bin .mul (.c (.i 2)) (.t 83)⟩,
       ⟨some 85, none, .bin .add (.t 84) (.c (.i 1))⟩,
       ⟨some 86, none, .idxs 1 (.t 82) (.t 85)⟩,
       ⟨some 87, none, .ld false none (.t 86)⟩,
       ⟨some 88, none, .bin .add (.t 81) (.t 87)⟩,
       ⟨some 89, none, .bin .neq (.t 74) (.t 88)⟩] [7, 10, 12, 14, 89]) (
     .cond (.t 89) (
      .seq (
      .reg [
        ⟨some 6, none, .mov (.c (.b false))⟩] [6]) (
      .ret)) (
      .reg [] [7, 10, 12, 14])))) (
    .reg [
      ⟨some 69, none, .mov (.t 14)⟩,
      ⟨some 70, none, .bin .add (.t 69) (.c (.i 1))⟩,
      ⟨some 14, none, .mov (.t 70)⟩] [7, 10, 12, 14])))))) (
  .seq (
  .reg [
    ⟨some 6, none, .mov (.c (.b true))⟩] [6]) (
  .ret))))))))))
def m_curvetlaw17_WindowWidths : MFn := ⟨c_curvetlaw17_WindowWidths, [.tmp 6], 0⟩

/-- curvet/curvetlaw17.WindowOnes -/
def c_curvetlaw17_WindowOnes : Stm :=
  .seq (
  .reg [
    ⟨some 2, none, .boxv (.t 0)⟩,
    ⟨some 4, none, .mov (.c (.b false))⟩] [1, 2]) (
  .seq (
  .seq (
  .reg [
    ⟨some 16, none, .call f_curvetlaw17_awake [] []⟩,
    ⟨some 17, none, .un .not (.t 16)⟩] [1, 2, 17]) (
  .cond (.t 17) (
   .seq (
   .reg [
     ⟨some 4, none, .mov (.c (.b false))⟩] [4]) (
   .ret)) (
   .reg [] [1, 2]))) (
  .seq (
  .reg [
    ⟨some 18, none, .mov (.t 1)⟩,
    ⟨some 19, none, .cvu 64 (.t 18)⟩,
    ⟨some 20, none, .bin .rem (.t 19) (.c (.u 64 576))⟩,
    ⟨some 21, none, .cvi (.t 20)⟩,
    ⟨some 22, none, .bin .add (.c (.i 1)) (.t 21)⟩,
    ⟨some 5, none, .mov (.t 22)⟩] [2, 5]) (
  .seq (
  .reg [
    ⟨some 23, none, .off 0 (.t 2)⟩,
    ⟨some 24, none, .ld true (some 9) (.t 23)⟩,
    ⟨some 25, none, .mov (.t 5)⟩,
    ⟨some 26, none, .call f_curvetlaw0_Nat [] [(.t 24), (.t 25)]⟩,
    ⟨some 6, none, .box (.c (.agg [.u 64 0, .u 64 0, .u 64 0, .u 64 0, .u 64 0, .u 64 0, .u 64 0, .u 64 0, .u 64 0]))⟩,
    ⟨none, none, .stl 6 9 (.t 6) (.t 26)⟩] [5, 6]) (
  .seq (
  .reg [
    ⟨some 28, none, .ldl 6 (some 9) (.t 6)⟩,
    ⟨some 29, none, .mov (.t 5)⟩,
    ⟨some 30, none, .call f_window_Digits [] [(.t 28), (.t 29), (.c (.i 1))]⟩,
    ⟨some 27, none, .mov (.t 30)⟩,
    ⟨some 31, none, .ext 0 (.t 27)⟩,
    ⟨some 32, none, .ext 1 (.t 27)⟩,
    ⟨some 7, none, .mov (.t 31)⟩,
    ⟨some 8, none, .mov (.t 32)⟩] [5, 6, 7, 8]) (
  .seq (
  .seq (
  .reg [
    ⟨some 33, none, .mov (.t 8)⟩,
    ⟨some 34, none, .call f_curvetlaw0_Num [] [(.t 33)]⟩,
    ⟨some 35, none, .bin .neq (.t 34) (.c (.i 0))⟩,
    ⟨some 36, none, .mov (.t 35)⟩,
    ⟨some 37, (some (36, false)), .mov (.t 7)⟩,
    ⟨some 38, (some (36, false)), .len (.t 37)⟩,
    ⟨some 39, (some (36, false)), .mov (.t 5)⟩,
    ⟨some 40, (some (36, false)), .bin .neq (.t 38) (.t 39)⟩,
    ⟨some 41, none, .pick (.t 36) (.c (.b true)) (.t 40)⟩] [5, 6, 7, 41]) (
  .cond (.t 41) (
   .seq (
   .reg [
     ⟨some 4, none, .mov (.c (.b false))⟩] [4]) (
   .ret)) (
   .reg [] [5, 6, 7]))) (
  .seq (
  .seq (
  .reg [
    ⟨some 9, none, .mov (.c (.i 0))⟩] [5, 6, 7, 9]) (
  .block 0 (
   .loop [5, 6, 7, 9] (
    .seq (
    .seq (
    .reg [
      ⟨some 42, none, .mov (.t 9)⟩,
      ⟨some 43, none, .mov (.t 5)⟩,
      ⟨some 44, none, .bin .lss (.t 42) (.t 43)⟩] [5, 6, 7, 9, 44]) (
    .cond (.t 44) (
     .reg [] [5, 6, 7, 9]) (
     .exit 0 [5, 6]))) (
    .seq (
    .block 1 (
     .seq (
     .reg [
       ⟨some 47, none, .mov (.t 7)⟩,
       ⟨some 48, none, .mov (.t 5)⟩,
       ⟨some 49, none, .bin .sub (.t 48) (.c (.i 1))⟩,
       ⟨some 50, none, .mov (.t 9)⟩,
       ⟨some 51, none, .bin .sub (.t 49) (.t 50)⟩,
       ⟨some 52, none, .idxs 1 (.t 47) (.t 51)⟩,
       ⟨some 53, none, .ld true none (.t 52)⟩,
       ⟨some 54, none, .ldl 6 (some 9) (.t 6)⟩,
       ⟨some 55, none, .mov (.t 9)⟩,
       ⟨some 56, none, .call f_nat_Bit [] [(.t 54), (.t 55)]⟩,
       ⟨some 57, none, .bin .neq (.t 53) (.t 56)⟩] [5, 6, 7, 9, 57]) (
     .cond (.t 57) (
      .seq (
      .reg [
        ⟨some 4, none, .mov (.c (.b false))⟩] [4]) (
      .ret)) (
      .reg [] [5, 6, 7, 9])))) (
    .reg [
      ⟨some 45, none, .mov (.t 9)⟩,
      ⟨some 46, none, .bin .add (.t 45) (.c (.i 1))⟩,
      ⟨some 9, none, .mov (.t 46)⟩] [5, 6, 7, 9])))))) (
  .seq (
  .reg [
    ⟨some 59, none, .ldl 6 (some 9) (.t 6)⟩,
    ⟨some 60, none, .call f_window_Digits [] [(.t 59), (.c (.i 0)), (.c (.i 1))]⟩,
    ⟨some 58, none, .mov (.t 60)⟩,
    ⟨some 61, none, .ext 0 (.t 58)⟩,
    ⟨some 62, none, .ext 1 (.t 58)⟩,
    ⟨some 10, none, .mov (.t 61)⟩,
    ⟨some 11, none, .mov (.t 62)⟩] [5, 6, 11]) (
  .seq (
  .reg [
    ⟨some 64, none, .ldl 6 (some 9) (.t 6)⟩,
    ⟨some 65, none, .mov (.t 5)⟩,
    ⟨some 66, none, .call f_window_Digits [] [(.t 64), (.t 65), (.c (.i 7))]⟩,
    ⟨some 63, none, .mov (.t 66)⟩,
    ⟨some 67, none, .ext 0 (.t 63)⟩,
    ⟨some 68, none, .ext 1 (.t 63)⟩,
    ⟨some 12, none, .mov (.t 67)⟩,
    ⟨some 13, none, .mov (.t 68)⟩] [6, 11, 13]) (
  .seq (
  .reg [
    ⟨some 70, none, .ldl 6 (some 9) (.t 6)⟩,
    ⟨some 71, none, .call f_window_Digits [] [(.t 70), (.c (.i 577)), (.c (.i 1))]⟩,
    ⟨some 69, none, .mov (.t 71)⟩,
    ⟨some 72, none, .ext 0 (.t 69)⟩,
    ⟨some 73, none, .ext 1 (.t 69)⟩,
    ⟨some 14, none, .mov (.t 72)⟩,
    ⟨some 15, none, .mov (.t 73)⟩] [11, 13, 15]) (
  .seq (
  .reg [
    ⟨some 74, none, .mov (.t 11)⟩,
    ⟨some 75, none, .call f_curvetlaw0_Num [] [(.t 74)]⟩,
    ⟨some 76, none, .bin .eql (.t 75) (.c (.i 1700))⟩,
    ⟨some 77, none, .mov (.t 76)⟩,
    ⟨some 78, (some (77, true)), .mov (.t 13)⟩,
    ⟨some 79, (some (77, true)), .call f_curvetlaw0_Num [] [(.t 78)]⟩,
    ⟨some 80, (some (77, true)), .bin .eql (.t 79) (.c (.i 1700))⟩,
    ⟨some 81, none, .pick (.t 77) (.t 80) (.c (.b false))⟩,
    ⟨some 82, none, .mov (.t 81)⟩,
    ⟨some 83, (some (82, true)), .mov (.t 15)⟩,
    ⟨some 84, (some (82, true)), .call f_curvetlaw0_Num [] [(.t 83)]⟩,
    ⟨some 85, (some (82, true)), .bin .eql (.t 84) (.c (.i 1700))⟩,
    ⟨some 86, none, .pick (.t 82) (.t 85) (.c (.b false))⟩,
    ⟨some 4, none, .mov (.t 86)⟩] [4]) (
  .ret)))))))))))
def m_curvetlaw17_WindowOnes : MFn := ⟨c_curvetlaw17_WindowOnes, [.tmp 4], 0⟩

/-- curvet/curvetlaw17.WindowShifts -/
def c_curvetlaw17_WindowShifts : Stm :=
  .seq (
  .reg [
    ⟨some 3, none, .boxv (.t 0)⟩,
    ⟨some 6, none, .mov (.c (.b false))⟩] [1, 2, 3]) (
  .seq (
  .seq (
  .reg [
    ⟨some 21, none, .call f_curvetlaw17_awake [] []⟩,
    ⟨some 22, none, .un .not (.t 21)⟩] [1, 2, 3, 22]) (
  .cond (.t 22) (
   .seq (
   .reg [
     ⟨some 6, none, .mov (.c (.b false))⟩] [6]) (
   .ret)) (
   .reg [] [1, 2, 3]))) (
  .seq (
  .reg [
    ⟨some 23, none, .mov (.t 1)⟩,
    ⟨some 24, none, .cvu 64 (.t 23)⟩,
    ⟨some 25, none, .bin .rem (.t 24) (.c (.u 64 6))⟩,
    ⟨some 26, none, .cvi (.t 25)⟩,
    ⟨some 27, none, .bin .add (.c (.i 1)) (.t 26)⟩,
    ⟨some 7, none, .mov (.t 27)⟩] [2, 3, 7]) (
  .seq (
  .reg [
    ⟨some 28, none, .off 0 (.t 3)⟩,
    ⟨some 29, none, .ld true (some 9) (.t 28)⟩,
    ⟨some 30, none, .call f_curvetlaw0_Nat [] [(.t 29), (.c (.i 500))]⟩,
    ⟨some 8, none, .box (.c (.agg [.u 64 0, .u 64 0, .u 64 0, .u 64 0, .u 64 0, .u 64 0, .u 64 0, .u 64 0, .u 64 0]))⟩,
    ⟨none, none, .stl 8 9 (.t 8) (.t 30)⟩] [2, 7, 8]) (
  .seq (
  .reg [
    ⟨some 32, none, .ldl 8 (some 9) (.t 8)⟩,
    ⟨some 33, none, .mov (.t 7)⟩,
    ⟨some 34, none, .call f_window_Digits [] [(.t 32), (.c (.i 500)), (.t 33)]⟩,
    ⟨some 31, none, .mov (.t 34)⟩,
    ⟨some 35, none, .ext 0 (.t 31)⟩,
    ⟨some 36, none, .ext 1 (.t 31)⟩,
    ⟨some 9, none, .mov (.t 35)⟩,
    ⟨some 10, none, .mov (.t 36)⟩] [2, 7, 8, 9, 10]) (
  .seq (
  .reg [
    ⟨some 37, none, .mov (.t 2)⟩,
    ⟨some 38, none, .mov (.t 7)⟩,
    ⟨some 39, none, .bin .shl (.c (.i 1)) (.t 38)⟩,
    ⟨some 40, none, .bin .sub (.t 39) (.c (.i 1))⟩,
    ⟨some 41, none, .bin .and (.t 37) (.t 40)⟩,
    ⟨some 11, none, .mov (.t 41)⟩] [7, 8, 9, 10, 11]) (
  .seq (
  .reg [
    ⟨some 42, none, .lit false 1 0 [] []⟩,
    ⟨some 43, none, .mov (.t 9)⟩,
    ⟨some 44, none, .app 1 8 (.t 42) (.t 43)⟩,
    ⟨some 12, none, .mov (.t 44)⟩] [7, 8, 10, 11, 12]) (
  .seq (
  .reg [
    ⟨some 45, none, .mov (.t 12)⟩,
    ⟨some 46, none, .mov (.t 11)⟩,
    ⟨some 47, none, .lit true 1 1 [.i 0] [(0, 1, (.t 46))]⟩,
    ⟨some 48, none, .app 1 8 (.t 45) (.t 47)⟩,
    ⟨some 12, none, .mov (.t 48)⟩] [7, 8, 10, 11, 12]) (
  .seq (
  .reg [
    ⟨some 50, none, .mov (.t 12)⟩,
    ⟨some 51, none, .mov (.t 7)⟩,
    ⟨some 52, none, .call f_window_Value [] [(.t 50), (.t 51)]⟩,
    ⟨some 49, none, .mov (.t 52)⟩,
    ⟨some 53, none, .ext 0 (.t 49)⟩,
    ⟨some 54, none, .ext 1 (.t 49)⟩,
    ⟨some 13, none, .box (.c (.agg [.u 64 0, .u 64 0, .u 64 0, .u 64 0, .u 64 0, .u 64 0, .u 64 0, .u 64 0, .u 64 0]))⟩,
    ⟨none, none, .stl 13 9 (.t 13) (.t 53)⟩,
    ⟨some 14, none, .mov (.t 54)⟩] [7, 8, 10, 11, 13, 14]) (
  .seq (
  .reg [
    ⟨some 56, none, .ldl 8 (some 9) (.t 8)⟩,
    ⟨some 57, none, .mov (.t 7)⟩,
    ⟨some 58, none, .call f_nat_Shl [] [(.t 56), (.t 57)]⟩,
    ⟨some 55, none, .mov (.t 58)⟩,
    ⟨some 59, none, .ext 0 (.t 55)⟩,
    ⟨some 60, none, .ext 1 (.t 55)⟩,
    ⟨some 15, none, .box (.c (.agg [.u 64 0, .u 64 0, .u 64 0, .u 64 0, .u 64 0, .u 64 0, .u 64 0, .u 64 0, .u 64 0]))⟩,
    ⟨none, none, .stl 15 9 (.t 15) (.t 59)⟩,
    ⟨some 16, none, .mov (.t 60)⟩] [7, 10, 11, 13, 14, 15, 16]) (
  .seq (
  .reg [
    ⟨some 62, none, .ldl 15 (some 9) (.t 15)⟩,
    ⟨some 63, none, .mov (.t 11)⟩,
    ⟨some 64, none, .cvu 64 (.t 63)⟩,
    ⟨some 65, none, .call f_curvetlaw0_One [] [(.t 64)]⟩,
    ⟨some 66, none, .call f_nat_Add [] [(.t 62), (.t 65)]⟩,
    ⟨some 61, none, .mov (.t 66)⟩,
    ⟨some 67, none, .ext 0 (.t 61)⟩,
    ⟨some 68, none, .ext 1 (.t 61)⟩,
    ⟨some 17, none, .box (.c (.agg [.u 64 0, .u 64 0, .u 64 0, .u 64 0, .u 64 0, .u 64 0, .u 64 0, .u 64 0, .u 64 0]))⟩,
    ⟨none, none, .stl 17 9 (.t 17) (.t 67)⟩,
    ⟨some 18, none, .mov (.t 68)⟩] [7, 10, 13, 14, 16, 17]) (
  .seq (
  .reg [
    ⟨some 70, none, .mov (.t 7)⟩,
    ⟨some 71, none, .call f_window_Value [] [(.c (.nils)), (.t 70)]⟩,
    ⟨some 69, none, .mov (.t 71)⟩,
    ⟨some 72, none, .ext 0 (.t 69)⟩,
    ⟨some 73, none, .ext 1 (.t 69)⟩,
    ⟨some 19, none, .box (.c (.agg [.u 64 0, .u 64 0, .u 64 0, .u 64 0, .u 64 0, .u 64 0, .u 64 0, .u 64 0, .u 64 0]))⟩,
    ⟨none, none, .stl 19 9 (.t 19) (.t 72)⟩,
    ⟨some 20, none, .mov (.t 73)⟩] [10, 13, 14, 16, 17, 19, 20]) (
  .seq (
  .reg [
    ⟨some 74, none, .mov (.t 10)⟩,
    ⟨some 75, none, .call f_curvetlaw0_Num [] [(.t 74)]⟩,
    ⟨some 76, none, .bin .eql (.t 75) (.c (.i 0))⟩,
    ⟨some 77, none, .mov (.t 76)⟩,
    ⟨some 78, (some (77, true)), .mov (.t 14)⟩,
    ⟨some 79, (some (77, true)), .call f_curvetlaw0_Num [] [(.t 78)]⟩,
    ⟨some 80, (some (77, true)), .bin .eql (.t 79) (.c (.i 0))⟩,
    ⟨some 81, none, .pick (.t 77) (.t 80) (.c (.b false))⟩,
    ⟨some 82, none, .mov (.t 81)⟩,
    ⟨some 83, (some (82, true)), .mov (.t 16)⟩,
    ⟨some 84, (some (82, true)), .call f_curvetlaw0_Num [] [(.t 83)]⟩,
    ⟨some 85, (some (82, true)), .bin .eql (.t 84) (.c (.i 0))⟩,
    ⟨some 86, none, .pick (.t 82) (.t 85) (.c (.b false))⟩,
    ⟨some 87, none, .mov (.t 86)⟩,
    ⟨some 88, (some (87, true)), .mov (.t 20)⟩,
    ⟨some 89, (some (87, true)), .call f_curvetlaw0_Num [] [(.t 88)]⟩,
    ⟨some 90, (some (87, true)), .bin .eql (.t 89) (.c (.i 0))⟩,
    ⟨some 91, none, .pick (.t 87) (.t 90) (.c (.b false))⟩,
    ⟨some 92, none, .mov (.t 91)⟩,
    ⟨some 93, (some (92, true)), .ldl 13 (some 9) (.t 13)⟩,
    ⟨some 94, (some (92, true)), .ldl 17 (some 9) (.t 17)⟩,
    ⟨some 95, (some (92, true)), .eqv (.agg [.u 64, .u 64, .u 64, .u 64, .u 64, .u 64, .u 64, .u 64, .u 64]) false (.t 93) (.t 94)⟩,
    ⟨some 96, none, .pick (.t 92) (.t 95) (.c (.b false))⟩,
    ⟨some 97, none, .mov (.t 96)⟩,
    ⟨some 98, (some (97, true)), .ldl 19 (some 9) (.t 19)⟩,
    ⟨some 99, (some (97, true)), .build [.u 64 0, .u 64 0, .u 64 0, .u 64 0, .u 64 0, .u 64 0, .u 64 0, .u 64 0, .u 64 0] []⟩,
    ⟨some 100, (some (97, true)), .eqv (.agg [.u 64, .u 64, .u 64, .u 64, .u 64, .u 64, .u 64, .u 64, .u 64]) false (.t 98) (.t 99)⟩,
    ⟨some 101, none, .pick (.t 97) (.t 100) (.c (.b false))⟩,
    ⟨some 6, none, .mov (.t 101)⟩] [6]) (
  .ret)))))))))))))
def m_curvetlaw17_WindowShifts : MFn := ⟨c_curvetlaw17_WindowShifts, [.tmp 6], 0⟩

/-- curvet/window.Digits -/
def c_window_Digits : Stm :=
  .seq (
  .reg [
    ⟨some 3, none, .boxv (.t 0)⟩,
    ⟨some 6, none, .mov (.c (.nils))⟩,
    ⟨some 7, none, .mov (.c (.i 0))⟩] [1, 2, 3]) (
  .seq (
  .seq (
  .reg [
    ⟨some 12, none, .mov (.t 2)⟩,
    ⟨some 13, none, .call f_window_wide [] [(.t 12)]⟩,
    ⟨some 14, none, .un .not (.t 13)⟩,
    ⟨some 15, none, .mov (.t 14)⟩,
    ⟨some 16, (some (15, false)), .mov (.t 1)⟩,
    ⟨some 17, (some (15, false)), .bin .lss (.t 16) (.c (.i 1))⟩,
    ⟨some 18, none, .pick (.t 15) (.c (.b true)) (.t 17)⟩,
    ⟨some 19, none, .mov (.t 18)⟩,
    ⟨some 20, (some (19, false)), .mov (.t 1)⟩,
    ⟨some 21, (some (19, false)), .bin .gtr (.t 20) (.c (.i 576))⟩,
    ⟨some 22, none, .pick (.t 19) (.c (.b true)) (.t 21)⟩,
    ⟨some 23, none, .mov (.t 22)⟩,
    ⟨some 24, (some (23, false)), .ld true (some 9) (.t 3)⟩,
    ⟨some 25, (some (23, false)), .call f_nat_Bits [] [(.t 24)]⟩,
    ⟨some 26, (some (23, false)), .mov (.t 1)⟩,
    ⟨some 27, (some (23, false)), .bin .gtr (.t 25) (.t 26)⟩,
    ⟨some 28, none, .pick (.t 23) (.c (.b true)) (.t 27)⟩] [1, 2, 3, 28]) (
  .cond (.t 28) (
   .seq (
   .reg [
     ⟨some 6, none, .mov (.c (.nils))⟩,
     ⟨some 7, none, .mov (.c (.i 1700))⟩] [6, 7]) (
   .ret)) (
   .reg [] [1, 2, 3]))) (
  .seq (
  .reg [
    ⟨some 8, none, .mov (.c (.nils))⟩] [1, 2, 3, 8]) (
  .seq (
  .seq (
  .reg [
    ⟨some 29, none, .mov (.t 1)⟩,
    ⟨some 30, none, .mov (.t 2)⟩,
    ⟨some 31, none, .bin .add (.t 29) (.t 30)⟩,
    ⟨some 32, none, .bin .sub (.t 31) (.c (.i 1))⟩,
    ⟨some 33, none, .mov (.t 2)⟩,
    ⟨some 34, none, .bin .quo (.t 32) (.t 33)⟩,
    ⟨some 35, none, .bin .sub (.t 34) (.c (.i 1))⟩,
    ⟨some 9, none, .mov (.t 35)⟩] [2, 3, 8, 9]) (
  .block 0 (
   .loop [2, 3, 8, 9] (
    .seq (
    .seq (
    .reg [
      ⟨some 36, none, .mov (.t 9)⟩,
      ⟨some 37, none, .bin .geq (.t 36) (.c (.i 0))⟩] [2, 3, 8, 9, 37]) (
    .cond (.t 37) (
     .reg [] [2, 3, 8, 9]) (
     .exit 0 [8]))) (
    .seq (
    .block 1 (
     .seq (
     .reg [
       ⟨some 41, none, .ld true (some 9) (.t 3)⟩,
       ⟨some 42, none, .mov (.t 9)⟩,
       ⟨some 43, none, .mov (.t 2)⟩,
       ⟨some 44, none, .bin .mul (.t 42) (.t 43)⟩,
       ⟨some 45, none, .mn (.t 44) (.c (.i 576))⟩,
       ⟨some 46, none, .call f_nat_Shr [] [(.t 41), (.t 45)]⟩,
       ⟨some 40, none, .mov (.t 46)⟩,
       ⟨some 47, none, .ext 0 (.t 40)⟩,
       ⟨some 48, none, .ext 1 (.t 40)⟩,
       ⟨some 10, none, .box (.c (.agg [.u 64 0, .u 64 0, .u 64 0, .u 64 0, .u 64 0, .u 64 0, .u 64 0, .u 64 0, .u 64 0]))⟩,
       ⟨none, none, .stl 10 9 (.t 10) (.t 47)⟩,
       ⟨some 11, none, .mov (.t 48)⟩] [2, 3, 8, 9, 10]) (
     .reg [
       ⟨some 49, none, .mov (.t 8)⟩,
       ⟨some 50, none, .off 0 (.t 10)⟩,
       ⟨some 51, none, .idx 9 1 (.t 50) (.c (.i 0))⟩,
       ⟨some 52, none, .ldl 10 none (.t 51)⟩,
       ⟨some 53, none, .mov (.t 2)⟩,
       ⟨some 54, none, .bin .shl (.c (.u 64 1)) (.t 53)⟩,
       ⟨some 55, none, .bin .sub (.t 54) (.c (.u 64 1))⟩,
       ⟨some 56, none, .bin .and (.t 52) (.t 55)⟩,
       ⟨some 57, none, .cvi (.t 56)⟩,
       ⟨some 58, none, .lit true 1 1 [.i 0] [(0, 1, (.t 57))]⟩,
       ⟨some 59, none, .app 1 8 (.t 49) (.t 58)⟩,
       ⟨some 8, none, .mov (.t 59)⟩] [2, 3, 8, 9]))) (
    .reg [
      ⟨some 38, none, .mov (.t 9)⟩,
      ⟨some 39, none, .bin .sub (.t 38) (.c (.i 1))⟩,
      ⟨some 9, none, .mov (.t 39)⟩] [2, 3, 8, 9])))))) (
  .seq (
  .reg [
    ⟨some 60, none, .mov (.t 8)⟩,
    ⟨some 6, none, .mov (.t 60)⟩,
    ⟨some 7, none, .mov (.c (.i 0))⟩] [6, 7]) (
  .ret)))))
def m_window_Digits : MFn := ⟨c_window_Digits, [.tmp 6, .tmp 7], 0⟩

/-- curvet/curvetref13.Digits -/
def c_curvetref13_Digits : Stm :=
  .seq (
  .reg [
    ⟨some 6, none, .mov (.c (.vs 0 []))⟩,
    ⟨some 7, none, .mov (.c (.i 0))⟩] [0, 1, 2]) (
  .seq (
  .seq (
  .reg [
    ⟨some 12, none, .mov (.t 2)⟩,
    ⟨some 13, none, .bin .lss (.t 12) (.c (.i 1))⟩,
    ⟨some 14, none, .mov (.t 13)⟩,
    ⟨some 15, (some (14, false)), .mov (.t 2)⟩,
    ⟨some 16, (some (14, false)), .bin .gtr (.t 15) (.c (.i 6))⟩,
    ⟨some 17, none, .pick (.t 14) (.c (.b true)) (.t 16)⟩,
    ⟨some 18, none, .mov (.t 17)⟩,
    ⟨some 19, (some (18, false)), .mov (.t 1)⟩,
    ⟨some 20, (some (18, false)), .bin .lss (.t 19) (.c (.i 1))⟩,
    ⟨some 21, none, .pick (.t 18) (.c (.b true)) (.t 20)⟩,
    ⟨some 22, none, .mov (.t 21)⟩,
    ⟨some 23, (some (22, false)), .mov (.t 1)⟩,
    ⟨some 24, (some (22, false)), .bin .gtr (.t 23) (.c (.i 576))⟩,
    ⟨some 25, none, .pick (.t 22) (.c (.b true)) (.t 24)⟩,
    ⟨some 26, none, .mov (.t 25)⟩,
    ⟨some 27, (some (26, false)), .mov (.t 0)⟩,
    ⟨some 28, (some (26, false)), .call f_curvetref1_Bits [] [(.t 27)]⟩,
    ⟨some 29, (some (26, false)), .mov (.t 1)⟩,
    ⟨some 30, (some (26, false)), .bin .gtr (.t 28) (.t 29)⟩,
    ⟨some 31, none, .pick (.t 26) (.c (.b true)) (.t 30)⟩] [0, 1, 2, 31]) (
  .cond (.t 31) (
   .seq (
   .reg [
     ⟨some 6, none, .mov (.c (.vs 0 []))⟩,
     ⟨some 7, none, .mov (.c (.i 1700))⟩] [6, 7]) (
   .ret)) (
   .reg [] [0, 1, 2]))) (
  .seq (
  .reg [
    ⟨some 32, none, .mov (.t 1)⟩,
    ⟨some 33, none, .mov (.t 2)⟩,
    ⟨some 34, none, .bin .add (.t 32) (.t 33)⟩,
    ⟨some 35, none, .bin .sub (.t 34) (.c (.i 1))⟩,
    ⟨some 36, none, .mov (.t 2)⟩,
    ⟨some 37, none, .bin .quo (.t 35) (.t 36)⟩,
    ⟨some 8, none, .mov (.t 37)⟩] [0, 2, 8]) (
  .seq (
  .reg [
    ⟨some 38, none, .mov (.t 8)⟩,
    ⟨some 39, none, .mks 1 8 [.i 0] (.t 38) (.t 38)⟩,
    ⟨some 9, none, .mov (.t 39)⟩] [0, 2, 8, 9]) (
  .seq (
  .seq (
  .reg [
    ⟨some 10, none, .mov (.c (.i 0))⟩] [0, 2, 8, 9, 10]) (
  .block 0 (
   .loop [0, 2, 8, 9, 10] (
    .seq (
    .seq (
    .reg [
      ⟨some 40, none, .mov (.t 10)⟩,
      ⟨some 41, none, .mov (.t 8)⟩,
      ⟨some 42, none, .bin .lss (.t 40) (.t 41)⟩] [0, 2, 8, 9, 10, 42]) (
    .cond (.t 42) (
     .reg [] [0, 2, 8, 9, 10]) (
     .exit 0 [9]))) (
    .seq (
    .block 1 (
     .seq (
     .reg [
       ⟨some 45, none, .mov (.t 0)⟩,
       ⟨some 46, none, .mov (.t 2)⟩,
       ⟨some 47, none, .mov (.t 10)⟩,
       ⟨some 48, none, .bin .mul (.t 46) (.t 47)⟩,
       ⟨some 49, none, .call f_curvetref1_Shr [] [(.t 45), (.t 48)]⟩,
       ⟨some 11, none, .mov (.t 49)⟩] [0, 2, 8, 9, 10, 11]) (
     .seq (
     .reg [
       ⟨some 50, none, .mov (.t 11)⟩,
       ⟨some 51, none, .len (.t 50)⟩,
       ⟨some 52, none, .bin .gtr (.t 51) (.c (.i 0))⟩] [0, 2, 8, 9, 10, 11, 52]) (
     .cond (.t 52) (
      .reg [
        ⟨some 53, none, .mov (.t 9)⟩,
        ⟨some 54, none, .mov (.t 8)⟩,
        ⟨some 55, none, .bin .sub (.t 54) (.c (.i 1))⟩,
        ⟨some 56, none, .mov (.t 10)⟩,
        ⟨some 57, none, .bin .sub (.t 55) (.t 56)⟩,
        ⟨some 58, none, .mov (.t 11)⟩,
        ⟨some 59, none, .idxs 1 (.t 58) (.c (.i 0))⟩,
        ⟨some 60, none, .ld false none (.t 59)⟩,
        ⟨some 61, none, .mov (.t 2)⟩,
        ⟨some 62, none, .bin .shl (.c (.u 32 1)) (.t 61)⟩,
        ⟨some 63, none, .bin .sub (.t 62) (.c (.u 32 1))⟩,
        ⟨some 64, none, .bin .and (.t 60) (.t 63)⟩,
        ⟨some 65, none, .cvi (.t 64)⟩,
        ⟨some 66, none, .idxs 1 (.t 53) (.t 57)⟩,
        ⟨none, none, .st 1 (.t 66) (.t 65)⟩] [0, 2, 8, 9, 10]) (
      .reg [] [0, 2, 8, 9, 10]))))) (
    .reg [
      ⟨some 43, none, .mov (.t 10)⟩,
      ⟨some 44, none, .bin .add (.t 43) (.c (.i 1))⟩,
      ⟨some 10, none, .mov (.t 44)⟩] [0, 2, 8, 9, 10])))))) (
  .seq (
  .reg [
    ⟨some 67, none, .mov (.t 9)⟩,
    ⟨some 6, none, .mov (.t 67)⟩,
    ⟨some 7, none, .mov (.c (.i 0))⟩] [6, 7]) (
  .ret))))))
def m_curvetref13_Digits : MFn := ⟨c_curvetref13_Digits, [.tmp 6, .tmp 7], 0⟩

/-- curvet/curvetref1.From -/
def c_curvetref1_From : Stm :=
  .seq (
  .reg [
    ⟨some 1, none, .boxv (.t 0)⟩,
    ⟨some 2, none, .mov (.c (.vs 0 []))⟩] [1]) (
  .seq (
  .reg [
    ⟨some 5, none, .mks 1 4 [.u 32 0] (.c (.i 18)) (.c (.i 18))⟩,
    ⟨some 3, none, .mov (.t 5)⟩] [1, 3]) (
  .seq (
  .seq (
  .reg [
    ⟨some 4, none, .mov (.c (.i 0))⟩] [1, 3, 4]) (
  .block 0 (
   .loop [1, 3, 4] (
    .seq (
    .seq (
    .reg [
      ⟨some 6, none, .mov (.t 4)⟩,
      ⟨some 7, none, .bin .lss (.t 6) (.c (.i 9))⟩] [1, 3, 4, 7]) (
    .cond (.t 7) (
     .reg [] [1, 3, 4]) (
     .exit 0 [3]))) (
    .seq (
    .block 1 (
     .seq (
     .reg [
       ⟨some 10, none, .mov (.t 3)⟩,
       ⟨some 11, none, .mov (.t 4)⟩,
       ⟨some 12, none, .bin .mul (.c (.i 2)) (.t 11)⟩,
       ⟨some 13, none, .mov (.t 4)⟩,
       ⟨some 14, none, .off 0 (.t 1)⟩,
       ⟨some 15, none, .idx 9 1 (.t 14) (.t 13)⟩,
       ⟨some 16, none, .ld true none (.t 15)⟩,
       ⟨some 17, none, .bin .and (.t 16) (.c (.u 64 4294967295))⟩,
       ⟨some 18, none, .cvu 32 (.t 17)⟩,
       ⟨some 19, none, .idxs 1 (.t 10) (.t 12)⟩,
       ⟨none, none, .st 1 (.t 19) (.t 18)⟩] [1, 3, 4]) (
     .reg [
       ⟨some 20, none, .mov (.t 3)⟩,
       ⟨some 21, none, .mov (.t 4)⟩,
       ⟨some 22, none, .bin .mul (.c (.i 2)) (.t 21)⟩,
       ⟨some 23, none, .bin .add (.t 22) (.c (.i 1))⟩,
       ⟨some 24, none, .mov (.t 4)⟩,
       ⟨some 25, none, .off 0 (.t 1)⟩,
       ⟨some 26, none, .idx 9 1 (.t 25) (.t 24)⟩,
       ⟨some 27, none, .ld true none (.t 26)⟩,
       ⟨some 28, none, .bin .shr (.t 27) (.c (.u 64 32))⟩,
       ⟨some 29, none, .cvu 32 (.t 28)⟩,
       ⟨some 30, none, .idxs 1 (.t 20) (.t 23)⟩,
       ⟨none, none, .st 1 (.t 30) (.t 29)⟩] [1, 3, 4]))) (
    .reg [
      ⟨some 8, none, .mov (.t 4)⟩,
      ⟨some 9, none, .bin .add (.t 8) (.c (.i 1))⟩,
      ⟨some 4, none, .mov (.t 9)⟩] [1, 3, 4])))))) (
  .seq (
  .reg [
    ⟨some 31, none, .mov (.t 3)⟩,
    ⟨some 32, none, .call f_curvetref1_trim [] [(.t 31)]⟩,
    ⟨some 2, none, .mov (.t 32)⟩] [2]) (
  .ret))))
def m_curvetref1_From : MFn := ⟨c_curvetref1_From, [.tmp 2], 0⟩

/-- curvet/curvetlaw0.LendInts -/
def c_curvetlaw0_LendInts : Stm :=
  .seq (
  .reg [
    ⟨some 2, none, .mov (.c (.nils))⟩] [0]) (
  .seq (
  .reg [
    ⟨some 4, none, .mov (.t 0)⟩,
    ⟨some 5, none, .call f_curvetlaw0_CopyInts [] [(.t 4)]⟩,
    ⟨some 6, none, .lit true 1 2 [.i 0, .i 0] [(0, 1, (.c (.i (-7777)))), (1, 1, (.c (.i (-8888))))]⟩,
    ⟨some 7, none, .app 1 8 (.t 5) (.t 6)⟩,
    ⟨some 3, none, .mov (.t 7)⟩] [0, 3]) (
  .seq (
  .reg [
    ⟨some 8, none, .mov (.t 3)⟩,
    ⟨some 9, none, .mov (.t 0)⟩,
    ⟨some 10, none, .len (.t 9)⟩,
    ⟨some 11, none, .slv 1 (.t 8) none (some (.t 10))⟩,
    ⟨some 2, none, .mov (.t 11)⟩] [2]) (
  .ret)))
def m_curvetlaw0_LendInts : MFn := ⟨c_curvetlaw0_LendInts, [.tmp 2], 0⟩

/-- curvet/window.Value -/
def c_window_Value : Stm :=
  .seq (
  .reg [
    ⟨some 4, none, .box (.c (.agg [.u 64 0, .u 64 0, .u 64 0, .u 64 0, .u 64 0, .u 64 0, .u 64 0, .u 64 0, .u 64 0]))⟩,
    ⟨some 5, none, .mov (.c (.i 0))⟩] [0, 1, 4]) (
  .seq (
  .seq (
  .reg [
    ⟨some 10, none, .mov (.t 1)⟩,
    ⟨some 11, none, .call f_window_wide [] [(.t 10)]⟩,
    ⟨some 12, none, .un .not (.t 11)⟩] [0, 1, 4, 12]) (
  .cond (.t 12) (
   .seq (
   .reg [
     ⟨some 13, none, .build [.u 64 0, .u 64 0, .u 64 0, .u 64 0, .u 64 0, .u 64 0, .u 64 0, .u 64 0, .u 64 0] []⟩,
     ⟨none, none, .stl 4 9 (.t 4) (.t 13)⟩,
     ⟨some 5, none, .mov (.c (.i 1700))⟩] [4, 5]) (
   .ret)) (
   .reg [] [0, 1, 4]))) (
  .seq (
  .reg [
    ⟨some 6, none, .box (.c (.agg [.u 64 0, .u 64 0, .u 64 0, .u 64 0, .u 64 0, .u 64 0, .u 64 0, .u 64 0, .u 64 0]))⟩] [0, 1, 4, 6]) (
  .seq (
  .reg [
    ⟨some 7, none, .mov (.c (.b true))⟩] [0, 1, 4, 6, 7]) (
  .seq (
  .seq (
  .reg [
    ⟨some 14, none, .mov (.t 0)⟩,
    ⟨some 15, none, .len (.t 14)⟩,
    ⟨some 16, none, .mov (.c (.i 0))⟩] [1, 4, 6, 7, 14, 15, 16]) (
  .block 0 (
   .loop [1, 4, 6, 7, 14, 15, 16] (
    .seq (
    .reg [
      ⟨some 17, none, .bin .lss (.t 16) (.t 15)⟩] [1, 4, 6, 7, 14, 15, 16, 17]) (
    .seq (
    .cond (.t 17) (
     .reg [] [1, 4, 6, 7, 14, 15, 16]) (
     .exit 0 [4, 6, 7])) (
    .seq (
    .block 1 (
     .seq (
     .reg [
       ⟨some 18, none, .idxs 1 (.t 14) (.t 16)⟩,
       ⟨some 19, none, .ld false none (.t 18)⟩,
       ⟨some 9, none, .mov (.t 19)⟩] [1, 4, 6, 7, 9, 14, 15, 16]) (
     .seq (
     .seq (
     .reg [
       ⟨some 20, none, .mov (.t 9)⟩,
       ⟨some 21, none, .bin .lss (.t 20) (.c (.i 0))⟩,
       ⟨some 22, none, .mov (.t 21)⟩,
       ⟨some 23, (some (22, false)), .mov (.t 9)⟩,
       ⟨some 24, (some (22, false)), .mov (.t 1)⟩,
       ⟨some 25, (some (22, false)), .bin .shl (.c (.i 1)) (.t 24)⟩,
       ⟨some 26, (some (22, false)), .bin .geq (.t 23) (.t 25)⟩,
       ⟨some 27, none, .pick (.t 22) (.c (.b true)) (.t 26)⟩] [1, 4, 6, 7, 9, 14, 15, 16, 27]) (
     .cond (.t 27) (
      .seq (
      .reg [
        ⟨some 28, none, .build [.u 64 0, .u 64 0, .u 64 0, .u 64 0, .u 64 0, .u 64 0, .u 64 0, .u 64 0, .u 64 0] []⟩,
        ⟨none, none, .stl 4 9 (.t 4) (.t 28)⟩,
        ⟨some 5, none, .mov (.c (.i 1700))⟩] [4, 5]) (
      .ret)) (
      .reg [] [1, 4, 6, 7, 9, 14, 15, 16]))) (
     .seq (
     .reg [
       ⟨some 29, none, .mov (.t 7)⟩,
       ⟨some 30, none, .mov (.t 29)⟩,
       ⟨some 31, (some (30, true)), .ldl 6 (some 9) (.t 6)⟩,
       ⟨some 32, (some (30, true)), .call f_nat_Bits [] [(.t 31)]⟩,
       ⟨some 33, (some (30, true)), .mov (.t 1)⟩,
       ⟨some 34, (some (30, true)), .bin .sub (.c (.i 576)) (.t 33)⟩,
       ⟨some 35, (some (30, true)), .bin .leq (.t 32) (.t 34)⟩,
       ⟨some 36, none, .pick (.t 30) (.t 35) (.c (.b false))⟩,
       ⟨some 7, none, .mov (.t 36)⟩] [1, 4, 6, 7, 9, 14, 15, 16]) (
     .seq (
     .reg [
       ⟨some 38, none, .ldl 6 (some 9) (.t 6)⟩,
       ⟨some 39, none, .mov (.t 1)⟩,
       ⟨some 40, none, .call f_nat_Shl [] [(.t 38), (.t 39)]⟩,
       ⟨some 37, none, .mov (.t 40)⟩,
       ⟨some 41, none, .ext 0 (.t 37)⟩,
       ⟨some 42, none, .ext 1 (.t 37)⟩,
       ⟨none, none, .stl 6 9 (.t 6) (.t 41)⟩] [1, 4, 6, 7, 9, 14, 15, 16]) (
     .reg [
       ⟨some 43, none, .off 0 (.t 6)⟩,
       ⟨some 44, none, .idx 9 1 (.t 43) (.c (.i 0))⟩,
       ⟨some 45, none, .ldl 6 none (.t 44)⟩,
       ⟨some 46, none, .mov (.t 9)⟩,
       ⟨some 47, none, .cvu 64 (.t 46)⟩,
       ⟨some 48, none, .bin .or (.t 45) (.t 47)⟩,
       ⟨some 49, none, .off 0 (.t 6)⟩,
       ⟨some 50, none, .idx 9 1 (.t 49) (.c (.i 0))⟩,
       ⟨none, none, .stl 6 1 (.t 50) (.t 48)⟩] [1, 4, 6, 7, 14, 15, 16])))))) (
    .reg [
      ⟨some 51, none, .bin .add (.t 16) (.c (.i 1))⟩,
      ⟨some 16, none, .mov (.t 51)⟩] [1, 4, 6, 7, 14, 15, 16]))))))) (
  .seq (
  .seq (
  .reg [
    ⟨some 52, none, .mov (.t 7)⟩,
    ⟨some 53, none, .un .not (.t 52)⟩] [4, 6, 53]) (
  .cond (.t 53) (
   .seq (
   .reg [
     ⟨some 54, none, .build [.u 64 0, .u 64 0, .u 64 0, .u 64 0, .u 64 0, .u 64 0, .u 64 0, .u 64 0, .u 64 0] []⟩,
     ⟨none, none, .stl 4 9 (.t 4) (.t 54)⟩,
     ⟨some 5, none, .mov (.c (.i 1700))⟩] [4, 5]) (
   .ret)) (
   .reg [] [4, 6]))) (
  .seq (
  .reg [
    ⟨some 55, none, .ldl 6 (some 9) (.t 6)⟩,
    ⟨none, none, .stl 4 9 (.t 4) (.t 55)⟩,
    ⟨some 5, none, .mov (.c (.i 0))⟩] [4, 5]) (
  .ret)))))))
def m_window_Value : MFn := ⟨c_window_Value, [.cell 4 (some 9), .tmp 5], 0⟩

/-- curvet/curvetref13.Value -/
def c_curvetref13_Value : Stm :=
  .seq (
  .reg [
    ⟨some 4, none, .mov (.c (.vs 0 []))⟩,
    ⟨some 5, none, .mov (.c (.i 0))⟩] [0, 1]) (
  .seq (
  .seq (
  .reg [
    ⟨some 8, none, .mov (.t 1)⟩,
    ⟨some 9, none, .bin .lss (.t 8) (.c (.i 1))⟩,
    ⟨some 10, none, .mov (.t 9)⟩,
    ⟨some 11, (some (10, false)), .mov (.t 1)⟩,
    ⟨some 12, (some (10, false)), .bin .gtr (.t 11) (.c (.i 6))⟩,
    ⟨some 13, none, .pick (.t 10) (.c (.b true)) (.t 12)⟩] [0, 1, 13]) (
  .cond (.t 13) (
   .seq (
   .reg [
     ⟨some 4, none, .mov (.c (.vs 0 []))⟩,
     ⟨some 5, none, .mov (.c (.i 1700))⟩] [4, 5]) (
   .ret)) (
   .reg [] [0, 1]))) (
  .seq (
  .reg [
    ⟨some 6, none, .mov (.c (.vs 0 []))⟩] [0, 1, 6]) (
  .seq (
  .seq (
  .reg [
    ⟨some 7, none, .mov (.c (.i 0))⟩] [0, 1, 6, 7]) (
  .block 0 (
   .loop [0, 1, 6, 7] (
    .seq (
    .seq (
    .reg [
      ⟨some 14, none, .mov (.t 7)⟩,
      ⟨some 15, none, .mov (.t 0)⟩,
      ⟨some 16, none, .len (.t 15)⟩,
      ⟨some 17, none, .bin .lss (.t 14) (.t 16)⟩] [0, 1, 6, 7, 17]) (
    .cond (.t 17) (
     .reg [] [0, 1, 6, 7]) (
     .exit 0 [6]))) (
    .seq (
    .block 1 (
     .seq (
     .seq (
     .reg [
       ⟨some 20, none, .mov (.t 0)⟩,
       ⟨some 21, none, .mov (.t 7)⟩,
       ⟨some 22, none, .idxs 1 (.t 20) (.t 21)⟩,
       ⟨some 23, none, .ld false none (.t 22)⟩,
       ⟨some 24, none, .bin .lss (.t 23) (.c (.i 0))⟩,
       ⟨some 25, none, .mov (.t 24)⟩,
       ⟨some 26, (some (25, false)), .mov (.t 0)⟩,
       ⟨some 27, (some (25, false)), .mov (.t 7)⟩,
       ⟨some 28, (some (25, false)), .idxs 1 (.t 26) (.t 27)⟩,
       ⟨some 29, (some (25, false)), .ld false none (.t 28)⟩,
       ⟨some 30, (some (25, false)), .mov (.t 1)⟩,
       ⟨some 31, (some (25, false)), .bin .shl (.c (.i 1)) (.t 30)⟩,
       ⟨some 32, (some (25, false)), .bin .geq (.t 29) (.t 31)⟩,
       ⟨some 33, none, .pick (.t 25) (.c (.b true)) (.t 32)⟩] [0, 1, 6, 7, 33]) (
     .cond (.t 33) (
      .seq (
      .reg [
        ⟨some 4, none, .mov (.c (.vs 0 []))⟩,
        ⟨some 5, none, .mov (.c (.i 1700))⟩] [4, 5]) (
      .ret)) (
      .reg [] [0, 1, 6, 7]))) (
     .seq (
     .reg [
       ⟨some 34, none, .mov (.t 6)⟩,
       ⟨some 35, none, .call f_curvetref1_Bits [] [(.t 34)]⟩,
       ⟨some 36, none, .bin .leq (.t 35) (.c (.i 576))⟩] [0, 1, 6, 7, 36]) (
     .cond (.t 36) (
      .reg [
        ⟨some 37, none, .mov (.t 6)⟩,
        ⟨some 38, none, .mov (.t 1)⟩,
        ⟨some 39, none, .call f_curvetref1_Shl [] [(.t 37), (.t 38)]⟩,
        ⟨some 40, none, .mov (.t 0)⟩,
        ⟨some 41, none, .mov (.t 7)⟩,
        ⟨some 42, none, .idxs 1 (.t 40) (.t 41)⟩,
        ⟨some 43, none, .ld true none (.t 42)⟩,
        ⟨some 44, none, .call f_curvetref1_Small [] [(.t 43)]⟩,
        ⟨some 45, none, .call f_curvetref1_Add [] [(.t 39), (.t 44)]⟩,
        ⟨some 6, none, .mov (.t 45)⟩] [0, 1, 6, 7]) (
      .reg [] [0, 1, 6, 7]))))) (
    .reg [
      ⟨some 18, none, .mov (.t 7)⟩,
      ⟨some 19, none, .bin .add (.t 18) (.c (.i 1))⟩,
      ⟨some 7, none, .mov (.t 19)⟩] [0, 1, 6, 7])))))) (
  .seq (
  .seq (
  .reg [
    ⟨some 46, none, .mov (.t 6)⟩,
    ⟨some 47, none, .call f_curvetref1_Bits [] [(.t 46)]⟩,
    ⟨some 48, none, .bin .gtr (.t 47) (.c (.i 576))⟩] [6, 48]) (
  .cond (.t 48) (
   .seq (
   .reg [
     ⟨some 4, none, .mov (.c (.vs 0 []))⟩,
     ⟨some 5, none, .mov (.c (.i 1700))⟩] [4, 5]) (
   .ret)) (
   .reg [] [6]))) (
  .seq (
  .reg [
    ⟨some 49, none, .mov (.t 6)⟩,
    ⟨some 4, none, .mov (.t 49)⟩,
    ⟨some 5, none, .mov (.c (.i 0))⟩] [4, 5]) (
  .ret))))))
def m_curvetref13_Value : MFn := ⟨c_curvetref13_Value, [.tmp 4, .tmp 5], 0⟩

/-- curvet/curvetlaw0.SameInts -/
def c_curvetlaw0_SameInts : Stm :=
  .seq (
  .reg [
    ⟨some 4, none, .mov (.c (.b false))⟩] [0, 1]) (
  .seq (
  .seq (
  .reg [
    ⟨some 6, none, .mov (.t 0)⟩,
    ⟨some 7, none, .len (.t 6)⟩,
    ⟨some 8, none, .mov (.t 1)⟩,
    ⟨some 9, none, .len (.t 8)⟩,
    ⟨some 10, none, .bin .neq (.t 7) (.t 9)⟩] [0, 1, 10]) (
  .cond (.t 10) (
   .seq (
   .reg [
     ⟨some 4, none, .mov (.c (.b false))⟩] [4]) (
   .ret)) (
   .reg [] [0, 1]))) (
  .seq (
  .seq (
  .reg [
    ⟨some 5, none, .mov (.c (.i 0))⟩] [0, 1, 5]) (
  .block 0 (
   .loop [0, 1, 5] (
    .seq (
    .seq (
    .reg [
      ⟨some 11, none, .mov (.t 5)⟩,
      ⟨some 12, none, .mov (.t 0)⟩,
      ⟨some 13, none, .len (.t 12)⟩,
      ⟨some 14, none, .bin .lss (.t 11) (.t 13)⟩] [0, 1, 5, 14]) (
    .cond (.t 14) (
     .reg [] [0, 1, 5]) (
     .exit 0 []))) (
    .seq (
    .block 1 (
     .seq (
     .reg [
       ⟨some 17, none, .mov (.t 0)⟩,
       ⟨some 18, none, .mov (.t 5)⟩,
       ⟨some 19, none, .idxs 1 (.t 17) (.t 18)⟩,
       ⟨some 20, none, .ld false none (.t 19)⟩,
       ⟨some 21, none, .mov (.t 1)⟩,
       ⟨some 22, none, .mov (.t 5)⟩,
       ⟨some 23, none, .idxs 1 (.t 21) (.t 22)⟩,
       ⟨some 24, none, .ld false none (.t 23)⟩,
       ⟨some 25, none, .bin .neq (.t 20) (.t 24)⟩] [0, 1, 5, 25]) (
     .cond (.t 25) (
      .seq (
      .reg [
        ⟨some 4, none, .mov (.c (.b false))⟩] [4]) (
      .ret)) (
      .reg [] [0, 1, 5])))) (
    .reg [
      ⟨some 15, none, .mov (.t 5)⟩,
      ⟨some 16, none, .bin .add (.t 15) (.c (.i 1))⟩,
      ⟨some 5, none, .mov (.t 16)⟩] [0, 1, 5])))))) (
  .seq (
  .reg [
    ⟨some 4, none, .mov (.c (.b true))⟩] [4]) (
  .ret))))
def m_curvetlaw0_SameInts : MFn := ⟨c_curvetlaw0_SameInts, [.tmp 4], 0⟩

/-- curvet/curvetlaw0.Num -/
def c_curvetlaw0_Num : Stm :=
  .seq (
  .reg [
    ⟨some 2, none, .mov (.c (.i 0))⟩] [0]) (
  .seq (
  .reg [
    ⟨some 3, none, .mov (.t 0)⟩,
    ⟨some 2, none, .mov (.t 3)⟩] [2]) (
  .ret))
def m_curvetlaw0_Num : MFn := ⟨c_curvetlaw0_Num, [.tmp 2], 0⟩

/-- curvet/curvetref1.Nat -/
def c_curvetref1_Nat : Stm :=
  .seq (
  .reg [
    ⟨some 2, none, .box (.c (.agg [.u 64 0, .u 64 0, .u 64 0, .u 64 0, .u 64 0, .u 64 0, .u 64 0, .u 64 0, .u 64 0]))⟩] [0, 2]) (
  .seq (
  .reg [
    ⟨some 3, none, .box (.c (.agg [.u 64 0, .u 64 0, .u 64 0, .u 64 0, .u 64 0, .u 64 0, .u 64 0, .u 64 0, .u 64 0]))⟩] [0, 2, 3]) (
  .seq (
  .seq (
  .reg [
    ⟨some 4, none, .mov (.c (.i 0))⟩] [0, 2, 3, 4]) (
  .block 0 (
   .loop [0, 2, 3, 4] (
    .seq (
    .seq (
    .reg [
      ⟨some 5, none, .mov (.t 4)⟩,
      ⟨some 6, none, .bin .lss (.t 5) (.c (.i 9))⟩] [0, 2, 3, 4, 6]) (
    .cond (.t 6) (
     .reg [] [0, 2, 3, 4]) (
     .exit 0 [2, 3]))) (
    .seq (
    .block 1 (
     .reg [
       ⟨some 9, none, .mov (.t 4)⟩,
       ⟨some 10, none, .mov (.t 0)⟩,
       ⟨some 11, none, .mov (.t 4)⟩,
       ⟨some 12, none, .bin .mul (.c (.i 2)) (.t 11)⟩,
       ⟨some 13, none, .call f_curvetref1_digit [] [(.t 10), (.t 12)]⟩,
       ⟨some 14, none, .mov (.t 0)⟩,
       ⟨some 15, none, .mov (.t 4)⟩,
       ⟨some 16, none, .bin .mul (.c (.i 2)) (.t 15)⟩,
       ⟨some 17, none, .bin .add (.t 16) (.c (.i 1))⟩,
       ⟨some 18, none, .call f_curvetref1_digit [] [(.t 14), (.t 17)]⟩,
       ⟨some 19, none, .bin .shl (.t 18) (.c (.u 64 32))⟩,
       ⟨some 20, none, .bin .or (.t 13) (.t 19)⟩,
       ⟨some 21, none, .off 0 (.t 3)⟩,
       ⟨some 22, none, .idx 9 1 (.t 21) (.t 9)⟩,
       ⟨none, none, .stl 3 1 (.t 22) (.t 20)⟩] [0, 2, 3, 4])) (
    .reg [
      ⟨some 7, none, .mov (.t 4)⟩,
      ⟨some 8, none, .bin .add (.t 7) (.c (.i 1))⟩,
      ⟨some 4, none, .mov (.t 8)⟩] [0, 2, 3, 4])))))) (
  .seq (
  .reg [
    ⟨some 23, none, .ldl 3 (some 9) (.t 3)⟩,
    ⟨none, none, .stl 2 9 (.t 2) (.t 23)⟩] [2]) (
  .ret))))
def m_curvetref1_Nat : MFn := ⟨c_curvetref1_Nat, [.cell 2 (some 9)], 0⟩

/-- curvet/curvetlaw0.KeptInts -/
def c_curvetlaw0_KeptInts : Stm :=
  .seq (
  .reg [
    ⟨some 4, none, .mov (.c (.b false))⟩] [0, 1]) (
  .seq (
  .reg [
    ⟨some 6, none, .mov (.t 0)⟩,
    ⟨some 7, none, .mov (.t 0)⟩,
    ⟨some 8, none, .len (.t 7)⟩,
    ⟨some 9, none, .bin .add (.t 8) (.c (.i 2))⟩,
    ⟨some 10, none, .slv 1 (.t 6) none (some (.t 9))⟩,
    ⟨some 5, none, .mov (.t 10)⟩] [0, 1, 5]) (
  .seq (
  .reg [
    ⟨some 11, none, .mov (.t 0)⟩,
    ⟨some 12, none, .mov (.t 1)⟩,
    ⟨some 13, none, .call f_curvetlaw0_SameInts [] [(.t 11), (.t 12)]⟩,
    ⟨some 14, none, .mov (.t 13)⟩,
    ⟨some 15, (some (14, true)), .mov (.t 5)⟩,
    ⟨some 16, (some (14, true)), .mov (.t 1)⟩,
    ⟨some 17, (some (14, true)), .len (.t 16)⟩,
    ⟨some 18, (some (14, true)), .idxs 1 (.t 15) (.t 17)⟩,
    ⟨some 19, (some (14, true)), .ld false none (.t 18)⟩,
    ⟨some 20, (some (14, true)), .bin .eql (.t 19) (.c (.i (-7777)))⟩,
    ⟨some 21, none, .pick (.t 14) (.t 20) (.c (.b false))⟩,
    ⟨some 22, none, .mov (.t 21)⟩,
    ⟨some 23, (some (22, true)), .mov (.t 5)⟩,
    ⟨some 24, (some (22, true)), .mov (.t 1)⟩,
    ⟨some 25, (some (22, true)), .len (.t 24)⟩,
    ⟨some 26, (some (22, true)), .bin .add (.t 25) (.c (.i 1))⟩,
    ⟨some 27, (some (22, true)), .idxs 1 (.t 23) (.t 26)⟩,
    ⟨some 28, (some (22, true)), .ld false none (.t 27)⟩,
    ⟨some 29, (some (22, true)), .bin .eql (.t 28) (.c (.i (-8888)))⟩,
    ⟨some 30, none, .pick (.t 22) (.t 29) (.c (.b false))⟩,
    ⟨some 4, none, .mov (.t 30)⟩] [4]) (
  .ret)))
def m_curvetlaw0_KeptInts : MFn := ⟨c_curvetlaw0_KeptInts, [.tmp 4], 0⟩

/-- curvet/curvetlaw0.SpoilInts -/
def c_curvetlaw0_SpoilInts : Stm :=
  .seq (
  .reg [
    ⟨some 2, none, .mov (.c (.i 0))⟩] [0, 2]) (
  .block 0 (
   .loop [0, 2] (
    .seq (
    .seq (
    .reg [
      ⟨some 3, none, .mov (.t 2)⟩,
      ⟨some 4, none, .mov (.t 0)⟩,
      ⟨some 5, none, .len (.t 4)⟩,
      ⟨some 6, none, .bin .lss (.t 3) (.t 5)⟩] [0, 2, 6]) (
    .cond (.t 6) (
     .reg [] [0, 2]) (
     .exit 0 []))) (
    .seq (
    .block 1 (
     .reg [
       ⟨some 9, none, .mov (.t 0)⟩,
       ⟨some 10, none, .mov (.t 2)⟩,
       ⟨some 11, none, .mov (.t 0)⟩,
       ⟨some 12, none, .mov (.t 2)⟩,
       ⟨some 13, none, .idxs 1 (.t 11) (.t 12)⟩,
       ⟨some 14, none, .ld false none (.t 13)⟩,
       ⟨some 15, none, .bin .sub (.c (.i (-9))) (.t 14)⟩,
       ⟨some 16, none, .idxs 1 (.t 9) (.t 10)⟩,
       ⟨none, none, .st 1 (.t 16) (.t 15)⟩] [0, 2])) (
    .reg [
      ⟨some 7, none, .mov (.t 2)⟩,
      ⟨some 8, none, .bin .add (.t 7) (.c (.i 1))⟩,
      ⟨some 2, none, .mov (.t 8)⟩] [0, 2])))))
def m_curvetlaw0_SpoilInts : MFn := ⟨c_curvetlaw0_SpoilInts, [], 0⟩

/-- curvet/curvetlaw17.awake -/
def c_curvetlaw17_awake : Stm :=
  .seq (
  .reg [
    ⟨some 0, none, .mov (.c (.b false))⟩] []) (
  .seq (
  .reg [
    ⟨some 10, none, .call f_curvetlaw0_One [] [(.c (.u 64 43))]⟩,
    ⟨some 11, none, .call f_window_Digits [] [(.t 10), (.c (.i 8)), (.c (.i 4))]⟩,
    ⟨some 9, none, .mov (.t 11)⟩,
    ⟨some 12, none, .ext 0 (.t 9)⟩,
    ⟨some 13, none, .ext 1 (.t 9)⟩,
    ⟨some 1, none, .mov (.t 12)⟩,
    ⟨some 2, none, .mov (.t 13)⟩] [1, 2]) (
  .seq (
  .reg [
    ⟨some 15, none, .lit true 1 2 [.i 0, .i 0] [(0, 1, (.c (.i 2))), (1, 1, (.c (.i 11)))]⟩,
    ⟨some 16, none, .call f_window_Value [] [(.t 15), (.c (.i 4))]⟩,
    ⟨some 14, none, .mov (.t 16)⟩,
    ⟨some 17, none, .ext 0 (.t 14)⟩,
    ⟨some 18, none, .ext 1 (.t 14)⟩,
    ⟨some 3, none, .box (.c (.agg [.u 64 0, .u 64 0, .u 64 0, .u 64 0, .u 64 0, .u 64 0, .u 64 0, .u 64 0, .u 64 0]))⟩,
    ⟨none, none, .stl 3 9 (.t 3) (.t 17)⟩,
    ⟨some 4, none, .mov (.t 18)⟩] [1, 2, 3, 4]) (
  .seq (
  .reg [
    ⟨some 20, none, .call f_curvetlaw0_One [] [(.c (.u 64 256))]⟩,
    ⟨some 21, none, .call f_window_Digits [] [(.t 20), (.c (.i 8)), (.c (.i 4))]⟩,
    ⟨some 19, none, .mov (.t 21)⟩,
    ⟨some 22, none, .ext 0 (.t 19)⟩,
    ⟨some 23, none, .ext 1 (.t 19)⟩,
    ⟨some 5, none, .mov (.t 22)⟩,
    ⟨some 6, none, .mov (.t 23)⟩] [1, 2, 3, 4, 6]) (
  .seq (
  .reg [
    ⟨some 25, none, .lit true 1 1 [.i 0] [(0, 1, (.c (.i 16)))]⟩,
    ⟨some 26, none, .call f_window_Value [] [(.t 25), (.c (.i 4))]⟩,
    ⟨some 24, none, .mov (.t 26)⟩,
    ⟨some 27, none, .ext 0 (.t 24)⟩,
    ⟨some 28, none, .ext 1 (.t 24)⟩,
    ⟨some 7, none, .box (.c (.agg [.u 64 0, .u 64 0, .u 64 0, .u 64 0, .u 64 0, .u 64 0, .u 64 0, .u 64 0, .u 64 0]))⟩,
    ⟨none, none, .stl 7 9 (.t 7) (.t 27)⟩,
    ⟨some 8, none, .mov (.t 28)⟩] [1, 2, 3, 4, 6, 8]) (
  .seq (
  .reg [
    ⟨some 29, none, .mov (.t 2)⟩,
    ⟨some 30, none, .call f_curvetlaw0_Num [] [(.t 29)]⟩,
    ⟨some 31, none, .bin .eql (.t 30) (.c (.i 0))⟩,
    ⟨some 32, none, .mov (.t 31)⟩,
    ⟨some 33, (some (32, true)), .mov (.t 1)⟩,
    ⟨some 34, (some (32, true)), .lit true 1 2 [.i 0, .i 0] [(0, 1, (.c (.i 2))), (1, 1, (.c (.i 11)))]⟩,
    ⟨some 35, (some (32, true)), .call f_curvetlaw0_SameInts [] [(.t 33), (.t 34)]⟩,
    ⟨some 36, none, .pick (.t 32) (.t 35) (.c (.b false))⟩,
    ⟨some 37, none, .mov (.t 36)⟩,
    ⟨some 38, (some (37, true)), .ldl 3 (some 9) (.t 3)⟩,
    ⟨some 39, (some (37, true)), .call f_curvetlaw0_One [] [(.c (.u 64 43))]⟩,
    ⟨some 40, (some (37, true)), .eqv (.agg [.u 64, .u 64, .u 64, .u 64, .u 64, .u 64, .u 64, .u 64, .u 64]) false (.t 38) (.t 39)⟩,
    ⟨some 41, none, .pick (.t 37) (.t 40) (.c (.b false))⟩,
    ⟨some 42, none, .mov (.t 41)⟩,
    ⟨some 43, (some (42, true)), .mov (.t 4)⟩,
    ⟨some 44, (some (42, true)), .call f_curvetlaw0_Num [] [(.t 43)]⟩,
    ⟨some 45, (some (42, true)), .bin .eql (.t 44) (.c (.i 0))⟩,
    ⟨some 46, none, .pick (.t 42) (.t 45) (.c (.b false))⟩,
    ⟨some 47, none, .mov (.t 46)⟩,
    ⟨some 48, (some (47, true)), .mov (.t 6)⟩,
    ⟨some 49, (some (47, true)), .call f_curvetlaw0_Num [] [(.t 48)]⟩,
    ⟨some 50, (some (47, true)), .bin .eql (.t 49) (.c (.i 1700))⟩,
    ⟨some 51, none, .pick (.t 47) (.t 50) (.c (.b false))⟩,
    ⟨some 52, none, .mov (.t 51)⟩,
    ⟨some 53, (some (52, true)), .mov (.t 8)⟩,
    ⟨some 54, (some (52, true)), .call f_curvetlaw0_Num [] [(.t 53)]⟩,
    ⟨some 55, (some (52, true)), .bin .eql (.t 54) (.c (.i 1700))⟩,
    ⟨some 56, none, .pick (.t 52) (.t 55) (.c (.b false))⟩,
    ⟨some 0, none, .mov (.t 56)⟩] [0]) (
  .ret))))))
def m_curvetlaw17_awake : MFn := ⟨c_curvetlaw17_awake, [.tmp 0], 0⟩

/-- curvet/curvetref1.Bits -/
def c_curvetref1_Bits : Stm :=
  .seq (
  .reg [
    ⟨some 2, none, .mov (.c (.i 0))⟩] [0]) (
  .seq (
  .seq (
  .reg [
    ⟨some 5, none, .mov (.t 0)⟩,
    ⟨some 6, none, .len (.t 5)⟩,
    ⟨some 7, none, .bin .eql (.t 6) (.c (.i 0))⟩] [0, 7]) (
  .cond (.t 7) (
   .seq (
   .reg [
     ⟨some 2, none, .mov (.c (.i 0))⟩] [2]) (
   .ret)) (
   .reg [] [0]))) (
  .seq (
  .reg [
    ⟨some 8, none, .mov (.t 0)⟩,
    ⟨some 9, none, .len (.t 8)⟩,
    ⟨some 10, none, .bin .sub (.t 9) (.c (.i 1))⟩,
    ⟨some 11, none, .bin .mul (.c (.i 32)) (.t 10)⟩,
    ⟨some 3, none, .mov (.t 11)⟩] [0, 3]) (
  .seq (
  .seq (
  .reg [
    ⟨some 12, none, .mov (.t 0)⟩,
    ⟨some 13, none, .mov (.t 0)⟩,
    ⟨some 14, none, .len (.t 13)⟩,
    ⟨some 15, none, .bin .sub (.t 14) (.c (.i 1))⟩,
    ⟨some 16, none, .idxs 1 (.t 12) (.t 15)⟩,
    ⟨some 17, none, .ld false none (.t 16)⟩,
    ⟨some 4, none, .mov (.t 17)⟩] [3, 4]) (
  .block 0 (
   .loop [3, 4] (
    .seq (
    .seq (
    .reg [
      ⟨some 18, none, .mov (.t 4)⟩,
      ⟨some 19, none, .bin .gtr (.t 18) (.c (.u 32 0))⟩] [3, 4, 19]) (
    .cond (.t 19) (
     .reg [] [3, 4]) (
     .exit 0 [3]))) (
    .seq (
    .block 1 (
     .reg [
       ⟨some 22, none, .mov (.t 3)⟩,
       ⟨some 23, none, .bin .add (.t 22) (.c (.i 1))⟩,
       ⟨some 3, none, .mov (.t 23)⟩] [3, 4])) (
    .reg [
      ⟨some 20, none, .mov (.t 4)⟩,
      ⟨some 21, none, .bin .shr (.t 20) (.c (.u 64 1))⟩,
      ⟨some 4, none, .mov (.t 21)⟩] [3, 4])))))) (
  .seq (
  .reg [
    ⟨some 24, none, .mov (.t 3)⟩,
    ⟨some 2, none, .mov (.t 24)⟩] [2]) (
  .ret)))))
def m_curvetref1_Bits : MFn := ⟨c_curvetref1_Bits, [.tmp 2], 0⟩

/-- curvet/curvetlaw0.Nat -/
def c_curvetlaw0_Nat : Stm :=
  .seq (
  .reg [
    ⟨some 2, none, .boxv (.t 0)⟩,
    ⟨some 4, none, .box (.c (.agg [.u 64 0, .u 64 0, .u 64 0, .u 64 0, .u 64 0, .u 64 0, .u 64 0, .u 64 0, .u 64 0]))⟩] [1, 2, 4]) (
  .seq (
  .reg [
    ⟨some 5, none, .box (.c (.agg [.u 64 0, .u 64 0, .u 64 0, .u 64 0, .u 64 0, .u 64 0, .u 64 0, .u 64 0, .u 64 0]))⟩] [1, 2, 4, 5]) (
  .seq (
  .seq (
  .reg [
    ⟨some 6, none, .mov (.c (.i 0))⟩] [1, 2, 4, 5, 6]) (
  .block 0 (
   .loop [1, 2, 4, 5, 6] (
    .seq (
    .seq (
    .reg [
      ⟨some 8, none, .mov (.t 6)⟩,
      ⟨some 9, none, .bin .lss (.t 8) (.c (.i 9))⟩] [1, 2, 4, 5, 6, 9]) (
    .cond (.t 9) (
     .reg [] [1, 2, 4, 5, 6]) (
     .exit 0 [4, 5]))) (
    .seq (
    .block 1 (
     .seq (
     .reg [
       ⟨some 12, none, .mov (.t 1)⟩,
       ⟨some 13, none, .mov (.t 6)⟩,
       ⟨some 14, none, .bin .mul (.c (.i 64)) (.t 13)⟩,
       ⟨some 15, none, .bin .sub (.t 12) (.t 14)⟩,
       ⟨some 7, none, .mov (.t 15)⟩] [1, 2, 4, 5, 6, 7]) (
     .block 2 (
      .seq (
      .reg [
        ⟨some 17, none, .mov (.t 7)⟩,
        ⟨some 18, none, .bin .geq (.t 17) (.c (.i 64))⟩,
        ⟨some 16, none, .mov (.t 18)⟩] [1, 2, 4, 5, 6, 7, 16]) (
      .cond (.t 16) (
       .reg [
         ⟨some 19, none, .mov (.t 6)⟩,
         ⟨some 20, none, .mov (.t 6)⟩,
         ⟨some 21, none, .idx 9 1 (.t 2) (.t 20)⟩,
         ⟨some 22, none, .ld true none (.t 21)⟩,
         ⟨some 23, none, .off 0 (.t 5)⟩,
         ⟨some 24, none, .idx 9 1 (.t 23) (.t 19)⟩,
         ⟨none, none, .stl 5 1 (.t 24) (.t 22)⟩] [1, 2, 4, 5, 6]) (
       .seq (
       .reg [
         ⟨some 26, none, .mov (.t 7)⟩,
         ⟨some 27, none, .bin .gtr (.t 26) (.c (.i 0))⟩,
         ⟨some 25, none, .mov (.t 27)⟩] [1, 2, 4, 5, 6, 7, 25]) (
       .cond (.t 25) (
        .reg [
          ⟨some 28, none, .mov (.t 6)⟩,
          ⟨some 29, none, .mov (.t 6)⟩,
          ⟨some 30, none, .idx 9 1 (.t 2) (.t 29)⟩,
          ⟨some 31, none, .ld true none (.t 30)⟩,
          ⟨some 32, none, .mov (.t 7)⟩,
          ⟨some 33, none, .bin .shl (.c (.u 64 1)) (.t 32)⟩,
          ⟨some 34, none, .bin .sub (.t 33) (.c (.u 64 1))⟩,
          ⟨some 35, none, .bin .and (.t 31) (.t 34)⟩,
          ⟨some 36, none, .off 0 (.t 5)⟩,
          ⟨some 37, none, .idx 9 1 (.t 36) (.t 28)⟩,
          ⟨none, none, .stl 5 1 (.t 37) (.t 35)⟩] [1, 2, 4, 5, 6]) (
        .reg [] [1, 2, 4, 5, 6])))))))) (
    .reg [
      ⟨some 10, none, .mov (.t 6)⟩,
      ⟨some 11, none, .bin .add (.t 10) (.c (.i 1))⟩,
      ⟨some 6, none, .mov (.t 11)⟩] [1, 2, 4, 5, 6])))))) (
  .seq (
  .reg [
    ⟨some 38, none, .ldl 5 (some 9) (.t 5)⟩,
    ⟨none, none, .stl 4 9 (.t 4) (.t 38)⟩] [4]) (
  .ret))))
def m_curvetlaw0_Nat : MFn := ⟨c_curvetlaw0_Nat, [.cell 4 (some 9)], 0⟩

/-- curvet/nat.Bit -/
def c_nat_Bit : Stm :=
  .seq (
  .reg [
    ⟨some 2, none, .boxv (.t 0)⟩,
    ⟨some 4, none, .mov (.c (.i 0))⟩] [1, 2]) (
  .seq (
  .seq (
  .reg [
    ⟨some 5, none, .mov (.t 1)⟩,
    ⟨some 6, none, .bin .lss (.t 5) (.c (.i 0))⟩,
    ⟨some 7, none, .mov (.t 6)⟩,
    ⟨some 8, (some (7, false)), .mov (.t 1)⟩,
    ⟨some 9, (some (7, false)), .bin .geq (.t 8) (.c (.i 576))⟩,
    ⟨some 10, none, .pick (.t 7) (.c (.b true)) (.t 9)⟩] [1, 2, 10]) (
  .cond (.t 10) (
   .seq (
   .reg [
     ⟨some 4, none, .mov (.c (.i 0))⟩] [4]) (
   .ret)) (
   .reg [] [1, 2]))) (
  .seq (
  .reg [
    ⟨some 11, none, .mov (.t 1)⟩,
    ⟨some 12, none, .bin .quo (.t 11) (.c (.i 64))⟩,
    ⟨some 13, none, .off 0 (.t 2)⟩,
    ⟨some 14, none, .idx 9 1 (.t 13) (.t 12)⟩,
    ⟨some 15, none, .ld true none (.t 14)⟩,
    ⟨some 16, none, .mov (.t 1)⟩,
    ⟨some 17, none, .bin .rem (.t 16) (.c (.i 64))⟩,
    ⟨some 18, none, .bin .shr (.t 15) (.t 17)⟩,
    ⟨some 19, none, .bin .and (.t 18) (.c (.u 64 1))⟩,
    ⟨some 20, none, .cvi (.t 19)⟩,
    ⟨some 4, none, .mov (.t 20)⟩] [4]) (
  .ret)))
def m_nat_Bit : MFn := ⟨c_nat_Bit, [.tmp 4], 0⟩

/-- curvet/nat.Shl -/
def c_nat_Shl : Stm :=
  .seq (
  .reg [
    ⟨some 2, none, .boxv (.t 0)⟩,
    ⟨some 4, none, .box (.c (.agg [.u 64 0, .u 64 0, .u 64 0, .u 64 0, .u 64 0, .u 64 0, .u 64 0, .u 64 0, .u 64 0]))⟩,
    ⟨some 5, none, .mov (.c (.i 0))⟩] [1, 2, 4]) (
  .seq (
  .seq (
  .reg [
    ⟨some 10, none, .mov (.t 1)⟩,
    ⟨some 11, none, .bin .lss (.t 10) (.c (.i 0))⟩,
    ⟨some 12, none, .mov (.t 11)⟩,
    ⟨some 13, (some (12, false)), .mov (.t 1)⟩,
    ⟨some 14, (some (12, false)), .bin .gtr (.t 13) (.c (.i 576))⟩,
    ⟨some 15, none, .pick (.t 12) (.c (.b true)) (.t 14)⟩] [1, 2, 4, 15]) (
  .cond (.t 15) (
   .seq (
   .reg [
     ⟨some 16, none, .build [.u 64 0, .u 64 0, .u 64 0, .u 64 0, .u 64 0, .u 64 0, .u 64 0, .u 64 0, .u 64 0] []⟩,
     ⟨none, none, .stl 4 9 (.t 4) (.t 16)⟩,
     ⟨some 5, none, .mov (.c (.i 102))⟩] [4, 5]) (
   .ret)) (
   .reg [] [1, 2, 4]))) (
  .seq (
  .reg [
    ⟨some 6, none, .box (.c (.agg [.u 64 0, .u 64 0, .u 64 0, .u 64 0, .u 64 0, .u 64 0, .u 64 0, .u 64 0, .u 64 0]))⟩] [1, 2, 4, 6]) (
  .seq (
  .reg [
    ⟨some 17, none, .mov (.t 1)⟩,
    ⟨some 18, none, .bin .quo (.t 17) (.c (.i 64))⟩,
    ⟨some 19, none, .mov (.t 1)⟩,
    ⟨some 20, none, .bin .rem (.t 19) (.c (.i 64))⟩,
    ⟨some 7, none, .mov (.t 18)⟩,
    ⟨some 8, none, .mov (.t 20)⟩] [2, 4, 6, 7, 8]) (
  .seq (
  .seq (
  .reg [
    ⟨some 21, none, .mov (.t 7)⟩,
    ⟨some 9, none, .mov (.t 21)⟩] [2, 4, 6, 7, 8, 9]) (
  .block 0 (
   .loop [2, 4, 6, 7, 8, 9] (
    .seq (
    .seq (
    .reg [
      ⟨some 22, none, .mov (.t 9)⟩,
      ⟨some 23, none, .bin .lss (.t 22) (.c (.i 9))⟩] [2, 4, 6, 7, 8, 9, 23]) (
    .cond (.t 23) (
     .reg [] [2, 4, 6, 7, 8, 9]) (
     .exit 0 [4, 6]))) (
    .seq (
    .block 1 (
     .seq (
     .reg [
       ⟨some 26, none, .mov (.t 9)⟩,
       ⟨some 27, none, .mov (.t 9)⟩,
       ⟨some 28, none, .mov (.t 7)⟩,
       ⟨some 29, none, .bin .sub (.t 27) (.t 28)⟩,
       ⟨some 30, none, .off 0 (.t 2)⟩,
       ⟨some 31, none, .idx 9 1 (.t 30) (.t 29)⟩,
       ⟨some 32, none, .ld true none (.t 31)⟩,
       ⟨some 33, none, .mov (.t 8)⟩,
       ⟨some 34, none, .bin .shl (.t 32) (.t 33)⟩,
       ⟨some 35, none, .off 0 (.t 6)⟩,
       ⟨some 36, none, .idx 9 1 (.t 35) (.t 26)⟩,
       ⟨none, none, .stl 6 1 (.t 36) (.t 34)⟩] [2, 4, 6, 7, 8, 9]) (
     .seq (
     .reg [
       ⟨some 37, none, .mov (.t 9)⟩,
       ⟨some 38, none, .mov (.t 7)⟩,
       ⟨some 39, none, .bin .gtr (.t 37) (.t 38)⟩] [2, 4, 6, 7, 8, 9, 39]) (
     .cond (.t 39) (
      .reg [
        ⟨some 40, none, .mov (.t 9)⟩,
        ⟨some 41, none, .off 0 (.t 6)⟩,
        ⟨some 42, none, .idx 9 1 (.t 41) (.t 40)⟩,
        ⟨some 43, none, .ldl 6 none (.t 42)⟩,
        ⟨some 44, none, .mov (.t 9)⟩,
        ⟨some 45, none, .mov (.t 7)⟩,
        ⟨some 46, none, .bin .sub (.t 44) (.t 45)⟩,
        ⟨some 47, none, .bin .sub (.t 46) (.c (.i 1))⟩,
        ⟨some 48, none, .off 0 (.t 2)⟩,
        ⟨some 49, none, .idx 9 1 (.t 48) (.t 47)⟩,
        ⟨some 50, none, .ld true none (.t 49)⟩,
        ⟨some 51, none, .mov (.t 8)⟩,
        ⟨some 52, none, .bin .sub (.c (.i 64)) (.t 51)⟩,
        ⟨some 53, none, .bin .shr (.t 50) (.t 52)⟩,
        ⟨some 54, none, .bin .or (.t 43) (.t 53)⟩,
        ⟨some 55, none, .off 0 (.t 6)⟩,
        ⟨some 56, none, .idx 9 1 (.t 55) (.t 40)⟩,
        ⟨none, none, .stl 6 1 (.t 56) (.t 54)⟩] [2, 4, 6, 7, 8, 9]) (
      .reg [] [2, 4, 6, 7, 8, 9]))))) (
    .reg [
      ⟨some 24, none, .mov (.t 9)⟩,
      ⟨some 25, none, .bin .add (.t 24) (.c (.i 1))⟩,
      ⟨some 9, none, .mov (.t 25)⟩] [2, 4, 6, 7, 8, 9])))))) (
  .seq (
  .reg [
    ⟨some 57, none, .ldl 6 (some 9) (.t 6)⟩,
    ⟨none, none, .stl 4 9 (.t 4) (.t 57)⟩,
    ⟨some 5, none, .mov (.c (.i 0))⟩] [4, 5]) (
  .ret))))))
def m_nat_Shl : MFn := ⟨c_nat_Shl, [.cell 4 (some 9), .tmp 5], 0⟩

/-- curvet/nat.Add -/
def c_nat_Add : Stm :=
  .seq (
  .reg [
    ⟨some 2, none, .box (.t 0)⟩,
    ⟨some 3, none, .boxv (.t 1)⟩,
    ⟨some 4, none, .box (.c (.agg [.u 64 0, .u 64 0, .u 64 0, .u 64 0, .u 64 0, .u 64 0, .u 64 0, .u 64 0, .u 64 0]))⟩,
    ⟨some 5, none, .mov (.c (.b false))⟩] [2, 3, 4]) (
  .seq (
  .reg [
    ⟨some 6, none, .mov (.c (.u 64 0))⟩] [2, 3, 4, 6]) (
  .seq (
  .seq (
  .reg [
    ⟨some 8, none, .mov (.c (.i 0))⟩] [2, 3, 4, 6, 8]) (
  .block 0 (
   .loop [2, 3, 4, 6, 8] (
    .seq (
    .reg [
      ⟨some 9, none, .bin .lss (.t 8) (.c (.i 9))⟩] [2, 3, 4, 6, 8, 9]) (
    .seq (
    .cond (.t 9) (
     .reg [] [2, 3, 4, 6, 8]) (
     .exit 0 [2, 4, 6])) (
    .seq (
    .block 1 (
     .seq (
     .reg [
       ⟨some 10, none, .mov (.t 8)⟩,
       ⟨some 7, none, .mov (.t 10)⟩] [2, 3, 4, 6, 7, 8]) (
     .reg [
       ⟨some 12, none, .mov (.t 7)⟩,
       ⟨some 13, none, .mov (.t 7)⟩,
       ⟨some 14, none, .off 0 (.t 2)⟩,
       ⟨some 15, none, .idx 9 1 (.t 14) (.t 13)⟩,
       ⟨some 16, none, .ldl 2 none (.t 15)⟩,
       ⟨some 17, none, .mov (.t 7)⟩,
       ⟨some 18, none, .off 0 (.t 3)⟩,
       ⟨some 19, none, .idx 9 1 (.t 18) (.t 17)⟩,
       ⟨some 20, none, .ld true none (.t 19)⟩,
       ⟨some 21, none, .mov (.t 6)⟩,
       ⟨some 22, none, .prim .add64 [(.t 16), (.t 20), (.t 21)]⟩,
       ⟨some 11, none, .mov (.t 22)⟩,
       ⟨some 23, none, .ext 0 (.t 11)⟩,
       ⟨some 24, none, .ext 1 (.t 11)⟩,
       ⟨some 25, none, .off 0 (.t 2)⟩,
       ⟨some 26, none, .idx 9 1 (.t 25) (.t 12)⟩,
       ⟨none, none, .stl 2 1 (.t 26) (.t 23)⟩,
       ⟨some 6, none, .mov (.t 24)⟩] [2, 3, 4, 6, 8]))) (
    .reg [
      ⟨some 27, none, .bin .add (.t 8) (.c (.i 1))⟩,
      ⟨some 8, none, .mov (.t 27)⟩] [2, 3, 4, 6, 8]))))))) (
  .seq (
  .reg [
    ⟨some 28, none, .ldl 2 (some 9) (.t 2)⟩,
    ⟨some 29, none, .mov (.t 6)⟩,
    ⟨some 30, none, .bin .eql (.t 29) (.c (.u 64 1))⟩,
    ⟨none, none, .stl 4 9 (.t 4) (.t 28)⟩,
    ⟨some 5, none, .mov (.t 30)⟩] [4, 5]) (
  .ret))))
def m_nat_Add : MFn := ⟨c_nat_Add, [.cell 4 (some 9), .tmp 5], 0⟩

/-- curvet/curvetlaw0.One -/
def c_curvetlaw0_One : Stm :=
  .seq (
  .reg [
    ⟨some 2, none, .box (.c (.agg [.u 64 0, .u 64 0, .u 64 0, .u 64 0, .u 64 0, .u 64 0, .u 64 0, .u 64 0, .u 64 0]))⟩] [0, 2]) (
  .seq (
  .reg [
    ⟨some 3, none, .box (.c (.agg [.u 64 0, .u 64 0, .u 64 0, .u 64 0, .u 64 0, .u 64 0, .u 64 0, .u 64 0, .u 64 0]))⟩] [0, 2, 3]) (
  .seq (
  .reg [
    ⟨some 4, none, .mov (.t 0)⟩,
    ⟨some 5, none, .off 0 (.t 3)⟩,
    ⟨some 6, none, .idx 9 1 (.t 5) (.c (.i 0))⟩,
    ⟨none, none, .stl 3 1 (.t 6) (.t 4)⟩] [2, 3]) (
  .seq (
  .reg [
    ⟨some 7, none, .ldl 3 (some 9) (.t 3)⟩,
    ⟨none, none, .stl 2 9 (.t 2) (.t 7)⟩] [2]) (
  .ret))))
def m_curvetlaw0_One : MFn := ⟨c_curvetlaw0_One, [.cell 2 (some 9)], 0⟩

/-- curvet/window.wide -/
def c_window_wide : Stm :=
  .seq (
  .reg [
    ⟨some 2, none, .mov (.c (.b false))⟩] [0]) (
  .seq (
  .reg [
    ⟨some 3, none, .mov (.t 0)⟩,
    ⟨some 4, none, .bin .geq (.t 3) (.c (.i 1))⟩,
    ⟨some 5, none, .mov (.t 4)⟩,
    ⟨some 6, (some (5, true)), .mov (.t 0)⟩,
    ⟨some 7, (some (5, true)), .bin .leq (.t 6) (.c (.i 6))⟩,
    ⟨some 8, none, .pick (.t 5) (.t 7) (.c (.b false))⟩,
    ⟨some 2, none, .mov (.t 8)⟩] [2]) (
  .ret))
def m_window_wide : MFn := ⟨c_window_wide, [.tmp 2], 0⟩

/-- curvet/nat.Bits -/
def c_nat_Bits : Stm :=
  .seq (
  .reg [
    ⟨some 1, none, .boxv (.t 0)⟩,
    ⟨some 2, none, .mov (.c (.i 0))⟩] [1]) (
  .seq (
  .reg [
    ⟨some 4, none, .call f_nat_used [] [(.t 1)]⟩,
    ⟨some 3, none, .mov (.t 4)⟩] [1, 3]) (
  .seq (
  .seq (
  .reg [
    ⟨some 5, none, .mov (.t 3)⟩,
    ⟨some 6, none, .bin .eql (.t 5) (.c (.i 0))⟩] [1, 3, 6]) (
  .cond (.t 6) (
   .seq (
   .reg [
     ⟨some 2, none, .mov (.c (.i 0))⟩] [2]) (
   .ret)) (
   .reg [] [1, 3]))) (
  .seq (
  .reg [
    ⟨some 7, none, .mov (.t 3)⟩,
    ⟨some 8, none, .bin .sub (.t 7) (.c (.i 1))⟩,
    ⟨some 9, none, .bin .mul (.t 8) (.c (.i 64))⟩,
    ⟨some 10, none, .mov (.t 3)⟩,
    ⟨some 11, none, .bin .sub (.t 10) (.c (.i 1))⟩,
    ⟨some 12, none, .off 0 (.t 1)⟩,
    ⟨some 13, none, .idx 9 1 (.t 12) (.t 11)⟩,
    ⟨some 14, none, .ld true none (.t 13)⟩,
    ⟨some 15, none, .call f_bits_Len64 [] [(.t 14)]⟩,
    ⟨some 16, none, .bin .add (.t 9) (.t 15)⟩,
    ⟨some 2, none, .mov (.t 16)⟩] [2]) (
  .ret))))
def m_nat_Bits : MFn := ⟨c_nat_Bits, [.tmp 2], 0⟩

/-- curvet/nat.Shr -/
def c_nat_Shr : Stm :=
  .seq (
  .reg [
    ⟨some 2, none, .boxv (.t 0)⟩,
    ⟨some 4, none, .box (.c (.agg [.u 64 0, .u 64 0, .u 64 0, .u 64 0, .u 64 0, .u 64 0, .u 64 0, .u 64 0, .u 64 0]))⟩,
    ⟨some 5, none, .mov (.c (.i 0))⟩] [1, 2, 4]) (
  .seq (
  .seq (
  .reg [
    ⟨some 10, none, .mov (.t 1)⟩,
    ⟨some 11, none, .bin .lss (.t 10) (.c (.i 0))⟩,
    ⟨some 12, none, .mov (.t 11)⟩,
    ⟨some 13, (some (12, false)), .mov (.t 1)⟩,
    ⟨some 14, (some (12, false)), .bin .gtr (.t 13) (.c (.i 576))⟩,
    ⟨some 15, none, .pick (.t 12) (.c (.b true)) (.t 14)⟩] [1, 2, 4, 15]) (
  .cond (.t 15) (
   .seq (
   .reg [
     ⟨some 16, none, .build [.u 64 0, .u 64 0, .u 64 0, .u 64 0, .u 64 0, .u 64 0, .u 64 0, .u 64 0, .u 64 0] []⟩,
     ⟨none, none, .stl 4 9 (.t 4) (.t 16)⟩,
     ⟨some 5, none, .mov (.c (.i 102))⟩] [4, 5]) (
   .ret)) (
   .reg [] [1, 2, 4]))) (
  .seq (
  .reg [
    ⟨some 6, none, .box (.c (.agg [.u 64 0, .u 64 0, .u 64 0, .u 64 0, .u 64 0, .u 64 0, .u 64 0, .u 64 0, .u 64 0]))⟩] [1, 2, 4, 6]) (
  .seq (
  .reg [
    ⟨some 17, none, .mov (.t 1)⟩,
    ⟨some 18, none, .bin .quo (.t 17) (.c (.i 64))⟩,
    ⟨some 19, none, .mov (.t 1)⟩,
    ⟨some 20, none, .bin .rem (.t 19) (.c (.i 64))⟩,
    ⟨some 7, none, .mov (.t 18)⟩,
    ⟨some 8, none, .mov (.t 20)⟩] [2, 4, 6, 7, 8]) (
  .seq (
  .seq (
  .reg [
    ⟨some 21, none, .mov (.t 7)⟩,
    ⟨some 22, none, .bin .sub (.c (.i 9)) (.t 21)⟩,
    ⟨some 23, none, .mov (.c (.i 0))⟩] [2, 4, 6, 7, 8, 22, 23]) (
  .block 0 (
   .loop [2, 4, 6, 7, 8, 22, 23] (
    .seq (
    .reg [
      ⟨some 24, none, .bin .lss (.t 23) (.t 22)⟩] [2, 4, 6, 7, 8, 22, 23, 24]) (
    .seq (
    .cond (.t 24) (
     .reg [] [2, 4, 6, 7, 8, 22, 23]) (
     .exit 0 [4, 6])) (
    .seq (
    .block 1 (
     .seq (
     .reg [
       ⟨some 25, none, .mov (.t 23)⟩,
       ⟨some 9, none, .mov (.t 25)⟩] [2, 4, 6, 7, 8, 9, 22, 23]) (
     .seq (
     .reg [
       ⟨some 26, none, .mov (.t 9)⟩,
       ⟨some 27, none, .mov (.t 9)⟩,
       ⟨some 28, none, .mov (.t 7)⟩,
       ⟨some 29, none, .bin .add (.t 27) (.t 28)⟩,
       ⟨some 30, none, .off 0 (.t 2)⟩,
       ⟨some 31, none, .idx 9 1 (.t 30) (.t 29)⟩,
       ⟨some 32, none, .ld true none (.t 31)⟩,
       ⟨some 33, none, .mov (.t 8)⟩,
       ⟨some 34, none, .bin .shr (.t 32) (.t 33)⟩,
       ⟨some 35, none, .off 0 (.t 6)⟩,
       ⟨some 36, none, .idx 9 1 (.t 35) (.t 26)⟩,
       ⟨none, none, .stl 6 1 (.t 36) (.t 34)⟩] [2, 4, 6, 7, 8, 9, 22, 23]) (
     .seq (
     .reg [
       ⟨some 37, none, .mov (.t 9)⟩,
       ⟨some 38, none, .mov (.t 7)⟩,
       ⟨some 39, none, .bin .add (.t 37) (.t 38)⟩,
       ⟨some 40, none, .bin .add (.t 39) (.c (.i 1))⟩,
       ⟨some 41, none, .bin .lss (.t 40) (.c (.i 9))⟩] [2, 4, 6, 7, 8, 9, 22, 23, 41]) (
     .cond (.t 41) (
      .reg [
        ⟨some 42, none, .mov (.t 9)⟩,
        ⟨some 43, none, .off 0 (.t 6)⟩,
        ⟨some 44, none, .idx 9 1 (.t 43) (.t 42)⟩,
        ⟨some 45, none, .ldl 6 none (.t 44)⟩,
        ⟨some 46, none, .mov (.t 9)⟩,
        ⟨some 47, none, .mov (.t 7)⟩,
        ⟨some 48, none, .bin .add (.t 46) (.t 47)⟩,
        ⟨some 49, none, .bin .add (.t 48) (.c (.i 1))⟩,
        ⟨some 50, none, .off 0 (.t 2)⟩,
        ⟨some 51, none, .idx 9 1 (.t 50) (.t 49)⟩,
        ⟨some 52, none, .ld true none (.t 51)⟩,
        ⟨some 53, none, .mov (.t 8)⟩,
        ⟨some 54, none, .bin .sub (.c (.i 64)) (.t 53)⟩,
        ⟨some 55, none, .bin .shl (.t 52) (.t 54)⟩,
        ⟨some 56, none, .bin .or (.t 45) (.t 55)⟩,
        ⟨some 57, none, .off 0 (.t 6)⟩,
        ⟨some 58, none, .idx 9 1 (.t 57) (.t 42)⟩,
        ⟨none, none, .stl 6 1 (.t 58) (.t 56)⟩] [2, 4, 6, 7, 8, 22, 23]) (
      .reg [] [2, 4, 6, 7, 8, 22, 23])))))) (
    .reg [
      ⟨some 59, none, .bin .add (.t 23) (.c (.i 1))⟩,
      ⟨some 23, none, .mov (.t 59)⟩] [2, 4, 6, 7, 8, 22, 23]))))))) (
  .seq (
  .reg [
    ⟨some 60, none, .ldl 6 (some 9) (.t 6)⟩,
    ⟨none, none, .stl 4 9 (.t 4) (.t 60)⟩,
    ⟨some 5, none, .mov (.c (.i 0))⟩] [4, 5]) (
  .ret))))))
def m_nat_Shr : MFn := ⟨c_nat_Shr, [.cell 4 (some 9), .tmp 5], 0⟩

/-- curvet/curvetref1.Shr -/
def c_curvetref1_Shr : Stm :=
  .seq (
  .reg [
    ⟨some 4, none, .mov (.c (.vs 0 []))⟩] [0, 1]) (
  .seq (
  .seq (
  .reg [
    ⟨some 8, none, .mov (.t 1)⟩,
    ⟨some 9, none, .bin .quo (.t 8) (.c (.i 32))⟩,
    ⟨some 10, none, .mov (.t 0)⟩,
    ⟨some 11, none, .len (.t 10)⟩,
    ⟨some 12, none, .bin .geq (.t 9) (.t 11)⟩] [0, 1, 12]) (
  .cond (.t 12) (
   .seq (
   .reg [
     ⟨some 4, none, .mov (.c (.vs 0 []))⟩] [4]) (
   .ret)) (
   .reg [] [0, 1]))) (
  .seq (
  .reg [
    ⟨some 13, none, .mov (.t 0)⟩,
    ⟨some 14, none, .len (.t 13)⟩,
    ⟨some 15, none, .mov (.t 1)⟩,
    ⟨some 16, none, .bin .quo (.t 15) (.c (.i 32))⟩,
    ⟨some 17, none, .bin .sub (.t 14) (.t 16)⟩,
    ⟨some 18, none, .mks 1 4 [.u 32 0] (.t 17) (.t 17)⟩,
    ⟨some 5, none, .mov (.t 18)⟩] [0, 1, 5]) (
  .seq (
  .seq (
  .reg [
    ⟨some 6, none, .mov (.c (.i 0))⟩] [0, 1, 5, 6]) (
  .block 0 (
   .loop [0, 1, 5, 6] (
    .seq (
    .seq (
    .reg [
      ⟨some 19, none, .mov (.t 6)⟩,
      ⟨some 20, none, .mov (.t 5)⟩,
      ⟨some 21, none, .len (.t 20)⟩,
      ⟨some 22, none, .bin .lss (.t 19) (.t 21)⟩] [0, 1, 5, 6, 22]) (
    .cond (.t 22) (
     .reg [] [0, 1, 5, 6]) (
     .exit 0 [5]))) (
    .seq (
    .block 1 (
     .seq (
     .reg [
       ⟨some 25, none, .mov (.t 0)⟩,
       ⟨some 26, none, .mov (.t 6)⟩,
       ⟨some 27, none, .mov (.t 1)⟩,
       ⟨some 28, none, .bin .quo (.t 27) (.c (.i 32))⟩,
       ⟨some 29, none, .bin .add (.t 26) (.t 28)⟩,
       ⟨some 30, none, .call f_curvetref1_digit [] [(.t 25), (.t 29)]⟩,
       ⟨some 31, none, .mov (.t 0)⟩,
       ⟨some 32, none, .mov (.t 6)⟩,
       ⟨some 33, none, .mov (.t 1)⟩,
       ⟨some 34, none, .bin .quo (.t 33) (.c (.i 32))⟩,
       ⟨some 35, none, .bin .add (.t 32) (.t 34)⟩,
       ⟨some 36, none, .bin .add (.t 35) (.c (.i 1))⟩,
       ⟨some 37, none, .call f_curvetref1_digit [] [(.t 31), (.t 36)]⟩,
       ⟨some 38, none, .bin .shl (.t 37) (.c (.u 64 32))⟩,
       ⟨some 39, none, .bin .or (.t 30) (.t 38)⟩,
       ⟨some 7, none, .mov (.t 39)⟩] [0, 1, 5, 6, 7]) (
     .reg [
       ⟨some 40, none, .mov (.t 5)⟩,
       ⟨some 41, none, .mov (.t 6)⟩,
       ⟨some 42, none, .mov (.t 7)⟩,
       ⟨some 43, none, .mov (.t 1)⟩,
       ⟨some 44, none, .bin .rem (.t 43) (.c (.i 32))⟩,
       ⟨some 45, none, .bin .shr (.t 42) (.t 44)⟩,
       ⟨some 46, none, .bin .and (.t 45) (.c (.u 64 4294967295))⟩,
       ⟨some 47, none, .cvu 32 (.t 46)⟩,
       ⟨some 48, none, .idxs 1 (.t 40) (.t 41)⟩,
       ⟨none, none, .st 1 (.t 48) (.t 47)⟩] [0, 1, 5, 6]))) (
    .reg [
      ⟨some 23, none, .mov (.t 6)⟩,
      ⟨some 24, none, .bin .add (.t 23) (.c (.i 1))⟩,
      ⟨some 6, none, .mov (.t 24)⟩] [0, 1, 5, 6])))))) (
  .seq (
  .reg [
    ⟨some 49, none, .mov (.t 5)⟩,
    ⟨some 50, none, .call f_curvetref1_trim [] [(.t 49)]⟩,
    ⟨some 4, none, .mov (.t 50)⟩] [4]) (
  .ret)))))
def m_curvetref1_Shr : MFn := ⟨c_curvetref1_Shr, [.tmp 4], 0⟩

/-- curvet/curvetref1.trim -/
def c_curvetref1_trim : Stm :=
  .seq (
  .reg [
    ⟨some 2, none, .mov (.c (.vs 0 []))⟩] [0]) (
  .seq (
  .reg [
    ⟨some 4, none, .mov (.t 0)⟩,
    ⟨some 5, none, .len (.t 4)⟩,
    ⟨some 3, none, .mov (.t 5)⟩] [0, 3]) (
  .seq (
  .block 0 (
   .loop [0, 3] (
    .seq (
    .seq (
    .reg [
      ⟨some 6, none, .mov (.t 3)⟩,
      ⟨some 7, none, .bin .gtr (.t 6) (.c (.i 0))⟩,
      ⟨some 8, none, .mov (.t 7)⟩,
      ⟨some 9, (some (8, true)), .mov (.t 0)⟩,
      ⟨some 10, (some (8, true)), .mov (.t 3)⟩,
      ⟨some 11, (some (8, true)), .bin .sub (.t 10) (.c (.i 1))⟩,
      ⟨some 12, (some (8, true)), .idxs 1 (.t 9) (.t 11)⟩,
      ⟨some 13, (some (8, true)), .ld false none (.t 12)⟩,
      ⟨some 14, (some (8, true)), .bin .eql (.t 13) (.c (.u 32 0))⟩,
      ⟨some 15, none, .pick (.t 8) (.t 14) (.c (.b false))⟩] [0, 3, 15]) (
    .cond (.t 15) (
     .reg [] [0, 3]) (
     .exit 0 [0, 3]))) (
    .block 1 (
     .reg [
       ⟨some 16, none, .mov (.t 3)⟩,
       ⟨some 17, none, .bin .sub (.t 16) (.c (.i 1))⟩,
       ⟨some 3, none, .mov (.t 17)⟩] [0, 3]))))) (
  .seq (
  .reg [
    ⟨some 18, none, .mov (.t 0)⟩,
    ⟨some 19, none, .mov (.t 3)⟩,
    ⟨some 20, none, .slv 1 (.t 18) none (some (.t 19))⟩,
    ⟨some 2, none, .mov (.t 20)⟩] [2]) (
  .ret))))
def m_curvetref1_trim : MFn := ⟨c_curvetref1_trim, [.tmp 2], 0⟩

/-- curvet/curvetlaw0.CopyInts -/
def c_curvetlaw0_CopyInts : Stm :=
  .seq (
  .reg [
    ⟨some 2, none, .mov (.c (.nils))⟩] [0]) (
  .seq (
  .reg [
    ⟨some 3, none, .lit false 1 0 [] []⟩,
    ⟨some 4, none, .mov (.t 0)⟩,
    ⟨some 5, none, .app 1 8 (.t 3) (.t 4)⟩,
    ⟨some 2, none, .mov (.t 5)⟩] [2]) (
  .ret))
def m_curvetlaw0_CopyInts : MFn := ⟨c_curvetlaw0_CopyInts, [.tmp 2], 0⟩

/-- curvet/curvetref1.Add -/
def c_curvetref1_Add : Stm :=
  .seq (
  .reg [
    ⟨some 4, none, .mov (.c (.vs 0 []))⟩] [0, 1]) (
  .seq (
  .reg [
    ⟨some 10, none, .mov (.t 0)⟩,
    ⟨some 11, none, .len (.t 10)⟩,
    ⟨some 12, none, .mov (.t 1)⟩,
    ⟨some 13, none, .len (.t 12)⟩,
    ⟨some 14, none, .mx (.t 11) (.t 13)⟩,
    ⟨some 5, none, .mov (.t 14)⟩] [0, 1, 5]) (
  .seq (
  .reg [
    ⟨some 15, none, .mov (.t 5)⟩,
    ⟨some 16, none, .bin .add (.t 15) (.c (.i 1))⟩,
    ⟨some 17, none, .mks 1 4 [.u 32 0] (.t 16) (.t 16)⟩,
    ⟨some 6, none, .mov (.t 17)⟩] [0, 1, 5, 6]) (
  .seq (
  .reg [
    ⟨some 7, none, .mov (.c (.u 64 0))⟩] [0, 1, 5, 6, 7]) (
  .seq (
  .seq (
  .reg [
    ⟨some 8, none, .mov (.c (.i 0))⟩] [0, 1, 5, 6, 7, 8]) (
  .block 0 (
   .loop [0, 1, 5, 6, 7, 8] (
    .seq (
    .seq (
    .reg [
      ⟨some 18, none, .mov (.t 8)⟩,
      ⟨some 19, none, .mov (.t 5)⟩,
      ⟨some 20, none, .bin .lss (.t 18) (.t 19)⟩] [0, 1, 5, 6, 7, 8, 20]) (
    .cond (.t 20) (
     .reg [] [0, 1, 5, 6, 7, 8]) (
     .exit 0 [5, 6, 7]))) (
    .seq (
    .block 1 (
     .seq (
     .reg [
       ⟨some 23, none, .mov (.t 0)⟩,
       ⟨some 24, none, .mov (.t 8)⟩,
       ⟨some 25, none, .call f_curvetref1_digit [] [(.t 23), (.t 24)]⟩,
       ⟨some 26, none, .mov (.t 1)⟩,
       ⟨some 27, none, .mov (.t 8)⟩,
       ⟨some 28, none, .call f_curvetref1_digit [] [(.t 26), (.t 27)]⟩,
       ⟨some 29, none, .bin .add (.t 25) (.t 28)⟩,
       ⟨some 30, none, .mov (.t 7)⟩,
       ⟨some 31, none, .bin .add (.t 29) (.t 30)⟩,
       ⟨some 9, none, .mov (.t 31)⟩] [0, 1, 5, 6, 8, 9]) (
     .seq (
     .reg [
       ⟨some 32, none, .mov (.t 6)⟩,
       ⟨some 33, none, .mov (.t 8)⟩,
       ⟨some 34, none, .mov (.t 9)⟩,
       ⟨some 35, none, .bin .and (.t 34) (.c (.u 64 4294967295))⟩,
       ⟨some 36, none, .cvu 32 (.t 35)⟩,
       ⟨some 37, none, .idxs 1 (.t 32) (.t 33)⟩,
       ⟨none, none, .st 1 (.t 37) (.t 36)⟩] [0, 1, 5, 6, 8, 9]) (
     .reg [
       ⟨some 38, none, .mov (.t 9)⟩,
       ⟨some 39, none, .bin .shr (.t 38) (.c (.u 64 32))⟩,
       ⟨some 7, none, .mov (.t 39)⟩] [0, 1, 5, 6, 7, 8])))) (
    .reg [
      ⟨some 21, none, .mov (.t 8)⟩,
      ⟨some 22, none, .bin .add (.t 21) (.c (.i 1))⟩,
      ⟨some 8, none, .mov (.t 22)⟩] [0, 1, 5, 6, 7, 8])))))) (
  .seq (
  .reg [
    ⟨some 40, none, .mov (.t 6)⟩,
    ⟨some 41, none, .mov (.t 5)⟩,
    ⟨some 42, none, .mov (.t 7)⟩,
    ⟨some 43, none, .cvu 32 (.t 42)⟩,
    ⟨some 44, none, .idxs 1 (.t 40) (.t 41)⟩,
    ⟨none, none, .st 1 (.t 44) (.t 43)⟩] [6]) (
  .seq (
  .reg [
    ⟨some 45, none, .mov (.t 6)⟩,
    ⟨some 46, none, .call f_curvetref1_trim [] [(.t 45)]⟩,
    ⟨some 4, none, .mov (.t 46)⟩] [4]) (
  .ret)))))))
def m_curvetref1_Add : MFn := ⟨c_curvetref1_Add, [.tmp 4], 0⟩

/-- curvet/curvetref1.Shl -/
def c_curvetref1_Shl : Stm :=
  .seq (
  .reg [
    ⟨some 4, none, .mov (.c (.vs 0 []))⟩] [0, 1]) (
  .seq (
  .reg [
    ⟨some 8, none, .mov (.t 0)⟩,
    ⟨some 9, none, .len (.t 8)⟩,
    ⟨some 10, none, .mov (.t 1)⟩,
    ⟨some 11, none, .bin .quo (.t 10) (.c (.i 32))⟩,
    ⟨some 12, none, .bin .add (.t 9) (.t 11)⟩,
    ⟨some 13, none, .bin .add (.t 12) (.c (.i 1))⟩,
    ⟨some 14, none, .mks 1 4 [.u 32 0] (.t 13) (.t 13)⟩,
    ⟨some 5, none, .mov (.t 14)⟩] [0, 1, 5]) (
  .seq (
  .seq (
  .reg [
    ⟨some 6, none, .mov (.c (.i 0))⟩] [0, 1, 5, 6]) (
  .block 0 (
   .loop [0, 1, 5, 6] (
    .seq (
    .seq (
    .reg [
      ⟨some 15, none, .mov (.t 6)⟩,
      ⟨some 16, none, .mov (.t 0)⟩,
      ⟨some 17, none, .len (.t 16)⟩,
      ⟨some 18, none, .bin .lss (.t 15) (.t 17)⟩] [0, 1, 5, 6, 18]) (
    .cond (.t 18) (
     .reg [] [0, 1, 5, 6]) (
     .exit 0 [5]))) (
    .seq (
    .block 1 (
     .seq (
     .reg [
       ⟨some 21, none, .mov (.t 0)⟩,
       ⟨some 22, none, .mov (.t 6)⟩,
       ⟨some 23, none, .idxs 1 (.t 21) (.t 22)⟩,
       ⟨some 24, none, .ld false none (.t 23)⟩,
       ⟨some 25, none, .cvu 64 (.t 24)⟩,
       ⟨some 26, none, .mov (.t 1)⟩,
       ⟨some 27, none, .bin .rem (.t 26) (.c (.i 32))⟩,
       ⟨some 28, none, .bin .shl (.t 25) (.t 27)⟩,
       ⟨some 7, none, .mov (.t 28)⟩] [0, 1, 5, 6, 7]) (
     .seq (
     .reg [
       ⟨some 29, none, .mov (.t 5)⟩,
       ⟨some 30, none, .mov (.t 6)⟩,
       ⟨some 31, none, .mov (.t 1)⟩,
       ⟨some 32, none, .bin .quo (.t 31) (.c (.i 32))⟩,
       ⟨some 33, none, .bin .add (.t 30) (.t 32)⟩,
       ⟨some 34, none, .mov (.t 5)⟩,
       ⟨some 35, none, .mov (.t 6)⟩,
       ⟨some 36, none, .mov (.t 1)⟩,
       ⟨some 37, none, .bin .quo (.t 36) (.c (.i 32))⟩,
       ⟨some 38, none, .bin .add (.t 35) (.t 37)⟩,
       ⟨some 39, none, .idxs 1 (.t 34) (.t 38)⟩,
       ⟨some 40, none, .ld false none (.t 39)⟩,
       ⟨some 41, none, .mov (.t 7)⟩,
       ⟨some 42, none, .bin .and (.t 41) (.c (.u 64 4294967295))⟩,
       ⟨some 43, none, .cvu 32 (.t 42)⟩,
       ⟨some 44, none, .bin .or (.t 40) (.t 43)⟩,
       ⟨some 45, none, .idxs 1 (.t 29) (.t 33)⟩,
       ⟨none, none, .st 1 (.t 45) (.t 44)⟩] [0, 1, 5, 6, 7]) (
     .reg [
       ⟨some 46, none, .mov (.t 5)⟩,
       ⟨some 47, none, .mov (.t 6)⟩,
       ⟨some 48, none, .mov (.t 1)⟩,
       ⟨some 49, none, .bin .quo (.t 48) (.c (.i 32))⟩,
       ⟨some 50, none, .bin .add (.t 47) (.t 49)⟩,
       ⟨some 51, none, .bin .add (.t 50) (.c (.i 1))⟩,
       ⟨some 52, none, .mov (.t 7)⟩,
       ⟨some 53, none, .bin .shr (.t 52) (.c (.u 64 32))⟩,
       ⟨some 54, none, .cvu 32 (.t 53)⟩,
       ⟨some 55, none, .idxs 1 (.t 46) (.t 51)⟩,
       ⟨none, none, .st 1 (.t 55) (.t 54)⟩] [0, 1, 5, 6])))) (
    .reg [
      ⟨some 19, none, .mov (.t 6)⟩,
      ⟨some 20, none, .bin .add (.t 19) (.c (.i 1))⟩,
      ⟨some 6, none, .mov (.t 20)⟩] [0, 1, 5, 6])))))) (
  .seq (
  .reg [
    ⟨some 56, none, .mov (.t 5)⟩,
    ⟨some 57, none, .call f_curvetref1_trim [] [(.t 56)]⟩,
    ⟨some 4, none, .mov (.t 57)⟩] [4]) (
  .ret))))
def m_curvetref1_Shl : MFn := ⟨c_curvetref1_Shl, [.tmp 4], 0⟩

/-- curvet/curvetref1.Small -/
def c_curvetref1_Small : Stm :=
  .seq (
  .reg [
    ⟨some 2, none, .mov (.c (.vs 0 []))⟩] [0]) (
  .seq (
  .seq (
  .reg [
    ⟨some 3, none, .mov (.t 0)⟩,
    ⟨some 4, none, .bin .lss (.t 3) (.c (.i 0))⟩] [0, 4]) (
  .cond (.t 4) (
   .seq (
   .reg [
     ⟨some 2, none, .mov (.c (.vs 0 []))⟩] [2]) (
   .ret)) (
   .reg [] [0]))) (
  .seq (
  .reg [
    ⟨some 5, none, .mov (.t 0)⟩,
    ⟨some 6, none, .cvu 64 (.t 5)⟩,
    ⟨some 7, none, .bin .and (.t 6) (.c (.u 64 4294967295))⟩,
    ⟨some 8, none, .cvu 32 (.t 7)⟩,
    ⟨some 9, none, .mov (.t 0)⟩,
    ⟨some 10, none, .cvu 64 (.t 9)⟩,
    ⟨some 11, none, .bin .shr (.t 10) (.c (.u 64 32))⟩,
    ⟨some 12, none, .cvu 32 (.t 11)⟩,
    ⟨some 13, none, .lit true 1 2 [.u 32 0, .u 32 0] [(0, 1, (.t 8)), (1, 1, (.t 12))]⟩,
    ⟨some 14, none, .call f_curvetref1_trim [] [(.t 13)]⟩,
    ⟨some 2, none, .mov (.t 14)⟩] [2]) (
  .ret)))
def m_curvetref1_Small : MFn := ⟨c_curvetref1_Small, [.tmp 2], 0⟩

/-- curvet/curvetref1.digit -/
def c_curvetref1_digit : Stm :=
  .seq (
  .reg [
    ⟨some 4, none, .mov (.c (.u 64 0))⟩] [0, 1]) (
  .seq (
  .seq (
  .reg [
    ⟨some 5, none, .mov (.t 1)⟩,
    ⟨some 6, none, .mov (.t 0)⟩,
    ⟨some 7, none, .len (.t 6)⟩,
    ⟨some 8, none, .bin .lss (.t 5) (.t 7)⟩] [0, 1, 8]) (
  .cond (.t 8) (
   .seq (
   .reg [
     ⟨some 9, none, .mov (.t 0)⟩,
     ⟨some 10, none, .mov (.t 1)⟩,
     ⟨some 11, none, .idxs 1 (.t 9) (.t 10)⟩,
     ⟨some 12, none, .ld false none (.t 11)⟩,
     ⟨some 13, none, .cvu 64 (.t 12)⟩,
     ⟨some 4, none, .mov (.t 13)⟩] [4]) (
   .ret)) (
   .reg [] []))) (
  .seq (
  .reg [
    ⟨some 4, none, .mov (.c (.u 64 0))⟩] [4]) (
  .ret)))
def m_curvetref1_digit : MFn := ⟨c_curvetref1_digit, [.tmp 4], 0⟩

/-- curvet/nat.used -/
def c_nat_used : Stm :=
  .seq (
  .reg [
    ⟨some 2, none, .mov (.c (.i 0))⟩] [0]) (
  .seq (
  .reg [
    ⟨some 3, none, .mov (.c (.i 9))⟩] [0, 3]) (
  .seq (
  .block 0 (
   .loop [0, 3] (
    .seq (
    .seq (
    .reg [
      ⟨some 4, none, .mov (.t 3)⟩,
      ⟨some 5, none, .bin .gtr (.t 4) (.c (.i 0))⟩,
      ⟨some 6, none, .mov (.t 5)⟩,
      ⟨some 7, (some (6, true)), .mov (.t 0)⟩,
      ⟨some 8, (some (6, true)), .mov (.t 3)⟩,
      ⟨some 9, (some (6, true)), .bin .sub (.t 8) (.c (.i 1))⟩,
      ⟨some 10, (some (6, true)), .nck (.t 7)⟩,
      ⟨some 11, (some (6, true)), .off 0 (.t 10)⟩,
      ⟨some 12, (some (6, true)), .idx 9 1 (.t 11) (.t 9)⟩,
      ⟨some 13, (some (6, true)), .ld false none (.t 12)⟩,
      ⟨some 14, (some (6, true)), .bin .eql (.t 13) (.c (.u 64 0))⟩,
      ⟨some 15, none, .pick (.t 6) (.t 14) (.c (.b false))⟩] [0, 3, 15]) (
    .cond (.t 15) (
     .reg [] [0, 3]) (
     .exit 0 [3]))) (
    .block 1 (
     .reg [
       ⟨some 16, none, .mov (.t 3)⟩,
       ⟨some 17, none, .bin .sub (.t 16) (.c (.i 1))⟩,
       ⟨some 3, none, .mov (.t 17)⟩] [0, 3]))))) (
  .seq (
  .reg [
    ⟨some 18, none, .mov (.t 3)⟩,
    ⟨some 2, none, .mov (.t 18)⟩] [2]) (
  .ret))))
def m_nat_used : MFn := ⟨c_nat_used, [.tmp 2], 0⟩

/-- math/bits.Len64 -/
def c_bits_Len64 : Stm :=
  .seq (
  .reg [
    ⟨some 2, none, .mov (.c (.i 0))⟩] [0, 2]) (
  .seq (
  .seq (
  .reg [
    ⟨some 3, none, .mov (.t 0)⟩,
    ⟨some 4, none, .bin .geq (.t 3) (.c (.u 64 4294967296))⟩] [0, 2, 4]) (
  .cond (.t 4) (
   .seq (
   .reg [
     ⟨some 5, none, .mov (.t 0)⟩,
     ⟨some 6, none, .bin .shr (.t 5) (.c (.u 64 32))⟩,
     ⟨some 0, none, .mov (.t 6)⟩] [0]) (
   .reg [
     ⟨some 2, none, .mov (.c (.i 32))⟩] [0, 2])) (
   .reg [] [0, 2]))) (
  .seq (
  .seq (
  .reg [
    ⟨some 7, none, .mov (.t 0)⟩,
    ⟨some 8, none, .bin .geq (.t 7) (.c (.u 64 65536))⟩] [0, 2, 8]) (
  .cond (.t 8) (
   .seq (
   .reg [
     ⟨some 9, none, .mov (.t 0)⟩,
     ⟨some 10, none, .bin .shr (.t 9) (.c (.u 64 16))⟩,
     ⟨some 0, none, .mov (.t 10)⟩] [0, 2]) (
   .reg [
     ⟨some 11, none, .mov (.t 2)⟩,
     ⟨some 12, none, .bin .add (.t 11) (.c (.i 16))⟩,
     ⟨some 2, none, .mov (.t 12)⟩] [0, 2])) (
   .reg [] [0, 2]))) (
  .seq (
  .seq (
  .reg [
    ⟨some 13, none, .mov (.t 0)⟩,
    ⟨some 14, none, .bin .geq (.t 13) (.c (.u 64 256))⟩] [0, 2, 14]) (
  .cond (.t 14) (
   .seq (
   .reg [
     ⟨some 15, none, .mov (.t 0)⟩,
     ⟨some 16, none, .bin .shr (.t 15) (.c (.u 64 8))⟩,
     ⟨some 0, none, .mov (.t 16)⟩] [0, 2]) (
   .reg [
     ⟨some 17, none, .mov (.t 2)⟩,
     ⟨some 18, none, .bin .add (.t 17) (.c (.i 8))⟩,
     ⟨some 2, none, .mov (.t 18)⟩] [0, 2])) (
   .reg [] [0, 2]))) (
  .seq (
  .reg [
    ⟨some 19, none, .mov (.t 2)⟩,
    ⟨some 20, none, .mov (.t 0)⟩,
    ⟨some 21, none, .cvu 8 (.t 20)⟩,
    ⟨some 22, none, .idxb (.c (.s [0, 1, 2, 2, 3, 3, 3, 3, 4, 4, 4, 4, 4, 4, 4, 4, 5, 5, 5, 5, 5, 5, 5, 5, 5, 5, 5, 5, 5, 5, 5, 5, 6, 6, 6, 6, 6, 6, 6, 6, 6, 6, 6, 6, 6, 6, 6, 6, 6, 6, 6, 6, 6, 6, 6, 6, 6, 6, 6, 6, 6, 6, 6, 6, 7, 7, 7, 7, 7, 7, 7, 7, 7, 7, 7, 7, 7, 7, 7, 7, 7, 7, 7, 7, 7, 7, 7, 7, 7, 7, 7, 7, 7, 7, 7, 7, 7, 7, 7, 7, 7, 7, 7, 7, 7, 7, 7, 7, 7, 7, 7, 7, 7, 7, 7, 7, 7, 7, 7, 7, 7, 7, 7, 7, 7, 7, 7, 7, 8, 8, 8, 8, 8, 8, 8, 8, 8, 8, 8, 8, 8, 8, 8, 8, 8, 8, 8, 8, 8, 8, 8, 8, 8, 8, 8, 8, 8, 8, 8, 8, 8, 8, 8, 8, 8, 8, 8, 8, 8, 8, 8, 8, 8, 8, 8, 8, 8, 8, 8, 8, 8, 8, 8, 8, 8, 8, 8, 8, 8, 8, 8, 8, 8, 8, 8, 8, 8, 8, 8, 8, 8, 8, 8, 8, 8, 8, 8, 8, 8, 8, 8, 8, 8, 8, 8, 8, 8, 8, 8, 8, 8, 8, 8, 8, 8, 8, 8, 8, 8, 8, 8, 8, 8, 8, 8, 8, 8, 8, 8, 8, 8, 8, 8, 8, 8, 8, 8, 8, 8, 8, 8, 8, 8, 8, 8, 8])) (.t 21)⟩,
    ⟨some 23, none, .cvi (.t 22)⟩,
    ⟨some 24, none, .bin .add (.t 19) (.t 23)⟩,
    ⟨some 2, none, .mov (.t 24)⟩] [2]) (
  .ret)))))
def m_bits_Len64 : MFn := ⟨c_bits_Len64, [.tmp 2], 0⟩

def tab : List (Nat × MFn) := [
  (f_curvetlaw17_Windows, m_curvetlaw17_Windows),
  (f_curvetlaw17_WindowBack, m_curvetlaw17_WindowBack),
  (f_curvetlaw17_WindowWidths, m_curvetlaw17_WindowWidths),
  (f_curvetlaw17_WindowOnes, m_curvetlaw17_WindowOnes),
  (f_curvetlaw17_WindowShifts, m_curvetlaw17_WindowShifts),
  (f_window_Digits, m_window_Digits),
  (f_curvetref13_Digits, m_curvetref13_Digits),
  (f_curvetref1_From, m_curvetref1_From),
  (f_curvetlaw0_LendInts, m_curvetlaw0_LendInts),
  (f_window_Value, m_window_Value),
  (f_curvetref13_Value, m_curvetref13_Value),
  (f_curvetlaw0_SameInts, m_curvetlaw0_SameInts),
  (f_curvetlaw0_Num, m_curvetlaw0_Num),
  (f_curvetref1_Nat, m_curvetref1_Nat),
  (f_curvetlaw0_KeptInts, m_curvetlaw0_KeptInts),
  (f_curvetlaw0_SpoilInts, m_curvetlaw0_SpoilInts),
  (f_curvetlaw17_awake, m_curvetlaw17_awake),
  (f_curvetref1_Bits, m_curvetref1_Bits),
  (f_curvetlaw0_Nat, m_curvetlaw0_Nat),
  (f_nat_Bit, m_nat_Bit),
  (f_nat_Shl, m_nat_Shl),
  (f_nat_Add, m_nat_Add),
  (f_curvetlaw0_One, m_curvetlaw0_One),
  (f_window_wide, m_window_wide),
  (f_nat_Bits, m_nat_Bits),
  (f_nat_Shr, m_nat_Shr),
  (f_curvetref1_Shr, m_curvetref1_Shr),
  (f_curvetref1_trim, m_curvetref1_trim),
  (f_curvetlaw0_CopyInts, m_curvetlaw0_CopyInts),
  (f_curvetref1_Add, m_curvetref1_Add),
  (f_curvetref1_Shl, m_curvetref1_Shl),
  (f_curvetref1_Small, m_curvetref1_Small),
  (f_curvetref1_digit, m_curvetref1_digit),
  (f_nat_used, m_nat_used),
  (f_bits_Len64, m_bits_Len64)]
def look (f : Nat) : List (Nat × MFn) → Option MFn
  | [] => none
  | (g, m) :: r => bif Nat.beq g f then some m else look f r
def T (f : Nat) : Option MFn := look f tab
end Mir
