/- The functions of the cut, written down in the small language. Conditions: none. -/
import Derived.Test.YtbbgobliklljjaaLim
set_option maxRecDepth 100000
namespace Mir

abbrev f_curvetlaw4_DividePowers : Nat := 46
abbrev f_curvetlaw4_DivideSums : Nat := 47
abbrev f_curvetlaw4_DivideExponents : Nat := 48
abbrev f_curvetlaw4_DivideTimes : Nat := 49
abbrev f_curvetlaw4_DivideBack : Nat := 50
abbrev f_curvetlaw4_DivideSmall : Nat := 51
abbrev f_curvetlaw4_Divides : Nat := 52
abbrev f_curvetlaw4_DivideInverse : Nat := 53
abbrev f_curvetlaw4_DivideWide : Nat := 54
abbrev f_divide_PowMod : Nat := 55
abbrev f_divide_Inverse : Nat := 56
abbrev f_curvetref1_From : Nat := 14
abbrev f_curvetlaw0_Num : Nat := 15
abbrev f_curvetlaw4_awake : Nat := 57
abbrev f_curvetref1_Inverse : Nat := 58
abbrev f_curvetref1_Nat : Nat := 17
abbrev f_curvetref1_PowMod : Nat := 59
abbrev f_curvetlaw0_Nat : Nat := 20
abbrev f_nat_Add : Nat := 21
abbrev f_divide_Div : Nat := 60
abbrev f_curvetlaw0_One : Nat := 24
abbrev f_divide_MulMod : Nat := 61
abbrev f_nat_Mul : Nat := 23
abbrev f_nat_Cmp : Nat := 35
abbrev f_divide_Mod : Nat := 62
abbrev f_curvetref1_Div : Nat := 63
abbrev f_curvetref1_Mod : Nat := 64
abbrev f_curvetref1_Of : Nat := 65
abbrev f_curvetref1_Mul : Nat := 34
abbrev f_divide_zero : Nat := 66
abbrev f_divide_By : Nat := 67
abbrev f_divide_Modulus_Pow : Nat := 68
abbrev f_nat_Small : Nat := 38
abbrev f_divide_Modulus_Mul : Nat := 69
abbrev f_nat_Sub : Nat := 25
abbrev f_curvetref1_trim : Nat := 42
abbrev f_curvetref1_Cmp : Nat := 29
abbrev f_curvetref1_SubMod : Nat := 70
abbrev f_curvetref1_MulMod : Nat := 71
abbrev f_curvetref1_digit : Nat := 41
abbrev f_curvetref1_Bits : Nat := 32
abbrev f_curvetref1_Bit : Nat := 37
abbrev f_divide_of : Nat := 72
abbrev f_divide_divisor_divide : Nat := 73
abbrev f_nat_used : Nat := 43
abbrev f_bits_Mul64 : Nat := 45
abbrev f_curvetref1_short : Nat := 74
abbrev f_curvetref1_Shl : Nat := 31
abbrev f_curvetref1_step : Nat := 75
abbrev f_curvetref1_Shr : Nat := 40
abbrev f_nat_Bits : Nat := 19
abbrev f_nat_Bit : Nat := 27
abbrev f_divide_length : Nat := 76
abbrev f_curvetref1_Sub : Nat := 30
abbrev f_curvetref1_Add : Nat := 28
abbrev f_bits_LeadingZeros64 : Nat := 77
abbrev f_divide_divisor_guess : Nat := 78
abbrev f_divide_divisor_take : Nat := 79
abbrev f_divide_divisor_back : Nat := 80
abbrev f_bits_Len64 : Nat := 44
abbrev f_bits_Div64 : Nat := 81
abbrev f_nat_Of : Nat := 11
abbrev f_nat_Bytes : Nat := 12
abbrev f_curvetref1_Bytes : Nat := 13
abbrev f_curvetref1_Read : Nat := 18
abbrev f_nat_Shl : Nat := 26
abbrev f_curvetref1_Wide : Nat := 33
abbrev f_nat_Shr : Nat := 36
abbrev f_curvetref1_Small : Nat := 39

/-- curvet/curvetlaw4.DividePowers -/
def c_curvetlaw4_DividePowers : Stm :=
  .seq (
  .reg [
    ⟨some 3, none, .boxv (.t 0)⟩,
    ⟨some 4, none, .boxv (.t 1)⟩,
    ⟨some 5, none, .boxv (.t 2)⟩,
    ⟨some 6, none, .mov (.c (.b false))⟩] [3, 4, 5]) (
  .seq (
  .reg [
    ⟨some 15, none, .ld true (some 9) (.t 3)⟩,
    ⟨some 16, none, .ld true (some 9) (.t 4)⟩,
    ⟨some 17, none, .ld true (some 9) (.t 5)⟩,
    ⟨some 18, none, .call f_divide_PowMod [] [(.t 15), (.t 16), (.t 17)]⟩,
    ⟨some 14, none, .mov (.t 18)⟩,
    ⟨some 19, none, .ext 0 (.t 14)⟩,
    ⟨some 20, none, .ext 1 (.t 14)⟩,
    ⟨some 7, none, .box (.c (.agg [.u 64 0, .u 64 0, .u 64 0, .u 64 0, .u 64 0, .u 64 0, .u 64 0, .u 64 0, .u 64 0]))⟩,
    ⟨none, none, .stl 7 9 (.t 7) (.t 19)⟩,
    ⟨some 8, none, .mov (.t 20)⟩] [3, 4, 5, 7, 8]) (
  .seq (
  .reg [
    ⟨some 22, none, .ld true (some 9) (.t 3)⟩,
    ⟨some 23, none, .ld true (some 9) (.t 5)⟩,
    ⟨some 24, none, .call f_divide_Inverse [] [(.t 22), (.t 23)]⟩,
    ⟨some 21, none, .mov (.t 24)⟩,
    ⟨some 25, none, .ext 0 (.t 21)⟩,
    ⟨some 26, none, .ext 1 (.t 21)⟩,
    ⟨some 9, none, .box (.c (.agg [.u 64 0, .u 64 0, .u 64 0, .u 64 0, .u 64 0, .u 64 0, .u 64 0, .u 64 0, .u 64 0]))⟩,
    ⟨none, none, .stl 9 9 (.t 9) (.t 25)⟩,
    ⟨some 10, none, .mov (.t 26)⟩] [3, 4, 5, 7, 8, 9, 10]) (
  .seq (
  .reg [
    ⟨some 27, none, .ld true (some 9) (.t 5)⟩,
    ⟨some 28, none, .call f_curvetref1_From [] [(.t 27)]⟩,
    ⟨some 11, none, .mov (.t 28)⟩] [3, 4, 7, 8, 9, 10, 11]) (
  .seq (
  .seq (
  .reg [
    ⟨some 29, none, .mov (.t 11)⟩,
    ⟨some 30, none, .len (.t 29)⟩,
    ⟨some 31, none, .bin .eql (.t 30) (.c (.i 0))⟩] [3, 4, 7, 8, 9, 10, 11, 31]) (
  .cond (.t 31) (
   .seq (
   .reg [
     ⟨some 32, none, .mov (.t 8)⟩,
     ⟨some 33, none, .call f_curvetlaw0_Num [] [(.t 32)]⟩,
     ⟨some 34, none, .bin .eql (.t 33) (.c (.i 400))⟩,
     ⟨some 35, none, .mov (.t 34)⟩,
     ⟨some 36, (some (35, true)), .mov (.t 10)⟩,
     ⟨some 37, (some (35, true)), .call f_curvetlaw0_Num [] [(.t 36)]⟩,
     ⟨some 38, (some (35, true)), .bin .eql (.t 37) (.c (.i 400))⟩,
     ⟨some 39, none, .pick (.t 35) (.t 38) (.c (.b false))⟩,
     ⟨some 40, none, .mov (.t 39)⟩,
     ⟨some 41, (some (40, true)), .ldl 7 (some 9) (.t 7)⟩,
     ⟨some 42, (some (40, true)), .build [.u 64 0, .u 64 0, .u 64 0, .u 64 0, .u 64 0, .u 64 0, .u 64 0, .u 64 0, .u 64 0] []⟩,
     ⟨some 43, (some (40, true)), .eqv (.agg [.u 64, .u 64, .u 64, .u 64, .u 64, .u 64, .u 64, .u 64, .u 64]) false (.t 41) (.t 42)⟩,
     ⟨some 44, none, .pick (.t 40) (.t 43) (.c (.b false))⟩,
     ⟨some 45, none, .mov (.t 44)⟩,
     ⟨some 46, (some (45, true)), .ldl 9 (some 9) (.t 9)⟩,
     ⟨some 47, (some (45, true)), .build [.u 64 0, .u 64 0, .u 64 0, .u 64 0, .u 64 0, .u 64 0, .u 64 0, .u 64 0, .u 64 0] []⟩,
     ⟨some 48, (some (45, true)), .eqv (.agg [.u 64, .u 64, .u 64, .u 64, .u 64, .u 64, .u 64, .u 64, .u 64]) false (.t 46) (.t 47)⟩,
     ⟨some 49, none, .pick (.t 45) (.t 48) (.c (.b false))⟩,
     ⟨some 50, none, .mov (.t 49)⟩,
     ⟨some 51, (some (50, true)), .call f_curvetlaw4_awake [] []⟩,
     ⟨some 52, none, .pick (.t 50) (.t 51) (.c (.b false))⟩,
     ⟨some 6, none, .mov (.t 52)⟩] [6]) (
   .ret)) (
   .reg [] [3, 4, 7, 8, 9, 10, 11]))) (
  .seq (
  .reg [
    ⟨some 54, none, .ld true (some 9) (.t 3)⟩,
    ⟨some 55, none, .call f_curvetref1_From [] [(.t 54)]⟩,
    ⟨some 56, none, .mov (.t 11)⟩,
    ⟨some 57, none, .call f_curvetref1_Inverse [] [(.t 55), (.t 56)]⟩,
    ⟨some 53, none, .mov (.t 57)⟩,
    ⟨some 58, none, .ext 0 (.t 53)⟩,
    ⟨some 59, none, .ext 1 (.t 53)⟩,
    ⟨some 12, none, .mov (.t 58)⟩,
    ⟨some 13, none, .mov (.t 59)⟩] [3, 4, 7, 8, 9, 10, 11, 12, 13]) (
  .seq (
  .seq (
  .reg [
    ⟨some 60, none, .mov (.t 8)⟩,
    ⟨some 61, none, .call f_curvetlaw0_Num [] [(.t 60)]⟩,
    ⟨some 62, none, .bin .neq (.t 61) (.c (.i 0))⟩,
    ⟨some 63, none, .mov (.t 62)⟩,
    ⟨some 64, (some (63, false)), .ldl 7 (some 9) (.t 7)⟩,
    ⟨some 65, (some (63, false)), .ld true (some 9) (.t 3)⟩,
    ⟨some 66, (some (63, false)), .call f_curvetref1_From [] [(.t 65)]⟩,
    ⟨some 67, (some (63, false)), .ld true (some 9) (.t 4)⟩,
    ⟨some 68, (some (63, false)), .call f_curvetref1_From [] [(.t 67)]⟩,
    ⟨some 69, (some (63, false)), .mov (.t 11)⟩,
    ⟨some 70, (some (63, false)), .call f_curvetref1_PowMod [] [(.t 66), (.t 68), (.t 69)]⟩,
    ⟨some 71, (some (63, false)), .call f_curvetref1_Nat [] [(.t 70)]⟩,
    ⟨some 72, (some (63, false)), .eqv (.agg [.u 64, .u 64, .u 64, .u 64, .u 64, .u 64, .u 64, .u 64, .u 64]) true (.t 64) (.t 71)⟩,
    ⟨some 73, none, .pick (.t 63) (.c (.b true)) (.t 72)⟩] [9, 10, 12, 13, 73]) (
  .cond (.t 73) (
   .seq (
   .reg [
     ⟨some 6, none, .mov (.c (.b false))⟩] [6]) (
   .ret)) (
   .reg [] [9, 10, 12, 13]))) (
  .seq (
  .seq (
  .reg [
    ⟨some 74, none, .mov (.t 13)⟩,
    ⟨some 75, none, .un .not (.t 74)⟩] [9, 10, 12, 75]) (
  .cond (.t 75) (
   .seq (
   .reg [
     ⟨some 76, none, .mov (.t 10)⟩,
     ⟨some 77, none, .call f_curvetlaw0_Num [] [(.t 76)]⟩,
     ⟨some 78, none, .bin .eql (.t 77) (.c (.i 401))⟩,
     ⟨some 79, none, .mov (.t 78)⟩,
     ⟨some 80, (some (79, true)), .ldl 9 (some 9) (.t 9)⟩,
     ⟨some 81, (some (79, true)), .build [.u 64 0, .u 64 0, .u 64 0, .u 64 0, .u 64 0, .u 64 0, .u 64 0, .u 64 0, .u 64 0] []⟩,
     ⟨some 82, (some (79, true)), .eqv (.agg [.u 64, .u 64, .u 64, .u 64, .u 64, .u 64, .u 64, .u 64, .u 64]) false (.t 80) (.t 81)⟩,
     ⟨some 83, none, .pick (.t 79) (.t 82) (.c (.b false))⟩,
     ⟨some 84, none, .mov (.t 83)⟩,
     ⟨some 85, (some (84, true)), .call f_curvetlaw4_awake [] []⟩,
     ⟨some 86, none, .pick (.t 84) (.t 85) (.c (.b false))⟩,
     ⟨some 6, none, .mov (.t 86)⟩] [6]) (
   .ret)) (
   .reg [] [9, 10, 12]))) (
  .seq (
  .reg [
    ⟨some 87, none, .mov (.t 10)⟩,
    ⟨some 88, none, .call f_curvetlaw0_Num [] [(.t 87)]⟩,
    ⟨some 89, none, .bin .eql (.t 88) (.c (.i 0))⟩,
    ⟨some 90, none, .mov (.t 89)⟩,
    ⟨some 91, (some (90, true)), .ldl 9 (some 9) (.t 9)⟩,
    ⟨some 92, (some (90, true)), .mov (.t 12)⟩,
    ⟨some 93, (some (90, true)), .call f_curvetref1_Nat [] [(.t 92)]⟩,
    ⟨some 94, (some (90, true)), .eqv (.agg [.u 64, .u 64, .u 64, .u 64, .u 64, .u 64, .u 64, .u 64, .u 64]) false (.t 91) (.t 93)⟩,
    ⟨some 95, none, .pick (.t 90) (.t 94) (.c (.b false))⟩,
    ⟨some 96, none, .mov (.t 95)⟩,
    ⟨some 97, (some (96, true)), .call f_curvetlaw4_awake [] []⟩,
    ⟨some 98, none, .pick (.t 96) (.t 97) (.c (.b false))⟩,
    ⟨some 6, none, .mov (.t 98)⟩] [6]) (
  .ret)))))))))
def m_curvetlaw4_DividePowers : MFn := ⟨c_curvetlaw4_DividePowers, [.tmp 6], 0⟩

/-- curvet/curvetlaw4.DivideSums -/
def c_curvetlaw4_DivideSums : Stm :=
  .seq (
  .reg [
    ⟨some 3, none, .boxv (.t 0)⟩,
    ⟨some 4, none, .boxv (.t 1)⟩,
    ⟨some 5, none, .boxv (.t 2)⟩,
    ⟨some 6, none, .mov (.c (.b false))⟩] [3, 4, 5]) (
  .seq (
  .seq (
  .reg [
    ⟨some 26, none, .call f_curvetlaw4_awake [] []⟩,
    ⟨some 27, none, .un .not (.t 26)⟩] [3, 4, 5, 27]) (
  .cond (.t 27) (
   .seq (
   .reg [
     ⟨some 6, none, .mov (.c (.b false))⟩] [6]) (
   .ret)) (
   .reg [] [3, 4, 5]))) (
  .seq (
  .reg [
    ⟨some 28, none, .off 0 (.t 3)⟩,
    ⟨some 29, none, .ld true (some 9) (.t 28)⟩,
    ⟨some 30, none, .call f_curvetlaw0_Nat [] [(.t 29), (.c (.i 575))]⟩,
    ⟨some 31, none, .off 0 (.t 4)⟩,
    ⟨some 32, none, .ld true (some 9) (.t 31)⟩,
    ⟨some 33, none, .call f_curvetlaw0_Nat [] [(.t 32), (.c (.i 575))]⟩,
    ⟨some 7, none, .box (.c (.agg [.u 64 0, .u 64 0, .u 64 0, .u 64 0, .u 64 0, .u 64 0, .u 64 0, .u 64 0, .u 64 0]))⟩,
    ⟨some 8, none, .box (.c (.agg [.u 64 0, .u 64 0, .u 64 0, .u 64 0, .u 64 0, .u 64 0, .u 64 0, .u 64 0, .u 64 0]))⟩,
    ⟨none, none, .stl 7 9 (.t 7) (.t 30)⟩,
    ⟨none, none, .stl 8 9 (.t 8) (.t 33)⟩] [5, 7, 8]) (
  .seq (
  .reg [
    ⟨some 35, none, .ldl 7 (some 9) (.t 7)⟩,
    ⟨some 36, none, .ldl 8 (some 9) (.t 8)⟩,
    ⟨some 37, none, .call f_nat_Add [] [(.t 35), (.t 36)]⟩,
    ⟨some 34, none, .mov (.t 37)⟩,
    ⟨some 38, none, .ext 0 (.t 34)⟩,
    ⟨some 39, none, .ext 1 (.t 34)⟩,
    ⟨some 9, none, .box (.c (.agg [.u 64 0, .u 64 0, .u 64 0, .u 64 0, .u 64 0, .u 64 0, .u 64 0, .u 64 0, .u 64 0]))⟩,
    ⟨none, none, .stl 9 9 (.t 9) (.t 38)⟩,
    ⟨some 10, none, .mov (.t 39)⟩] [5, 7, 8, 9]) (
  .seq (
  .reg [
    ⟨some 41, none, .ldl 7 (some 9) (.t 7)⟩,
    ⟨some 42, none, .ld true (some 9) (.t 5)⟩,
    ⟨some 43, none, .call f_divide_Div [] [(.t 41), (.t 42)]⟩,
    ⟨some 40, none, .mov (.t 43)⟩,
    ⟨some 44, none, .ext 0 (.t 40)⟩,
    ⟨some 45, none, .ext 1 (.t 40)⟩,
    ⟨some 46, none, .ext 2 (.t 40)⟩,
    ⟨some 11, none, .box (.c (.agg [.u 64 0, .u 64 0, .u 64 0, .u 64 0, .u 64 0, .u 64 0, .u 64 0, .u 64 0, .u 64 0]))⟩,
    ⟨some 12, none, .box (.c (.agg [.u 64 0, .u 64 0, .u 64 0, .u 64 0, .u 64 0, .u 64 0, .u 64 0, .u 64 0, .u 64 0]))⟩,
    ⟨none, none, .stl 11 9 (.t 11) (.t 44)⟩,
    ⟨none, none, .stl 12 9 (.t 12) (.t 45)⟩,
    ⟨some 13, none, .mov (.t 46)⟩] [5, 8, 9, 12, 13]) (
  .seq (
  .reg [
    ⟨some 48, none, .ldl 8 (some 9) (.t 8)⟩,
    ⟨some 49, none, .ld true (some 9) (.t 5)⟩,
    ⟨some 50, none, .call f_divide_Div [] [(.t 48), (.t 49)]⟩,
    ⟨some 47, none, .mov (.t 50)⟩,
    ⟨some 51, none, .ext 0 (.t 47)⟩,
    ⟨some 52, none, .ext 1 (.t 47)⟩,
    ⟨some 53, none, .ext 2 (.t 47)⟩,
    ⟨some 14, none, .box (.c (.agg [.u 64 0, .u 64 0, .u 64 0, .u 64 0, .u 64 0, .u 64 0, .u 64 0, .u 64 0, .u 64 0]))⟩,
    ⟨some 15, none, .box (.c (.agg [.u 64 0, .u 64 0, .u 64 0, .u 64 0, .u 64 0, .u 64 0, .u 64 0, .u 64 0, .u 64 0]))⟩,
    ⟨none, none, .stl 14 9 (.t 14) (.t 51)⟩,
    ⟨none, none, .stl 15 9 (.t 15) (.t 52)⟩,
    ⟨some 16, none, .mov (.t 53)⟩] [5, 9, 12, 13, 15, 16]) (
  .seq (
  .reg [
    ⟨some 55, none, .ldl 9 (some 9) (.t 9)⟩,
    ⟨some 56, none, .ld true (some 9) (.t 5)⟩,
    ⟨some 57, none, .call f_divide_Div [] [(.t 55), (.t 56)]⟩,
    ⟨some 54, none, .mov (.t 57)⟩,
    ⟨some 58, none, .ext 0 (.t 54)⟩,
    ⟨some 59, none, .ext 1 (.t 54)⟩,
    ⟨some 60, none, .ext 2 (.t 54)⟩,
    ⟨some 17, none, .box (.c (.agg [.u 64 0, .u 64 0, .u 64 0, .u 64 0, .u 64 0, .u 64 0, .u 64 0, .u 64 0, .u 64 0]))⟩,
    ⟨some 18, none, .box (.c (.agg [.u 64 0, .u 64 0, .u 64 0, .u 64 0, .u 64 0, .u 64 0, .u 64 0, .u 64 0, .u 64 0]))⟩,
    ⟨none, none, .stl 17 9 (.t 17) (.t 58)⟩,
    ⟨none, none, .stl 18 9 (.t 18) (.t 59)⟩,
    ⟨some 19, none, .mov (.t 60)⟩] [5, 12, 13, 15, 16, 18, 19]) (
  .seq (
  .seq (
  .reg [
    ⟨some 61, none, .ld true (some 9) (.t 5)⟩,
    ⟨some 62, none, .build [.u 64 0, .u 64 0, .u 64 0, .u 64 0, .u 64 0, .u 64 0, .u 64 0, .u 64 0, .u 64 0] []⟩,
    ⟨some 63, none, .eqv (.agg [.u 64, .u 64, .u 64, .u 64, .u 64, .u 64, .u 64, .u 64, .u 64]) false (.t 61) (.t 62)⟩] [5, 12, 13, 15, 16, 18, 19, 63]) (
  .cond (.t 63) (
   .seq (
   .reg [
     ⟨some 64, none, .mov (.t 13)⟩,
     ⟨some 65, none, .call f_curvetlaw0_Num [] [(.t 64)]⟩,
     ⟨some 66, none, .bin .eql (.t 65) (.c (.i 400))⟩,
     ⟨some 6, none, .mov (.t 66)⟩] [6]) (
   .ret)) (
   .reg [] [5, 12, 13, 15, 16, 18, 19]))) (
  .seq (
  .reg [
    ⟨some 67, none, .off 0 (.t 5)⟩,
    ⟨some 68, none, .ld true (some 9) (.t 67)⟩,
    ⟨some 69, none, .call f_curvetlaw0_Nat [] [(.t 68), (.c (.i 570))]⟩,
    ⟨some 20, none, .box (.c (.agg [.u 64 0, .u 64 0, .u 64 0, .u 64 0, .u 64 0, .u 64 0, .u 64 0, .u 64 0, .u 64 0]))⟩,
    ⟨none, none, .stl 20 9 (.t 20) (.t 69)⟩] [5, 12, 13, 15, 16, 18, 19, 20]) (
  .seq (
  .seq (
  .reg [
    ⟨some 70, none, .ldl 20 (some 9) (.t 20)⟩,
    ⟨some 71, none, .ld true (some 9) (.t 5)⟩,
    ⟨some 72, none, .eqv (.agg [.u 64, .u 64, .u 64, .u 64, .u 64, .u 64, .u 64, .u 64, .u 64]) true (.t 70) (.t 71)⟩] [5, 12, 13, 15, 16, 18, 19, 72]) (
  .cond (.t 72) (
   .seq (
   .reg [
     ⟨some 73, none, .mov (.t 13)⟩,
     ⟨some 74, none, .call f_curvetlaw0_Num [] [(.t 73)]⟩,
     ⟨some 75, none, .bin .eql (.t 74) (.c (.i 0))⟩,
     ⟨some 76, none, .mov (.t 75)⟩,
     ⟨some 77, (some (76, true)), .mov (.t 16)⟩,
     ⟨some 78, (some (76, true)), .call f_curvetlaw0_Num [] [(.t 77)]⟩,
     ⟨some 79, (some (76, true)), .bin .eql (.t 78) (.c (.i 0))⟩,
     ⟨some 80, none, .pick (.t 76) (.t 79) (.c (.b false))⟩,
     ⟨some 6, none, .mov (.t 80)⟩] [6]) (
   .ret)) (
   .reg [] [5, 12, 13, 15, 16, 18, 19]))) (
  .seq (
  .reg [
    ⟨some 82, none, .ldl 12 (some 9) (.t 12)⟩,
    ⟨some 83, none, .ldl 15 (some 9) (.t 15)⟩,
    ⟨some 84, none, .call f_nat_Add [] [(.t 82), (.t 83)]⟩,
    ⟨some 81, none, .mov (.t 84)⟩,
    ⟨some 85, none, .ext 0 (.t 81)⟩,
    ⟨some 86, none, .ext 1 (.t 81)⟩,
    ⟨some 21, none, .box (.c (.agg [.u 64 0, .u 64 0, .u 64 0, .u 64 0, .u 64 0, .u 64 0, .u 64 0, .u 64 0, .u 64 0]))⟩,
    ⟨none, none, .stl 21 9 (.t 21) (.t 85)⟩,
    ⟨some 22, none, .mov (.t 86)⟩] [5, 13, 16, 18, 19, 21]) (
  .seq (
  .reg [
    ⟨some 88, none, .ldl 21 (some 9) (.t 21)⟩,
    ⟨some 89, none, .ld true (some 9) (.t 5)⟩,
    ⟨some 90, none, .call f_divide_Div [] [(.t 88), (.t 89)]⟩,
    ⟨some 87, none, .mov (.t 90)⟩,
    ⟨some 91, none, .ext 0 (.t 87)⟩,
    ⟨some 92, none, .ext 1 (.t 87)⟩,
    ⟨some 93, none, .ext 2 (.t 87)⟩,
    ⟨some 23, none, .box (.c (.agg [.u 64 0, .u 64 0, .u 64 0, .u 64 0, .u 64 0, .u 64 0, .u 64 0, .u 64 0, .u 64 0]))⟩,
    ⟨some 24, none, .box (.c (.agg [.u 64 0, .u 64 0, .u 64 0, .u 64 0, .u 64 0, .u 64 0, .u 64 0, .u 64 0, .u 64 0]))⟩,
    ⟨none, none, .stl 23 9 (.t 23) (.t 91)⟩,
    ⟨none, none, .stl 24 9 (.t 24) (.t 92)⟩,
    ⟨some 25, none, .mov (.t 93)⟩] [13, 16, 18, 19, 24, 25]) (
  .seq (
  .reg [
    ⟨some 94, none, .mov (.t 13)⟩,
    ⟨some 95, none, .call f_curvetlaw0_Num [] [(.t 94)]⟩,
    ⟨some 96, none, .bin .eql (.t 95) (.c (.i 0))⟩,
    ⟨some 97, none, .mov (.t 96)⟩,
    ⟨some 98, (some (97, true)), .mov (.t 16)⟩,
    ⟨some 99, (some (97, true)), .call f_curvetlaw0_Num [] [(.t 98)]⟩,
    ⟨some 100, (some (97, true)), .bin .eql (.t 99) (.c (.i 0))⟩,
    ⟨some 101, none, .pick (.t 97) (.t 100) (.c (.b false))⟩,
    ⟨some 102, none, .mov (.t 101)⟩,
    ⟨some 103, (some (102, true)), .mov (.t 19)⟩,
    ⟨some 104, (some (102, true)), .call f_curvetlaw0_Num [] [(.t 103)]⟩,
    ⟨some 105, (some (102, true)), .bin .eql (.t 104) (.c (.i 0))⟩,
    ⟨some 106, none, .pick (.t 102) (.t 105) (.c (.b false))⟩,
    ⟨some 107, none, .mov (.t 106)⟩,
    ⟨some 108, (some (107, true)), .mov (.t 25)⟩,
    ⟨some 109, (some (107, true)), .call f_curvetlaw0_Num [] [(.t 108)]⟩,
    ⟨some 110, (some (107, true)), .bin .eql (.t 109) (.c (.i 0))⟩,
    ⟨some 111, none, .pick (.t 107) (.t 110) (.c (.b false))⟩,
    ⟨some 112, none, .mov (.t 111)⟩,
    ⟨some 113, (some (112, true)), .ldl 18 (some 9) (.t 18)⟩,
    ⟨some 114, (some (112, true)), .ldl 24 (some 9) (.t 24)⟩,
    ⟨some 115, (some (112, true)), .eqv (.agg [.u 64, .u 64, .u 64, .u 64, .u 64, .u 64, .u 64, .u 64, .u 64]) false (.t 113) (.t 114)⟩,
    ⟨some 116, none, .pick (.t 112) (.t 115) (.c (.b false))⟩,
    ⟨some 6, none, .mov (.t 116)⟩] [6]) (
  .ret)))))))))))))
def m_curvetlaw4_DivideSums : MFn := ⟨c_curvetlaw4_DivideSums, [.tmp 6], 0⟩

/-- curvet/curvetlaw4.DivideExponents -/
def c_curvetlaw4_DivideExponents : Stm :=
  .seq (
  .reg [
    ⟨some 4, none, .boxv (.t 0)⟩,
    ⟨some 5, none, .boxv (.t 1)⟩,
    ⟨some 8, none, .mov (.c (.b false))⟩] [2, 3, 4, 5]) (
  .seq (
  .seq (
  .reg [
    ⟨some 22, none, .call f_curvetlaw4_awake [] []⟩,
    ⟨some 23, none, .un .not (.t 22)⟩] [2, 3, 4, 5, 23]) (
  .cond (.t 23) (
   .seq (
   .reg [
     ⟨some 8, none, .mov (.c (.b false))⟩] [8]) (
   .ret)) (
   .reg [] [2, 3, 4, 5]))) (
  .seq (
  .reg [
    ⟨some 25, none, .ld true (some 9) (.t 4)⟩,
    ⟨some 26, none, .mov (.t 2)⟩,
    ⟨some 27, none, .bin .quo (.t 26) (.c (.u 64 2))⟩,
    ⟨some 28, none, .call f_curvetlaw0_One [] [(.t 27)]⟩,
    ⟨some 29, none, .ld true (some 9) (.t 5)⟩,
    ⟨some 30, none, .call f_divide_PowMod [] [(.t 25), (.t 28), (.t 29)]⟩,
    ⟨some 24, none, .mov (.t 30)⟩,
    ⟨some 31, none, .ext 0 (.t 24)⟩,
    ⟨some 32, none, .ext 1 (.t 24)⟩,
    ⟨some 9, none, .box (.c (.agg [.u 64 0, .u 64 0, .u 64 0, .u 64 0, .u 64 0, .u 64 0, .u 64 0, .u 64 0, .u 64 0]))⟩,
    ⟨none, none, .stl 9 9 (.t 9) (.t 31)⟩,
    ⟨some 10, none, .mov (.t 32)⟩] [2, 3, 4, 5, 9, 10]) (
  .seq (
  .reg [
    ⟨some 34, none, .ld true (some 9) (.t 4)⟩,
    ⟨some 35, none, .mov (.t 3)⟩,
    ⟨some 36, none, .bin .quo (.t 35) (.c (.u 64 2))⟩,
    ⟨some 37, none, .call f_curvetlaw0_One [] [(.t 36)]⟩,
    ⟨some 38, none, .ld true (some 9) (.t 5)⟩,
    ⟨some 39, none, .call f_divide_PowMod [] [(.t 34), (.t 37), (.t 38)]⟩,
    ⟨some 33, none, .mov (.t 39)⟩,
    ⟨some 40, none, .ext 0 (.t 33)⟩,
    ⟨some 41, none, .ext 1 (.t 33)⟩,
    ⟨some 11, none, .box (.c (.agg [.u 64 0, .u 64 0, .u 64 0, .u 64 0, .u 64 0, .u 64 0, .u 64 0, .u 64 0, .u 64 0]))⟩,
    ⟨none, none, .stl 11 9 (.t 11) (.t 40)⟩,
    ⟨some 12, none, .mov (.t 41)⟩] [2, 3, 4, 5, 9, 10, 11, 12]) (
  .seq (
  .reg [
    ⟨some 43, none, .ld true (some 9) (.t 4)⟩,
    ⟨some 44, none, .mov (.t 2)⟩,
    ⟨some 45, none, .bin .quo (.t 44) (.c (.u 64 2))⟩,
    ⟨some 46, none, .mov (.t 3)⟩,
    ⟨some 47, none, .bin .quo (.t 46) (.c (.u 64 2))⟩,
    ⟨some 48, none, .bin .add (.t 45) (.t 47)⟩,
    ⟨some 49, none, .call f_curvetlaw0_One [] [(.t 48)]⟩,
    ⟨some 50, none, .ld true (some 9) (.t 5)⟩,
    ⟨some 51, none, .call f_divide_PowMod [] [(.t 43), (.t 49), (.t 50)]⟩,
    ⟨some 42, none, .mov (.t 51)⟩,
    ⟨some 52, none, .ext 0 (.t 42)⟩,
    ⟨some 53, none, .ext 1 (.t 42)⟩,
    ⟨some 13, none, .box (.c (.agg [.u 64 0, .u 64 0, .u 64 0, .u 64 0, .u 64 0, .u 64 0, .u 64 0, .u 64 0, .u 64 0]))⟩,
    ⟨none, none, .stl 13 9 (.t 13) (.t 52)⟩,
    ⟨some 14, none, .mov (.t 53)⟩] [4, 5, 9, 10, 11, 12, 13, 14]) (
  .seq (
  .seq (
  .reg [
    ⟨some 54, none, .ld true (some 9) (.t 5)⟩,
    ⟨some 55, none, .build [.u 64 0, .u 64 0, .u 64 0, .u 64 0, .u 64 0, .u 64 0, .u 64 0, .u 64 0, .u 64 0] []⟩,
    ⟨some 56, none, .eqv (.agg [.u 64, .u 64, .u 64, .u 64, .u 64, .u 64, .u 64, .u 64, .u 64]) false (.t 54) (.t 55)⟩] [4, 5, 9, 10, 11, 12, 13, 14, 56]) (
  .cond (.t 56) (
   .seq (
   .reg [
     ⟨some 57, none, .mov (.t 10)⟩,
     ⟨some 58, none, .call f_curvetlaw0_Num [] [(.t 57)]⟩,
     ⟨some 59, none, .bin .eql (.t 58) (.c (.i 400))⟩,
     ⟨some 60, none, .mov (.t 59)⟩,
     ⟨some 61, (some (60, true)), .mov (.t 14)⟩,
     ⟨some 62, (some (60, true)), .call f_curvetlaw0_Num [] [(.t 61)]⟩,
     ⟨some 63, (some (60, true)), .bin .eql (.t 62) (.c (.i 400))⟩,
     ⟨some 64, none, .pick (.t 60) (.t 63) (.c (.b false))⟩,
     ⟨some 8, none, .mov (.t 64)⟩] [8]) (
   .ret)) (
   .reg [] [4, 5, 9, 10, 11, 12, 13, 14]))) (
  .seq (
  .reg [
    ⟨some 66, none, .ldl 9 (some 9) (.t 9)⟩,
    ⟨some 67, none, .ldl 11 (some 9) (.t 11)⟩,
    ⟨some 68, none, .ld true (some 9) (.t 5)⟩,
    ⟨some 69, none, .call f_divide_MulMod [] [(.t 66), (.t 67), (.t 68)]⟩,
    ⟨some 65, none, .mov (.t 69)⟩,
    ⟨some 70, none, .ext 0 (.t 65)⟩,
    ⟨some 71, none, .ext 1 (.t 65)⟩,
    ⟨some 15, none, .box (.c (.agg [.u 64 0, .u 64 0, .u 64 0, .u 64 0, .u 64 0, .u 64 0, .u 64 0, .u 64 0, .u 64 0]))⟩,
    ⟨none, none, .stl 15 9 (.t 15) (.t 70)⟩,
    ⟨some 16, none, .mov (.t 71)⟩] [4, 5, 10, 12, 13, 14, 15, 16]) (
  .seq (
  .reg [
    ⟨some 73, none, .ld true (some 9) (.t 4)⟩,
    ⟨some 74, none, .build [.u 64 0, .u 64 0, .u 64 0, .u 64 0, .u 64 0, .u 64 0, .u 64 0, .u 64 0, .u 64 0] []⟩,
    ⟨some 75, none, .ld true (some 9) (.t 5)⟩,
    ⟨some 76, none, .call f_divide_PowMod [] [(.t 73), (.t 74), (.t 75)]⟩,
    ⟨some 72, none, .mov (.t 76)⟩,
    ⟨some 77, none, .ext 0 (.t 72)⟩,
    ⟨some 78, none, .ext 1 (.t 72)⟩,
    ⟨some 17, none, .box (.c (.agg [.u 64 0, .u 64 0, .u 64 0, .u 64 0, .u 64 0, .u 64 0, .u 64 0, .u 64 0, .u 64 0]))⟩,
    ⟨none, none, .stl 17 9 (.t 17) (.t 77)⟩,
    ⟨some 18, none, .mov (.t 78)⟩] [5, 10, 12, 13, 14, 15, 16, 17, 18]) (
  .seq (
  .reg [
    ⟨some 80, none, .call f_curvetlaw0_One [] [(.c (.u 64 1))]⟩,
    ⟨some 81, none, .ld true (some 9) (.t 5)⟩,
    ⟨some 82, none, .call f_divide_Div [] [(.t 80), (.t 81)]⟩,
    ⟨some 79, none, .mov (.t 82)⟩,
    ⟨some 83, none, .ext 0 (.t 79)⟩,
    ⟨some 84, none, .ext 1 (.t 79)⟩,
    ⟨some 85, none, .ext 2 (.t 79)⟩,
    ⟨some 19, none, .box (.c (.agg [.u 64 0, .u 64 0, .u 64 0, .u 64 0, .u 64 0, .u 64 0, .u 64 0, .u 64 0, .u 64 0]))⟩,
    ⟨some 20, none, .box (.c (.agg [.u 64 0, .u 64 0, .u 64 0, .u 64 0, .u 64 0, .u 64 0, .u 64 0, .u 64 0, .u 64 0]))⟩,
    ⟨none, none, .stl 19 9 (.t 19) (.t 83)⟩,
    ⟨none, none, .stl 20 9 (.t 20) (.t 84)⟩,
    ⟨some 21, none, .mov (.t 85)⟩] [10, 12, 13, 14, 15, 16, 17, 18, 20]) (
  .seq (
  .reg [
    ⟨some 86, none, .mov (.t 10)⟩,
    ⟨some 87, none, .call f_curvetlaw0_Num [] [(.t 86)]⟩,
    ⟨some 88, none, .bin .eql (.t 87) (.c (.i 0))⟩,
    ⟨some 89, none, .mov (.t 88)⟩,
    ⟨some 90, (some (89, true)), .mov (.t 12)⟩,
    ⟨some 91, (some (89, true)), .call f_curvetlaw0_Num [] [(.t 90)]⟩,
    ⟨some 92, (some (89, true)), .bin .eql (.t 91) (.c (.i 0))⟩,
    ⟨some 93, none, .pick (.t 89) (.t 92) (.c (.b false))⟩,
    ⟨some 94, none, .mov (.t 93)⟩,
    ⟨some 95, (some (94, true)), .mov (.t 14)⟩,
    ⟨some 96, (some (94, true)), .call f_curvetlaw0_Num [] [(.t 95)]⟩,
    ⟨some 97, (some (94, true)), .bin .eql (.t 96) (.c (.i 0))⟩,
    ⟨some 98, none, .pick (.t 94) (.t 97) (.c (.b false))⟩,
    ⟨some 99, none, .mov (.t 98)⟩,
    ⟨some 100, (some (99, true)), .mov (.t 16)⟩,
    ⟨some 101, (some (99, true)), .call f_curvetlaw0_Num [] [(.t 100)]⟩,
    ⟨some 102, (some (99, true)), .bin .eql (.t 101) (.c (.i 0))⟩,
    ⟨some 103, none, .pick (.t 99) (.t 102) (.c (.b false))⟩,
    ⟨some 104, none, .mov (.t 103)⟩,
    ⟨some 105, (some (104, true)), .mov (.t 18)⟩,
    ⟨some 106, (some (104, true)), .call f_curvetlaw0_Num [] [(.t 105)]⟩,
    ⟨some 107, (some (104, true)), .bin .eql (.t 106) (.c (.i 0))⟩,
    ⟨some 108, none, .pick (.t 104) (.t 107) (.c (.b false))⟩,
    ⟨some 109, none, .mov (.t 108)⟩,
    ⟨some 110, (some (109, true)), .ldl 13 (some 9) (.t 13)⟩,
    ⟨some 111, (some (109, true)), .ldl 15 (some 9) (.t 15)⟩,
    ⟨some 112, (some (109, true)), .eqv (.agg [.u 64, .u 64, .u 64, .u 64, .u 64, .u 64, .u 64, .u 64, .u 64]) false (.t 110) (.t 111)⟩,
    ⟨some 113, none, .pick (.t 109) (.t 112) (.c (.b false))⟩,
    ⟨some 114, none, .mov (.t 113)⟩,
    ⟨some 115, (some (114, true)), .ldl 17 (some 9) (.t 17)⟩,
    ⟨some 116, (some (114, true)), .ldl 20 (some 9) (.t 20)⟩,
    ⟨some 117, (some (114, true)), .eqv (.agg [.u 64, .u 64, .u 64, .u 64, .u 64, .u 64, .u 64, .u 64, .u 64]) false (.t 115) (.t 116)⟩,
    ⟨some 118, none, .pick (.t 114) (.t 117) (.c (.b false))⟩,
    ⟨some 8, none, .mov (.t 118)⟩] [8]) (
  .ret))))))))))
def m_curvetlaw4_DivideExponents : MFn := ⟨c_curvetlaw4_DivideExponents, [.tmp 8], 0⟩

/-- curvet/curvetlaw4.DivideTimes -/
def c_curvetlaw4_DivideTimes : Stm :=
  .seq (
  .reg [
    ⟨some 4, none, .boxv (.t 0)⟩,
    ⟨some 5, none, .boxv (.t 1)⟩,
    ⟨some 6, none, .boxv (.t 2)⟩,
    ⟨some 7, none, .boxv (.t 3)⟩,
    ⟨some 8, none, .mov (.c (.b false))⟩] [4, 5, 6, 7]) (
  .seq (
  .seq (
  .reg [
    ⟨some 19, none, .call f_curvetlaw4_awake [] []⟩,
    ⟨some 20, none, .un .not (.t 19)⟩] [4, 5, 6, 7, 20]) (
  .cond (.t 20) (
   .seq (
   .reg [
     ⟨some 8, none, .mov (.c (.b false))⟩] [8]) (
   .ret)) (
   .reg [] [4, 5, 6, 7]))) (
  .seq (
  .seq (
  .reg [
    ⟨some 21, none, .ld true (some 9) (.t 7)⟩,
    ⟨some 22, none, .build [.u 64 0, .u 64 0, .u 64 0, .u 64 0, .u 64 0, .u 64 0, .u 64 0, .u 64 0, .u 64 0] []⟩,
    ⟨some 23, none, .eqv (.agg [.u 64, .u 64, .u 64, .u 64, .u 64, .u 64, .u 64, .u 64, .u 64]) false (.t 21) (.t 22)⟩] [4, 5, 6, 7, 23]) (
  .cond (.t 23) (
   .seq (
   .reg [
     ⟨some 8, none, .mov (.c (.b true))⟩] [8]) (
   .ret)) (
   .reg [] [4, 5, 6, 7]))) (
  .seq (
  .reg [
    ⟨some 25, none, .ld true (some 9) (.t 4)⟩,
    ⟨some 26, none, .ld true (some 9) (.t 5)⟩,
    ⟨some 27, none, .ld true (some 9) (.t 7)⟩,
    ⟨some 28, none, .call f_divide_MulMod [] [(.t 25), (.t 26), (.t 27)]⟩,
    ⟨some 24, none, .mov (.t 28)⟩,
    ⟨some 29, none, .ext 0 (.t 24)⟩,
    ⟨some 30, none, .ext 1 (.t 24)⟩,
    ⟨some 9, none, .box (.c (.agg [.u 64 0, .u 64 0, .u 64 0, .u 64 0, .u 64 0, .u 64 0, .u 64 0, .u 64 0, .u 64 0]))⟩,
    ⟨none, none, .stl 9 9 (.t 9) (.t 29)⟩,
    ⟨some 10, none, .mov (.t 30)⟩] [4, 5, 6, 7, 9, 10]) (
  .seq (
  .reg [
    ⟨some 32, none, .ldl 9 (some 9) (.t 9)⟩,
    ⟨some 33, none, .ld true (some 9) (.t 6)⟩,
    ⟨some 34, none, .ld true (some 9) (.t 7)⟩,
    ⟨some 35, none, .call f_divide_MulMod [] [(.t 32), (.t 33), (.t 34)]⟩,
    ⟨some 31, none, .mov (.t 35)⟩,
    ⟨some 36, none, .ext 0 (.t 31)⟩,
    ⟨some 37, none, .ext 1 (.t 31)⟩,
    ⟨some 11, none, .box (.c (.agg [.u 64 0, .u 64 0, .u 64 0, .u 64 0, .u 64 0, .u 64 0, .u 64 0, .u 64 0, .u 64 0]))⟩,
    ⟨none, none, .stl 11 9 (.t 11) (.t 36)⟩,
    ⟨some 12, none, .mov (.t 37)⟩] [4, 5, 6, 7, 10, 11, 12]) (
  .seq (
  .reg [
    ⟨some 39, none, .ld true (some 9) (.t 5)⟩,
    ⟨some 40, none, .ld true (some 9) (.t 6)⟩,
    ⟨some 41, none, .ld true (some 9) (.t 7)⟩,
    ⟨some 42, none, .call f_divide_MulMod [] [(.t 39), (.t 40), (.t 41)]⟩,
    ⟨some 38, none, .mov (.t 42)⟩,
    ⟨some 43, none, .ext 0 (.t 38)⟩,
    ⟨some 44, none, .ext 1 (.t 38)⟩,
    ⟨some 13, none, .box (.c (.agg [.u 64 0, .u 64 0, .u 64 0, .u 64 0, .u 64 0, .u 64 0, .u 64 0, .u 64 0, .u 64 0]))⟩,
    ⟨none, none, .stl 13 9 (.t 13) (.t 43)⟩,
    ⟨some 14, none, .mov (.t 44)⟩] [4, 7, 10, 11, 12, 13, 14]) (
  .seq (
  .reg [
    ⟨some 46, none, .ld true (some 9) (.t 4)⟩,
    ⟨some 47, none, .ldl 13 (some 9) (.t 13)⟩,
    ⟨some 48, none, .ld true (some 9) (.t 7)⟩,
    ⟨some 49, none, .call f_divide_MulMod [] [(.t 46), (.t 47), (.t 48)]⟩,
    ⟨some 45, none, .mov (.t 49)⟩,
    ⟨some 50, none, .ext 0 (.t 45)⟩,
    ⟨some 51, none, .ext 1 (.t 45)⟩,
    ⟨some 15, none, .box (.c (.agg [.u 64 0, .u 64 0, .u 64 0, .u 64 0, .u 64 0, .u 64 0, .u 64 0, .u 64 0, .u 64 0]))⟩,
    ⟨none, none, .stl 15 9 (.t 15) (.t 50)⟩,
    ⟨some 16, none, .mov (.t 51)⟩] [4, 7, 10, 11, 12, 14, 15, 16]) (
  .seq (
  .reg [
    ⟨some 53, none, .ld true (some 9) (.t 7)⟩,
    ⟨some 54, none, .ld true (some 9) (.t 4)⟩,
    ⟨some 55, none, .ld true (some 9) (.t 7)⟩,
    ⟨some 56, none, .call f_divide_MulMod [] [(.t 53), (.t 54), (.t 55)]⟩,
    ⟨some 52, none, .mov (.t 56)⟩,
    ⟨some 57, none, .ext 0 (.t 52)⟩,
    ⟨some 58, none, .ext 1 (.t 52)⟩,
    ⟨some 17, none, .box (.c (.agg [.u 64 0, .u 64 0, .u 64 0, .u 64 0, .u 64 0, .u 64 0, .u 64 0, .u 64 0, .u 64 0]))⟩,
    ⟨none, none, .stl 17 9 (.t 17) (.t 57)⟩,
    ⟨some 18, none, .mov (.t 58)⟩] [10, 11, 12, 14, 15, 16, 17, 18]) (
  .seq (
  .reg [
    ⟨some 59, none, .mov (.t 10)⟩,
    ⟨some 60, none, .call f_curvetlaw0_Num [] [(.t 59)]⟩,
    ⟨some 61, none, .bin .eql (.t 60) (.c (.i 0))⟩,
    ⟨some 62, none, .mov (.t 61)⟩,
    ⟨some 63, (some (62, true)), .mov (.t 12)⟩,
    ⟨some 64, (some (62, true)), .call f_curvetlaw0_Num [] [(.t 63)]⟩,
    ⟨some 65, (some (62, true)), .bin .eql (.t 64) (.c (.i 0))⟩,
    ⟨some 66, none, .pick (.t 62) (.t 65) (.c (.b false))⟩,
    ⟨some 67, none, .mov (.t 66)⟩,
    ⟨some 68, (some (67, true)), .mov (.t 14)⟩,
    ⟨some 69, (some (67, true)), .call f_curvetlaw0_Num [] [(.t 68)]⟩,
    ⟨some 70, (some (67, true)), .bin .eql (.t 69) (.c (.i 0))⟩,
    ⟨some 71, none, .pick (.t 67) (.t 70) (.c (.b false))⟩,
    ⟨some 72, none, .mov (.t 71)⟩,
    ⟨some 73, (some (72, true)), .mov (.t 16)⟩,
    ⟨some 74, (some (72, true)), .call f_curvetlaw0_Num [] [(.t 73)]⟩,
    ⟨some 75, (some (72, true)), .bin .eql (.t 74) (.c (.i 0))⟩,
    ⟨some 76, none, .pick (.t 72) (.t 75) (.c (.b false))⟩,
    ⟨some 77, none, .mov (.t 76)⟩,
    ⟨some 78, (some (77, true)), .mov (.t 18)⟩,
    ⟨some 79, (some (77, true)), .call f_curvetlaw0_Num [] [(.t 78)]⟩,
    ⟨some 80, (some (77, true)), .bin .eql (.t 79) (.c (.i 0))⟩,
    ⟨some 81, none, .pick (.t 77) (.t 80) (.c (.b false))⟩,
    ⟨some 82, none, .mov (.t 81)⟩,
    ⟨some 83, (some (82, true)), .ldl 11 (some 9) (.t 11)⟩,
    ⟨some 84, (some (82, true)), .ldl 15 (some 9) (.t 15)⟩,
    ⟨some 85, (some (82, true)), .eqv (.agg [.u 64, .u 64, .u 64, .u 64, .u 64, .u 64, .u 64, .u 64, .u 64]) false (.t 83) (.t 84)⟩,
    ⟨some 86, none, .pick (.t 82) (.t 85) (.c (.b false))⟩,
    ⟨some 87, none, .mov (.t 86)⟩,
    ⟨some 88, (some (87, true)), .ldl 17 (some 9) (.t 17)⟩,
    ⟨some 89, (some (87, true)), .build [.u 64 0, .u 64 0, .u 64 0, .u 64 0, .u 64 0, .u 64 0, .u 64 0, .u 64 0, .u 64 0] []⟩,
    ⟨some 90, (some (87, true)), .eqv (.agg [.u 64, .u 64, .u 64, .u 64, .u 64, .u 64, .u 64, .u 64, .u 64]) false (.t 88) (.t 89)⟩,
    ⟨some 91, none, .pick (.t 87) (.t 90) (.c (.b false))⟩,
    ⟨some 8, none, .mov (.t 91)⟩] [8]) (
  .ret)))))))))
def m_curvetlaw4_DivideTimes : MFn := ⟨c_curvetlaw4_DivideTimes, [.tmp 8], 0⟩

/-- curvet/curvetlaw4.DivideBack -/
def c_curvetlaw4_DivideBack : Stm :=
  .seq (
  .reg [
    ⟨some 2, none, .boxv (.t 0)⟩,
    ⟨some 3, none, .boxv (.t 1)⟩,
    ⟨some 4, none, .mov (.c (.b false))⟩] [2, 3]) (
  .seq (
  .seq (
  .reg [
    ⟨some 13, none, .call f_curvetlaw4_awake [] []⟩,
    ⟨some 14, none, .un .not (.t 13)⟩] [2, 3, 14]) (
  .cond (.t 14) (
   .seq (
   .reg [
     ⟨some 4, none, .mov (.c (.b false))⟩] [4]) (
   .ret)) (
   .reg [] [2, 3]))) (
  .seq (
  .reg [
    ⟨some 16, none, .ld true (some 9) (.t 2)⟩,
    ⟨some 17, none, .ld true (some 9) (.t 3)⟩,
    ⟨some 18, none, .call f_divide_Div [] [(.t 16), (.t 17)]⟩,
    ⟨some 15, none, .mov (.t 18)⟩,
    ⟨some 19, none, .ext 0 (.t 15)⟩,
    ⟨some 20, none, .ext 1 (.t 15)⟩,
    ⟨some 21, none, .ext 2 (.t 15)⟩,
    ⟨some 5, none, .box (.c (.agg [.u 64 0, .u 64 0, .u 64 0, .u 64 0, .u 64 0, .u 64 0, .u 64 0, .u 64 0, .u 64 0]))⟩,
    ⟨some 6, none, .box (.c (.agg [.u 64 0, .u 64 0, .u 64 0, .u 64 0, .u 64 0, .u 64 0, .u 64 0, .u 64 0, .u 64 0]))⟩,
    ⟨none, none, .stl 5 9 (.t 5) (.t 19)⟩,
    ⟨none, none, .stl 6 9 (.t 6) (.t 20)⟩,
    ⟨some 7, none, .mov (.t 21)⟩] [2, 3, 5, 6, 7]) (
  .seq (
  .seq (
  .reg [
    ⟨some 22, none, .mov (.t 7)⟩,
    ⟨some 23, none, .call f_curvetlaw0_Num [] [(.t 22)]⟩,
    ⟨some 24, none, .bin .neq (.t 23) (.c (.i 0))⟩] [2, 3, 5, 6, 24]) (
  .cond (.t 24) (
   .seq (
   .reg [
     ⟨some 25, none, .ld true (some 9) (.t 3)⟩,
     ⟨some 26, none, .build [.u 64 0, .u 64 0, .u 64 0, .u 64 0, .u 64 0, .u 64 0, .u 64 0, .u 64 0, .u 64 0] []⟩,
     ⟨some 27, none, .eqv (.agg [.u 64, .u 64, .u 64, .u 64, .u 64, .u 64, .u 64, .u 64, .u 64]) false (.t 25) (.t 26)⟩,
     ⟨some 4, none, .mov (.t 27)⟩] [4]) (
   .ret)) (
   .reg [] [2, 3, 5, 6]))) (
  .seq (
  .reg [
    ⟨some 28, none, .ldl 5 (some 9) (.t 5)⟩,
    ⟨some 29, none, .ld true (some 9) (.t 3)⟩,
    ⟨some 30, none, .call f_nat_Mul [] [(.t 28), (.t 29)]⟩,
    ⟨some 8, none, .box (.c (.agg [.u 64 0, .u 64 0, .u 64 0, .u 64 0, .u 64 0, .u 64 0, .u 64 0, .u 64 0, .u 64 0, .u 64 0, .u 64 0, .u 64 0, .u 64 0, .u 64 0, .u 64 0, .u 64 0, .u 64 0, .u 64 0]))⟩,
    ⟨none, none, .stl 8 18 (.t 8) (.t 30)⟩] [2, 3, 6, 8]) (
  .seq (
  .reg [
    ⟨some 9, none, .box (.c (.agg [.u 64 0, .u 64 0, .u 64 0, .u 64 0, .u 64 0, .u 64 0, .u 64 0, .u 64 0, .u 64 0]))⟩] [2, 3, 6, 8, 9]) (
  .seq (
  .seq (
  .reg [
    ⟨some 10, none, .mov (.c (.i 0))⟩] [2, 3, 6, 8, 9, 10]) (
  .block 0 (
   .loop [2, 3, 6, 8, 9, 10] (
    .seq (
    .seq (
    .reg [
      ⟨some 31, none, .mov (.t 10)⟩,
      ⟨some 32, none, .bin .lss (.t 31) (.c (.i 9))⟩] [2, 3, 6, 8, 9, 10, 32]) (
    .cond (.t 32) (
     .reg [] [2, 3, 6, 8, 9, 10]) (
     .exit 0 [2, 3, 6, 9]))) (
    .seq (
    .block 1 (
     .seq (
     .reg [
       ⟨some 35, none, .mov (.t 10)⟩,
       ⟨some 36, none, .mov (.t 10)⟩,
       ⟨some 37, none, .off 0 (.t 8)⟩,
       ⟨some 38, none, .idx 18 1 (.t 37) (.t 36)⟩,
       ⟨some 39, none, .ldl 8 none (.t 38)⟩,
       ⟨some 40, none, .off 0 (.t 9)⟩,
       ⟨some 41, none, .idx 9 1 (.t 40) (.t 35)⟩,
       ⟨none, none, .stl 9 1 (.t 41) (.t 39)⟩] [2, 3, 6, 8, 9, 10]) (
     .seq (
     .reg [
       ⟨some 42, none, .mov (.t 10)⟩,
       ⟨some 43, none, .bin .add (.c (.i 9)) (.t 42)⟩,
       ⟨some 44, none, .off 0 (.t 8)⟩,
       ⟨some 45, none, .idx 18 1 (.t 44) (.t 43)⟩,
       ⟨some 46, none, .ldl 8 none (.t 45)⟩,
       ⟨some 47, none, .bin .neq (.t 46) (.c (.u 64 0))⟩] [2, 3, 6, 8, 9, 10, 47]) (
     .cond (.t 47) (
      .seq (
      .reg [
        ⟨some 4, none, .mov (.c (.b false))⟩] [4]) (
      .ret)) (
      .reg [] [2, 3, 6, 8, 9, 10]))))) (
    .reg [
      ⟨some 33, none, .mov (.t 10)⟩,
      ⟨some 34, none, .bin .add (.t 33) (.c (.i 1))⟩,
      ⟨some 10, none, .mov (.t 34)⟩] [2, 3, 6, 8, 9, 10])))))) (
  .seq (
  .reg [
    ⟨some 49, none, .ldl 9 (some 9) (.t 9)⟩,
    ⟨some 50, none, .ldl 6 (some 9) (.t 6)⟩,
    ⟨some 51, none, .call f_nat_Add [] [(.t 49), (.t 50)]⟩,
    ⟨some 48, none, .mov (.t 51)⟩,
    ⟨some 52, none, .ext 0 (.t 48)⟩,
    ⟨some 53, none, .ext 1 (.t 48)⟩,
    ⟨some 11, none, .box (.c (.agg [.u 64 0, .u 64 0, .u 64 0, .u 64 0, .u 64 0, .u 64 0, .u 64 0, .u 64 0, .u 64 0]))⟩,
    ⟨none, none, .stl 11 9 (.t 11) (.t 52)⟩,
    ⟨some 12, none, .mov (.t 53)⟩] [2, 3, 6, 11, 12]) (
  .seq (
  .reg [
    ⟨some 54, none, .ldl 11 (some 9) (.t 11)⟩,
    ⟨some 55, none, .ld true (some 9) (.t 2)⟩,
    ⟨some 56, none, .eqv (.agg [.u 64, .u 64, .u 64, .u 64, .u 64, .u 64, .u 64, .u 64, .u 64]) false (.t 54) (.t 55)⟩,
    ⟨some 57, none, .mov (.t 56)⟩,
    ⟨some 58, (some (57, true)), .mov (.t 12)⟩,
    ⟨some 59, (some (57, true)), .un .not (.t 58)⟩,
    ⟨some 60, none, .pick (.t 57) (.t 59) (.c (.b false))⟩,
    ⟨some 61, none, .mov (.t 60)⟩,
    ⟨some 62, (some (61, true)), .ldl 6 (some 9) (.t 6)⟩,
    ⟨some 63, (some (61, true)), .ld true (some 9) (.t 3)⟩,
    ⟨some 64, (some (61, true)), .call f_nat_Cmp [] [(.t 62), (.t 63)]⟩,
    ⟨some 65, (some (61, true)), .bin .lss (.t 64) (.c (.i 0))⟩,
    ⟨some 66, none, .pick (.t 61) (.t 65) (.c (.b false))⟩,
    ⟨some 4, none, .mov (.t 66)⟩] [4]) (
  .ret)))))))))
def m_curvetlaw4_DivideBack : MFn := ⟨c_curvetlaw4_DivideBack, [.tmp 4], 0⟩

/-- curvet/curvetlaw4.DivideSmall -/
def c_curvetlaw4_DivideSmall : Stm :=
  .seq (
  .reg [
    ⟨some 2, none, .boxv (.t 0)⟩,
    ⟨some 3, none, .boxv (.t 1)⟩,
    ⟨some 4, none, .mov (.c (.b false))⟩] [2, 3]) (
  .seq (
  .seq (
  .reg [
    ⟨some 13, none, .call f_curvetlaw4_awake [] []⟩,
    ⟨some 14, none, .un .not (.t 13)⟩] [2, 3, 14]) (
  .cond (.t 14) (
   .seq (
   .reg [
     ⟨some 4, none, .mov (.c (.b false))⟩] [4]) (
   .ret)) (
   .reg [] [2, 3]))) (
  .seq (
  .reg [
    ⟨some 16, none, .ld true (some 9) (.t 2)⟩,
    ⟨some 17, none, .call f_curvetlaw0_One [] [(.c (.u 64 1))]⟩,
    ⟨some 18, none, .call f_divide_Div [] [(.t 16), (.t 17)]⟩,
    ⟨some 15, none, .mov (.t 18)⟩,
    ⟨some 19, none, .ext 0 (.t 15)⟩,
    ⟨some 20, none, .ext 1 (.t 15)⟩,
    ⟨some 21, none, .ext 2 (.t 15)⟩,
    ⟨some 5, none, .box (.c (.agg [.u 64 0, .u 64 0, .u 64 0, .u 64 0, .u 64 0, .u 64 0, .u 64 0, .u 64 0, .u 64 0]))⟩,
    ⟨some 6, none, .box (.c (.agg [.u 64 0, .u 64 0, .u 64 0, .u 64 0, .u 64 0, .u 64 0, .u 64 0, .u 64 0, .u 64 0]))⟩,
    ⟨none, none, .stl 5 9 (.t 5) (.t 19)⟩,
    ⟨none, none, .stl 6 9 (.t 6) (.t 20)⟩,
    ⟨some 7, none, .mov (.t 21)⟩] [2, 3, 5, 6, 7]) (
  .seq (
  .reg [
    ⟨some 23, none, .ld true (some 9) (.t 2)⟩,
    ⟨some 24, none, .ld true (some 9) (.t 3)⟩,
    ⟨some 25, none, .call f_nat_Add [] [(.t 23), (.t 24)]⟩,
    ⟨some 22, none, .mov (.t 25)⟩,
    ⟨some 26, none, .ext 0 (.t 22)⟩,
    ⟨some 27, none, .ext 1 (.t 22)⟩,
    ⟨some 8, none, .box (.c (.agg [.u 64 0, .u 64 0, .u 64 0, .u 64 0, .u 64 0, .u 64 0, .u 64 0, .u 64 0, .u 64 0]))⟩,
    ⟨none, none, .stl 8 9 (.t 8) (.t 26)⟩,
    ⟨some 9, none, .mov (.t 27)⟩] [2, 5, 6, 7, 8, 9]) (
  .seq (
  .seq (
  .reg [
    ⟨some 28, none, .mov (.t 9)⟩,
    ⟨some 29, none, .mov (.t 28)⟩,
    ⟨some 30, (some (29, false)), .ldl 8 (some 9) (.t 8)⟩,
    ⟨some 31, (some (29, false)), .ld true (some 9) (.t 2)⟩,
    ⟨some 32, (some (29, false)), .call f_nat_Cmp [] [(.t 30), (.t 31)]⟩,
    ⟨some 33, (some (29, false)), .bin .eql (.t 32) (.c (.i 0))⟩,
    ⟨some 34, none, .pick (.t 29) (.c (.b true)) (.t 33)⟩] [2, 5, 6, 7, 8, 34]) (
  .cond (.t 34) (
   .seq (
   .reg [
     ⟨some 35, none, .mov (.t 7)⟩,
     ⟨some 36, none, .call f_curvetlaw0_Num [] [(.t 35)]⟩,
     ⟨some 37, none, .bin .eql (.t 36) (.c (.i 0))⟩,
     ⟨some 38, none, .mov (.t 37)⟩,
     ⟨some 39, (some (38, true)), .ldl 5 (some 9) (.t 5)⟩,
     ⟨some 40, (some (38, true)), .ld true (some 9) (.t 2)⟩,
     ⟨some 41, (some (38, true)), .eqv (.agg [.u 64, .u 64, .u 64, .u 64, .u 64, .u 64, .u 64, .u 64, .u 64]) false (.t 39) (.t 40)⟩,
     ⟨some 42, none, .pick (.t 38) (.t 41) (.c (.b false))⟩,
     ⟨some 43, none, .mov (.t 42)⟩,
     ⟨some 44, (some (43, true)), .ldl 6 (some 9) (.t 6)⟩,
     ⟨some 45, (some (43, true)), .build [.u 64 0, .u 64 0, .u 64 0, .u 64 0, .u 64 0, .u 64 0, .u 64 0, .u 64 0, .u 64 0] []⟩,
     ⟨some 46, (some (43, true)), .eqv (.agg [.u 64, .u 64, .u 64, .u 64, .u 64, .u 64, .u 64, .u 64, .u 64]) false (.t 44) (.t 45)⟩,
     ⟨some 47, none, .pick (.t 43) (.t 46) (.c (.b false))⟩,
     ⟨some 4, none, .mov (.t 47)⟩] [4]) (
   .ret)) (
   .reg [] [2, 5, 6, 7, 8]))) (
  .seq (
  .reg [
    ⟨some 49, none, .ld true (some 9) (.t 2)⟩,
    ⟨some 50, none, .ldl 8 (some 9) (.t 8)⟩,
    ⟨some 51, none, .call f_divide_Div [] [(.t 49), (.t 50)]⟩,
    ⟨some 48, none, .mov (.t 51)⟩,
    ⟨some 52, none, .ext 0 (.t 48)⟩,
    ⟨some 53, none, .ext 1 (.t 48)⟩,
    ⟨some 54, none, .ext 2 (.t 48)⟩,
    ⟨some 10, none, .box (.c (.agg [.u 64 0, .u 64 0, .u 64 0, .u 64 0, .u 64 0, .u 64 0, .u 64 0, .u 64 0, .u 64 0]))⟩,
    ⟨some 11, none, .box (.c (.agg [.u 64 0, .u 64 0, .u 64 0, .u 64 0, .u 64 0, .u 64 0, .u 64 0, .u 64 0, .u 64 0]))⟩,
    ⟨none, none, .stl 10 9 (.t 10) (.t 52)⟩,
    ⟨none, none, .stl 11 9 (.t 11) (.t 53)⟩,
    ⟨some 12, none, .mov (.t 54)⟩] [2, 5, 6, 7, 10, 11, 12]) (
  .seq (
  .reg [
    ⟨some 55, none, .mov (.t 7)⟩,
    ⟨some 56, none, .call f_curvetlaw0_Num [] [(.t 55)]⟩,
    ⟨some 57, none, .bin .eql (.t 56) (.c (.i 0))⟩,
    ⟨some 58, none, .mov (.t 57)⟩,
    ⟨some 59, (some (58, true)), .ldl 5 (some 9) (.t 5)⟩,
    ⟨some 60, (some (58, true)), .ld true (some 9) (.t 2)⟩,
    ⟨some 61, (some (58, true)), .eqv (.agg [.u 64, .u 64, .u 64, .u 64, .u 64, .u 64, .u 64, .u 64, .u 64]) false (.t 59) (.t 60)⟩,
    ⟨some 62, none, .pick (.t 58) (.t 61) (.c (.b false))⟩,
    ⟨some 63, none, .mov (.t 62)⟩,
    ⟨some 64, (some (63, true)), .ldl 6 (some 9) (.t 6)⟩,
    ⟨some 65, (some (63, true)), .build [.u 64 0, .u 64 0, .u 64 0, .u 64 0, .u 64 0, .u 64 0, .u 64 0, .u 64 0, .u 64 0] []⟩,
    ⟨some 66, (some (63, true)), .eqv (.agg [.u 64, .u 64, .u 64, .u 64, .u 64, .u 64, .u 64, .u 64, .u 64]) false (.t 64) (.t 65)⟩,
    ⟨some 67, none, .pick (.t 63) (.t 66) (.c (.b false))⟩,
    ⟨some 68, none, .mov (.t 67)⟩,
    ⟨some 69, (some (68, true)), .mov (.t 12)⟩,
    ⟨some 70, (some (68, true)), .call f_curvetlaw0_Num [] [(.t 69)]⟩,
    ⟨some 71, (some (68, true)), .bin .eql (.t 70) (.c (.i 0))⟩,
    ⟨some 72, none, .pick (.t 68) (.t 71) (.c (.b false))⟩,
    ⟨some 73, none, .mov (.t 72)⟩,
    ⟨some 74, (some (73, true)), .ldl 10 (some 9) (.t 10)⟩,
    ⟨some 75, (some (73, true)), .build [.u 64 0, .u 64 0, .u 64 0, .u 64 0, .u 64 0, .u 64 0, .u 64 0, .u 64 0, .u 64 0] []⟩,
    ⟨some 76, (some (73, true)), .eqv (.agg [.u 64, .u 64, .u 64, .u 64, .u 64, .u 64, .u 64, .u 64, .u 64]) false (.t 74) (.t 75)⟩,
    ⟨some 77, none, .pick (.t 73) (.t 76) (.c (.b false))⟩,
    ⟨some 78, none, .mov (.t 77)⟩,
    ⟨some 79, (some (78, true)), .ldl 11 (some 9) (.t 11)⟩,
    ⟨some 80, (some (78, true)), .ld true (some 9) (.t 2)⟩,
    ⟨some 81, (some (78, true)), .eqv (.agg [.u 64, .u 64, .u 64, .u 64, .u 64, .u 64, .u 64, .u 64, .u 64]) false (.t 79) (.t 80)⟩,
    ⟨some 82, none, .pick (.t 78) (.t 81) (.c (.b false))⟩,
    ⟨some 4, none, .mov (.t 82)⟩] [4]) (
  .ret)))))))
def m_curvetlaw4_DivideSmall : MFn := ⟨c_curvetlaw4_DivideSmall, [.tmp 4], 0⟩

/-- curvet/curvetlaw4.Divides -/
def c_curvetlaw4_Divides : Stm :=
  .seq (
  .reg [
    ⟨some 4, none, .boxv (.t 0)⟩,
    ⟨some 5, none, .boxv (.t 1)⟩,
    ⟨some 6, none, .boxv (.t 2)⟩,
    ⟨some 7, none, .boxv (.t 3)⟩,
    ⟨some 8, none, .mov (.c (.b false))⟩] [4, 5, 6, 7]) (
  .seq (
  .reg [
    ⟨some 20, none, .ld true (some 9) (.t 4)⟩,
    ⟨some 21, none, .ld true (some 9) (.t 6)⟩,
    ⟨some 22, none, .call f_divide_Div [] [(.t 20), (.t 21)]⟩,
    ⟨some 19, none, .mov (.t 22)⟩,
    ⟨some 23, none, .ext 0 (.t 19)⟩,
    ⟨some 24, none, .ext 1 (.t 19)⟩,
    ⟨some 25, none, .ext 2 (.t 19)⟩,
    ⟨some 9, none, .box (.c (.agg [.u 64 0, .u 64 0, .u 64 0, .u 64 0, .u 64 0, .u 64 0, .u 64 0, .u 64 0, .u 64 0]))⟩,
    ⟨some 10, none, .box (.c (.agg [.u 64 0, .u 64 0, .u 64 0, .u 64 0, .u 64 0, .u 64 0, .u 64 0, .u 64 0, .u 64 0]))⟩,
    ⟨none, none, .stl 9 9 (.t 9) (.t 23)⟩,
    ⟨none, none, .stl 10 9 (.t 10) (.t 24)⟩,
    ⟨some 11, none, .mov (.t 25)⟩] [4, 5, 6, 7, 9, 10, 11]) (
  .seq (
  .reg [
    ⟨some 27, none, .ld true (some 18) (.t 7)⟩,
    ⟨some 28, none, .ld true (some 9) (.t 6)⟩,
    ⟨some 29, none, .call f_divide_Mod [] [(.t 27), (.t 28)]⟩,
    ⟨some 26, none, .mov (.t 29)⟩,
    ⟨some 30, none, .ext 0 (.t 26)⟩,
    ⟨some 31, none, .ext 1 (.t 26)⟩,
    ⟨some 12, none, .box (.c (.agg [.u 64 0, .u 64 0, .u 64 0, .u 64 0, .u 64 0, .u 64 0, .u 64 0, .u 64 0, .u 64 0]))⟩,
    ⟨none, none, .stl 12 9 (.t 12) (.t 30)⟩,
    ⟨some 13, none, .mov (.t 31)⟩] [4, 5, 6, 7, 9, 10, 11, 12, 13]) (
  .seq (
  .reg [
    ⟨some 33, none, .ld true (some 9) (.t 4)⟩,
    ⟨some 34, none, .ld true (some 9) (.t 5)⟩,
    ⟨some 35, none, .ld true (some 9) (.t 6)⟩,
    ⟨some 36, none, .call f_divide_MulMod [] [(.t 33), (.t 34), (.t 35)]⟩,
    ⟨some 32, none, .mov (.t 36)⟩,
    ⟨some 37, none, .ext 0 (.t 32)⟩,
    ⟨some 38, none, .ext 1 (.t 32)⟩,
    ⟨some 14, none, .box (.c (.agg [.u 64 0, .u 64 0, .u 64 0, .u 64 0, .u 64 0, .u 64 0, .u 64 0, .u 64 0, .u 64 0]))⟩,
    ⟨none, none, .stl 14 9 (.t 14) (.t 37)⟩,
    ⟨some 15, none, .mov (.t 38)⟩] [4, 5, 6, 7, 9, 10, 11, 12, 13, 14, 15]) (
  .seq (
  .reg [
    ⟨some 39, none, .ld true (some 9) (.t 6)⟩,
    ⟨some 40, none, .call f_curvetref1_From [] [(.t 39)]⟩,
    ⟨some 16, none, .mov (.t 40)⟩] [4, 5, 7, 9, 10, 11, 12, 13, 14, 15, 16]) (
  .seq (
  .seq (
  .reg [
    ⟨some 41, none, .mov (.t 16)⟩,
    ⟨some 42, none, .len (.t 41)⟩,
    ⟨some 43, none, .bin .eql (.t 42) (.c (.i 0))⟩] [4, 5, 7, 9, 10, 11, 12, 13, 14, 15, 16, 43]) (
  .cond (.t 43) (
   .seq (
   .reg [
     ⟨some 44, none, .mov (.t 11)⟩,
     ⟨some 45, none, .call f_curvetlaw0_Num [] [(.t 44)]⟩,
     ⟨some 46, none, .bin .eql (.t 45) (.c (.i 400))⟩,
     ⟨some 47, none, .mov (.t 46)⟩,
     ⟨some 48, (some (47, true)), .mov (.t 13)⟩,
     ⟨some 49, (some (47, true)), .call f_curvetlaw0_Num [] [(.t 48)]⟩,
     ⟨some 50, (some (47, true)), .bin .eql (.t 49) (.c (.i 400))⟩,
     ⟨some 51, none, .pick (.t 47) (.t 50) (.c (.b false))⟩,
     ⟨some 52, none, .mov (.t 51)⟩,
     ⟨some 53, (some (52, true)), .mov (.t 15)⟩,
     ⟨some 54, (some (52, true)), .call f_curvetlaw0_Num [] [(.t 53)]⟩,
     ⟨some 55, (some (52, true)), .bin .eql (.t 54) (.c (.i 400))⟩,
     ⟨some 56, none, .pick (.t 52) (.t 55) (.c (.b false))⟩,
     ⟨some 57, none, .mov (.t 56)⟩,
     ⟨some 58, (some (57, true)), .ldl 9 (some 9) (.t 9)⟩,
     ⟨some 59, (some (57, true)), .build [.u 64 0, .u 64 0, .u 64 0, .u 64 0, .u 64 0, .u 64 0, .u 64 0, .u 64 0, .u 64 0] []⟩,
     ⟨some 60, (some (57, true)), .eqv (.agg [.u 64, .u 64, .u 64, .u 64, .u 64, .u 64, .u 64, .u 64, .u 64]) false (.t 58) (.t 59)⟩,
     ⟨some 61, none, .pick (.t 57) (.t 60) (.c (.b false))⟩,
     ⟨some 62, none, .mov (.t 61)⟩,
     ⟨some 63, (some (62, true)), .ldl 10 (some 9) (.t 10)⟩,
     ⟨some 64, (some (62, true)), .build [.u 64 0, .u 64 0, .u 64 0, .u 64 0, .u 64 0, .u 64 0, .u 64 0, .u 64 0, .u 64 0] []⟩,
     ⟨some 65, (some (62, true)), .eqv (.agg [.u 64, .u 64, .u 64, .u 64, .u 64, .u 64, .u 64, .u 64, .u 64]) false (.t 63) (.t 64)⟩,
     ⟨some 66, none, .pick (.t 62) (.t 65) (.c (.b false))⟩,
     ⟨some 67, none, .mov (.t 66)⟩,
     ⟨some 68, (some (67, true)), .ldl 12 (some 9) (.t 12)⟩,
     ⟨some 69, (some (67, true)), .build [.u 64 0, .u 64 0, .u 64 0, .u 64 0, .u 64 0, .u 64 0, .u 64 0, .u 64 0, .u 64 0] []⟩,
     ⟨some 70, (some (67, true)), .eqv (.agg [.u 64, .u 64, .u 64, .u 64, .u 64, .u 64, .u 64, .u 64, .u 64]) false (.t 68) (.t 69)⟩,
     ⟨some 71, none, .pick (.t 67) (.t 70) (.c (.b false))⟩,
     ⟨some 72, none, .mov (.t 71)⟩,
     ⟨some 73, (some (72, true)), .ldl 14 (some 9) (.t 14)⟩,
     ⟨some 74, (some (72, true)), .build [.u 64 0, .u 64 0, .u 64 0, .u 64 0, .u 64 0, .u 64 0, .u 64 0, .u 64 0, .u 64 0] []⟩,
     ⟨some 75, (some (72, true)), .eqv (.agg [.u 64, .u 64, .u 64, .u 64, .u 64, .u 64, .u 64, .u 64, .u 64]) false (.t 73) (.t 74)⟩,
     ⟨some 76, none, .pick (.t 72) (.t 75) (.c (.b false))⟩,
     ⟨some 77, none, .mov (.t 76)⟩,
     ⟨some 78, (some (77, true)), .call f_curvetlaw4_awake [] []⟩,
     ⟨some 79, none, .pick (.t 77) (.t 78) (.c (.b false))⟩,
     ⟨some 8, none, .mov (.t 79)⟩] [8]) (
   .ret)) (
   .reg [] [4, 5, 7, 9, 10, 11, 12, 13, 14, 15, 16]))) (
  .seq (
  .reg [
    ⟨some 81, none, .ld true (some 9) (.t 4)⟩,
    ⟨some 82, none, .call f_curvetref1_From [] [(.t 81)]⟩,
    ⟨some 83, none, .mov (.t 16)⟩,
    ⟨some 84, none, .call f_curvetref1_Div [] [(.t 82), (.t 83)]⟩,
    ⟨some 80, none, .mov (.t 84)⟩,
    ⟨some 85, none, .ext 0 (.t 80)⟩,
    ⟨some 86, none, .ext 1 (.t 80)⟩,
    ⟨some 17, none, .mov (.t 85)⟩,
    ⟨some 18, none, .mov (.t 86)⟩] [4, 5, 7, 9, 10, 11, 12, 13, 14, 15, 16, 17, 18]) (
  .seq (
  .reg [
    ⟨some 87, none, .mov (.t 11)⟩,
    ⟨some 88, none, .call f_curvetlaw0_Num [] [(.t 87)]⟩,
    ⟨some 89, none, .bin .eql (.t 88) (.c (.i 0))⟩,
    ⟨some 90, none, .mov (.t 89)⟩,
    ⟨some 91, (some (90, true)), .mov (.t 13)⟩,
    ⟨some 92, (some (90, true)), .call f_curvetlaw0_Num [] [(.t 91)]⟩,
    ⟨some 93, (some (90, true)), .bin .eql (.t 92) (.c (.i 0))⟩,
    ⟨some 94, none, .pick (.t 90) (.t 93) (.c (.b false))⟩,
    ⟨some 95, none, .mov (.t 94)⟩,
    ⟨some 96, (some (95, true)), .mov (.t 15)⟩,
    ⟨some 97, (some (95, true)), .call f_curvetlaw0_Num [] [(.t 96)]⟩,
    ⟨some 98, (some (95, true)), .bin .eql (.t 97) (.c (.i 0))⟩,
    ⟨some 99, none, .pick (.t 95) (.t 98) (.c (.b false))⟩,
    ⟨some 100, none, .mov (.t 99)⟩,
    ⟨some 101, (some (100, true)), .ldl 9 (some 9) (.t 9)⟩,
    ⟨some 102, (some (100, true)), .mov (.t 17)⟩,
    ⟨some 103, (some (100, true)), .call f_curvetref1_Nat [] [(.t 102)]⟩,
    ⟨some 104, (some (100, true)), .eqv (.agg [.u 64, .u 64, .u 64, .u 64, .u 64, .u 64, .u 64, .u 64, .u 64]) false (.t 101) (.t 103)⟩,
    ⟨some 105, none, .pick (.t 100) (.t 104) (.c (.b false))⟩,
    ⟨some 106, none, .mov (.t 105)⟩,
    ⟨some 107, (some (106, true)), .ldl 10 (some 9) (.t 10)⟩,
    ⟨some 108, (some (106, true)), .mov (.t 18)⟩,
    ⟨some 109, (some (106, true)), .call f_curvetref1_Nat [] [(.t 108)]⟩,
    ⟨some 110, (some (106, true)), .eqv (.agg [.u 64, .u 64, .u 64, .u 64, .u 64, .u 64, .u 64, .u 64, .u 64]) false (.t 107) (.t 109)⟩,
    ⟨some 111, none, .pick (.t 106) (.t 110) (.c (.b false))⟩,
    ⟨some 112, none, .mov (.t 111)⟩,
    ⟨some 113, (some (112, true)), .ldl 12 (some 9) (.t 12)⟩,
    ⟨some 114, (some (112, true)), .ld true (some 18) (.t 7)⟩,
    ⟨some 115, (some (112, true)), .call f_curvetref1_Of [] [(.t 114)]⟩,
    ⟨some 116, (some (112, true)), .mov (.t 16)⟩,
    ⟨some 117, (some (112, true)), .call f_curvetref1_Mod [] [(.t 115), (.t 116)]⟩,
    ⟨some 118, (some (112, true)), .call f_curvetref1_Nat [] [(.t 117)]⟩,
    ⟨some 119, (some (112, true)), .eqv (.agg [.u 64, .u 64, .u 64, .u 64, .u 64, .u 64, .u 64, .u 64, .u 64]) false (.t 113) (.t 118)⟩,
    ⟨some 120, none, .pick (.t 112) (.t 119) (.c (.b false))⟩,
    ⟨some 121, none, .mov (.t 120)⟩,
    ⟨some 122, (some (121, true)), .ldl 14 (some 9) (.t 14)⟩,
    ⟨some 123, (some (121, true)), .ld true (some 9) (.t 4)⟩,
    ⟨some 124, (some (121, true)), .call f_curvetref1_From [] [(.t 123)]⟩,
    ⟨some 125, (some (121, true)), .ld true (some 9) (.t 5)⟩,
    ⟨some 126, (some (121, true)), .call f_curvetref1_From [] [(.t 125)]⟩,
    ⟨some 127, (some (121, true)), .call f_curvetref1_Mul [] [(.t 124), (.t 126)]⟩,
    ⟨some 128, (some (121, true)), .mov (.t 16)⟩,
    ⟨some 129, (some (121, true)), .call f_curvetref1_Mod [] [(.t 127), (.t 128)]⟩,
    ⟨some 130, (some (121, true)), .call f_curvetref1_Nat [] [(.t 129)]⟩,
    ⟨some 131, (some (121, true)), .eqv (.agg [.u 64, .u 64, .u 64, .u 64, .u 64, .u 64, .u 64, .u 64, .u 64]) false (.t 122) (.t 130)⟩,
    ⟨some 132, none, .pick (.t 121) (.t 131) (.c (.b false))⟩,
    ⟨some 133, none, .mov (.t 132)⟩,
    ⟨some 134, (some (133, true)), .call f_curvetlaw4_awake [] []⟩,
    ⟨some 135, none, .pick (.t 133) (.t 134) (.c (.b false))⟩,
    ⟨some 8, none, .mov (.t 135)⟩] [8]) (
  .ret))))))))
def m_curvetlaw4_Divides : MFn := ⟨c_curvetlaw4_Divides, [.tmp 8], 0⟩

/-- curvet/curvetlaw4.DivideInverse -/
def c_curvetlaw4_DivideInverse : Stm :=
  .seq (
  .reg [
    ⟨some 3, none, .boxv (.t 0)⟩,
    ⟨some 4, none, .boxv (.t 1)⟩,
    ⟨some 6, none, .mov (.c (.b false))⟩] [2, 3, 4]) (
  .seq (
  .seq (
  .reg [
    ⟨some 19, none, .call f_curvetlaw4_awake [] []⟩,
    ⟨some 20, none, .un .not (.t 19)⟩] [2, 3, 4, 20]) (
  .cond (.t 20) (
   .seq (
   .reg [
     ⟨some 6, none, .mov (.c (.b false))⟩] [6]) (
   .ret)) (
   .reg [] [2, 3, 4]))) (
  .seq (
  .reg [
    ⟨some 22, none, .ld true (some 9) (.t 3)⟩,
    ⟨some 23, none, .ld true (some 9) (.t 4)⟩,
    ⟨some 24, none, .call f_divide_Inverse [] [(.t 22), (.t 23)]⟩,
    ⟨some 21, none, .mov (.t 24)⟩,
    ⟨some 25, none, .ext 0 (.t 21)⟩,
    ⟨some 26, none, .ext 1 (.t 21)⟩,
    ⟨some 7, none, .box (.c (.agg [.u 64 0, .u 64 0, .u 64 0, .u 64 0, .u 64 0, .u 64 0, .u 64 0, .u 64 0, .u 64 0]))⟩,
    ⟨none, none, .stl 7 9 (.t 7) (.t 25)⟩,
    ⟨some 8, none, .mov (.t 26)⟩] [2, 3, 4, 7, 8]) (
  .seq (
  .seq (
  .reg [
    ⟨some 27, none, .mov (.t 8)⟩,
    ⟨some 28, none, .call f_curvetlaw0_Num [] [(.t 27)]⟩,
    ⟨some 29, none, .bin .eql (.t 28) (.c (.i 0))⟩] [2, 3, 4, 7, 29]) (
  .cond (.t 29) (
   .seq (
   .reg [
     ⟨some 31, none, .ld true (some 9) (.t 3)⟩,
     ⟨some 32, none, .ldl 7 (some 9) (.t 7)⟩,
     ⟨some 33, none, .ld true (some 9) (.t 4)⟩,
     ⟨some 34, none, .call f_divide_MulMod [] [(.t 31), (.t 32), (.t 33)]⟩,
     ⟨some 30, none, .mov (.t 34)⟩,
     ⟨some 35, none, .ext 0 (.t 30)⟩,
     ⟨some 36, none, .ext 1 (.t 30)⟩,
     ⟨some 9, none, .box (.c (.agg [.u 64 0, .u 64 0, .u 64 0, .u 64 0, .u 64 0, .u 64 0, .u 64 0, .u 64 0, .u 64 0]))⟩,
     ⟨none, none, .stl 9 9 (.t 9) (.t 35)⟩,
     ⟨some 10, none, .mov (.t 36)⟩] [2, 3, 4, 7, 9, 10]) (
   .seq (
   .reg [
     ⟨some 37, none, .mov (.t 10)⟩,
     ⟨some 38, none, .call f_curvetlaw0_Num [] [(.t 37)]⟩,
     ⟨some 39, none, .bin .neq (.t 38) (.c (.i 0))⟩,
     ⟨some 40, none, .mov (.t 39)⟩,
     ⟨some 41, (some (40, false)), .ldl 9 (some 9) (.t 9)⟩,
     ⟨some 42, (some (40, false)), .call f_curvetlaw0_One [] [(.c (.u 64 1))]⟩,
     ⟨some 43, (some (40, false)), .eqv (.agg [.u 64, .u 64, .u 64, .u 64, .u 64, .u 64, .u 64, .u 64, .u 64]) true (.t 41) (.t 42)⟩,
     ⟨some 44, none, .pick (.t 40) (.c (.b true)) (.t 43)⟩,
     ⟨some 45, none, .mov (.t 44)⟩,
     ⟨some 46, (some (45, false)), .ldl 7 (some 9) (.t 7)⟩,
     ⟨some 47, (some (45, false)), .ld true (some 9) (.t 4)⟩,
     ⟨some 48, (some (45, false)), .call f_nat_Cmp [] [(.t 46), (.t 47)]⟩,
     ⟨some 49, (some (45, false)), .bin .geq (.t 48) (.c (.i 0))⟩,
     ⟨some 50, none, .pick (.t 45) (.c (.b true)) (.t 49)⟩] [2, 3, 4, 50]) (
   .cond (.t 50) (
    .seq (
    .reg [
      ⟨some 6, none, .mov (.c (.b false))⟩] [6]) (
    .ret)) (
    .reg [] [2, 3, 4])))) (
   .reg [] [2, 3, 4]))) (
  .seq (
  .reg [
    ⟨some 51, none, .mov (.t 2)⟩,
    ⟨some 52, none, .bin .and (.t 51) (.c (.i 31))⟩,
    ⟨some 53, none, .bin .add (.c (.i 2)) (.t 52)⟩,
    ⟨some 54, none, .cvu 64 (.t 53)⟩,
    ⟨some 55, none, .call f_curvetlaw0_One [] [(.t 54)]⟩,
    ⟨some 11, none, .box (.c (.agg [.u 64 0, .u 64 0, .u 64 0, .u 64 0, .u 64 0, .u 64 0, .u 64 0, .u 64 0, .u 64 0]))⟩,
    ⟨none, none, .stl 11 9 (.t 11) (.t 55)⟩] [3, 4, 11]) (
  .seq (
  .reg [
    ⟨some 56, none, .off 0 (.t 3)⟩,
    ⟨some 57, none, .ld true (some 9) (.t 56)⟩,
    ⟨some 58, none, .call f_curvetlaw0_Nat [] [(.t 57), (.c (.i 500))]⟩,
    ⟨some 59, none, .ldl 11 (some 9) (.t 11)⟩,
    ⟨some 60, none, .call f_nat_Mul [] [(.t 58), (.t 59)]⟩,
    ⟨some 61, none, .off 0 (.t 4)⟩,
    ⟨some 62, none, .ld true (some 9) (.t 61)⟩,
    ⟨some 63, none, .call f_curvetlaw0_Nat [] [(.t 62), (.c (.i 500))]⟩,
    ⟨some 64, none, .ldl 11 (some 9) (.t 11)⟩,
    ⟨some 65, none, .call f_nat_Mul [] [(.t 63), (.t 64)]⟩,
    ⟨some 12, none, .box (.c (.agg [.u 64 0, .u 64 0, .u 64 0, .u 64 0, .u 64 0, .u 64 0, .u 64 0, .u 64 0, .u 64 0, .u 64 0, .u 64 0, .u 64 0, .u 64 0, .u 64 0, .u 64 0, .u 64 0, .u 64 0, .u 64 0]))⟩,
    ⟨some 13, none, .box (.c (.agg [.u 64 0, .u 64 0, .u 64 0, .u 64 0, .u 64 0, .u 64 0, .u 64 0, .u 64 0, .u 64 0, .u 64 0, .u 64 0, .u 64 0, .u 64 0, .u 64 0, .u 64 0, .u 64 0, .u 64 0, .u 64 0]))⟩,
    ⟨none, none, .stl 12 18 (.t 12) (.t 60)⟩,
    ⟨none, none, .stl 13 18 (.t 13) (.t 65)⟩] [12, 13]) (
  .seq (
  .reg [
    ⟨some 14, none, .box (.c (.agg [.u 64 0, .u 64 0, .u 64 0, .u 64 0, .u 64 0, .u 64 0, .u 64 0, .u 64 0, .u 64 0]))⟩,
    ⟨some 15, none, .box (.c (.agg [.u 64 0, .u 64 0, .u 64 0, .u 64 0, .u 64 0, .u 64 0, .u 64 0, .u 64 0, .u 64 0]))⟩] [12, 13, 14, 15]) (
  .seq (
  .seq (
  .reg [
    ⟨some 16, none, .mov (.c (.i 0))⟩] [12, 13, 14, 15, 16]) (
  .block 0 (
   .loop [12, 13, 14, 15, 16] (
    .seq (
    .seq (
    .reg [
      ⟨some 66, none, .mov (.t 16)⟩,
      ⟨some 67, none, .bin .lss (.t 66) (.c (.i 9))⟩] [12, 13, 14, 15, 16, 67]) (
    .cond (.t 67) (
     .reg [] [12, 13, 14, 15, 16]) (
     .exit 0 [14, 15]))) (
    .seq (
    .block 1 (
     .seq (
     .reg [
       ⟨some 70, none, .mov (.t 16)⟩,
       ⟨some 71, none, .mov (.t 16)⟩,
       ⟨some 72, none, .off 0 (.t 12)⟩,
       ⟨some 73, none, .idx 18 1 (.t 72) (.t 71)⟩,
       ⟨some 74, none, .ldl 12 none (.t 73)⟩,
       ⟨some 75, none, .off 0 (.t 14)⟩,
       ⟨some 76, none, .idx 9 1 (.t 75) (.t 70)⟩,
       ⟨none, none, .stl 14 1 (.t 76) (.t 74)⟩] [12, 13, 14, 15, 16]) (
     .reg [
       ⟨some 77, none, .mov (.t 16)⟩,
       ⟨some 78, none, .mov (.t 16)⟩,
       ⟨some 79, none, .off 0 (.t 13)⟩,
       ⟨some 80, none, .idx 18 1 (.t 79) (.t 78)⟩,
       ⟨some 81, none, .ldl 13 none (.t 80)⟩,
       ⟨some 82, none, .off 0 (.t 15)⟩,
       ⟨some 83, none, .idx 9 1 (.t 82) (.t 77)⟩,
       ⟨none, none, .stl 15 1 (.t 83) (.t 81)⟩] [12, 13, 14, 15, 16]))) (
    .reg [
      ⟨some 68, none, .mov (.t 16)⟩,
      ⟨some 69, none, .bin .add (.t 68) (.c (.i 1))⟩,
      ⟨some 16, none, .mov (.t 69)⟩] [12, 13, 14, 15, 16])))))) (
  .seq (
  .reg [
    ⟨some 85, none, .ldl 14 (some 9) (.t 14)⟩,
    ⟨some 86, none, .ldl 15 (some 9) (.t 15)⟩,
    ⟨some 87, none, .call f_divide_Inverse [] [(.t 85), (.t 86)]⟩,
    ⟨some 84, none, .mov (.t 87)⟩,
    ⟨some 88, none, .ext 0 (.t 84)⟩,
    ⟨some 89, none, .ext 1 (.t 84)⟩,
    ⟨some 17, none, .box (.c (.agg [.u 64 0, .u 64 0, .u 64 0, .u 64 0, .u 64 0, .u 64 0, .u 64 0, .u 64 0, .u 64 0]))⟩,
    ⟨none, none, .stl 17 9 (.t 17) (.t 88)⟩,
    ⟨some 18, none, .mov (.t 89)⟩] [15, 18]) (
  .seq (
  .reg [
    ⟨some 90, none, .ldl 15 (some 9) (.t 15)⟩,
    ⟨some 91, none, .build [.u 64 0, .u 64 0, .u 64 0, .u 64 0, .u 64 0, .u 64 0, .u 64 0, .u 64 0, .u 64 0] []⟩,
    ⟨some 92, none, .eqv (.agg [.u 64, .u 64, .u 64, .u 64, .u 64, .u 64, .u 64, .u 64, .u 64]) false (.t 90) (.t 91)⟩,
    ⟨some 93, none, .mov (.t 92)⟩,
    ⟨some 94, (some (93, true)), .mov (.t 18)⟩,
    ⟨some 95, (some (93, true)), .call f_curvetlaw0_Num [] [(.t 94)]⟩,
    ⟨some 96, (some (93, true)), .bin .eql (.t 95) (.c (.i 400))⟩,
    ⟨some 97, none, .pick (.t 93) (.t 96) (.c (.b false))⟩,
    ⟨some 98, none, .mov (.t 97)⟩,
    ⟨some 99, (some (98, false)), .mov (.t 18)⟩,
    ⟨some 100, (some (98, false)), .call f_curvetlaw0_Num [] [(.t 99)]⟩,
    ⟨some 101, (some (98, false)), .bin .eql (.t 100) (.c (.i 401))⟩,
    ⟨some 102, none, .pick (.t 98) (.c (.b true)) (.t 101)⟩,
    ⟨some 6, none, .mov (.t 102)⟩] [6]) (
  .ret))))))))))
def m_curvetlaw4_DivideInverse : MFn := ⟨c_curvetlaw4_DivideInverse, [.tmp 6], 0⟩

/-- curvet/curvetlaw4.DivideWide -/
def c_curvetlaw4_DivideWide : Stm :=
  .seq (
  .reg [
    ⟨some 3, none, .boxv (.t 0)⟩,
    ⟨some 4, none, .boxv (.t 1)⟩,
    ⟨some 5, none, .boxv (.t 2)⟩,
    ⟨some 6, none, .mov (.c (.b false))⟩] [3, 4, 5]) (
  .seq (
  .seq (
  .reg [
    ⟨some 17, none, .call f_curvetlaw4_awake [] []⟩,
    ⟨some 18, none, .un .not (.t 17)⟩] [3, 4, 5, 18]) (
  .cond (.t 18) (
   .seq (
   .reg [
     ⟨some 6, none, .mov (.c (.b false))⟩] [6]) (
   .ret)) (
   .reg [] [3, 4, 5]))) (
  .seq (
  .reg [
    ⟨some 20, none, .ld true (some 9) (.t 3)⟩,
    ⟨some 21, none, .ld true (some 9) (.t 4)⟩,
    ⟨some 22, none, .call f_nat_Mul [] [(.t 20), (.t 21)]⟩,
    ⟨some 23, none, .ld true (some 9) (.t 5)⟩,
    ⟨some 24, none, .call f_divide_Mod [] [(.t 22), (.t 23)]⟩,
    ⟨some 19, none, .mov (.t 24)⟩,
    ⟨some 25, none, .ext 0 (.t 19)⟩,
    ⟨some 26, none, .ext 1 (.t 19)⟩,
    ⟨some 7, none, .box (.c (.agg [.u 64 0, .u 64 0, .u 64 0, .u 64 0, .u 64 0, .u 64 0, .u 64 0, .u 64 0, .u 64 0]))⟩,
    ⟨none, none, .stl 7 9 (.t 7) (.t 25)⟩,
    ⟨some 8, none, .mov (.t 26)⟩] [3, 4, 5, 7, 8]) (
  .seq (
  .reg [
    ⟨some 28, none, .ld true (some 9) (.t 3)⟩,
    ⟨some 29, none, .ld true (some 9) (.t 4)⟩,
    ⟨some 30, none, .ld true (some 9) (.t 5)⟩,
    ⟨some 31, none, .call f_divide_MulMod [] [(.t 28), (.t 29), (.t 30)]⟩,
    ⟨some 27, none, .mov (.t 31)⟩,
    ⟨some 32, none, .ext 0 (.t 27)⟩,
    ⟨some 33, none, .ext 1 (.t 27)⟩,
    ⟨some 9, none, .box (.c (.agg [.u 64 0, .u 64 0, .u 64 0, .u 64 0, .u 64 0, .u 64 0, .u 64 0, .u 64 0, .u 64 0]))⟩,
    ⟨none, none, .stl 9 9 (.t 9) (.t 32)⟩,
    ⟨some 10, none, .mov (.t 33)⟩] [3, 5, 7, 8, 9, 10]) (
  .seq (
  .reg [
    ⟨some 11, none, .box (.c (.agg [.u 64 0, .u 64 0, .u 64 0, .u 64 0, .u 64 0, .u 64 0, .u 64 0, .u 64 0, .u 64 0, .u 64 0, .u 64 0, .u 64 0, .u 64 0, .u 64 0, .u 64 0, .u 64 0, .u 64 0, .u 64 0]))⟩] [3, 5, 7, 8, 9, 10, 11]) (
  .seq (
  .reg [
    ⟨some 34, none, .off 0 (.t 11)⟩,
    ⟨some 35, none, .sla true 18 1 (.t 34) none (some (.c (.i 9)))⟩,
    ⟨some 36, none, .off 0 (.t 3)⟩,
    ⟨some 37, none, .sla true 9 1 (.t 36) none none⟩,
    ⟨some 38, none, .cpyl 11 1 [] (.t 35) (.t 37)⟩] [3, 5, 7, 8, 9, 10, 11]) (
  .seq (
  .reg [
    ⟨some 40, none, .ldl 11 (some 18) (.t 11)⟩,
    ⟨some 41, none, .ld true (some 9) (.t 5)⟩,
    ⟨some 42, none, .call f_divide_Mod [] [(.t 40), (.t 41)]⟩,
    ⟨some 39, none, .mov (.t 42)⟩,
    ⟨some 43, none, .ext 0 (.t 39)⟩,
    ⟨some 44, none, .ext 1 (.t 39)⟩,
    ⟨some 12, none, .box (.c (.agg [.u 64 0, .u 64 0, .u 64 0, .u 64 0, .u 64 0, .u 64 0, .u 64 0, .u 64 0, .u 64 0]))⟩,
    ⟨none, none, .stl 12 9 (.t 12) (.t 43)⟩,
    ⟨some 13, none, .mov (.t 44)⟩] [3, 5, 7, 8, 9, 10, 12, 13]) (
  .seq (
  .reg [
    ⟨some 46, none, .ld true (some 9) (.t 3)⟩,
    ⟨some 47, none, .ld true (some 9) (.t 5)⟩,
    ⟨some 48, none, .call f_divide_Div [] [(.t 46), (.t 47)]⟩,
    ⟨some 45, none, .mov (.t 48)⟩,
    ⟨some 49, none, .ext 0 (.t 45)⟩,
    ⟨some 50, none, .ext 1 (.t 45)⟩,
    ⟨some 51, none, .ext 2 (.t 45)⟩,
    ⟨some 14, none, .box (.c (.agg [.u 64 0, .u 64 0, .u 64 0, .u 64 0, .u 64 0, .u 64 0, .u 64 0, .u 64 0, .u 64 0]))⟩,
    ⟨some 15, none, .box (.c (.agg [.u 64 0, .u 64 0, .u 64 0, .u 64 0, .u 64 0, .u 64 0, .u 64 0, .u 64 0, .u 64 0]))⟩,
    ⟨none, none, .stl 14 9 (.t 14) (.t 49)⟩,
    ⟨none, none, .stl 15 9 (.t 15) (.t 50)⟩,
    ⟨some 16, none, .mov (.t 51)⟩] [5, 7, 8, 9, 10, 12, 13, 15, 16]) (
  .seq (
  .seq (
  .reg [
    ⟨some 52, none, .ld true (some 9) (.t 5)⟩,
    ⟨some 53, none, .build [.u 64 0, .u 64 0, .u 64 0, .u 64 0, .u 64 0, .u 64 0, .u 64 0, .u 64 0, .u 64 0] []⟩,
    ⟨some 54, none, .eqv (.agg [.u 64, .u 64, .u 64, .u 64, .u 64, .u 64, .u 64, .u 64, .u 64]) false (.t 52) (.t 53)⟩] [5, 7, 8, 9, 10, 12, 13, 15, 16, 54]) (
  .cond (.t 54) (
   .seq (
   .reg [
     ⟨some 55, none, .mov (.t 8)⟩,
     ⟨some 56, none, .call f_curvetlaw0_Num [] [(.t 55)]⟩,
     ⟨some 57, none, .bin .eql (.t 56) (.c (.i 400))⟩,
     ⟨some 58, none, .mov (.t 57)⟩,
     ⟨some 59, (some (58, true)), .mov (.t 10)⟩,
     ⟨some 60, (some (58, true)), .call f_curvetlaw0_Num [] [(.t 59)]⟩,
     ⟨some 61, (some (58, true)), .bin .eql (.t 60) (.c (.i 400))⟩,
     ⟨some 62, none, .pick (.t 58) (.t 61) (.c (.b false))⟩,
     ⟨some 63, none, .mov (.t 62)⟩,
     ⟨some 64, (some (63, true)), .mov (.t 13)⟩,
     ⟨some 65, (some (63, true)), .call f_curvetlaw0_Num [] [(.t 64)]⟩,
     ⟨some 66, (some (63, true)), .bin .eql (.t 65) (.c (.i 400))⟩,
     ⟨some 67, none, .pick (.t 63) (.t 66) (.c (.b false))⟩,
     ⟨some 68, none, .mov (.t 67)⟩,
     ⟨some 69, (some (68, true)), .mov (.t 16)⟩,
     ⟨some 70, (some (68, true)), .call f_curvetlaw0_Num [] [(.t 69)]⟩,
     ⟨some 71, (some (68, true)), .bin .eql (.t 70) (.c (.i 400))⟩,
     ⟨some 72, none, .pick (.t 68) (.t 71) (.c (.b false))⟩,
     ⟨some 6, none, .mov (.t 72)⟩] [6]) (
   .ret)) (
   .reg [] [5, 7, 8, 9, 10, 12, 13, 15, 16]))) (
  .seq (
  .reg [
    ⟨some 73, none, .mov (.t 8)⟩,
    ⟨some 74, none, .call f_curvetlaw0_Num [] [(.t 73)]⟩,
    ⟨some 75, none, .bin .eql (.t 74) (.c (.i 0))⟩,
    ⟨some 76, none, .mov (.t 75)⟩,
    ⟨some 77, (some (76, true)), .mov (.t 10)⟩,
    ⟨some 78, (some (76, true)), .call f_curvetlaw0_Num [] [(.t 77)]⟩,
    ⟨some 79, (some (76, true)), .bin .eql (.t 78) (.c (.i 0))⟩,
    ⟨some 80, none, .pick (.t 76) (.t 79) (.c (.b false))⟩,
    ⟨some 81, none, .mov (.t 80)⟩,
    ⟨some 82, (some (81, true)), .mov (.t 13)⟩,
    ⟨some 83, (some (81, true)), .call f_curvetlaw0_Num [] [(.t 82)]⟩,
    ⟨some 84, (some (81, true)), .bin .eql (.t 83) (.c (.i 0))⟩,
    ⟨some 85, none, .pick (.t 81) (.t 84) (.c (.b false))⟩,
    ⟨some 86, none, .mov (.t 85)⟩,
    ⟨some 87, (some (86, true)), .mov (.t 16)⟩,
    ⟨some 88, (some (86, true)), .call f_curvetlaw0_Num [] [(.t 87)]⟩,
    ⟨some 89, (some (86, true)), .bin .eql (.t 88) (.c (.i 0))⟩,
    ⟨some 90, none, .pick (.t 86) (.t 89) (.c (.b false))⟩,
    ⟨some 91, none, .mov (.t 90)⟩,
    ⟨some 92, (some (91, true)), .ldl 7 (some 9) (.t 7)⟩,
    ⟨some 93, (some (91, true)), .ldl 9 (some 9) (.t 9)⟩,
    ⟨some 94, (some (91, true)), .eqv (.agg [.u 64, .u 64, .u 64, .u 64, .u 64, .u 64, .u 64, .u 64, .u 64]) false (.t 92) (.t 93)⟩,
    ⟨some 95, none, .pick (.t 91) (.t 94) (.c (.b false))⟩,
    ⟨some 96, none, .mov (.t 95)⟩,
    ⟨some 97, (some (96, true)), .ldl 12 (some 9) (.t 12)⟩,
    ⟨some 98, (some (96, true)), .ldl 15 (some 9) (.t 15)⟩,
    ⟨some 99, (some (96, true)), .eqv (.agg [.u 64, .u 64, .u 64, .u 64, .u 64, .u 64, .u 64, .u 64, .u 64]) false (.t 97) (.t 98)⟩,
    ⟨some 100, none, .pick (.t 96) (.t 99) (.c (.b false))⟩,
    ⟨some 101, none, .mov (.t 100)⟩,
    ⟨some 102, (some (101, true)), .ldl 7 (some 9) (.t 7)⟩,
    ⟨some 103, (some (101, true)), .ld true (some 9) (.t 5)⟩,
    ⟨some 104, (some (101, true)), .call f_nat_Cmp [] [(.t 102), (.t 103)]⟩,
    ⟨some 105, (some (101, true)), .bin .lss (.t 104) (.c (.i 0))⟩,
    ⟨some 106, none, .pick (.t 101) (.t 105) (.c (.b false))⟩,
    ⟨some 6, none, .mov (.t 106)⟩] [6]) (
  .ret))))))))))
def m_curvetlaw4_DivideWide : MFn := ⟨c_curvetlaw4_DivideWide, [.tmp 6], 0⟩

/-- curvet/divide.PowMod -/
def c_divide_PowMod : Stm :=
  .seq (
  .reg [
    ⟨some 3, none, .boxv (.t 0)⟩,
    ⟨some 4, none, .boxv (.t 1)⟩,
    ⟨some 5, none, .boxv (.t 2)⟩,
    ⟨some 6, none, .box (.c (.agg [.u 64 0, .u 64 0, .u 64 0, .u 64 0, .u 64 0, .u 64 0, .u 64 0, .u 64 0, .u 64 0]))⟩,
    ⟨some 7, none, .mov (.c (.i 0))⟩] [3, 4, 5, 6]) (
  .seq (
  .seq (
  .reg [
    ⟨some 8, none, .call f_divide_zero [] [(.t 5)]⟩] [3, 4, 5, 6, 8]) (
  .cond (.t 8) (
   .seq (
   .reg [
     ⟨some 9, none, .build [.u 64 0, .u 64 0, .u 64 0, .u 64 0, .u 64 0, .u 64 0, .u 64 0, .u 64 0, .u 64 0] []⟩,
     ⟨none, none, .stl 6 9 (.t 6) (.t 9)⟩,
     ⟨some 7, none, .mov (.c (.i 400))⟩] [6, 7]) (
   .ret)) (
   .reg [] [3, 4, 5, 6]))) (
  .seq (
  .reg [
    ⟨some 10, none, .ld true (some 9) (.t 5)⟩,
    ⟨some 11, none, .call f_divide_By [] [(.t 10)]⟩,
    ⟨some 12, none, .ld true (some 9) (.t 3)⟩,
    ⟨some 13, none, .ld true (some 9) (.t 4)⟩,
    ⟨some 14, none, .call f_divide_Modulus_Pow [] [(.t 11), (.t 12), (.t 13)]⟩,
    ⟨none, none, .stl 6 9 (.t 6) (.t 14)⟩,
    ⟨some 7, none, .mov (.c (.i 0))⟩] [6, 7]) (
  .ret)))
def m_divide_PowMod : MFn := ⟨c_divide_PowMod, [.cell 6 (some 9), .tmp 7], 0⟩

/-- curvet/divide.Inverse -/
def c_divide_Inverse : Stm :=
  .seq (
  .reg [
    ⟨some 2, none, .boxv (.t 0)⟩,
    ⟨some 3, none, .boxv (.t 1)⟩,
    ⟨some 4, none, .box (.c (.agg [.u 64 0, .u 64 0, .u 64 0, .u 64 0, .u 64 0, .u 64 0, .u 64 0, .u 64 0, .u 64 0]))⟩,
    ⟨some 5, none, .mov (.c (.i 0))⟩] [2, 3, 4]) (
  .seq (
  .seq (
  .reg [
    ⟨some 20, none, .call f_divide_zero [] [(.t 3)]⟩] [2, 3, 4, 20]) (
  .cond (.t 20) (
   .seq (
   .reg [
     ⟨some 21, none, .build [.u 64 0, .u 64 0, .u 64 0, .u 64 0, .u 64 0, .u 64 0, .u 64 0, .u 64 0, .u 64 0] []⟩,
     ⟨none, none, .stl 4 9 (.t 4) (.t 21)⟩,
     ⟨some 5, none, .mov (.c (.i 400))⟩] [4, 5]) (
   .ret)) (
   .reg [] [2, 3, 4]))) (
  .seq (
  .reg [
    ⟨some 23, none, .ld true (some 9) (.t 2)⟩,
    ⟨some 24, none, .ld true (some 9) (.t 3)⟩,
    ⟨some 25, none, .call f_divide_Div [] [(.t 23), (.t 24)]⟩,
    ⟨some 22, none, .mov (.t 25)⟩,
    ⟨some 26, none, .ext 0 (.t 22)⟩,
    ⟨some 27, none, .ext 1 (.t 22)⟩,
    ⟨some 28, none, .ext 2 (.t 22)⟩,
    ⟨some 6, none, .box (.c (.agg [.u 64 0, .u 64 0, .u 64 0, .u 64 0, .u 64 0, .u 64 0, .u 64 0, .u 64 0, .u 64 0]))⟩,
    ⟨some 7, none, .box (.c (.agg [.u 64 0, .u 64 0, .u 64 0, .u 64 0, .u 64 0, .u 64 0, .u 64 0, .u 64 0, .u 64 0]))⟩,
    ⟨none, none, .stl 6 9 (.t 6) (.t 26)⟩,
    ⟨none, none, .stl 7 9 (.t 7) (.t 27)⟩,
    ⟨some 8, none, .mov (.t 28)⟩] [3, 4, 7]) (
  .seq (
  .reg [
    ⟨some 29, none, .ld true (some 9) (.t 3)⟩,
    ⟨some 30, none, .ldl 7 (some 9) (.t 7)⟩,
    ⟨some 9, none, .box (.c (.agg [.u 64 0, .u 64 0, .u 64 0, .u 64 0, .u 64 0, .u 64 0, .u 64 0, .u 64 0, .u 64 0]))⟩,
    ⟨some 10, none, .box (.c (.agg [.u 64 0, .u 64 0, .u 64 0, .u 64 0, .u 64 0, .u 64 0, .u 64 0, .u 64 0, .u 64 0]))⟩,
    ⟨none, none, .stl 9 9 (.t 9) (.t 29)⟩,
    ⟨none, none, .stl 10 9 (.t 10) (.t 30)⟩] [3, 4, 9, 10]) (
  .seq (
  .reg [
    ⟨some 31, none, .build [.u 64 0, .u 64 0, .u 64 0, .u 64 0, .u 64 0, .u 64 0, .u 64 0, .u 64 0, .u 64 0] []⟩,
    ⟨some 32, none, .call f_nat_Small [] [(.c (.i 1))]⟩,
    ⟨some 11, none, .box (.c (.agg [.u 64 0, .u 64 0, .u 64 0, .u 64 0, .u 64 0, .u 64 0, .u 64 0, .u 64 0, .u 64 0]))⟩,
    ⟨some 12, none, .box (.c (.agg [.u 64 0, .u 64 0, .u 64 0, .u 64 0, .u 64 0, .u 64 0, .u 64 0, .u 64 0, .u 64 0]))⟩,
    ⟨none, none, .stl 11 9 (.t 11) (.t 31)⟩,
    ⟨none, none, .stl 12 9 (.t 12) (.t 32)⟩] [3, 4, 9, 10, 11, 12]) (
  .seq (
  .reg [
    ⟨some 33, none, .ld true (some 9) (.t 3)⟩,
    ⟨some 34, none, .call f_divide_By [] [(.t 33)]⟩,
    ⟨some 13, none, .box (.c (.agg [.nilp]))⟩,
    ⟨none, none, .stl 13 1 (.t 13) (.t 34)⟩] [3, 4, 9, 10, 11, 12, 13]) (
  .seq (
  .block 0 (
   .loop [3, 4, 9, 10, 11, 12, 13] (
    .seq (
    .seq (
    .reg [
      ⟨some 35, none, .call f_divide_zero [10] [(.t 10)]⟩,
      ⟨some 36, none, .un .not (.t 35)⟩] [3, 4, 9, 10, 11, 12, 13, 36]) (
    .cond (.t 36) (
     .reg [] [3, 4, 9, 10, 11, 12, 13]) (
     .exit 0 [3, 4, 9, 11]))) (
    .block 1 (
     .seq (
     .reg [
       ⟨some 38, none, .ldl 9 (some 9) (.t 9)⟩,
       ⟨some 39, none, .ldl 10 (some 9) (.t 10)⟩,
       ⟨some 40, none, .call f_divide_Div [] [(.t 38), (.t 39)]⟩,
       ⟨some 37, none, .mov (.t 40)⟩,
       ⟨some 41, none, .ext 0 (.t 37)⟩,
       ⟨some 42, none, .ext 1 (.t 37)⟩,
       ⟨some 43, none, .ext 2 (.t 37)⟩,
       ⟨some 14, none, .box (.c (.agg [.u 64 0, .u 64 0, .u 64 0, .u 64 0, .u 64 0, .u 64 0, .u 64 0, .u 64 0, .u 64 0]))⟩,
       ⟨some 15, none, .box (.c (.agg [.u 64 0, .u 64 0, .u 64 0, .u 64 0, .u 64 0, .u 64 0, .u 64 0, .u 64 0, .u 64 0]))⟩,
       ⟨none, none, .stl 14 9 (.t 14) (.t 41)⟩,
       ⟨none, none, .stl 15 9 (.t 15) (.t 42)⟩,
       ⟨some 16, none, .mov (.t 43)⟩] [3, 4, 9, 10, 11, 12, 13, 14, 15]) (
     .seq (
     .reg [
       ⟨some 44, none, .ldl 10 (some 9) (.t 10)⟩,
       ⟨some 45, none, .ldl 15 (some 9) (.t 15)⟩,
       ⟨none, none, .stl 9 9 (.t 9) (.t 44)⟩,
       ⟨none, none, .stl 10 9 (.t 10) (.t 45)⟩] [3, 4, 9, 10, 11, 12, 13, 14]) (
     .seq (
     .reg [
       ⟨some 46, none, .ldl 13 (some 1) (.t 13)⟩,
       ⟨some 47, none, .ldl 14 (some 9) (.t 14)⟩,
       ⟨some 48, none, .ldl 12 (some 9) (.t 12)⟩,
       ⟨some 49, none, .call f_divide_Modulus_Mul [] [(.t 46), (.t 47), (.t 48)]⟩,
       ⟨some 17, none, .box (.c (.agg [.u 64 0, .u 64 0, .u 64 0, .u 64 0, .u 64 0, .u 64 0, .u 64 0, .u 64 0, .u 64 0]))⟩,
       ⟨none, none, .stl 17 9 (.t 17) (.t 49)⟩] [3, 4, 9, 10, 11, 12, 13, 17]) (
     .seq (
     .reg [
       ⟨some 51, none, .ldl 11 (some 9) (.t 11)⟩,
       ⟨some 52, none, .ldl 17 (some 9) (.t 17)⟩,
       ⟨some 53, none, .call f_nat_Sub [] [(.t 51), (.t 52)]⟩,
       ⟨some 50, none, .mov (.t 53)⟩,
       ⟨some 54, none, .ext 0 (.t 50)⟩,
       ⟨some 55, none, .ext 1 (.t 50)⟩,
       ⟨some 18, none, .box (.c (.agg [.u 64 0, .u 64 0, .u 64 0, .u 64 0, .u 64 0, .u 64 0, .u 64 0, .u 64 0, .u 64 0]))⟩,
       ⟨none, none, .stl 18 9 (.t 18) (.t 54)⟩,
       ⟨some 19, none, .mov (.t 55)⟩] [3, 4, 9, 10, 11, 12, 13, 18, 19]) (
     .seq (
     .seq (
     .reg [
       ⟨some 56, none, .mov (.t 19)⟩] [3, 4, 9, 10, 11, 12, 13, 18, 56]) (
     .cond (.t 56) (
      .reg [
        ⟨some 58, none, .ldl 18 (some 9) (.t 18)⟩,
        ⟨some 59, none, .ld true (some 9) (.t 3)⟩,
        ⟨some 60, none, .call f_nat_Add [] [(.t 58), (.t 59)]⟩,
        ⟨some 57, none, .mov (.t 60)⟩,
        ⟨some 61, none, .ext 0 (.t 57)⟩,
        ⟨some 62, none, .ext 1 (.t 57)⟩,
        ⟨none, none, .stl 18 9 (.t 18) (.t 61)⟩] [3, 4, 9, 10, 11, 12, 13, 18]) (
      .reg [] [3, 4, 9, 10, 11, 12, 13, 18]))) (
     .reg [
       ⟨some 63, none, .ldl 12 (some 9) (.t 12)⟩,
       ⟨some 64, none, .ldl 18 (some 9) (.t 18)⟩,
       ⟨none, none, .stl 11 9 (.t 11) (.t 63)⟩,
       ⟨none, none, .stl 12 9 (.t 12) (.t 64)⟩] [3, 4, 9, 10, 11, 12, 13])))))))))) (
  .seq (
  .seq (
  .reg [
    ⟨some 65, none, .ldl 9 (some 9) (.t 9)⟩,
    ⟨some 66, none, .call f_nat_Small [] [(.c (.i 1))]⟩,
    ⟨some 67, none, .eqv (.agg [.u 64, .u 64, .u 64, .u 64, .u 64, .u 64, .u 64, .u 64, .u 64]) true (.t 65) (.t 66)⟩,
    ⟨some 68, none, .mov (.t 67)⟩,
    ⟨some 69, (some (68, false)), .ld true (some 9) (.t 3)⟩,
    ⟨some 70, (some (68, false)), .call f_nat_Small [] [(.c (.i 1))]⟩,
    ⟨some 71, (some (68, false)), .eqv (.agg [.u 64, .u 64, .u 64, .u 64, .u 64, .u 64, .u 64, .u 64, .u 64]) false (.t 69) (.t 70)⟩,
    ⟨some 72, none, .pick (.t 68) (.c (.b true)) (.t 71)⟩] [4, 11, 72]) (
  .cond (.t 72) (
   .seq (
   .reg [
     ⟨some 73, none, .build [.u 64 0, .u 64 0, .u 64 0, .u 64 0, .u 64 0, .u 64 0, .u 64 0, .u 64 0, .u 64 0] []⟩,
     ⟨none, none, .stl 4 9 (.t 4) (.t 73)⟩,
     ⟨some 5, none, .mov (.c (.i 401))⟩] [4, 5]) (
   .ret)) (
   .reg [] [4, 11]))) (
  .seq (
  .reg [
    ⟨some 74, none, .ldl 11 (some 9) (.t 11)⟩,
    ⟨none, none, .stl 4 9 (.t 4) (.t 74)⟩,
    ⟨some 5, none, .mov (.c (.i 0))⟩] [4, 5]) (
  .ret)))))))))
def m_divide_Inverse : MFn := ⟨c_divide_Inverse, [.cell 4 (some 9), .tmp 5], 0⟩

/-- curvet/curvetref1.From -/
def c_curvetref1_From : Stm :=
  .seq (
  .reg [
    ⟨some 1, none, .boxv (.t 0)⟩,
    ⟨some 2, none, .mov (.c (.vs 0 []))⟩] [1]) (
  .seq (
  .reg [
    ⟨some 5, none, .mks 1 4 [.u 32 0] (.c (.i 18)) (.c (.i 18))⟩,
    ⟨some 3, none, .mov (.t 5)⟩] [1, 3]) (
  .seq (
  .seq (
  .reg [
    ⟨some 4, none, .mov (.c (.i 0))⟩] [1, 3, 4]) (
  .block 0 (
   .loop [1, 3, 4] (
    .seq (
    .seq (
    .reg [
      ⟨some 6, none, .mov (.t 4)⟩,
      ⟨some 7, none, .bin .lss (.t 6) (.c (.i 9))⟩] [1, 3, 4, 7]) (
    .cond (.t 7) (
     .reg [] [1, 3, 4]) (
     .exit 0 [3]))) (
    .seq (
    .block 1 (
     .seq (
     .reg [
       ⟨some 10, none, .mov (.t 3)⟩,
       ⟨some 11, none, .mov (.t 4)⟩,
       ⟨some 12, none, .bin .mul (.c (.i 2)) (.t 11)⟩,
       ⟨some 13, none, .mov (.t 4)⟩,
       ⟨some 14, none, .off 0 (.t 1)⟩,
       ⟨some 15, none, .idx 9 1 (.t 14) (.t 13)⟩,
       ⟨some 16, none, .ld true none (.t 15)⟩,
       ⟨some 17, none, .bin .and (.t 16) (.c (.u 64 4294967295))⟩,
       ⟨some 18, none, .cvu 32 (.t 17)⟩,
       ⟨some 19, none, .idxs 1 (.t 10) (.t 12)⟩,
       ⟨none, none, .st 1 (.t 19) (.t 18)⟩] [1, 3, 4]) (
     .reg [
       ⟨some 20, none, .mov (.t 3)⟩,
       ⟨some 21, none, .mov (.t 4)⟩,
       ⟨some 22, none, .bin .mul (.c (.i 2)) (.t 21)⟩,
       ⟨some 23, none, .bin .add (.t 22) (.c (.i 1))⟩,
       ⟨some 24, none, .mov (.t 4)⟩,
       ⟨some 25, none, .off 0 (.t 1)⟩,
       ⟨some 26, none, .idx 9 1 (.t 25) (.t 24)⟩,
       ⟨some 27, none, .ld true none (.t 26)⟩,
       ⟨some 28, none, .bin .shr (.t 27) (.c (.u 64 32))⟩,
       ⟨some 29, none, .cvu 32 (.t 28)⟩,
       ⟨some 30, none, .idxs 1 (.t 20) (.t 23)⟩,
       ⟨none, none, .st 1 (.t 30) (.t 29)⟩] [1, 3, 4]))) (
    .reg [
      ⟨some 8, none, .mov (.t 4)⟩,
      ⟨some 9, none, .bin .add (.t 8) (.c (.i 1))⟩,
      ⟨some 4, none, .mov (.t 9)⟩] [1, 3, 4])))))) (
  .seq (
  .reg [
    ⟨some 31, none, .mov (.t 3)⟩,
    ⟨some 32, none, .call f_curvetref1_trim [] [(.t 31)]⟩,
    ⟨some 2, none, .mov (.t 32)⟩] [2]) (
  .ret))))
def m_curvetref1_From : MFn := ⟨c_curvetref1_From, [.tmp 2], 0⟩

/-- curvet/curvetlaw0.Num -/
def c_curvetlaw0_Num : Stm :=
  .seq (
  .reg [
    ⟨some 2, none, .mov (.c (.i 0))⟩] [0]) (
  .seq (
  .reg [
    ⟨some 3, none, .mov (.t 0)⟩,
    ⟨some 2, none, .mov (.t 3)⟩] [2]) (
  .ret))
def m_curvetlaw0_Num : MFn := ⟨c_curvetlaw0_Num, [.tmp 2], 0⟩

/-- curvet/curvetlaw4.awake -/
def c_curvetlaw4_awake : Stm :=
  .seq (
  .reg [
    ⟨some 0, none, .mov (.c (.b false))⟩] []) (
  .seq (
  .reg [
    ⟨some 14, none, .call f_curvetlaw0_One [] [(.c (.u 64 17))]⟩,
    ⟨some 15, none, .call f_curvetlaw0_One [] [(.c (.u 64 5))]⟩,
    ⟨some 16, none, .call f_divide_Div [] [(.t 14), (.t 15)]⟩,
    ⟨some 13, none, .mov (.t 16)⟩,
    ⟨some 17, none, .ext 0 (.t 13)⟩,
    ⟨some 18, none, .ext 1 (.t 13)⟩,
    ⟨some 19, none, .ext 2 (.t 13)⟩,
    ⟨some 1, none, .box (.c (.agg [.u 64 0, .u 64 0, .u 64 0, .u 64 0, .u 64 0, .u 64 0, .u 64 0, .u 64 0, .u 64 0]))⟩,
    ⟨some 2, none, .box (.c (.agg [.u 64 0, .u 64 0, .u 64 0, .u 64 0, .u 64 0, .u 64 0, .u 64 0, .u 64 0, .u 64 0]))⟩,
    ⟨none, none, .stl 1 9 (.t 1) (.t 17)⟩,
    ⟨none, none, .stl 2 9 (.t 2) (.t 18)⟩,
    ⟨some 3, none, .mov (.t 19)⟩] [1, 2, 3]) (
  .seq (
  .reg [
    ⟨some 21, none, .call f_curvetlaw0_One [] [(.c (.u 64 17))]⟩,
    ⟨some 22, none, .call f_curvetlaw0_One [] [(.c (.u 64 0))]⟩,
    ⟨some 23, none, .call f_divide_Div [] [(.t 21), (.t 22)]⟩,
    ⟨some 20, none, .mov (.t 23)⟩,
    ⟨some 24, none, .ext 0 (.t 20)⟩,
    ⟨some 25, none, .ext 1 (.t 20)⟩,
    ⟨some 26, none, .ext 2 (.t 20)⟩,
    ⟨some 4, none, .box (.c (.agg [.u 64 0, .u 64 0, .u 64 0, .u 64 0, .u 64 0, .u 64 0, .u 64 0, .u 64 0, .u 64 0]))⟩,
    ⟨some 5, none, .box (.c (.agg [.u 64 0, .u 64 0, .u 64 0, .u 64 0, .u 64 0, .u 64 0, .u 64 0, .u 64 0, .u 64 0]))⟩,
    ⟨none, none, .stl 4 9 (.t 4) (.t 24)⟩,
    ⟨none, none, .stl 5 9 (.t 5) (.t 25)⟩,
    ⟨some 6, none, .mov (.t 26)⟩] [1, 2, 3, 6]) (
  .seq (
  .reg [
    ⟨some 28, none, .call f_curvetlaw0_One [] [(.c (.u 64 3))]⟩,
    ⟨some 29, none, .call f_curvetlaw0_One [] [(.c (.u 64 7))]⟩,
    ⟨some 30, none, .call f_divide_Inverse [] [(.t 28), (.t 29)]⟩,
    ⟨some 27, none, .mov (.t 30)⟩,
    ⟨some 31, none, .ext 0 (.t 27)⟩,
    ⟨some 32, none, .ext 1 (.t 27)⟩,
    ⟨some 7, none, .box (.c (.agg [.u 64 0, .u 64 0, .u 64 0, .u 64 0, .u 64 0, .u 64 0, .u 64 0, .u 64 0, .u 64 0]))⟩,
    ⟨none, none, .stl 7 9 (.t 7) (.t 31)⟩,
    ⟨some 8, none, .mov (.t 32)⟩] [1, 2, 3, 6, 7, 8]) (
  .seq (
  .reg [
    ⟨some 34, none, .call f_curvetlaw0_One [] [(.c (.u 64 3))]⟩,
    ⟨some 35, none, .call f_curvetlaw0_One [] [(.c (.u 64 9))]⟩,
    ⟨some 36, none, .call f_divide_Inverse [] [(.t 34), (.t 35)]⟩,
    ⟨some 33, none, .mov (.t 36)⟩,
    ⟨some 37, none, .ext 0 (.t 33)⟩,
    ⟨some 38, none, .ext 1 (.t 33)⟩,
    ⟨some 9, none, .box (.c (.agg [.u 64 0, .u 64 0, .u 64 0, .u 64 0, .u 64 0, .u 64 0, .u 64 0, .u 64 0, .u 64 0]))⟩,
    ⟨none, none, .stl 9 9 (.t 9) (.t 37)⟩,
    ⟨some 10, none, .mov (.t 38)⟩] [1, 2, 3, 6, 7, 8, 10]) (
  .seq (
  .reg [
    ⟨some 40, none, .call f_curvetlaw0_One [] [(.c (.u 64 3))]⟩,
    ⟨some 41, none, .call f_curvetlaw0_One [] [(.c (.u 64 4))]⟩,
    ⟨some 42, none, .call f_curvetlaw0_One [] [(.c (.u 64 7))]⟩,
    ⟨some 43, none, .call f_divide_PowMod [] [(.t 40), (.t 41), (.t 42)]⟩,
    ⟨some 39, none, .mov (.t 43)⟩,
    ⟨some 44, none, .ext 0 (.t 39)⟩,
    ⟨some 45, none, .ext 1 (.t 39)⟩,
    ⟨some 11, none, .box (.c (.agg [.u 64 0, .u 64 0, .u 64 0, .u 64 0, .u 64 0, .u 64 0, .u 64 0, .u 64 0, .u 64 0]))⟩,
    ⟨none, none, .stl 11 9 (.t 11) (.t 44)⟩,
    ⟨some 12, none, .mov (.t 45)⟩] [1, 2, 3, 6, 7, 8, 10, 11, 12]) (
  .seq (
  .reg [
    ⟨some 46, none, .ldl 1 (some 9) (.t 1)⟩,
    ⟨some 47, none, .call f_curvetlaw0_One [] [(.c (.u 64 3))]⟩,
    ⟨some 48, none, .eqv (.agg [.u 64, .u 64, .u 64, .u 64, .u 64, .u 64, .u 64, .u 64, .u 64]) false (.t 46) (.t 47)⟩,
    ⟨some 49, none, .mov (.t 48)⟩,
    ⟨some 50, (some (49, true)), .ldl 2 (some 9) (.t 2)⟩,
    ⟨some 51, (some (49, true)), .call f_curvetlaw0_One [] [(.c (.u 64 2))]⟩,
    ⟨some 52, (some (49, true)), .eqv (.agg [.u 64, .u 64, .u 64, .u 64, .u 64, .u 64, .u 64, .u 64, .u 64]) false (.t 50) (.t 51)⟩,
    ⟨some 53, none, .pick (.t 49) (.t 52) (.c (.b false))⟩,
    ⟨some 54, none, .mov (.t 53)⟩,
    ⟨some 55, (some (54, true)), .mov (.t 3)⟩,
    ⟨some 56, (some (54, true)), .call f_curvetlaw0_Num [] [(.t 55)]⟩,
    ⟨some 57, (some (54, true)), .bin .eql (.t 56) (.c (.i 0))⟩,
    ⟨some 58, none, .pick (.t 54) (.t 57) (.c (.b false))⟩,
    ⟨some 59, none, .mov (.t 58)⟩,
    ⟨some 60, (some (59, true)), .mov (.t 6)⟩,
    ⟨some 61, (some (59, true)), .call f_curvetlaw0_Num [] [(.t 60)]⟩,
    ⟨some 62, (some (59, true)), .bin .eql (.t 61) (.c (.i 400))⟩,
    ⟨some 63, none, .pick (.t 59) (.t 62) (.c (.b false))⟩,
    ⟨some 64, none, .mov (.t 63)⟩,
    ⟨some 65, (some (64, true)), .ldl 7 (some 9) (.t 7)⟩,
    ⟨some 66, (some (64, true)), .call f_curvetlaw0_One [] [(.c (.u 64 5))]⟩,
    ⟨some 67, (some (64, true)), .eqv (.agg [.u 64, .u 64, .u 64, .u 64, .u 64, .u 64, .u 64, .u 64, .u 64]) false (.t 65) (.t 66)⟩,
    ⟨some 68, none, .pick (.t 64) (.t 67) (.c (.b false))⟩,
    ⟨some 69, none, .mov (.t 68)⟩,
    ⟨some 70, (some (69, true)), .mov (.t 8)⟩,
    ⟨some 71, (some (69, true)), .call f_curvetlaw0_Num [] [(.t 70)]⟩,
    ⟨some 72, (some (69, true)), .bin .eql (.t 71) (.c (.i 0))⟩,
    ⟨some 73, none, .pick (.t 69) (.t 72) (.c (.b false))⟩,
    ⟨some 74, none, .mov (.t 73)⟩,
    ⟨some 75, (some (74, true)), .mov (.t 10)⟩,
    ⟨some 76, (some (74, true)), .call f_curvetlaw0_Num [] [(.t 75)]⟩,
    ⟨some 77, (some (74, true)), .bin .eql (.t 76) (.c (.i 401))⟩,
    ⟨some 78, none, .pick (.t 74) (.t 77) (.c (.b false))⟩,
    ⟨some 79, none, .mov (.t 78)⟩,
    ⟨some 80, (some (79, true)), .ldl 11 (some 9) (.t 11)⟩,
    ⟨some 81, (some (79, true)), .call f_curvetlaw0_One [] [(.c (.u 64 4))]⟩,
    ⟨some 82, (some (79, true)), .eqv (.agg [.u 64, .u 64, .u 64, .u 64, .u 64, .u 64, .u 64, .u 64, .u 64]) false (.t 80) (.t 81)⟩,
    ⟨some 83, none, .pick (.t 79) (.t 82) (.c (.b false))⟩,
    ⟨some 84, none, .mov (.t 83)⟩,
    ⟨some 85, (some (84, true)), .mov (.t 12)⟩,
    ⟨some 86, (some (84, true)), .call f_curvetlaw0_Num [] [(.t 85)]⟩,
    ⟨some 87, (some (84, true)), .bin .eql (.t 86) (.c (.i 0))⟩,
    ⟨some 88, none, .pick (.t 84) (.t 87) (.c (.b false))⟩,
    ⟨some 0, none, .mov (.t 88)⟩] [0]) (
  .ret)))))))
def m_curvetlaw4_awake : MFn := ⟨c_curvetlaw4_awake, [.tmp 0], 0⟩

/-- curvet/curvetref1.Inverse -/
def c_curvetref1_Inverse : Stm :=
  .seq (
  .reg [
    ⟨some 4, none, .mov (.c (.vs 0 []))⟩,
    ⟨some 5, none, .mov (.c (.b false))⟩] [0, 1]) (
  .seq (
  .seq (
  .reg [
    ⟨some 13, none, .mov (.t 1)⟩,
    ⟨some 14, none, .lit true 1 1 [.u 32 0] [(0, 1, (.c (.u 32 1)))]⟩,
    ⟨some 15, none, .call f_curvetref1_Cmp [] [(.t 13), (.t 14)]⟩,
    ⟨some 16, none, .bin .leq (.t 15) (.c (.i 0))⟩] [0, 1, 16]) (
  .cond (.t 16) (
   .seq (
   .reg [
     ⟨some 4, none, .mov (.c (.vs 0 []))⟩,
     ⟨some 5, none, .mov (.c (.b false))⟩] [4, 5]) (
   .ret)) (
   .reg [] [0, 1]))) (
  .seq (
  .reg [
    ⟨some 17, none, .lit false 1 0 [] []⟩,
    ⟨some 18, none, .mov (.t 1)⟩,
    ⟨some 19, none, .app 1 4 (.t 17) (.t 18)⟩,
    ⟨some 20, none, .mov (.t 0)⟩,
    ⟨some 21, none, .mov (.t 1)⟩,
    ⟨some 22, none, .call f_curvetref1_Mod [] [(.t 20), (.t 21)]⟩,
    ⟨some 6, none, .frz (.t 19)⟩,
    ⟨some 7, none, .mov (.t 22)⟩] [1, 6, 7]) (
  .seq (
  .reg [
    ⟨some 8, none, .mov (.c (.vs 0 []))⟩] [1, 6, 7, 8]) (
  .seq (
  .reg [
    ⟨some 23, none, .lit true 1 1 [.u 32 0] [(0, 1, (.c (.u 32 1)))]⟩,
    ⟨some 9, none, .mov (.t 23)⟩] [1, 6, 7, 8, 9]) (
  .seq (
  .block 0 (
   .loop [1, 6, 7, 8, 9] (
    .seq (
    .seq (
    .reg [
      ⟨some 24, none, .mov (.t 7)⟩,
      ⟨some 25, none, .len (.t 24)⟩,
      ⟨some 26, none, .bin .gtr (.t 25) (.c (.i 0))⟩] [1, 6, 7, 8, 9, 26]) (
    .cond (.t 26) (
     .reg [] [1, 6, 7, 8, 9]) (
     .exit 0 [6, 8]))) (
    .block 1 (
     .seq (
     .reg [
       ⟨some 28, none, .mov (.t 6)⟩,
       ⟨some 29, none, .mov (.t 7)⟩,
       ⟨some 30, none, .call f_curvetref1_Div [] [(.t 28), (.t 29)]⟩,
       ⟨some 27, none, .mov (.t 30)⟩,
       ⟨some 31, none, .ext 0 (.t 27)⟩,
       ⟨some 32, none, .ext 1 (.t 27)⟩,
       ⟨some 10, none, .mov (.t 31)⟩,
       ⟨some 11, none, .mov (.t 32)⟩] [1, 7, 8, 9, 10, 11]) (
     .seq (
     .reg [
       ⟨some 33, none, .mov (.t 8)⟩,
       ⟨some 34, none, .mov (.t 10)⟩,
       ⟨some 35, none, .mov (.t 1)⟩,
       ⟨some 36, none, .call f_curvetref1_Mod [] [(.t 34), (.t 35)]⟩,
       ⟨some 37, none, .mov (.t 9)⟩,
       ⟨some 38, none, .mov (.t 1)⟩,
       ⟨some 39, none, .call f_curvetref1_MulMod [] [(.t 36), (.t 37), (.t 38)]⟩,
       ⟨some 40, none, .mov (.t 1)⟩,
       ⟨some 41, none, .call f_curvetref1_SubMod [] [(.t 33), (.t 39), (.t 40)]⟩,
       ⟨some 12, none, .mov (.t 41)⟩] [1, 7, 9, 11, 12]) (
     .seq (
     .reg [
       ⟨some 42, none, .mov (.t 7)⟩,
       ⟨some 6, none, .mov (.t 42)⟩] [1, 6, 9, 11, 12]) (
     .seq (
     .reg [
       ⟨some 43, none, .lit false 1 0 [] []⟩,
       ⟨some 44, none, .mov (.t 11)⟩,
       ⟨some 45, none, .app 1 4 (.t 43) (.t 44)⟩,
       ⟨some 7, none, .frz (.t 45)⟩] [1, 6, 7, 9, 12]) (
     .seq (
     .reg [
       ⟨some 46, none, .mov (.t 9)⟩,
       ⟨some 8, none, .mov (.t 46)⟩] [1, 6, 7, 8, 12]) (
     .reg [
       ⟨some 47, none, .mov (.t 12)⟩,
       ⟨some 9, none, .mov (.t 47)⟩] [1, 6, 7, 8, 9])))))))))) (
  .seq (
  .seq (
  .reg [
    ⟨some 48, none, .mov (.t 6)⟩,
    ⟨some 49, none, .lit true 1 1 [.u 32 0] [(0, 1, (.c (.u 32 1)))]⟩,
    ⟨some 50, none, .call f_curvetref1_Cmp [] [(.t 48), (.t 49)]⟩,
    ⟨some 51, none, .bin .neq (.t 50) (.c (.i 0))⟩] [8, 51]) (
  .cond (.t 51) (
   .seq (
   .reg [
     ⟨some 4, none, .mov (.c (.vs 0 []))⟩,
     ⟨some 5, none, .mov (.c (.b false))⟩] [4, 5]) (
   .ret)) (
   .reg [] [8]))) (
  .seq (
  .reg [
    ⟨some 52, none, .mov (.t 8)⟩,
    ⟨some 4, none, .mov (.t 52)⟩,
    ⟨some 5, none, .mov (.c (.b true))⟩] [4, 5]) (
  .ret))))))))
def m_curvetref1_Inverse : MFn := ⟨c_curvetref1_Inverse, [.tmp 4, .tmp 5], 0⟩

/-- curvet/curvetref1.Nat -/
def c_curvetref1_Nat : Stm :=
  .seq (
  .reg [
    ⟨some 2, none, .box (.c (.agg [.u 64 0, .u 64 0, .u 64 0, .u 64 0, .u 64 0, .u 64 0, .u 64 0, .u 64 0, .u 64 0]))⟩] [0, 2]) (
  .seq (
  .reg [
    ⟨some 3, none, .box (.c (.agg [.u 64 0, .u 64 0, .u 64 0, .u 64 0, .u 64 0, .u 64 0, .u 64 0, .u 64 0, .u 64 0]))⟩] [0, 2, 3]) (
  .seq (
  .seq (
  .reg [
    ⟨some 4, none, .mov (.c (.i 0))⟩] [0, 2, 3, 4]) (
  .block 0 (
   .loop [0, 2, 3, 4] (
    .seq (
    .seq (
    .reg [
      ⟨some 5, none, .mov (.t 4)⟩,
      ⟨some 6, none, .bin .lss (.t 5) (.c (.i 9))⟩] [0, 2, 3, 4, 6]) (
    .cond (.t 6) (
     .reg [] [0, 2, 3, 4]) (
     .exit 0 [2, 3]))) (
    .seq (
    .block 1 (
     .reg [
       ⟨some 9, none, .mov (.t 4)⟩,
       ⟨some 10, none, .mov (.t 0)⟩,
       ⟨some 11, none, .mov (.t 4)⟩,
       ⟨some 12, none, .bin .mul (.c (.i 2)) (.t 11)⟩,
       ⟨some 13, none, .call f_curvetref1_digit [] [(.t 10), (.t 12)]⟩,
       ⟨some 14, none, .mov (.t 0)⟩,
       ⟨some 15, none, .mov (.t 4)⟩,
       ⟨some 16, none, .bin .mul (.c (.i 2)) (.t 15)⟩,
       ⟨some 17, none, .bin .add (.t 16) (.c (.i 1))⟩,
       ⟨some 18, none, .call f_curvetref1_digit [] [(.t 14), (.t 17)]⟩,
       ⟨some 19, none, .bin .shl (.t 18) (.c (.u 64 32))⟩,
       ⟨some 20, none, .bin .or (.t 13) (.t 19)⟩,
       ⟨some 21, none, .off 0 (.t 3)⟩,
       ⟨some 22, none, .idx 9 1 (.t 21) (.t 9)⟩,
       ⟨none, none, .stl 3 1 (.t 22) (.t 20)⟩] [0, 2, 3, 4])) (
    .reg [
      ⟨some 7, none, .mov (.t 4)⟩,
      ⟨some 8, none, .bin .add (.t 7) (.c (.i 1))⟩,
      ⟨some 4, none, .mov (.t 8)⟩] [0, 2, 3, 4])))))) (
  .seq (
  .reg [
    ⟨some 23, none, .ldl 3 (some 9) (.t 3)⟩,
    ⟨none, none, .stl 2 9 (.t 2) (.t 23)⟩] [2]) (
  .ret))))
def m_curvetref1_Nat : MFn := ⟨c_curvetref1_Nat, [.cell 2 (some 9)], 0⟩

/-- curvet/curvetref1.PowMod -/
def c_curvetref1_PowMod : Stm :=
  .seq (
  .reg [
    ⟨some 6, none, .mov (.c (.vs 0 []))⟩] [0, 1, 2]) (
  .seq (
  .reg [
    ⟨some 10, none, .lit true 1 1 [.u 32 0] [(0, 1, (.c (.u 32 1)))]⟩,
    ⟨some 11, none, .mov (.t 2)⟩,
    ⟨some 12, none, .call f_curvetref1_Mod [] [(.t 10), (.t 11)]⟩,
    ⟨some 7, none, .mov (.t 12)⟩] [0, 1, 2, 7]) (
  .seq (
  .reg [
    ⟨some 13, none, .mov (.t 0)⟩,
    ⟨some 14, none, .mov (.t 2)⟩,
    ⟨some 15, none, .call f_curvetref1_Mod [] [(.t 13), (.t 14)]⟩,
    ⟨some 8, none, .mov (.t 15)⟩] [1, 2, 7, 8]) (
  .seq (
  .seq (
  .reg [
    ⟨some 16, none, .mov (.t 1)⟩,
    ⟨some 17, none, .call f_curvetref1_Bits [] [(.t 16)]⟩,
    ⟨some 18, none, .bin .sub (.t 17) (.c (.i 1))⟩,
    ⟨some 9, none, .mov (.t 18)⟩] [1, 2, 7, 8, 9]) (
  .block 0 (
   .loop [1, 2, 7, 8, 9] (
    .seq (
    .seq (
    .reg [
      ⟨some 19, none, .mov (.t 9)⟩,
      ⟨some 20, none, .bin .geq (.t 19) (.c (.i 0))⟩] [1, 2, 7, 8, 9, 20]) (
    .cond (.t 20) (
     .reg [] [1, 2, 7, 8, 9]) (
     .exit 0 [7]))) (
    .seq (
    .block 1 (
     .seq (
     .reg [
       ⟨some 23, none, .mov (.t 7)⟩,
       ⟨some 24, none, .mov (.t 7)⟩,
       ⟨some 25, none, .mov (.t 2)⟩,
       ⟨some 26, none, .call f_curvetref1_MulMod [] [(.t 23), (.t 24), (.t 25)]⟩,
       ⟨some 7, none, .mov (.t 26)⟩] [1, 2, 7, 8, 9]) (
     .seq (
     .reg [
       ⟨some 27, none, .mov (.t 1)⟩,
       ⟨some 28, none, .mov (.t 9)⟩,
       ⟨some 29, none, .call f_curvetref1_Bit [] [(.t 27), (.t 28)]⟩,
       ⟨some 30, none, .bin .eql (.t 29) (.c (.i 1))⟩] [1, 2, 7, 8, 9, 30]) (
     .cond (.t 30) (
      .reg [
        ⟨some 31, none, .mov (.t 7)⟩,
        ⟨some 32, none, .mov (.t 8)⟩,
        ⟨some 33, none, .mov (.t 2)⟩,
        ⟨some 34, none, .call f_curvetref1_MulMod [] [(.t 31), (.t 32), (.t 33)]⟩,
        ⟨some 7, none, .mov (.t 34)⟩] [1, 2, 7, 8, 9]) (
      .reg [] [1, 2, 7, 8, 9]))))) (
    .reg [
      ⟨some 21, none, .mov (.t 9)⟩,
      ⟨some 22, none, .bin .sub (.t 21) (.c (.i 1))⟩,
      ⟨some 9, none, .mov (.t 22)⟩] [1, 2, 7, 8, 9])))))) (
  .seq (
  .reg [
    ⟨some 35, none, .mov (.t 7)⟩,
    ⟨some 6, none, .mov (.t 35)⟩] [6]) (
  .ret)))))
def m_curvetref1_PowMod : MFn := ⟨c_curvetref1_PowMod, [.tmp 6], 0⟩

/-- curvet/curvetlaw0.Nat -/
def c_curvetlaw0_Nat : Stm :=
  .seq (
  .reg [
    ⟨some 2, none, .boxv (.t 0)⟩,
    ⟨some 4, none, .box (.c (.agg [.u 64 0, .u 64 0, .u 64 0, .u 64 0, .u 64 0, .u 64 0, .u 64 0, .u 64 0, .u 64 0]))⟩] [1, 2, 4]) (
  .seq (
  .reg [
    ⟨some 5, none, .box (.c (.agg [.u 64 0, .u 64 0, .u 64 0, .u 64 0, .u 64 0, .u 64 0, .u 64 0, .u 64 0, .u 64 0]))⟩] [1, 2, 4, 5]) (
  .seq (
  .seq (
  .reg [
    ⟨some 6, none, .mov (.c (.i 0))⟩] [1, 2, 4, 5, 6]) (
  .block 0 (
   .loop [1, 2, 4, 5, 6] (
    .seq (
    .seq (
    .reg [
      ⟨some 8, none, .mov (.t 6)⟩,
      ⟨some 9, none, .bin .lss (.t 8) (.c (.i 9))⟩] [1, 2, 4, 5, 6, 9]) (
    .cond (.t 9) (
     .reg [] [1, 2, 4, 5, 6]) (
     .exit 0 [4, 5]))) (
    .seq (
    .block 1 (
     .seq (
     .reg [
       ⟨some 12, none, .mov (.t 1)⟩,
       ⟨some 13, none, .mov (.t 6)⟩,
       ⟨some 14, none, .bin .mul (.c (.i 64)) (.t 13)⟩,
       ⟨some 15, none, .bin .sub (.t 12) (.t 14)⟩,
       ⟨some 7, none, .mov (.t 15)⟩] [1, 2, 4, 5, 6, 7]) (
     .block 2 (
      .seq (
      .reg [
        ⟨some 17, none, .mov (.t 7)⟩,
        ⟨some 18, none, .bin .geq (.t 17) (.c (.i 64))⟩,
        ⟨some 16, none, .mov (.t 18)⟩] [1, 2, 4, 5, 6, 7, 16]) (
      .cond (.t 16) (
       .reg [
         ⟨some 19, none, .mov (.t 6)⟩,
         ⟨some 20, none, .mov (.t 6)⟩,
         ⟨some 21, none, .idx 9 1 (.t 2) (.t 20)⟩,
         ⟨some 22, none, .ld true none (.t 21)⟩,
         ⟨some 23, none, .off 0 (.t 5)⟩,
         ⟨some 24, none, .idx 9 1 (.t 23) (.t 19)⟩,
         ⟨none, none, .stl 5 1 (.t 24) (.t 22)⟩] [1, 2, 4, 5, 6]) (
       .seq (
       .reg [
         ⟨some 26, none, .mov (.t 7)⟩,
         ⟨some 27, none, .bin .gtr (.t 26) (.c (.i 0))⟩,
         ⟨some 25, none, .mov (.t 27)⟩] [1, 2, 4, 5, 6, 7, 25]) (
       .cond (.t 25) (
        .reg [
          ⟨some 28, none, .mov (.t 6)⟩,
          ⟨some 29, none, .mov (.t 6)⟩,
          ⟨some 30, none, .idx 9 1 (.t 2) (.t 29)⟩,
          ⟨some 31, none, .ld true none (.t 30)⟩,
          ⟨some 32, none, .mov (.t 7)⟩,
          ⟨some 33, none, .bin .shl (.c (.u 64 1)) (.t 32)⟩,
          ⟨some 34, none, .bin .sub (.t 33) (.c (.u 64 1))⟩,
          ⟨some 35, none, .bin .and (.t 31) (.t 34)⟩,
          ⟨some 36, none, .off 0 (.t 5)⟩,
          ⟨some 37, none, .idx 9 1 (.t 36) (.t 28)⟩,
          ⟨none, none, .stl 5 1 (.t 37) (.t 35)⟩] [1, 2, 4, 5, 6]) (
        .reg [] [1, 2, 4, 5, 6])))))))) (
    .reg [
      ⟨some 10, none, .mov (.t 6)⟩,
      ⟨some 11, none, .bin .add (.t 10) (.c (.i 1))⟩,
      ⟨some 6, none, .mov (.t 11)⟩] [1, 2, 4, 5, 6])))))) (
  .seq (
  .reg [
    ⟨some 38, none, .ldl 5 (some 9) (.t 5)⟩,
    ⟨none, none, .stl 4 9 (.t 4) (.t 38)⟩] [4]) (
  .ret))))
def m_curvetlaw0_Nat : MFn := ⟨c_curvetlaw0_Nat, [.cell 4 (some 9)], 0⟩

/-- curvet/nat.Add -/
def c_nat_Add : Stm :=
  .seq (
  .reg [
    ⟨some 2, none, .box (.t 0)⟩,
    ⟨some 3, none, .boxv (.t 1)⟩,
    ⟨some 4, none, .box (.c (.agg [.u 64 0, .u 64 0, .u 64 0, .u 64 0, .u 64 0, .u 64 0, .u 64 0, .u 64 0, .u 64 0]))⟩,
    ⟨some 5, none, .mov (.c (.b false))⟩] [2, 3, 4]) (
  .seq (
  .reg [
    ⟨some 6, none, .mov (.c (.u 64 0))⟩] [2, 3, 4, 6]) (
  .seq (
  .seq (
  .reg [
    ⟨some 8, none, .mov (.c (.i 0))⟩] [2, 3, 4, 6, 8]) (
  .block 0 (
   .loop [2, 3, 4, 6, 8] (
    .seq (
    .reg [
      ⟨some 9, none, .bin .lss (.t 8) (.c (.i 9))⟩] [2, 3, 4, 6, 8, 9]) (
    .seq (
    .cond (.t 9) (
     .reg [] [2, 3, 4, 6, 8]) (
     .exit 0 [2, 4, 6])) (
    .seq (
    .block 1 (
     .seq (
     .reg [
       ⟨some 10, none, .mov (.t 8)⟩,
       ⟨some 7, none, .mov (.t 10)⟩] [2, 3, 4, 6, 7, 8]) (
     .reg [
       ⟨some 12, none, .mov (.t 7)⟩,
       ⟨some 13, none, .mov (.t 7)⟩,
       ⟨some 14, none, .off 0 (.t 2)⟩,
       ⟨some 15, none, .idx 9 1 (.t 14) (.t 13)⟩,
       ⟨some 16, none, .ldl 2 none (.t 15)⟩,
       ⟨some 17, none, .mov (.t 7)⟩,
       ⟨some 18, none, .off 0 (.t 3)⟩,
       ⟨some 19, none, .idx 9 1 (.t 18) (.t 17)⟩,
       ⟨some 20, none, .ld true none (.t 19)⟩,
       ⟨some 21, none, .mov (.t 6)⟩,
       ⟨some 22, none, .prim .add64 [(.t 16), (.t 20), (.t 21)]⟩,
       ⟨some 11, none, .mov (.t 22)⟩,
       ⟨some 23, none, .ext 0 (.t 11)⟩,
       ⟨some 24, none, .ext 1 (.t 11)⟩,
       ⟨some 25, none, .off 0 (.t 2)⟩,
       ⟨some 26, none, .idx 9 1 (.t 25) (.t 12)⟩,
       ⟨none, none, .stl 2 1 (.t 26) (.t 23)⟩,
       ⟨some 6, none, .mov (.t 24)⟩] [2, 3, 4, 6, 8]))) (
    .reg [
      ⟨some 27, none, .bin .add (.t 8) (.c (.i 1))⟩,
      ⟨some 8, none, .mov (.t 27)⟩] [2, 3, 4, 6, 8]))))))) (
  .seq (
  .reg [
    ⟨some 28, none, .ldl 2 (some 9) (.t 2)⟩,
    ⟨some 29, none, .mov (.t 6)⟩,
    ⟨some 30, none, .bin .eql (.t 29) (.c (.u 64 1))⟩,
    ⟨none, none, .stl 4 9 (.t 4) (.t 28)⟩,
    ⟨some 5, none, .mov (.t 30)⟩] [4, 5]) (
  .ret))))
def m_nat_Add : MFn := ⟨c_nat_Add, [.cell 4 (some 9), .tmp 5], 0⟩

/-- curvet/divide.Div -/
def c_divide_Div : Stm :=
  .seq (
  .reg [
    ⟨some 2, none, .boxv (.t 0)⟩,
    ⟨some 3, none, .boxv (.t 1)⟩,
    ⟨some 4, none, .box (.c (.agg [.u 64 0, .u 64 0, .u 64 0, .u 64 0, .u 64 0, .u 64 0, .u 64 0, .u 64 0, .u 64 0]))⟩,
    ⟨some 5, none, .box (.c (.agg [.u 64 0, .u 64 0, .u 64 0, .u 64 0, .u 64 0, .u 64 0, .u 64 0, .u 64 0, .u 64 0]))⟩,
    ⟨some 6, none, .mov (.c (.i 0))⟩] [2, 3, 4, 5]) (
  .seq (
  .seq (
  .reg [
    ⟨some 9, none, .call f_divide_zero [] [(.t 3)]⟩] [2, 3, 4, 5, 9]) (
  .cond (.t 9) (
   .seq (
   .reg [
     ⟨some 10, none, .build [.u 64 0, .u 64 0, .u 64 0, .u 64 0, .u 64 0, .u 64 0, .u 64 0, .u 64 0, .u 64 0] []⟩,
     ⟨some 11, none, .build [.u 64 0, .u 64 0, .u 64 0, .u 64 0, .u 64 0, .u 64 0, .u 64 0, .u 64 0, .u 64 0] []⟩,
     ⟨none, none, .stl 4 9 (.t 4) (.t 10)⟩,
     ⟨none, none, .stl 5 9 (.t 5) (.t 11)⟩,
     ⟨some 6, none, .mov (.c (.i 400))⟩] [4, 5, 6]) (
   .ret)) (
   .reg [] [2, 3, 4, 5]))) (
  .seq (
  .reg [
    ⟨some 13, none, .call f_divide_of [] [(.t 3)]⟩,
    ⟨some 14, none, .off 0 (.t 2)⟩,
    ⟨some 15, none, .sla true 9 1 (.t 14) none none⟩,
    ⟨some 16, none, .call f_divide_divisor_divide [] [(.t 13), (.t 15)]⟩,
    ⟨some 12, none, .mov (.t 16)⟩,
    ⟨some 17, none, .ext 0 (.t 12)⟩,
    ⟨some 18, none, .ext 1 (.t 12)⟩,
    ⟨some 7, none, .box (.c (.agg [.u 64 0, .u 64 0, .u 64 0, .u 64 0, .u 64 0, .u 64 0, .u 64 0, .u 64 0, .u 64 0, .u 64 0, .u 64 0, .u 64 0, .u 64 0, .u 64 0, .u 64 0, .u 64 0, .u 64 0, .u 64 0]))⟩,
    ⟨some 8, none, .box (.c (.agg [.u 64 0, .u 64 0, .u 64 0, .u 64 0, .u 64 0, .u 64 0, .u 64 0, .u 64 0, .u 64 0]))⟩,
    ⟨none, none, .stl 7 18 (.t 7) (.t 17)⟩,
    ⟨none, none, .stl 8 9 (.t 8) (.t 18)⟩] [4, 5, 7, 8]) (
  .seq (
  .reg [
    ⟨some 19, none, .off 0 (.t 7)⟩,
    ⟨some 20, none, .sla true 18 1 (.t 19) none (some (.c (.i 9)))⟩,
    ⟨some 21, none, .s2a 9 (.t 20)⟩,
    ⟨some 22, none, .ldl 7 (some 9) (.t 21)⟩,
    ⟨some 23, none, .build [.u 64 0, .u 64 0, .u 64 0, .u 64 0, .u 64 0, .u 64 0, .u 64 0, .u 64 0, .u 64 0] [(0, 9, (.t 22))]⟩,
    ⟨some 24, none, .ldl 8 (some 9) (.t 8)⟩,
    ⟨none, none, .stl 4 9 (.t 4) (.t 23)⟩,
    ⟨none, none, .stl 5 9 (.t 5) (.t 24)⟩,
    ⟨some 6, none, .mov (.c (.i 0))⟩] [4, 5, 6]) (
  .ret))))
def m_divide_Div : MFn := ⟨c_divide_Div, [.cell 4 (some 9), .cell 5 (some 9), .tmp 6], 0⟩

/-- curvet/curvetlaw0.One -/
def c_curvetlaw0_One : Stm :=
  .seq (
  .reg [
    ⟨some 2, none, .box (.c (.agg [.u 64 0, .u 64 0, .u 64 0, .u 64 0, .u 64 0, .u 64 0, .u 64 0, .u 64 0, .u 64 0]))⟩] [0, 2]) (
  .seq (
  .reg [
    ⟨some 3, none, .box (.c (.agg [.u 64 0, .u 64 0, .u 64 0, .u 64 0, .u 64 0, .u 64 0, .u 64 0, .u 64 0, .u 64 0]))⟩] [0, 2, 3]) (
  .seq (
  .reg [
    ⟨some 4, none, .mov (.t 0)⟩,
    ⟨some 5, none, .off 0 (.t 3)⟩,
    ⟨some 6, none, .idx 9 1 (.t 5) (.c (.i 0))⟩,
    ⟨none, none, .stl 3 1 (.t 6) (.t 4)⟩] [2, 3]) (
  .seq (
  .reg [
    ⟨some 7, none, .ldl 3 (some 9) (.t 3)⟩,
    ⟨none, none, .stl 2 9 (.t 2) (.t 7)⟩] [2]) (
  .ret))))
def m_curvetlaw0_One : MFn := ⟨c_curvetlaw0_One, [.cell 2 (some 9)], 0⟩

/-- curvet/divide.MulMod -/
def c_divide_MulMod : Stm :=
  .seq (
  .reg [
    ⟨some 3, none, .boxv (.t 0)⟩,
    ⟨some 4, none, .boxv (.t 1)⟩,
    ⟨some 5, none, .boxv (.t 2)⟩,
    ⟨some 6, none, .box (.c (.agg [.u 64 0, .u 64 0, .u 64 0, .u 64 0, .u 64 0, .u 64 0, .u 64 0, .u 64 0, .u 64 0]))⟩,
    ⟨some 7, none, .mov (.c (.i 0))⟩] [3, 4, 5, 6]) (
  .seq (
  .seq (
  .reg [
    ⟨some 8, none, .call f_divide_zero [] [(.t 5)]⟩] [3, 4, 5, 6, 8]) (
  .cond (.t 8) (
   .seq (
   .reg [
     ⟨some 9, none, .build [.u 64 0, .u 64 0, .u 64 0, .u 64 0, .u 64 0, .u 64 0, .u 64 0, .u 64 0, .u 64 0] []⟩,
     ⟨none, none, .stl 6 9 (.t 6) (.t 9)⟩,
     ⟨some 7, none, .mov (.c (.i 400))⟩] [6, 7]) (
   .ret)) (
   .reg [] [3, 4, 5, 6]))) (
  .seq (
  .reg [
    ⟨some 10, none, .ld true (some 9) (.t 5)⟩,
    ⟨some 11, none, .call f_divide_By [] [(.t 10)]⟩,
    ⟨some 12, none, .ld true (some 9) (.t 3)⟩,
    ⟨some 13, none, .ld true (some 9) (.t 4)⟩,
    ⟨some 14, none, .call f_divide_Modulus_Mul [] [(.t 11), (.t 12), (.t 13)]⟩,
    ⟨none, none, .stl 6 9 (.t 6) (.t 14)⟩,
    ⟨some 7, none, .mov (.c (.i 0))⟩] [6, 7]) (
  .ret)))
def m_divide_MulMod : MFn := ⟨c_divide_MulMod, [.cell 6 (some 9), .tmp 7], 0⟩

/-- curvet/nat.Mul -/
def c_nat_Mul : Stm :=
  .seq (
  .reg [
    ⟨some 2, none, .boxv (.t 0)⟩,
    ⟨some 3, none, .boxv (.t 1)⟩,
    ⟨some 4, none, .box (.c (.agg [.u 64 0, .u 64 0, .u 64 0, .u 64 0, .u 64 0, .u 64 0, .u 64 0, .u 64 0, .u 64 0, .u 64 0, .u 64 0, .u 64 0, .u 64 0, .u 64 0, .u 64 0, .u 64 0, .u 64 0, .u 64 0]))⟩] [2, 3, 4]) (
  .seq (
  .reg [
    ⟨some 5, none, .box (.c (.agg [.u 64 0, .u 64 0, .u 64 0, .u 64 0, .u 64 0, .u 64 0, .u 64 0, .u 64 0, .u 64 0, .u 64 0, .u 64 0, .u 64 0, .u 64 0, .u 64 0, .u 64 0, .u 64 0, .u 64 0, .u 64 0]))⟩] [2, 3, 4, 5]) (
  .seq (
  .reg [
    ⟨some 14, none, .call f_nat_used [] [(.t 2)]⟩,
    ⟨some 15, none, .call f_nat_used [] [(.t 3)]⟩,
    ⟨some 6, none, .mov (.t 14)⟩,
    ⟨some 7, none, .mov (.t 15)⟩] [2, 3, 4, 5, 6, 7]) (
  .seq (
  .seq (
  .reg [
    ⟨some 16, none, .mov (.t 6)⟩,
    ⟨some 17, none, .mov (.c (.i 0))⟩] [2, 3, 4, 5, 7, 16, 17]) (
  .block 0 (
   .loop [2, 3, 4, 5, 7, 16, 17] (
    .seq (
    .reg [
      ⟨some 18, none, .bin .lss (.t 17) (.t 16)⟩] [2, 3, 4, 5, 7, 16, 17, 18]) (
    .seq (
    .cond (.t 18) (
     .reg [] [2, 3, 4, 5, 7, 16, 17]) (
     .exit 0 [4, 5])) (
    .seq (
    .block 1 (
     .seq (
     .reg [
       ⟨some 19, none, .mov (.t 17)⟩,
       ⟨some 8, none, .mov (.t 19)⟩] [2, 3, 4, 5, 7, 8, 16, 17]) (
     .seq (
     .reg [
       ⟨some 9, none, .mov (.c (.u 64 0))⟩] [2, 3, 4, 5, 7, 8, 9, 16, 17]) (
     .seq (
     .seq (
     .reg [
       ⟨some 20, none, .mov (.t 7)⟩,
       ⟨some 21, none, .mov (.c (.i 0))⟩] [2, 3, 4, 5, 7, 8, 9, 16, 17, 20, 21]) (
     .block 2 (
      .loop [2, 3, 4, 5, 7, 8, 9, 16, 17, 20, 21] (
       .seq (
       .reg [
         ⟨some 22, none, .bin .lss (.t 21) (.t 20)⟩] [2, 3, 4, 5, 7, 8, 9, 16, 17, 20, 21, 22]) (
       .seq (
       .cond (.t 22) (
        .reg [] [2, 3, 4, 5, 7, 8, 9, 16, 17, 20, 21]) (
        .exit 2 [2, 3, 4, 5, 7, 8, 9, 16, 17])) (
       .seq (
       .block 3 (
        .seq (
        .reg [
          ⟨some 23, none, .mov (.t 21)⟩,
          ⟨some 10, none, .mov (.t 23)⟩] [2, 3, 4, 5, 7, 8, 9, 10, 16, 17, 20, 21]) (
        .seq (
        .reg [
          ⟨some 25, none, .mov (.t 8)⟩,
          ⟨some 26, none, .off 0 (.t 2)⟩,
          ⟨some 27, none, .idx 9 1 (.t 26) (.t 25)⟩,
          ⟨some 28, none, .ld true none (.t 27)⟩,
          ⟨some 29, none, .mov (.t 10)⟩,
          ⟨some 30, none, .off 0 (.t 3)⟩,
          ⟨some 31, none, .idx 9 1 (.t 30) (.t 29)⟩,
          ⟨some 32, none, .ld true none (.t 31)⟩,
          ⟨some 33, none, .call f_bits_Mul64 [] [(.t 28), (.t 32)]⟩,
          ⟨some 24, none, .mov (.t 33)⟩,
          ⟨some 34, none, .ext 0 (.t 24)⟩,
          ⟨some 35, none, .ext 1 (.t 24)⟩,
          ⟨some 11, none, .mov (.t 34)⟩,
          ⟨some 12, none, .mov (.t 35)⟩] [2, 3, 4, 5, 7, 8, 9, 10, 11, 12, 16, 17, 20, 21]) (
        .seq (
        .reg [
          ⟨some 13, none, .mov (.c (.u 64 0))⟩] [2, 3, 4, 5, 7, 8, 9, 10, 11, 12, 16, 17, 20, 21]) (
        .seq (
        .reg [
          ⟨some 37, none, .mov (.t 12)⟩,
          ⟨some 38, none, .mov (.t 8)⟩,
          ⟨some 39, none, .mov (.t 10)⟩,
          ⟨some 40, none, .bin .add (.t 38) (.t 39)⟩,
          ⟨some 41, none, .off 0 (.t 5)⟩,
          ⟨some 42, none, .idx 18 1 (.t 41) (.t 40)⟩,
          ⟨some 43, none, .ldl 5 none (.t 42)⟩,
          ⟨some 44, none, .prim .add64 [(.t 37), (.t 43), (.c (.u 64 0))]⟩,
          ⟨some 36, none, .mov (.t 44)⟩,
          ⟨some 45, none, .ext 0 (.t 36)⟩,
          ⟨some 46, none, .ext 1 (.t 36)⟩,
          ⟨some 12, none, .mov (.t 45)⟩,
          ⟨some 13, none, .mov (.t 46)⟩] [2, 3, 4, 5, 7, 8, 9, 10, 11, 12, 13, 16, 17, 20, 21]) (
        .seq (
        .reg [
          ⟨some 47, none, .mov (.t 11)⟩,
          ⟨some 48, none, .mov (.t 13)⟩,
          ⟨some 49, none, .bin .add (.t 47) (.t 48)⟩,
          ⟨some 11, none, .mov (.t 49)⟩] [2, 3, 4, 5, 7, 8, 9, 10, 11, 12, 16, 17, 20, 21]) (
        .seq (
        .reg [
          ⟨some 51, none, .mov (.t 12)⟩,
          ⟨some 52, none, .mov (.t 9)⟩,
          ⟨some 53, none, .prim .add64 [(.t 51), (.t 52), (.c (.u 64 0))]⟩,
          ⟨some 50, none, .mov (.t 53)⟩,
          ⟨some 54, none, .ext 0 (.t 50)⟩,
          ⟨some 55, none, .ext 1 (.t 50)⟩,
          ⟨some 12, none, .mov (.t 54)⟩,
          ⟨some 13, none, .mov (.t 55)⟩] [2, 3, 4, 5, 7, 8, 10, 11, 12, 13, 16, 17, 20, 21]) (
        .reg [
          ⟨some 56, none, .mov (.t 8)⟩,
          ⟨some 57, none, .mov (.t 10)⟩,
          ⟨some 58, none, .bin .add (.t 56) (.t 57)⟩,
          ⟨some 59, none, .mov (.t 12)⟩,
          ⟨some 60, none, .mov (.t 11)⟩,
          ⟨some 61, none, .mov (.t 13)⟩,
          ⟨some 62, none, .bin .add (.t 60) (.t 61)⟩,
          ⟨some 63, none, .off 0 (.t 5)⟩,
          ⟨some 64, none, .idx 18 1 (.t 63) (.t 58)⟩,
          ⟨none, none, .stl 5 1 (.t 64) (.t 59)⟩,
          ⟨some 9, none, .mov (.t 62)⟩] [2, 3, 4, 5, 7, 8, 9, 16, 17, 20, 21])))))))) (
       .reg [
         ⟨some 65, none, .bin .add (.t 21) (.c (.i 1))⟩,
         ⟨some 21, none, .mov (.t 65)⟩] [2, 3, 4, 5, 7, 8, 9, 16, 17, 20, 21]))))))) (
     .reg [
       ⟨some 66, none, .mov (.t 8)⟩,
       ⟨some 67, none, .mov (.t 7)⟩,
       ⟨some 68, none, .bin .add (.t 66) (.t 67)⟩,
       ⟨some 69, none, .mov (.t 9)⟩,
       ⟨some 70, none, .off 0 (.t 5)⟩,
       ⟨some 71, none, .idx 18 1 (.t 70) (.t 68)⟩,
       ⟨none, none, .stl 5 1 (.t 71) (.t 69)⟩] [2, 3, 4, 5, 7, 16, 17]))))) (
    .reg [
      ⟨some 72, none, .bin .add (.t 17) (.c (.i 1))⟩,
      ⟨some 17, none, .mov (.t 72)⟩] [2, 3, 4, 5, 7, 16, 17]))))))) (
  .seq (
  .reg [
    ⟨some 73, none, .ldl 5 (some 18) (.t 5)⟩,
    ⟨none, none, .stl 4 18 (.t 4) (.t 73)⟩] [4]) (
  .ret)))))
def m_nat_Mul : MFn := ⟨c_nat_Mul, [.cell 4 (some 18)], 0⟩

/-- curvet/nat.Cmp -/
def c_nat_Cmp : Stm :=
  .seq (
  .reg [
    ⟨some 2, none, .boxv (.t 0)⟩,
    ⟨some 3, none, .boxv (.t 1)⟩,
    ⟨some 4, none, .mov (.c (.i 0))⟩] [2, 3]) (
  .seq (
  .seq (
  .reg [
    ⟨some 5, none, .mov (.c (.i 8))⟩] [2, 3, 5]) (
  .block 0 (
   .loop [2, 3, 5] (
    .seq (
    .seq (
    .reg [
      ⟨some 6, none, .mov (.t 5)⟩,
      ⟨some 7, none, .bin .geq (.t 6) (.c (.i 0))⟩] [2, 3, 5, 7]) (
    .cond (.t 7) (
     .reg [] [2, 3, 5]) (
     .exit 0 []))) (
    .seq (
    .block 1 (
     .block 2 (
      .seq (
      .reg [
        ⟨some 11, none, .mov (.t 5)⟩,
        ⟨some 12, none, .off 0 (.t 2)⟩,
        ⟨some 13, none, .idx 9 1 (.t 12) (.t 11)⟩,
        ⟨some 14, none, .ld true none (.t 13)⟩,
        ⟨some 15, none, .mov (.t 5)⟩,
        ⟨some 16, none, .off 0 (.t 3)⟩,
        ⟨some 17, none, .idx 9 1 (.t 16) (.t 15)⟩,
        ⟨some 18, none, .ld true none (.t 17)⟩,
        ⟨some 19, none, .bin .lss (.t 14) (.t 18)⟩,
        ⟨some 10, none, .mov (.t 19)⟩] [2, 3, 5, 10]) (
      .cond (.t 10) (
       .seq (
       .reg [
         ⟨some 4, none, .mov (.c (.i (-1)))⟩] [4]) (
       .ret)) (
       .seq (
       .reg [
         ⟨some 21, none, .mov (.t 5)⟩,
         ⟨some 22, none, .off 0 (.t 2)⟩,
         ⟨some 23, none, .idx 9 1 (.t 22) (.t 21)⟩,
         ⟨some 24, none, .ld true none (.t 23)⟩,
         ⟨some 25, none, .mov (.t 5)⟩,
         ⟨some 26, none, .off 0 (.t 3)⟩,
         ⟨some 27, none, .idx 9 1 (.t 26) (.t 25)⟩,
         ⟨some 28, none, .ld true none (.t 27)⟩,
         ⟨some 29, none, .bin .gtr (.t 24) (.t 28)⟩,
         ⟨some 20, none, .mov (.t 29)⟩] [2, 3, 5, 20]) (
       .cond (.t 20) (
        .seq (
        .reg [
          ⟨some 4, none, .mov (.c (.i 1))⟩] [4]) (
        .ret)) (
        .reg [] [2, 3, 5]))))))) (
    .reg [
      ⟨some 8, none, .mov (.t 5)⟩,
      ⟨some 9, none, .bin .sub (.t 8) (.c (.i 1))⟩,
      ⟨some 5, none, .mov (.t 9)⟩] [2, 3, 5])))))) (
  .seq (
  .reg [
    ⟨some 4, none, .mov (.c (.i 0))⟩] [4]) (
  .ret)))
def m_nat_Cmp : MFn := ⟨c_nat_Cmp, [.tmp 4], 0⟩

/-- curvet/divide.Mod -/
def c_divide_Mod : Stm :=
  .seq (
  .reg [
    ⟨some 2, none, .boxv (.t 0)⟩,
    ⟨some 3, none, .boxv (.t 1)⟩,
    ⟨some 4, none, .box (.c (.agg [.u 64 0, .u 64 0, .u 64 0, .u 64 0, .u 64 0, .u 64 0, .u 64 0, .u 64 0, .u 64 0]))⟩,
    ⟨some 5, none, .mov (.c (.i 0))⟩] [2, 3, 4]) (
  .seq (
  .seq (
  .reg [
    ⟨some 8, none, .call f_divide_zero [] [(.t 3)]⟩] [2, 3, 4, 8]) (
  .cond (.t 8) (
   .seq (
   .reg [
     ⟨some 9, none, .build [.u 64 0, .u 64 0, .u 64 0, .u 64 0, .u 64 0, .u 64 0, .u 64 0, .u 64 0, .u 64 0] []⟩,
     ⟨none, none, .stl 4 9 (.t 4) (.t 9)⟩,
     ⟨some 5, none, .mov (.c (.i 400))⟩] [4, 5]) (
   .ret)) (
   .reg [] [2, 3, 4]))) (
  .seq (
  .reg [
    ⟨some 11, none, .call f_divide_of [] [(.t 3)]⟩,
    ⟨some 12, none, .off 0 (.t 2)⟩,
    ⟨some 13, none, .sla true 18 1 (.t 12) none none⟩,
    ⟨some 14, none, .call f_divide_divisor_divide [] [(.t 11), (.t 13)]⟩,
    ⟨some 10, none, .mov (.t 14)⟩,
    ⟨some 15, none, .ext 0 (.t 10)⟩,
    ⟨some 16, none, .ext 1 (.t 10)⟩,
    ⟨some 6, none, .box (.c (.agg [.u 64 0, .u 64 0, .u 64 0, .u 64 0, .u 64 0, .u 64 0, .u 64 0, .u 64 0, .u 64 0, .u 64 0, .u 64 0, .u 64 0, .u 64 0, .u 64 0, .u 64 0, .u 64 0, .u 64 0, .u 64 0]))⟩,
    ⟨some 7, none, .box (.c (.agg [.u 64 0, .u 64 0, .u 64 0, .u 64 0, .u 64 0, .u 64 0, .u 64 0, .u 64 0, .u 64 0]))⟩,
    ⟨none, none, .stl 6 18 (.t 6) (.t 15)⟩,
    ⟨none, none, .stl 7 9 (.t 7) (.t 16)⟩] [4, 7]) (
  .seq (
  .reg [
    ⟨some 17, none, .ldl 7 (some 9) (.t 7)⟩,
    ⟨none, none, .stl 4 9 (.t 4) (.t 17)⟩,
    ⟨some 5, none, .mov (.c (.i 0))⟩] [4, 5]) (
  .ret))))
def m_divide_Mod : MFn := ⟨c_divide_Mod, [.cell 4 (some 9), .tmp 5], 0⟩

/-- curvet/curvetref1.Div -/
def c_curvetref1_Div : Stm :=
  .seq (
  .reg [
    ⟨some 4, none, .mov (.c (.vs 0 []))⟩,
    ⟨some 5, none, .mov (.c (.vs 0 []))⟩] [0, 1]) (
  .seq (
  .seq (
  .reg [
    ⟨some 12, none, .mov (.t 0)⟩,
    ⟨some 13, none, .mov (.t 1)⟩,
    ⟨some 14, none, .call f_curvetref1_Cmp [] [(.t 12), (.t 13)]⟩,
    ⟨some 15, none, .bin .lss (.t 14) (.c (.i 0))⟩] [0, 1, 15]) (
  .cond (.t 15) (
   .seq (
   .reg [
     ⟨some 16, none, .mov (.t 0)⟩,
     ⟨some 4, none, .mov (.c (.vs 0 []))⟩,
     ⟨some 5, none, .mov (.t 16)⟩] [4, 5]) (
   .ret)) (
   .reg [] [0, 1]))) (
  .seq (
  .seq (
  .reg [
    ⟨some 17, none, .mov (.t 1)⟩,
    ⟨some 18, none, .len (.t 17)⟩,
    ⟨some 19, none, .bin .eql (.t 18) (.c (.i 1))⟩] [0, 1, 19]) (
  .cond (.t 19) (
   .seq (
   .reg [
     ⟨some 20, none, .mov (.t 0)⟩,
     ⟨some 21, none, .mov (.t 1)⟩,
     ⟨some 22, none, .idxs 1 (.t 21) (.c (.i 0))⟩,
     ⟨some 23, none, .ld false none (.t 22)⟩,
     ⟨some 24, none, .cvu 64 (.t 23)⟩,
     ⟨some 25, none, .call f_curvetref1_short [] [(.t 20), (.t 24)]⟩,
     ⟨some 26, none, .ext 0 (.t 25)⟩,
     ⟨some 27, none, .ext 1 (.t 25)⟩,
     ⟨some 4, none, .mov (.t 26)⟩,
     ⟨some 5, none, .mov (.t 27)⟩] [4, 5]) (
   .ret)) (
   .reg [] [0, 1]))) (
  .seq (
  .reg [
    ⟨some 28, none, .mov (.t 1)⟩,
    ⟨some 29, none, .len (.t 28)⟩,
    ⟨some 30, none, .bin .mul (.c (.i 32)) (.t 29)⟩,
    ⟨some 31, none, .mov (.t 1)⟩,
    ⟨some 32, none, .call f_curvetref1_Bits [] [(.t 31)]⟩,
    ⟨some 33, none, .bin .sub (.t 30) (.t 32)⟩,
    ⟨some 6, none, .mov (.t 33)⟩] [0, 1, 6]) (
  .seq (
  .reg [
    ⟨some 34, none, .mov (.t 1)⟩,
    ⟨some 35, none, .mov (.t 6)⟩,
    ⟨some 36, none, .call f_curvetref1_Shl [] [(.t 34), (.t 35)]⟩,
    ⟨some 7, none, .mov (.t 36)⟩] [0, 6, 7]) (
  .seq (
  .reg [
    ⟨some 37, none, .mov (.t 0)⟩,
    ⟨some 38, none, .len (.t 37)⟩,
    ⟨some 39, none, .bin .add (.t 38) (.c (.i 1))⟩,
    ⟨some 40, none, .mks 1 4 [.u 32 0] (.t 39) (.t 39)⟩,
    ⟨some 8, none, .mov (.t 40)⟩] [0, 6, 7, 8]) (
  .seq (
  .reg [
    ⟨some 41, none, .mov (.t 8)⟩,
    ⟨some 42, none, .mov (.t 0)⟩,
    ⟨some 43, none, .mov (.t 6)⟩,
    ⟨some 44, none, .call f_curvetref1_Shl [] [(.t 42), (.t 43)]⟩,
    ⟨some 45, none, .cpy 1 (.t 41) (.t 44)⟩] [6, 7, 8]) (
  .seq (
  .reg [
    ⟨some 46, none, .mov (.t 7)⟩,
    ⟨some 47, none, .len (.t 46)⟩,
    ⟨some 9, none, .mov (.t 47)⟩] [6, 7, 8, 9]) (
  .seq (
  .reg [
    ⟨some 48, none, .mov (.t 8)⟩,
    ⟨some 49, none, .len (.t 48)⟩,
    ⟨some 50, none, .mov (.t 9)⟩,
    ⟨some 51, none, .bin .sub (.t 49) (.t 50)⟩,
    ⟨some 52, none, .mks 1 4 [.u 32 0] (.t 51) (.t 51)⟩,
    ⟨some 10, none, .mov (.t 52)⟩] [6, 7, 8, 9, 10]) (
  .seq (
  .seq (
  .reg [
    ⟨some 53, none, .mov (.t 8)⟩,
    ⟨some 54, none, .len (.t 53)⟩,
    ⟨some 55, none, .mov (.t 9)⟩,
    ⟨some 56, none, .bin .sub (.t 54) (.t 55)⟩,
    ⟨some 57, none, .bin .sub (.t 56) (.c (.i 1))⟩,
    ⟨some 11, none, .mov (.t 57)⟩] [6, 7, 8, 9, 10, 11]) (
  .block 0 (
   .loop [6, 7, 8, 9, 10, 11] (
    .seq (
    .seq (
    .reg [
      ⟨some 58, none, .mov (.t 11)⟩,
      ⟨some 59, none, .bin .geq (.t 58) (.c (.i 0))⟩] [6, 7, 8, 9, 10, 11, 59]) (
    .cond (.t 59) (
     .reg [] [6, 7, 8, 9, 10, 11]) (
     .exit 0 [6, 8, 9, 10]))) (
    .seq (
    .block 1 (
     .reg [
       ⟨some 62, none, .mov (.t 10)⟩,
       ⟨some 63, none, .mov (.t 11)⟩,
       ⟨some 64, none, .mov (.t 8)⟩,
       ⟨some 65, none, .mov (.t 7)⟩,
       ⟨some 66, none, .mov (.t 11)⟩,
       ⟨some 67, none, .call f_curvetref1_step [] [(.t 64), (.t 65), (.t 66)]⟩,
       ⟨some 68, none, .cvu 32 (.t 67)⟩,
       ⟨some 69, none, .idxs 1 (.t 62) (.t 63)⟩,
       ⟨none, none, .st 1 (.t 69) (.t 68)⟩] [6, 7, 8, 9, 10, 11])) (
    .reg [
      ⟨some 60, none, .mov (.t 11)⟩,
      ⟨some 61, none, .bin .sub (.t 60) (.c (.i 1))⟩,
      ⟨some 11, none, .mov (.t 61)⟩] [6, 7, 8, 9, 10, 11])))))) (
  .seq (
  .reg [
    ⟨some 70, none, .mov (.t 10)⟩,
    ⟨some 71, none, .call f_curvetref1_trim [] [(.t 70)]⟩,
    ⟨some 72, none, .mov (.t 8)⟩,
    ⟨some 73, none, .mov (.t 9)⟩,
    ⟨some 74, none, .slv 1 (.t 72) none (some (.t 73))⟩,
    ⟨some 75, none, .call f_curvetref1_trim [] [(.t 74)]⟩,
    ⟨some 76, none, .mov (.t 6)⟩,
    ⟨some 77, none, .call f_curvetref1_Shr [] [(.t 75), (.t 76)]⟩,
    ⟨some 4, none, .mov (.t 71)⟩,
    ⟨some 5, none, .mov (.t 77)⟩] [4, 5]) (
  .ret)))))))))))
def m_curvetref1_Div : MFn := ⟨c_curvetref1_Div, [.tmp 4, .tmp 5], 0⟩

/-- curvet/curvetref1.Mod -/
def c_curvetref1_Mod : Stm :=
  .seq (
  .reg [
    ⟨some 4, none, .mov (.c (.vs 0 []))⟩] [0, 1]) (
  .seq (
  .reg [
    ⟨some 8, none, .mov (.t 0)⟩,
    ⟨some 9, none, .mov (.t 1)⟩,
    ⟨some 10, none, .call f_curvetref1_Div [] [(.t 8), (.t 9)]⟩,
    ⟨some 7, none, .mov (.t 10)⟩,
    ⟨some 11, none, .ext 0 (.t 7)⟩,
    ⟨some 12, none, .ext 1 (.t 7)⟩,
    ⟨some 5, none, .mov (.t 11)⟩,
    ⟨some 6, none, .mov (.t 12)⟩] [6]) (
  .seq (
  .reg [
    ⟨some 13, none, .mov (.t 6)⟩,
    ⟨some 4, none, .mov (.t 13)⟩] [4]) (
  .ret)))
def m_curvetref1_Mod : MFn := ⟨c_curvetref1_Mod, [.tmp 4], 0⟩

/-- curvet/curvetref1.Of -/
def c_curvetref1_Of : Stm :=
  .seq (
  .reg [
    ⟨some 1, none, .boxv (.t 0)⟩,
    ⟨some 2, none, .mov (.c (.vs 0 []))⟩] [1]) (
  .seq (
  .reg [
    ⟨some 5, none, .mks 1 4 [.u 32 0] (.c (.i 36)) (.c (.i 36))⟩,
    ⟨some 3, none, .mov (.t 5)⟩] [1, 3]) (
  .seq (
  .seq (
  .reg [
    ⟨some 4, none, .mov (.c (.i 0))⟩] [1, 3, 4]) (
  .block 0 (
   .loop [1, 3, 4] (
    .seq (
    .seq (
    .reg [
      ⟨some 6, none, .mov (.t 4)⟩,
      ⟨some 7, none, .bin .lss (.t 6) (.c (.i 18))⟩] [1, 3, 4, 7]) (
    .cond (.t 7) (
     .reg [] [1, 3, 4]) (
     .exit 0 [3]))) (
    .seq (
    .block 1 (
     .seq (
     .reg [
       ⟨some 10, none, .mov (.t 3)⟩,
       ⟨some 11, none, .mov (.t 4)⟩,
       ⟨some 12, none, .bin .mul (.c (.i 2)) (.t 11)⟩,
       ⟨some 13, none, .mov (.t 4)⟩,
       ⟨some 14, none, .off 0 (.t 1)⟩,
       ⟨some 15, none, .idx 18 1 (.t 14) (.t 13)⟩,
       ⟨some 16, none, .ld true none (.t 15)⟩,
       ⟨some 17, none, .bin .and (.t 16) (.c (.u 64 4294967295))⟩,
       ⟨some 18, none, .cvu 32 (.t 17)⟩,
       ⟨some 19, none, .idxs 1 (.t 10) (.t 12)⟩,
       ⟨none, none, .st 1 (.t 19) (.t 18)⟩] [1, 3, 4]) (
     .reg [
       ⟨some 20, none, .mov (.t 3)⟩,
       ⟨some 21, none, .mov (.t 4)⟩,
       ⟨some 22, none, .bin .mul (.c (.i 2)) (.t 21)⟩,
       ⟨some 23, none, .bin .add (.t 22) (.c (.i 1))⟩,
       ⟨some 24, none, .mov (.t 4)⟩,
       ⟨some 25, none, .off 0 (.t 1)⟩,
       ⟨some 26, none, .idx 18 1 (.t 25) (.t 24)⟩,
       ⟨some 27, none, .ld true none (.t 26)⟩,
       ⟨some 28, none, .bin .shr (.t 27) (.c (.u 64 32))⟩,
       ⟨some 29, none, .cvu 32 (.t 28)⟩,
       ⟨some 30, none, .idxs 1 (.t 20) (.t 23)⟩,
       ⟨none, none, .st 1 (.t 30) (.t 29)⟩] [1, 3, 4]))) (
    .reg [
      ⟨some 8, none, .mov (.t 4)⟩,
      ⟨some 9, none, .bin .add (.t 8) (.c (.i 1))⟩,
      ⟨some 4, none, .mov (.t 9)⟩] [1, 3, 4])))))) (
  .seq (
  .reg [
    ⟨some 31, none, .mov (.t 3)⟩,
    ⟨some 32, none, .call f_curvetref1_trim [] [(.t 31)]⟩,
    ⟨some 2, none, .mov (.t 32)⟩] [2]) (
  .ret))))
def m_curvetref1_Of : MFn := ⟨c_curvetref1_Of, [.tmp 2], 0⟩

/-- curvet/curvetref1.Mul -/
def c_curvetref1_Mul : Stm :=
  .seq (
  .reg [
    ⟨some 4, none, .mov (.c (.vs 0 []))⟩] [0, 1]) (
  .seq (
  .reg [
    ⟨some 10, none, .mov (.t 0)⟩,
    ⟨some 11, none, .len (.t 10)⟩,
    ⟨some 12, none, .mov (.t 1)⟩,
    ⟨some 13, none, .len (.t 12)⟩,
    ⟨some 14, none, .bin .add (.t 11) (.t 13)⟩,
    ⟨some 15, none, .mks 1 4 [.u 32 0] (.t 14) (.t 14)⟩,
    ⟨some 5, none, .mov (.t 15)⟩] [0, 1, 5]) (
  .seq (
  .seq (
  .reg [
    ⟨some 6, none, .mov (.c (.i 0))⟩] [0, 1, 5, 6]) (
  .block 0 (
   .loop [0, 1, 5, 6] (
    .seq (
    .seq (
    .reg [
      ⟨some 16, none, .mov (.t 6)⟩,
      ⟨some 17, none, .mov (.t 0)⟩,
      ⟨some 18, none, .len (.t 17)⟩,
      ⟨some 19, none, .bin .lss (.t 16) (.t 18)⟩] [0, 1, 5, 6, 19]) (
    .cond (.t 19) (
     .reg [] [0, 1, 5, 6]) (
     .exit 0 [5]))) (
    .seq (
    .block 1 (
     .seq (
     .reg [
       ⟨some 7, none, .mov (.c (.u 64 0))⟩] [0, 1, 5, 6, 7]) (
     .seq (
     .seq (
     .reg [
       ⟨some 8, none, .mov (.c (.i 0))⟩] [0, 1, 5, 6, 7, 8]) (
     .block 2 (
      .loop [0, 1, 5, 6, 7, 8] (
       .seq (
       .seq (
       .reg [
         ⟨some 22, none, .mov (.t 8)⟩,
         ⟨some 23, none, .mov (.t 1)⟩,
         ⟨some 24, none, .len (.t 23)⟩,
         ⟨some 25, none, .bin .lss (.t 22) (.t 24)⟩] [0, 1, 5, 6, 7, 8, 25]) (
       .cond (.t 25) (
        .reg [] [0, 1, 5, 6, 7, 8]) (
        .exit 2 [0, 1, 5, 6, 7]))) (
       .seq (
       .block 3 (
        .seq (
        .reg [
          ⟨some 28, none, .mov (.t 0)⟩,
          ⟨some 29, none, .mov (.t 6)⟩,
          ⟨some 30, none, .idxs 1 (.t 28) (.t 29)⟩,
          ⟨some 31, none, .ld false none (.t 30)⟩,
          ⟨some 32, none, .cvu 64 (.t 31)⟩,
          ⟨some 33, none, .mov (.t 1)⟩,
          ⟨some 34, none, .mov (.t 8)⟩,
          ⟨some 35, none, .idxs 1 (.t 33) (.t 34)⟩,
          ⟨some 36, none, .ld false none (.t 35)⟩,
          ⟨some 37, none, .cvu 64 (.t 36)⟩,
          ⟨some 38, none, .bin .mul (.t 32) (.t 37)⟩,
          ⟨some 39, none, .mov (.t 5)⟩,
          ⟨some 40, none, .mov (.t 6)⟩,
          ⟨some 41, none, .mov (.t 8)⟩,
          ⟨some 42, none, .bin .add (.t 40) (.t 41)⟩,
          ⟨some 43, none, .idxs 1 (.t 39) (.t 42)⟩,
          ⟨some 44, none, .ld false none (.t 43)⟩,
          ⟨some 45, none, .cvu 64 (.t 44)⟩,
          ⟨some 46, none, .bin .add (.t 38) (.t 45)⟩,
          ⟨some 47, none, .mov (.t 7)⟩,
          ⟨some 48, none, .bin .add (.t 46) (.t 47)⟩,
          ⟨some 9, none, .mov (.t 48)⟩] [0, 1, 5, 6, 8, 9]) (
        .seq (
        .reg [
          ⟨some 49, none, .mov (.t 5)⟩,
          ⟨some 50, none, .mov (.t 6)⟩,
          ⟨some 51, none, .mov (.t 8)⟩,
          ⟨some 52, none, .bin .add (.t 50) (.t 51)⟩,
          ⟨some 53, none, .mov (.t 9)⟩,
          ⟨some 54, none, .bin .and (.t 53) (.c (.u 64 4294967295))⟩,
          ⟨some 55, none, .cvu 32 (.t 54)⟩,
          ⟨some 56, none, .idxs 1 (.t 49) (.t 52)⟩,
          ⟨none, none, .st 1 (.t 56) (.t 55)⟩] [0, 1, 5, 6, 8, 9]) (
        .reg [
          ⟨some 57, none, .mov (.t 9)⟩,
          ⟨some 58, none, .bin .shr (.t 57) (.c (.u 64 32))⟩,
          ⟨some 7, none, .mov (.t 58)⟩] [0, 1, 5, 6, 7, 8])))) (
       .reg [
         ⟨some 26, none, .mov (.t 8)⟩,
         ⟨some 27, none, .bin .add (.t 26) (.c (.i 1))⟩,
         ⟨some 8, none, .mov (.t 27)⟩] [0, 1, 5, 6, 7, 8])))))) (
     .reg [
       ⟨some 59, none, .mov (.t 5)⟩,
       ⟨some 60, none, .mov (.t 6)⟩,
       ⟨some 61, none, .mov (.t 1)⟩,
       ⟨some 62, none, .len (.t 61)⟩,
       ⟨some 63, none, .bin .add (.t 60) (.t 62)⟩,
       ⟨some 64, none, .mov (.t 7)⟩,
       ⟨some 65, none, .cvu 32 (.t 64)⟩,
       ⟨some 66, none, .idxs 1 (.t 59) (.t 63)⟩,
       ⟨none, none, .st 1 (.t 66) (.t 65)⟩] [0, 1, 5, 6])))) (
    .reg [
      ⟨some 20, none, .mov (.t 6)⟩,
      ⟨some 21, none, .bin .add (.t 20) (.c (.i 1))⟩,
      ⟨some 6, none, .mov (.t 21)⟩] [0, 1, 5, 6])))))) (
  .seq (
  .reg [
    ⟨some 67, none, .mov (.t 5)⟩,
    ⟨some 68, none, .call f_curvetref1_trim [] [(.t 67)]⟩,
    ⟨some 4, none, .mov (.t 68)⟩] [4]) (
  .ret))))
def m_curvetref1_Mul : MFn := ⟨c_curvetref1_Mul, [.tmp 4], 0⟩

/-- curvet/divide.zero -/
def c_divide_zero : Stm :=
  .seq (
  .reg [
    ⟨some 2, none, .mov (.c (.b false))⟩] [0]) (
  .seq (
  .reg [
    ⟨some 3, none, .mov (.t 0)⟩,
    ⟨some 4, none, .nck (.t 3)⟩,
    ⟨some 5, none, .ld false (some 9) (.t 4)⟩,
    ⟨some 6, none, .build [.u 64 0, .u 64 0, .u 64 0, .u 64 0, .u 64 0, .u 64 0, .u 64 0, .u 64 0, .u 64 0] []⟩,
    ⟨some 7, none, .eqv (.agg [.u 64, .u 64, .u 64, .u 64, .u 64, .u 64, .u 64, .u 64, .u 64]) false (.t 5) (.t 6)⟩,
    ⟨some 2, none, .mov (.t 7)⟩] [2]) (
  .ret))
def m_divide_zero : MFn := ⟨c_divide_zero, [.tmp 2], 0⟩

/-- curvet/divide.By -/
def c_divide_By : Stm :=
  .seq (
  .reg [
    ⟨some 1, none, .boxv (.t 0)⟩,
    ⟨some 2, none, .box (.c (.agg [.nilp]))⟩] [1, 2]) (
  .seq (
  .reg [
    ⟨some 3, none, .call f_divide_of [] [(.t 1)]⟩,
    ⟨some 4, none, .build [.nilp] [(0, 1, (.t 3))]⟩,
    ⟨none, none, .stl 2 1 (.t 2) (.t 4)⟩] [2]) (
  .ret))
def m_divide_By : MFn := ⟨c_divide_By, [.cell 2 (some 1)], 0⟩

/-- (curvet/divide.Modulus).Pow -/
def c_divide_Modulus_Pow : Stm :=
  .seq (
  .reg [
    ⟨some 3, none, .boxv (.t 0)⟩,
    ⟨some 4, none, .boxv (.t 1)⟩,
    ⟨some 5, none, .boxv (.t 2)⟩,
    ⟨some 6, none, .box (.c (.agg [.u 64 0, .u 64 0, .u 64 0, .u 64 0, .u 64 0, .u 64 0, .u 64 0, .u 64 0, .u 64 0]))⟩] [3, 4, 5, 6]) (
  .seq (
  .reg [
    ⟨some 9, none, .ld true (some 1) (.t 3)⟩,
    ⟨some 10, none, .call f_nat_Small [] [(.c (.i 1))]⟩,
    ⟨some 11, none, .call f_nat_Small [] [(.c (.i 1))]⟩,
    ⟨some 12, none, .call f_divide_Modulus_Mul [] [(.t 9), (.t 10), (.t 11)]⟩,
    ⟨some 7, none, .box (.c (.agg [.u 64 0, .u 64 0, .u 64 0, .u 64 0, .u 64 0, .u 64 0, .u 64 0, .u 64 0, .u 64 0]))⟩,
    ⟨none, none, .stl 7 9 (.t 7) (.t 12)⟩] [3, 4, 5, 6, 7]) (
  .seq (
  .seq (
  .reg [
    ⟨some 13, none, .ld true (some 9) (.t 5)⟩,
    ⟨some 14, none, .call f_nat_Bits [] [(.t 13)]⟩,
    ⟨some 15, none, .bin .sub (.t 14) (.c (.i 1))⟩,
    ⟨some 8, none, .mov (.t 15)⟩] [3, 4, 5, 6, 7, 8]) (
  .block 0 (
   .loop [3, 4, 5, 6, 7, 8] (
    .seq (
    .seq (
    .reg [
      ⟨some 16, none, .mov (.t 8)⟩,
      ⟨some 17, none, .bin .geq (.t 16) (.c (.i 0))⟩] [3, 4, 5, 6, 7, 8, 17]) (
    .cond (.t 17) (
     .reg [] [3, 4, 5, 6, 7, 8]) (
     .exit 0 [6, 7]))) (
    .seq (
    .block 1 (
     .seq (
     .reg [
       ⟨some 20, none, .ld true (some 1) (.t 3)⟩,
       ⟨some 21, none, .ldl 7 (some 9) (.t 7)⟩,
       ⟨some 22, none, .ldl 7 (some 9) (.t 7)⟩,
       ⟨some 23, none, .call f_divide_Modulus_Mul [] [(.t 20), (.t 21), (.t 22)]⟩,
       ⟨none, none, .stl 7 9 (.t 7) (.t 23)⟩] [3, 4, 5, 6, 7, 8]) (
     .seq (
     .reg [
       ⟨some 24, none, .ld true (some 9) (.t 5)⟩,
       ⟨some 25, none, .mov (.t 8)⟩,
       ⟨some 26, none, .call f_nat_Bit [] [(.t 24), (.t 25)]⟩,
       ⟨some 27, none, .bin .eql (.t 26) (.c (.i 1))⟩] [3, 4, 5, 6, 7, 8, 27]) (
     .cond (.t 27) (
      .reg [
        ⟨some 28, none, .ld true (some 1) (.t 3)⟩,
        ⟨some 29, none, .ldl 7 (some 9) (.t 7)⟩,
        ⟨some 30, none, .ld true (some 9) (.t 4)⟩,
        ⟨some 31, none, .call f_divide_Modulus_Mul [] [(.t 28), (.t 29), (.t 30)]⟩,
        ⟨none, none, .stl 7 9 (.t 7) (.t 31)⟩] [3, 4, 5, 6, 7, 8]) (
      .reg [] [3, 4, 5, 6, 7, 8]))))) (
    .reg [
      ⟨some 18, none, .mov (.t 8)⟩,
      ⟨some 19, none, .bin .sub (.t 18) (.c (.i 1))⟩,
      ⟨some 8, none, .mov (.t 19)⟩] [3, 4, 5, 6, 7, 8])))))) (
  .seq (
  .reg [
    ⟨some 32, none, .ldl 7 (some 9) (.t 7)⟩,
    ⟨none, none, .stl 6 9 (.t 6) (.t 32)⟩] [6]) (
  .ret))))
def m_divide_Modulus_Pow : MFn := ⟨c_divide_Modulus_Pow, [.cell 6 (some 9)], 0⟩

/-- curvet/nat.Small -/
def c_nat_Small : Stm :=
  .seq (
  .reg [
    ⟨some 2, none, .box (.c (.agg [.u 64 0, .u 64 0, .u 64 0, .u 64 0, .u 64 0, .u 64 0, .u 64 0, .u 64 0, .u 64 0]))⟩] [0, 2]) (
  .seq (
  .reg [
    ⟨some 3, none, .mov (.t 0)⟩,
    ⟨some 4, none, .mx (.t 3) (.c (.i 0))⟩,
    ⟨some 5, none, .cvu 64 (.t 4)⟩,
    ⟨some 6, none, .build [.u 64 0, .u 64 0, .u 64 0, .u 64 0, .u 64 0, .u 64 0, .u 64 0, .u 64 0, .u 64 0] [(0, 1, (.t 5))]⟩,
    ⟨some 7, none, .build [.u 64 0, .u 64 0, .u 64 0, .u 64 0, .u 64 0, .u 64 0, .u 64 0, .u 64 0, .u 64 0] [(0, 9, (.t 6))]⟩,
    ⟨none, none, .stl 2 9 (.t 2) (.t 7)⟩] [2]) (
  .ret))
def m_nat_Small : MFn := ⟨c_nat_Small, [.cell 2 (some 9)], 0⟩

/-- (curvet/divide.Modulus).Mul -/
def c_divide_Modulus_Mul : Stm :=
  .seq (
  .reg [
    ⟨some 3, none, .boxv (.t 0)⟩,
    ⟨some 4, none, .boxv (.t 1)⟩,
    ⟨some 5, none, .boxv (.t 2)⟩,
    ⟨some 6, none, .box (.c (.agg [.u 64 0, .u 64 0, .u 64 0, .u 64 0, .u 64 0, .u 64 0, .u 64 0, .u 64 0, .u 64 0]))⟩] [3, 4, 5, 6]) (
  .seq (
  .reg [
    ⟨some 10, none, .ld true (some 9) (.t 4)⟩,
    ⟨some 11, none, .ld true (some 9) (.t 5)⟩,
    ⟨some 12, none, .call f_nat_Mul [] [(.t 10), (.t 11)]⟩,
    ⟨some 7, none, .box (.c (.agg [.u 64 0, .u 64 0, .u 64 0, .u 64 0, .u 64 0, .u 64 0, .u 64 0, .u 64 0, .u 64 0, .u 64 0, .u 64 0, .u 64 0, .u 64 0, .u 64 0, .u 64 0, .u 64 0, .u 64 0, .u 64 0]))⟩,
    ⟨none, none, .stl 7 18 (.t 7) (.t 12)⟩] [3, 6, 7]) (
  .seq (
  .reg [
    ⟨some 14, none, .off 0 (.t 3)⟩,
    ⟨some 15, none, .ld true none (.t 14)⟩,
    ⟨some 16, none, .off 0 (.t 7)⟩,
    ⟨some 17, none, .off 0 (.t 7)⟩,
    ⟨some 18, none, .sla true 18 1 (.t 17) none none⟩,
    ⟨some 19, none, .call f_divide_length [7] [(.t 18)]⟩,
    ⟨some 20, none, .sla true 18 1 (.t 16) none (some (.t 19))⟩,
    ⟨some 21, none, .call f_divide_divisor_divide [7] [(.t 15), (.t 20)]⟩,
    ⟨some 13, none, .mov (.t 21)⟩,
    ⟨some 22, none, .ext 0 (.t 13)⟩,
    ⟨some 23, none, .ext 1 (.t 13)⟩,
    ⟨some 8, none, .box (.c (.agg [.u 64 0, .u 64 0, .u 64 0, .u 64 0, .u 64 0, .u 64 0, .u 64 0, .u 64 0, .u 64 0, .u 64 0, .u 64 0, .u 64 0, .u 64 0, .u 64 0, .u 64 0, .u 64 0, .u 64 0, .u 64 0]))⟩,
    ⟨some 9, none, .box (.c (.agg [.u 64 0, .u 64 0, .u 64 0, .u 64 0, .u 64 0, .u 64 0, .u 64 0, .u 64 0, .u 64 0]))⟩,
    ⟨none, none, .stl 8 18 (.t 8) (.t 22)⟩,
    ⟨none, none, .stl 9 9 (.t 9) (.t 23)⟩] [6, 9]) (
  .seq (
  .reg [
    ⟨some 24, none, .ldl 9 (some 9) (.t 9)⟩,
    ⟨none, none, .stl 6 9 (.t 6) (.t 24)⟩] [6]) (
  .ret))))
def m_divide_Modulus_Mul : MFn := ⟨c_divide_Modulus_Mul, [.cell 6 (some 9)], 0⟩

/-- curvet/nat.Sub -/
def c_nat_Sub : Stm :=
  .seq (
  .reg [
    ⟨some 2, none, .box (.t 0)⟩,
    ⟨some 3, none, .boxv (.t 1)⟩,
    ⟨some 4, none, .box (.c (.agg [.u 64 0, .u 64 0, .u 64 0, .u 64 0, .u 64 0, .u 64 0, .u 64 0, .u 64 0, .u 64 0]))⟩,
    ⟨some 5, none, .mov (.c (.b false))⟩] [2, 3, 4]) (
  .seq (
  .reg [
    ⟨some 6, none, .mov (.c (.u 64 0))⟩] [2, 3, 4, 6]) (
  .seq (
  .seq (
  .reg [
    ⟨some 8, none, .mov (.c (.i 0))⟩] [2, 3, 4, 6, 8]) (
  .block 0 (
   .loop [2, 3, 4, 6, 8] (
    .seq (
    .reg [
      ⟨some 9, none, .bin .lss (.t 8) (.c (.i 9))⟩] [2, 3, 4, 6, 8, 9]) (
    .seq (
    .cond (.t 9) (
     .reg [] [2, 3, 4, 6, 8]) (
     .exit 0 [2, 4, 6])) (
    .seq (
    .block 1 (
     .seq (
     .reg [
       ⟨some 10, none, .mov (.t 8)⟩,
       ⟨some 7, none, .mov (.t 10)⟩] [2, 3, 4, 6, 7, 8]) (
     .reg [
       ⟨some 12, none, .mov (.t 7)⟩,
       ⟨some 13, none, .mov (.t 7)⟩,
       ⟨some 14, none, .off 0 (.t 2)⟩,
       ⟨some 15, none, .idx 9 1 (.t 14) (.t 13)⟩,
       ⟨some 16, none, .ldl 2 none (.t 15)⟩,
       ⟨some 17, none, .mov (.t 7)⟩,
       ⟨some 18, none, .off 0 (.t 3)⟩,
       ⟨some 19, none, .idx 9 1 (.t 18) (.t 17)⟩,
       ⟨some 20, none, .ld true none (.t 19)⟩,
       ⟨some 21, none, .mov (.t 6)⟩,
       ⟨some 22, none, .prim .sub64 [(.t 16), (.t 20), (.t 21)]⟩,
       ⟨some 11, none, .mov (.t 22)⟩,
       ⟨some 23, none, .ext 0 (.t 11)⟩,
       ⟨some 24, none, .ext 1 (.t 11)⟩,
       ⟨some 25, none, .off 0 (.t 2)⟩,
       ⟨some 26, none, .idx 9 1 (.t 25) (.t 12)⟩,
       ⟨none, none, .stl 2 1 (.t 26) (.t 23)⟩,
       ⟨some 6, none, .mov (.t 24)⟩] [2, 3, 4, 6, 8]))) (
    .reg [
      ⟨some 27, none, .bin .add (.t 8) (.c (.i 1))⟩,
      ⟨some 8, none, .mov (.t 27)⟩] [2, 3, 4, 6, 8]))))))) (
  .seq (
  .reg [
    ⟨some 28, none, .ldl 2 (some 9) (.t 2)⟩,
    ⟨some 29, none, .mov (.t 6)⟩,
    ⟨some 30, none, .bin .eql (.t 29) (.c (.u 64 1))⟩,
    ⟨none, none, .stl 4 9 (.t 4) (.t 28)⟩,
    ⟨some 5, none, .mov (.t 30)⟩] [4, 5]) (
  .ret))))
def m_nat_Sub : MFn := ⟨c_nat_Sub, [.cell 4 (some 9), .tmp 5], 0⟩

/-- curvet/curvetref1.trim -/
def c_curvetref1_trim : Stm :=
  .seq (
  .reg [
    ⟨some 2, none, .mov (.c (.vs 0 []))⟩] [0]) (
  .seq (
  .reg [
    ⟨some 4, none, .mov (.t 0)⟩,
    ⟨some 5, none, .len (.t 4)⟩,
    ⟨some 3, none, .mov (.t 5)⟩] [0, 3]) (
  .seq (
  .block 0 (
   .loop [0, 3] (
    .seq (
    .seq (
    .reg [
      ⟨some 6, none, .mov (.t 3)⟩,
      ⟨some 7, none, .bin .gtr (.t 6) (.c (.i 0))⟩,
      ⟨some 8, none, .mov (.t 7)⟩,
      ⟨some 9, (some (8, true)), .mov (.t 0)⟩,
      ⟨some 10, (some (8, true)), .mov (.t 3)⟩,
      ⟨some 11, (some (8, true)), .bin .sub (.t 10) (.c (.i 1))⟩,
      ⟨some 12, (some (8, true)), .idxs 1 (.t 9) (.t 11)⟩,
      ⟨some 13, (some (8, true)), .ld false none (.t 12)⟩,
      ⟨some 14, (some (8, true)), .bin .eql (.t 13) (.c (.u 32 0))⟩,
      ⟨some 15, none, .pick (.t 8) (.t 14) (.c (.b false))⟩] [0, 3, 15]) (
    .cond (.t 15) (
     .reg [] [0, 3]) (
     .exit 0 [0, 3]))) (
    .block 1 (
     .reg [
       ⟨some 16, none, .mov (.t 3)⟩,
       ⟨some 17, none, .bin .sub (.t 16) (.c (.i 1))⟩,
       ⟨some 3, none, .mov (.t 17)⟩] [0, 3]))))) (
  .seq (
  .reg [
    ⟨some 18, none, .mov (.t 0)⟩,
    ⟨some 19, none, .mov (.t 3)⟩,
    ⟨some 20, none, .slv 1 (.t 18) none (some (.t 19))⟩,
    ⟨some 2, none, .mov (.t 20)⟩] [2]) (
  .ret))))
def m_curvetref1_trim : MFn := ⟨c_curvetref1_trim, [.tmp 2], 0⟩

/-- curvet/curvetref1.Cmp -/
def c_curvetref1_Cmp : Stm :=
  .seq (
  .reg [
    ⟨some 4, none, .mov (.c (.i 0))⟩] [0, 1]) (
  .seq (
  .seq (
  .reg [
    ⟨some 6, none, .mov (.t 0)⟩,
    ⟨some 7, none, .len (.t 6)⟩,
    ⟨some 8, none, .mov (.t 1)⟩,
    ⟨some 9, none, .len (.t 8)⟩,
    ⟨some 10, none, .bin .neq (.t 7) (.t 9)⟩] [0, 1, 10]) (
  .cond (.t 10) (
   .seq (
   .seq (
   .reg [
     ⟨some 11, none, .mov (.t 0)⟩,
     ⟨some 12, none, .len (.t 11)⟩,
     ⟨some 13, none, .mov (.t 1)⟩,
     ⟨some 14, none, .len (.t 13)⟩,
     ⟨some 15, none, .bin .lss (.t 12) (.t 14)⟩] [15]) (
   .cond (.t 15) (
    .seq (
    .reg [
      ⟨some 4, none, .mov (.c (.i (-1)))⟩] [4]) (
    .ret)) (
    .reg [] []))) (
   .seq (
   .reg [
     ⟨some 4, none, .mov (.c (.i 1))⟩] [4]) (
   .ret))) (
   .reg [] [0, 1]))) (
  .seq (
  .seq (
  .reg [
    ⟨some 16, none, .mov (.t 0)⟩,
    ⟨some 17, none, .len (.t 16)⟩,
    ⟨some 18, none, .bin .sub (.t 17) (.c (.i 1))⟩,
    ⟨some 5, none, .mov (.t 18)⟩] [0, 1, 5]) (
  .block 0 (
   .loop [0, 1, 5] (
    .seq (
    .seq (
    .reg [
      ⟨some 19, none, .mov (.t 5)⟩,
      ⟨some 20, none, .bin .geq (.t 19) (.c (.i 0))⟩] [0, 1, 5, 20]) (
    .cond (.t 20) (
     .reg [] [0, 1, 5]) (
     .exit 0 []))) (
    .seq (
    .block 1 (
     .seq (
     .reg [
       ⟨some 23, none, .mov (.t 0)⟩,
       ⟨some 24, none, .mov (.t 5)⟩,
       ⟨some 25, none, .idxs 1 (.t 23) (.t 24)⟩,
       ⟨some 26, none, .ld false none (.t 25)⟩,
       ⟨some 27, none, .mov (.t 1)⟩,
       ⟨some 28, none, .mov (.t 5)⟩,
       ⟨some 29, none, .idxs 1 (.t 27) (.t 28)⟩,
       ⟨some 30, none, .ld false none (.t 29)⟩,
       ⟨some 31, none, .bin .neq (.t 26) (.t 30)⟩] [0, 1, 5, 31]) (
     .cond (.t 31) (
      .seq (
      .seq (
      .reg [
        ⟨some 32, none, .mov (.t 0)⟩,
        ⟨some 33, none, .mov (.t 5)⟩,
        ⟨some 34, none, .idxs 1 (.t 32) (.t 33)⟩,
        ⟨some 35, none, .ld false none (.t 34)⟩,
        ⟨some 36, none, .mov (.t 1)⟩,
        ⟨some 37, none, .mov (.t 5)⟩,
        ⟨some 38, none, .idxs 1 (.t 36) (.t 37)⟩,
        ⟨some 39, none, .ld false none (.t 38)⟩,
        ⟨some 40, none, .bin .lss (.t 35) (.t 39)⟩] [40]) (
      .cond (.t 40) (
       .seq (
       .reg [
         ⟨some 4, none, .mov (.c (.i (-1)))⟩] [4]) (
       .ret)) (
       .reg [] []))) (
      .seq (
      .reg [
        ⟨some 4, none, .mov (.c (.i 1))⟩] [4]) (
      .ret))) (
      .reg [] [0, 1, 5])))) (
    .reg [
      ⟨some 21, none, .mov (.t 5)⟩,
      ⟨some 22, none, .bin .sub (.t 21) (.c (.i 1))⟩,
      ⟨some 5, none, .mov (.t 22)⟩] [0, 1, 5])))))) (
  .seq (
  .reg [
    ⟨some 4, none, .mov (.c (.i 0))⟩] [4]) (
  .ret))))
def m_curvetref1_Cmp : MFn := ⟨c_curvetref1_Cmp, [.tmp 4], 0⟩

/-- curvet/curvetref1.SubMod -/
def c_curvetref1_SubMod : Stm :=
  .seq (
  .reg [
    ⟨some 6, none, .mov (.c (.vs 0 []))⟩] [0, 1, 2]) (
  .seq (
  .seq (
  .reg [
    ⟨some 7, none, .mov (.t 0)⟩,
    ⟨some 8, none, .mov (.t 1)⟩,
    ⟨some 9, none, .call f_curvetref1_Cmp [] [(.t 7), (.t 8)]⟩,
    ⟨some 10, none, .bin .geq (.t 9) (.c (.i 0))⟩] [0, 1, 2, 10]) (
  .cond (.t 10) (
   .seq (
   .reg [
     ⟨some 11, none, .mov (.t 0)⟩,
     ⟨some 12, none, .mov (.t 1)⟩,
     ⟨some 13, none, .call f_curvetref1_Sub [] [(.t 11), (.t 12)]⟩,
     ⟨some 6, none, .mov (.t 13)⟩] [6]) (
   .ret)) (
   .reg [] [0, 1, 2]))) (
  .seq (
  .reg [
    ⟨some 14, none, .mov (.t 0)⟩,
    ⟨some 15, none, .mov (.t 2)⟩,
    ⟨some 16, none, .call f_curvetref1_Add [] [(.t 14), (.t 15)]⟩,
    ⟨some 17, none, .mov (.t 1)⟩,
    ⟨some 18, none, .call f_curvetref1_Sub [] [(.t 16), (.t 17)]⟩,
    ⟨some 6, none, .mov (.t 18)⟩] [6]) (
  .ret)))
def m_curvetref1_SubMod : MFn := ⟨c_curvetref1_SubMod, [.tmp 6], 0⟩

/-- curvet/curvetref1.MulMod -/
def c_curvetref1_MulMod : Stm :=
  .seq (
  .reg [
    ⟨some 6, none, .mov (.c (.vs 0 []))⟩] [0, 1, 2]) (
  .seq (
  .reg [
    ⟨some 7, none, .mov (.t 0)⟩,
    ⟨some 8, none, .mov (.t 1)⟩,
    ⟨some 9, none, .call f_curvetref1_Mul [] [(.t 7), (.t 8)]⟩,
    ⟨some 10, none, .mov (.t 2)⟩,
    ⟨some 11, none, .call f_curvetref1_Mod [] [(.t 9), (.t 10)]⟩,
    ⟨some 6, none, .mov (.t 11)⟩] [6]) (
  .ret))
def m_curvetref1_MulMod : MFn := ⟨c_curvetref1_MulMod, [.tmp 6], 0⟩

/-- curvet/curvetref1.digit -/
def c_curvetref1_digit : Stm :=
  .seq (
  .reg [
    ⟨some 4, none, .mov (.c (.u 64 0))⟩] [0, 1]) (
  .seq (
  .seq (
  .reg [
    ⟨some 5, none, .mov (.t 1)⟩,
    ⟨some 6, none, .mov (.t 0)⟩,
    ⟨some 7, none, .len (.t 6)⟩,
    ⟨some 8, none, .bin .lss (.t 5) (.t 7)⟩] [0, 1, 8]) (
  .cond (.t 8) (
   .seq (
   .reg [
     ⟨some 9, none, .mov (.t 0)⟩,
     ⟨some 10, none, .mov (.t 1)⟩,
     ⟨some 11, none, .idxs 1 (.t 9) (.t 10)⟩,
     ⟨some 12, none, .ld false none (.t 11)⟩,
     ⟨some 13, none, .cvu 64 (.t 12)⟩,
     ⟨some 4, none, .mov (.t 13)⟩] [4]) (
   .ret)) (
   .reg [] []))) (
  .seq (
  .reg [
    ⟨some 4, none, .mov (.c (.u 64 0))⟩] [4]) (
  .ret)))
def m_curvetref1_digit : MFn := ⟨c_curvetref1_digit, [.tmp 4], 0⟩

/-- curvet/curvetref1.Bits -/
def c_curvetref1_Bits : Stm :=
  .seq (
  .reg [
    ⟨some 2, none, .mov (.c (.i 0))⟩] [0]) (
  .seq (
  .seq (
  .reg [
    ⟨some 5, none, .mov (.t 0)⟩,
    ⟨some 6, none, .len (.t 5)⟩,
    ⟨some 7, none, .bin .eql (.t 6) (.c (.i 0))⟩] [0, 7]) (
  .cond (.t 7) (
   .seq (
   .reg [
     ⟨some 2, none, .mov (.c (.i 0))⟩] [2]) (
   .ret)) (
   .reg [] [0]))) (
  .seq (
  .reg [
    ⟨some 8, none, .mov (.t 0)⟩,
    ⟨some 9, none, .len (.t 8)⟩,
    ⟨some 10, none, .bin .sub (.t 9) (.c (.i 1))⟩,
    ⟨some 11, none, .bin .mul (.c (.i 32)) (.t 10)⟩,
    ⟨some 3, none, .mov (.t 11)⟩] [0, 3]) (
  .seq (
  .seq (
  .reg [
    ⟨some 12, none, .mov (.t 0)⟩,
    ⟨some 13, none, .mov (.t 0)⟩,
    ⟨some 14, none, .len (.t 13)⟩,
    ⟨some 15, none, .bin .sub (.t 14) (.c (.i 1))⟩,
    ⟨some 16, none, .idxs 1 (.t 12) (.t 15)⟩,
    ⟨some 17, none, .ld false none (.t 16)⟩,
    ⟨some 4, none, .mov (.t 17)⟩] [3, 4]) (
  .block 0 (
   .loop [3, 4] (
    .seq (
    .seq (
    .reg [
      ⟨some 18, none, .mov (.t 4)⟩,
      ⟨some 19, none, .bin .gtr (.t 18) (.c (.u 32 0))⟩] [3, 4, 19]) (
    .cond (.t 19) (
     .reg [] [3, 4]) (
     .exit 0 [3]))) (
    .seq (
    .block 1 (
     .reg [
       ⟨some 22, none, .mov (.t 3)⟩,
       ⟨some 23, none, .bin .add (.t 22) (.c (.i 1))⟩,
       ⟨some 3, none, .mov (.t 23)⟩] [3, 4])) (
    .reg [
      ⟨some 20, none, .mov (.t 4)⟩,
      ⟨some 21, none, .bin .shr (.t 20) (.c (.u 64 1))⟩,
      ⟨some 4, none, .mov (.t 21)⟩] [3, 4])))))) (
  .seq (
  .reg [
    ⟨some 24, none, .mov (.t 3)⟩,
    ⟨some 2, none, .mov (.t 24)⟩] [2]) (
  .ret)))))
def m_curvetref1_Bits : MFn := ⟨c_curvetref1_Bits, [.tmp 2], 0⟩

/-- curvet/curvetref1.Bit -/
def c_curvetref1_Bit : Stm :=
  .seq (
  .reg [
    ⟨some 4, none, .mov (.c (.i 0))⟩] [0, 1]) (
  .seq (
  .reg [
    ⟨some 5, none, .mov (.t 0)⟩,
    ⟨some 6, none, .mov (.t 1)⟩,
    ⟨some 7, none, .bin .quo (.t 6) (.c (.i 32))⟩,
    ⟨some 8, none, .call f_curvetref1_digit [] [(.t 5), (.t 7)]⟩,
    ⟨some 9, none, .mov (.t 1)⟩,
    ⟨some 10, none, .bin .rem (.t 9) (.c (.i 32))⟩,
    ⟨some 11, none, .bin .shr (.t 8) (.t 10)⟩,
    ⟨some 12, none, .bin .and (.t 11) (.c (.u 64 1))⟩,
    ⟨some 13, none, .cvi (.t 12)⟩,
    ⟨some 4, none, .mov (.t 13)⟩] [4]) (
  .ret))
def m_curvetref1_Bit : MFn := ⟨c_curvetref1_Bit, [.tmp 4], 0⟩

/-- curvet/divide.of -/
def c_divide_of : Stm :=
  .seq (
  .reg [
    ⟨some 2, none, .mov (.c (.nilp))⟩] [0]) (
  .seq (
  .reg [
    ⟨some 5, none, .mov (.t 0)⟩,
    ⟨some 6, none, .nck (.t 5)⟩,
    ⟨some 7, none, .off 0 (.t 6)⟩,
    ⟨some 8, none, .ld true (some 9) (.t 7)⟩,
    ⟨some 9, none, .mov (.t 0)⟩,
    ⟨some 10, none, .nck (.t 9)⟩,
    ⟨some 11, none, .off 0 (.t 10)⟩,
    ⟨some 12, none, .sla false 9 1 (.t 11) none none⟩,
    ⟨some 13, none, .call f_divide_length [] [(.t 12)]⟩,
    ⟨some 14, none, .build [.u 64 0, .u 64 0, .u 64 0, .u 64 0, .u 64 0, .u 64 0, .u 64 0, .u 64 0, .u 64 0, .i 0, .i 0] [(0, 9, (.t 8)), (9, 1, (.t 13))]⟩,
    ⟨some 15, none, .boxh (.t 14)⟩,
    ⟨some 3, none, .mov (.t 15)⟩] [3]) (
  .seq (
  .reg [
    ⟨some 16, none, .mov (.t 3)⟩,
    ⟨some 17, none, .mov (.t 3)⟩,
    ⟨some 18, none, .mov (.t 3)⟩,
    ⟨some 19, none, .nck (.t 18)⟩,
    ⟨some 20, none, .off 9 (.t 19)⟩,
    ⟨some 21, none, .ld false none (.t 20)⟩,
    ⟨some 22, none, .bin .sub (.t 21) (.c (.i 1))⟩,
    ⟨some 23, none, .nck (.t 17)⟩,
    ⟨some 24, none, .off 0 (.t 23)⟩,
    ⟨some 25, none, .idx 9 1 (.t 24) (.t 22)⟩,
    ⟨some 26, none, .ld false none (.t 25)⟩,
    ⟨some 27, none, .call f_bits_LeadingZeros64 [] [(.t 26)]⟩,
    ⟨some 28, none, .nck (.t 16)⟩,
    ⟨some 29, none, .off 10 (.t 28)⟩,
    ⟨none, none, .st 1 (.t 29) (.t 27)⟩] [3]) (
  .seq (
  .seq (
  .reg [
    ⟨some 30, none, .mov (.t 3)⟩,
    ⟨some 31, none, .nck (.t 30)⟩,
    ⟨some 32, none, .off 9 (.t 31)⟩,
    ⟨some 33, none, .ld false none (.t 32)⟩,
    ⟨some 34, none, .bin .sub (.t 33) (.c (.i 1))⟩,
    ⟨some 4, none, .mov (.t 34)⟩] [3, 4]) (
  .block 0 (
   .loop [3, 4] (
    .seq (
    .seq (
    .reg [
      ⟨some 35, none, .mov (.t 4)⟩,
      ⟨some 36, none, .bin .geq (.t 35) (.c (.i 0))⟩] [3, 4, 36]) (
    .cond (.t 36) (
     .reg [] [3, 4]) (
     .exit 0 [3]))) (
    .seq (
    .block 1 (
     .seq (
     .reg [
       ⟨some 39, none, .mov (.t 3)⟩,
       ⟨some 40, none, .mov (.t 4)⟩,
       ⟨some 41, none, .nck (.t 39)⟩,
       ⟨some 42, none, .off 0 (.t 41)⟩,
       ⟨some 43, none, .idx 9 1 (.t 42) (.t 40)⟩,
       ⟨some 44, none, .ld false none (.t 43)⟩,
       ⟨some 45, none, .mov (.t 3)⟩,
       ⟨some 46, none, .nck (.t 45)⟩,
       ⟨some 47, none, .off 10 (.t 46)⟩,
       ⟨some 48, none, .ld false none (.t 47)⟩,
       ⟨some 49, none, .bin .shl (.t 44) (.t 48)⟩,
       ⟨some 50, none, .nck (.t 39)⟩,
       ⟨some 51, none, .off 0 (.t 50)⟩,
       ⟨some 52, none, .idx 9 1 (.t 51) (.t 40)⟩,
       ⟨none, none, .st 1 (.t 52) (.t 49)⟩] [3, 4]) (
     .seq (
     .reg [
       ⟨some 53, none, .mov (.t 4)⟩,
       ⟨some 54, none, .bin .gtr (.t 53) (.c (.i 0))⟩,
       ⟨some 55, none, .mov (.t 54)⟩,
       ⟨some 56, (some (55, true)), .mov (.t 3)⟩,
       ⟨some 57, (some (55, true)), .nck (.t 56)⟩,
       ⟨some 58, (some (55, true)), .off 10 (.t 57)⟩,
       ⟨some 59, (some (55, true)), .ld false none (.t 58)⟩,
       ⟨some 60, (some (55, true)), .bin .gtr (.t 59) (.c (.i 0))⟩,
       ⟨some 61, none, .pick (.t 55) (.t 60) (.c (.b false))⟩] [3, 4, 61]) (
     .cond (.t 61) (
      .reg [
        ⟨some 62, none, .mov (.t 3)⟩,
        ⟨some 63, none, .mov (.t 4)⟩,
        ⟨some 64, none, .nck (.t 62)⟩,
        ⟨some 65, none, .off 0 (.t 64)⟩,
        ⟨some 66, none, .idx 9 1 (.t 65) (.t 63)⟩,
        ⟨some 67, none, .ld false none (.t 66)⟩,
        ⟨some 68, none, .mov (.t 3)⟩,
        ⟨some 69, none, .mov (.t 4)⟩,
        ⟨some 70, none, .bin .sub (.t 69) (.c (.i 1))⟩,
        ⟨some 71, none, .nck (.t 68)⟩,
        ⟨some 72, none, .off 0 (.t 71)⟩,
        ⟨some 73, none, .idx 9 1 (.t 72) (.t 70)⟩,
        ⟨some 74, none, .ld false none (.t 73)⟩,
        ⟨some 75, none, .mov (.t 3)⟩,
        ⟨some 76, none, .nck (.t 75)⟩,
        ⟨some 77, none, .off 10 (.t 76)⟩,
        ⟨some 78, none, .ld false none (.t 77)⟩,
        ⟨some 79, none, .bin .sub (.c (.i 64)) (.t 78)⟩,
        ⟨some 80, none, .bin .shr (.t 74) (.t 79)⟩,
        ⟨some 81, none, .bin .or (.t 67) (.t 80)⟩,
        ⟨some 82, none, .nck (.t 62)⟩,
        ⟨some 83, none, .off 0 (.t 82)⟩,
        ⟨some 84, none, .idx 9 1 (.t 83) (.t 63)⟩,
        ⟨none, none, .st 1 (.t 84) (.t 81)⟩] [3, 4]) (
      .reg [] [3, 4]))))) (
    .reg [
      ⟨some 37, none, .mov (.t 4)⟩,
      ⟨some 38, none, .bin .sub (.t 37) (.c (.i 1))⟩,
      ⟨some 4, none, .mov (.t 38)⟩] [3, 4])))))) (
  .seq (
  .reg [
    ⟨some 85, none, .mov (.t 3)⟩,
    ⟨some 2, none, .mov (.t 85)⟩] [2]) (
  .ret)))))
def m_divide_of : MFn := ⟨c_divide_of, [.tmp 2], 0⟩

/-- (*curvet/divide.divisor).divide -/
def c_divide_divisor_divide : Stm :=
  .seq (
  .reg [
    ⟨some 4, none, .box (.c (.agg [.u 64 0, .u 64 0, .u 64 0, .u 64 0, .u 64 0, .u 64 0, .u 64 0, .u 64 0, .u 64 0, .u 64 0, .u 64 0, .u 64 0, .u 64 0, .u 64 0, .u 64 0, .u 64 0, .u 64 0, .u 64 0]))⟩,
    ⟨some 5, none, .box (.c (.agg [.u 64 0, .u 64 0, .u 64 0, .u 64 0, .u 64 0, .u 64 0, .u 64 0, .u 64 0, .u 64 0]))⟩] [0, 1, 4, 5]) (
  .seq (
  .reg [
    ⟨some 6, none, .boxh (.c (.agg [.u 64 0, .u 64 0, .u 64 0, .u 64 0, .u 64 0, .u 64 0, .u 64 0, .u 64 0, .u 64 0, .u 64 0, .u 64 0, .u 64 0, .u 64 0, .u 64 0, .u 64 0, .u 64 0, .u 64 0, .u 64 0, .u 64 0]))⟩] [0, 1, 4, 5, 6]) (
  .seq (
  .reg [
    ⟨some 7, none, .box (.c (.agg [.u 64 0, .u 64 0, .u 64 0, .u 64 0, .u 64 0, .u 64 0, .u 64 0, .u 64 0, .u 64 0, .u 64 0, .u 64 0, .u 64 0, .u 64 0, .u 64 0, .u 64 0, .u 64 0, .u 64 0, .u 64 0]))⟩] [0, 1, 4, 5, 6, 7]) (
  .seq (
  .seq (
  .reg [
    ⟨some 15, none, .mov (.t 1)⟩,
    ⟨some 16, none, .len (.t 15)⟩,
    ⟨some 17, none, .mov (.c (.i 0))⟩] [0, 1, 4, 5, 6, 7, 15, 16, 17]) (
  .block 0 (
   .loop [0, 1, 4, 5, 6, 7, 15, 16, 17] (
    .seq (
    .reg [
      ⟨some 18, none, .bin .lss (.t 17) (.t 16)⟩] [0, 1, 4, 5, 6, 7, 15, 16, 17, 18]) (
    .seq (
    .cond (.t 18) (
     .reg [] [0, 1, 4, 5, 6, 7, 15, 16, 17]) (
     .exit 0 [0, 1, 4, 5, 6, 7])) (
    .seq (
    .block 1 (
     .seq (
     .reg [
       ⟨some 19, none, .mov (.t 17)⟩,
       ⟨some 20, none, .idxs 1 (.t 15) (.t 17)⟩,
       ⟨some 21, none, .ld false none (.t 20)⟩,
       ⟨some 8, none, .mov (.t 19)⟩,
       ⟨some 9, none, .mov (.t 21)⟩] [0, 1, 4, 5, 6, 7, 8, 9, 15, 16, 17]) (
     .seq (
     .reg [
       ⟨some 22, none, .mov (.t 8)⟩,
       ⟨some 23, none, .idx 19 1 (.t 6) (.t 22)⟩,
       ⟨some 24, none, .ld false none (.t 23)⟩,
       ⟨some 25, none, .mov (.t 9)⟩,
       ⟨some 26, none, .mov (.t 0)⟩,
       ⟨some 27, none, .nck (.t 26)⟩,
       ⟨some 28, none, .off 10 (.t 27)⟩,
       ⟨some 29, none, .ld false none (.t 28)⟩,
       ⟨some 30, none, .bin .shl (.t 25) (.t 29)⟩,
       ⟨some 31, none, .bin .or (.t 24) (.t 30)⟩,
       ⟨some 32, none, .idx 19 1 (.t 6) (.t 22)⟩,
       ⟨none, none, .st 1 (.t 32) (.t 31)⟩] [0, 1, 4, 5, 6, 7, 8, 9, 15, 16, 17]) (
     .seq (
     .reg [
       ⟨some 33, none, .mov (.t 0)⟩,
       ⟨some 34, none, .nck (.t 33)⟩,
       ⟨some 35, none, .off 10 (.t 34)⟩,
       ⟨some 36, none, .ld false none (.t 35)⟩,
       ⟨some 37, none, .bin .gtr (.t 36) (.c (.i 0))⟩] [0, 1, 4, 5, 6, 7, 8, 9, 15, 16, 17, 37]) (
     .cond (.t 37) (
      .reg [
        ⟨some 38, none, .mov (.t 8)⟩,
        ⟨some 39, none, .bin .add (.t 38) (.c (.i 1))⟩,
        ⟨some 40, none, .mov (.t 9)⟩,
        ⟨some 41, none, .mov (.t 0)⟩,
        ⟨some 42, none, .nck (.t 41)⟩,
        ⟨some 43, none, .off 10 (.t 42)⟩,
        ⟨some 44, none, .ld false none (.t 43)⟩,
        ⟨some 45, none, .bin .sub (.c (.i 64)) (.t 44)⟩,
        ⟨some 46, none, .bin .shr (.t 40) (.t 45)⟩,
        ⟨some 47, none, .idx 19 1 (.t 6) (.t 39)⟩,
        ⟨none, none, .st 1 (.t 47) (.t 46)⟩] [0, 1, 4, 5, 6, 7, 15, 16, 17]) (
      .reg [] [0, 1, 4, 5, 6, 7, 15, 16, 17])))))) (
    .reg [
      ⟨some 48, none, .bin .add (.t 17) (.c (.i 1))⟩,
      ⟨some 17, none, .mov (.t 48)⟩] [0, 1, 4, 5, 6, 7, 15, 16, 17]))))))) (
  .seq (
  .seq (
  .reg [
    ⟨some 49, none, .mov (.t 1)⟩,
    ⟨some 50, none, .len (.t 49)⟩,
    ⟨some 51, none, .mov (.t 0)⟩,
    ⟨some 52, none, .nck (.t 51)⟩,
    ⟨some 53, none, .off 9 (.t 52)⟩,
    ⟨some 54, none, .ld false none (.t 53)⟩,
    ⟨some 55, none, .bin .sub (.t 50) (.t 54)⟩,
    ⟨some 10, none, .mov (.t 55)⟩] [0, 4, 5, 6, 7, 10]) (
  .block 2 (
   .loop [0, 4, 5, 6, 7, 10] (
    .seq (
    .seq (
    .reg [
      ⟨some 56, none, .mov (.t 10)⟩,
      ⟨some 57, none, .bin .geq (.t 56) (.c (.i 0))⟩] [0, 4, 5, 6, 7, 10, 57]) (
    .cond (.t 57) (
     .reg [] [0, 4, 5, 6, 7, 10]) (
     .exit 2 [0, 4, 5, 6, 7]))) (
    .seq (
    .block 3 (
     .seq (
     .reg [
       ⟨some 60, none, .mov (.t 0)⟩,
       ⟨some 61, none, .sla false 19 1 (.t 6) none none⟩,
       ⟨some 62, none, .mov (.t 10)⟩,
       ⟨some 63, none, .call f_divide_divisor_guess [] [(.t 60), (.t 61), (.t 62)]⟩,
       ⟨some 11, none, .mov (.t 63)⟩] [0, 4, 5, 6, 7, 10, 11]) (
     .seq (
     .seq (
     .reg [
       ⟨some 64, none, .mov (.t 0)⟩,
       ⟨some 65, none, .sla false 19 1 (.t 6) none none⟩,
       ⟨some 66, none, .mov (.t 10)⟩,
       ⟨some 67, none, .mov (.t 11)⟩,
       ⟨some 68, none, .call f_divide_divisor_take [] [(.t 64), (.t 65), (.t 66), (.t 67)]⟩,
       ⟨some 12, none, .mov (.t 68)⟩] [0, 4, 5, 6, 7, 10, 11, 12]) (
     .block 4 (
      .loop [0, 4, 5, 6, 7, 10, 11, 12] (
       .seq (
       .seq (
       .reg [
         ⟨some 69, none, .mov (.t 12)⟩] [0, 4, 5, 6, 7, 10, 11, 69]) (
       .cond (.t 69) (
        .reg [] [0, 4, 5, 6, 7, 10, 11]) (
        .exit 4 [0, 4, 5, 6, 7, 10, 11]))) (
       .seq (
       .block 5 (
        .reg [
          ⟨some 75, none, .mov (.t 11)⟩,
          ⟨some 76, none, .bin .sub (.t 75) (.c (.u 64 1))⟩,
          ⟨some 11, none, .mov (.t 76)⟩] [0, 4, 5, 6, 7, 10, 11])) (
       .reg [
         ⟨some 70, none, .mov (.t 0)⟩,
         ⟨some 71, none, .sla false 19 1 (.t 6) none none⟩,
         ⟨some 72, none, .mov (.t 10)⟩,
         ⟨some 73, none, .call f_divide_divisor_back [] [(.t 70), (.t 71), (.t 72)]⟩,
         ⟨some 74, none, .un .not (.t 73)⟩,
         ⟨some 12, none, .mov (.t 74)⟩] [0, 4, 5, 6, 7, 10, 11, 12])))))) (
     .reg [
       ⟨some 77, none, .mov (.t 10)⟩,
       ⟨some 78, none, .mov (.t 11)⟩,
       ⟨some 79, none, .off 0 (.t 7)⟩,
       ⟨some 80, none, .idx 18 1 (.t 79) (.t 77)⟩,
       ⟨none, none, .stl 7 1 (.t 80) (.t 78)⟩] [0, 4, 5, 6, 7, 10])))) (
    .reg [
      ⟨some 58, none, .mov (.t 10)⟩,
      ⟨some 59, none, .bin .sub (.t 58) (.c (.i 1))⟩,
      ⟨some 10, none, .mov (.t 59)⟩] [0, 4, 5, 6, 7, 10])))))) (
  .seq (
  .reg [
    ⟨some 13, none, .box (.c (.agg [.u 64 0, .u 64 0, .u 64 0, .u 64 0, .u 64 0, .u 64 0, .u 64 0, .u 64 0, .u 64 0]))⟩] [0, 4, 5, 6, 7, 13]) (
  .seq (
  .seq (
  .reg [
    ⟨some 81, none, .mov (.t 0)⟩,
    ⟨some 82, none, .nck (.t 81)⟩,
    ⟨some 83, none, .off 9 (.t 82)⟩,
    ⟨some 84, none, .ld false none (.t 83)⟩,
    ⟨some 85, none, .mov (.c (.i 0))⟩] [0, 4, 5, 6, 7, 13, 84, 85]) (
  .block 6 (
   .loop [0, 4, 5, 6, 7, 13, 84, 85] (
    .seq (
    .reg [
      ⟨some 86, none, .bin .lss (.t 85) (.t 84)⟩] [0, 4, 5, 6, 7, 13, 84, 85, 86]) (
    .seq (
    .cond (.t 86) (
     .reg [] [0, 4, 5, 6, 7, 13, 84, 85]) (
     .exit 6 [4, 5, 7, 13])) (
    .seq (
    .block 7 (
     .seq (
     .reg [
       ⟨some 87, none, .mov (.t 85)⟩,
       ⟨some 14, none, .mov (.t 87)⟩] [0, 4, 5, 6, 7, 13, 14, 84, 85]) (
     .seq (
     .reg [
       ⟨some 88, none, .mov (.t 14)⟩,
       ⟨some 89, none, .mov (.t 14)⟩,
       ⟨some 90, none, .idx 19 1 (.t 6) (.t 89)⟩,
       ⟨some 91, none, .ld false none (.t 90)⟩,
       ⟨some 92, none, .mov (.t 0)⟩,
       ⟨some 93, none, .nck (.t 92)⟩,
       ⟨some 94, none, .off 10 (.t 93)⟩,
       ⟨some 95, none, .ld false none (.t 94)⟩,
       ⟨some 96, none, .bin .shr (.t 91) (.t 95)⟩,
       ⟨some 97, none, .off 0 (.t 13)⟩,
       ⟨some 98, none, .idx 9 1 (.t 97) (.t 88)⟩,
       ⟨none, none, .stl 13 1 (.t 98) (.t 96)⟩] [0, 4, 5, 6, 7, 13, 14, 84, 85]) (
     .seq (
     .reg [
       ⟨some 99, none, .mov (.t 0)⟩,
       ⟨some 100, none, .nck (.t 99)⟩,
       ⟨some 101, none, .off 10 (.t 100)⟩,
       ⟨some 102, none, .ld false none (.t 101)⟩,
       ⟨some 103, none, .bin .gtr (.t 102) (.c (.i 0))⟩] [0, 4, 5, 6, 7, 13, 14, 84, 85, 103]) (
     .cond (.t 103) (
      .reg [
        ⟨some 104, none, .mov (.t 14)⟩,
        ⟨some 105, none, .off 0 (.t 13)⟩,
        ⟨some 106, none, .idx 9 1 (.t 105) (.t 104)⟩,
        ⟨some 107, none, .ldl 13 none (.t 106)⟩,
        ⟨some 108, none, .mov (.t 14)⟩,
        ⟨some 109, none, .bin .add (.t 108) (.c (.i 1))⟩,
        ⟨some 110, none, .idx 19 1 (.t 6) (.t 109)⟩,
        ⟨some 111, none, .ld false none (.t 110)⟩,
        ⟨some 112, none, .mov (.t 0)⟩,
        ⟨some 113, none, .nck (.t 112)⟩,
        ⟨some 114, none, .off 10 (.t 113)⟩,
        ⟨some 115, none, .ld false none (.t 114)⟩,
        ⟨some 116, none, .bin .sub (.c (.i 64)) (.t 115)⟩,
        ⟨some 117, none, .bin .shl (.t 111) (.t 116)⟩,
        ⟨some 118, none, .bin .or (.t 107) (.t 117)⟩,
        ⟨some 119, none, .off 0 (.t 13)⟩,
        ⟨some 120, none, .idx 9 1 (.t 119) (.t 104)⟩,
        ⟨none, none, .stl 13 1 (.t 120) (.t 118)⟩] [0, 4, 5, 6, 7, 13, 84, 85]) (
      .reg [] [0, 4, 5, 6, 7, 13, 84, 85])))))) (
    .reg [
      ⟨some 121, none, .bin .add (.t 85) (.c (.i 1))⟩,
      ⟨some 85, none, .mov (.t 121)⟩] [0, 4, 5, 6, 7, 13, 84, 85]))))))) (
  .seq (
  .reg [
    ⟨some 122, none, .ldl 7 (some 18) (.t 7)⟩,
    ⟨some 123, none, .ldl 13 (some 9) (.t 13)⟩,
    ⟨none, none, .stl 4 18 (.t 4) (.t 122)⟩,
    ⟨none, none, .stl 5 9 (.t 5) (.t 123)⟩] [4, 5]) (
  .ret))))))))
def m_divide_divisor_divide : MFn := ⟨c_divide_divisor_divide, [.cell 4 (some 18), .cell 5 (some 9)], 0⟩

/-- curvet/nat.used -/
def c_nat_used : Stm :=
  .seq (
  .reg [
    ⟨some 2, none, .mov (.c (.i 0))⟩] [0]) (
  .seq (
  .reg [
    ⟨some 3, none, .mov (.c (.i 9))⟩] [0, 3]) (
  .seq (
  .block 0 (
   .loop [0, 3] (
    .seq (
    .seq (
    .reg [
      ⟨some 4, none, .mov (.t 3)⟩,
      ⟨some 5, none, .bin .gtr (.t 4) (.c (.i 0))⟩,
      ⟨some 6, none, .mov (.t 5)⟩,
      ⟨some 7, (some (6, true)), .mov (.t 0)⟩,
      ⟨some 8, (some (6, true)), .mov (.t 3)⟩,
      ⟨some 9, (some (6, true)), .bin .sub (.t 8) (.c (.i 1))⟩,
      ⟨some 10, (some (6, true)), .nck (.t 7)⟩,
      ⟨some 11, (some (6, true)), .off 0 (.t 10)⟩,
      ⟨some 12, (some (6, true)), .idx 9 1 (.t 11) (.t 9)⟩,
      ⟨some 13, (some (6, true)), .ld false none (.t 12)⟩,
      ⟨some 14, (some (6, true)), .bin .eql (.t 13) (.c (.u 64 0))⟩,
      ⟨some 15, none, .pick (.t 6) (.t 14) (.c (.b false))⟩] [0, 3, 15]) (
    .cond (.t 15) (
     .reg [] [0, 3]) (
     .exit 0 [3]))) (
    .block 1 (
     .reg [
       ⟨some 16, none, .mov (.t 3)⟩,
       ⟨some 17, none, .bin .sub (.t 16) (.c (.i 1))⟩,
       ⟨some 3, none, .mov (.t 17)⟩] [0, 3]))))) (
  .seq (
  .reg [
    ⟨some 18, none, .mov (.t 3)⟩,
    ⟨some 2, none, .mov (.t 18)⟩] [2]) (
  .ret))))
def m_nat_used : MFn := ⟨c_nat_used, [.tmp 2], 0⟩

/-- math/bits.Mul64 -/
def c_bits_Mul64 : Stm :=
  .seq (
  .reg [
    ⟨some 4, none, .mov (.c (.u 64 0))⟩,
    ⟨some 5, none, .mov (.c (.u 64 0))⟩] [0, 1]) (
  .seq (
  .reg [
    ⟨some 14, none, .mov (.t 0)⟩,
    ⟨some 15, none, .bin .and (.t 14) (.c (.u 64 4294967295))⟩,
    ⟨some 6, none, .mov (.t 15)⟩] [0, 1, 6]) (
  .seq (
  .reg [
    ⟨some 16, none, .mov (.t 0)⟩,
    ⟨some 17, none, .bin .shr (.t 16) (.c (.u 64 32))⟩,
    ⟨some 7, none, .mov (.t 17)⟩] [0, 1, 6, 7]) (
  .seq (
  .reg [
    ⟨some 18, none, .mov (.t 1)⟩,
    ⟨some 19, none, .bin .and (.t 18) (.c (.u 64 4294967295))⟩,
    ⟨some 8, none, .mov (.t 19)⟩] [0, 1, 6, 7, 8]) (
  .seq (
  .reg [
    ⟨some 20, none, .mov (.t 1)⟩,
    ⟨some 21, none, .bin .shr (.t 20) (.c (.u 64 32))⟩,
    ⟨some 9, none, .mov (.t 21)⟩] [0, 1, 6, 7, 8, 9]) (
  .seq (
  .reg [
    ⟨some 22, none, .mov (.t 6)⟩,
    ⟨some 23, none, .mov (.t 8)⟩,
    ⟨some 24, none, .bin .mul (.t 22) (.t 23)⟩,
    ⟨some 10, none, .mov (.t 24)⟩] [0, 1, 6, 7, 8, 9, 10]) (
  .seq (
  .reg [
    ⟨some 25, none, .mov (.t 7)⟩,
    ⟨some 26, none, .mov (.t 8)⟩,
    ⟨some 27, none, .bin .mul (.t 25) (.t 26)⟩,
    ⟨some 28, none, .mov (.t 10)⟩,
    ⟨some 29, none, .bin .shr (.t 28) (.c (.u 64 32))⟩,
    ⟨some 30, none, .bin .add (.t 27) (.t 29)⟩,
    ⟨some 11, none, .mov (.t 30)⟩] [0, 1, 6, 7, 9, 11]) (
  .seq (
  .reg [
    ⟨some 31, none, .mov (.t 11)⟩,
    ⟨some 32, none, .bin .and (.t 31) (.c (.u 64 4294967295))⟩,
    ⟨some 12, none, .mov (.t 32)⟩] [0, 1, 6, 7, 9, 11, 12]) (
  .seq (
  .reg [
    ⟨some 33, none, .mov (.t 11)⟩,
    ⟨some 34, none, .bin .shr (.t 33) (.c (.u 64 32))⟩,
    ⟨some 13, none, .mov (.t 34)⟩] [0, 1, 6, 7, 9, 12, 13]) (
  .seq (
  .reg [
    ⟨some 35, none, .mov (.t 12)⟩,
    ⟨some 36, none, .mov (.t 6)⟩,
    ⟨some 37, none, .mov (.t 9)⟩,
    ⟨some 38, none, .bin .mul (.t 36) (.t 37)⟩,
    ⟨some 39, none, .bin .add (.t 35) (.t 38)⟩,
    ⟨some 12, none, .mov (.t 39)⟩] [0, 1, 7, 9, 12, 13]) (
  .seq (
  .reg [
    ⟨some 40, none, .mov (.t 7)⟩,
    ⟨some 41, none, .mov (.t 9)⟩,
    ⟨some 42, none, .bin .mul (.t 40) (.t 41)⟩,
    ⟨some 43, none, .mov (.t 13)⟩,
    ⟨some 44, none, .bin .add (.t 42) (.t 43)⟩,
    ⟨some 45, none, .mov (.t 12)⟩,
    ⟨some 46, none, .bin .shr (.t 45) (.c (.u 64 32))⟩,
    ⟨some 47, none, .bin .add (.t 44) (.t 46)⟩,
    ⟨some 4, none, .mov (.t 47)⟩] [0, 1, 4]) (
  .seq (
  .reg [
    ⟨some 48, none, .mov (.t 0)⟩,
    ⟨some 49, none, .mov (.t 1)⟩,
    ⟨some 50, none, .bin .mul (.t 48) (.t 49)⟩,
    ⟨some 5, none, .mov (.t 50)⟩] [4, 5]) (
  .ret))))))))))))
def m_bits_Mul64 : MFn := ⟨c_bits_Mul64, [.tmp 4, .tmp 5], 0⟩

/-- curvet/curvetref1.short -/
def c_curvetref1_short : Stm :=
  .seq (
  .reg [
    ⟨some 4, none, .mov (.c (.vs 0 []))⟩,
    ⟨some 5, none, .mov (.c (.vs 0 []))⟩] [0, 1]) (
  .seq (
  .reg [
    ⟨some 10, none, .mov (.t 0)⟩,
    ⟨some 11, none, .len (.t 10)⟩,
    ⟨some 12, none, .mks 1 4 [.u 32 0] (.t 11) (.t 11)⟩,
    ⟨some 6, none, .mov (.t 12)⟩] [0, 1, 6]) (
  .seq (
  .reg [
    ⟨some 7, none, .mov (.c (.u 64 0))⟩] [0, 1, 6, 7]) (
  .seq (
  .seq (
  .reg [
    ⟨some 13, none, .mov (.t 0)⟩,
    ⟨some 14, none, .len (.t 13)⟩,
    ⟨some 15, none, .bin .sub (.t 14) (.c (.i 1))⟩,
    ⟨some 8, none, .mov (.t 15)⟩] [0, 1, 6, 7, 8]) (
  .block 0 (
   .loop [0, 1, 6, 7, 8] (
    .seq (
    .seq (
    .reg [
      ⟨some 16, none, .mov (.t 8)⟩,
      ⟨some 17, none, .bin .geq (.t 16) (.c (.i 0))⟩] [0, 1, 6, 7, 8, 17]) (
    .cond (.t 17) (
     .reg [] [0, 1, 6, 7, 8]) (
     .exit 0 [6, 7]))) (
    .seq (
    .block 1 (
     .seq (
     .reg [
       ⟨some 20, none, .mov (.t 7)⟩,
       ⟨some 21, none, .bin .shl (.t 20) (.c (.u 64 32))⟩,
       ⟨some 22, none, .mov (.t 0)⟩,
       ⟨some 23, none, .mov (.t 8)⟩,
       ⟨some 24, none, .idxs 1 (.t 22) (.t 23)⟩,
       ⟨some 25, none, .ld false none (.t 24)⟩,
       ⟨some 26, none, .cvu 64 (.t 25)⟩,
       ⟨some 27, none, .bin .or (.t 21) (.t 26)⟩,
       ⟨some 9, none, .mov (.t 27)⟩] [0, 1, 6, 8, 9]) (
     .seq (
     .reg [
       ⟨some 28, none, .mov (.t 6)⟩,
       ⟨some 29, none, .mov (.t 8)⟩,
       ⟨some 30, none, .mov (.t 9)⟩,
       ⟨some 31, none, .mov (.t 1)⟩,
       ⟨some 32, none, .bin .quo (.t 30) (.t 31)⟩,
       ⟨some 33, none, .cvu 32 (.t 32)⟩,
       ⟨some 34, none, .idxs 1 (.t 28) (.t 29)⟩,
       ⟨none, none, .st 1 (.t 34) (.t 33)⟩] [0, 1, 6, 8, 9]) (
     .reg [
       ⟨some 35, none, .mov (.t 9)⟩,
       ⟨some 36, none, .mov (.t 1)⟩,
       ⟨some 37, none, .bin .rem (.t 35) (.t 36)⟩,
       ⟨some 7, none, .mov (.t 37)⟩] [0, 1, 6, 7, 8])))) (
    .reg [
      ⟨some 18, none, .mov (.t 8)⟩,
      ⟨some 19, none, .bin .sub (.t 18) (.c (.i 1))⟩,
      ⟨some 8, none, .mov (.t 19)⟩] [0, 1, 6, 7, 8])))))) (
  .seq (
  .reg [
    ⟨some 38, none, .mov (.t 6)⟩,
    ⟨some 39, none, .call f_curvetref1_trim [] [(.t 38)]⟩,
    ⟨some 40, none, .mov (.t 7)⟩,
    ⟨some 41, none, .cvu 32 (.t 40)⟩,
    ⟨some 42, none, .lit true 1 1 [.u 32 0] [(0, 1, (.t 41))]⟩,
    ⟨some 43, none, .call f_curvetref1_trim [] [(.t 42)]⟩,
    ⟨some 4, none, .mov (.t 39)⟩,
    ⟨some 5, none, .mov (.t 43)⟩] [4, 5]) (
  .ret)))))
def m_curvetref1_short : MFn := ⟨c_curvetref1_short, [.tmp 4, .tmp 5], 0⟩

/-- curvet/curvetref1.Shl -/
def c_curvetref1_Shl : Stm :=
  .seq (
  .reg [
    ⟨some 4, none, .mov (.c (.vs 0 []))⟩] [0, 1]) (
  .seq (
  .reg [
    ⟨some 8, none, .mov (.t 0)⟩,
    ⟨some 9, none, .len (.t 8)⟩,
    ⟨some 10, none, .mov (.t 1)⟩,
    ⟨some 11, none, .bin .quo (.t 10) (.c (.i 32))⟩,
    ⟨some 12, none, .bin .add (.t 9) (.t 11)⟩,
    ⟨some 13, none, .bin .add (.t 12) (.c (.i 1))⟩,
    ⟨some 14, none, .mks 1 4 [.u 32 0] (.t 13) (.t 13)⟩,
    ⟨some 5, none, .mov (.t 14)⟩] [0, 1, 5]) (
  .seq (
  .seq (
  .reg [
    ⟨some 6, none, .mov (.c (.i 0))⟩] [0, 1, 5, 6]) (
  .block 0 (
   .loop [0, 1, 5, 6] (
    .seq (
    .seq (
    .reg [
      ⟨some 15, none, .mov (.t 6)⟩,
      ⟨some 16, none, .mov (.t 0)⟩,
      ⟨some 17, none, .len (.t 16)⟩,
      ⟨some 18, none, .bin .lss (.t 15) (.t 17)⟩] [0, 1, 5, 6, 18]) (
    .cond (.t 18) (
     .reg [] [0, 1, 5, 6]) (
     .exit 0 [5]))) (
    .seq (
    .block 1 (
     .seq (
     .reg [
       ⟨some 21, none, .mov (.t 0)⟩,
       ⟨some 22, none, .mov (.t 6)⟩,
       ⟨some 23, none, .idxs 1 (.t 21) (.t 22)⟩,
       ⟨some 24, none, .ld false none (.t 23)⟩,
       ⟨some 25, none, .cvu 64 (.t 24)⟩,
       ⟨some 26, none, .mov (.t 1)⟩,
       ⟨some 27, none, .bin .rem (.t 26) (.c (.i 32))⟩,
       ⟨some 28, none, .bin .shl (.t 25) (.t 27)⟩,
       ⟨some 7, none, .mov (.t 28)⟩] [0, 1, 5, 6, 7]) (
     .seq (
     .reg [
       ⟨some 29, none, .mov (.t 5)⟩,
       ⟨some 30, none, .mov (.t 6)⟩,
       ⟨some 31, none, .mov (.t 1)⟩,
       ⟨some 32, none, .bin .quo (.t 31) (.c (.i 32))⟩,
       ⟨some 33, none, .bin .add (.t 30) (.t 32)⟩,
       ⟨some 34, none, .mov (.t 5)⟩,
       ⟨some 35, none, .mov (.t 6)⟩,
       ⟨some 36, none, .mov (.t 1)⟩,
       ⟨some 37, none, .bin .quo (.t 36) (.c (.i 32))⟩,
       ⟨some 38, none, .bin .add (.t 35) (.t 37)⟩,
       ⟨some 39, none, .idxs 1 (.t 34) (.t 38)⟩,
       ⟨some 40, none, .ld false none (.t 39)⟩,
       ⟨some 41, none, .mov (.t 7)⟩,
       ⟨some 42, none, .bin .and (.t 41) (.c (.u 64 4294967295))⟩,
       ⟨some 43, none, .cvu 32 (.t 42)⟩,
       ⟨some 44, none, .bin .or (.t 40) (.t 43)⟩,
       ⟨some 45, none, .idxs 1 (.t 29) (.t 33)⟩,
       ⟨none, none, .st 1 (.t 45) (.t 44)⟩] [0, 1, 5, 6, 7]) (
     .reg [
       ⟨some 46, none, .mov (.t 5)⟩,
       ⟨some 47, none, .mov (.t 6)⟩,
       ⟨some 48, none, .mov (.t 1)⟩,
       ⟨some 49, none, .bin .quo (.t 48) (.c (.i 32))⟩,
       ⟨some 50, none, .bin .add (.t 47) (.t 49)⟩,
       ⟨some 51, none, .bin .add (.t 50) (.c (.i 1))⟩,
       ⟨some 52, none, .mov (.t 7)⟩,
       ⟨some 53, none, .bin .shr (.t 52) (.c (.u 64 32))⟩,
       ⟨some 54, none, .cvu 32 (.t 53)⟩,
       ⟨some 55, none, .idxs 1 (.t 46) (.t 51)⟩,
       ⟨none, none, .st 1 (.t 55) (.t 54)⟩] [0, 1, 5, 6])))) (
    .reg [
      ⟨some 19, none, .mov (.t 6)⟩,
      ⟨some 20, none, .bin .add (.t 19) (.c (.i 1))⟩,
      ⟨some 6, none, .mov (.t 20)⟩] [0, 1, 5, 6])))))) (
  .seq (
  .reg [
    ⟨some 56, none, .mov (.t 5)⟩,
    ⟨some 57, none, .call f_curvetref1_trim [] [(.t 56)]⟩,
    ⟨some 4, none, .mov (.t 57)⟩] [4]) (
  .ret))))
def m_curvetref1_Shl : MFn := ⟨c_curvetref1_Shl, [.tmp 4], 0⟩

/-- curvet/curvetref1.step -/
def c_curvetref1_step : Stm :=
  .seq (
  .reg [
    ⟨some 6, none, .mov (.c (.u 64 0))⟩] [0, 1, 2]) (
  .seq (
  .reg [
    ⟨some 19, none, .mov (.t 1)⟩,
    ⟨some 20, none, .len (.t 19)⟩,
    ⟨some 7, none, .mov (.t 20)⟩] [0, 1, 2, 7]) (
  .seq (
  .reg [
    ⟨some 21, none, .mov (.t 0)⟩,
    ⟨some 22, none, .mov (.t 2)⟩,
    ⟨some 23, none, .mov (.t 7)⟩,
    ⟨some 24, none, .bin .add (.t 22) (.t 23)⟩,
    ⟨some 25, none, .idxs 1 (.t 21) (.t 24)⟩,
    ⟨some 26, none, .ld false none (.t 25)⟩,
    ⟨some 27, none, .cvu 64 (.t 26)⟩,
    ⟨some 28, none, .bin .shl (.t 27) (.c (.u 64 32))⟩,
    ⟨some 29, none, .mov (.t 0)⟩,
    ⟨some 30, none, .mov (.t 2)⟩,
    ⟨some 31, none, .mov (.t 7)⟩,
    ⟨some 32, none, .bin .add (.t 30) (.t 31)⟩,
    ⟨some 33, none, .bin .sub (.t 32) (.c (.i 1))⟩,
    ⟨some 34, none, .idxs 1 (.t 29) (.t 33)⟩,
    ⟨some 35, none, .ld false none (.t 34)⟩,
    ⟨some 36, none, .cvu 64 (.t 35)⟩,
    ⟨some 37, none, .bin .or (.t 28) (.t 36)⟩,
    ⟨some 8, none, .mov (.t 37)⟩] [0, 1, 2, 7, 8]) (
  .seq (
  .reg [
    ⟨some 38, none, .mov (.t 8)⟩,
    ⟨some 39, none, .mov (.t 1)⟩,
    ⟨some 40, none, .mov (.t 7)⟩,
    ⟨some 41, none, .bin .sub (.t 40) (.c (.i 1))⟩,
    ⟨some 42, none, .idxs 1 (.t 39) (.t 41)⟩,
    ⟨some 43, none, .ld false none (.t 42)⟩,
    ⟨some 44, none, .cvu 64 (.t 43)⟩,
    ⟨some 45, none, .bin .quo (.t 38) (.t 44)⟩,
    ⟨some 46, none, .mov (.t 8)⟩,
    ⟨some 47, none, .mov (.t 1)⟩,
    ⟨some 48, none, .mov (.t 7)⟩,
    ⟨some 49, none, .bin .sub (.t 48) (.c (.i 1))⟩,
    ⟨some 50, none, .idxs 1 (.t 47) (.t 49)⟩,
    ⟨some 51, none, .ld false none (.t 50)⟩,
    ⟨some 52, none, .cvu 64 (.t 51)⟩,
    ⟨some 53, none, .bin .rem (.t 46) (.t 52)⟩,
    ⟨some 9, none, .mov (.t 45)⟩,
    ⟨some 10, none, .mov (.t 53)⟩] [0, 1, 2, 7, 9, 10]) (
  .seq (
  .block 0 (
   .loop [0, 1, 2, 7, 9, 10] (
    .seq (
    .seq (
    .reg [
      ⟨some 54, none, .mov (.t 9)⟩,
      ⟨some 55, none, .bin .geq (.t 54) (.c (.u 64 4294967296))⟩,
      ⟨some 56, none, .mov (.t 55)⟩,
      ⟨some 57, (some (56, false)), .mov (.t 9)⟩,
      ⟨some 58, (some (56, false)), .mov (.t 1)⟩,
      ⟨some 59, (some (56, false)), .mov (.t 7)⟩,
      ⟨some 60, (some (56, false)), .bin .sub (.t 59) (.c (.i 2))⟩,
      ⟨some 61, (some (56, false)), .idxs 1 (.t 58) (.t 60)⟩,
      ⟨some 62, (some (56, false)), .ld false none (.t 61)⟩,
      ⟨some 63, (some (56, false)), .cvu 64 (.t 62)⟩,
      ⟨some 64, (some (56, false)), .bin .mul (.t 57) (.t 63)⟩,
      ⟨some 65, (some (56, false)), .mov (.t 10)⟩,
      ⟨some 66, (some (56, false)), .bin .shl (.t 65) (.c (.u 64 32))⟩,
      ⟨some 67, (some (56, false)), .mov (.t 0)⟩,
      ⟨some 68, (some (56, false)), .mov (.t 2)⟩,
      ⟨some 69, (some (56, false)), .mov (.t 7)⟩,
      ⟨some 70, (some (56, false)), .bin .add (.t 68) (.t 69)⟩,
      ⟨some 71, (some (56, false)), .bin .sub (.t 70) (.c (.i 2))⟩,
      ⟨some 72, (some (56, false)), .idxs 1 (.t 67) (.t 71)⟩,
      ⟨some 73, (some (56, false)), .ld false none (.t 72)⟩,
      ⟨some 74, (some (56, false)), .cvu 64 (.t 73)⟩,
      ⟨some 75, (some (56, false)), .bin .or (.t 66) (.t 74)⟩,
      ⟨some 76, (some (56, false)), .bin .gtr (.t 64) (.t 75)⟩,
      ⟨some 77, none, .pick (.t 56) (.c (.b true)) (.t 76)⟩] [0, 1, 2, 7, 9, 10, 77]) (
    .cond (.t 77) (
     .reg [] [0, 1, 2, 7, 9, 10]) (
     .exit 0 [0, 1, 2, 7, 9]))) (
    .block 1 (
     .seq (
     .reg [
       ⟨some 78, none, .mov (.t 9)⟩,
       ⟨some 79, none, .bin .sub (.t 78) (.c (.u 64 1))⟩,
       ⟨some 9, none, .mov (.t 79)⟩] [0, 1, 2, 7, 9, 10]) (
     .seq (
     .reg [
       ⟨some 80, none, .mov (.t 10)⟩,
       ⟨some 81, none, .mov (.t 1)⟩,
       ⟨some 82, none, .mov (.t 7)⟩,
       ⟨some 83, none, .bin .sub (.t 82) (.c (.i 1))⟩,
       ⟨some 84, none, .idxs 1 (.t 81) (.t 83)⟩,
       ⟨some 85, none, .ld false none (.t 84)⟩,
       ⟨some 86, none, .cvu 64 (.t 85)⟩,
       ⟨some 87, none, .bin .add (.t 80) (.t 86)⟩,
       ⟨some 10, none, .mov (.t 87)⟩] [0, 1, 2, 7, 9, 10]) (
     .seq (
     .reg [
       ⟨some 88, none, .mov (.t 10)⟩,
       ⟨some 89, none, .bin .geq (.t 88) (.c (.u 64 4294967296))⟩] [0, 1, 2, 7, 9, 10, 89]) (
     .cond (.t 89) (
      .exit 0 [0, 1, 2, 7, 9]) (
      .reg [] [0, 1, 2, 7, 9, 10]))))))))) (
  .seq (
  .reg [
    ⟨some 11, none, .mov (.c (.u 64 0))⟩,
    ⟨some 12, none, .mov (.c (.u 64 0))⟩] [0, 1, 2, 7, 9, 11, 12]) (
  .seq (
  .seq (
  .reg [
    ⟨some 13, none, .mov (.c (.i 0))⟩] [0, 1, 2, 7, 9, 11, 12, 13]) (
  .block 2 (
   .loop [0, 1, 2, 7, 9, 11, 12, 13] (
    .seq (
    .seq (
    .reg [
      ⟨some 90, none, .mov (.t 13)⟩,
      ⟨some 91, none, .mov (.t 7)⟩,
      ⟨some 92, none, .bin .lss (.t 90) (.t 91)⟩] [0, 1, 2, 7, 9, 11, 12, 13, 92]) (
    .cond (.t 92) (
     .reg [] [0, 1, 2, 7, 9, 11, 12, 13]) (
     .exit 2 [0, 1, 2, 7, 9, 11, 12]))) (
    .seq (
    .block 3 (
     .seq (
     .reg [
       ⟨some 95, none, .mov (.t 9)⟩,
       ⟨some 96, none, .mov (.t 1)⟩,
       ⟨some 97, none, .mov (.t 13)⟩,
       ⟨some 98, none, .idxs 1 (.t 96) (.t 97)⟩,
       ⟨some 99, none, .ld false none (.t 98)⟩,
       ⟨some 100, none, .cvu 64 (.t 99)⟩,
       ⟨some 101, none, .bin .mul (.t 95) (.t 100)⟩,
       ⟨some 102, none, .mov (.t 11)⟩,
       ⟨some 103, none, .bin .add (.t 101) (.t 102)⟩,
       ⟨some 14, none, .mov (.t 103)⟩] [0, 1, 2, 7, 9, 12, 13, 14]) (
     .seq (
     .reg [
       ⟨some 104, none, .mov (.t 14)⟩,
       ⟨some 105, none, .bin .shr (.t 104) (.c (.u 64 32))⟩,
       ⟨some 11, none, .mov (.t 105)⟩] [0, 1, 2, 7, 9, 11, 12, 13, 14]) (
     .seq (
     .reg [
       ⟨some 106, none, .mov (.t 0)⟩,
       ⟨some 107, none, .mov (.t 13)⟩,
       ⟨some 108, none, .mov (.t 2)⟩,
       ⟨some 109, none, .bin .add (.t 107) (.t 108)⟩,
       ⟨some 110, none, .idxs 1 (.t 106) (.t 109)⟩,
       ⟨some 111, none, .ld false none (.t 110)⟩,
       ⟨some 112, none, .cvu 64 (.t 111)⟩,
       ⟨some 113, none, .bin .add (.t 112) (.c (.u 64 4294967296))⟩,
       ⟨some 114, none, .mov (.t 14)⟩,
       ⟨some 115, none, .bin .and (.t 114) (.c (.u 64 4294967295))⟩,
       ⟨some 116, none, .bin .sub (.t 113) (.t 115)⟩,
       ⟨some 117, none, .mov (.t 12)⟩,
       ⟨some 118, none, .bin .sub (.t 116) (.t 117)⟩,
       ⟨some 15, none, .mov (.t 118)⟩] [0, 1, 2, 7, 9, 11, 13, 15]) (
     .seq (
     .reg [
       ⟨some 119, none, .mov (.t 0)⟩,
       ⟨some 120, none, .mov (.t 13)⟩,
       ⟨some 121, none, .mov (.t 2)⟩,
       ⟨some 122, none, .bin .add (.t 120) (.t 121)⟩,
       ⟨some 123, none, .mov (.t 15)⟩,
       ⟨some 124, none, .bin .and (.t 123) (.c (.u 64 4294967295))⟩,
       ⟨some 125, none, .cvu 32 (.t 124)⟩,
       ⟨some 126, none, .idxs 1 (.t 119) (.t 122)⟩,
       ⟨none, none, .st 1 (.t 126) (.t 125)⟩] [0, 1, 2, 7, 9, 11, 13, 15]) (
     .reg [
       ⟨some 127, none, .mov (.t 15)⟩,
       ⟨some 128, none, .bin .shr (.t 127) (.c (.u 64 32))⟩,
       ⟨some 129, none, .bin .sub (.c (.u 64 1)) (.t 128)⟩,
       ⟨some 12, none, .mov (.t 129)⟩] [0, 1, 2, 7, 9, 11, 12, 13])))))) (
    .reg [
      ⟨some 93, none, .mov (.t 13)⟩,
      ⟨some 94, none, .bin .add (.t 93) (.c (.i 1))⟩,
      ⟨some 13, none, .mov (.t 94)⟩] [0, 1, 2, 7, 9, 11, 12, 13])))))) (
  .seq (
  .reg [
    ⟨some 130, none, .mov (.t 0)⟩,
    ⟨some 131, none, .mov (.t 2)⟩,
    ⟨some 132, none, .mov (.t 7)⟩,
    ⟨some 133, none, .bin .add (.t 131) (.t 132)⟩,
    ⟨some 134, none, .idxs 1 (.t 130) (.t 133)⟩,
    ⟨some 135, none, .ld false none (.t 134)⟩,
    ⟨some 136, none, .cvu 64 (.t 135)⟩,
    ⟨some 137, none, .bin .add (.t 136) (.c (.u 64 4294967296))⟩,
    ⟨some 138, none, .mov (.t 11)⟩,
    ⟨some 139, none, .bin .sub (.t 137) (.t 138)⟩,
    ⟨some 140, none, .mov (.t 12)⟩,
    ⟨some 141, none, .bin .sub (.t 139) (.t 140)⟩,
    ⟨some 16, none, .mov (.t 141)⟩] [0, 1, 2, 7, 9, 16]) (
  .seq (
  .reg [
    ⟨some 142, none, .mov (.t 0)⟩,
    ⟨some 143, none, .mov (.t 2)⟩,
    ⟨some 144, none, .mov (.t 7)⟩,
    ⟨some 145, none, .bin .add (.t 143) (.t 144)⟩,
    ⟨some 146, none, .mov (.t 16)⟩,
    ⟨some 147, none, .bin .and (.t 146) (.c (.u 64 4294967295))⟩,
    ⟨some 148, none, .cvu 32 (.t 147)⟩,
    ⟨some 149, none, .idxs 1 (.t 142) (.t 145)⟩,
    ⟨none, none, .st 1 (.t 149) (.t 148)⟩] [0, 1, 2, 7, 9, 16]) (
  .seq (
  .seq (
  .reg [
    ⟨some 150, none, .mov (.t 16)⟩,
    ⟨some 151, none, .bin .shr (.t 150) (.c (.u 64 32))⟩,
    ⟨some 152, none, .bin .eql (.t 151) (.c (.u 64 1))⟩] [0, 1, 2, 7, 9, 152]) (
  .cond (.t 152) (
   .seq (
   .reg [
     ⟨some 153, none, .mov (.t 9)⟩,
     ⟨some 6, none, .mov (.t 153)⟩] [6]) (
   .ret)) (
   .reg [] [0, 1, 2, 7, 9]))) (
  .seq (
  .reg [
    ⟨some 11, none, .mov (.c (.u 64 0))⟩] [0, 1, 2, 7, 9, 11]) (
  .seq (
  .seq (
  .reg [
    ⟨some 17, none, .mov (.c (.i 0))⟩] [0, 1, 2, 7, 9, 11, 17]) (
  .block 4 (
   .loop [0, 1, 2, 7, 9, 11, 17] (
    .seq (
    .seq (
    .reg [
      ⟨some 154, none, .mov (.t 17)⟩,
      ⟨some 155, none, .mov (.t 7)⟩,
      ⟨some 156, none, .bin .lss (.t 154) (.t 155)⟩] [0, 1, 2, 7, 9, 11, 17, 156]) (
    .cond (.t 156) (
     .reg [] [0, 1, 2, 7, 9, 11, 17]) (
     .exit 4 [0, 2, 7, 9, 11]))) (
    .seq (
    .block 5 (
     .seq (
     .reg [
       ⟨some 159, none, .mov (.t 0)⟩,
       ⟨some 160, none, .mov (.t 17)⟩,
       ⟨some 161, none, .mov (.t 2)⟩,
       ⟨some 162, none, .bin .add (.t 160) (.t 161)⟩,
       ⟨some 163, none, .idxs 1 (.t 159) (.t 162)⟩,
       ⟨some 164, none, .ld false none (.t 163)⟩,
       ⟨some 165, none, .cvu 64 (.t 164)⟩,
       ⟨some 166, none, .mov (.t 1)⟩,
       ⟨some 167, none, .mov (.t 17)⟩,
       ⟨some 168, none, .idxs 1 (.t 166) (.t 167)⟩,
       ⟨some 169, none, .ld false none (.t 168)⟩,
       ⟨some 170, none, .cvu 64 (.t 169)⟩,
       ⟨some 171, none, .bin .add (.t 165) (.t 170)⟩,
       ⟨some 172, none, .mov (.t 11)⟩,
       ⟨some 173, none, .bin .add (.t 171) (.t 172)⟩,
       ⟨some 18, none, .mov (.t 173)⟩] [0, 1, 2, 7, 9, 17, 18]) (
     .seq (
     .reg [
       ⟨some 174, none, .mov (.t 0)⟩,
       ⟨some 175, none, .mov (.t 17)⟩,
       ⟨some 176, none, .mov (.t 2)⟩,
       ⟨some 177, none, .bin .add (.t 175) (.t 176)⟩,
       ⟨some 178, none, .mov (.t 18)⟩,
       ⟨some 179, none, .bin .and (.t 178) (.c (.u 64 4294967295))⟩,
       ⟨some 180, none, .cvu 32 (.t 179)⟩,
       ⟨some 181, none, .idxs 1 (.t 174) (.t 177)⟩,
       ⟨none, none, .st 1 (.t 181) (.t 180)⟩] [0, 1, 2, 7, 9, 17, 18]) (
     .reg [
       ⟨some 182, none, .mov (.t 18)⟩,
       ⟨some 183, none, .bin .shr (.t 182) (.c (.u 64 32))⟩,
       ⟨some 11, none, .mov (.t 183)⟩] [0, 1, 2, 7, 9, 11, 17])))) (
    .reg [
      ⟨some 157, none, .mov (.t 17)⟩,
      ⟨some 158, none, .bin .add (.t 157) (.c (.i 1))⟩,
      ⟨some 17, none, .mov (.t 158)⟩] [0, 1, 2, 7, 9, 11, 17])))))) (
  .seq (
  .reg [
    ⟨some 184, none, .mov (.t 0)⟩,
    ⟨some 185, none, .mov (.t 2)⟩,
    ⟨some 186, none, .mov (.t 7)⟩,
    ⟨some 187, none, .bin .add (.t 185) (.t 186)⟩,
    ⟨some 188, none, .mov (.t 0)⟩,
    ⟨some 189, none, .mov (.t 2)⟩,
    ⟨some 190, none, .mov (.t 7)⟩,
    ⟨some 191, none, .bin .add (.t 189) (.t 190)⟩,
    ⟨some 192, none, .idxs 1 (.t 188) (.t 191)⟩,
    ⟨some 193, none, .ld false none (.t 192)⟩,
    ⟨some 194, none, .mov (.t 11)⟩,
    ⟨some 195, none, .cvu 32 (.t 194)⟩,
    ⟨some 196, none, .bin .add (.t 193) (.t 195)⟩,
    ⟨some 197, none, .idxs 1 (.t 184) (.t 187)⟩,
    ⟨none, none, .st 1 (.t 197) (.t 196)⟩] [9]) (
  .seq (
  .reg [
    ⟨some 198, none, .mov (.t 9)⟩,
    ⟨some 199, none, .bin .sub (.t 198) (.c (.u 64 1))⟩,
    ⟨some 6, none, .mov (.t 199)⟩] [6]) (
  .ret))))))))))))))
def m_curvetref1_step : MFn := ⟨c_curvetref1_step, [.tmp 6], 0⟩

/-- curvet/curvetref1.Shr -/
def c_curvetref1_Shr : Stm :=
  .seq (
  .reg [
    ⟨some 4, none, .mov (.c (.vs 0 []))⟩] [0, 1]) (
  .seq (
  .seq (
  .reg [
    ⟨some 8, none, .mov (.t 1)⟩,
    ⟨some 9, none, .bin .quo (.t 8) (.c (.i 32))⟩,
    ⟨some 10, none, .mov (.t 0)⟩,
    ⟨some 11, none, .len (.t 10)⟩,
    ⟨some 12, none, .bin .geq (.t 9) (.t 11)⟩] [0, 1, 12]) (
  .cond (.t 12) (
   .seq (
   .reg [
     ⟨some 4, none, .mov (.c (.vs 0 []))⟩] [4]) (
   .ret)) (
   .reg [] [0, 1]))) (
  .seq (
  .reg [
    ⟨some 13, none, .mov (.t 0)⟩,
    ⟨some 14, none, .len (.t 13)⟩,
    ⟨some 15, none, .mov (.t 1)⟩,
    ⟨some 16, none, .bin .quo (.t 15) (.c (.i 32))⟩,
    ⟨some 17, none, .bin .sub (.t 14) (.t 16)⟩,
    ⟨some 18, none, .mks 1 4 [.u 32 0] (.t 17) (.t 17)⟩,
    ⟨some 5, none, .mov (.t 18)⟩] [0, 1, 5]) (
  .seq (
  .seq (
  .reg [
    ⟨some 6, none, .mov (.c (.i 0))⟩] [0, 1, 5, 6]) (
  .block 0 (
   .loop [0, 1, 5, 6] (
    .seq (
    .seq (
    .reg [
      ⟨some 19, none, .mov (.t 6)⟩,
      ⟨some 20, none, .mov (.t 5)⟩,
      ⟨some 21, none, .len (.t 20)⟩,
      ⟨some 22, none, .bin .lss (.t 19) (.t 21)⟩] [0, 1, 5, 6, 22]) (
    .cond (.t 22) (
     .reg [] [0, 1, 5, 6]) (
     .exit 0 [5]))) (
    .seq (
    .block 1 (
     .seq (
     .reg [
       ⟨some 25, none, .mov (.t 0)⟩,
       ⟨some 26, none, .mov (.t 6)⟩,
       ⟨some 27, none, .mov (.t 1)⟩,
       ⟨some 28, none, .bin .quo (.t 27) (.c (.i 32))⟩,
       ⟨some 29, none, .bin .add (.t 26) (.t 28)⟩,
       ⟨some 30, none, .call f_curvetref1_digit [] [(.t 25), (.t 29)]⟩,
       ⟨some 31, none, .mov (.t 0)⟩,
       ⟨some 32, none, .mov (.t 6)⟩,
       ⟨some 33, none, .mov (.t 1)⟩,
       ⟨some 34, none, .bin .quo (.t 33) (.c (.i 32))⟩,
       ⟨some 35, none, .bin .add (.t 32) (.t 34)⟩,
       ⟨some 36, none, .bin .add (.t 35) (.c (.i 1))⟩,
       ⟨some 37, none, .call f_curvetref1_digit [] [(.t 31), (.t 36)]⟩,
       ⟨some 38, none, .bin .shl (.t 37) (.c (.u 64 32))⟩,
       ⟨some 39, none, .bin .or (.t 30) (.t 38)⟩,
       ⟨some 7, none, .mov (.t 39)⟩] [0, 1, 5, 6, 7]) (
     .reg [
       ⟨some 40, none, .mov (.t 5)⟩,
       ⟨some 41, none, .mov (.t 6)⟩,
       ⟨some 42, none, .mov (.t 7)⟩,
       ⟨some 43, none, .mov (.t 1)⟩,
       ⟨some 44, none, .bin .rem (.t 43) (.c (.i 32))⟩,
       ⟨some 45, none, .bin .shr (.t 42) (.t 44)⟩,
       ⟨some 46, none, .bin .and (.t 45) (.c (.u 64 4294967295))⟩,
       ⟨some 47, none, .cvu 32 (.t 46)⟩,
       ⟨some 48, none, .idxs 1 (.t 40) (.t 41)⟩,
       ⟨none, none, .st 1 (.t 48) (.t 47)⟩] [0, 1, 5, 6]))) (
    .reg [
      ⟨some 23, none, .mov (.t 6)⟩,
      ⟨some 24, none, .bin .add (.t 23) (.c (.i 1))⟩,
      ⟨some 6, none, .mov (.t 24)⟩] [0, 1, 5, 6])))))) (
  .seq (
  .reg [
    ⟨some 49, none, .mov (.t 5)⟩,
    ⟨some 50, none, .call f_curvetref1_trim [] [(.t 49)]⟩,
    ⟨some 4, none, .mov (.t 50)⟩] [4]) (
  .ret)))))
def m_curvetref1_Shr : MFn := ⟨c_curvetref1_Shr, [.tmp 4], 0⟩

/-- curvet/nat.Bits -/
def c_nat_Bits : Stm :=
  .seq (
  .reg [
    ⟨some 1, none, .boxv (.t 0)⟩,
    ⟨some 2, none, .mov (.c (.i 0))⟩] [1]) (
  .seq (
  .reg [
    ⟨some 4, none, .call f_nat_used [] [(.t 1)]⟩,
    ⟨some 3, none, .mov (.t 4)⟩] [1, 3]) (
  .seq (
  .seq (
  .reg [
    ⟨some 5, none, .mov (.t 3)⟩,
    ⟨some 6, none, .bin .eql (.t 5) (.c (.i 0))⟩] [1, 3, 6]) (
  .cond (.t 6) (
   .seq (
   .reg [
     ⟨some 2, none, .mov (.c (.i 0))⟩] [2]) (
   .ret)) (
   .reg [] [1, 3]))) (
  .seq (
  .reg [
    ⟨some 7, none, .mov (.t 3)⟩,
    ⟨some 8, none, .bin .sub (.t 7) (.c (.i 1))⟩,
    ⟨some 9, none, .bin .mul (.t 8) (.c (.i 64))⟩,
    ⟨some 10, none, .mov (.t 3)⟩,
    ⟨some 11, none, .bin .sub (.t 10) (.c (.i 1))⟩,
    ⟨some 12, none, .off 0 (.t 1)⟩,
    ⟨some 13, none, .idx 9 1 (.t 12) (.t 11)⟩,
    ⟨some 14, none, .ld true none (.t 13)⟩,
    ⟨some 15, none, .call f_bits_Len64 [] [(.t 14)]⟩,
    ⟨some 16, none, .bin .add (.t 9) (.t 15)⟩,
    ⟨some 2, none, .mov (.t 16)⟩] [2]) (
  .ret))))
def m_nat_Bits : MFn := ⟨c_nat_Bits, [.tmp 2], 0⟩

/-- curvet/nat.Bit -/
def c_nat_Bit : Stm :=
  .seq (
  .reg [
    ⟨some 2, none, .boxv (.t 0)⟩,
    ⟨some 4, none, .mov (.c (.i 0))⟩] [1, 2]) (
  .seq (
  .seq (
  .reg [
    ⟨some 5, none, .mov (.t 1)⟩,
    ⟨some 6, none, .bin .lss (.t 5) (.c (.i 0))⟩,
    ⟨some 7, none, .mov (.t 6)⟩,
    ⟨some 8, (some (7, false)), .mov (.t 1)⟩,
    ⟨some 9, (some (7, false)), .bin .geq (.t 8) (.c (.i 576))⟩,
    ⟨some 10, none, .pick (.t 7) (.c (.b true)) (.t 9)⟩] [1, 2, 10]) (
  .cond (.t 10) (
   .seq (
   .reg [
     ⟨some 4, none, .mov (.c (.i 0))⟩] [4]) (
   .ret)) (
   .reg [] [1, 2]))) (
  .seq (
  .reg [
    ⟨some 11, none, .mov (.t 1)⟩,
    ⟨some 12, none, .bin .quo (.t 11) (.c (.i 64))⟩,
    ⟨some 13, none, .off 0 (.t 2)⟩,
    ⟨some 14, none, .idx 9 1 (.t 13) (.t 12)⟩,
    ⟨some 15, none, .ld true none (.t 14)⟩,
    ⟨some 16, none, .mov (.t 1)⟩,
    ⟨some 17, none, .bin .rem (.t 16) (.c (.i 64))⟩,
    ⟨some 18, none, .bin .shr (.t 15) (.t 17)⟩,
    ⟨some 19, none, .bin .and (.t 18) (.c (.u 64 1))⟩,
    ⟨some 20, none, .cvi (.t 19)⟩,
    ⟨some 4, none, .mov (.t 20)⟩] [4]) (
  .ret)))
def m_nat_Bit : MFn := ⟨c_nat_Bit, [.tmp 4], 0⟩

/-- curvet/divide.length -/
def c_divide_length : Stm :=
  .seq (
  .reg [
    ⟨some 2, none, .mov (.c (.i 0))⟩] [0]) (
  .seq (
  .reg [
    ⟨some 4, none, .mov (.t 0)⟩,
    ⟨some 5, none, .len (.t 4)⟩,
    ⟨some 3, none, .mov (.t 5)⟩] [0, 3]) (
  .seq (
  .block 0 (
   .loop [0, 3] (
    .seq (
    .seq (
    .reg [
      ⟨some 6, none, .mov (.t 3)⟩,
      ⟨some 7, none, .bin .gtr (.t 6) (.c (.i 0))⟩,
      ⟨some 8, none, .mov (.t 7)⟩,
      ⟨some 9, (some (8, true)), .mov (.t 0)⟩,
      ⟨some 10, (some (8, true)), .mov (.t 3)⟩,
      ⟨some 11, (some (8, true)), .bin .sub (.t 10) (.c (.i 1))⟩,
      ⟨some 12, (some (8, true)), .idxs 1 (.t 9) (.t 11)⟩,
      ⟨some 13, (some (8, true)), .ld false none (.t 12)⟩,
      ⟨some 14, (some (8, true)), .bin .eql (.t 13) (.c (.u 64 0))⟩,
      ⟨some 15, none, .pick (.t 8) (.t 14) (.c (.b false))⟩] [0, 3, 15]) (
    .cond (.t 15) (
     .reg [] [0, 3]) (
     .exit 0 [3]))) (
    .block 1 (
     .reg [
       ⟨some 16, none, .mov (.t 3)⟩,
       ⟨some 17, none, .bin .sub (.t 16) (.c (.i 1))⟩,
       ⟨some 3, none, .mov (.t 17)⟩] [0, 3]))))) (
  .seq (
  .reg [
    ⟨some 18, none, .mov (.t 3)⟩,
    ⟨some 2, none, .mov (.t 18)⟩] [2]) (
  .ret))))
def m_divide_length : MFn := ⟨c_divide_length, [.tmp 2], 0⟩

/-- curvet/curvetref1.Sub -/
def c_curvetref1_Sub : Stm :=
  .seq (
  .reg [
    ⟨some 4, none, .mov (.c (.vs 0 []))⟩] [0, 1]) (
  .seq (
  .reg [
    ⟨some 9, none, .mov (.t 0)⟩,
    ⟨some 10, none, .len (.t 9)⟩,
    ⟨some 11, none, .mks 1 4 [.u 32 0] (.t 10) (.t 10)⟩,
    ⟨some 5, none, .mov (.t 11)⟩] [0, 1, 5]) (
  .seq (
  .reg [
    ⟨some 6, none, .mov (.c (.u 64 0))⟩] [0, 1, 5, 6]) (
  .seq (
  .seq (
  .reg [
    ⟨some 7, none, .mov (.c (.i 0))⟩] [0, 1, 5, 6, 7]) (
  .block 0 (
   .loop [0, 1, 5, 6, 7] (
    .seq (
    .seq (
    .reg [
      ⟨some 12, none, .mov (.t 7)⟩,
      ⟨some 13, none, .mov (.t 0)⟩,
      ⟨some 14, none, .len (.t 13)⟩,
      ⟨some 15, none, .bin .lss (.t 12) (.t 14)⟩] [0, 1, 5, 6, 7, 15]) (
    .cond (.t 15) (
     .reg [] [0, 1, 5, 6, 7]) (
     .exit 0 [5]))) (
    .seq (
    .block 1 (
     .seq (
     .reg [
       ⟨some 18, none, .mov (.t 0)⟩,
       ⟨some 19, none, .mov (.t 7)⟩,
       ⟨some 20, none, .call f_curvetref1_digit [] [(.t 18), (.t 19)]⟩,
       ⟨some 21, none, .bin .add (.t 20) (.c (.u 64 4294967296))⟩,
       ⟨some 22, none, .mov (.t 1)⟩,
       ⟨some 23, none, .mov (.t 7)⟩,
       ⟨some 24, none, .call f_curvetref1_digit [] [(.t 22), (.t 23)]⟩,
       ⟨some 25, none, .bin .sub (.t 21) (.t 24)⟩,
       ⟨some 26, none, .mov (.t 6)⟩,
       ⟨some 27, none, .bin .sub (.t 25) (.t 26)⟩,
       ⟨some 8, none, .mov (.t 27)⟩] [0, 1, 5, 7, 8]) (
     .seq (
     .reg [
       ⟨some 28, none, .mov (.t 5)⟩,
       ⟨some 29, none, .mov (.t 7)⟩,
       ⟨some 30, none, .mov (.t 8)⟩,
       ⟨some 31, none, .bin .and (.t 30) (.c (.u 64 4294967295))⟩,
       ⟨some 32, none, .cvu 32 (.t 31)⟩,
       ⟨some 33, none, .idxs 1 (.t 28) (.t 29)⟩,
       ⟨none, none, .st 1 (.t 33) (.t 32)⟩] [0, 1, 5, 7, 8]) (
     .reg [
       ⟨some 34, none, .mov (.t 8)⟩,
       ⟨some 35, none, .bin .shr (.t 34) (.c (.u 64 32))⟩,
       ⟨some 36, none, .bin .sub (.c (.u 64 1)) (.t 35)⟩,
       ⟨some 6, none, .mov (.t 36)⟩] [0, 1, 5, 6, 7])))) (
    .reg [
      ⟨some 16, none, .mov (.t 7)⟩,
      ⟨some 17, none, .bin .add (.t 16) (.c (.i 1))⟩,
      ⟨some 7, none, .mov (.t 17)⟩] [0, 1, 5, 6, 7])))))) (
  .seq (
  .reg [
    ⟨some 37, none, .mov (.t 5)⟩,
    ⟨some 38, none, .call f_curvetref1_trim [] [(.t 37)]⟩,
    ⟨some 4, none, .mov (.t 38)⟩] [4]) (
  .ret)))))
def m_curvetref1_Sub : MFn := ⟨c_curvetref1_Sub, [.tmp 4], 0⟩

/-- curvet/curvetref1.Add -/
def c_curvetref1_Add : Stm :=
  .seq (
  .reg [
    ⟨some 4, none, .mov (.c (.vs 0 []))⟩] [0, 1]) (
  .seq (
  .reg [
    ⟨some 10, none, .mov (.t 0)⟩,
    ⟨some 11, none, .len (.t 10)⟩,
    ⟨some 12, none, .mov (.t 1)⟩,
    ⟨some 13, none, .len (.t 12)⟩,
    ⟨some 14, none, .mx (.t 11) (.t 13)⟩,
    ⟨some 5, none, .mov (.t 14)⟩] [0, 1, 5]) (
  .seq (
  .reg [
    ⟨some 15, none, .mov (.t 5)⟩,
    ⟨some 16, none, .bin .add (.t 15) (.c (.i 1))⟩,
    ⟨some 17, none, .mks 1 4 [.u 32 0] (.t 16) (.t 16)⟩,
    ⟨some 6, none, .mov (.t 17)⟩] [0, 1, 5, 6]) (
  .seq (
  .reg [
    ⟨some 7, none, .mov (.c (.u 64 0))⟩] [0, 1, 5, 6, 7]) (
  .seq (
  .seq (
  .reg [
    ⟨some 8, none, .mov (.c (.i 0))⟩] [0, 1, 5, 6, 7, 8]) (
  .block 0 (
   .loop [0, 1, 5, 6, 7, 8] (
    .seq (
    .seq (
    .reg [
      ⟨some 18, none, .mov (.t 8)⟩,
      ⟨some 19, none, .mov (.t 5)⟩,
      ⟨some 20, none, .bin .lss (.t 18) (.t 19)⟩] [0, 1, 5, 6, 7, 8, 20]) (
    .cond (.t 20) (
     .reg [] [0, 1, 5, 6, 7, 8]) (
     .exit 0 [5, 6, 7]))) (
    .seq (
    .block 1 (
     .seq (
     .reg [
       ⟨some 23, none, .mov (.t 0)⟩,
       ⟨some 24, none, .mov (.t 8)⟩,
       ⟨some 25, none, .call f_curvetref1_digit [] [(.t 23), (.t 24)]⟩,
       ⟨some 26, none, .mov (.t 1)⟩,
       ⟨some 27, none, .mov (.t 8)⟩,
       ⟨some 28, none, .call f_curvetref1_digit [] [(.t 26), (.t 27)]⟩,
       ⟨some 29, none, .bin .add (.t 25) (.t 28)⟩,
       ⟨some 30, none, .mov (.t 7)⟩,
       ⟨some 31, none, .bin .add (.t 29) (.t 30)⟩,
       ⟨some 9, none, .mov (.t 31)⟩] [0, 1, 5, 6, 8, 9]) (
     .seq (
     .reg [
       ⟨some 32, none, .mov (.t 6)⟩,
       ⟨some 33, none, .mov (.t 8)⟩,
       ⟨some 34, none, .mov (.t 9)⟩,
       ⟨some 35, none, .bin .and (.t 34) (.c (.u 64 4294967295))⟩,
       ⟨some 36, none, .cvu 32 (.t 35)⟩,
       ⟨some 37, none, .idxs 1 (.t 32) (.t 33)⟩,
       ⟨none, none, .st 1 (.t 37) (.t 36)⟩] [0, 1, 5, 6, 8, 9]) (
     .reg [
       ⟨some 38, none, .mov (.t 9)⟩,
       ⟨some 39, none, .bin .shr (.t 38) (.c (.u 64 32))⟩,
       ⟨some 7, none, .mov (.t 39)⟩] [0, 1, 5, 6, 7, 8])))) (
    .reg [
      ⟨some 21, none, .mov (.t 8)⟩,
      ⟨some 22, none, .bin .add (.t 21) (.c (.i 1))⟩,
      ⟨some 8, none, .mov (.t 22)⟩] [0, 1, 5, 6, 7, 8])))))) (
  .seq (
  .reg [
    ⟨some 40, none, .mov (.t 6)⟩,
    ⟨some 41, none, .mov (.t 5)⟩,
    ⟨some 42, none, .mov (.t 7)⟩,
    ⟨some 43, none, .cvu 32 (.t 42)⟩,
    ⟨some 44, none, .idxs 1 (.t 40) (.t 41)⟩,
    ⟨none, none, .st 1 (.t 44) (.t 43)⟩] [6]) (
  .seq (
  .reg [
    ⟨some 45, none, .mov (.t 6)⟩,
    ⟨some 46, none, .call f_curvetref1_trim [] [(.t 45)]⟩,
    ⟨some 4, none, .mov (.t 46)⟩] [4]) (
  .ret)))))))
def m_curvetref1_Add : MFn := ⟨c_curvetref1_Add, [.tmp 4], 0⟩

/-- math/bits.LeadingZeros64 -/
def c_bits_LeadingZeros64 : Stm :=
  .seq (
  .reg [
    ⟨some 2, none, .mov (.c (.i 0))⟩] [0]) (
  .seq (
  .reg [
    ⟨some 3, none, .mov (.t 0)⟩,
    ⟨some 4, none, .call f_bits_Len64 [] [(.t 3)]⟩,
    ⟨some 5, none, .bin .sub (.c (.i 64)) (.t 4)⟩,
    ⟨some 2, none, .mov (.t 5)⟩] [2]) (
  .ret))
def m_bits_LeadingZeros64 : MFn := ⟨c_bits_LeadingZeros64, [.tmp 2], 0⟩

/-- (*curvet/divide.divisor).guess -/
def c_divide_divisor_guess : Stm :=
  .seq (
  .reg [
    ⟨some 6, none, .mov (.c (.u 64 0))⟩] [0, 1, 2]) (
  .seq (
  .reg [
    ⟨some 15, none, .mov (.t 0)⟩,
    ⟨some 16, none, .mov (.t 0)⟩,
    ⟨some 17, none, .nck (.t 16)⟩,
    ⟨some 18, none, .off 9 (.t 17)⟩,
    ⟨some 19, none, .ld false none (.t 18)⟩,
    ⟨some 20, none, .bin .sub (.t 19) (.c (.i 1))⟩,
    ⟨some 21, none, .nck (.t 15)⟩,
    ⟨some 22, none, .off 0 (.t 21)⟩,
    ⟨some 23, none, .idx 9 1 (.t 22) (.t 20)⟩,
    ⟨some 24, none, .ld false none (.t 23)⟩,
    ⟨some 7, none, .mov (.t 24)⟩] [0, 1, 2, 7]) (
  .seq (
  .reg [
    ⟨some 25, none, .mov (.t 1)⟩,
    ⟨some 26, none, .mov (.t 2)⟩,
    ⟨some 27, none, .mov (.t 0)⟩,
    ⟨some 28, none, .nck (.t 27)⟩,
    ⟨some 29, none, .off 9 (.t 28)⟩,
    ⟨some 30, none, .ld false none (.t 29)⟩,
    ⟨some 31, none, .bin .add (.t 26) (.t 30)⟩,
    ⟨some 32, none, .idxs 1 (.t 25) (.t 31)⟩,
    ⟨some 33, none, .ld false none (.t 32)⟩,
    ⟨some 34, none, .mov (.t 1)⟩,
    ⟨some 35, none, .mov (.t 2)⟩,
    ⟨some 36, none, .mov (.t 0)⟩,
    ⟨some 37, none, .nck (.t 36)⟩,
    ⟨some 38, none, .off 9 (.t 37)⟩,
    ⟨some 39, none, .ld false none (.t 38)⟩,
    ⟨some 40, none, .bin .add (.t 35) (.t 39)⟩,
    ⟨some 41, none, .bin .sub (.t 40) (.c (.i 1))⟩,
    ⟨some 42, none, .idxs 1 (.t 34) (.t 41)⟩,
    ⟨some 43, none, .ld false none (.t 42)⟩,
    ⟨some 8, none, .mov (.t 33)⟩,
    ⟨some 9, none, .mov (.t 43)⟩] [0, 1, 2, 7, 8, 9]) (
  .seq (
  .seq (
  .reg [
    ⟨some 44, none, .mov (.t 8)⟩,
    ⟨some 45, none, .mov (.t 7)⟩,
    ⟨some 46, none, .bin .geq (.t 44) (.t 45)⟩] [0, 1, 2, 7, 8, 9, 46]) (
  .cond (.t 46) (
   .seq (
   .reg [
     ⟨some 6, none, .mov (.c (.u 64 18446744073709551615))⟩] [6]) (
   .ret)) (
   .reg [] [0, 1, 2, 7, 8, 9]))) (
  .seq (
  .reg [
    ⟨some 48, none, .mov (.t 8)⟩,
    ⟨some 49, none, .mov (.t 9)⟩,
    ⟨some 50, none, .mov (.t 7)⟩,
    ⟨some 51, none, .call f_bits_Div64 [] [(.t 48), (.t 49), (.t 50)]⟩,
    ⟨some 47, none, .mov (.t 51)⟩,
    ⟨some 52, none, .ext 0 (.t 47)⟩,
    ⟨some 53, none, .ext 1 (.t 47)⟩,
    ⟨some 10, none, .mov (.t 52)⟩,
    ⟨some 11, none, .mov (.t 53)⟩] [0, 1, 2, 7, 10, 11]) (
  .seq (
  .seq (
  .reg [
    ⟨some 54, none, .mov (.t 0)⟩,
    ⟨some 55, none, .nck (.t 54)⟩,
    ⟨some 56, none, .off 9 (.t 55)⟩,
    ⟨some 57, none, .ld false none (.t 56)⟩,
    ⟨some 58, none, .bin .eql (.t 57) (.c (.i 1))⟩] [0, 1, 2, 7, 10, 11, 58]) (
  .cond (.t 58) (
   .seq (
   .reg [
     ⟨some 59, none, .mov (.t 10)⟩,
     ⟨some 6, none, .mov (.t 59)⟩] [6]) (
   .ret)) (
   .reg [] [0, 1, 2, 7, 10, 11]))) (
  .block 0 (
   .loop [0, 1, 2, 7, 10, 11] (
    .block 1 (
     .seq (
     .reg [
       ⟨some 61, none, .mov (.t 10)⟩,
       ⟨some 62, none, .mov (.t 0)⟩,
       ⟨some 63, none, .mov (.t 0)⟩,
       ⟨some 64, none, .nck (.t 63)⟩,
       ⟨some 65, none, .off 9 (.t 64)⟩,
       ⟨some 66, none, .ld false none (.t 65)⟩,
       ⟨some 67, none, .bin .sub (.t 66) (.c (.i 2))⟩,
       ⟨some 68, none, .nck (.t 62)⟩,
       ⟨some 69, none, .off 0 (.t 68)⟩,
       ⟨some 70, none, .idx 9 1 (.t 69) (.t 67)⟩,
       ⟨some 71, none, .ld false none (.t 70)⟩,
       ⟨some 72, none, .call f_bits_Mul64 [] [(.t 61), (.t 71)]⟩,
       ⟨some 60, none, .mov (.t 72)⟩,
       ⟨some 73, none, .ext 0 (.t 60)⟩,
       ⟨some 74, none, .ext 1 (.t 60)⟩,
       ⟨some 12, none, .mov (.t 73)⟩,
       ⟨some 13, none, .mov (.t 74)⟩] [0, 1, 2, 7, 10, 11, 12, 13]) (
     .seq (
     .seq (
     .reg [
       ⟨some 75, none, .mov (.t 12)⟩,
       ⟨some 76, none, .mov (.t 11)⟩,
       ⟨some 77, none, .bin .lss (.t 75) (.t 76)⟩,
       ⟨some 78, none, .mov (.t 77)⟩,
       ⟨some 79, (some (78, false)), .mov (.t 12)⟩,
       ⟨some 80, (some (78, false)), .mov (.t 11)⟩,
       ⟨some 81, (some (78, false)), .bin .eql (.t 79) (.t 80)⟩,
       ⟨some 82, (some (78, false)), .mov (.t 81)⟩,
       ⟨some 83, (some (82, true)), .mov (.t 13)⟩,
       ⟨some 84, (some (82, true)), .mov (.t 1)⟩,
       ⟨some 85, (some (82, true)), .mov (.t 2)⟩,
       ⟨some 86, (some (82, true)), .mov (.t 0)⟩,
       ⟨some 87, (some (82, true)), .nck (.t 86)⟩,
       ⟨some 88, (some (82, true)), .off 9 (.t 87)⟩,
       ⟨some 89, (some (82, true)), .ld false none (.t 88)⟩,
       ⟨some 90, (some (82, true)), .bin .add (.t 85) (.t 89)⟩,
       ⟨some 91, (some (82, true)), .bin .sub (.t 90) (.c (.i 2))⟩,
       ⟨some 92, (some (82, true)), .idxs 1 (.t 84) (.t 91)⟩,
       ⟨some 93, (some (82, true)), .ld false none (.t 92)⟩,
       ⟨some 94, (some (82, true)), .bin .leq (.t 83) (.t 93)⟩,
       ⟨some 95, (some (78, false)), .pick (.t 82) (.t 94) (.c (.b false))⟩,
       ⟨some 96, none, .pick (.t 78) (.c (.b true)) (.t 95)⟩] [0, 1, 2, 7, 10, 11, 96]) (
     .cond (.t 96) (
      .seq (
      .reg [
        ⟨some 97, none, .mov (.t 10)⟩,
        ⟨some 6, none, .mov (.t 97)⟩] [6]) (
      .ret)) (
      .reg [] [0, 1, 2, 7, 10, 11]))) (
     .seq (
     .reg [
       ⟨some 98, none, .mov (.t 10)⟩,
       ⟨some 99, none, .bin .sub (.t 98) (.c (.u 64 1))⟩,
       ⟨some 10, none, .mov (.t 99)⟩] [0, 1, 2, 7, 10, 11]) (
     .seq (
     .reg [
       ⟨some 100, none, .mov (.t 11)⟩,
       ⟨some 101, none, .mov (.t 7)⟩,
       ⟨some 102, none, .bin .add (.t 100) (.t 101)⟩,
       ⟨some 14, none, .mov (.t 102)⟩] [0, 1, 2, 7, 10, 11, 14]) (
     .seq (
     .seq (
     .reg [
       ⟨some 103, none, .mov (.t 14)⟩,
       ⟨some 104, none, .mov (.t 11)⟩,
       ⟨some 105, none, .bin .lss (.t 103) (.t 104)⟩] [0, 1, 2, 7, 10, 14, 105]) (
     .cond (.t 105) (
      .seq (
      .reg [
        ⟨some 106, none, .mov (.t 10)⟩,
        ⟨some 6, none, .mov (.t 106)⟩] [6]) (
      .ret)) (
      .reg [] [0, 1, 2, 7, 10, 14]))) (
     .reg [
       ⟨some 107, none, .mov (.t 14)⟩,
       ⟨some 11, none, .mov (.t 107)⟩] [0, 1, 2, 7, 10, 11]))))))))))))))
def m_divide_divisor_guess : MFn := ⟨c_divide_divisor_guess, [.tmp 6], 0⟩

/-- (*curvet/divide.divisor).take -/
def c_divide_divisor_take : Stm :=
  .seq (
  .reg [
    ⟨some 8, none, .mov (.c (.b false))⟩] [0, 1, 2, 3]) (
  .seq (
  .reg [
    ⟨some 9, none, .mov (.c (.u 64 0))⟩,
    ⟨some 10, none, .mov (.c (.u 64 0))⟩] [0, 1, 2, 3, 9, 10]) (
  .seq (
  .seq (
  .reg [
    ⟨some 15, none, .mov (.t 0)⟩,
    ⟨some 16, none, .nck (.t 15)⟩,
    ⟨some 17, none, .off 9 (.t 16)⟩,
    ⟨some 18, none, .ld false none (.t 17)⟩,
    ⟨some 19, none, .mov (.c (.i 0))⟩] [0, 1, 2, 3, 9, 10, 18, 19]) (
  .block 0 (
   .loop [0, 1, 2, 3, 9, 10, 18, 19] (
    .seq (
    .reg [
      ⟨some 20, none, .bin .lss (.t 19) (.t 18)⟩] [0, 1, 2, 3, 9, 10, 18, 19, 20]) (
    .seq (
    .cond (.t 20) (
     .reg [] [0, 1, 2, 3, 9, 10, 18, 19]) (
     .exit 0 [0, 1, 2, 9, 10])) (
    .seq (
    .block 1 (
     .seq (
     .reg [
       ⟨some 21, none, .mov (.t 19)⟩,
       ⟨some 11, none, .mov (.t 21)⟩] [0, 1, 2, 3, 9, 10, 11, 18, 19]) (
     .seq (
     .reg [
       ⟨some 23, none, .mov (.t 3)⟩,
       ⟨some 24, none, .mov (.t 0)⟩,
       ⟨some 25, none, .mov (.t 11)⟩,
       ⟨some 26, none, .nck (.t 24)⟩,
       ⟨some 27, none, .off 0 (.t 26)⟩,
       ⟨some 28, none, .idx 9 1 (.t 27) (.t 25)⟩,
       ⟨some 29, none, .ld false none (.t 28)⟩,
       ⟨some 30, none, .call f_bits_Mul64 [] [(.t 23), (.t 29)]⟩,
       ⟨some 22, none, .mov (.t 30)⟩,
       ⟨some 31, none, .ext 0 (.t 22)⟩,
       ⟨some 32, none, .ext 1 (.t 22)⟩,
       ⟨some 12, none, .mov (.t 31)⟩,
       ⟨some 13, none, .mov (.t 32)⟩] [0, 1, 2, 3, 9, 10, 11, 12, 13, 18, 19]) (
     .seq (
     .reg [
       ⟨some 14, none, .mov (.c (.u 64 0))⟩] [0, 1, 2, 3, 9, 10, 11, 12, 13, 18, 19]) (
     .seq (
     .reg [
       ⟨some 34, none, .mov (.t 13)⟩,
       ⟨some 35, none, .mov (.t 10)⟩,
       ⟨some 36, none, .prim .add64 [(.t 34), (.t 35), (.c (.u 64 0))]⟩,
       ⟨some 33, none, .mov (.t 36)⟩,
       ⟨some 37, none, .ext 0 (.t 33)⟩,
       ⟨some 38, none, .ext 1 (.t 33)⟩,
       ⟨some 13, none, .mov (.t 37)⟩,
       ⟨some 14, none, .mov (.t 38)⟩] [0, 1, 2, 3, 9, 11, 12, 13, 14, 18, 19]) (
     .seq (
     .reg [
       ⟨some 39, none, .mov (.t 12)⟩,
       ⟨some 40, none, .mov (.t 14)⟩,
       ⟨some 41, none, .bin .add (.t 39) (.t 40)⟩,
       ⟨some 10, none, .mov (.t 41)⟩] [0, 1, 2, 3, 9, 10, 11, 13, 18, 19]) (
     .reg [
       ⟨some 43, none, .mov (.t 1)⟩,
       ⟨some 44, none, .mov (.t 2)⟩,
       ⟨some 45, none, .mov (.t 11)⟩,
       ⟨some 46, none, .bin .add (.t 44) (.t 45)⟩,
       ⟨some 47, none, .mov (.t 1)⟩,
       ⟨some 48, none, .mov (.t 2)⟩,
       ⟨some 49, none, .mov (.t 11)⟩,
       ⟨some 50, none, .bin .add (.t 48) (.t 49)⟩,
       ⟨some 51, none, .idxs 1 (.t 47) (.t 50)⟩,
       ⟨some 52, none, .ld false none (.t 51)⟩,
       ⟨some 53, none, .mov (.t 13)⟩,
       ⟨some 54, none, .mov (.t 9)⟩,
       ⟨some 55, none, .prim .sub64 [(.t 52), (.t 53), (.t 54)]⟩,
       ⟨some 42, none, .mov (.t 55)⟩,
       ⟨some 56, none, .ext 0 (.t 42)⟩,
       ⟨some 57, none, .ext 1 (.t 42)⟩,
       ⟨some 58, none, .idxs 1 (.t 43) (.t 46)⟩,
       ⟨none, none, .st 1 (.t 58) (.t 56)⟩,
       ⟨some 9, none, .mov (.t 57)⟩] [0, 1, 2, 3, 9, 10, 18, 19]))))))) (
    .reg [
      ⟨some 59, none, .bin .add (.t 19) (.c (.i 1))⟩,
      ⟨some 19, none, .mov (.t 59)⟩] [0, 1, 2, 3, 9, 10, 18, 19]))))))) (
  .seq (
  .reg [
    ⟨some 61, none, .mov (.t 1)⟩,
    ⟨some 62, none, .mov (.t 2)⟩,
    ⟨some 63, none, .mov (.t 0)⟩,
    ⟨some 64, none, .nck (.t 63)⟩,
    ⟨some 65, none, .off 9 (.t 64)⟩,
    ⟨some 66, none, .ld false none (.t 65)⟩,
    ⟨some 67, none, .bin .add (.t 62) (.t 66)⟩,
    ⟨some 68, none, .mov (.t 1)⟩,
    ⟨some 69, none, .mov (.t 2)⟩,
    ⟨some 70, none, .mov (.t 0)⟩,
    ⟨some 71, none, .nck (.t 70)⟩,
    ⟨some 72, none, .off 9 (.t 71)⟩,
    ⟨some 73, none, .ld false none (.t 72)⟩,
    ⟨some 74, none, .bin .add (.t 69) (.t 73)⟩,
    ⟨some 75, none, .idxs 1 (.t 68) (.t 74)⟩,
    ⟨some 76, none, .ld false none (.t 75)⟩,
    ⟨some 77, none, .mov (.t 10)⟩,
    ⟨some 78, none, .mov (.t 9)⟩,
    ⟨some 79, none, .prim .sub64 [(.t 76), (.t 77), (.t 78)]⟩,
    ⟨some 60, none, .mov (.t 79)⟩,
    ⟨some 80, none, .ext 0 (.t 60)⟩,
    ⟨some 81, none, .ext 1 (.t 60)⟩,
    ⟨some 82, none, .idxs 1 (.t 61) (.t 67)⟩,
    ⟨none, none, .st 1 (.t 82) (.t 80)⟩,
    ⟨some 9, none, .mov (.t 81)⟩] [9]) (
  .seq (
  .reg [
    ⟨some 83, none, .mov (.t 9)⟩,
    ⟨some 84, none, .bin .eql (.t 83) (.c (.u 64 1))⟩,
    ⟨some 8, none, .mov (.t 84)⟩] [8]) (
  .ret)))))
def m_divide_divisor_take : MFn := ⟨c_divide_divisor_take, [.tmp 8], 0⟩

/-- (*curvet/divide.divisor).back -/
def c_divide_divisor_back : Stm :=
  .seq (
  .reg [
    ⟨some 6, none, .mov (.c (.b false))⟩] [0, 1, 2]) (
  .seq (
  .reg [
    ⟨some 7, none, .mov (.c (.u 64 0))⟩] [0, 1, 2, 7]) (
  .seq (
  .seq (
  .reg [
    ⟨some 9, none, .mov (.t 0)⟩,
    ⟨some 10, none, .nck (.t 9)⟩,
    ⟨some 11, none, .off 9 (.t 10)⟩,
    ⟨some 12, none, .ld false none (.t 11)⟩,
    ⟨some 13, none, .mov (.c (.i 0))⟩] [0, 1, 2, 7, 12, 13]) (
  .block 0 (
   .loop [0, 1, 2, 7, 12, 13] (
    .seq (
    .reg [
      ⟨some 14, none, .bin .lss (.t 13) (.t 12)⟩] [0, 1, 2, 7, 12, 13, 14]) (
    .seq (
    .cond (.t 14) (
     .reg [] [0, 1, 2, 7, 12, 13]) (
     .exit 0 [0, 1, 2, 7])) (
    .seq (
    .block 1 (
     .seq (
     .reg [
       ⟨some 15, none, .mov (.t 13)⟩,
       ⟨some 8, none, .mov (.t 15)⟩] [0, 1, 2, 7, 8, 12, 13]) (
     .reg [
       ⟨some 17, none, .mov (.t 1)⟩,
       ⟨some 18, none, .mov (.t 2)⟩,
       ⟨some 19, none, .mov (.t 8)⟩,
       ⟨some 20, none, .bin .add (.t 18) (.t 19)⟩,
       ⟨some 21, none, .mov (.t 1)⟩,
       ⟨some 22, none, .mov (.t 2)⟩,
       ⟨some 23, none, .mov (.t 8)⟩,
       ⟨some 24, none, .bin .add (.t 22) (.t 23)⟩,
       ⟨some 25, none, .idxs 1 (.t 21) (.t 24)⟩,
       ⟨some 26, none, .ld false none (.t 25)⟩,
       ⟨some 27, none, .mov (.t 0)⟩,
       ⟨some 28, none, .mov (.t 8)⟩,
       ⟨some 29, none, .nck (.t 27)⟩,
       ⟨some 30, none, .off 0 (.t 29)⟩,
       ⟨some 31, none, .idx 9 1 (.t 30) (.t 28)⟩,
       ⟨some 32, none, .ld false none (.t 31)⟩,
       ⟨some 33, none, .mov (.t 7)⟩,
       ⟨some 34, none, .prim .add64 [(.t 26), (.t 32), (.t 33)]⟩,
       ⟨some 16, none, .mov (.t 34)⟩,
       ⟨some 35, none, .ext 0 (.t 16)⟩,
       ⟨some 36, none, .ext 1 (.t 16)⟩,
       ⟨some 37, none, .idxs 1 (.t 17) (.t 20)⟩,
       ⟨none, none, .st 1 (.t 37) (.t 35)⟩,
       ⟨some 7, none, .mov (.t 36)⟩] [0, 1, 2, 7, 12, 13]))) (
    .reg [
      ⟨some 38, none, .bin .add (.t 13) (.c (.i 1))⟩,
      ⟨some 13, none, .mov (.t 38)⟩] [0, 1, 2, 7, 12, 13]))))))) (
  .seq (
  .reg [
    ⟨some 40, none, .mov (.t 1)⟩,
    ⟨some 41, none, .mov (.t 2)⟩,
    ⟨some 42, none, .mov (.t 0)⟩,
    ⟨some 43, none, .nck (.t 42)⟩,
    ⟨some 44, none, .off 9 (.t 43)⟩,
    ⟨some 45, none, .ld false none (.t 44)⟩,
    ⟨some 46, none, .bin .add (.t 41) (.t 45)⟩,
    ⟨some 47, none, .mov (.t 1)⟩,
    ⟨some 48, none, .mov (.t 2)⟩,
    ⟨some 49, none, .mov (.t 0)⟩,
    ⟨some 50, none, .nck (.t 49)⟩,
    ⟨some 51, none, .off 9 (.t 50)⟩,
    ⟨some 52, none, .ld false none (.t 51)⟩,
    ⟨some 53, none, .bin .add (.t 48) (.t 52)⟩,
    ⟨some 54, none, .idxs 1 (.t 47) (.t 53)⟩,
    ⟨some 55, none, .ld false none (.t 54)⟩,
    ⟨some 56, none, .mov (.t 7)⟩,
    ⟨some 57, none, .prim .add64 [(.t 55), (.c (.u 64 0)), (.t 56)]⟩,
    ⟨some 39, none, .mov (.t 57)⟩,
    ⟨some 58, none, .ext 0 (.t 39)⟩,
    ⟨some 59, none, .ext 1 (.t 39)⟩,
    ⟨some 60, none, .idxs 1 (.t 40) (.t 46)⟩,
    ⟨none, none, .st 1 (.t 60) (.t 58)⟩,
    ⟨some 7, none, .mov (.t 59)⟩] [7]) (
  .seq (
  .reg [
    ⟨some 61, none, .mov (.t 7)⟩,
    ⟨some 62, none, .bin .eql (.t 61) (.c (.u 64 1))⟩,
    ⟨some 6, none, .mov (.t 62)⟩] [6]) (
  .ret)))))
def m_divide_divisor_back : MFn := ⟨c_divide_divisor_back, [.tmp 6], 0⟩

/-- math/bits.Len64 -/
def c_bits_Len64 : Stm :=
  .seq (
  .reg [
    ⟨some 2, none, .mov (.c (.i 0))⟩] [0, 2]) (
  .seq (
  .seq (
  .reg [
    ⟨some 3, none, .mov (.t 0)⟩,
    ⟨some 4, none, .bin .geq (.t 3) (.c (.u 64 4294967296))⟩] [0, 2, 4]) (
  .cond (.t 4) (
   .seq (
   .reg [
     ⟨some 5, none, .mov (.t 0)⟩,
     ⟨some 6, none, .bin .shr (.t 5) (.c (.u 64 32))⟩,
     ⟨some 0, none, .mov (.t 6)⟩] [0]) (
   .reg [
     ⟨some 2, none, .mov (.c (.i 32))⟩] [0, 2])) (
   .reg [] [0, 2]))) (
  .seq (
  .seq (
  .reg [
    ⟨some 7, none, .mov (.t 0)⟩,
    ⟨some 8, none, .bin .geq (.t 7) (.c (.u 64 65536))⟩] [0, 2, 8]) (
  .cond (.t 8) (
   .seq (
   .reg [
     ⟨some 9, none, .mov (.t 0)⟩,
     ⟨some 10, none, .bin .shr (.t 9) (.c (.u 64 16))⟩,
     ⟨some 0, none, .mov (.t 10)⟩] [0, 2]) (
   .reg [
     ⟨some 11, none, .mov (.t 2)⟩,
     ⟨some 12, none, .bin .add (.t 11) (.c (.i 16))⟩,
     ⟨some 2, none, .mov (.t 12)⟩] [0, 2])) (
   .reg [] [0, 2]))) (
  .seq (
  .seq (
  .reg [
    ⟨some 13, none, .mov (.t 0)⟩,
    ⟨some 14, none, .bin .geq (.t 13) (.c (.u 64 256))⟩] [0, 2, 14]) (
  .cond (.t 14) (
   .seq (
   .reg [
     ⟨some 15, none, .mov (.t 0)⟩,
     ⟨some 16, none, .bin .shr (.t 15) (.c (.u 64 8))⟩,
     ⟨some 0, none, .mov (.t 16)⟩] [0, 2]) (
   .reg [
     ⟨some 17, none, .mov (.t 2)⟩,
     ⟨some 18, none, .bin .add (.t 17) (.c (.i 8))⟩,
     ⟨some 2, none, .mov (.t 18)⟩] [0, 2])) (
   .reg [] [0, 2]))) (
  .seq (
  .reg [
    ⟨some 19, none, .mov (.t 2)⟩,
    ⟨some 20, none, .mov (.t 0)⟩,
    ⟨some 21, none, .cvu 8 (.t 20)⟩,
    ⟨some 22, none, .idxb (.c (.s [0, 1, 2, 2, 3, 3, 3, 3, 4, 4, 4, 4, 4, 4, 4, 4, 5, 5, 5, 5, 5, 5, 5, 5, 5, 5, 5, 5, 5, 5, 5, 5, 6, 6, 6, 6, 6, 6, 6, 6, 6, 6, 6, 6, 6, 6, 6, 6, 6, 6, 6, 6, 6, 6, 6, 6, 6, 6, 6, 6, 6, 6, 6, 6, 7, 7, 7, 7, 7, 7, 7, 7, 7, 7, 7, 7, 7, 7, 7, 7, 7, 7, 7, 7, 7, 7, 7, 7, 7, 7, 7, 7, 7, 7, 7, 7, 7, 7, 7, 7, 7, 7, 7, 7, 7, 7, 7, 7, 7, 7, 7, 7, 7, 7, 7, 7, 7, 7, 7, 7, 7, 7, 7, 7, 7, 7, 7, 7, 8, 8, 8, 8, 8, 8, 8, 8, 8, 8, 8, 8, 8, 8, 8, 8, 8, 8, 8, 8, 8, 8, 8, 8, 8, 8, 8, 8, 8, 8, 8, 8, 8, 8, 8, 8, 8, 8, 8, 8, 8, 8, 8, 8, 8, 8, 8, 8, 8, 8, 8, 8, 8, 8, 8, 8, 8, 8, 8, 8, 8, 8, 8, 8, 8, 8, 8, 8, 8, 8, 8, 8, 8, 8, 8, 8, 8, 8, 8, 8, 8, 8, 8, 8, 8, 8, 8, 8, 8, 8, 8, 8, 8, 8, 8, 8, 8, 8, 8, 8, 8, 8, 8, 8, 8, 8, 8, 8, 8, 8, 8, 8, 8, 8, 8, 8, 8, 8, 8, 8, 8, 8, 8, 8, 8, 8, 8, 8])) (.t 21)⟩,
    ⟨some 23, none, .cvi (.t 22)⟩,
    ⟨some 24, none, .bin .add (.t 19) (.t 23)⟩,
    ⟨some 2, none, .mov (.t 24)⟩] [2]) (
  .ret)))))
def m_bits_Len64 : MFn := ⟨c_bits_Len64, [.tmp 2], 0⟩

/-- math/bits.Div64 -/
def c_bits_Div64 : Stm :=
  .seq (
  .reg [
    ⟨some 6, none, .mov (.c (.u 64 0))⟩,
    ⟨some 7, none, .mov (.c (.u 64 0))⟩] [0, 1, 2]) (
  .seq (
  .seq (
  .reg [
    ⟨some 19, none, .mov (.t 2)⟩,
    ⟨some 20, none, .bin .eql (.t 19) (.c (.u 64 0))⟩] [0, 1, 2, 20]) (
  .cond (.t 20) (
   .reg [
     ⟨some 21, none, .fail⟩,
     ⟨none, none, .fail⟩] [0, 1, 2]) (
   .reg [] [0, 1, 2]))) (
  .seq (
  .seq (
  .reg [
    ⟨some 22, none, .mov (.t 2)⟩,
    ⟨some 23, none, .mov (.t 0)⟩,
    ⟨some 24, none, .bin .leq (.t 22) (.t 23)⟩] [0, 1, 2, 24]) (
  .cond (.t 24) (
   .reg [
     ⟨some 25, none, .fail⟩,
     ⟨none, none, .fail⟩] [0, 1, 2]) (
   .reg [] [0, 1, 2]))) (
  .seq (
  .seq (
  .reg [
    ⟨some 26, none, .mov (.t 0)⟩,
    ⟨some 27, none, .bin .eql (.t 26) (.c (.u 64 0))⟩] [0, 1, 2, 27]) (
  .cond (.t 27) (
   .seq (
   .reg [
     ⟨some 28, none, .mov (.t 1)⟩,
     ⟨some 29, none, .mov (.t 2)⟩,
     ⟨some 30, none, .bin .quo (.t 28) (.t 29)⟩,
     ⟨some 31, none, .mov (.t 1)⟩,
     ⟨some 32, none, .mov (.t 2)⟩,
     ⟨some 33, none, .bin .rem (.t 31) (.t 32)⟩,
     ⟨some 6, none, .mov (.t 30)⟩,
     ⟨some 7, none, .mov (.t 33)⟩] [6, 7]) (
   .ret)) (
   .reg [] [0, 1, 2]))) (
  .seq (
  .reg [
    ⟨some 34, none, .mov (.t 2)⟩,
    ⟨some 35, none, .call f_bits_LeadingZeros64 [] [(.t 34)]⟩,
    ⟨some 36, none, .cvu 64 (.t 35)⟩,
    ⟨some 8, none, .mov (.t 36)⟩] [0, 1, 2, 8]) (
  .seq (
  .reg [
    ⟨some 37, none, .mov (.t 2)⟩,
    ⟨some 38, none, .mov (.t 8)⟩,
    ⟨some 39, none, .bin .shl (.t 37) (.t 38)⟩,
    ⟨some 2, none, .mov (.t 39)⟩] [0, 1, 2, 8]) (
  .seq (
  .reg [
    ⟨some 40, none, .mov (.t 2)⟩,
    ⟨some 41, none, .bin .shr (.t 40) (.c (.u 64 32))⟩,
    ⟨some 9, none, .mov (.t 41)⟩] [0, 1, 2, 8, 9]) (
  .seq (
  .reg [
    ⟨some 42, none, .mov (.t 2)⟩,
    ⟨some 43, none, .bin .and (.t 42) (.c (.u 64 4294967295))⟩,
    ⟨some 10, none, .mov (.t 43)⟩] [0, 1, 2, 8, 9, 10]) (
  .seq (
  .reg [
    ⟨some 44, none, .mov (.t 0)⟩,
    ⟨some 45, none, .mov (.t 8)⟩,
    ⟨some 46, none, .bin .shl (.t 44) (.t 45)⟩,
    ⟨some 47, none, .mov (.t 1)⟩,
    ⟨some 48, none, .mov (.t 8)⟩,
    ⟨some 49, none, .bin .sub (.c (.u 64 64)) (.t 48)⟩,
    ⟨some 50, none, .bin .shr (.t 47) (.t 49)⟩,
    ⟨some 51, none, .bin .or (.t 46) (.t 50)⟩,
    ⟨some 11, none, .mov (.t 51)⟩] [1, 2, 8, 9, 10, 11]) (
  .seq (
  .reg [
    ⟨some 52, none, .mov (.t 1)⟩,
    ⟨some 53, none, .mov (.t 8)⟩,
    ⟨some 54, none, .bin .shl (.t 52) (.t 53)⟩,
    ⟨some 12, none, .mov (.t 54)⟩] [2, 8, 9, 10, 11, 12]) (
  .seq (
  .reg [
    ⟨some 55, none, .mov (.t 12)⟩,
    ⟨some 56, none, .bin .shr (.t 55) (.c (.u 64 32))⟩,
    ⟨some 13, none, .mov (.t 56)⟩] [2, 8, 9, 10, 11, 12, 13]) (
  .seq (
  .reg [
    ⟨some 57, none, .mov (.t 12)⟩,
    ⟨some 58, none, .bin .and (.t 57) (.c (.u 64 4294967295))⟩,
    ⟨some 14, none, .mov (.t 58)⟩] [2, 8, 9, 10, 11, 13, 14]) (
  .seq (
  .reg [
    ⟨some 59, none, .mov (.t 11)⟩,
    ⟨some 60, none, .mov (.t 9)⟩,
    ⟨some 61, none, .bin .quo (.t 59) (.t 60)⟩,
    ⟨some 15, none, .mov (.t 61)⟩] [2, 8, 9, 10, 11, 13, 14, 15]) (
  .seq (
  .reg [
    ⟨some 62, none, .mov (.t 11)⟩,
    ⟨some 63, none, .mov (.t 15)⟩,
    ⟨some 64, none, .mov (.t 9)⟩,
    ⟨some 65, none, .bin .mul (.t 63) (.t 64)⟩,
    ⟨some 66, none, .bin .sub (.t 62) (.t 65)⟩,
    ⟨some 16, none, .mov (.t 66)⟩] [2, 8, 9, 10, 11, 13, 14, 15, 16]) (
  .seq (
  .block 0 (
   .loop [2, 8, 9, 10, 11, 13, 14, 15, 16] (
    .seq (
    .seq (
    .reg [
      ⟨some 67, none, .mov (.t 15)⟩,
      ⟨some 68, none, .bin .geq (.t 67) (.c (.u 64 4294967296))⟩,
      ⟨some 69, none, .mov (.t 68)⟩,
      ⟨some 70, (some (69, false)), .mov (.t 15)⟩,
      ⟨some 71, (some (69, false)), .mov (.t 10)⟩,
      ⟨some 72, (some (69, false)), .bin .mul (.t 70) (.t 71)⟩,
      ⟨some 73, (some (69, false)), .mov (.t 16)⟩,
      ⟨some 74, (some (69, false)), .bin .mul (.c (.u 64 4294967296)) (.t 73)⟩,
      ⟨some 75, (some (69, false)), .mov (.t 13)⟩,
      ⟨some 76, (some (69, false)), .bin .add (.t 74) (.t 75)⟩,
      ⟨some 77, (some (69, false)), .bin .gtr (.t 72) (.t 76)⟩,
      ⟨some 78, none, .pick (.t 69) (.c (.b true)) (.t 77)⟩] [2, 8, 9, 10, 11, 13, 14, 15, 16, 78]) (
    .cond (.t 78) (
     .reg [] [2, 8, 9, 10, 11, 13, 14, 15, 16]) (
     .exit 0 [2, 8, 9, 10, 11, 13, 14, 15]))) (
    .block 1 (
     .seq (
     .reg [
       ⟨some 79, none, .mov (.t 15)⟩,
       ⟨some 80, none, .bin .sub (.t 79) (.c (.u 64 1))⟩,
       ⟨some 15, none, .mov (.t 80)⟩] [2, 8, 9, 10, 11, 13, 14, 15, 16]) (
     .seq (
     .reg [
       ⟨some 81, none, .mov (.t 16)⟩,
       ⟨some 82, none, .mov (.t 9)⟩,
       ⟨some 83, none, .bin .add (.t 81) (.t 82)⟩,
       ⟨some 16, none, .mov (.t 83)⟩] [2, 8, 9, 10, 11, 13, 14, 15, 16]) (
     .seq (
     .reg [
       ⟨some 84, none, .mov (.t 16)⟩,
       ⟨some 85, none, .bin .geq (.t 84) (.c (.u 64 4294967296))⟩] [2, 8, 9, 10, 11, 13, 14, 15, 16, 85]) (
     .cond (.t 85) (
      .exit 0 [2, 8, 9, 10, 11, 13, 14, 15]) (
      .reg [] [2, 8, 9, 10, 11, 13, 14, 15, 16]))))))))) (
  .seq (
  .reg [
    ⟨some 86, none, .mov (.t 11)⟩,
    ⟨some 87, none, .bin .mul (.t 86) (.c (.u 64 4294967296))⟩,
    ⟨some 88, none, .mov (.t 13)⟩,
    ⟨some 89, none, .bin .add (.t 87) (.t 88)⟩,
    ⟨some 90, none, .mov (.t 15)⟩,
    ⟨some 91, none, .mov (.t 2)⟩,
    ⟨some 92, none, .bin .mul (.t 90) (.t 91)⟩,
    ⟨some 93, none, .bin .sub (.t 89) (.t 92)⟩,
    ⟨some 17, none, .mov (.t 93)⟩] [2, 8, 9, 10, 14, 15, 17]) (
  .seq (
  .reg [
    ⟨some 94, none, .mov (.t 17)⟩,
    ⟨some 95, none, .mov (.t 9)⟩,
    ⟨some 96, none, .bin .quo (.t 94) (.t 95)⟩,
    ⟨some 18, none, .mov (.t 96)⟩] [2, 8, 9, 10, 14, 15, 17, 18]) (
  .seq (
  .reg [
    ⟨some 97, none, .mov (.t 17)⟩,
    ⟨some 98, none, .mov (.t 18)⟩,
    ⟨some 99, none, .mov (.t 9)⟩,
    ⟨some 100, none, .bin .mul (.t 98) (.t 99)⟩,
    ⟨some 101, none, .bin .sub (.t 97) (.t 100)⟩,
    ⟨some 16, none, .mov (.t 101)⟩] [2, 8, 9, 10, 14, 15, 16, 17, 18]) (
  .seq (
  .block 2 (
   .loop [2, 8, 9, 10, 14, 15, 16, 17, 18] (
    .seq (
    .seq (
    .reg [
      ⟨some 102, none, .mov (.t 18)⟩,
      ⟨some 103, none, .bin .geq (.t 102) (.c (.u 64 4294967296))⟩,
      ⟨some 104, none, .mov (.t 103)⟩,
      ⟨some 105, (some (104, false)), .mov (.t 18)⟩,
      ⟨some 106, (some (104, false)), .mov (.t 10)⟩,
      ⟨some 107, (some (104, false)), .bin .mul (.t 105) (.t 106)⟩,
      ⟨some 108, (some (104, false)), .mov (.t 16)⟩,
      ⟨some 109, (some (104, false)), .bin .mul (.c (.u 64 4294967296)) (.t 108)⟩,
      ⟨some 110, (some (104, false)), .mov (.t 14)⟩,
      ⟨some 111, (some (104, false)), .bin .add (.t 109) (.t 110)⟩,
      ⟨some 112, (some (104, false)), .bin .gtr (.t 107) (.t 111)⟩,
      ⟨some 113, none, .pick (.t 104) (.c (.b true)) (.t 112)⟩] [2, 8, 9, 10, 14, 15, 16, 17, 18, 113]) (
    .cond (.t 113) (
     .reg [] [2, 8, 9, 10, 14, 15, 16, 17, 18]) (
     .exit 2 [2, 8, 14, 15, 17, 18]))) (
    .block 3 (
     .seq (
     .reg [
       ⟨some 114, none, .mov (.t 18)⟩,
       ⟨some 115, none, .bin .sub (.t 114) (.c (.u 64 1))⟩,
       ⟨some 18, none, .mov (.t 115)⟩] [2, 8, 9, 10, 14, 15, 16, 17, 18]) (
     .seq (
     .reg [
       ⟨some 116, none, .mov (.t 16)⟩,
       ⟨some 117, none, .mov (.t 9)⟩,
       ⟨some 118, none, .bin .add (.t 116) (.t 117)⟩,
       ⟨some 16, none, .mov (.t 118)⟩] [2, 8, 9, 10, 14, 15, 16, 17, 18]) (
     .seq (
     .reg [
       ⟨some 119, none, .mov (.t 16)⟩,
       ⟨some 120, none, .bin .geq (.t 119) (.c (.u 64 4294967296))⟩] [2, 8, 9, 10, 14, 15, 16, 17, 18, 120]) (
     .cond (.t 120) (
      .exit 2 [2, 8, 14, 15, 17, 18]) (
      .reg [] [2, 8, 9, 10, 14, 15, 16, 17, 18]))))))))) (
  .seq (
  .reg [
    ⟨some 121, none, .mov (.t 15)⟩,
    ⟨some 122, none, .bin .mul (.t 121) (.c (.u 64 4294967296))⟩,
    ⟨some 123, none, .mov (.t 18)⟩,
    ⟨some 124, none, .bin .add (.t 122) (.t 123)⟩,
    ⟨some 125, none, .mov (.t 17)⟩,
    ⟨some 126, none, .bin .mul (.t 125) (.c (.u 64 4294967296))⟩,
    ⟨some 127, none, .mov (.t 14)⟩,
    ⟨some 128, none, .bin .add (.t 126) (.t 127)⟩,
    ⟨some 129, none, .mov (.t 18)⟩,
    ⟨some 130, none, .mov (.t 2)⟩,
    ⟨some 131, none, .bin .mul (.t 129) (.t 130)⟩,
    ⟨some 132, none, .bin .sub (.t 128) (.t 131)⟩,
    ⟨some 133, none, .mov (.t 8)⟩,
    ⟨some 134, none, .bin .shr (.t 132) (.t 133)⟩,
    ⟨some 6, none, .mov (.t 124)⟩,
    ⟨some 7, none, .mov (.t 134)⟩] [6, 7]) (
  .ret))))))))))))))))))))
def m_bits_Div64 : MFn := ⟨c_bits_Div64, [.tmp 6, .tmp 7], 0⟩

/-- curvet/nat.Of -/
def c_nat_Of : Stm :=
  .seq (
  .reg [
    ⟨some 2, none, .box (.c (.agg [.u 64 0, .u 64 0, .u 64 0, .u 64 0, .u 64 0, .u 64 0, .u 64 0, .u 64 0, .u 64 0]))⟩,
    ⟨some 3, none, .mov (.c (.i 0))⟩] [0, 2]) (
  .seq (
  .seq (
  .reg [
    ⟨some 7, none, .mov (.t 0)⟩,
    ⟨some 8, none, .lens (.t 7)⟩,
    ⟨some 9, none, .bin .gtr (.t 8) (.c (.i 72))⟩] [0, 2, 9]) (
  .cond (.t 9) (
   .seq (
   .reg [
     ⟨some 10, none, .build [.u 64 0, .u 64 0, .u 64 0, .u 64 0, .u 64 0, .u 64 0, .u 64 0, .u 64 0, .u 64 0] []⟩,
     ⟨none, none, .stl 2 9 (.t 2) (.t 10)⟩,
     ⟨some 3, none, .mov (.c (.i 100))⟩] [2, 3]) (
   .ret)) (
   .reg [] [0, 2]))) (
  .seq (
  .reg [
    ⟨some 4, none, .box (.c (.agg [.u 64 0, .u 64 0, .u 64 0, .u 64 0, .u 64 0, .u 64 0, .u 64 0, .u 64 0, .u 64 0]))⟩] [0, 2, 4]) (
  .seq (
  .seq (
  .reg [
    ⟨some 11, none, .mov (.t 0)⟩,
    ⟨some 12, none, .lens (.t 11)⟩,
    ⟨some 13, none, .mov (.c (.i 0))⟩] [0, 2, 4, 12, 13]) (
  .block 0 (
   .loop [0, 2, 4, 12, 13] (
    .seq (
    .reg [
      ⟨some 14, none, .bin .lss (.t 13) (.t 12)⟩] [0, 2, 4, 12, 13, 14]) (
    .seq (
    .cond (.t 14) (
     .reg [] [0, 2, 4, 12, 13]) (
     .exit 0 [2, 4])) (
    .seq (
    .block 1 (
     .seq (
     .reg [
       ⟨some 15, none, .mov (.t 13)⟩,
       ⟨some 5, none, .mov (.t 15)⟩] [0, 2, 4, 5, 12, 13]) (
     .seq (
     .reg [
       ⟨some 16, none, .mov (.t 0)⟩,
       ⟨some 17, none, .lens (.t 16)⟩,
       ⟨some 18, none, .bin .sub (.t 17) (.c (.i 1))⟩,
       ⟨some 19, none, .mov (.t 5)⟩,
       ⟨some 20, none, .bin .sub (.t 18) (.t 19)⟩,
       ⟨some 6, none, .mov (.t 20)⟩] [0, 2, 4, 5, 6, 12, 13]) (
     .reg [
       ⟨some 21, none, .mov (.t 5)⟩,
       ⟨some 22, none, .bin .quo (.t 21) (.c (.i 8))⟩,
       ⟨some 23, none, .off 0 (.t 4)⟩,
       ⟨some 24, none, .idx 9 1 (.t 23) (.t 22)⟩,
       ⟨some 25, none, .ldl 4 none (.t 24)⟩,
       ⟨some 26, none, .mov (.t 0)⟩,
       ⟨some 27, none, .mov (.t 6)⟩,
       ⟨some 28, none, .idxb (.t 26) (.t 27)⟩,
       ⟨some 29, none, .cvu 64 (.t 28)⟩,
       ⟨some 30, none, .mov (.t 5)⟩,
       ⟨some 31, none, .bin .rem (.t 30) (.c (.i 8))⟩,
       ⟨some 32, none, .bin .mul (.c (.i 8)) (.t 31)⟩,
       ⟨some 33, none, .bin .shl (.t 29) (.t 32)⟩,
       ⟨some 34, none, .bin .or (.t 25) (.t 33)⟩,
       ⟨some 35, none, .off 0 (.t 4)⟩,
       ⟨some 36, none, .idx 9 1 (.t 35) (.t 22)⟩,
       ⟨none, none, .stl 4 1 (.t 36) (.t 34)⟩] [0, 2, 4, 12, 13])))) (
    .reg [
      ⟨some 37, none, .bin .add (.t 13) (.c (.i 1))⟩,
      ⟨some 13, none, .mov (.t 37)⟩] [0, 2, 4, 12, 13]))))))) (
  .seq (
  .reg [
    ⟨some 38, none, .ldl 4 (some 9) (.t 4)⟩,
    ⟨none, none, .stl 2 9 (.t 2) (.t 38)⟩,
    ⟨some 3, none, .mov (.c (.i 0))⟩] [2, 3]) (
  .ret)))))
def m_nat_Of : MFn := ⟨c_nat_Of, [.cell 2 (some 9), .tmp 3], 0⟩

/-- curvet/nat.Bytes -/
def c_nat_Bytes : Stm :=
  .seq (
  .reg [
    ⟨some 2, none, .boxv (.t 0)⟩,
    ⟨some 4, none, .mov (.c (.s []))⟩,
    ⟨some 5, none, .mov (.c (.i 0))⟩] [1, 2]) (
  .seq (
  .seq (
  .reg [
    ⟨some 8, none, .mov (.t 1)⟩,
    ⟨some 9, none, .bin .lss (.t 8) (.c (.i 0))⟩,
    ⟨some 10, none, .mov (.t 9)⟩,
    ⟨some 11, (some (10, false)), .mov (.t 1)⟩,
    ⟨some 12, (some (10, false)), .bin .gtr (.t 11) (.c (.i 72))⟩,
    ⟨some 13, none, .pick (.t 10) (.c (.b true)) (.t 12)⟩,
    ⟨some 14, none, .mov (.t 13)⟩,
    ⟨some 15, (some (14, false)), .ld true (some 9) (.t 2)⟩,
    ⟨some 16, (some (14, false)), .call f_nat_Bits [] [(.t 15)]⟩,
    ⟨some 17, (some (14, false)), .mov (.t 1)⟩,
    ⟨some 18, (some (14, false)), .bin .mul (.c (.i 8)) (.t 17)⟩,
    ⟨some 19, (some (14, false)), .bin .gtr (.t 16) (.t 18)⟩,
    ⟨some 20, none, .pick (.t 14) (.c (.b true)) (.t 19)⟩] [1, 2, 20]) (
  .cond (.t 20) (
   .seq (
   .reg [
     ⟨some 4, none, .mov (.c (.s []))⟩,
     ⟨some 5, none, .mov (.c (.i 101))⟩] [4, 5]) (
   .ret)) (
   .reg [] [1, 2]))) (
  .seq (
  .reg [
    ⟨some 21, none, .mov (.t 1)⟩,
    ⟨some 22, none, .mks 1 1 [.u 8 0] (.t 21) (.t 21)⟩,
    ⟨some 6, none, .mov (.t 22)⟩] [1, 2, 6]) (
  .seq (
  .seq (
  .reg [
    ⟨some 23, none, .mov (.t 6)⟩,
    ⟨some 24, none, .len (.t 23)⟩,
    ⟨some 25, none, .mov (.c (.i 0))⟩] [1, 2, 6, 24, 25]) (
  .block 0 (
   .loop [1, 2, 6, 24, 25] (
    .seq (
    .reg [
      ⟨some 26, none, .bin .lss (.t 25) (.t 24)⟩] [1, 2, 6, 24, 25, 26]) (
    .seq (
    .cond (.t 26) (
     .reg [] [1, 2, 6, 24, 25]) (
     .exit 0 [6])) (
    .seq (
    .block 1 (
     .seq (
     .reg [
       ⟨some 27, none, .mov (.t 25)⟩,
       ⟨some 7, none, .mov (.t 27)⟩] [1, 2, 6, 7, 24, 25]) (
     .reg [
       ⟨some 28, none, .mov (.t 6)⟩,
       ⟨some 29, none, .mov (.t 1)⟩,
       ⟨some 30, none, .bin .sub (.t 29) (.c (.i 1))⟩,
       ⟨some 31, none, .mov (.t 7)⟩,
       ⟨some 32, none, .bin .sub (.t 30) (.t 31)⟩,
       ⟨some 33, none, .mov (.t 7)⟩,
       ⟨some 34, none, .bin .quo (.t 33) (.c (.i 8))⟩,
       ⟨some 35, none, .off 0 (.t 2)⟩,
       ⟨some 36, none, .idx 9 1 (.t 35) (.t 34)⟩,
       ⟨some 37, none, .ld true none (.t 36)⟩,
       ⟨some 38, none, .mov (.t 7)⟩,
       ⟨some 39, none, .bin .rem (.t 38) (.c (.i 8))⟩,
       ⟨some 40, none, .bin .mul (.c (.i 8)) (.t 39)⟩,
       ⟨some 41, none, .bin .shr (.t 37) (.t 40)⟩,
       ⟨some 42, none, .cvu 8 (.t 41)⟩,
       ⟨some 43, none, .idxs 1 (.t 28) (.t 32)⟩,
       ⟨none, none, .st 1 (.t 43) (.t 42)⟩] [1, 2, 6, 24, 25]))) (
    .reg [
      ⟨some 44, none, .bin .add (.t 25) (.c (.i 1))⟩,
      ⟨some 25, none, .mov (.t 44)⟩] [1, 2, 6, 24, 25]))))))) (
  .seq (
  .reg [
    ⟨some 45, none, .mov (.t 6)⟩,
    ⟨some 46, none, .b2s false (.t 45)⟩,
    ⟨some 4, none, .mov (.t 46)⟩,
    ⟨some 5, none, .mov (.c (.i 0))⟩] [4, 5]) (
  .ret)))))
def m_nat_Bytes : MFn := ⟨c_nat_Bytes, [.tmp 4, .tmp 5], 0⟩

/-- curvet/curvetref1.Bytes -/
def c_curvetref1_Bytes : Stm :=
  .seq (
  .reg [
    ⟨some 4, none, .mov (.c (.s []))⟩,
    ⟨some 5, none, .mov (.c (.b false))⟩] [0, 1]) (
  .seq (
  .seq (
  .reg [
    ⟨some 8, none, .mov (.t 1)⟩,
    ⟨some 9, none, .bin .lss (.t 8) (.c (.i 0))⟩,
    ⟨some 10, none, .mov (.t 9)⟩,
    ⟨some 11, (some (10, false)), .mov (.t 1)⟩,
    ⟨some 12, (some (10, false)), .bin .gtr (.t 11) (.c (.i 72))⟩,
    ⟨some 13, none, .pick (.t 10) (.c (.b true)) (.t 12)⟩,
    ⟨some 14, none, .mov (.t 13)⟩,
    ⟨some 15, (some (14, false)), .mov (.t 0)⟩,
    ⟨some 16, (some (14, false)), .call f_curvetref1_Bits [] [(.t 15)]⟩,
    ⟨some 17, (some (14, false)), .mov (.t 1)⟩,
    ⟨some 18, (some (14, false)), .bin .mul (.c (.i 8)) (.t 17)⟩,
    ⟨some 19, (some (14, false)), .bin .gtr (.t 16) (.t 18)⟩,
    ⟨some 20, none, .pick (.t 14) (.c (.b true)) (.t 19)⟩] [0, 1, 20]) (
  .cond (.t 20) (
   .seq (
   .reg [
     ⟨some 4, none, .mov (.c (.s []))⟩,
     ⟨some 5, none, .mov (.c (.b false))⟩] [4, 5]) (
   .ret)) (
   .reg [] [0, 1]))) (
  .seq (
  .reg [
    ⟨some 21, none, .mov (.t 1)⟩,
    ⟨some 22, none, .mks 1 1 [.u 8 0] (.t 21) (.t 21)⟩,
    ⟨some 6, none, .mov (.t 22)⟩] [0, 1, 6]) (
  .seq (
  .seq (
  .reg [
    ⟨some 7, none, .mov (.c (.i 0))⟩] [0, 1, 6, 7]) (
  .block 0 (
   .loop [0, 1, 6, 7] (
    .seq (
    .seq (
    .reg [
      ⟨some 23, none, .mov (.t 7)⟩,
      ⟨some 24, none, .mov (.t 1)⟩,
      ⟨some 25, none, .bin .lss (.t 23) (.t 24)⟩] [0, 1, 6, 7, 25]) (
    .cond (.t 25) (
     .reg [] [0, 1, 6, 7]) (
     .exit 0 [6]))) (
    .seq (
    .block 1 (
     .reg [
       ⟨some 28, none, .mov (.t 6)⟩,
       ⟨some 29, none, .mov (.t 1)⟩,
       ⟨some 30, none, .bin .sub (.t 29) (.c (.i 1))⟩,
       ⟨some 31, none, .mov (.t 7)⟩,
       ⟨some 32, none, .bin .sub (.t 30) (.t 31)⟩,
       ⟨some 33, none, .mov (.t 0)⟩,
       ⟨some 34, none, .mov (.t 7)⟩,
       ⟨some 35, none, .bin .quo (.t 34) (.c (.i 4))⟩,
       ⟨some 36, none, .call f_curvetref1_digit [] [(.t 33), (.t 35)]⟩,
       ⟨some 37, none, .mov (.t 7)⟩,
       ⟨some 38, none, .bin .rem (.t 37) (.c (.i 4))⟩,
       ⟨some 39, none, .bin .mul (.t 38) (.c (.i 8))⟩,
       ⟨some 40, none, .bin .shr (.t 36) (.t 39)⟩,
       ⟨some 41, none, .bin .and (.t 40) (.c (.u 64 255))⟩,
       ⟨some 42, none, .cvu 8 (.t 41)⟩,
       ⟨some 43, none, .idxs 1 (.t 28) (.t 32)⟩,
       ⟨none, none, .st 1 (.t 43) (.t 42)⟩] [0, 1, 6, 7])) (
    .reg [
      ⟨some 26, none, .mov (.t 7)⟩,
      ⟨some 27, none, .bin .add (.t 26) (.c (.i 1))⟩,
      ⟨some 7, none, .mov (.t 27)⟩] [0, 1, 6, 7])))))) (
  .seq (
  .reg [
    ⟨some 44, none, .mov (.t 6)⟩,
    ⟨some 45, none, .b2s false (.t 44)⟩,
    ⟨some 4, none, .mov (.t 45)⟩,
    ⟨some 5, none, .mov (.c (.b true))⟩] [4, 5]) (
  .ret)))))
def m_curvetref1_Bytes : MFn := ⟨c_curvetref1_Bytes, [.tmp 4, .tmp 5], 0⟩

/-- curvet/curvetref1.Read -/
def c_curvetref1_Read : Stm :=
  .seq (
  .reg [
    ⟨some 2, none, .mov (.c (.vs 0 []))⟩] [0]) (
  .seq (
  .reg [
    ⟨some 6, none, .mov (.t 0)⟩,
    ⟨some 7, none, .lens (.t 6)⟩,
    ⟨some 8, none, .bin .quo (.t 7) (.c (.i 4))⟩,
    ⟨some 9, none, .bin .add (.t 8) (.c (.i 1))⟩,
    ⟨some 10, none, .mks 1 4 [.u 32 0] (.t 9) (.t 9)⟩,
    ⟨some 3, none, .mov (.t 10)⟩] [0, 3]) (
  .seq (
  .seq (
  .reg [
    ⟨some 4, none, .mov (.c (.i 0))⟩] [0, 3, 4]) (
  .block 0 (
   .loop [0, 3, 4] (
    .seq (
    .seq (
    .reg [
      ⟨some 11, none, .mov (.t 4)⟩,
      ⟨some 12, none, .mov (.t 0)⟩,
      ⟨some 13, none, .lens (.t 12)⟩,
      ⟨some 14, none, .bin .lss (.t 11) (.t 13)⟩] [0, 3, 4, 14]) (
    .cond (.t 14) (
     .reg [] [0, 3, 4]) (
     .exit 0 [3]))) (
    .seq (
    .block 1 (
     .seq (
     .reg [
       ⟨some 17, none, .mov (.t 0)⟩,
       ⟨some 18, none, .lens (.t 17)⟩,
       ⟨some 19, none, .bin .sub (.t 18) (.c (.i 1))⟩,
       ⟨some 20, none, .mov (.t 4)⟩,
       ⟨some 21, none, .bin .sub (.t 19) (.t 20)⟩,
       ⟨some 5, none, .mov (.t 21)⟩] [0, 3, 4, 5]) (
     .reg [
       ⟨some 22, none, .mov (.t 3)⟩,
       ⟨some 23, none, .mov (.t 5)⟩,
       ⟨some 24, none, .bin .quo (.t 23) (.c (.i 4))⟩,
       ⟨some 25, none, .mov (.t 3)⟩,
       ⟨some 26, none, .mov (.t 5)⟩,
       ⟨some 27, none, .bin .quo (.t 26) (.c (.i 4))⟩,
       ⟨some 28, none, .idxs 1 (.t 25) (.t 27)⟩,
       ⟨some 29, none, .ld false none (.t 28)⟩,
       ⟨some 30, none, .mov (.t 0)⟩,
       ⟨some 31, none, .mov (.t 4)⟩,
       ⟨some 32, none, .idxb (.t 30) (.t 31)⟩,
       ⟨some 33, none, .cvu 32 (.t 32)⟩,
       ⟨some 34, none, .mov (.t 5)⟩,
       ⟨some 35, none, .bin .rem (.t 34) (.c (.i 4))⟩,
       ⟨some 36, none, .bin .mul (.t 35) (.c (.i 8))⟩,
       ⟨some 37, none, .bin .shl (.t 33) (.t 36)⟩,
       ⟨some 38, none, .bin .or (.t 29) (.t 37)⟩,
       ⟨some 39, none, .idxs 1 (.t 22) (.t 24)⟩,
       ⟨none, none, .st 1 (.t 39) (.t 38)⟩] [0, 3, 4]))) (
    .reg [
      ⟨some 15, none, .mov (.t 4)⟩,
      ⟨some 16, none, .bin .add (.t 15) (.c (.i 1))⟩,
      ⟨some 4, none, .mov (.t 16)⟩] [0, 3, 4])))))) (
  .seq (
  .reg [
    ⟨some 40, none, .mov (.t 3)⟩,
    ⟨some 41, none, .call f_curvetref1_trim [] [(.t 40)]⟩,
    ⟨some 2, none, .mov (.t 41)⟩] [2]) (
  .ret))))
def m_curvetref1_Read : MFn := ⟨c_curvetref1_Read, [.tmp 2], 0⟩

/-- curvet/nat.Shl -/
def c_nat_Shl : Stm :=
  .seq (
  .reg [
    ⟨some 2, none, .boxv (.t 0)⟩,
    ⟨some 4, none, .box (.c (.agg [.u 64 0, .u 64 0, .u 64 0, .u 64 0, .u 64 0, .u 64 0, .u 64 0, .u 64 0, .u 64 0]))⟩,
    ⟨some 5, none, .mov (.c (.i 0))⟩] [1, 2, 4]) (
  .seq (
  .seq (
  .reg [
    ⟨some 10, none, .mov (.t 1)⟩,
    ⟨some 11, none, .bin .lss (.t 10) (.c (.i 0))⟩,
    ⟨some 12, none, .mov (.t 11)⟩,
    ⟨some 13, (some (12, false)), .mov (.t 1)⟩,
    ⟨some 14, (some (12, false)), .bin .gtr (.t 13) (.c (.i 576))⟩,
    ⟨some 15, none, .pick (.t 12) (.c (.b true)) (.t 14)⟩] [1, 2, 4, 15]) (
  .cond (.t 15) (
   .seq (
   .reg [
     ⟨some 16, none, .build [.u 64 0, .u 64 0, .u 64 0, .u 64 0, .u 64 0, .u 64 0, .u 64 0, .u 64 0, .u 64 0] []⟩,
     ⟨none, none, .stl 4 9 (.t 4) (.t 16)⟩,
     ⟨some 5, none, .mov (.c (.i 102))⟩] [4, 5]) (
   .ret)) (
   .reg [] [1, 2, 4]))) (
  .seq (
  .reg [
    ⟨some 6, none, .box (.c (.agg [.u 64 0, .u 64 0, .u 64 0, .u 64 0, .u 64 0, .u 64 0, .u 64 0, .u 64 0, .u 64 0]))⟩] [1, 2, 4, 6]) (
  .seq (
  .reg [
    ⟨some 17, none, .mov (.t 1)⟩,
    ⟨some 18, none, .bin .quo (.t 17) (.c (.i 64))⟩,
    ⟨some 19, none, .mov (.t 1)⟩,
    ⟨some 20, none, .bin .rem (.t 19) (.c (.i 64))⟩,
    ⟨some 7, none, .mov (.t 18)⟩,
    ⟨some 8, none, .mov (.t 20)⟩] [2, 4, 6, 7, 8]) (
  .seq (
  .seq (
  .reg [
    ⟨some 21, none, .mov (.t 7)⟩,
    ⟨some 9, none, .mov (.t 21)⟩] [2, 4, 6, 7, 8, 9]) (
  .block 0 (
   .loop [2, 4, 6, 7, 8, 9] (
    .seq (
    .seq (
    .reg [
      ⟨some 22, none, .mov (.t 9)⟩,
      ⟨some 23, none, .bin .lss (.t 22) (.c (.i 9))⟩] [2, 4, 6, 7, 8, 9, 23]) (
    .cond (.t 23) (
     .reg [] [2, 4, 6, 7, 8, 9]) (
     .exit 0 [4, 6]))) (
    .seq (
    .block 1 (
     .seq (
     .reg [
       ⟨some 26, none, .mov (.t 9)⟩,
       ⟨some 27, none, .mov (.t 9)⟩,
       ⟨some 28, none, .mov (.t 7)⟩,
       ⟨some 29, none, .bin .sub (.t 27) (.t 28)⟩,
       ⟨some 30, none, .off 0 (.t 2)⟩,
       ⟨some 31, none, .idx 9 1 (.t 30) (.t 29)⟩,
       ⟨some 32, none, .ld true none (.t 31)⟩,
       ⟨some 33, none, .mov (.t 8)⟩,
       ⟨some 34, none, .bin .shl (.t 32) (.t 33)⟩,
       ⟨some 35, none, .off 0 (.t 6)⟩,
       ⟨some 36, none, .idx 9 1 (.t 35) (.t 26)⟩,
       ⟨none, none, .stl 6 1 (.t 36) (.t 34)⟩] [2, 4, 6, 7, 8, 9]) (
     .seq (
     .reg [
       ⟨some 37, none, .mov (.t 9)⟩,
       ⟨some 38, none, .mov (.t 7)⟩,
       ⟨some 39, none, .bin .gtr (.t 37) (.t 38)⟩] [2, 4, 6, 7, 8, 9, 39]) (
     .cond (.t 39) (
      .reg [
        ⟨some 40, none, .mov (.t 9)⟩,
        ⟨some 41, none, .off 0 (.t 6)⟩,
        ⟨some 42, none, .idx 9 1 (.t 41) (.t 40)⟩,
        ⟨some 43, none, .ldl 6 none (.t 42)⟩,
        ⟨some 44, none, .mov (.t 9)⟩,
        ⟨some 45, none, .mov (.t 7)⟩,
        ⟨some 46, none, .bin .sub (.t 44) (.t 45)⟩,
        ⟨some 47, none, .bin .sub (.t 46) (.c (.i 1))⟩,
        ⟨some 48, none, .off 0 (.t 2)⟩,
        ⟨some 49, none, .idx 9 1 (.t 48) (.t 47)⟩,
        ⟨some 50, none, .ld true none (.t 49)⟩,
        ⟨some 51, none, .mov (.t 8)⟩,
        ⟨some 52, none, .bin .sub (.c (.i 64)) (.t 51)⟩,
        ⟨some 53, none, .bin .shr (.t 50) (.t 52)⟩,
        ⟨some 54, none, .bin .or (.t 43) (.t 53)⟩,
        ⟨some 55, none, .off 0 (.t 6)⟩,
        ⟨some 56, none, .idx 9 1 (.t 55) (.t 40)⟩,
        ⟨none, none, .stl 6 1 (.t 56) (.t 54)⟩] [2, 4, 6, 7, 8, 9]) (
      .reg [] [2, 4, 6, 7, 8, 9]))))) (
    .reg [
      ⟨some 24, none, .mov (.t 9)⟩,
      ⟨some 25, none, .bin .add (.t 24) (.c (.i 1))⟩,
      ⟨some 9, none, .mov (.t 25)⟩] [2, 4, 6, 7, 8, 9])))))) (
  .seq (
  .reg [
    ⟨some 57, none, .ldl 6 (some 9) (.t 6)⟩,
    ⟨none, none, .stl 4 9 (.t 4) (.t 57)⟩,
    ⟨some 5, none, .mov (.c (.i 0))⟩] [4, 5]) (
  .ret))))))
def m_nat_Shl : MFn := ⟨c_nat_Shl, [.cell 4 (some 9), .tmp 5], 0⟩

/-- curvet/curvetref1.Wide -/
def c_curvetref1_Wide : Stm :=
  .seq (
  .reg [
    ⟨some 2, none, .box (.c (.agg [.u 64 0, .u 64 0, .u 64 0, .u 64 0, .u 64 0, .u 64 0, .u 64 0, .u 64 0, .u 64 0, .u 64 0, .u 64 0, .u 64 0, .u 64 0, .u 64 0, .u 64 0, .u 64 0, .u 64 0, .u 64 0]))⟩] [0, 2]) (
  .seq (
  .reg [
    ⟨some 3, none, .box (.c (.agg [.u 64 0, .u 64 0, .u 64 0, .u 64 0, .u 64 0, .u 64 0, .u 64 0, .u 64 0, .u 64 0, .u 64 0, .u 64 0, .u 64 0, .u 64 0, .u 64 0, .u 64 0, .u 64 0, .u 64 0, .u 64 0]))⟩] [0, 2, 3]) (
  .seq (
  .seq (
  .reg [
    ⟨some 4, none, .mov (.c (.i 0))⟩] [0, 2, 3, 4]) (
  .block 0 (
   .loop [0, 2, 3, 4] (
    .seq (
    .seq (
    .reg [
      ⟨some 5, none, .mov (.t 4)⟩,
      ⟨some 6, none, .bin .lss (.t 5) (.c (.i 18))⟩] [0, 2, 3, 4, 6]) (
    .cond (.t 6) (
     .reg [] [0, 2, 3, 4]) (
     .exit 0 [2, 3]))) (
    .seq (
    .block 1 (
     .reg [
       ⟨some 9, none, .mov (.t 4)⟩,
       ⟨some 10, none, .mov (.t 0)⟩,
       ⟨some 11, none, .mov (.t 4)⟩,
       ⟨some 12, none, .bin .mul (.c (.i 2)) (.t 11)⟩,
       ⟨some 13, none, .call f_curvetref1_digit [] [(.t 10), (.t 12)]⟩,
       ⟨some 14, none, .mov (.t 0)⟩,
       ⟨some 15, none, .mov (.t 4)⟩,
       ⟨some 16, none, .bin .mul (.c (.i 2)) (.t 15)⟩,
       ⟨some 17, none, .bin .add (.t 16) (.c (.i 1))⟩,
       ⟨some 18, none, .call f_curvetref1_digit [] [(.t 14), (.t 17)]⟩,
       ⟨some 19, none, .bin .shl (.t 18) (.c (.u 64 32))⟩,
       ⟨some 20, none, .bin .or (.t 13) (.t 19)⟩,
       ⟨some 21, none, .off 0 (.t 3)⟩,
       ⟨some 22, none, .idx 18 1 (.t 21) (.t 9)⟩,
       ⟨none, none, .stl 3 1 (.t 22) (.t 20)⟩] [0, 2, 3, 4])) (
    .reg [
      ⟨some 7, none, .mov (.t 4)⟩,
      ⟨some 8, none, .bin .add (.t 7) (.c (.i 1))⟩,
      ⟨some 4, none, .mov (.t 8)⟩] [0, 2, 3, 4])))))) (
  .seq (
  .reg [
    ⟨some 23, none, .ldl 3 (some 18) (.t 3)⟩,
    ⟨none, none, .stl 2 18 (.t 2) (.t 23)⟩] [2]) (
  .ret))))
def m_curvetref1_Wide : MFn := ⟨c_curvetref1_Wide, [.cell 2 (some 18)], 0⟩

/-- curvet/nat.Shr -/
def c_nat_Shr : Stm :=
  .seq (
  .reg [
    ⟨some 2, none, .boxv (.t 0)⟩,
    ⟨some 4, none, .box (.c (.agg [.u 64 0, .u 64 0, .u 64 0, .u 64 0, .u 64 0, .u 64 0, .u 64 0, .u 64 0, .u 64 0]))⟩,
    ⟨some 5, none, .mov (.c (.i 0))⟩] [1, 2, 4]) (
  .seq (
  .seq (
  .reg [
    ⟨some 10, none, .mov (.t 1)⟩,
    ⟨some 11, none, .bin .lss (.t 10) (.c (.i 0))⟩,
    ⟨some 12, none, .mov (.t 11)⟩,
    ⟨some 13, (some (12, false)), .mov (.t 1)⟩,
    ⟨some 14, (some (12, false)), .bin .gtr (.t 13) (.c (.i 576))⟩,
    ⟨some 15, none, .pick (.t 12) (.c (.b true)) (.t 14)⟩] [1, 2, 4, 15]) (
  .cond (.t 15) (
   .seq (
   .reg [
     ⟨some 16, none, .build [.u 64 0, .u 64 0, .u 64 0, .u 64 0, .u 64 0, .u 64 0, .u 64 0, .u 64 0, .u 64 0] []⟩,
     ⟨none, none, .stl 4 9 (.t 4) (.t 16)⟩,
     ⟨some 5, none, .mov (.c (.i 102))⟩] [4, 5]) (
   .ret)) (
   .reg [] [1, 2, 4]))) (
  .seq (
  .reg [
    ⟨some 6, none, .box (.c (.agg [.u 64 0, .u 64 0, .u 64 0, .u 64 0, .u 64 0, .u 64 0, .u 64 0, .u 64 0, .u 64 0]))⟩] [1, 2, 4, 6]) (
  .seq (
  .reg [
    ⟨some 17, none, .mov (.t 1)⟩,
    ⟨some 18, none, .bin .quo (.t 17) (.c (.i 64))⟩,
    ⟨some 19, none, .mov (.t 1)⟩,
    ⟨some 20, none, .bin .rem (.t 19) (.c (.i 64))⟩,
    ⟨some 7, none, .mov (.t 18)⟩,
    ⟨some 8, none, .mov (.t 20)⟩] [2, 4, 6, 7, 8]) (
  .seq (
  .seq (
  .reg [
    ⟨some 21, none, .mov (.t 7)⟩,
    ⟨some 22, none, .bin .sub (.c (.i 9)) (.t 21)⟩,
    ⟨some 23, none, .mov (.c (.i 0))⟩] [2, 4, 6, 7, 8, 22, 23]) (
  .block 0 (
   .loop [2, 4, 6, 7, 8, 22, 23] (
    .seq (
    .reg [
      ⟨some 24, none, .bin .lss (.t 23) (.t 22)⟩] [2, 4, 6, 7, 8, 22, 23, 24]) (
    .seq (
    .cond (.t 24) (
     .reg [] [2, 4, 6, 7, 8, 22, 23]) (
     .exit 0 [4, 6])) (
    .seq (
    .block 1 (
     .seq (
     .reg [
       ⟨some 25, none, .mov (.t 23)⟩,
       ⟨some 9, none, .mov (.t 25)⟩] [2, 4, 6, 7, 8, 9, 22, 23]) (
     .seq (
     .reg [
       ⟨some 26, none, .mov (.t 9)⟩,
       ⟨some 27, none, .mov (.t 9)⟩,
       ⟨some 28, none, .mov (.t 7)⟩,
       ⟨some 29, none, .bin .add (.t 27) (.t 28)⟩,
       ⟨some 30, none, .off 0 (.t 2)⟩,
       ⟨some 31, none, .idx 9 1 (.t 30) (.t 29)⟩,
       ⟨some 32, none, .ld true none (.t 31)⟩,
       ⟨some 33, none, .mov (.t 8)⟩,
       ⟨some 34, none, .bin .shr (.t 32) (.t 33)⟩,
       ⟨some 35, none, .off 0 (.t 6)⟩,
       ⟨some 36, none, .idx 9 1 (.t 35) (.t 26)⟩,
       ⟨none, none, .stl 6 1 (.t 36) (.t 34)⟩] [2, 4, 6, 7, 8, 9, 22, 23]) (
     .seq (
     .reg [
       ⟨some 37, none, .mov (.t 9)⟩,
       ⟨some 38, none, .mov (.t 7)⟩,
       ⟨some 39, none, .bin .add (.t 37) (.t 38)⟩,
       ⟨some 40, none, .bin .add (.t 39) (.c (.i 1))⟩,
       ⟨some 41, none, .bin .lss (.t 40) (.c (.i 9))⟩] [2, 4, 6, 7, 8, 9, 22, 23, 41]) (
     .cond (.t 41) (
      .reg [
        ⟨some 42, none, .mov (.t 9)⟩,
        ⟨some 43, none, .off 0 (.t 6)⟩,
        ⟨some 44, none, .idx 9 1 (.t 43) (.t 42)⟩,
        ⟨some 45, none, .ldl 6 none (.t 44)⟩,
        ⟨some 46, none, .mov (.t 9)⟩,
        ⟨some 47, none, .mov (.t 7)⟩,
        ⟨some 48, none, .bin .add (.t 46) (.t 47)⟩,
        ⟨some 49, none, .bin .add (.t 48) (.c (.i 1))⟩,
        ⟨some 50, none, .off 0 (.t 2)⟩,
        ⟨some 51, none, .idx 9 1 (.t 50) (.t 49)⟩,
        ⟨some 52, none, .ld true none (.t 51)⟩,
        ⟨some 53, none, .mov (.t 8)⟩,
        ⟨some 54, none, .bin .sub (.c (.i 64)) (.t 53)⟩,
        ⟨some 55, none, .bin .shl (.t 52) (.t 54)⟩,
        ⟨some 56, none, .bin .or (.t 45) (.t 55)⟩,
        ⟨some 57, none, .off 0 (.t 6)⟩,
        ⟨some 58, none, .idx 9 1 (.t 57) (.t 42)⟩,
        ⟨none, none, .stl 6 1 (.t 58) (.t 56)⟩] [2, 4, 6, 7, 8, 22, 23]) (
      .reg [] [2, 4, 6, 7, 8, 22, 23])))))) (
    .reg [
      ⟨some 59, none, .bin .add (.t 23) (.c (.i 1))⟩,
      ⟨some 23, none, .mov (.t 59)⟩] [2, 4, 6, 7, 8, 22, 23]))))))) (
  .seq (
  .reg [
    ⟨some 60, none, .ldl 6 (some 9) (.t 6)⟩,
    ⟨none, none, .stl 4 9 (.t 4) (.t 60)⟩,
    ⟨some 5, none, .mov (.c (.i 0))⟩] [4, 5]) (
  .ret))))))
def m_nat_Shr : MFn := ⟨c_nat_Shr, [.cell 4 (some 9), .tmp 5], 0⟩

/-- curvet/curvetref1.Small -/
def c_curvetref1_Small : Stm :=
  .seq (
  .reg [
    ⟨some 2, none, .mov (.c (.vs 0 []))⟩] [0]) (
  .seq (
  .seq (
  .reg [
    ⟨some 3, none, .mov (.t 0)⟩,
    ⟨some 4, none, .bin .lss (.t 3) (.c (.i 0))⟩] [0, 4]) (
  .cond (.t 4) (
   .seq (
   .reg [
     ⟨some 2, none, .mov (.c (.vs 0 []))⟩] [2]) (
   .ret)) (
   .reg [] [0]))) (
  .seq (
  .reg [
    ⟨some 5, none, .mov (.t 0)⟩,
    ⟨some 6, none, .cvu 64 (.t 5)⟩,
    ⟨some 7, none, .bin .and (.t 6) (.c (.u 64 4294967295))⟩,
    ⟨some 8, none, .cvu 32 (.t 7)⟩,
    ⟨some 9, none, .mov (.t 0)⟩,
    ⟨some 10, none, .cvu 64 (.t 9)⟩,
    ⟨some 11, none, .bin .shr (.t 10) (.c (.u 64 32))⟩,
    ⟨some 12, none, .cvu 32 (.t 11)⟩,
    ⟨some 13, none, .lit true 1 2 [.u 32 0, .u 32 0] [(0, 1, (.t 8)), (1, 1, (.t 12))]⟩,
    ⟨some 14, none, .call f_curvetref1_trim [] [(.t 13)]⟩,
    ⟨some 2, none, .mov (.t 14)⟩] [2]) (
  .ret)))
def m_curvetref1_Small : MFn := ⟨c_curvetref1_Small, [.tmp 2], 0⟩

def tab : List (Nat × MFn) := [
  (f_curvetlaw4_DividePowers, m_curvetlaw4_DividePowers),
  (f_curvetlaw4_DivideSums, m_curvetlaw4_DivideSums),
  (f_curvetlaw4_DivideExponents, m_curvetlaw4_DivideExponents),
  (f_curvetlaw4_DivideTimes, m_curvetlaw4_DivideTimes),
  (f_curvetlaw4_DivideBack, m_curvetlaw4_DivideBack),
  (f_curvetlaw4_DivideSmall, m_curvetlaw4_DivideSmall),
  (f_curvetlaw4_Divides, m_curvetlaw4_Divides),
  (f_curvetlaw4_DivideInverse, m_curvetlaw4_DivideInverse),
  (f_curvetlaw4_DivideWide, m_curvetlaw4_DivideWide),
  (f_divide_PowMod, m_divide_PowMod),
  (f_divide_Inverse, m_divide_Inverse),
  (f_curvetref1_From, m_curvetref1_From),
  (f_curvetlaw0_Num, m_curvetlaw0_Num),
  (f_curvetlaw4_awake, m_curvetlaw4_awake),
  (f_curvetref1_Inverse, m_curvetref1_Inverse),
  (f_curvetref1_Nat, m_curvetref1_Nat),
  (f_curvetref1_PowMod, m_curvetref1_PowMod),
  (f_curvetlaw0_Nat, m_curvetlaw0_Nat),
  (f_nat_Add, m_nat_Add),
  (f_divide_Div, m_divide_Div),
  (f_curvetlaw0_One, m_curvetlaw0_One),
  (f_divide_MulMod, m_divide_MulMod),
  (f_nat_Mul, m_nat_Mul),
  (f_nat_Cmp, m_nat_Cmp),
  (f_divide_Mod, m_divide_Mod),
  (f_curvetref1_Div, m_curvetref1_Div),
  (f_curvetref1_Mod, m_curvetref1_Mod),
  (f_curvetref1_Of, m_curvetref1_Of),
  (f_curvetref1_Mul, m_curvetref1_Mul),
  (f_divide_zero, m_divide_zero),
  (f_divide_By, m_divide_By),
  (f_divide_Modulus_Pow, m_divide_Modulus_Pow),
  (f_nat_Small, m_nat_Small),
  (f_divide_Modulus_Mul, m_divide_Modulus_Mul),
  (f_nat_Sub, m_nat_Sub),
  (f_curvetref1_trim, m_curvetref1_trim),
  (f_curvetref1_Cmp, m_curvetref1_Cmp),
  (f_curvetref1_SubMod, m_curvetref1_SubMod),
  (f_curvetref1_MulMod, m_curvetref1_MulMod),
  (f_curvetref1_digit, m_curvetref1_digit),
  (f_curvetref1_Bits, m_curvetref1_Bits),
  (f_curvetref1_Bit, m_curvetref1_Bit),
  (f_divide_of, m_divide_of),
  (f_divide_divisor_divide, m_divide_divisor_divide),
  (f_nat_used, m_nat_used),
  (f_bits_Mul64, m_bits_Mul64),
  (f_curvetref1_short, m_curvetref1_short),
  (f_curvetref1_Shl, m_curvetref1_Shl),
  (f_curvetref1_step, m_curvetref1_step),
  (f_curvetref1_Shr, m_curvetref1_Shr),
  (f_nat_Bits, m_nat_Bits),
  (f_nat_Bit, m_nat_Bit),
  (f_divide_length, m_divide_length),
  (f_curvetref1_Sub, m_curvetref1_Sub),
  (f_curvetref1_Add, m_curvetref1_Add),
  (f_bits_LeadingZeros64, m_bits_LeadingZeros64),
  (f_divide_divisor_guess, m_divide_divisor_guess),
  (f_divide_divisor_take, m_divide_divisor_take),
  (f_divide_divisor_back, m_divide_divisor_back),
  (f_bits_Len64, m_bits_Len64),
  (f_bits_Div64, m_bits_Div64),
  (f_nat_Of, m_nat_Of),
  (f_nat_Bytes, m_nat_Bytes),
  (f_curvetref1_Bytes, m_curvetref1_Bytes),
  (f_curvetref1_Read, m_curvetref1_Read),
  (f_nat_Shl, m_nat_Shl),
  (f_curvetref1_Wide, m_curvetref1_Wide),
  (f_nat_Shr, m_nat_Shr),
  (f_curvetref1_Small, m_curvetref1_Small)]
def look (f : Nat) : List (Nat × MFn) → Option MFn
  | [] => none
  | (g, m) :: r => bif Nat.beq g f then some m else look f r
def T (f : Nat) : Option MFn := look f tab
end Mir
