/- The functions of the cut, written down in the small language. Conditions: none. -/
import Derived.Test.YtgeeonanodgmiaaLim
set_option maxRecDepth 100000
namespace Mir

abbrev f_curvetlaw1_NatBytes : Nat := 0
abbrev f_curvetlaw1_NatBack : Nat := 1
abbrev f_curvetlaw1_NatShares : Nat := 2
abbrev f_curvetlaw1_NatEnds : Nat := 3
abbrev f_curvetlaw1_NatPowers : Nat := 4
abbrev f_curvetlaw1_NatSums : Nat := 5
abbrev f_curvetlaw1_NatRules : Nat := 6
abbrev f_curvetlaw1_NatOrder : Nat := 7
abbrev f_curvetlaw1_NatShifts : Nat := 8
abbrev f_curvetlaw1_NatDigits : Nat := 9
abbrev f_curvetlaw1_NatBits : Nat := 10
abbrev f_nat_Of : Nat := 11
abbrev f_nat_Bytes : Nat := 12
abbrev f_curvetref1_Bytes : Nat := 13
abbrev f_curvetref1_From : Nat := 14
abbrev f_curvetlaw0_Num : Nat := 15
abbrev f_curvetlaw1_awake : Nat := 16
abbrev f_curvetref1_Nat : Nat := 17
abbrev f_curvetref1_Read : Nat := 18
abbrev f_nat_Bits : Nat := 19
abbrev f_curvetlaw0_Nat : Nat := 20
abbrev f_nat_Add : Nat := 21
abbrev f_curvetlaw1_low : Nat := 22
abbrev f_nat_Mul : Nat := 23
abbrev f_curvetlaw0_One : Nat := 24
abbrev f_nat_Sub : Nat := 25
abbrev f_nat_Shl : Nat := 26
abbrev f_nat_Bit : Nat := 27
abbrev f_curvetref1_Add : Nat := 28
abbrev f_curvetref1_Cmp : Nat := 29
abbrev f_curvetref1_Sub : Nat := 30
abbrev f_curvetref1_Shl : Nat := 31
abbrev f_curvetref1_Bits : Nat := 32
abbrev f_curvetref1_Wide : Nat := 33
abbrev f_curvetref1_Mul : Nat := 34
abbrev f_nat_Cmp : Nat := 35
abbrev f_nat_Shr : Nat := 36
abbrev f_curvetref1_Bit : Nat := 37
abbrev f_nat_Small : Nat := 38
abbrev f_curvetref1_Small : Nat := 39
abbrev f_curvetref1_Shr : Nat := 40
abbrev f_curvetref1_digit : Nat := 41
abbrev f_curvetref1_trim : Nat := 42
abbrev f_nat_used : Nat := 43
abbrev f_bits_Len64 : Nat := 44
abbrev f_bits_Mul64 : Nat := 45

/-- curvet/curvetlaw1.NatBytes -/
def c_curvetlaw1_NatBytes : Stm :=
  .seq (
  .reg [
    ⟨some 3, none, .boxv (.t 0)⟩,
    ⟨some 6, none, .mov (.c (.b false))⟩] [1, 2, 3]) (
  .seq (
  .reg [
    ⟨some 14, none, .mov (.t 1)⟩,
    ⟨some 15, none, .call f_nat_Of [] [(.t 14)]⟩,
    ⟨some 13, none, .mov (.t 15)⟩,
    ⟨some 16, none, .ext 0 (.t 13)⟩,
    ⟨some 17, none, .ext 1 (.t 13)⟩,
    ⟨some 7, none, .box (.c (.agg [.u 64 0, .u 64 0, .u 64 0, .u 64 0, .u 64 0, .u 64 0, .u 64 0, .u 64 0, .u 64 0]))⟩,
    ⟨none, none, .stl 7 9 (.t 7) (.t 16)⟩,
    ⟨some 8, none, .mov (.t 17)⟩] [1, 2, 3, 7, 8]) (
  .seq (
  .reg [
    ⟨some 19, none, .ld true (some 9) (.t 3)⟩,
    ⟨some 20, none, .mov (.t 2)⟩,
    ⟨some 21, none, .call f_nat_Bytes [] [(.t 19), (.t 20)]⟩,
    ⟨some 18, none, .mov (.t 21)⟩,
    ⟨some 22, none, .ext 0 (.t 18)⟩,
    ⟨some 23, none, .ext 1 (.t 18)⟩,
    ⟨some 9, none, .mov (.t 22)⟩,
    ⟨some 10, none, .mov (.t 23)⟩] [1, 2, 3, 7, 8, 9, 10]) (
  .seq (
  .reg [
    ⟨some 25, none, .ld true (some 9) (.t 3)⟩,
    ⟨some 26, none, .call f_curvetref1_From [] [(.t 25)]⟩,
    ⟨some 27, none, .mov (.t 2)⟩,
    ⟨some 28, none, .call f_curvetref1_Bytes [] [(.t 26), (.t 27)]⟩,
    ⟨some 24, none, .mov (.t 28)⟩,
    ⟨some 29, none, .ext 0 (.t 24)⟩,
    ⟨some 30, none, .ext 1 (.t 24)⟩,
    ⟨some 11, none, .mov (.t 29)⟩,
    ⟨some 12, none, .mov (.t 30)⟩] [1, 7, 8, 9, 10, 11, 12]) (
  .seq (
  .seq (
  .reg [
    ⟨some 31, none, .mov (.t 9)⟩,
    ⟨some 32, none, .mov (.t 11)⟩,
    ⟨some 33, none, .bin .neq (.t 31) (.t 32)⟩,
    ⟨some 34, none, .mov (.t 33)⟩,
    ⟨some 35, (some (34, false)), .mov (.t 10)⟩,
    ⟨some 36, (some (34, false)), .call f_curvetlaw0_Num [] [(.t 35)]⟩,
    ⟨some 37, (some (34, false)), .bin .eql (.t 36) (.c (.i 0))⟩,
    ⟨some 38, (some (34, false)), .mov (.t 12)⟩,
    ⟨some 39, (some (34, false)), .eqv .bool true (.t 37) (.t 38)⟩,
    ⟨some 40, none, .pick (.t 34) (.c (.b true)) (.t 39)⟩,
    ⟨some 41, none, .mov (.t 40)⟩,
    ⟨some 42, (some (41, false)), .mov (.t 12)⟩,
    ⟨some 43, (some (41, false)), .un .not (.t 42)⟩,
    ⟨some 44, (some (41, false)), .mov (.t 43)⟩,
    ⟨some 45, (some (44, true)), .mov (.t 10)⟩,
    ⟨some 46, (some (44, true)), .call f_curvetlaw0_Num [] [(.t 45)]⟩,
    ⟨some 47, (some (44, true)), .bin .neq (.t 46) (.c (.i 101))⟩,
    ⟨some 48, (some (41, false)), .pick (.t 44) (.t 47) (.c (.b false))⟩,
    ⟨some 49, none, .pick (.t 41) (.c (.b true)) (.t 48)⟩] [1, 7, 8, 49]) (
  .cond (.t 49) (
   .seq (
   .reg [
     ⟨some 6, none, .mov (.c (.b false))⟩] [6]) (
   .ret)) (
   .reg [] [1, 7, 8]))) (
  .seq (
  .seq (
  .reg [
    ⟨some 50, none, .mov (.t 1)⟩,
    ⟨some 51, none, .lens (.t 50)⟩,
    ⟨some 52, none, .bin .gtr (.t 51) (.c (.i 72))⟩] [1, 7, 8, 52]) (
  .cond (.t 52) (
   .seq (
   .reg [
     ⟨some 53, none, .mov (.t 8)⟩,
     ⟨some 54, none, .call f_curvetlaw0_Num [] [(.t 53)]⟩,
     ⟨some 55, none, .bin .eql (.t 54) (.c (.i 100))⟩,
     ⟨some 56, none, .mov (.t 55)⟩,
     ⟨some 57, (some (56, true)), .ldl 7 (some 9) (.t 7)⟩,
     ⟨some 58, (some (56, true)), .build [.u 64 0, .u 64 0, .u 64 0, .u 64 0, .u 64 0, .u 64 0, .u 64 0, .u 64 0, .u 64 0] []⟩,
     ⟨some 59, (some (56, true)), .eqv (.agg [.u 64, .u 64, .u 64, .u 64, .u 64, .u 64, .u 64, .u 64, .u 64]) false (.t 57) (.t 58)⟩,
     ⟨some 60, none, .pick (.t 56) (.t 59) (.c (.b false))⟩,
     ⟨some 61, none, .mov (.t 60)⟩,
     ⟨some 62, (some (61, true)), .call f_curvetlaw1_awake [] []⟩,
     ⟨some 63, none, .pick (.t 61) (.t 62) (.c (.b false))⟩,
     ⟨some 6, none, .mov (.t 63)⟩] [6]) (
   .ret)) (
   .reg [] [1, 7, 8]))) (
  .seq (
  .reg [
    ⟨some 64, none, .mov (.t 8)⟩,
    ⟨some 65, none, .call f_curvetlaw0_Num [] [(.t 64)]⟩,
    ⟨some 66, none, .bin .eql (.t 65) (.c (.i 0))⟩,
    ⟨some 67, none, .mov (.t 66)⟩,
    ⟨some 68, (some (67, true)), .ldl 7 (some 9) (.t 7)⟩,
    ⟨some 69, (some (67, true)), .mov (.t 1)⟩,
    ⟨some 70, (some (67, true)), .call f_curvetref1_Read [] [(.t 69)]⟩,
    ⟨some 71, (some (67, true)), .call f_curvetref1_Nat [] [(.t 70)]⟩,
    ⟨some 72, (some (67, true)), .eqv (.agg [.u 64, .u 64, .u 64, .u 64, .u 64, .u 64, .u 64, .u 64, .u 64]) false (.t 68) (.t 71)⟩,
    ⟨some 73, none, .pick (.t 67) (.t 72) (.c (.b false))⟩,
    ⟨some 74, none, .mov (.t 73)⟩,
    ⟨some 75, (some (74, true)), .call f_curvetlaw1_awake [] []⟩,
    ⟨some 76, none, .pick (.t 74) (.t 75) (.c (.b false))⟩,
    ⟨some 6, none, .mov (.t 76)⟩] [6]) (
  .ret)))))))
def m_curvetlaw1_NatBytes : MFn := ⟨c_curvetlaw1_NatBytes, [.tmp 6], 0⟩

/-- curvet/curvetlaw1.NatBack -/
def c_curvetlaw1_NatBack : Stm :=
  .seq (
  .reg [
    ⟨some 2, none, .boxv (.t 0)⟩,
    ⟨some 4, none, .mov (.c (.b false))⟩] [1, 2]) (
  .seq (
  .seq (
  .reg [
    ⟨some 13, none, .call f_curvetlaw1_awake [] []⟩,
    ⟨some 14, none, .un .not (.t 13)⟩] [1, 2, 14]) (
  .cond (.t 14) (
   .seq (
   .reg [
     ⟨some 4, none, .mov (.c (.b false))⟩] [4]) (
   .ret)) (
   .reg [] [1, 2]))) (
  .seq (
  .reg [
    ⟨some 15, none, .ld true (some 9) (.t 2)⟩,
    ⟨some 16, none, .call f_nat_Bits [] [(.t 15)]⟩,
    ⟨some 17, none, .bin .add (.t 16) (.c (.i 7))⟩,
    ⟨some 18, none, .bin .quo (.t 17) (.c (.i 8))⟩,
    ⟨some 5, none, .mov (.t 18)⟩] [1, 2, 5]) (
  .seq (
  .reg [
    ⟨some 19, none, .mov (.t 5)⟩,
    ⟨some 20, none, .mov (.t 1)⟩,
    ⟨some 21, none, .bin .and (.t 20) (.c (.i 15))⟩,
    ⟨some 22, none, .bin .add (.t 19) (.t 21)⟩,
    ⟨some 23, none, .mn (.c (.i 72)) (.t 22)⟩,
    ⟨some 6, none, .mov (.t 23)⟩] [2, 5, 6]) (
  .seq (
  .reg [
    ⟨some 25, none, .ld true (some 9) (.t 2)⟩,
    ⟨some 26, none, .mov (.t 6)⟩,
    ⟨some 27, none, .call f_nat_Bytes [] [(.t 25), (.t 26)]⟩,
    ⟨some 24, none, .mov (.t 27)⟩,
    ⟨some 28, none, .ext 0 (.t 24)⟩,
    ⟨some 29, none, .ext 1 (.t 24)⟩,
    ⟨some 7, none, .mov (.t 28)⟩,
    ⟨some 8, none, .mov (.t 29)⟩] [2, 5, 6, 7, 8]) (
  .seq (
  .reg [
    ⟨some 31, none, .mov (.t 7)⟩,
    ⟨some 32, none, .call f_nat_Of [] [(.t 31)]⟩,
    ⟨some 30, none, .mov (.t 32)⟩,
    ⟨some 33, none, .ext 0 (.t 30)⟩,
    ⟨some 34, none, .ext 1 (.t 30)⟩,
    ⟨some 9, none, .box (.c (.agg [.u 64 0, .u 64 0, .u 64 0, .u 64 0, .u 64 0, .u 64 0, .u 64 0, .u 64 0, .u 64 0]))⟩,
    ⟨none, none, .stl 9 9 (.t 9) (.t 33)⟩,
    ⟨some 10, none, .mov (.t 34)⟩] [2, 5, 6, 7, 8, 9, 10]) (
  .seq (
  .reg [
    ⟨some 36, none, .ld true (some 9) (.t 2)⟩,
    ⟨some 37, none, .mov (.t 5)⟩,
    ⟨some 38, none, .bin .sub (.t 37) (.c (.i 1))⟩,
    ⟨some 39, none, .call f_nat_Bytes [] [(.t 36), (.t 38)]⟩,
    ⟨some 35, none, .mov (.t 39)⟩,
    ⟨some 40, none, .ext 0 (.t 35)⟩,
    ⟨some 41, none, .ext 1 (.t 35)⟩,
    ⟨some 11, none, .mov (.t 40)⟩,
    ⟨some 12, none, .mov (.t 41)⟩] [2, 6, 7, 8, 9, 10, 12]) (
  .seq (
  .reg [
    ⟨some 42, none, .mov (.t 8)⟩,
    ⟨some 43, none, .call f_curvetlaw0_Num [] [(.t 42)]⟩,
    ⟨some 44, none, .bin .eql (.t 43) (.c (.i 0))⟩,
    ⟨some 45, none, .mov (.t 44)⟩,
    ⟨some 46, (some (45, true)), .mov (.t 10)⟩,
    ⟨some 47, (some (45, true)), .call f_curvetlaw0_Num [] [(.t 46)]⟩,
    ⟨some 48, (some (45, true)), .bin .eql (.t 47) (.c (.i 0))⟩,
    ⟨some 49, none, .pick (.t 45) (.t 48) (.c (.b false))⟩,
    ⟨some 50, none, .mov (.t 49)⟩,
    ⟨some 51, (some (50, true)), .ldl 9 (some 9) (.t 9)⟩,
    ⟨some 52, (some (50, true)), .ld true (some 9) (.t 2)⟩,
    ⟨some 53, (some (50, true)), .eqv (.agg [.u 64, .u 64, .u 64, .u 64, .u 64, .u 64, .u 64, .u 64, .u 64]) false (.t 51) (.t 52)⟩,
    ⟨some 54, none, .pick (.t 50) (.t 53) (.c (.b false))⟩,
    ⟨some 55, none, .mov (.t 54)⟩,
    ⟨some 56, (some (55, true)), .mov (.t 7)⟩,
    ⟨some 57, (some (55, true)), .lens (.t 56)⟩,
    ⟨some 58, (some (55, true)), .mov (.t 6)⟩,
    ⟨some 59, (some (55, true)), .bin .eql (.t 57) (.t 58)⟩,
    ⟨some 60, none, .pick (.t 55) (.t 59) (.c (.b false))⟩,
    ⟨some 61, none, .mov (.t 60)⟩,
    ⟨some 62, (some (61, true)), .mov (.t 12)⟩,
    ⟨some 63, (some (61, true)), .call f_curvetlaw0_Num [] [(.t 62)]⟩,
    ⟨some 64, (some (61, true)), .bin .eql (.t 63) (.c (.i 101))⟩,
    ⟨some 65, none, .pick (.t 61) (.t 64) (.c (.b false))⟩,
    ⟨some 4, none, .mov (.t 65)⟩] [4]) (
  .ret))))))))
def m_curvetlaw1_NatBack : MFn := ⟨c_curvetlaw1_NatBack, [.tmp 4], 0⟩

/-- curvet/curvetlaw1.NatShares -/
def c_curvetlaw1_NatShares : Stm :=
  .seq (
  .reg [
    ⟨some 3, none, .boxv (.t 0)⟩,
    ⟨some 4, none, .boxv (.t 1)⟩,
    ⟨some 5, none, .boxv (.t 2)⟩,
    ⟨some 6, none, .mov (.c (.b false))⟩] [3, 4, 5]) (
  .seq (
  .seq (
  .reg [
    ⟨some 20, none, .call f_curvetlaw1_awake [] []⟩,
    ⟨some 21, none, .un .not (.t 20)⟩] [3, 4, 5, 21]) (
  .cond (.t 21) (
   .seq (
   .reg [
     ⟨some 6, none, .mov (.c (.b false))⟩] [6]) (
   .ret)) (
   .reg [] [3, 4, 5]))) (
  .seq (
  .reg [
    ⟨some 22, none, .off 0 (.t 3)⟩,
    ⟨some 23, none, .ld true (some 9) (.t 22)⟩,
    ⟨some 24, none, .call f_curvetlaw0_Nat [] [(.t 23), (.c (.i 280))]⟩,
    ⟨some 25, none, .off 0 (.t 4)⟩,
    ⟨some 26, none, .ld true (some 9) (.t 25)⟩,
    ⟨some 27, none, .call f_curvetlaw0_Nat [] [(.t 26), (.c (.i 280))]⟩,
    ⟨some 28, none, .off 0 (.t 5)⟩,
    ⟨some 29, none, .ld true (some 9) (.t 28)⟩,
    ⟨some 30, none, .call f_curvetlaw0_Nat [] [(.t 29), (.c (.i 280))]⟩,
    ⟨some 7, none, .box (.c (.agg [.u 64 0, .u 64 0, .u 64 0, .u 64 0, .u 64 0, .u 64 0, .u 64 0, .u 64 0, .u 64 0]))⟩,
    ⟨some 8, none, .box (.c (.agg [.u 64 0, .u 64 0, .u 64 0, .u 64 0, .u 64 0, .u 64 0, .u 64 0, .u 64 0, .u 64 0]))⟩,
    ⟨some 9, none, .box (.c (.agg [.u 64 0, .u 64 0, .u 64 0, .u 64 0, .u 64 0, .u 64 0, .u 64 0, .u 64 0, .u 64 0]))⟩,
    ⟨none, none, .stl 7 9 (.t 7) (.t 24)⟩,
    ⟨none, none, .stl 8 9 (.t 8) (.t 27)⟩,
    ⟨none, none, .stl 9 9 (.t 9) (.t 30)⟩] [7, 8, 9]) (
  .seq (
  .reg [
    ⟨some 32, none, .ldl 8 (some 9) (.t 8)⟩,
    ⟨some 33, none, .ldl 9 (some 9) (.t 9)⟩,
    ⟨some 34, none, .call f_nat_Add [] [(.t 32), (.t 33)]⟩,
    ⟨some 31, none, .mov (.t 34)⟩,
    ⟨some 35, none, .ext 0 (.t 31)⟩,
    ⟨some 36, none, .ext 1 (.t 31)⟩,
    ⟨some 10, none, .box (.c (.agg [.u 64 0, .u 64 0, .u 64 0, .u 64 0, .u 64 0, .u 64 0, .u 64 0, .u 64 0, .u 64 0]))⟩,
    ⟨none, none, .stl 10 9 (.t 10) (.t 35)⟩,
    ⟨some 11, none, .mov (.t 36)⟩] [7, 8, 9, 10]) (
  .seq (
  .reg [
    ⟨some 38, none, .ldl 7 (some 9) (.t 7)⟩,
    ⟨some 39, none, .ldl 10 (some 9) (.t 10)⟩,
    ⟨some 40, none, .call f_nat_Mul [] [(.t 38), (.t 39)]⟩,
    ⟨some 41, none, .call f_curvetlaw1_low [] [(.t 40)]⟩,
    ⟨some 37, none, .mov (.t 41)⟩,
    ⟨some 42, none, .ext 0 (.t 37)⟩,
    ⟨some 43, none, .ext 1 (.t 37)⟩,
    ⟨some 12, none, .box (.c (.agg [.u 64 0, .u 64 0, .u 64 0, .u 64 0, .u 64 0, .u 64 0, .u 64 0, .u 64 0, .u 64 0]))⟩,
    ⟨none, none, .stl 12 9 (.t 12) (.t 42)⟩,
    ⟨some 13, none, .mov (.t 43)⟩] [7, 8, 9, 12, 13]) (
  .seq (
  .reg [
    ⟨some 45, none, .ldl 7 (some 9) (.t 7)⟩,
    ⟨some 46, none, .ldl 8 (some 9) (.t 8)⟩,
    ⟨some 47, none, .call f_nat_Mul [] [(.t 45), (.t 46)]⟩,
    ⟨some 48, none, .call f_curvetlaw1_low [] [(.t 47)]⟩,
    ⟨some 44, none, .mov (.t 48)⟩,
    ⟨some 49, none, .ext 0 (.t 44)⟩,
    ⟨some 50, none, .ext 1 (.t 44)⟩,
    ⟨some 14, none, .box (.c (.agg [.u 64 0, .u 64 0, .u 64 0, .u 64 0, .u 64 0, .u 64 0, .u 64 0, .u 64 0, .u 64 0]))⟩,
    ⟨none, none, .stl 14 9 (.t 14) (.t 49)⟩,
    ⟨some 15, none, .mov (.t 50)⟩] [7, 9, 12, 13, 14, 15]) (
  .seq (
  .reg [
    ⟨some 52, none, .ldl 7 (some 9) (.t 7)⟩,
    ⟨some 53, none, .ldl 9 (some 9) (.t 9)⟩,
    ⟨some 54, none, .call f_nat_Mul [] [(.t 52), (.t 53)]⟩,
    ⟨some 55, none, .call f_curvetlaw1_low [] [(.t 54)]⟩,
    ⟨some 51, none, .mov (.t 55)⟩,
    ⟨some 56, none, .ext 0 (.t 51)⟩,
    ⟨some 57, none, .ext 1 (.t 51)⟩,
    ⟨some 16, none, .box (.c (.agg [.u 64 0, .u 64 0, .u 64 0, .u 64 0, .u 64 0, .u 64 0, .u 64 0, .u 64 0, .u 64 0]))⟩,
    ⟨none, none, .stl 16 9 (.t 16) (.t 56)⟩,
    ⟨some 17, none, .mov (.t 57)⟩] [12, 13, 14, 15, 16, 17]) (
  .seq (
  .reg [
    ⟨some 59, none, .ldl 14 (some 9) (.t 14)⟩,
    ⟨some 60, none, .ldl 16 (some 9) (.t 16)⟩,
    ⟨some 61, none, .call f_nat_Add [] [(.t 59), (.t 60)]⟩,
    ⟨some 58, none, .mov (.t 61)⟩,
    ⟨some 62, none, .ext 0 (.t 58)⟩,
    ⟨some 63, none, .ext 1 (.t 58)⟩,
    ⟨some 18, none, .box (.c (.agg [.u 64 0, .u 64 0, .u 64 0, .u 64 0, .u 64 0, .u 64 0, .u 64 0, .u 64 0, .u 64 0]))⟩,
    ⟨none, none, .stl 18 9 (.t 18) (.t 62)⟩,
    ⟨some 19, none, .mov (.t 63)⟩] [12, 13, 15, 17, 18, 19]) (
  .seq (
  .reg [
    ⟨some 64, none, .mov (.t 13)⟩,
    ⟨some 65, none, .mov (.t 64)⟩,
    ⟨some 66, (some (65, true)), .mov (.t 15)⟩,
    ⟨some 67, none, .pick (.t 65) (.t 66) (.c (.b false))⟩,
    ⟨some 68, none, .mov (.t 67)⟩,
    ⟨some 69, (some (68, true)), .mov (.t 17)⟩,
    ⟨some 70, none, .pick (.t 68) (.t 69) (.c (.b false))⟩,
    ⟨some 71, none, .mov (.t 70)⟩,
    ⟨some 72, (some (71, true)), .mov (.t 19)⟩,
    ⟨some 73, (some (71, true)), .un .not (.t 72)⟩,
    ⟨some 74, none, .pick (.t 71) (.t 73) (.c (.b false))⟩,
    ⟨some 75, none, .mov (.t 74)⟩,
    ⟨some 76, (some (75, true)), .ldl 12 (some 9) (.t 12)⟩,
    ⟨some 77, (some (75, true)), .ldl 18 (some 9) (.t 18)⟩,
    ⟨some 78, (some (75, true)), .eqv (.agg [.u 64, .u 64, .u 64, .u 64, .u 64, .u 64, .u 64, .u 64, .u 64]) false (.t 76) (.t 77)⟩,
    ⟨some 79, none, .pick (.t 75) (.t 78) (.c (.b false))⟩,
    ⟨some 6, none, .mov (.t 79)⟩] [6]) (
  .ret)))))))))
def m_curvetlaw1_NatShares : MFn := ⟨c_curvetlaw1_NatShares, [.tmp 6], 0⟩

/-- curvet/curvetlaw1.NatEnds -/
def c_curvetlaw1_NatEnds : Stm :=
  .seq (
  .reg [
    ⟨some 1, none, .boxv (.t 0)⟩,
    ⟨some 2, none, .mov (.c (.b false))⟩] [1]) (
  .seq (
  .seq (
  .reg [
    ⟨some 13, none, .call f_curvetlaw1_awake [] []⟩,
    ⟨some 14, none, .un .not (.t 13)⟩] [1, 14]) (
  .cond (.t 14) (
   .seq (
   .reg [
     ⟨some 2, none, .mov (.c (.b false))⟩] [2]) (
   .ret)) (
   .reg [] [1]))) (
  .seq (
  .reg [
    ⟨some 3, none, .box (.c (.agg [.u 64 0, .u 64 0, .u 64 0, .u 64 0, .u 64 0, .u 64 0, .u 64 0, .u 64 0, .u 64 0]))⟩] [1, 3]) (
  .seq (
  .seq (
  .reg [
    ⟨some 4, none, .mov (.c (.i 0))⟩] [1, 3, 4]) (
  .block 0 (
   .loop [1, 3, 4] (
    .seq (
    .seq (
    .reg [
      ⟨some 15, none, .mov (.t 4)⟩,
      ⟨some 16, none, .bin .lss (.t 15) (.c (.i 9))⟩] [1, 3, 4, 16]) (
    .cond (.t 16) (
     .reg [] [1, 3, 4]) (
     .exit 0 [1, 3]))) (
    .seq (
    .block 1 (
     .reg [
       ⟨some 19, none, .mov (.t 4)⟩,
       ⟨some 20, none, .off 0 (.t 3)⟩,
       ⟨some 21, none, .idx 9 1 (.t 20) (.t 19)⟩,
       ⟨none, none, .stl 3 1 (.t 21) (.c (.u 64 18446744073709551615))⟩] [1, 3, 4])) (
    .reg [
      ⟨some 17, none, .mov (.t 4)⟩,
      ⟨some 18, none, .bin .add (.t 17) (.c (.i 1))⟩,
      ⟨some 4, none, .mov (.t 18)⟩] [1, 3, 4])))))) (
  .seq (
  .reg [
    ⟨some 23, none, .ldl 3 (some 9) (.t 3)⟩,
    ⟨some 24, none, .call f_curvetlaw0_One [] [(.c (.u 64 1))]⟩,
    ⟨some 25, none, .call f_nat_Add [] [(.t 23), (.t 24)]⟩,
    ⟨some 22, none, .mov (.t 25)⟩,
    ⟨some 26, none, .ext 0 (.t 22)⟩,
    ⟨some 27, none, .ext 1 (.t 22)⟩,
    ⟨some 5, none, .box (.c (.agg [.u 64 0, .u 64 0, .u 64 0, .u 64 0, .u 64 0, .u 64 0, .u 64 0, .u 64 0, .u 64 0]))⟩,
    ⟨none, none, .stl 5 9 (.t 5) (.t 26)⟩,
    ⟨some 6, none, .mov (.t 27)⟩] [1, 3, 5, 6]) (
  .seq (
  .reg [
    ⟨some 29, none, .build [.u 64 0, .u 64 0, .u 64 0, .u 64 0, .u 64 0, .u 64 0, .u 64 0, .u 64 0, .u 64 0] []⟩,
    ⟨some 30, none, .call f_curvetlaw0_One [] [(.c (.u 64 1))]⟩,
    ⟨some 31, none, .call f_nat_Sub [] [(.t 29), (.t 30)]⟩,
    ⟨some 28, none, .mov (.t 31)⟩,
    ⟨some 32, none, .ext 0 (.t 28)⟩,
    ⟨some 33, none, .ext 1 (.t 28)⟩,
    ⟨some 7, none, .box (.c (.agg [.u 64 0, .u 64 0, .u 64 0, .u 64 0, .u 64 0, .u 64 0, .u 64 0, .u 64 0, .u 64 0]))⟩,
    ⟨none, none, .stl 7 9 (.t 7) (.t 32)⟩,
    ⟨some 8, none, .mov (.t 33)⟩] [1, 3, 5, 6, 7, 8]) (
  .seq (
  .reg [
    ⟨some 35, none, .ldl 3 (some 9) (.t 3)⟩,
    ⟨some 36, none, .ld true (some 9) (.t 1)⟩,
    ⟨some 37, none, .call f_nat_Sub [] [(.t 35), (.t 36)]⟩,
    ⟨some 34, none, .mov (.t 37)⟩,
    ⟨some 38, none, .ext 0 (.t 34)⟩,
    ⟨some 39, none, .ext 1 (.t 34)⟩,
    ⟨some 9, none, .box (.c (.agg [.u 64 0, .u 64 0, .u 64 0, .u 64 0, .u 64 0, .u 64 0, .u 64 0, .u 64 0, .u 64 0]))⟩,
    ⟨none, none, .stl 9 9 (.t 9) (.t 38)⟩,
    ⟨some 10, none, .mov (.t 39)⟩] [1, 3, 5, 6, 7, 8, 9, 10]) (
  .seq (
  .reg [
    ⟨some 41, none, .ldl 9 (some 9) (.t 9)⟩,
    ⟨some 42, none, .ld true (some 9) (.t 1)⟩,
    ⟨some 43, none, .call f_nat_Add [] [(.t 41), (.t 42)]⟩,
    ⟨some 40, none, .mov (.t 43)⟩,
    ⟨some 44, none, .ext 0 (.t 40)⟩,
    ⟨some 45, none, .ext 1 (.t 40)⟩,
    ⟨some 11, none, .box (.c (.agg [.u 64 0, .u 64 0, .u 64 0, .u 64 0, .u 64 0, .u 64 0, .u 64 0, .u 64 0, .u 64 0]))⟩,
    ⟨none, none, .stl 11 9 (.t 11) (.t 44)⟩,
    ⟨some 12, none, .mov (.t 45)⟩] [3, 5, 6, 7, 8, 10, 11, 12]) (
  .seq (
  .reg [
    ⟨some 46, none, .ldl 5 (some 9) (.t 5)⟩,
    ⟨some 47, none, .build [.u 64 0, .u 64 0, .u 64 0, .u 64 0, .u 64 0, .u 64 0, .u 64 0, .u 64 0, .u 64 0] []⟩,
    ⟨some 48, none, .eqv (.agg [.u 64, .u 64, .u 64, .u 64, .u 64, .u 64, .u 64, .u 64, .u 64]) false (.t 46) (.t 47)⟩,
    ⟨some 49, none, .mov (.t 48)⟩,
    ⟨some 50, (some (49, true)), .mov (.t 6)⟩,
    ⟨some 51, none, .pick (.t 49) (.t 50) (.c (.b false))⟩,
    ⟨some 52, none, .mov (.t 51)⟩,
    ⟨some 53, (some (52, true)), .ldl 7 (some 9) (.t 7)⟩,
    ⟨some 54, (some (52, true)), .ldl 3 (some 9) (.t 3)⟩,
    ⟨some 55, (some (52, true)), .eqv (.agg [.u 64, .u 64, .u 64, .u 64, .u 64, .u 64, .u 64, .u 64, .u 64]) false (.t 53) (.t 54)⟩,
    ⟨some 56, none, .pick (.t 52) (.t 55) (.c (.b false))⟩,
    ⟨some 57, none, .mov (.t 56)⟩,
    ⟨some 58, (some (57, true)), .mov (.t 8)⟩,
    ⟨some 59, none, .pick (.t 57) (.t 58) (.c (.b false))⟩,
    ⟨some 60, none, .mov (.t 59)⟩,
    ⟨some 61, (some (60, true)), .mov (.t 10)⟩,
    ⟨some 62, (some (60, true)), .un .not (.t 61)⟩,
    ⟨some 63, none, .pick (.t 60) (.t 62) (.c (.b false))⟩,
    ⟨some 64, none, .mov (.t 63)⟩,
    ⟨some 65, (some (64, true)), .ldl 11 (some 9) (.t 11)⟩,
    ⟨some 66, (some (64, true)), .ldl 3 (some 9) (.t 3)⟩,
    ⟨some 67, (some (64, true)), .eqv (.agg [.u 64, .u 64, .u 64, .u 64, .u 64, .u 64, .u 64, .u 64, .u 64]) false (.t 65) (.t 66)⟩,
    ⟨some 68, none, .pick (.t 64) (.t 67) (.c (.b false))⟩,
    ⟨some 69, none, .mov (.t 68)⟩,
    ⟨some 70, (some (69, true)), .mov (.t 12)⟩,
    ⟨some 71, (some (69, true)), .un .not (.t 70)⟩,
    ⟨some 72, none, .pick (.t 69) (.t 71) (.c (.b false))⟩,
    ⟨some 73, none, .mov (.t 72)⟩,
    ⟨some 74, (some (73, true)), .ldl 3 (some 9) (.t 3)⟩,
    ⟨some 75, (some (73, true)), .call f_nat_Bits [] [(.t 74)]⟩,
    ⟨some 76, (some (73, true)), .bin .eql (.t 75) (.c (.i 576))⟩,
    ⟨some 77, none, .pick (.t 73) (.t 76) (.c (.b false))⟩,
    ⟨some 2, none, .mov (.t 77)⟩] [2]) (
  .ret)))))))))
def m_curvetlaw1_NatEnds : MFn := ⟨c_curvetlaw1_NatEnds, [.tmp 2], 0⟩

/-- curvet/curvetlaw1.NatPowers -/
def c_curvetlaw1_NatPowers : Stm :=
  .seq (
  .reg [
    ⟨some 2, none, .boxv (.t 0)⟩,
    ⟨some 4, none, .mov (.c (.b false))⟩] [1, 2]) (
  .seq (
  .seq (
  .reg [
    ⟨some 13, none, .call f_curvetlaw1_awake [] []⟩,
    ⟨some 14, none, .un .not (.t 13)⟩] [1, 2, 14]) (
  .cond (.t 14) (
   .seq (
   .reg [
     ⟨some 4, none, .mov (.c (.b false))⟩] [4]) (
   .ret)) (
   .reg [] [1, 2]))) (
  .seq (
  .reg [
    ⟨some 15, none, .mov (.t 1)⟩,
    ⟨some 16, none, .cvu 64 (.t 15)⟩,
    ⟨some 17, none, .bin .rem (.t 16) (.c (.u 64 576))⟩,
    ⟨some 18, none, .cvi (.t 17)⟩,
    ⟨some 5, none, .mov (.t 18)⟩] [2, 5]) (
  .seq (
  .reg [
    ⟨some 20, none, .call f_curvetlaw0_One [] [(.c (.u 64 1))]⟩,
    ⟨some 21, none, .mov (.t 5)⟩,
    ⟨some 22, none, .call f_nat_Shl [] [(.t 20), (.t 21)]⟩,
    ⟨some 19, none, .mov (.t 22)⟩,
    ⟨some 23, none, .ext 0 (.t 19)⟩,
    ⟨some 24, none, .ext 1 (.t 19)⟩,
    ⟨some 6, none, .box (.c (.agg [.u 64 0, .u 64 0, .u 64 0, .u 64 0, .u 64 0, .u 64 0, .u 64 0, .u 64 0, .u 64 0]))⟩,
    ⟨none, none, .stl 6 9 (.t 6) (.t 23)⟩,
    ⟨some 7, none, .mov (.t 24)⟩] [2, 5, 6, 7]) (
  .seq (
  .reg [
    ⟨some 25, none, .off 0 (.t 2)⟩,
    ⟨some 26, none, .ld true (some 9) (.t 25)⟩,
    ⟨some 27, none, .mov (.t 5)⟩,
    ⟨some 28, none, .bin .sub (.c (.i 576)) (.t 27)⟩,
    ⟨some 29, none, .call f_curvetlaw0_Nat [] [(.t 26), (.t 28)]⟩,
    ⟨some 8, none, .box (.c (.agg [.u 64 0, .u 64 0, .u 64 0, .u 64 0, .u 64 0, .u 64 0, .u 64 0, .u 64 0, .u 64 0]))⟩,
    ⟨none, none, .stl 8 9 (.t 8) (.t 29)⟩] [5, 6, 7, 8]) (
  .seq (
  .reg [
    ⟨some 31, none, .ldl 8 (some 9) (.t 8)⟩,
    ⟨some 32, none, .mov (.t 5)⟩,
    ⟨some 33, none, .call f_nat_Shl [] [(.t 31), (.t 32)]⟩,
    ⟨some 30, none, .mov (.t 33)⟩,
    ⟨some 34, none, .ext 0 (.t 30)⟩,
    ⟨some 35, none, .ext 1 (.t 30)⟩,
    ⟨some 9, none, .box (.c (.agg [.u 64 0, .u 64 0, .u 64 0, .u 64 0, .u 64 0, .u 64 0, .u 64 0, .u 64 0, .u 64 0]))⟩,
    ⟨none, none, .stl 9 9 (.t 9) (.t 34)⟩,
    ⟨some 10, none, .mov (.t 35)⟩] [5, 6, 7, 8, 9, 10]) (
  .seq (
  .reg [
    ⟨some 37, none, .ldl 8 (some 9) (.t 8)⟩,
    ⟨some 38, none, .ldl 6 (some 9) (.t 6)⟩,
    ⟨some 39, none, .call f_nat_Mul [] [(.t 37), (.t 38)]⟩,
    ⟨some 40, none, .call f_curvetlaw1_low [] [(.t 39)]⟩,
    ⟨some 36, none, .mov (.t 40)⟩,
    ⟨some 41, none, .ext 0 (.t 36)⟩,
    ⟨some 42, none, .ext 1 (.t 36)⟩,
    ⟨some 11, none, .box (.c (.agg [.u 64 0, .u 64 0, .u 64 0, .u 64 0, .u 64 0, .u 64 0, .u 64 0, .u 64 0, .u 64 0]))⟩,
    ⟨none, none, .stl 11 9 (.t 11) (.t 41)⟩,
    ⟨some 12, none, .mov (.t 42)⟩] [5, 6, 7, 8, 9, 10, 11, 12]) (
  .seq (
  .reg [
    ⟨some 43, none, .mov (.t 7)⟩,
    ⟨some 44, none, .call f_curvetlaw0_Num [] [(.t 43)]⟩,
    ⟨some 45, none, .bin .eql (.t 44) (.c (.i 0))⟩,
    ⟨some 46, none, .mov (.t 45)⟩,
    ⟨some 47, (some (46, true)), .mov (.t 10)⟩,
    ⟨some 48, (some (46, true)), .call f_curvetlaw0_Num [] [(.t 47)]⟩,
    ⟨some 49, (some (46, true)), .bin .eql (.t 48) (.c (.i 0))⟩,
    ⟨some 50, none, .pick (.t 46) (.t 49) (.c (.b false))⟩,
    ⟨some 51, none, .mov (.t 50)⟩,
    ⟨some 52, (some (51, true)), .ldl 6 (some 9) (.t 6)⟩,
    ⟨some 53, (some (51, true)), .call f_nat_Bits [] [(.t 52)]⟩,
    ⟨some 54, (some (51, true)), .mov (.t 5)⟩,
    ⟨some 55, (some (51, true)), .bin .add (.t 54) (.c (.i 1))⟩,
    ⟨some 56, (some (51, true)), .bin .eql (.t 53) (.t 55)⟩,
    ⟨some 57, none, .pick (.t 51) (.t 56) (.c (.b false))⟩,
    ⟨some 58, none, .mov (.t 57)⟩,
    ⟨some 59, (some (58, true)), .ldl 6 (some 9) (.t 6)⟩,
    ⟨some 60, (some (58, true)), .mov (.t 5)⟩,
    ⟨some 61, (some (58, true)), .call f_nat_Bit [] [(.t 59), (.t 60)]⟩,
    ⟨some 62, (some (58, true)), .bin .eql (.t 61) (.c (.i 1))⟩,
    ⟨some 63, none, .pick (.t 58) (.t 62) (.c (.b false))⟩,
    ⟨some 64, none, .mov (.t 63)⟩,
    ⟨some 65, (some (64, true)), .ldl 6 (some 9) (.t 6)⟩,
    ⟨some 66, (some (64, true)), .mov (.t 5)⟩,
    ⟨some 67, (some (64, true)), .bin .add (.t 66) (.c (.i 1))⟩,
    ⟨some 68, (some (64, true)), .call f_nat_Bit [] [(.t 65), (.t 67)]⟩,
    ⟨some 69, (some (64, true)), .bin .eql (.t 68) (.c (.i 0))⟩,
    ⟨some 70, none, .pick (.t 64) (.t 69) (.c (.b false))⟩,
    ⟨some 71, none, .mov (.t 70)⟩,
    ⟨some 72, (some (71, true)), .mov (.t 12)⟩,
    ⟨some 73, none, .pick (.t 71) (.t 72) (.c (.b false))⟩,
    ⟨some 74, none, .mov (.t 73)⟩,
    ⟨some 75, (some (74, true)), .ldl 11 (some 9) (.t 11)⟩,
    ⟨some 76, (some (74, true)), .ldl 9 (some 9) (.t 9)⟩,
    ⟨some 77, (some (74, true)), .eqv (.agg [.u 64, .u 64, .u 64, .u 64, .u 64, .u 64, .u 64, .u 64, .u 64]) false (.t 75) (.t 76)⟩,
    ⟨some 78, none, .pick (.t 74) (.t 77) (.c (.b false))⟩,
    ⟨some 79, none, .mov (.t 78)⟩,
    ⟨some 80, (some (79, true)), .ldl 8 (some 9) (.t 8)⟩,
    ⟨some 81, (some (79, true)), .build [.u 64 0, .u 64 0, .u 64 0, .u 64 0, .u 64 0, .u 64 0, .u 64 0, .u 64 0, .u 64 0] []⟩,
    ⟨some 82, (some (79, true)), .eqv (.agg [.u 64, .u 64, .u 64, .u 64, .u 64, .u 64, .u 64, .u 64, .u 64]) false (.t 80) (.t 81)⟩,
    ⟨some 83, (some (79, true)), .mov (.t 82)⟩,
    ⟨some 84, (some (83, false)), .ldl 9 (some 9) (.t 9)⟩,
    ⟨some 85, (some (83, false)), .call f_nat_Bits [] [(.t 84)]⟩,
    ⟨some 86, (some (83, false)), .ldl 8 (some 9) (.t 8)⟩,
    ⟨some 87, (some (83, false)), .call f_nat_Bits [] [(.t 86)]⟩,
    ⟨some 88, (some (83, false)), .mov (.t 5)⟩,
    ⟨some 89, (some (83, false)), .bin .add (.t 87) (.t 88)⟩,
    ⟨some 90, (some (83, false)), .bin .eql (.t 85) (.t 89)⟩,
    ⟨some 91, (some (79, true)), .pick (.t 83) (.c (.b true)) (.t 90)⟩,
    ⟨some 92, none, .pick (.t 79) (.t 91) (.c (.b false))⟩,
    ⟨some 4, none, .mov (.t 92)⟩] [4]) (
  .ret))))))))
def m_curvetlaw1_NatPowers : MFn := ⟨c_curvetlaw1_NatPowers, [.tmp 4], 0⟩

/-- curvet/curvetlaw1.NatSums -/
def c_curvetlaw1_NatSums : Stm :=
  .seq (
  .reg [
    ⟨some 2, none, .boxv (.t 0)⟩,
    ⟨some 3, none, .boxv (.t 1)⟩,
    ⟨some 4, none, .mov (.c (.b false))⟩] [2, 3]) (
  .seq (
  .reg [
    ⟨some 14, none, .ld true (some 9) (.t 2)⟩,
    ⟨some 15, none, .call f_curvetref1_From [] [(.t 14)]⟩,
    ⟨some 16, none, .ld true (some 9) (.t 3)⟩,
    ⟨some 17, none, .call f_curvetref1_From [] [(.t 16)]⟩,
    ⟨some 5, none, .mov (.t 15)⟩,
    ⟨some 6, none, .mov (.t 17)⟩] [2, 3, 5, 6]) (
  .seq (
  .reg [
    ⟨some 19, none, .ld true (some 9) (.t 2)⟩,
    ⟨some 20, none, .ld true (some 9) (.t 3)⟩,
    ⟨some 21, none, .call f_nat_Add [] [(.t 19), (.t 20)]⟩,
    ⟨some 18, none, .mov (.t 21)⟩,
    ⟨some 22, none, .ext 0 (.t 18)⟩,
    ⟨some 23, none, .ext 1 (.t 18)⟩,
    ⟨some 7, none, .box (.c (.agg [.u 64 0, .u 64 0, .u 64 0, .u 64 0, .u 64 0, .u 64 0, .u 64 0, .u 64 0, .u 64 0]))⟩,
    ⟨none, none, .stl 7 9 (.t 7) (.t 22)⟩,
    ⟨some 8, none, .mov (.t 23)⟩] [2, 3, 5, 6, 7, 8]) (
  .seq (
  .reg [
    ⟨some 25, none, .ld true (some 9) (.t 2)⟩,
    ⟨some 26, none, .ld true (some 9) (.t 3)⟩,
    ⟨some 27, none, .call f_nat_Sub [] [(.t 25), (.t 26)]⟩,
    ⟨some 24, none, .mov (.t 27)⟩,
    ⟨some 28, none, .ext 0 (.t 24)⟩,
    ⟨some 29, none, .ext 1 (.t 24)⟩,
    ⟨some 9, none, .box (.c (.agg [.u 64 0, .u 64 0, .u 64 0, .u 64 0, .u 64 0, .u 64 0, .u 64 0, .u 64 0, .u 64 0]))⟩,
    ⟨none, none, .stl 9 9 (.t 9) (.t 28)⟩,
    ⟨some 10, none, .mov (.t 29)⟩] [2, 3, 5, 6, 7, 8, 9, 10]) (
  .seq (
  .reg [
    ⟨some 30, none, .mov (.t 5)⟩,
    ⟨some 31, none, .mov (.t 6)⟩,
    ⟨some 32, none, .call f_curvetref1_Add [] [(.t 30), (.t 31)]⟩,
    ⟨some 11, none, .mov (.t 32)⟩] [2, 3, 5, 6, 7, 8, 9, 10, 11]) (
  .seq (
  .reg [
    ⟨some 33, none, .mov (.t 5)⟩,
    ⟨some 34, none, .mov (.t 6)⟩,
    ⟨some 35, none, .call f_curvetref1_Cmp [] [(.t 33), (.t 34)]⟩,
    ⟨some 36, none, .bin .lss (.t 35) (.c (.i 0))⟩,
    ⟨some 12, none, .mov (.t 36)⟩] [2, 3, 5, 6, 7, 8, 9, 10, 11, 12]) (
  .seq (
  .reg [
    ⟨some 37, none, .mov (.t 5)⟩,
    ⟨some 38, none, .lit true 1 1 [.u 32 0] [(0, 1, (.c (.u 32 1)))]⟩,
    ⟨some 39, none, .call f_curvetref1_Shl [] [(.t 38), (.c (.i 576))]⟩,
    ⟨some 40, none, .call f_curvetref1_Add [] [(.t 37), (.t 39)]⟩,
    ⟨some 41, none, .mov (.t 6)⟩,
    ⟨some 42, none, .call f_curvetref1_Sub [] [(.t 40), (.t 41)]⟩,
    ⟨some 13, none, .mov (.t 42)⟩] [2, 3, 5, 6, 7, 8, 9, 10, 11, 12, 13]) (
  .seq (
  .reg [
    ⟨some 43, none, .ldl 7 (some 9) (.t 7)⟩,
    ⟨some 44, none, .mov (.t 11)⟩,
    ⟨some 45, none, .call f_curvetref1_Nat [] [(.t 44)]⟩,
    ⟨some 46, none, .eqv (.agg [.u 64, .u 64, .u 64, .u 64, .u 64, .u 64, .u 64, .u 64, .u 64]) false (.t 43) (.t 45)⟩,
    ⟨some 47, none, .mov (.t 46)⟩,
    ⟨some 48, (some (47, true)), .mov (.t 8)⟩,
    ⟨some 49, (some (47, true)), .mov (.t 11)⟩,
    ⟨some 50, (some (47, true)), .call f_curvetref1_Bits [] [(.t 49)]⟩,
    ⟨some 51, (some (47, true)), .bin .gtr (.t 50) (.c (.i 576))⟩,
    ⟨some 52, (some (47, true)), .eqv .bool false (.t 48) (.t 51)⟩,
    ⟨some 53, none, .pick (.t 47) (.t 52) (.c (.b false))⟩,
    ⟨some 54, none, .mov (.t 53)⟩,
    ⟨some 55, (some (54, true)), .ldl 9 (some 9) (.t 9)⟩,
    ⟨some 56, (some (54, true)), .mov (.t 13)⟩,
    ⟨some 57, (some (54, true)), .call f_curvetref1_Nat [] [(.t 56)]⟩,
    ⟨some 58, (some (54, true)), .eqv (.agg [.u 64, .u 64, .u 64, .u 64, .u 64, .u 64, .u 64, .u 64, .u 64]) false (.t 55) (.t 57)⟩,
    ⟨some 59, none, .pick (.t 54) (.t 58) (.c (.b false))⟩,
    ⟨some 60, none, .mov (.t 59)⟩,
    ⟨some 61, (some (60, true)), .mov (.t 10)⟩,
    ⟨some 62, (some (60, true)), .mov (.t 12)⟩,
    ⟨some 63, (some (60, true)), .eqv .bool false (.t 61) (.t 62)⟩,
    ⟨some 64, none, .pick (.t 60) (.t 63) (.c (.b false))⟩,
    ⟨some 65, none, .mov (.t 64)⟩,
    ⟨some 66, (some (65, true)), .ld true (some 9) (.t 2)⟩,
    ⟨some 67, (some (65, true)), .ld true (some 9) (.t 3)⟩,
    ⟨some 68, (some (65, true)), .call f_nat_Mul [] [(.t 66), (.t 67)]⟩,
    ⟨some 69, (some (65, true)), .mov (.t 5)⟩,
    ⟨some 70, (some (65, true)), .mov (.t 6)⟩,
    ⟨some 71, (some (65, true)), .call f_curvetref1_Mul [] [(.t 69), (.t 70)]⟩,
    ⟨some 72, (some (65, true)), .call f_curvetref1_Wide [] [(.t 71)]⟩,
    ⟨some 73, (some (65, true)), .eqv (.agg [.u 64, .u 64, .u 64, .u 64, .u 64, .u 64, .u 64, .u 64, .u 64, .u 64, .u 64, .u 64, .u 64, .u 64, .u 64, .u 64, .u 64, .u 64]) false (.t 68) (.t 72)⟩,
    ⟨some 74, none, .pick (.t 65) (.t 73) (.c (.b false))⟩,
    ⟨some 75, none, .mov (.t 74)⟩,
    ⟨some 76, (some (75, true)), .ld true (some 9) (.t 2)⟩,
    ⟨some 77, (some (75, true)), .ld true (some 9) (.t 3)⟩,
    ⟨some 78, (some (75, true)), .call f_nat_Cmp [] [(.t 76), (.t 77)]⟩,
    ⟨some 79, (some (75, true)), .mov (.t 5)⟩,
    ⟨some 80, (some (75, true)), .mov (.t 6)⟩,
    ⟨some 81, (some (75, true)), .call f_curvetref1_Cmp [] [(.t 79), (.t 80)]⟩,
    ⟨some 82, (some (75, true)), .bin .eql (.t 78) (.t 81)⟩,
    ⟨some 83, none, .pick (.t 75) (.t 82) (.c (.b false))⟩,
    ⟨some 84, none, .mov (.t 83)⟩,
    ⟨some 85, (some (84, true)), .call f_curvetlaw1_awake [] []⟩,
    ⟨some 86, none, .pick (.t 84) (.t 85) (.c (.b false))⟩,
    ⟨some 4, none, .mov (.t 86)⟩] [4]) (
  .ret))))))))
def m_curvetlaw1_NatSums : MFn := ⟨c_curvetlaw1_NatSums, [.tmp 4], 0⟩

/-- curvet/curvetlaw1.NatRules -/
def c_curvetlaw1_NatRules : Stm :=
  .seq (
  .reg [
    ⟨some 3, none, .boxv (.t 0)⟩,
    ⟨some 4, none, .boxv (.t 1)⟩,
    ⟨some 5, none, .boxv (.t 2)⟩,
    ⟨some 6, none, .mov (.c (.b false))⟩] [3, 4, 5]) (
  .seq (
  .seq (
  .reg [
    ⟨some 17, none, .call f_curvetlaw1_awake [] []⟩,
    ⟨some 18, none, .un .not (.t 17)⟩] [3, 4, 5, 18]) (
  .cond (.t 18) (
   .seq (
   .reg [
     ⟨some 6, none, .mov (.c (.b false))⟩] [6]) (
   .ret)) (
   .reg [] [3, 4, 5]))) (
  .seq (
  .reg [
    ⟨some 20, none, .ld true (some 9) (.t 3)⟩,
    ⟨some 21, none, .ld true (some 9) (.t 4)⟩,
    ⟨some 22, none, .call f_nat_Add [] [(.t 20), (.t 21)]⟩,
    ⟨some 19, none, .mov (.t 22)⟩,
    ⟨some 23, none, .ext 0 (.t 19)⟩,
    ⟨some 24, none, .ext 1 (.t 19)⟩,
    ⟨some 7, none, .box (.c (.agg [.u 64 0, .u 64 0, .u 64 0, .u 64 0, .u 64 0, .u 64 0, .u 64 0, .u 64 0, .u 64 0]))⟩,
    ⟨none, none, .stl 7 9 (.t 7) (.t 23)⟩,
    ⟨some 8, none, .mov (.t 24)⟩] [3, 4, 5, 7, 8]) (
  .seq (
  .reg [
    ⟨some 26, none, .ld true (some 9) (.t 4)⟩,
    ⟨some 27, none, .ld true (some 9) (.t 3)⟩,
    ⟨some 28, none, .call f_nat_Add [] [(.t 26), (.t 27)]⟩,
    ⟨some 25, none, .mov (.t 28)⟩,
    ⟨some 29, none, .ext 0 (.t 25)⟩,
    ⟨some 30, none, .ext 1 (.t 25)⟩,
    ⟨some 9, none, .box (.c (.agg [.u 64 0, .u 64 0, .u 64 0, .u 64 0, .u 64 0, .u 64 0, .u 64 0, .u 64 0, .u 64 0]))⟩,
    ⟨none, none, .stl 9 9 (.t 9) (.t 29)⟩,
    ⟨some 10, none, .mov (.t 30)⟩] [3, 4, 5, 7, 8, 9, 10]) (
  .seq (
  .reg [
    ⟨some 32, none, .ldl 7 (some 9) (.t 7)⟩,
    ⟨some 33, none, .ld true (some 9) (.t 4)⟩,
    ⟨some 34, none, .call f_nat_Sub [] [(.t 32), (.t 33)]⟩,
    ⟨some 31, none, .mov (.t 34)⟩,
    ⟨some 35, none, .ext 0 (.t 31)⟩,
    ⟨some 36, none, .ext 1 (.t 31)⟩,
    ⟨some 11, none, .box (.c (.agg [.u 64 0, .u 64 0, .u 64 0, .u 64 0, .u 64 0, .u 64 0, .u 64 0, .u 64 0, .u 64 0]))⟩,
    ⟨none, none, .stl 11 9 (.t 11) (.t 35)⟩,
    ⟨some 12, none, .mov (.t 36)⟩] [3, 4, 5, 7, 8, 9, 10, 11, 12]) (
  .seq (
  .reg [
    ⟨some 38, none, .ld true (some 9) (.t 4)⟩,
    ⟨some 39, none, .ld true (some 9) (.t 5)⟩,
    ⟨some 40, none, .call f_nat_Add [] [(.t 38), (.t 39)]⟩,
    ⟨some 37, none, .mov (.t 40)⟩,
    ⟨some 41, none, .ext 0 (.t 37)⟩,
    ⟨some 42, none, .ext 1 (.t 37)⟩,
    ⟨some 13, none, .box (.c (.agg [.u 64 0, .u 64 0, .u 64 0, .u 64 0, .u 64 0, .u 64 0, .u 64 0, .u 64 0, .u 64 0]))⟩,
    ⟨none, none, .stl 13 9 (.t 13) (.t 41)⟩,
    ⟨some 14, none, .mov (.t 42)⟩] [3, 4, 7, 8, 9, 10, 11, 12, 13]) (
  .seq (
  .reg [
    ⟨some 43, none, .ld true (some 9) (.t 3)⟩,
    ⟨some 44, none, .off 0 (.t 13)⟩,
    ⟨some 45, none, .ldl 13 (some 9) (.t 44)⟩,
    ⟨some 46, none, .call f_curvetlaw0_Nat [] [(.t 45), (.c (.i 288))]⟩,
    ⟨some 47, none, .call f_nat_Mul [] [(.t 43), (.t 46)]⟩,
    ⟨some 48, none, .off 0 (.t 13)⟩,
    ⟨some 49, none, .ldl 13 (some 9) (.t 48)⟩,
    ⟨some 50, none, .call f_curvetlaw0_Nat [] [(.t 49), (.c (.i 288))]⟩,
    ⟨some 51, none, .ld true (some 9) (.t 3)⟩,
    ⟨some 52, none, .call f_nat_Mul [] [(.t 50), (.t 51)]⟩,
    ⟨some 15, none, .box (.c (.agg [.u 64 0, .u 64 0, .u 64 0, .u 64 0, .u 64 0, .u 64 0, .u 64 0, .u 64 0, .u 64 0, .u 64 0, .u 64 0, .u 64 0, .u 64 0, .u 64 0, .u 64 0, .u 64 0, .u 64 0, .u 64 0]))⟩,
    ⟨some 16, none, .box (.c (.agg [.u 64 0, .u 64 0, .u 64 0, .u 64 0, .u 64 0, .u 64 0, .u 64 0, .u 64 0, .u 64 0, .u 64 0, .u 64 0, .u 64 0, .u 64 0, .u 64 0, .u 64 0, .u 64 0, .u 64 0, .u 64 0]))⟩,
    ⟨none, none, .stl 15 18 (.t 15) (.t 47)⟩,
    ⟨none, none, .stl 16 18 (.t 16) (.t 52)⟩] [3, 4, 7, 8, 9, 10, 11, 12, 15, 16]) (
  .seq (
  .reg [
    ⟨some 53, none, .ldl 7 (some 9) (.t 7)⟩,
    ⟨some 54, none, .ldl 9 (some 9) (.t 9)⟩,
    ⟨some 55, none, .eqv (.agg [.u 64, .u 64, .u 64, .u 64, .u 64, .u 64, .u 64, .u 64, .u 64]) false (.t 53) (.t 54)⟩,
    ⟨some 56, none, .mov (.t 55)⟩,
    ⟨some 57, (some (56, true)), .mov (.t 8)⟩,
    ⟨some 58, (some (56, true)), .mov (.t 10)⟩,
    ⟨some 59, (some (56, true)), .eqv .bool false (.t 57) (.t 58)⟩,
    ⟨some 60, none, .pick (.t 56) (.t 59) (.c (.b false))⟩,
    ⟨some 61, none, .mov (.t 60)⟩,
    ⟨some 62, (some (61, true)), .ldl 11 (some 9) (.t 11)⟩,
    ⟨some 63, (some (61, true)), .ld true (some 9) (.t 3)⟩,
    ⟨some 64, (some (61, true)), .eqv (.agg [.u 64, .u 64, .u 64, .u 64, .u 64, .u 64, .u 64, .u 64, .u 64]) false (.t 62) (.t 63)⟩,
    ⟨some 65, none, .pick (.t 61) (.t 64) (.c (.b false))⟩,
    ⟨some 66, none, .mov (.t 65)⟩,
    ⟨some 67, (some (66, true)), .mov (.t 12)⟩,
    ⟨some 68, (some (66, true)), .mov (.t 8)⟩,
    ⟨some 69, (some (66, true)), .eqv .bool false (.t 67) (.t 68)⟩,
    ⟨some 70, none, .pick (.t 66) (.t 69) (.c (.b false))⟩,
    ⟨some 71, none, .mov (.t 70)⟩,
    ⟨some 72, (some (71, true)), .ldl 15 (some 18) (.t 15)⟩,
    ⟨some 73, (some (71, true)), .ldl 16 (some 18) (.t 16)⟩,
    ⟨some 74, (some (71, true)), .eqv (.agg [.u 64, .u 64, .u 64, .u 64, .u 64, .u 64, .u 64, .u 64, .u 64, .u 64, .u 64, .u 64, .u 64, .u 64, .u 64, .u 64, .u 64, .u 64]) false (.t 72) (.t 73)⟩,
    ⟨some 75, none, .pick (.t 71) (.t 74) (.c (.b false))⟩,
    ⟨some 76, none, .mov (.t 75)⟩,
    ⟨some 77, (some (76, true)), .ld true (some 9) (.t 3)⟩,
    ⟨some 78, (some (76, true)), .ld true (some 9) (.t 4)⟩,
    ⟨some 79, (some (76, true)), .call f_nat_Cmp [] [(.t 77), (.t 78)]⟩,
    ⟨some 80, (some (76, true)), .ld true (some 9) (.t 4)⟩,
    ⟨some 81, (some (76, true)), .ld true (some 9) (.t 3)⟩,
    ⟨some 82, (some (76, true)), .call f_nat_Cmp [] [(.t 80), (.t 81)]⟩,
    ⟨some 83, (some (76, true)), .un .neg (.t 82)⟩,
    ⟨some 84, (some (76, true)), .bin .eql (.t 79) (.t 83)⟩,
    ⟨some 85, none, .pick (.t 76) (.t 84) (.c (.b false))⟩,
    ⟨some 86, none, .mov (.t 85)⟩,
    ⟨some 87, (some (86, true)), .ld true (some 9) (.t 3)⟩,
    ⟨some 88, (some (86, true)), .ld true (some 9) (.t 3)⟩,
    ⟨some 89, (some (86, true)), .call f_nat_Cmp [] [(.t 87), (.t 88)]⟩,
    ⟨some 90, (some (86, true)), .bin .eql (.t 89) (.c (.i 0))⟩,
    ⟨some 91, none, .pick (.t 86) (.t 90) (.c (.b false))⟩,
    ⟨some 6, none, .mov (.t 91)⟩] [6]) (
  .ret))))))))
def m_curvetlaw1_NatRules : MFn := ⟨c_curvetlaw1_NatRules, [.tmp 6], 0⟩

/-- curvet/curvetlaw1.NatOrder -/
def c_curvetlaw1_NatOrder : Stm :=
  .seq (
  .reg [
    ⟨some 3, none, .boxv (.t 0)⟩,
    ⟨some 4, none, .boxv (.t 1)⟩,
    ⟨some 5, none, .boxv (.t 2)⟩,
    ⟨some 6, none, .mov (.c (.b false))⟩] [3, 4, 5]) (
  .seq (
  .seq (
  .reg [
    ⟨some 14, none, .call f_curvetlaw1_awake [] []⟩,
    ⟨some 15, none, .un .not (.t 14)⟩] [3, 4, 5, 15]) (
  .cond (.t 15) (
   .seq (
   .reg [
     ⟨some 6, none, .mov (.c (.b false))⟩] [6]) (
   .ret)) (
   .reg [] [3, 4, 5]))) (
  .seq (
  .seq (
  .reg [
    ⟨some 16, none, .ld true (some 9) (.t 3)⟩,
    ⟨some 17, none, .ld true (some 9) (.t 4)⟩,
    ⟨some 18, none, .call f_nat_Cmp [] [(.t 16), (.t 17)]⟩,
    ⟨some 19, none, .bin .lss (.t 18) (.c (.i 0))⟩,
    ⟨some 20, none, .mov (.t 19)⟩,
    ⟨some 21, (some (20, true)), .ld true (some 9) (.t 4)⟩,
    ⟨some 22, (some (20, true)), .ld true (some 9) (.t 5)⟩,
    ⟨some 23, (some (20, true)), .call f_nat_Cmp [] [(.t 21), (.t 22)]⟩,
    ⟨some 24, (some (20, true)), .bin .lss (.t 23) (.c (.i 0))⟩,
    ⟨some 25, none, .pick (.t 20) (.t 24) (.c (.b false))⟩,
    ⟨some 26, none, .mov (.t 25)⟩,
    ⟨some 27, (some (26, true)), .ld true (some 9) (.t 3)⟩,
    ⟨some 28, (some (26, true)), .ld true (some 9) (.t 5)⟩,
    ⟨some 29, (some (26, true)), .call f_nat_Cmp [] [(.t 27), (.t 28)]⟩,
    ⟨some 30, (some (26, true)), .bin .geq (.t 29) (.c (.i 0))⟩,
    ⟨some 31, none, .pick (.t 26) (.t 30) (.c (.b false))⟩] [3, 4, 5, 31]) (
  .cond (.t 31) (
   .seq (
   .reg [
     ⟨some 6, none, .mov (.c (.b false))⟩] [6]) (
   .ret)) (
   .reg [] [3, 4, 5]))) (
  .seq (
  .reg [
    ⟨some 32, none, .off 0 (.t 3)⟩,
    ⟨some 33, none, .ld true (some 9) (.t 32)⟩,
    ⟨some 34, none, .call f_curvetlaw0_Nat [] [(.t 33), (.c (.i 575))]⟩,
    ⟨some 35, none, .off 0 (.t 4)⟩,
    ⟨some 36, none, .ld true (some 9) (.t 35)⟩,
    ⟨some 37, none, .call f_curvetlaw0_Nat [] [(.t 36), (.c (.i 575))]⟩,
    ⟨some 38, none, .off 0 (.t 5)⟩,
    ⟨some 39, none, .ld true (some 9) (.t 38)⟩,
    ⟨some 40, none, .call f_curvetlaw0_Nat [] [(.t 39), (.c (.i 575))]⟩,
    ⟨some 7, none, .box (.c (.agg [.u 64 0, .u 64 0, .u 64 0, .u 64 0, .u 64 0, .u 64 0, .u 64 0, .u 64 0, .u 64 0]))⟩,
    ⟨some 8, none, .box (.c (.agg [.u 64 0, .u 64 0, .u 64 0, .u 64 0, .u 64 0, .u 64 0, .u 64 0, .u 64 0, .u 64 0]))⟩,
    ⟨some 9, none, .box (.c (.agg [.u 64 0, .u 64 0, .u 64 0, .u 64 0, .u 64 0, .u 64 0, .u 64 0, .u 64 0, .u 64 0]))⟩,
    ⟨none, none, .stl 7 9 (.t 7) (.t 34)⟩,
    ⟨none, none, .stl 8 9 (.t 8) (.t 37)⟩,
    ⟨none, none, .stl 9 9 (.t 9) (.t 40)⟩] [3, 4, 7, 8, 9]) (
  .seq (
  .reg [
    ⟨some 42, none, .ldl 7 (some 9) (.t 7)⟩,
    ⟨some 43, none, .ldl 9 (some 9) (.t 9)⟩,
    ⟨some 44, none, .call f_nat_Add [] [(.t 42), (.t 43)]⟩,
    ⟨some 41, none, .mov (.t 44)⟩,
    ⟨some 45, none, .ext 0 (.t 41)⟩,
    ⟨some 46, none, .ext 1 (.t 41)⟩,
    ⟨some 10, none, .box (.c (.agg [.u 64 0, .u 64 0, .u 64 0, .u 64 0, .u 64 0, .u 64 0, .u 64 0, .u 64 0, .u 64 0]))⟩,
    ⟨none, none, .stl 10 9 (.t 10) (.t 45)⟩,
    ⟨some 11, none, .mov (.t 46)⟩] [3, 4, 7, 8, 9, 10]) (
  .seq (
  .reg [
    ⟨some 48, none, .ldl 8 (some 9) (.t 8)⟩,
    ⟨some 49, none, .ldl 9 (some 9) (.t 9)⟩,
    ⟨some 50, none, .call f_nat_Add [] [(.t 48), (.t 49)]⟩,
    ⟨some 47, none, .mov (.t 50)⟩,
    ⟨some 51, none, .ext 0 (.t 47)⟩,
    ⟨some 52, none, .ext 1 (.t 47)⟩,
    ⟨some 12, none, .box (.c (.agg [.u 64 0, .u 64 0, .u 64 0, .u 64 0, .u 64 0, .u 64 0, .u 64 0, .u 64 0, .u 64 0]))⟩,
    ⟨none, none, .stl 12 9 (.t 12) (.t 51)⟩,
    ⟨some 13, none, .mov (.t 52)⟩] [3, 4, 7, 8, 10, 12]) (
  .seq (
  .reg [
    ⟨some 53, none, .ldl 10 (some 9) (.t 10)⟩,
    ⟨some 54, none, .ldl 12 (some 9) (.t 12)⟩,
    ⟨some 55, none, .call f_nat_Cmp [] [(.t 53), (.t 54)]⟩,
    ⟨some 56, none, .ldl 7 (some 9) (.t 7)⟩,
    ⟨some 57, none, .ldl 8 (some 9) (.t 8)⟩,
    ⟨some 58, none, .call f_nat_Cmp [] [(.t 56), (.t 57)]⟩,
    ⟨some 59, none, .bin .eql (.t 55) (.t 58)⟩,
    ⟨some 60, none, .mov (.t 59)⟩,
    ⟨some 61, (some (60, true)), .ld true (some 9) (.t 3)⟩,
    ⟨some 62, (some (60, true)), .ld true (some 9) (.t 4)⟩,
    ⟨some 63, (some (60, true)), .call f_nat_Cmp [] [(.t 61), (.t 62)]⟩,
    ⟨some 64, (some (60, true)), .bin .eql (.t 63) (.c (.i 0))⟩,
    ⟨some 65, (some (60, true)), .ld true (some 9) (.t 3)⟩,
    ⟨some 66, (some (60, true)), .ld true (some 9) (.t 4)⟩,
    ⟨some 67, (some (60, true)), .eqv (.agg [.u 64, .u 64, .u 64, .u 64, .u 64, .u 64, .u 64, .u 64, .u 64]) false (.t 65) (.t 66)⟩,
    ⟨some 68, (some (60, true)), .eqv .bool false (.t 64) (.t 67)⟩,
    ⟨some 69, none, .pick (.t 60) (.t 68) (.c (.b false))⟩,
    ⟨some 6, none, .mov (.t 69)⟩] [6]) (
  .ret)))))))
def m_curvetlaw1_NatOrder : MFn := ⟨c_curvetlaw1_NatOrder, [.tmp 6], 0⟩

/-- curvet/curvetlaw1.NatShifts -/
def c_curvetlaw1_NatShifts : Stm :=
  .seq (
  .reg [
    ⟨some 3, none, .boxv (.t 0)⟩,
    ⟨some 6, none, .mov (.c (.b false))⟩] [1, 2, 3]) (
  .seq (
  .seq (
  .reg [
    ⟨some 26, none, .call f_curvetlaw1_awake [] []⟩,
    ⟨some 27, none, .un .not (.t 26)⟩] [1, 2, 3, 27]) (
  .cond (.t 27) (
   .seq (
   .reg [
     ⟨some 6, none, .mov (.c (.b false))⟩] [6]) (
   .ret)) (
   .reg [] [1, 2, 3]))) (
  .seq (
  .reg [
    ⟨some 28, none, .mov (.t 1)⟩,
    ⟨some 29, none, .cvu 64 (.t 28)⟩,
    ⟨some 30, none, .bin .rem (.t 29) (.c (.u 64 200))⟩,
    ⟨some 31, none, .cvi (.t 30)⟩,
    ⟨some 32, none, .mov (.t 2)⟩,
    ⟨some 33, none, .cvu 64 (.t 32)⟩,
    ⟨some 34, none, .bin .rem (.t 33) (.c (.u 64 200))⟩,
    ⟨some 35, none, .cvi (.t 34)⟩,
    ⟨some 7, none, .mov (.t 31)⟩,
    ⟨some 8, none, .mov (.t 35)⟩] [3, 7, 8]) (
  .seq (
  .reg [
    ⟨some 37, none, .ld true (some 9) (.t 3)⟩,
    ⟨some 38, none, .mov (.t 7)⟩,
    ⟨some 39, none, .call f_nat_Shl [] [(.t 37), (.t 38)]⟩,
    ⟨some 36, none, .mov (.t 39)⟩,
    ⟨some 40, none, .ext 0 (.t 36)⟩,
    ⟨some 41, none, .ext 1 (.t 36)⟩,
    ⟨some 9, none, .box (.c (.agg [.u 64 0, .u 64 0, .u 64 0, .u 64 0, .u 64 0, .u 64 0, .u 64 0, .u 64 0, .u 64 0]))⟩,
    ⟨none, none, .stl 9 9 (.t 9) (.t 40)⟩,
    ⟨some 10, none, .mov (.t 41)⟩] [3, 7, 8, 9]) (
  .seq (
  .reg [
    ⟨some 43, none, .ldl 9 (some 9) (.t 9)⟩,
    ⟨some 44, none, .mov (.t 8)⟩,
    ⟨some 45, none, .call f_nat_Shl [] [(.t 43), (.t 44)]⟩,
    ⟨some 42, none, .mov (.t 45)⟩,
    ⟨some 46, none, .ext 0 (.t 42)⟩,
    ⟨some 47, none, .ext 1 (.t 42)⟩,
    ⟨some 11, none, .box (.c (.agg [.u 64 0, .u 64 0, .u 64 0, .u 64 0, .u 64 0, .u 64 0, .u 64 0, .u 64 0, .u 64 0]))⟩,
    ⟨none, none, .stl 11 9 (.t 11) (.t 46)⟩,
    ⟨some 12, none, .mov (.t 47)⟩] [3, 7, 8, 11, 12]) (
  .seq (
  .reg [
    ⟨some 49, none, .ld true (some 9) (.t 3)⟩,
    ⟨some 50, none, .mov (.t 7)⟩,
    ⟨some 51, none, .mov (.t 8)⟩,
    ⟨some 52, none, .bin .add (.t 50) (.t 51)⟩,
    ⟨some 53, none, .call f_nat_Shl [] [(.t 49), (.t 52)]⟩,
    ⟨some 48, none, .mov (.t 53)⟩,
    ⟨some 54, none, .ext 0 (.t 48)⟩,
    ⟨some 55, none, .ext 1 (.t 48)⟩,
    ⟨some 13, none, .box (.c (.agg [.u 64 0, .u 64 0, .u 64 0, .u 64 0, .u 64 0, .u 64 0, .u 64 0, .u 64 0, .u 64 0]))⟩,
    ⟨none, none, .stl 13 9 (.t 13) (.t 54)⟩,
    ⟨some 14, none, .mov (.t 55)⟩] [3, 7, 8, 11, 12, 13, 14]) (
  .seq (
  .reg [
    ⟨some 57, none, .ld true (some 9) (.t 3)⟩,
    ⟨some 58, none, .mov (.t 7)⟩,
    ⟨some 59, none, .call f_nat_Shr [] [(.t 57), (.t 58)]⟩,
    ⟨some 56, none, .mov (.t 59)⟩,
    ⟨some 60, none, .ext 0 (.t 56)⟩,
    ⟨some 61, none, .ext 1 (.t 56)⟩,
    ⟨some 15, none, .box (.c (.agg [.u 64 0, .u 64 0, .u 64 0, .u 64 0, .u 64 0, .u 64 0, .u 64 0, .u 64 0, .u 64 0]))⟩,
    ⟨none, none, .stl 15 9 (.t 15) (.t 60)⟩,
    ⟨some 16, none, .mov (.t 61)⟩] [3, 7, 8, 11, 12, 13, 14, 15]) (
  .seq (
  .reg [
    ⟨some 63, none, .ldl 15 (some 9) (.t 15)⟩,
    ⟨some 64, none, .mov (.t 8)⟩,
    ⟨some 65, none, .call f_nat_Shr [] [(.t 63), (.t 64)]⟩,
    ⟨some 62, none, .mov (.t 65)⟩,
    ⟨some 66, none, .ext 0 (.t 62)⟩,
    ⟨some 67, none, .ext 1 (.t 62)⟩,
    ⟨some 17, none, .box (.c (.agg [.u 64 0, .u 64 0, .u 64 0, .u 64 0, .u 64 0, .u 64 0, .u 64 0, .u 64 0, .u 64 0]))⟩,
    ⟨none, none, .stl 17 9 (.t 17) (.t 66)⟩,
    ⟨some 18, none, .mov (.t 67)⟩] [3, 7, 8, 11, 12, 13, 14, 17]) (
  .seq (
  .reg [
    ⟨some 69, none, .ld true (some 9) (.t 3)⟩,
    ⟨some 70, none, .mov (.t 7)⟩,
    ⟨some 71, none, .mov (.t 8)⟩,
    ⟨some 72, none, .bin .add (.t 70) (.t 71)⟩,
    ⟨some 73, none, .call f_nat_Shr [] [(.t 69), (.t 72)]⟩,
    ⟨some 68, none, .mov (.t 73)⟩,
    ⟨some 74, none, .ext 0 (.t 68)⟩,
    ⟨some 75, none, .ext 1 (.t 68)⟩,
    ⟨some 19, none, .box (.c (.agg [.u 64 0, .u 64 0, .u 64 0, .u 64 0, .u 64 0, .u 64 0, .u 64 0, .u 64 0, .u 64 0]))⟩,
    ⟨none, none, .stl 19 9 (.t 19) (.t 74)⟩,
    ⟨some 20, none, .mov (.t 75)⟩] [3, 7, 11, 12, 13, 14, 17, 19]) (
  .seq (
  .reg [
    ⟨some 76, none, .off 0 (.t 3)⟩,
    ⟨some 77, none, .ld true (some 9) (.t 76)⟩,
    ⟨some 78, none, .mov (.t 7)⟩,
    ⟨some 79, none, .bin .sub (.c (.i 576)) (.t 78)⟩,
    ⟨some 80, none, .call f_curvetlaw0_Nat [] [(.t 77), (.t 79)]⟩,
    ⟨some 21, none, .box (.c (.agg [.u 64 0, .u 64 0, .u 64 0, .u 64 0, .u 64 0, .u 64 0, .u 64 0, .u 64 0, .u 64 0]))⟩,
    ⟨none, none, .stl 21 9 (.t 21) (.t 80)⟩] [7, 11, 12, 13, 14, 17, 19, 21]) (
  .seq (
  .reg [
    ⟨some 82, none, .ldl 21 (some 9) (.t 21)⟩,
    ⟨some 83, none, .mov (.t 7)⟩,
    ⟨some 84, none, .call f_nat_Shl [] [(.t 82), (.t 83)]⟩,
    ⟨some 81, none, .mov (.t 84)⟩,
    ⟨some 85, none, .ext 0 (.t 81)⟩,
    ⟨some 86, none, .ext 1 (.t 81)⟩,
    ⟨some 22, none, .box (.c (.agg [.u 64 0, .u 64 0, .u 64 0, .u 64 0, .u 64 0, .u 64 0, .u 64 0, .u 64 0, .u 64 0]))⟩,
    ⟨none, none, .stl 22 9 (.t 22) (.t 85)⟩,
    ⟨some 23, none, .mov (.t 86)⟩] [7, 11, 12, 13, 14, 17, 19, 21, 22]) (
  .seq (
  .reg [
    ⟨some 88, none, .ldl 22 (some 9) (.t 22)⟩,
    ⟨some 89, none, .mov (.t 7)⟩,
    ⟨some 90, none, .call f_nat_Shr [] [(.t 88), (.t 89)]⟩,
    ⟨some 87, none, .mov (.t 90)⟩,
    ⟨some 91, none, .ext 0 (.t 87)⟩,
    ⟨some 92, none, .ext 1 (.t 87)⟩,
    ⟨some 24, none, .box (.c (.agg [.u 64 0, .u 64 0, .u 64 0, .u 64 0, .u 64 0, .u 64 0, .u 64 0, .u 64 0, .u 64 0]))⟩,
    ⟨none, none, .stl 24 9 (.t 24) (.t 91)⟩,
    ⟨some 25, none, .mov (.t 92)⟩] [11, 12, 13, 14, 17, 19, 21, 24]) (
  .seq (
  .reg [
    ⟨some 93, none, .mov (.t 12)⟩,
    ⟨some 94, none, .call f_curvetlaw0_Num [] [(.t 93)]⟩,
    ⟨some 95, none, .bin .eql (.t 94) (.c (.i 0))⟩,
    ⟨some 96, none, .mov (.t 95)⟩,
    ⟨some 97, (some (96, true)), .mov (.t 14)⟩,
    ⟨some 98, (some (96, true)), .call f_curvetlaw0_Num [] [(.t 97)]⟩,
    ⟨some 99, (some (96, true)), .bin .eql (.t 98) (.c (.i 0))⟩,
    ⟨some 100, none, .pick (.t 96) (.t 99) (.c (.b false))⟩,
    ⟨some 101, none, .mov (.t 100)⟩,
    ⟨some 102, (some (101, true)), .ldl 11 (some 9) (.t 11)⟩,
    ⟨some 103, (some (101, true)), .ldl 13 (some 9) (.t 13)⟩,
    ⟨some 104, (some (101, true)), .eqv (.agg [.u 64, .u 64, .u 64, .u 64, .u 64, .u 64, .u 64, .u 64, .u 64]) false (.t 102) (.t 103)⟩,
    ⟨some 105, none, .pick (.t 101) (.t 104) (.c (.b false))⟩,
    ⟨some 106, none, .mov (.t 105)⟩,
    ⟨some 107, (some (106, true)), .ldl 17 (some 9) (.t 17)⟩,
    ⟨some 108, (some (106, true)), .ldl 19 (some 9) (.t 19)⟩,
    ⟨some 109, (some (106, true)), .eqv (.agg [.u 64, .u 64, .u 64, .u 64, .u 64, .u 64, .u 64, .u 64, .u 64]) false (.t 107) (.t 108)⟩,
    ⟨some 110, none, .pick (.t 106) (.t 109) (.c (.b false))⟩,
    ⟨some 111, none, .mov (.t 110)⟩,
    ⟨some 112, (some (111, true)), .ldl 24 (some 9) (.t 24)⟩,
    ⟨some 113, (some (111, true)), .ldl 21 (some 9) (.t 21)⟩,
    ⟨some 114, (some (111, true)), .eqv (.agg [.u 64, .u 64, .u 64, .u 64, .u 64, .u 64, .u 64, .u 64, .u 64]) false (.t 112) (.t 113)⟩,
    ⟨some 115, none, .pick (.t 111) (.t 114) (.c (.b false))⟩,
    ⟨some 6, none, .mov (.t 115)⟩] [6]) (
  .ret)))))))))))))
def m_curvetlaw1_NatShifts : MFn := ⟨c_curvetlaw1_NatShifts, [.tmp 6], 0⟩

/-- curvet/curvetlaw1.NatDigits -/
def c_curvetlaw1_NatDigits : Stm :=
  .seq (
  .reg [
    ⟨some 2, none, .boxv (.t 0)⟩,
    ⟨some 4, none, .mov (.c (.b false))⟩] [1, 2]) (
  .seq (
  .seq (
  .reg [
    ⟨some 15, none, .call f_curvetlaw1_awake [] []⟩,
    ⟨some 16, none, .un .not (.t 15)⟩] [1, 2, 16]) (
  .cond (.t 16) (
   .seq (
   .reg [
     ⟨some 4, none, .mov (.c (.b false))⟩] [4]) (
   .ret)) (
   .reg [] [1, 2]))) (
  .seq (
  .reg [
    ⟨some 18, none, .ld true (some 9) (.t 2)⟩,
    ⟨some 19, none, .call f_nat_Bytes [] [(.t 18), (.c (.i 72))]⟩,
    ⟨some 17, none, .mov (.t 19)⟩,
    ⟨some 20, none, .ext 0 (.t 17)⟩,
    ⟨some 21, none, .ext 1 (.t 17)⟩,
    ⟨some 5, none, .mov (.t 20)⟩,
    ⟨some 6, none, .mov (.t 21)⟩] [1, 2, 5, 6]) (
  .seq (
  .seq (
  .reg [
    ⟨some 22, none, .mov (.t 6)⟩,
    ⟨some 23, none, .call f_curvetlaw0_Num [] [(.t 22)]⟩,
    ⟨some 24, none, .bin .neq (.t 23) (.c (.i 0))⟩,
    ⟨some 25, none, .mov (.t 24)⟩,
    ⟨some 26, (some (25, false)), .mov (.t 5)⟩,
    ⟨some 27, (some (25, false)), .lens (.t 26)⟩,
    ⟨some 28, (some (25, false)), .bin .neq (.t 27) (.c (.i 72))⟩,
    ⟨some 29, none, .pick (.t 25) (.c (.b true)) (.t 28)⟩] [1, 2, 5, 29]) (
  .cond (.t 29) (
   .seq (
   .reg [
     ⟨some 4, none, .mov (.c (.b false))⟩] [4]) (
   .ret)) (
   .reg [] [1, 2, 5]))) (
  .seq (
  .seq (
  .reg [
    ⟨some 7, none, .mov (.c (.i 0))⟩] [1, 2, 5, 7]) (
  .block 0 (
   .loop [1, 2, 5, 7] (
    .seq (
    .seq (
    .reg [
      ⟨some 30, none, .mov (.t 7)⟩,
      ⟨some 31, none, .bin .lss (.t 30) (.c (.i 72))⟩] [1, 2, 5, 7, 31]) (
    .cond (.t 31) (
     .reg [] [1, 2, 5, 7]) (
     .exit 0 [1, 2]))) (
    .seq (
    .block 1 (
     .seq (
     .reg [
       ⟨some 35, none, .ld true (some 9) (.t 2)⟩,
       ⟨some 36, none, .mov (.t 7)⟩,
       ⟨some 37, none, .bin .mul (.c (.i 8)) (.t 36)⟩,
       ⟨some 38, none, .call f_nat_Shr [] [(.t 35), (.t 37)]⟩,
       ⟨some 34, none, .mov (.t 38)⟩,
       ⟨some 39, none, .ext 0 (.t 34)⟩,
       ⟨some 40, none, .ext 1 (.t 34)⟩,
       ⟨some 8, none, .box (.c (.agg [.u 64 0, .u 64 0, .u 64 0, .u 64 0, .u 64 0, .u 64 0, .u 64 0, .u 64 0, .u 64 0]))⟩,
       ⟨none, none, .stl 8 9 (.t 8) (.t 39)⟩,
       ⟨some 9, none, .mov (.t 40)⟩] [1, 2, 5, 7, 8, 9]) (
     .seq (
     .reg [
       ⟨some 41, none, .mov (.t 9)⟩,
       ⟨some 42, none, .call f_curvetlaw0_Num [] [(.t 41)]⟩,
       ⟨some 43, none, .bin .neq (.t 42) (.c (.i 0))⟩,
       ⟨some 44, none, .mov (.t 43)⟩,
       ⟨some 45, (some (44, false)), .mov (.t 5)⟩,
       ⟨some 46, (some (44, false)), .mov (.t 7)⟩,
       ⟨some 47, (some (44, false)), .bin .sub (.c (.i 71)) (.t 46)⟩,
       ⟨some 48, (some (44, false)), .idxb (.t 45) (.t 47)⟩,
       ⟨some 49, (some (44, false)), .off 0 (.t 8)⟩,
       ⟨some 50, (some (44, false)), .idx 9 1 (.t 49) (.c (.i 0))⟩,
       ⟨some 51, (some (44, false)), .ldl 8 none (.t 50)⟩,
       ⟨some 52, (some (44, false)), .bin .and (.t 51) (.c (.u 64 255))⟩,
       ⟨some 53, (some (44, false)), .cvu 8 (.t 52)⟩,
       ⟨some 54, (some (44, false)), .bin .neq (.t 48) (.t 53)⟩,
       ⟨some 55, none, .pick (.t 44) (.c (.b true)) (.t 54)⟩] [1, 2, 5, 7, 55]) (
     .cond (.t 55) (
      .seq (
      .reg [
        ⟨some 4, none, .mov (.c (.b false))⟩] [4]) (
      .ret)) (
      .reg [] [1, 2, 5, 7]))))) (
    .reg [
      ⟨some 32, none, .mov (.t 7)⟩,
      ⟨some 33, none, .bin .add (.t 32) (.c (.i 1))⟩,
      ⟨some 7, none, .mov (.t 33)⟩] [1, 2, 5, 7])))))) (
  .seq (
  .reg [
    ⟨some 56, none, .off 0 (.t 2)⟩,
    ⟨some 57, none, .ld true (some 9) (.t 56)⟩,
    ⟨some 58, none, .call f_curvetlaw0_Nat [] [(.t 57), (.c (.i 448))]⟩,
    ⟨some 10, none, .box (.c (.agg [.u 64 0, .u 64 0, .u 64 0, .u 64 0, .u 64 0, .u 64 0, .u 64 0, .u 64 0, .u 64 0]))⟩,
    ⟨none, none, .stl 10 9 (.t 10) (.t 58)⟩] [1, 10]) (
  .seq (
  .reg [
    ⟨some 60, none, .ldl 10 (some 9) (.t 10)⟩,
    ⟨some 61, none, .call f_nat_Bytes [] [(.t 60), (.c (.i 56))]⟩,
    ⟨some 59, none, .mov (.t 61)⟩,
    ⟨some 62, none, .ext 0 (.t 59)⟩,
    ⟨some 63, none, .ext 1 (.t 59)⟩,
    ⟨some 11, none, .mov (.t 62)⟩,
    ⟨some 12, none, .mov (.t 63)⟩] [1, 10, 11]) (
  .seq (
  .reg [
    ⟨some 65, none, .mov (.t 1)⟩,
    ⟨some 66, none, .bin .and (.t 65) (.c (.i 15))⟩,
    ⟨some 67, none, .mks 1 1 [.u 8 0] (.t 66) (.t 66)⟩,
    ⟨some 68, none, .b2s false (.t 67)⟩,
    ⟨some 69, none, .mov (.t 11)⟩,
    ⟨some 70, none, .bin .add (.t 68) (.t 69)⟩,
    ⟨some 71, none, .call f_nat_Of [] [(.t 70)]⟩,
    ⟨some 64, none, .mov (.t 71)⟩,
    ⟨some 72, none, .ext 0 (.t 64)⟩,
    ⟨some 73, none, .ext 1 (.t 64)⟩,
    ⟨some 13, none, .box (.c (.agg [.u 64 0, .u 64 0, .u 64 0, .u 64 0, .u 64 0, .u 64 0, .u 64 0, .u 64 0, .u 64 0]))⟩,
    ⟨none, none, .stl 13 9 (.t 13) (.t 72)⟩,
    ⟨some 14, none, .mov (.t 73)⟩] [10, 13, 14]) (
  .seq (
  .reg [
    ⟨some 74, none, .mov (.t 14)⟩,
    ⟨some 75, none, .call f_curvetlaw0_Num [] [(.t 74)]⟩,
    ⟨some 76, none, .bin .eql (.t 75) (.c (.i 0))⟩,
    ⟨some 77, none, .mov (.t 76)⟩,
    ⟨some 78, (some (77, true)), .ldl 13 (some 9) (.t 13)⟩,
    ⟨some 79, (some (77, true)), .ldl 10 (some 9) (.t 10)⟩,
    ⟨some 80, (some (77, true)), .eqv (.agg [.u 64, .u 64, .u 64, .u 64, .u 64, .u 64, .u 64, .u 64, .u 64]) false (.t 78) (.t 79)⟩,
    ⟨some 81, none, .pick (.t 77) (.t 80) (.c (.b false))⟩,
    ⟨some 4, none, .mov (.t 81)⟩] [4]) (
  .ret)))))))))
def m_curvetlaw1_NatDigits : MFn := ⟨c_curvetlaw1_NatDigits, [.tmp 4], 0⟩

/-- curvet/curvetlaw1.NatBits -/
def c_curvetlaw1_NatBits : Stm :=
  .seq (
  .reg [
    ⟨some 3, none, .boxv (.t 0)⟩,
    ⟨some 6, none, .mov (.c (.b false))⟩] [1, 2, 3]) (
  .seq (
  .reg [
    ⟨some 13, none, .ld true (some 9) (.t 3)⟩,
    ⟨some 14, none, .call f_curvetref1_From [] [(.t 13)]⟩,
    ⟨some 7, none, .mov (.t 14)⟩] [1, 2, 3, 7]) (
  .seq (
  .reg [
    ⟨some 16, none, .ld true (some 9) (.t 3)⟩,
    ⟨some 17, none, .mov (.t 2)⟩,
    ⟨some 18, none, .call f_nat_Shl [] [(.t 16), (.t 17)]⟩,
    ⟨some 15, none, .mov (.t 18)⟩,
    ⟨some 19, none, .ext 0 (.t 15)⟩,
    ⟨some 20, none, .ext 1 (.t 15)⟩,
    ⟨some 8, none, .box (.c (.agg [.u 64 0, .u 64 0, .u 64 0, .u 64 0, .u 64 0, .u 64 0, .u 64 0, .u 64 0, .u 64 0]))⟩,
    ⟨none, none, .stl 8 9 (.t 8) (.t 19)⟩,
    ⟨some 9, none, .mov (.t 20)⟩] [1, 2, 3, 7, 8, 9]) (
  .seq (
  .reg [
    ⟨some 22, none, .ld true (some 9) (.t 3)⟩,
    ⟨some 23, none, .mov (.t 2)⟩,
    ⟨some 24, none, .call f_nat_Shr [] [(.t 22), (.t 23)]⟩,
    ⟨some 21, none, .mov (.t 24)⟩,
    ⟨some 25, none, .ext 0 (.t 21)⟩,
    ⟨some 26, none, .ext 1 (.t 21)⟩,
    ⟨some 10, none, .box (.c (.agg [.u 64 0, .u 64 0, .u 64 0, .u 64 0, .u 64 0, .u 64 0, .u 64 0, .u 64 0, .u 64 0]))⟩,
    ⟨none, none, .stl 10 9 (.t 10) (.t 25)⟩,
    ⟨some 11, none, .mov (.t 26)⟩] [1, 2, 3, 7, 8, 9, 10, 11]) (
  .seq (
  .reg [
    ⟨some 12, none, .mov (.c (.i 0))⟩] [1, 2, 3, 7, 8, 9, 10, 11, 12]) (
  .seq (
  .seq (
  .reg [
    ⟨some 27, none, .mov (.t 1)⟩,
    ⟨some 28, none, .bin .geq (.t 27) (.c (.i 0))⟩,
    ⟨some 29, none, .mov (.t 28)⟩,
    ⟨some 30, (some (29, true)), .mov (.t 1)⟩,
    ⟨some 31, (some (29, true)), .bin .lss (.t 30) (.c (.i 576))⟩,
    ⟨some 32, none, .pick (.t 29) (.t 31) (.c (.b false))⟩] [1, 2, 3, 7, 8, 9, 10, 11, 12, 32]) (
  .cond (.t 32) (
   .reg [
     ⟨some 33, none, .mov (.t 7)⟩,
     ⟨some 34, none, .mov (.t 1)⟩,
     ⟨some 35, none, .call f_curvetref1_Bit [] [(.t 33), (.t 34)]⟩,
     ⟨some 12, none, .mov (.t 35)⟩] [1, 2, 3, 7, 8, 9, 10, 11, 12]) (
   .reg [] [1, 2, 3, 7, 8, 9, 10, 11, 12]))) (
  .seq (
  .seq (
  .reg [
    ⟨some 36, none, .ld true (some 9) (.t 3)⟩,
    ⟨some 37, none, .call f_nat_Bits [] [(.t 36)]⟩,
    ⟨some 38, none, .mov (.t 7)⟩,
    ⟨some 39, none, .call f_curvetref1_Bits [] [(.t 38)]⟩,
    ⟨some 40, none, .bin .neq (.t 37) (.t 39)⟩,
    ⟨some 41, none, .mov (.t 40)⟩,
    ⟨some 42, (some (41, false)), .ld true (some 9) (.t 3)⟩,
    ⟨some 43, (some (41, false)), .mov (.t 1)⟩,
    ⟨some 44, (some (41, false)), .call f_nat_Bit [] [(.t 42), (.t 43)]⟩,
    ⟨some 45, (some (41, false)), .mov (.t 12)⟩,
    ⟨some 46, (some (41, false)), .bin .neq (.t 44) (.t 45)⟩,
    ⟨some 47, none, .pick (.t 41) (.c (.b true)) (.t 46)⟩,
    ⟨some 48, none, .mov (.t 47)⟩,
    ⟨some 49, (some (48, false)), .mov (.t 1)⟩,
    ⟨some 50, (some (48, false)), .call f_nat_Small [] [(.t 49)]⟩,
    ⟨some 51, (some (48, false)), .mov (.t 1)⟩,
    ⟨some 52, (some (48, false)), .call f_curvetref1_Small [] [(.t 51)]⟩,
    ⟨some 53, (some (48, false)), .call f_curvetref1_Nat [] [(.t 52)]⟩,
    ⟨some 54, (some (48, false)), .eqv (.agg [.u 64, .u 64, .u 64, .u 64, .u 64, .u 64, .u 64, .u 64, .u 64]) true (.t 50) (.t 53)⟩,
    ⟨some 55, none, .pick (.t 48) (.c (.b true)) (.t 54)⟩] [2, 7, 8, 9, 10, 11, 55]) (
  .cond (.t 55) (
   .seq (
   .reg [
     ⟨some 6, none, .mov (.c (.b false))⟩] [6]) (
   .ret)) (
   .reg [] [2, 7, 8, 9, 10, 11]))) (
  .seq (
  .seq (
  .reg [
    ⟨some 56, none, .mov (.t 2)⟩,
    ⟨some 57, none, .bin .lss (.t 56) (.c (.i 0))⟩,
    ⟨some 58, none, .mov (.t 57)⟩,
    ⟨some 59, (some (58, false)), .mov (.t 2)⟩,
    ⟨some 60, (some (58, false)), .bin .gtr (.t 59) (.c (.i 576))⟩,
    ⟨some 61, none, .pick (.t 58) (.c (.b true)) (.t 60)⟩] [2, 7, 8, 9, 10, 11, 61]) (
  .cond (.t 61) (
   .seq (
   .reg [
     ⟨some 62, none, .mov (.t 9)⟩,
     ⟨some 63, none, .call f_curvetlaw0_Num [] [(.t 62)]⟩,
     ⟨some 64, none, .bin .eql (.t 63) (.c (.i 102))⟩,
     ⟨some 65, none, .mov (.t 64)⟩,
     ⟨some 66, (some (65, true)), .mov (.t 11)⟩,
     ⟨some 67, (some (65, true)), .call f_curvetlaw0_Num [] [(.t 66)]⟩,
     ⟨some 68, (some (65, true)), .bin .eql (.t 67) (.c (.i 102))⟩,
     ⟨some 69, none, .pick (.t 65) (.t 68) (.c (.b false))⟩,
     ⟨some 70, none, .mov (.t 69)⟩,
     ⟨some 71, (some (70, true)), .ldl 8 (some 9) (.t 8)⟩,
     ⟨some 72, (some (70, true)), .build [.u 64 0, .u 64 0, .u 64 0, .u 64 0, .u 64 0, .u 64 0, .u 64 0, .u 64 0, .u 64 0] []⟩,
     ⟨some 73, (some (70, true)), .eqv (.agg [.u 64, .u 64, .u 64, .u 64, .u 64, .u 64, .u 64, .u 64, .u 64]) false (.t 71) (.t 72)⟩,
     ⟨some 74, none, .pick (.t 70) (.t 73) (.c (.b false))⟩,
     ⟨some 75, none, .mov (.t 74)⟩,
     ⟨some 76, (some (75, true)), .ldl 10 (some 9) (.t 10)⟩,
     ⟨some 77, (some (75, true)), .build [.u 64 0, .u 64 0, .u 64 0, .u 64 0, .u 64 0, .u 64 0, .u 64 0, .u 64 0, .u 64 0] []⟩,
     ⟨some 78, (some (75, true)), .eqv (.agg [.u 64, .u 64, .u 64, .u 64, .u 64, .u 64, .u 64, .u 64, .u 64]) false (.t 76) (.t 77)⟩,
     ⟨some 79, none, .pick (.t 75) (.t 78) (.c (.b false))⟩,
     ⟨some 80, none, .mov (.t 79)⟩,
     ⟨some 81, (some (80, true)), .call f_curvetlaw1_awake [] []⟩,
     ⟨some 82, none, .pick (.t 80) (.t 81) (.c (.b false))⟩,
     ⟨some 6, none, .mov (.t 82)⟩] [6]) (
   .ret)) (
   .reg [] [2, 7, 8, 9, 10, 11]))) (
  .seq (
  .reg [
    ⟨some 83, none, .mov (.t 9)⟩,
    ⟨some 84, none, .call f_curvetlaw0_Num [] [(.t 83)]⟩,
    ⟨some 85, none, .bin .eql (.t 84) (.c (.i 0))⟩,
    ⟨some 86, none, .mov (.t 85)⟩,
    ⟨some 87, (some (86, true)), .mov (.t 11)⟩,
    ⟨some 88, (some (86, true)), .call f_curvetlaw0_Num [] [(.t 87)]⟩,
    ⟨some 89, (some (86, true)), .bin .eql (.t 88) (.c (.i 0))⟩,
    ⟨some 90, none, .pick (.t 86) (.t 89) (.c (.b false))⟩,
    ⟨some 91, none, .mov (.t 90)⟩,
    ⟨some 92, (some (91, true)), .ldl 8 (some 9) (.t 8)⟩,
    ⟨some 93, (some (91, true)), .mov (.t 7)⟩,
    ⟨some 94, (some (91, true)), .mov (.t 2)⟩,
    ⟨some 95, (some (91, true)), .call f_curvetref1_Shl [] [(.t 93), (.t 94)]⟩,
    ⟨some 96, (some (91, true)), .call f_curvetref1_Nat [] [(.t 95)]⟩,
    ⟨some 97, (some (91, true)), .eqv (.agg [.u 64, .u 64, .u 64, .u 64, .u 64, .u 64, .u 64, .u 64, .u 64]) false (.t 92) (.t 96)⟩,
    ⟨some 98, none, .pick (.t 91) (.t 97) (.c (.b false))⟩,
    ⟨some 99, none, .mov (.t 98)⟩,
    ⟨some 100, (some (99, true)), .ldl 10 (some 9) (.t 10)⟩,
    ⟨some 101, (some (99, true)), .mov (.t 7)⟩,
    ⟨some 102, (some (99, true)), .mov (.t 2)⟩,
    ⟨some 103, (some (99, true)), .call f_curvetref1_Shr [] [(.t 101), (.t 102)]⟩,
    ⟨some 104, (some (99, true)), .call f_curvetref1_Nat [] [(.t 103)]⟩,
    ⟨some 105, (some (99, true)), .eqv (.agg [.u 64, .u 64, .u 64, .u 64, .u 64, .u 64, .u 64, .u 64, .u 64]) false (.t 100) (.t 104)⟩,
    ⟨some 106, none, .pick (.t 99) (.t 105) (.c (.b false))⟩,
    ⟨some 107, none, .mov (.t 106)⟩,
    ⟨some 108, (some (107, true)), .call f_curvetlaw1_awake [] []⟩,
    ⟨some 109, none, .pick (.t 107) (.t 108) (.c (.b false))⟩,
    ⟨some 6, none, .mov (.t 109)⟩] [6]) (
  .ret)))))))))
def m_curvetlaw1_NatBits : MFn := ⟨c_curvetlaw1_NatBits, [.tmp 6], 0⟩

/-- curvet/nat.Of -/
def c_nat_Of : Stm :=
  .seq (
  .reg [
    ⟨some 2, none, .box (.c (.agg [.u 64 0, .u 64 0, .u 64 0, .u 64 0, .u 64 0, .u 64 0, .u 64 0, .u 64 0, .u 64 0]))⟩,
    ⟨some 3, none, .mov (.c (.i 0))⟩] [0, 2]) (
  .seq (
  .seq (
  .reg [
    ⟨some 7, none, .mov (.t 0)⟩,
    ⟨some 8, none, .lens (.t 7)⟩,
    ⟨some 9, none, .bin .gtr (.t 8) (.c (.i 72))⟩] [0, 2, 9]) (
  .cond (.t 9) (
   .seq (
   .reg [
     ⟨some 10, none, .build [.u 64 0, .u 64 0, .u 64 0, .u 64 0, .u 64 0, .u 64 0, .u 64 0, .u 64 0, .u 64 0] []⟩,
     ⟨none, none, .stl 2 9 (.t 2) (.t 10)⟩,
     ⟨some 3, none, .mov (.c (.i 100))⟩] [2, 3]) (
   .ret)) (
   .reg [] [0, 2]))) (
  .seq (
  .reg [
    ⟨some 4, none, .box (.c (.agg [.u 64 0, .u 64 0, .u 64 0, .u 64 0, .u 64 0, .u 64 0, .u 64 0, .u 64 0, .u 64 0]))⟩] [0, 2, 4]) (
  .seq (
  .seq (
  .reg [
    ⟨some 11, none, .mov (.t 0)⟩,
    ⟨some 12, none, .lens (.t 11)⟩,
    ⟨some 13, none, .mov (.c (.i 0))⟩] [0, 2, 4, 12, 13]) (
  .block 0 (
   .loop [0, 2, 4, 12, 13] (
    .seq (
    .reg [
      ⟨some 14, none, .bin .lss (.t 13) (.t 12)⟩] [0, 2, 4, 12, 13, 14]) (
    .seq (
    .cond (.t 14) (
     .reg [] [0, 2, 4, 12, 13]) (
     .exit 0 [2, 4])) (
    .seq (
    .block 1 (
     .seq (
     .reg [
       ⟨some 15, none, .mov (.t 13)⟩,
       ⟨some 5, none, .mov (.t 15)⟩] [0, 2, 4, 5, 12, 13]) (
     .seq (
     .reg [
       ⟨some 16, none, .mov (.t 0)⟩,
       ⟨some 17, none, .lens (.t 16)⟩,
       ⟨some 18, none, .bin .sub (.t 17) (.c (.i 1))⟩,
       ⟨some 19, none, .mov (.t 5)⟩,
       ⟨some 20, none, .bin .sub (.t 18) (.t 19)⟩,
       ⟨some 6, none, .mov (.t 20)⟩] [0, 2, 4, 5, 6, 12, 13]) (
     .reg [
       ⟨some 21, none, .mov (.t 5)⟩,
       ⟨some 22, none, .bin .quo (.t 21) (.c (.i 8))⟩,
       ⟨some 23, none, .off 0 (.t 4)⟩,
       ⟨some 24, none, .idx 9 1 (.t 23) (.t 22)⟩,
       ⟨some 25, none, .ldl 4 none (.t 24)⟩,
       ⟨some 26, none, .mov (.t 0)⟩,
       ⟨some 27, none, .mov (.t 6)⟩,
       ⟨some 28, none, .idxb (.t 26) (.t 27)⟩,
       ⟨some 29, none, .cvu 64 (.t 28)⟩,
       ⟨some 30, none, .mov (.t 5)⟩,
       ⟨some 31, none, .bin .rem (.t 30) (.c (.i 8))⟩,
       ⟨some 32, none, .bin .mul (.c (.i 8)) (.t 31)⟩,
       ⟨some 33, none, .bin .shl (.t 29) (.t 32)⟩,
       ⟨some 34, none, .bin .or (.t 25) (.t 33)⟩,
       ⟨some 35, none, .off 0 (.t 4)⟩,
       ⟨some 36, none, .idx 9 1 (.t 35) (.t 22)⟩,
       ⟨none, none, .stl 4 1 (.t 36) (.t 34)⟩] [0, 2, 4, 12, 13])))) (
    .reg [
      ⟨some 37, none, .bin .add (.t 13) (.c (.i 1))⟩,
      ⟨some 13, none, .mov (.t 37)⟩] [0, 2, 4, 12, 13]))))))) (
  .seq (
  .reg [
    ⟨some 38, none, .ldl 4 (some 9) (.t 4)⟩,
    ⟨none, none, .stl 2 9 (.t 2) (.t 38)⟩,
    ⟨some 3, none, .mov (.c (.i 0))⟩] [2, 3]) (
  .ret)))))
def m_nat_Of : MFn := ⟨c_nat_Of, [.cell 2 (some 9), .tmp 3], 0⟩

/-- curvet/nat.Bytes -/
def c_nat_Bytes : Stm :=
  .seq (
  .reg [
    ⟨some 2, none, .boxv (.t 0)⟩,
    ⟨some 4, none, .mov (.c (.s []))⟩,
    ⟨some 5, none, .mov (.c (.i 0))⟩] [1, 2]) (
  .seq (
  .seq (
  .reg [
    ⟨some 8, none, .mov (.t 1)⟩,
    ⟨some 9, none, .bin .lss (.t 8) (.c (.i 0))⟩,
    ⟨some 10, none, .mov (.t 9)⟩,
    ⟨some 11, (some (10, false)), .mov (.t 1)⟩,
    ⟨some 12, (some (10, false)), .bin .gtr (.t 11) (.c (.i 72))⟩,
    ⟨some 13, none, .pick (.t 10) (.c (.b true)) (.t 12)⟩,
    ⟨some 14, none, .mov (.t 13)⟩,
    ⟨some 15, (some (14, false)), .ld true (some 9) (.t 2)⟩,
    ⟨some 16, (some (14, false)), .call f_nat_Bits [] [(.t 15)]⟩,
    ⟨some 17, (some (14, false)), .mov (.t 1)⟩,
    ⟨some 18, (some (14, false)), .bin .mul (.c (.i 8)) (.t 17)⟩,
    ⟨some 19, (some (14, false)), .bin .gtr (.t 16) (.t 18)⟩,
    ⟨some 20, none, .pick (.t 14) (.c (.b true)) (.t 19)⟩] [1, 2, 20]) (
  .cond (.t 20) (
   .seq (
   .reg [
     ⟨some 4, none, .mov (.c (.s []))⟩,
     ⟨some 5, none, .mov (.c (.i 101))⟩] [4, 5]) (
   .ret)) (
   .reg [] [1, 2]))) (
  .seq (
  .reg [
    ⟨some 21, none, .mov (.t 1)⟩,
    ⟨some 22, none, .mks 1 1 [.u 8 0] (.t 21) (.t 21)⟩,
    ⟨some 6, none, .mov (.t 22)⟩] [1, 2, 6]) (
  .seq (
  .seq (
  .reg [
    ⟨some 23, none, .mov (.t 6)⟩,
    ⟨some 24, none, .len (.t 23)⟩,
    ⟨some 25, none, .mov (.c (.i 0))⟩] [1, 2, 6, 24, 25]) (
  .block 0 (
   .loop [1, 2, 6, 24, 25] (
    .seq (
    .reg [
      ⟨some 26, none, .bin .lss (.t 25) (.t 24)⟩] [1, 2, 6, 24, 25, 26]) (
    .seq (
    .cond (.t 26) (
     .reg [] [1, 2, 6, 24, 25]) (
     .exit 0 [6])) (
    .seq (
    .block 1 (
     .seq (
     .reg [
       ⟨some 27, none, .mov (.t 25)⟩,
       ⟨some 7, none, .mov (.t 27)⟩] [1, 2, 6, 7, 24, 25]) (
     .reg [
       ⟨some 28, none, .mov (.t 6)⟩,
       ⟨some 29, none, .mov (.t 1)⟩,
       ⟨some 30, none, .bin .sub (.t 29) (.c (.i 1))⟩,
       ⟨some 31, none, .mov (.t 7)⟩,
       ⟨some 32, none, .bin .sub (.t 30) (.t 31)⟩,
       ⟨some 33, none, .mov (.t 7)⟩,
       ⟨some 34, none, .bin .quo (.t 33) (.c (.i 8))⟩,
       ⟨some 35, none, .off 0 (.t 2)⟩,
       ⟨some 36, none, .idx 9 1 (.t 35) (.t 34)⟩,
       ⟨some 37, none, .ld true none (.t 36)⟩,
       ⟨some 38, none, .mov (.t 7)⟩,
       ⟨some 39, none, .bin .rem (.t 38) (.c (.i 8))⟩,
       ⟨some 40, none, .bin .mul (.c (.i 8)) (.t 39)⟩,
       ⟨some 41, none, .bin .shr (.t 37) (.t 40)⟩,
       ⟨some 42, none, .cvu 8 (.t 41)⟩,
       ⟨some 43, none, .idxs 1 (.t 28) (.t 32)⟩,
       ⟨none, none, .st 1 (.t 43) (.t 42)⟩] [1, 2, 6, 24, 25]))) (
    .reg [
      ⟨some 44, none, .bin .add (.t 25) (.c (.i 1))⟩,
      ⟨some 25, none, .mov (.t 44)⟩] [1, 2, 6, 24, 25]))))))) (
  .seq (
  .reg [
    ⟨some 45, none, .mov (.t 6)⟩,
    ⟨some 46, none, .b2s false (.t 45)⟩,
    ⟨some 4, none, .mov (.t 46)⟩,
    ⟨some 5, none, .mov (.c (.i 0))⟩] [4, 5]) (
  .ret)))))
def m_nat_Bytes : MFn := ⟨c_nat_Bytes, [.tmp 4, .tmp 5], 0⟩

/-- curvet/curvetref1.Bytes -/
def c_curvetref1_Bytes : Stm :=
  .seq (
  .reg [
    ⟨some 4, none, .mov (.c (.s []))⟩,
    ⟨some 5, none, .mov (.c (.b false))⟩] [0, 1]) (
  .seq (
  .seq (
  .reg [
    ⟨some 8, none, .mov (.t 1)⟩,
    ⟨some 9, none, .bin .lss (.t 8) (.c (.i 0))⟩,
    ⟨some 10, none, .mov (.t 9)⟩,
    ⟨some 11, (some (10, false)), .mov (.t 1)⟩,
    ⟨some 12, (some (10, false)), .bin .gtr (.t 11) (.c (.i 72))⟩,
    ⟨some 13, none, .pick (.t 10) (.c (.b true)) (.t 12)⟩,
    ⟨some 14, none, .mov (.t 13)⟩,
    ⟨some 15, (some (14, false)), .mov (.t 0)⟩,
    ⟨some 16, (some (14, false)), .call f_curvetref1_Bits [] [(.t 15)]⟩,
    ⟨some 17, (some (14, false)), .mov (.t 1)⟩,
    ⟨some 18, (some (14, false)), .bin .mul (.c (.i 8)) (.t 17)⟩,
    ⟨some 19, (some (14, false)), .bin .gtr (.t 16) (.t 18)⟩,
    ⟨some 20, none, .pick (.t 14) (.c (.b true)) (.t 19)⟩] [0, 1, 20]) (
  .cond (.t 20) (
   .seq (
   .reg [
     ⟨some 4, none, .mov (.c (.s []))⟩,
     ⟨some 5, none, .mov (.c (.b false))⟩] [4, 5]) (
   .ret)) (
   .reg [] [0, 1]))) (
  .seq (
  .reg [
    ⟨some 21, none, .mov (.t 1)⟩,
    ⟨some 22, none, .mks 1 1 [.u 8 0] (.t 21) (.t 21)⟩,
    ⟨some 6, none, .mov (.t 22)⟩] [0, 1, 6]) (
  .seq (
  .seq (
  .reg [
    ⟨some 7, none, .mov (.c (.i 0))⟩] [0, 1, 6, 7]) (
  .block 0 (
   .loop [0, 1, 6, 7] (
    .seq (
    .seq (
    .reg [
      ⟨some 23, none, .mov (.t 7)⟩,
      ⟨some 24, none, .mov (.t 1)⟩,
      ⟨some 25, none, .bin .lss (.t 23) (.t 24)⟩] [0, 1, 6, 7, 25]) (
    .cond (.t 25) (
     .reg [] [0, 1, 6, 7]) (
     .exit 0 [6]))) (
    .seq (
    .block 1 (
     .reg [
       ⟨some 28, none, .mov (.t 6)⟩,
       ⟨some 29, none, .mov (.t 1)⟩,
       ⟨some 30, none, .bin .sub (.t 29) (.c (.i 1))⟩,
       ⟨some 31, none, .mov (.t 7)⟩,
       ⟨some 32, none, .bin .sub (.t 30) (.t 31)⟩,
       ⟨some 33, none, .mov (.t 0)⟩,
       ⟨some 34, none, .mov (.t 7)⟩,
       ⟨some 35, none, .bin .quo (.t 34) (.c (.i 4))⟩,
       ⟨some 36, none, .call f_curvetref1_digit [] [(.t 33), (.t 35)]⟩,
       ⟨some 37, none, .mov (.t 7)⟩,
       ⟨some 38, none, .bin .rem (.t 37) (.c (.i 4))⟩,
       ⟨some 39, none, .bin .mul (.t 38) (.c (.i 8))⟩,
       ⟨some 40, none, .bin .shr (.t 36) (.t 39)⟩,
       ⟨some 41, none, .bin .and (.t 40) (.c (.u 64 255))⟩,
       ⟨some 42, none, .cvu 8 (.t 41)⟩,
       ⟨some 43, none, .idxs 1 (.t 28) (.t 32)⟩,
       ⟨none, none, .st 1 (.t 43) (.t 42)⟩] [0, 1, 6, 7])) (
    .reg [
      ⟨some 26, none, .mov (.t 7)⟩,
      ⟨some 27, none, .bin .add (.t 26) (.c (.i 1))⟩,
      ⟨some 7, none, .mov (.t 27)⟩] [0, 1, 6, 7])))))) (
  .seq (
  .reg [
    ⟨some 44, none, .mov (.t 6)⟩,
    ⟨some 45, none, .b2s false (.t 44)⟩,
    ⟨some 4, none, .mov (.t 45)⟩,
    ⟨some 5, none, .mov (.c (.b true))⟩] [4, 5]) (
  .ret)))))
def m_curvetref1_Bytes : MFn := ⟨c_curvetref1_Bytes, [.tmp 4, .tmp 5], 0⟩

/-- curvet/curvetref1.From -/
def c_curvetref1_From : Stm :=
  .seq (
  .reg [
    ⟨some 1, none, .boxv (.t 0)⟩,
    ⟨some 2, none, .mov (.c (.vs 0 []))⟩] [1]) (
  .seq (
  .reg [
    ⟨some 5, none, .mks 1 4 [.u 32 0] (.c (.i 18)) (.c (.i 18))⟩,
    ⟨some 3, none, .mov (.t 5)⟩] [1, 3]) (
  .seq (
  .seq (
  .reg [
    ⟨some 4, none, .mov (.c (.i 0))⟩] [1, 3, 4]) (
  .block 0 (
   .loop [1, 3, 4] (
    .seq (
    .seq (
    .reg [
      ⟨some 6, none, .mov (.t 4)⟩,
      ⟨some 7, none, .bin .lss (.t 6) (.c (.i 9))⟩] [1, 3, 4, 7]) (
    .cond (.t 7) (
     .reg [] [1, 3, 4]) (
     .exit 0 [3]))) (
    .seq (
    .block 1 (
     .seq (
     .reg [
       ⟨some 10, none, .mov (.t 3)⟩,
       ⟨some 11, none, .mov (.t 4)⟩,
       ⟨some 12, none, .bin .mul (.c (.i 2)) (.t 11)⟩,
       ⟨some 13, none, .mov (.t 4)⟩,
       ⟨some 14, none, .off 0 (.t 1)⟩,
       ⟨some 15, none, .idx 9 1 (.t 14) (.t 13)⟩,
       ⟨some 16, none, .ld true none (.t 15)⟩,
       ⟨some 17, none, .bin .and (.t 16) (.c (.u 64 4294967295))⟩,
       ⟨some 18, none, .cvu 32 (.t 17)⟩,
       ⟨some 19, none, .idxs 1 (.t 10) (.t 12)⟩,
       ⟨none, none, .st 1 (.t 19) (.t 18)⟩] [1, 3, 4]) (
     .reg [
       ⟨some 20, none, .mov (.t 3)⟩,
       ⟨some 21, none, .mov (.t 4)⟩,
       ⟨some 22, none, .bin .mul (.c (.i 2)) (.t 21)⟩,
       ⟨some 23, none, .bin .add (.t 22) (.c (.i 1))⟩,
       ⟨some 24, none, .mov (.t 4)⟩,
       ⟨some 25, none, .off 0 (.t 1)⟩,
       ⟨some 26, none, .idx 9 1 (.t 25) (.t 24)⟩,
       ⟨some 27, none, .ld true none (.t 26)⟩,
       ⟨some 28, none, .bin .shr (.t 27) (.c (.u 64 32))⟩,
       ⟨some 29, none, .cvu 32 (.t 28)⟩,
       ⟨some 30, none, .idxs 1 (.t 20) (.t 23)⟩,
       ⟨none, none, .st 1 (.t 30) (.t 29)⟩] [1, 3, 4]))) (
    .reg [
      ⟨some 8, none, .mov (.t 4)⟩,
      ⟨some 9, none, .bin .add (.t 8) (.c (.i 1))⟩,
      ⟨some 4, none, .mov (.t 9)⟩] [1, 3, 4])))))) (
  .seq (
  .reg [
    ⟨some 31, none, .mov (.t 3)⟩,
    ⟨some 32, none, .call f_curvetref1_trim [] [(.t 31)]⟩,
    ⟨some 2, none, .mov (.t 32)⟩] [2]) (
  .ret))))
def m_curvetref1_From : MFn := ⟨c_curvetref1_From, [.tmp 2], 0⟩

/-- curvet/curvetlaw0.Num -/
def c_curvetlaw0_Num : Stm :=
  .seq (
  .reg [
    ⟨some 2, none, .mov (.c (.i 0))⟩] [0]) (
  .seq (
  .reg [
    ⟨some 3, none, .mov (.t 0)⟩,
    ⟨some 2, none, .mov (.t 3)⟩] [2]) (
  .ret))
def m_curvetlaw0_Num : MFn := ⟨c_curvetlaw0_Num, [.tmp 2], 0⟩

/-- curvet/curvetlaw1.awake -/
def c_curvetlaw1_awake : Stm :=
  .seq (
  .reg [
    ⟨some 0, none, .mov (.c (.b false))⟩] []) (
  .seq (
  .reg [
    ⟨some 15, none, .call f_nat_Small [] [(.c (.i 3))]⟩,
    ⟨some 16, none, .call f_nat_Small [] [(.c (.i 4))]⟩,
    ⟨some 17, none, .call f_nat_Add [] [(.t 15), (.t 16)]⟩,
    ⟨some 14, none, .mov (.t 17)⟩,
    ⟨some 18, none, .ext 0 (.t 14)⟩,
    ⟨some 19, none, .ext 1 (.t 14)⟩,
    ⟨some 1, none, .box (.c (.agg [.u 64 0, .u 64 0, .u 64 0, .u 64 0, .u 64 0, .u 64 0, .u 64 0, .u 64 0, .u 64 0]))⟩,
    ⟨none, none, .stl 1 9 (.t 1) (.t 18)⟩,
    ⟨some 2, none, .mov (.t 19)⟩] [1, 2]) (
  .seq (
  .reg [
    ⟨some 21, none, .call f_nat_Small [] [(.c (.i 3))]⟩,
    ⟨some 22, none, .call f_nat_Small [] [(.c (.i 4))]⟩,
    ⟨some 23, none, .call f_nat_Sub [] [(.t 21), (.t 22)]⟩,
    ⟨some 20, none, .mov (.t 23)⟩,
    ⟨some 24, none, .ext 0 (.t 20)⟩,
    ⟨some 25, none, .ext 1 (.t 20)⟩,
    ⟨some 3, none, .box (.c (.agg [.u 64 0, .u 64 0, .u 64 0, .u 64 0, .u 64 0, .u 64 0, .u 64 0, .u 64 0, .u 64 0]))⟩,
    ⟨none, none, .stl 3 9 (.t 3) (.t 24)⟩,
    ⟨some 4, none, .mov (.t 25)⟩] [1, 2, 4]) (
  .seq (
  .reg [
    ⟨some 26, none, .call f_nat_Small [] [(.c (.i 1099511627776))]⟩,
    ⟨some 27, none, .call f_nat_Small [] [(.c (.i 1099511627776))]⟩,
    ⟨some 28, none, .call f_nat_Mul [] [(.t 26), (.t 27)]⟩,
    ⟨some 5, none, .box (.c (.agg [.u 64 0, .u 64 0, .u 64 0, .u 64 0, .u 64 0, .u 64 0, .u 64 0, .u 64 0, .u 64 0, .u 64 0, .u 64 0, .u 64 0, .u 64 0, .u 64 0, .u 64 0, .u 64 0, .u 64 0, .u 64 0]))⟩,
    ⟨none, none, .stl 5 18 (.t 5) (.t 28)⟩] [1, 2, 4, 5]) (
  .seq (
  .reg [
    ⟨some 30, none, .call f_nat_Of [] [(.c (.s [1, 0]))]⟩,
    ⟨some 29, none, .mov (.t 30)⟩,
    ⟨some 31, none, .ext 0 (.t 29)⟩,
    ⟨some 32, none, .ext 1 (.t 29)⟩,
    ⟨some 6, none, .box (.c (.agg [.u 64 0, .u 64 0, .u 64 0, .u 64 0, .u 64 0, .u 64 0, .u 64 0, .u 64 0, .u 64 0]))⟩,
    ⟨none, none, .stl 6 9 (.t 6) (.t 31)⟩,
    ⟨some 7, none, .mov (.t 32)⟩] [1, 2, 4, 5, 6, 7]) (
  .seq (
  .reg [
    ⟨some 34, none, .call f_nat_Small [] [(.c (.i 258))]⟩,
    ⟨some 35, none, .call f_nat_Bytes [] [(.t 34), (.c (.i 3))]⟩,
    ⟨some 33, none, .mov (.t 35)⟩,
    ⟨some 36, none, .ext 0 (.t 33)⟩,
    ⟨some 37, none, .ext 1 (.t 33)⟩,
    ⟨some 8, none, .mov (.t 36)⟩,
    ⟨some 9, none, .mov (.t 37)⟩] [1, 2, 4, 5, 6, 7, 8, 9]) (
  .seq (
  .reg [
    ⟨some 39, none, .call f_nat_Small [] [(.c (.i 258))]⟩,
    ⟨some 40, none, .call f_nat_Bytes [] [(.t 39), (.c (.i 1))]⟩,
    ⟨some 38, none, .mov (.t 40)⟩,
    ⟨some 41, none, .ext 0 (.t 38)⟩,
    ⟨some 42, none, .ext 1 (.t 38)⟩,
    ⟨some 10, none, .mov (.t 41)⟩,
    ⟨some 11, none, .mov (.t 42)⟩] [1, 2, 4, 5, 6, 7, 8, 9, 11]) (
  .seq (
  .reg [
    ⟨some 44, none, .ldl 1 (some 9) (.t 1)⟩,
    ⟨some 45, none, .call f_nat_Shl [] [(.t 44), (.c (.i 577))]⟩,
    ⟨some 43, none, .mov (.t 45)⟩,
    ⟨some 46, none, .ext 0 (.t 43)⟩,
    ⟨some 47, none, .ext 1 (.t 43)⟩,
    ⟨some 12, none, .box (.c (.agg [.u 64 0, .u 64 0, .u 64 0, .u 64 0, .u 64 0, .u 64 0, .u 64 0, .u 64 0, .u 64 0]))⟩,
    ⟨none, none, .stl 12 9 (.t 12) (.t 46)⟩,
    ⟨some 13, none, .mov (.t 47)⟩] [1, 2, 4, 5, 6, 7, 8, 9, 11, 13]) (
  .seq (
  .reg [
    ⟨some 48, none, .off 0 (.t 1)⟩,
    ⟨some 49, none, .idx 9 1 (.t 48) (.c (.i 0))⟩,
    ⟨some 50, none, .ldl 1 none (.t 49)⟩,
    ⟨some 51, none, .bin .eql (.t 50) (.c (.u 64 7))⟩,
    ⟨some 52, none, .mov (.t 51)⟩,
    ⟨some 53, (some (52, true)), .mov (.t 2)⟩,
    ⟨some 54, (some (52, true)), .un .not (.t 53)⟩,
    ⟨some 55, none, .pick (.t 52) (.t 54) (.c (.b false))⟩,
    ⟨some 56, none, .mov (.t 55)⟩,
    ⟨some 57, (some (56, true)), .mov (.t 4)⟩,
    ⟨some 58, none, .pick (.t 56) (.t 57) (.c (.b false))⟩,
    ⟨some 59, none, .mov (.t 58)⟩,
    ⟨some 60, (some (59, true)), .off 0 (.t 5)⟩,
    ⟨some 61, (some (59, true)), .idx 18 1 (.t 60) (.c (.i 1))⟩,
    ⟨some 62, (some (59, true)), .ldl 5 none (.t 61)⟩,
    ⟨some 63, (some (59, true)), .bin .eql (.t 62) (.c (.u 64 65536))⟩,
    ⟨some 64, none, .pick (.t 59) (.t 63) (.c (.b false))⟩,
    ⟨some 65, none, .mov (.t 64)⟩,
    ⟨some 66, (some (65, true)), .off 0 (.t 6)⟩,
    ⟨some 67, (some (65, true)), .idx 9 1 (.t 66) (.c (.i 0))⟩,
    ⟨some 68, (some (65, true)), .ldl 6 none (.t 67)⟩,
    ⟨some 69, (some (65, true)), .bin .eql (.t 68) (.c (.u 64 256))⟩,
    ⟨some 70, none, .pick (.t 65) (.t 69) (.c (.b false))⟩,
    ⟨some 71, none, .mov (.t 70)⟩,
    ⟨some 72, (some (71, true)), .mov (.t 7)⟩,
    ⟨some 73, (some (71, true)), .call f_curvetlaw0_Num [] [(.t 72)]⟩,
    ⟨some 74, (some (71, true)), .bin .eql (.t 73) (.c (.i 0))⟩,
    ⟨some 75, none, .pick (.t 71) (.t 74) (.c (.b false))⟩,
    ⟨some 76, none, .mov (.t 75)⟩,
    ⟨some 77, (some (76, true)), .mov (.t 8)⟩,
    ⟨some 78, (some (76, true)), .bin .eql (.t 77) (.c (.s [0, 1, 2]))⟩,
    ⟨some 79, none, .pick (.t 76) (.t 78) (.c (.b false))⟩,
    ⟨some 80, none, .mov (.t 79)⟩,
    ⟨some 81, (some (80, true)), .mov (.t 9)⟩,
    ⟨some 82, (some (80, true)), .call f_curvetlaw0_Num [] [(.t 81)]⟩,
    ⟨some 83, (some (80, true)), .bin .eql (.t 82) (.c (.i 0))⟩,
    ⟨some 84, none, .pick (.t 80) (.t 83) (.c (.b false))⟩,
    ⟨some 85, none, .mov (.t 84)⟩,
    ⟨some 86, (some (85, true)), .mov (.t 11)⟩,
    ⟨some 87, (some (85, true)), .call f_curvetlaw0_Num [] [(.t 86)]⟩,
    ⟨some 88, (some (85, true)), .bin .eql (.t 87) (.c (.i 101))⟩,
    ⟨some 89, none, .pick (.t 85) (.t 88) (.c (.b false))⟩,
    ⟨some 90, none, .mov (.t 89)⟩,
    ⟨some 91, (some (90, true)), .mov (.t 13)⟩,
    ⟨some 92, (some (90, true)), .call f_curvetlaw0_Num [] [(.t 91)]⟩,
    ⟨some 93, (some (90, true)), .bin .eql (.t 92) (.c (.i 102))⟩,
    ⟨some 94, none, .pick (.t 90) (.t 93) (.c (.b false))⟩,
    ⟨some 95, none, .mov (.t 94)⟩,
    ⟨some 96, (some (95, true)), .call f_nat_Small [] [(.c (.i 8))]⟩,
    ⟨some 97, (some (95, true)), .call f_nat_Bits [] [(.t 96)]⟩,
    ⟨some 98, (some (95, true)), .bin .eql (.t 97) (.c (.i 4))⟩,
    ⟨some 99, none, .pick (.t 95) (.t 98) (.c (.b false))⟩,
    ⟨some 0, none, .mov (.t 99)⟩] [0]) (
  .ret)))))))))
def m_curvetlaw1_awake : MFn := ⟨c_curvetlaw1_awake, [.tmp 0], 0⟩

/-- curvet/curvetref1.Nat -/
def c_curvetref1_Nat : Stm :=
  .seq (
  .reg [
    ⟨some 2, none, .box (.c (.agg [.u 64 0, .u 64 0, .u 64 0, .u 64 0, .u 64 0, .u 64 0, .u 64 0, .u 64 0, .u 64 0]))⟩] [0, 2]) (
  .seq (
  .reg [
    ⟨some 3, none, .box (.c (.agg [.u 64 0, .u 64 0, .u 64 0, .u 64 0, .u 64 0, .u 64 0, .u 64 0, .u 64 0, .u 64 0]))⟩] [0, 2, 3]) (
  .seq (
  .seq (
  .reg [
    ⟨some 4, none, .mov (.c (.i 0))⟩] [0, 2, 3, 4]) (
  .block 0 (
   .loop [0, 2, 3, 4] (
    .seq (
    .seq (
    .reg [
      ⟨some 5, none, .mov (.t 4)⟩,
      ⟨some 6, none, .bin .lss (.t 5) (.c (.i 9))⟩] [0, 2, 3, 4, 6]) (
    .cond (.t 6) (
     .reg [] [0, 2, 3, 4]) (
     .exit 0 [2, 3]))) (
    .seq (
    .block 1 (
     .reg [
       ⟨some 9, none, .mov (.t 4)⟩,
       ⟨some 10, none, .mov (.t 0)⟩,
       ⟨some 11, none, .mov (.t 4)⟩,
       ⟨some 12, none, .bin .mul (.c (.i 2)) (.t 11)⟩,
       ⟨some 13, none, .call f_curvetref1_digit [] [(.t 10), (.t 12)]⟩,
       ⟨some 14, none, .mov (.t 0)⟩,
       ⟨some 15, none, .mov (.t 4)⟩,
       ⟨some 16, none, .bin .mul (.c (.i 2)) (.t 15)⟩,
       ⟨some 17, none, .bin .add (.t 16) (.c (.i 1))⟩,
       ⟨some 18, none, .call f_curvetref1_digit [] [(.t 14), (.t 17)]⟩,
       ⟨some 19, none, .bin .shl (.t 18) (.c (.u 64 32))⟩,
       ⟨some 20, none, .bin .or (.t 13) (.t 19)⟩,
       ⟨some 21, none, .off 0 (.t 3)⟩,
       ⟨some 22, none, .idx 9 1 (.t 21) (.t 9)⟩,
       ⟨none, none, .stl 3 1 (.t 22) (.t 20)⟩] [0, 2, 3, 4])) (
    .reg [
      ⟨some 7, none, .mov (.t 4)⟩,
      ⟨some 8, none, .bin .add (.t 7) (.c (.i 1))⟩,
      ⟨some 4, none, .mov (.t 8)⟩] [0, 2, 3, 4])))))) (
  .seq (
  .reg [
    ⟨some 23, none, .ldl 3 (some 9) (.t 3)⟩,
    ⟨none, none, .stl 2 9 (.t 2) (.t 23)⟩] [2]) (
  .ret))))
def m_curvetref1_Nat : MFn := ⟨c_curvetref1_Nat, [.cell 2 (some 9)], 0⟩

/-- curvet/curvetref1.Read -/
def c_curvetref1_Read : Stm :=
  .seq (
  .reg [
    ⟨some 2, none, .mov (.c (.vs 0 []))⟩] [0]) (
  .seq (
  .reg [
    ⟨some 6, none, .mov (.t 0)⟩,
    ⟨some 7, none, .lens (.t 6)⟩,
    ⟨some 8, none, .bin .quo (.t 7) (.c (.i 4))⟩,
    ⟨some 9, none, .bin .add (.t 8) (.c (.i 1))⟩,
    ⟨some 10, none, .mks 1 4 [.u 32 0] (.t 9) (.t 9)⟩,
    ⟨some 3, none, .mov (.t 10)⟩] [0, 3]) (
  .seq (
  .seq (
  .reg [
    ⟨some 4, none, .mov (.c (.i 0))⟩] [0, 3, 4]) (
  .block 0 (
   .loop [0, 3, 4] (
    .seq (
    .seq (
    .reg [
      ⟨some 11, none, .mov (.t 4)⟩,
      ⟨some 12, none, .mov (.t 0)⟩,
      ⟨some 13, none, .lens (.t 12)⟩,
      ⟨some 14, none, .bin .lss (.t 11) (.t 13)⟩] [0, 3, 4, 14]) (
    .cond (.t 14) (
     .reg [] [0, 3, 4]) (
     .exit 0 [3]))) (
    .seq (
    .block 1 (
     .seq (
     .reg [
       ⟨some 17, none, .mov (.t 0)⟩,
       ⟨some 18, none, .lens (.t 17)⟩,
       ⟨some 19, none, .bin .sub (.t 18) (.c (.i 1))⟩,
       ⟨some 20, none, .mov (.t 4)⟩,
       ⟨some 21, none, .bin .sub (.t 19) (.t 20)⟩,
       ⟨some 5, none, .mov (.t 21)⟩] [0, 3, 4, 5]) (
     .reg [
       ⟨some 22, none, .mov (.t 3)⟩,
       ⟨some 23, none, .mov (.t 5)⟩,
       ⟨some 24, none, .bin .quo (.t 23) (.c (.i 4))⟩,
       ⟨some 25, none, .mov (.t 3)⟩,
       ⟨some 26, none, .mov (.t 5)⟩,
       ⟨some 27, none, .bin .quo (.t 26) (.c (.i 4))⟩,
       ⟨some 28, none, .idxs 1 (.t 25) (.t 27)⟩,
       ⟨some 29, none, .ld false none (.t 28)⟩,
       ⟨some 30, none, .mov (.t 0)⟩,
       ⟨some 31, none, .mov (.t 4)⟩,
       ⟨some 32, none, .idxb (.t 30) (.t 31)⟩,
       ⟨some 33, none, .cvu 32 (.t 32)⟩,
       ⟨some 34, none, .mov (.t 5)⟩,
       ⟨some 35, none, .bin .rem (.t 34) (.c (.i 4))⟩,
       ⟨some 36, none, .bin .mul (.t 35) (.c (.i 8))⟩,
       ⟨some 37, none, .bin .shl (.t 33) (.t 36)⟩,
       ⟨some 38, none, .bin .or (.t 29) (.t 37)⟩,
       ⟨some 39, none, .idxs 1 (.t 22) (.t 24)⟩,
       ⟨none, none, .st 1 (.t 39) (.t 38)⟩] [0, 3, 4]))) (
    .reg [
      ⟨some 15, none, .mov (.t 4)⟩,
      ⟨some 16, none, .bin .add (.t 15) (.c (.i 1))⟩,
      ⟨some 4, none, .mov (.t 16)⟩] [0, 3, 4])))))) (
  .seq (
  .reg [
    ⟨some 40, none, .mov (.t 3)⟩,
    ⟨some 41, none, .call f_curvetref1_trim [] [(.t 40)]⟩,
    ⟨some 2, none, .mov (.t 41)⟩] [2]) (
  .ret))))
def m_curvetref1_Read : MFn := ⟨c_curvetref1_Read, [.tmp 2], 0⟩

/-- curvet/nat.Bits -/
def c_nat_Bits : Stm :=
  .seq (
  .reg [
    ⟨some 1, none, .boxv (.t 0)⟩,
    ⟨some 2, none, .mov (.c (.i 0))⟩] [1]) (
  .seq (
  .reg [
    ⟨some 4, none, .call f_nat_used [] [(.t 1)]⟩,
    ⟨some 3, none, .mov (.t 4)⟩] [1, 3]) (
  .seq (
  .seq (
  .reg [
    ⟨some 5, none, .mov (.t 3)⟩,
    ⟨some 6, none, .bin .eql (.t 5) (.c (.i 0))⟩] [1, 3, 6]) (
  .cond (.t 6) (
   .seq (
   .reg [
     ⟨some 2, none, .mov (.c (.i 0))⟩] [2]) (
   .ret)) (
   .reg [] [1, 3]))) (
  .seq (
  .reg [
    ⟨some 7, none, .mov (.t 3)⟩,
    ⟨some 8, none, .bin .sub (.t 7) (.c (.i 1))⟩,
    ⟨some 9, none, .bin .mul (.t 8) (.c (.i 64))⟩,
    ⟨some 10, none, .mov (.t 3)⟩,
    ⟨some 11, none, .bin .sub (.t 10) (.c (.i 1))⟩,
    ⟨some 12, none, .off 0 (.t 1)⟩,
    ⟨some 13, none, .idx 9 1 (.t 12) (.t 11)⟩,
    ⟨some 14, none, .ld true none (.t 13)⟩,
    ⟨some 15, none, .call f_bits_Len64 [] [(.t 14)]⟩,
    ⟨some 16, none, .bin .add (.t 9) (.t 15)⟩,
    ⟨some 2, none, .mov (.t 16)⟩] [2]) (
  .ret))))
def m_nat_Bits : MFn := ⟨c_nat_Bits, [.tmp 2], 0⟩

/-- curvet/curvetlaw0.Nat -/
def c_curvetlaw0_Nat : Stm :=
  .seq (
  .reg [
    ⟨some 2, none, .boxv (.t 0)⟩,
    ⟨some 4, none, .box (.c (.agg [.u 64 0, .u 64 0, .u 64 0, .u 64 0, .u 64 0, .u 64 0, .u 64 0, .u 64 0, .u 64 0]))⟩] [1, 2, 4]) (
  .seq (
  .reg [
    ⟨some 5, none, .box (.c (.agg [.u 64 0, .u 64 0, .u 64 0, .u 64 0, .u 64 0, .u 64 0, .u 64 0, .u 64 0, .u 64 0]))⟩] [1, 2, 4, 5]) (
  .seq (
  .seq (
  .reg [
    ⟨some 6, none, .mov (.c (.i 0))⟩] [1, 2, 4, 5, 6]) (
  .block 0 (
   .loop [1, 2, 4, 5, 6] (
    .seq (
    .seq (
    .reg [
      ⟨some 8, none, .mov (.t 6)⟩,
      ⟨some 9, none, .bin .lss (.t 8) (.c (.i 9))⟩] [1, 2, 4, 5, 6, 9]) (
    .cond (.t 9) (
     .reg [] [1, 2, 4, 5, 6]) (
     .exit 0 [4, 5]))) (
    .seq (
    .block 1 (
     .seq (
     .reg [
       ⟨some 12, none, .mov (.t 1)⟩,
       ⟨some 13, none, .mov (.t 6)⟩,
       ⟨some 14, none, .bin .mul (.c (.i 64)) (.t 13)⟩,
       ⟨some 15, none, .bin .sub (.t 12) (.t 14)⟩,
       ⟨some 7, none, .mov (.t 15)⟩] [1, 2, 4, 5, 6, 7]) (
     .block 2 (
      .seq (
      .reg [
        ⟨some 17, none, .mov (.t 7)⟩,
        ⟨some 18, none, .bin .geq (.t 17) (.c (.i 64))⟩,
        ⟨some 16, none, .mov (.t 18)⟩] [1, 2, 4, 5, 6, 7, 16]) (
      .cond (.t 16) (
       .reg [
         ⟨some 19, none, .mov (.t 6)⟩,
         ⟨some 20, none, .mov (.t 6)⟩,
         ⟨some 21, none, .idx 9 1 (.t 2) (.t 20)⟩,
         ⟨some 22, none, .ld true none (.t 21)⟩,
         ⟨some 23, none, .off 0 (.t 5)⟩,
         ⟨some 24, none, .idx 9 1 (.t 23) (.t 19)⟩,
         ⟨none, none, .stl 5 1 (.t 24) (.t 22)⟩] [1, 2, 4, 5, 6]) (
       .seq (
       .reg [
         ⟨some 26, none, .mov (.t 7)⟩,
         ⟨some 27, none, .bin .gtr (.t 26) (.c (.i 0))⟩,
         ⟨some 25, none, .mov (.t 27)⟩] [1, 2, 4, 5, 6, 7, 25]) (
       .cond (.t 25) (
        .reg [
          ⟨some 28, none, .mov (.t 6)⟩,
          ⟨some 29, none, .mov (.t 6)⟩,
          ⟨some 30, none, .idx 9 1 (.t 2) (.t 29)⟩,
          ⟨some 31, none, .ld true none (.t 30)⟩,
          ⟨some 32, none, .mov (.t 7)⟩,
          ⟨some 33, none, .bin .shl (.c (.u 64 1)) (.t 32)⟩,
          ⟨some 34, none, .bin .sub (.t 33) (.c (.u 64 1))⟩,
          ⟨some 35, none, .bin .and (.t 31) (.t 34)⟩,
          ⟨some 36, none, .off 0 (.t 5)⟩,
          ⟨some 37, none, .idx 9 1 (.t 36) (.t 28)⟩,
          ⟨none, none, .stl 5 1 (.t 37) (.t 35)⟩] [1, 2, 4, 5, 6]) (
        .reg [] [1, 2, 4, 5, 6])))))))) (
    .reg [
      ⟨some 10, none, .mov (.t 6)⟩,
      ⟨some 11, none, .bin .add (.t 10) (.c (.i 1))⟩,
      ⟨some 6, none, .mov (.t 11)⟩] [1, 2, 4, 5, 6])))))) (
  .seq (
  .reg [
    ⟨some 38, none, .ldl 5 (some 9) (.t 5)⟩,
    ⟨none, none, .stl 4 9 (.t 4) (.t 38)⟩] [4]) (
  .ret))))
def m_curvetlaw0_Nat : MFn := ⟨c_curvetlaw0_Nat, [.cell 4 (some 9)], 0⟩

/-- curvet/nat.Add -/
def c_nat_Add : Stm :=
  .seq (
  .reg [
    ⟨some 2, none, .box (.t 0)⟩,
    ⟨some 3, none, .boxv (.t 1)⟩,
    ⟨some 4, none, .box (.c (.agg [.u 64 0, .u 64 0, .u 64 0, .u 64 0, .u 64 0, .u 64 0, .u 64 0, .u 64 0, .u 64 0]))⟩,
    ⟨some 5, none, .mov (.c (.b false))⟩] [2, 3, 4]) (
  .seq (
  .reg [
    ⟨some 6, none, .mov (.c (.u 64 0))⟩] [2, 3, 4, 6]) (
  .seq (
  .seq (
  .reg [
    ⟨some 8, none, .mov (.c (.i 0))⟩] [2, 3, 4, 6, 8]) (
  .block 0 (
   .loop [2, 3, 4, 6, 8] (
    .seq (
    .reg [
      ⟨some 9, none, .bin .lss (.t 8) (.c (.i 9))⟩] [2, 3, 4, 6, 8, 9]) (
    .seq (
    .cond (.t 9) (
     .reg [] [2, 3, 4, 6, 8]) (
     .exit 0 [2, 4, 6])) (
    .seq (
    .block 1 (
     .seq (
     .reg [
       ⟨some 10, none, .mov (.t 8)⟩,
       ⟨some 7, none, .mov (.t 10)⟩] [2, 3, 4, 6, 7, 8]) (
     .reg [
       ⟨some 12, none, .mov (.t 7)⟩,
       ⟨some 13, none, .mov (.t 7)⟩,
       ⟨some 14, none, .off 0 (.t 2)⟩,
       ⟨some 15, none, .idx 9 1 (.t 14) (.t 13)⟩,
       ⟨some 16, none, .ldl 2 none (.t 15)⟩,
       ⟨some 17, none, .mov (.t 7)⟩,
       ⟨some 18, none, .off 0 (.t 3)⟩,
       ⟨some 19, none, .idx 9 1 (.t 18) (.t 17)⟩,
       ⟨some 20, none, .ld true none (.t 19)⟩,
       ⟨some 21, none, .mov (.t 6)⟩,
       ⟨some 22, none, .prim .add64 [(.t 16), (.t 20), (.t 21)]⟩,
       ⟨some 11, none, .mov (.t 22)⟩,
       ⟨some 23, none, .ext 0 (.t 11)⟩,
       ⟨some 24, none, .ext 1 (.t 11)⟩,
       ⟨some 25, none, .off 0 (.t 2)⟩,
       ⟨some 26, none, .idx 9 1 (.t 25) (.t 12)⟩,
       ⟨none, none, .stl 2 1 (.t 26) (.t 23)⟩,
       ⟨some 6, none, .mov (.t 24)⟩] [2, 3, 4, 6, 8]))) (
    .reg [
      ⟨some 27, none, .bin .add (.t 8) (.c (.i 1))⟩,
      ⟨some 8, none, .mov (.t 27)⟩] [2, 3, 4, 6, 8]))))))) (
  .seq (
  .reg [
    ⟨some 28, none, .ldl 2 (some 9) (.t 2)⟩,
    ⟨some 29, none, .mov (.t 6)⟩,
    ⟨some 30, none, .bin .eql (.t 29) (.c (.u 64 1))⟩,
    ⟨none, none, .stl 4 9 (.t 4) (.t 28)⟩,
    ⟨some 5, none, .mov (.t 30)⟩] [4, 5]) (
  .ret))))
def m_nat_Add : MFn := ⟨c_nat_Add, [.cell 4 (some 9), .tmp 5], 0⟩

/-- curvet/curvetlaw1.low -/
def c_curvetlaw1_low : Stm :=
  .seq (
  .reg [
    ⟨some 1, none, .boxv (.t 0)⟩,
    ⟨some 2, none, .box (.c (.agg [.u 64 0, .u 64 0, .u 64 0, .u 64 0, .u 64 0, .u 64 0, .u 64 0, .u 64 0, .u 64 0]))⟩,
    ⟨some 3, none, .mov (.c (.b false))⟩] [1, 2]) (
  .seq (
  .reg [
    ⟨some 4, none, .box (.c (.agg [.u 64 0, .u 64 0, .u 64 0, .u 64 0, .u 64 0, .u 64 0, .u 64 0, .u 64 0, .u 64 0]))⟩] [1, 2, 4]) (
  .seq (
  .reg [
    ⟨some 5, none, .mov (.c (.b true))⟩] [1, 2, 4, 5]) (
  .seq (
  .seq (
  .reg [
    ⟨some 6, none, .mov (.c (.i 0))⟩] [1, 2, 4, 5, 6]) (
  .block 0 (
   .loop [1, 2, 4, 5, 6] (
    .seq (
    .seq (
    .reg [
      ⟨some 7, none, .mov (.t 6)⟩,
      ⟨some 8, none, .bin .lss (.t 7) (.c (.i 9))⟩] [1, 2, 4, 5, 6, 8]) (
    .cond (.t 8) (
     .reg [] [1, 2, 4, 5, 6]) (
     .exit 0 [2, 4, 5]))) (
    .seq (
    .block 1 (
     .seq (
     .reg [
       ⟨some 11, none, .mov (.t 6)⟩,
       ⟨some 12, none, .mov (.t 6)⟩,
       ⟨some 13, none, .off 0 (.t 1)⟩,
       ⟨some 14, none, .idx 18 1 (.t 13) (.t 12)⟩,
       ⟨some 15, none, .ld true none (.t 14)⟩,
       ⟨some 16, none, .off 0 (.t 4)⟩,
       ⟨some 17, none, .idx 9 1 (.t 16) (.t 11)⟩,
       ⟨none, none, .stl 4 1 (.t 17) (.t 15)⟩] [1, 2, 4, 5, 6]) (
     .reg [
       ⟨some 18, none, .mov (.t 5)⟩,
       ⟨some 19, none, .mov (.t 18)⟩,
       ⟨some 20, (some (19, true)), .mov (.t 6)⟩,
       ⟨some 21, (some (19, true)), .bin .add (.c (.i 9)) (.t 20)⟩,
       ⟨some 22, (some (19, true)), .off 0 (.t 1)⟩,
       ⟨some 23, (some (19, true)), .idx 18 1 (.t 22) (.t 21)⟩,
       ⟨some 24, (some (19, true)), .ld true none (.t 23)⟩,
       ⟨some 25, (some (19, true)), .bin .eql (.t 24) (.c (.u 64 0))⟩,
       ⟨some 26, none, .pick (.t 19) (.t 25) (.c (.b false))⟩,
       ⟨some 5, none, .mov (.t 26)⟩] [1, 2, 4, 5, 6]))) (
    .reg [
      ⟨some 9, none, .mov (.t 6)⟩,
      ⟨some 10, none, .bin .add (.t 9) (.c (.i 1))⟩,
      ⟨some 6, none, .mov (.t 10)⟩] [1, 2, 4, 5, 6])))))) (
  .seq (
  .reg [
    ⟨some 27, none, .ldl 4 (some 9) (.t 4)⟩,
    ⟨some 28, none, .mov (.t 5)⟩,
    ⟨none, none, .stl 2 9 (.t 2) (.t 27)⟩,
    ⟨some 3, none, .mov (.t 28)⟩] [2, 3]) (
  .ret)))))
def m_curvetlaw1_low : MFn := ⟨c_curvetlaw1_low, [.cell 2 (some 9), .tmp 3], 0⟩

/-- curvet/nat.Mul -/
def c_nat_Mul : Stm :=
  .seq (
  .reg [
    ⟨some 2, none, .boxv (.t 0)⟩,
    ⟨some 3, none, .boxv (.t 1)⟩,
    ⟨some 4, none, .box (.c (.agg [.u 64 0, .u 64 0, .u 64 0, .u 64 0, .u 64 0, .u 64 0, .u 64 0, .u 64 0, .u 64 0, .u 64 0, .u 64 0, .u 64 0, .u 64 0, .u 64 0, .u 64 0, .u 64 0, .u 64 0, .u 64 0]))⟩] [2, 3, 4]) (
  .seq (
  .reg [
    ⟨some 5, none, .box (.c (.agg [.u 64 0, .u 64 0, .u 64 0, .u 64 0, .u 64 0, .u 64 0, .u 64 0, .u 64 0, .u 64 0, .u 64 0, .u 64 0, .u 64 0, .u 64 0, .u 64 0, .u 64 0, .u 64 0, .u 64 0, .u 64 0]))⟩] [2, 3, 4, 5]) (
  .seq (
  .reg [
    ⟨some 14, none, .call f_nat_used [] [(.t 2)]⟩,
    ⟨some 15, none, .call f_nat_used [] [(.t 3)]⟩,
    ⟨some 6, none, .mov (.t 14)⟩,
    ⟨some 7, none, .mov (.t 15)⟩] [2, 3, 4, 5, 6, 7]) (
  .seq (
  .seq (
  .reg [
    ⟨some 16, none, .mov (.t 6)⟩,
    ⟨some 17, none, .mov (.c (.i 0))⟩] [2, 3, 4, 5, 7, 16, 17]) (
  .block 0 (
   .loop [2, 3, 4, 5, 7, 16, 17] (
    .seq (
    .reg [
      ⟨some 18, none, .bin .lss (.t 17) (.t 16)⟩] [2, 3, 4, 5, 7, 16, 17, 18]) (
    .seq (
    .cond (.t 18) (
     .reg [] [2, 3, 4, 5, 7, 16, 17]) (
     .exit 0 [4, 5])) (
    .seq (
    .block 1 (
     .seq (
     .reg [
       ⟨some 19, none, .mov (.t 17)⟩,
       ⟨some 8, none, .mov (.t 19)⟩] [2, 3, 4, 5, 7, 8, 16, 17]) (
     .seq (
     .reg [
       ⟨some 9, none, .mov (.c (.u 64 0))⟩] [2, 3, 4, 5, 7, 8, 9, 16, 17]) (
     .seq (
     .seq (
     .reg [
       ⟨some 20, none, .mov (.t 7)⟩,
       ⟨some 21, none, .mov (.c (.i 0))⟩] [2, 3, 4, 5, 7, 8, 9, 16, 17, 20, 21]) (
     .block 2 (
      .loop [2, 3, 4, 5, 7, 8, 9, 16, 17, 20, 21] (
       .seq (
       .reg [
         ⟨some 22, none, .bin .lss (.t 21) (.t 20)⟩] [2, 3, 4, 5, 7, 8, 9, 16, 17, 20, 21, 22]) (
       .seq (
       .cond (.t 22) (
        .reg [] [2, 3, 4, 5, 7, 8, 9, 16, 17, 20, 21]) (
        .exit 2 [2, 3, 4, 5, 7, 8, 9, 16, 17])) (
       .seq (
       .block 3 (
        .seq (
        .reg [
          ⟨some 23, none, .mov (.t 21)⟩,
          ⟨some 10, none, .mov (.t 23)⟩] [2, 3, 4, 5, 7, 8, 9, 10, 16, 17, 20, 21]) (
        .seq (
        .reg [
          ⟨some 25, none, .mov (.t 8)⟩,
          ⟨some 26, none, .off 0 (.t 2)⟩,
          ⟨some 27, none, .idx 9 1 (.t 26) (.t 25)⟩,
          ⟨some 28, none, .ld true none (.t 27)⟩,
          ⟨some 29, none, .mov (.t 10)⟩,
          ⟨some 30, none, .off 0 (.t 3)⟩,
          ⟨some 31, none, .idx 9 1 (.t 30) (.t 29)⟩,
          ⟨some 32, none, .ld true none (.t 31)⟩,
          ⟨some 33, none, .call f_bits_Mul64 [] [(.t 28), (.t 32)]⟩,
          ⟨some 24, none, .mov (.t 33)⟩,
          ⟨some 34, none, .ext 0 (.t 24)⟩,
          ⟨some 35, none, .ext 1 (.t 24)⟩,
          ⟨some 11, none, .mov (.t 34)⟩,
          ⟨some 12, none, .mov (.t 35)⟩] [2, 3, 4, 5, 7, 8, 9, 10, 11, 12, 16, 17, 20, 21]) (
        .seq (
        .reg [
          ⟨some 13, none, .mov (.c (.u 64 0))⟩] [2, 3, 4, 5, 7, 8, 9, 10, 11, 12, 16, 17, 20, 21]) (
        .seq (
        .reg [
          ⟨some 37, none, .mov (.t 12)⟩,
          ⟨some 38, none, .mov (.t 8)⟩,
          ⟨some 39, none, .mov (.t 10)⟩,
          ⟨some 40, none, .bin .add (.t 38) (.t 39)⟩,
          ⟨some 41, none, .off 0 (.t 5)⟩,
          ⟨some 42, none, .idx 18 1 (.t 41) (.t 40)⟩,
          ⟨some 43, none, .ldl 5 none (.t 42)⟩,
          ⟨some 44, none, .prim .add64 [(.t 37), (.t 43), (.c (.u 64 0))]⟩,
          ⟨some 36, none, .mov (.t 44)⟩,
          ⟨some 45, none, .ext 0 (.t 36)⟩,
          ⟨some 46, none, .ext 1 (.t 36)⟩,
          ⟨some 12, none, .mov (.t 45)⟩,
          ⟨some 13, none, .mov (.t 46)⟩] [2, 3, 4, 5, 7, 8, 9, 10, 11, 12, 13, 16, 17, 20, 21]) (
        .seq (
        .reg [
          ⟨some 47, none, .mov (.t 11)⟩,
          ⟨some 48, none, .mov (.t 13)⟩,
          ⟨some 49, none, .bin .add (.t 47) (.t 48)⟩,
          ⟨some 11, none, .mov (.t 49)⟩] [2, 3, 4, 5, 7, 8, 9, 10, 11, 12, 16, 17, 20, 21]) (
        .seq (
        .reg [
          ⟨some 51, none, .mov (.t 12)⟩,
          ⟨some 52, none, .mov (.t 9)⟩,
          ⟨some 53, none, .prim .add64 [(.t 51), (.t 52), (.c (.u 64 0))]⟩,
          ⟨some 50, none, .mov (.t 53)⟩,
          ⟨some 54, none, .ext 0 (.t 50)⟩,
          ⟨some 55, none, .ext 1 (.t 50)⟩,
          ⟨some 12, none, .mov (.t 54)⟩,
          ⟨some 13, none, .mov (.t 55)⟩] [2, 3, 4, 5, 7, 8, 10, 11, 12, 13, 16, 17, 20, 21]) (
        .reg [
          ⟨some 56, none, .mov (.t 8)⟩,
          ⟨some 57, none, .mov (.t 10)⟩,
          ⟨some 58, none, .bin .add (.t 56) (.t 57)⟩,
          ⟨some 59, none, .mov (.t 12)⟩,
          ⟨some 60, none, .mov (.t 11)⟩,
          ⟨some 61, none, .mov (.t 13)⟩,
          ⟨some 62, none, .bin .add (.t 60) (.t 61)⟩,
          ⟨some 63, none, .off 0 (.t 5)⟩,
          ⟨some 64, none, .idx 18 1 (.t 63) (.t 58)⟩,
          ⟨none, none, .stl 5 1 (.t 64) (.t 59)⟩,
          ⟨some 9, none, .mov (.t 62)⟩] [2, 3, 4, 5, 7, 8, 9, 16, 17, 20, 21])))))))) (
       .reg [
         ⟨some 65, none, .bin .add (.t 21) (.c (.i 1))⟩,
         ⟨some 21, none, .mov (.t 65)⟩] [2, 3, 4, 5, 7, 8, 9, 16, 17, 20, 21]))))))) (
     .reg [
       ⟨some 66, none, .mov (.t 8)⟩,
       ⟨some 67, none, .mov (.t 7)⟩,
       ⟨some 68, none, .bin .add (.t 66) (.t 67)⟩,
       ⟨some 69, none, .mov (.t 9)⟩,
       ⟨some 70, none, .off 0 (.t 5)⟩,
       ⟨some 71, none, .idx 18 1 (.t 70) (.t 68)⟩,
       ⟨none, none, .stl 5 1 (.t 71) (.t 69)⟩] [2, 3, 4, 5, 7, 16, 17]))))) (
    .reg [
      ⟨some 72, none, .bin .add (.t 17) (.c (.i 1))⟩,
      ⟨some 17, none, .mov (.t 72)⟩] [2, 3, 4, 5, 7, 16, 17]))))))) (
  .seq (
  .reg [
    ⟨some 73, none, .ldl 5 (some 18) (.t 5)⟩,
    ⟨none, none, .stl 4 18 (.t 4) (.t 73)⟩] [4]) (
  .ret)))))
def m_nat_Mul : MFn := ⟨c_nat_Mul, [.cell 4 (some 18)], 0⟩

/-- curvet/curvetlaw0.One -/
def c_curvetlaw0_One : Stm :=
  .seq (
  .reg [
    ⟨some 2, none, .box (.c (.agg [.u 64 0, .u 64 0, .u 64 0, .u 64 0, .u 64 0, .u 64 0, .u 64 0, .u 64 0, .u 64 0]))⟩] [0, 2]) (
  .seq (
  .reg [
    ⟨some 3, none, .box (.c (.agg [.u 64 0, .u 64 0, .u 64 0, .u 64 0, .u 64 0, .u 64 0, .u 64 0, .u 64 0, .u 64 0]))⟩] [0, 2, 3]) (
  .seq (
  .reg [
    ⟨some 4, none, .mov (.t 0)⟩,
    ⟨some 5, none, .off 0 (.t 3)⟩,
    ⟨some 6, none, .idx 9 1 (.t 5) (.c (.i 0))⟩,
    ⟨none, none, .stl 3 1 (.t 6) (.t 4)⟩] [2, 3]) (
  .seq (
  .reg [
    ⟨some 7, none, .ldl 3 (some 9) (.t 3)⟩,
    ⟨none, none, .stl 2 9 (.t 2) (.t 7)⟩] [2]) (
  .ret))))
def m_curvetlaw0_One : MFn := ⟨c_curvetlaw0_One, [.cell 2 (some 9)], 0⟩

/-- curvet/nat.Sub -/
def c_nat_Sub : Stm :=
  .seq (
  .reg [
    ⟨some 2, none, .box (.t 0)⟩,
    ⟨some 3, none, .boxv (.t 1)⟩,
    ⟨some 4, none, .box (.c (.agg [.u 64 0, .u 64 0, .u 64 0, .u 64 0, .u 64 0, .u 64 0, .u 64 0, .u 64 0, .u 64 0]))⟩,
    ⟨some 5, none, .mov (.c (.b false))⟩] [2, 3, 4]) (
  .seq (
  .reg [
    ⟨some 6, none, .mov (.c (.u 64 0))⟩] [2, 3, 4, 6]) (
  .seq (
  .seq (
  .reg [
    ⟨some 8, none, .mov (.c (.i 0))⟩] [2, 3, 4, 6, 8]) (
  .block 0 (
   .loop [2, 3, 4, 6, 8] (
    .seq (
    .reg [
      ⟨some 9, none, .bin .lss (.t 8) (.c (.i 9))⟩] [2, 3, 4, 6, 8, 9]) (
    .seq (
    .cond (.t 9) (
     .reg [] [2, 3, 4, 6, 8]) (
     .exit 0 [2, 4, 6])) (
    .seq (
    .block 1 (
     .seq (
     .reg [
       ⟨some 10, none, .mov (.t 8)⟩,
       ⟨some 7, none, .mov (.t 10)⟩] [2, 3, 4, 6, 7, 8]) (
     .reg [
       ⟨some 12, none, .mov (.t 7)⟩,
       ⟨some 13, none, .mov (.t 7)⟩,
       ⟨some 14, none, .off 0 (.t 2)⟩,
       ⟨some 15, none, .idx 9 1 (.t 14) (.t 13)⟩,
       ⟨some 16, none, .ldl 2 none (.t 15)⟩,
       ⟨some 17, none, .mov (.t 7)⟩,
       ⟨some 18, none, .off 0 (.t 3)⟩,
       ⟨some 19, none, .idx 9 1 (.t 18) (.t 17)⟩,
       ⟨some 20, none, .ld true none (.t 19)⟩,
       ⟨some 21, none, .mov (.t 6)⟩,
       ⟨some 22, none, .prim .sub64 [(.t 16), (.t 20), (.t 21)]⟩,
       ⟨some 11, none, .mov (.t 22)⟩,
       ⟨some 23, none, .ext 0 (.t 11)⟩,
       ⟨some 24, none, .ext 1 (.t 11)⟩,
       ⟨some 25, none, .off 0 (.t 2)⟩,
       ⟨some 26, none, .idx 9 1 (.t 25) (.t 12)⟩,
       ⟨none, none, .stl 2 1 (.t 26) (.t 23)⟩,
       ⟨some 6, none, .mov (.t 24)⟩] [2, 3, 4, 6, 8]))) (
    .reg [
      ⟨some 27, none, .bin .add (.t 8) (.c (.i 1))⟩,
      ⟨some 8, none, .mov (.t 27)⟩] [2, 3, 4, 6, 8]))))))) (
  .seq (
  .reg [
    ⟨some 28, none, .ldl 2 (some 9) (.t 2)⟩,
    ⟨some 29, none, .mov (.t 6)⟩,
    ⟨some 30, none, .bin .eql (.t 29) (.c (.u 64 1))⟩,
    ⟨none, none, .stl 4 9 (.t 4) (.t 28)⟩,
    ⟨some 5, none, .mov (.t 30)⟩] [4, 5]) (
  .ret))))
def m_nat_Sub : MFn := ⟨c_nat_Sub, [.cell 4 (some 9), .tmp 5], 0⟩

/-- curvet/nat.Shl -/
def c_nat_Shl : Stm :=
  .seq (
  .reg [
    ⟨some 2, none, .boxv (.t 0)⟩,
    ⟨some 4, none, .box (.c (.agg [.u 64 0, .u 64 0, .u 64 0, .u 64 0, .u 64 0, .u 64 0, .u 64 0, .u 64 0, .u 64 0]))⟩,
    ⟨some 5, none, .mov (.c (.i 0))⟩] [1, 2, 4]) (
  .seq (
  .seq (
  .reg [
    ⟨some 10, none, .mov (.t 1)⟩,
    ⟨some 11, none, .bin .lss (.t 10) (.c (.i 0))⟩,
    ⟨some 12, none, .mov (.t 11)⟩,
    ⟨some 13, (some (12, false)), .mov (.t 1)⟩,
    ⟨some 14, (some (12, false)), .bin .gtr (.t 13) (.c (.i 576))⟩,
    ⟨some 15, none, .pick (.t 12) (.c (.b true)) (.t 14)⟩] [1, 2, 4, 15]) (
  .cond (.t 15) (
   .seq (
   .reg [
     ⟨some 16, none, .build [.u 64 0, .u 64 0, .u 64 0, .u 64 0, .u 64 0, .u 64 0, .u 64 0, .u 64 0, .u 64 0] []⟩,
     ⟨none, none, .stl 4 9 (.t 4) (.t 16)⟩,
     ⟨some 5, none, .mov (.c (.i 102))⟩] [4, 5]) (
   .ret)) (
   .reg [] [1, 2, 4]))) (
  .seq (
  .reg [
    ⟨some 6, none, .box (.c (.agg [.u 64 0, .u 64 0, .u 64 0, .u 64 0, .u 64 0, .u 64 0, .u 64 0, .u 64 0, .u 64 0]))⟩] [1, 2, 4, 6]) (
  .seq (
  .reg [
    ⟨some 17, none, .mov (.t 1)⟩,
    ⟨some 18, none, .bin .quo (.t 17) (.c (.i 64))⟩,
    ⟨some 19, none, .mov (.t 1)⟩,
    ⟨some 20, none, .bin .rem (.t 19) (.c (.i 64))⟩,
    ⟨some 7, none, .mov (.t 18)⟩,
    ⟨some 8, none, .mov (.t 20)⟩] [2, 4, 6, 7, 8]) (
  .seq (
  .seq (
  .reg [
    ⟨some 21, none, .mov (.t 7)⟩,
    ⟨some 9, none, .mov (.t 21)⟩] [2, 4, 6, 7, 8, 9]) (
  .block 0 (
   .loop [2, 4, 6, 7, 8, 9] (
    .seq (
    .seq (
    .reg [
      ⟨some 22, none, .mov (.t 9)⟩,
      ⟨some 23, none, .bin .lss (.t 22) (.c (.i 9))⟩] [2, 4, 6, 7, 8, 9, 23]) (
    .cond (.t 23) (
     .reg [] [2, 4, 6, 7, 8, 9]) (
     .exit 0 [4, 6]))) (
    .seq (
    .block 1 (
     .seq (
     .reg [
       ⟨some 26, none, .mov (.t 9)⟩,
       ⟨some 27, none, .mov (.t 9)⟩,
       ⟨some 28, none, .mov (.t 7)⟩,
       ⟨some 29, none, .bin .sub (.t 27) (.t 28)⟩,
       ⟨some 30, none, .off 0 (.t 2)⟩,
       ⟨some 31, none, .idx 9 1 (.t 30) (.t 29)⟩,
       ⟨some 32, none, .ld true none (.t 31)⟩,
       ⟨some 33, none, .mov (.t 8)⟩,
       ⟨some 34, none, .bin .shl (.t 32) (.t 33)⟩,
       ⟨some 35, none, .off 0 (.t 6)⟩,
       ⟨some 36, none, .idx 9 1 (.t 35) (.t 26)⟩,
       ⟨none, none, .stl 6 1 (.t 36) (.t 34)⟩] [2, 4, 6, 7, 8, 9]) (
     .seq (
     .reg [
       ⟨some 37, none, .mov (.t 9)⟩,
       ⟨some 38, none, .mov (.t 7)⟩,
       ⟨some 39, none, .bin .gtr (.t 37) (.t 38)⟩] [2, 4, 6, 7, 8, 9, 39]) (
     .cond (.t 39) (
      .reg [
        ⟨some 40, none, .mov (.t 9)⟩,
        ⟨some 41, none, .off 0 (.t 6)⟩,
        ⟨some 42, none, .idx 9 1 (.t 41) (.t 40)⟩,
        ⟨some 43, none, .ldl 6 none (.t 42)⟩,
        ⟨some 44, none, .mov (.t 9)⟩,
        ⟨some 45, none, .mov (.t 7)⟩,
        ⟨some 46, none, .bin .sub (.t 44) (.t 45)⟩,
        ⟨some 47, none, .bin .sub (.t 46) (.c (.i 1))⟩,
        ⟨some 48, none, .off 0 (.t 2)⟩,
        ⟨some 49, none, .idx 9 1 (.t 48) (.t 47)⟩,
        ⟨some 50, none, .ld true none (.t 49)⟩,
        ⟨some 51, none, .mov (.t 8)⟩,
        ⟨some 52, none, .bin .sub (.c (.i 64)) (.t 51)⟩,
        ⟨some 53, none, .bin .shr (.t 50) (.t 52)⟩,
        ⟨some 54, none, .bin .or (.t 43) (.t 53)⟩,
        ⟨some 55, none, .off 0 (.t 6)⟩,
        ⟨some 56, none, .idx 9 1 (.t 55) (.t 40)⟩,
        ⟨none, none, .stl 6 1 (.t 56) (.t 54)⟩] [2, 4, 6, 7, 8, 9]) (
      .reg [] [2, 4, 6, 7, 8, 9]))))) (
    .reg [
      ⟨some 24, none, .mov (.t 9)⟩,
      ⟨some 25, none, .bin .add (.t 24) (.c (.i 1))⟩,
      ⟨some 9, none, .mov (.t 25)⟩] [2, 4, 6, 7, 8, 9])))))) (
  .seq (
  .reg [
    ⟨some 57, none, .ldl 6 (some 9) (.t 6)⟩,
    ⟨none, none, .stl 4 9 (.t 4) (.t 57)⟩,
    ⟨some 5, none, .mov (.c (.i 0))⟩] [4, 5]) (
  .ret))))))
def m_nat_Shl : MFn := ⟨c_nat_Shl, [.cell 4 (some 9), .tmp 5], 0⟩

/-- curvet/nat.Bit -/
def c_nat_Bit : Stm :=
  .seq (
  .reg [
    ⟨some 2, none, .boxv (.t 0)⟩,
    ⟨some 4, none, .mov (.c (.i 0))⟩] [1, 2]) (
  .seq (
  .seq (
  .reg [
    ⟨some 5, none, .mov (.t 1)⟩,
    ⟨some 6, none, .bin .lss (.t 5) (.c (.i 0))⟩,
    ⟨some 7, none, .mov (.t 6)⟩,
    ⟨some 8, (some (7, false)), .mov (.t 1)⟩,
    ⟨some 9, (some (7, false)), .bin .geq (.t 8) (.c (.i 576))⟩,
    ⟨some 10, none, .pick (.t 7) (.c (.b true)) (.t 9)⟩] [1, 2, 10]) (
  .cond (.t 10) (
   .seq (
   .reg [
     ⟨some 4, none, .mov (.c (.i 0))⟩] [4]) (
   .ret)) (
   .reg [] [1, 2]))) (
  .seq (
  .reg [
    ⟨some 11, none, .mov (.t 1)⟩,
    ⟨some 12, none, .bin .quo (.t 11) (.c (.i 64))⟩,
    ⟨some 13, none, .off 0 (.t 2)⟩,
    ⟨some 14, none, .idx 9 1 (.t 13) (.t 12)⟩,
    ⟨some 15, none, .ld true none (.t 14)⟩,
    ⟨some 16, none, .mov (.t 1)⟩,
    ⟨some 17, none, .bin .rem (.t 16) (.c (.i 64))⟩,
    ⟨some 18, none, .bin .shr (.t 15) (.t 17)⟩,
    ⟨some 19, none, .bin .and (.t 18) (.c (.u 64 1))⟩,
    ⟨some 20, none, .cvi (.t 19)⟩,
    ⟨some 4, none, .mov (.t 20)⟩] [4]) (
  .ret)))
def m_nat_Bit : MFn := ⟨c_nat_Bit, [.tmp 4], 0⟩

/-- curvet/curvetref1.Add -/
def c_curvetref1_Add : Stm :=
  .seq (
  .reg [
    ⟨some 4, none, .mov (.c (.vs 0 []))⟩] [0, 1]) (
  .seq (
  .reg [
    ⟨some 10, none, .mov (.t 0)⟩,
    ⟨some 11, none, .len (.t 10)⟩,
    ⟨some 12, none, .mov (.t 1)⟩,
    ⟨some 13, none, .len (.t 12)⟩,
    ⟨some 14, none, .mx (.t 11) (.t 13)⟩,
    ⟨some 5, none, .mov (.t 14)⟩] [0, 1, 5]) (
  .seq (
  .reg [
    ⟨some 15, none, .mov (.t 5)⟩,
    ⟨some 16, none, .bin .add (.t 15) (.c (.i 1))⟩,
    ⟨some 17, none, .mks 1 4 [.u 32 0] (.t 16) (.t 16)⟩,
    ⟨some 6, none, .mov (.t 17)⟩] [0, 1, 5, 6]) (
  .seq (
  .reg [
    ⟨some 7, none, .mov (.c (.u 64 0))⟩] [0, 1, 5, 6, 7]) (
  .seq (
  .seq (
  .reg [
    ⟨some 8, none, .mov (.c (.i 0))⟩] [0, 1, 5, 6, 7, 8]) (
  .block 0 (
   .loop [0, 1, 5, 6, 7, 8] (
    .seq (
    .seq (
    .reg [
      ⟨some 18, none, .mov (.t 8)⟩,
      ⟨some 19, none, .mov (.t 5)⟩,
      ⟨some 20, none, .bin .lss (.t 18) (.t 19)⟩] [0, 1, 5, 6, 7, 8, 20]) (
    .cond (.t 20) (
     .reg [] [0, 1, 5, 6, 7, 8]) (
     .exit 0 [5, 6, 7]))) (
    .seq (
    .block 1 (
     .seq (
     .reg [
       ⟨some 23, none, .mov (.t 0)⟩,
       ⟨some 24, none, .mov (.t 8)⟩,
       ⟨some 25, none, .call f_curvetref1_digit [] [(.t 23), (.t 24)]⟩,
       ⟨some 26, none, .mov (.t 1)⟩,
       ⟨some 27, none, .mov (.t 8)⟩,
       ⟨some 28, none, .call f_curvetref1_digit [] [(.t 26), (.t 27)]⟩,
       ⟨some 29, none, .bin .add (.t 25) (.t 28)⟩,
       ⟨some 30, none, .mov (.t 7)⟩,
       ⟨some 31, none, .bin .add (.t 29) (.t 30)⟩,
       ⟨some 9, none, .mov (.t 31)⟩] [0, 1, 5, 6, 8, 9]) (
     .seq (
     .reg [
       ⟨some 32, none, .mov (.t 6)⟩,
       ⟨some 33, none, .mov (.t 8)⟩,
       ⟨some 34, none, .mov (.t 9)⟩,
       ⟨some 35, none, .bin .and (.t 34) (.c (.u 64 4294967295))⟩,
       ⟨some 36, none, .cvu 32 (.t 35)⟩,
       ⟨some 37, none, .idxs 1 (.t 32) (.t 33)⟩,
       ⟨none, none, .st 1 (.t 37) (.t 36)⟩] [0, 1, 5, 6, 8, 9]) (
     .reg [
       ⟨some 38, none, .mov (.t 9)⟩,
       ⟨some 39, none, .bin .shr (.t 38) (.c (.u 64 32))⟩,
       ⟨some 7, none, .mov (.t 39)⟩] [0, 1, 5, 6, 7, 8])))) (
    .reg [
      ⟨some 21, none, .mov (.t 8)⟩,
      ⟨some 22, none, .bin .add (.t 21) (.c (.i 1))⟩,
      ⟨some 8, none, .mov (.t 22)⟩] [0, 1, 5, 6, 7, 8])))))) (
  .seq (
  .reg [
    ⟨some 40, none, .mov (.t 6)⟩,
    ⟨some 41, none, .mov (.t 5)⟩,
    ⟨some 42, none, .mov (.t 7)⟩,
    ⟨some 43, none, .cvu 32 (.t 42)⟩,
    ⟨some 44, none, .idxs 1 (.t 40) (.t 41)⟩,
    ⟨none, none, .st 1 (.t 44) (.t 43)⟩] [6]) (
  .seq (
  .reg [
    ⟨some 45, none, .mov (.t 6)⟩,
    ⟨some 46, none, .call f_curvetref1_trim [] [(.t 45)]⟩,
    ⟨some 4, none, .mov (.t 46)⟩] [4]) (
  .ret)))))))
def m_curvetref1_Add : MFn := ⟨c_curvetref1_Add, [.tmp 4], 0⟩

/-- curvet/curvetref1.Cmp -/
def c_curvetref1_Cmp : Stm :=
  .seq (
  .reg [
    ⟨some 4, none, .mov (.c (.i 0))⟩] [0, 1]) (
  .seq (
  .seq (
  .reg [
    ⟨some 6, none, .mov (.t 0)⟩,
    ⟨some 7, none, .len (.t 6)⟩,
    ⟨some 8, none, .mov (.t 1)⟩,
    ⟨some 9, none, .len (.t 8)⟩,
    ⟨some 10, none, .bin .neq (.t 7) (.t 9)⟩] [0, 1, 10]) (
  .cond (.t 10) (
   .seq (
   .seq (
   .reg [
     ⟨some 11, none, .mov (.t 0)⟩,
     ⟨some 12, none, .len (.t 11)⟩,
     ⟨some 13, none, .mov (.t 1)⟩,
     ⟨some 14, none, .len (.t 13)⟩,
     ⟨some 15, none, .bin .lss (.t 12) (.t 14)⟩] [15]) (
   .cond (.t 15) (
    .seq (
    .reg [
      ⟨some 4, none, .mov (.c (.i (-1)))⟩] [4]) (
    .ret)) (
    .reg [] []))) (
   .seq (
   .reg [
     ⟨some 4, none, .mov (.c (.i 1))⟩] [4]) (
   .ret))) (
   .reg [] [0, 1]))) (
  .seq (
  .seq (
  .reg [
    ⟨some 16, none, .mov (.t 0)⟩,
    ⟨some 17, none, .len (.t 16)⟩,
    ⟨some 18, none, .bin .sub (.t 17) (.c (.i 1))⟩,
    ⟨some 5, none, .mov (.t 18)⟩] [0, 1, 5]) (
  .block 0 (
   .loop [0, 1, 5] (
    .seq (
    .seq (
    .reg [
      ⟨some 19, none, .mov (.t 5)⟩,
      ⟨some 20, none, .bin .geq (.t 19) (.c (.i 0))⟩] [0, 1, 5, 20]) (
    .cond (.t 20) (
     .reg [] [0, 1, 5]) (
     .exit 0 []))) (
    .seq (
    .block 1 (
     .seq (
     .reg [
       ⟨some 23, none, .mov (.t 0)⟩,
       ⟨some 24, none, .mov (.t 5)⟩,
       ⟨some 25, none, .idxs 1 (.t 23) (.t 24)⟩,
       ⟨some 26, none, .ld false none (.t 25)⟩,
       ⟨some 27, none, .mov (.t 1)⟩,
       ⟨some 28, none, .mov (.t 5)⟩,
       ⟨some 29, none, .idxs 1 (.t 27) (.t 28)⟩,
       ⟨some 30, none, .ld false none (.t 29)⟩,
       ⟨some 31, none, .bin .neq (.t 26) (.t 30)⟩] [0, 1, 5, 31]) (
     .cond (.t 31) (
      .seq (
      .seq (
      .reg [
        ⟨some 32, none, .mov (.t 0)⟩,
        ⟨some 33, none, .mov (.t 5)⟩,
        ⟨some 34, none, .idxs 1 (.t 32) (.t 33)⟩,
        ⟨some 35, none, .ld false none (.t 34)⟩,
        ⟨some 36, none, .mov (.t 1)⟩,
        ⟨some 37, none, .mov (.t 5)⟩,
        ⟨some 38, none, .idxs 1 (.t 36) (.t 37)⟩,
        ⟨some 39, none, .ld false none (.t 38)⟩,
        ⟨some 40, none, .bin .lss (.t 35) (.t 39)⟩] [40]) (
      .cond (.t 40) (
       .seq (
       .reg [
         ⟨some 4, none, .mov (.c (.i (-1)))⟩] [4]) (
       .ret)) (
       .reg [] []))) (
      .seq (
      .reg [
        ⟨some 4, none, .mov (.c (.i 1))⟩] [4]) (
      .ret))) (
      .reg [] [0, 1, 5])))) (
    .reg [
      ⟨some 21, none, .mov (.t 5)⟩,
      ⟨some 22, none, .bin .sub (.t 21) (.c (.i 1))⟩,
      ⟨some 5, none, .mov (.t 22)⟩] [0, 1, 5])))))) (
  .seq (
  .reg [
    ⟨some 4, none, .mov (.c (.i 0))⟩] [4]) (
  .ret))))
def m_curvetref1_Cmp : MFn := ⟨c_curvetref1_Cmp, [.tmp 4], 0⟩

/-- curvet/curvetref1.Sub -/
def c_curvetref1_Sub : Stm :=
  .seq (
  .reg [
    ⟨some 4, none, .mov (.c (.vs 0 []))⟩] [0, 1]) (
  .seq (
  .reg [
    ⟨some 9, none, .mov (.t 0)⟩,
    ⟨some 10, none, .len (.t 9)⟩,
    ⟨some 11, none, .mks 1 4 [.u 32 0] (.t 10) (.t 10)⟩,
    ⟨some 5, none, .mov (.t 11)⟩] [0, 1, 5]) (
  .seq (
  .reg [
    ⟨some 6, none, .mov (.c (.u 64 0))⟩] [0, 1, 5, 6]) (
  .seq (
  .seq (
  .reg [
    ⟨some 7, none, .mov (.c (.i 0))⟩] [0, 1, 5, 6, 7]) (
  .block 0 (
   .loop [0, 1, 5, 6, 7] (
    .seq (
    .seq (
    .reg [
      ⟨some 12, none, .mov (.t 7)⟩,
      ⟨some 13, none, .mov (.t 0)⟩,
      ⟨some 14, none, .len (.t 13)⟩,
      ⟨some 15, none, .bin .lss (.t 12) (.t 14)⟩] [0, 1, 5, 6, 7, 15]) (
    .cond (.t 15) (
     .reg [] [0, 1, 5, 6, 7]) (
     .exit 0 [5]))) (
    .seq (
    .block 1 (
     .seq (
     .reg [
       ⟨some 18, none, .mov (.t 0)⟩,
       ⟨some 19, none, .mov (.t 7)⟩,
       ⟨some 20, none, .call f_curvetref1_digit [] [(.t 18), (.t 19)]⟩,
       ⟨some 21, none, .bin .add (.t 20) (.c (.u 64 4294967296))⟩,
       ⟨some 22, none, .mov (.t 1)⟩,
       ⟨some 23, none, .mov (.t 7)⟩,
       ⟨some 24, none, .call f_curvetref1_digit [] [(.t 22), (.t 23)]⟩,
       ⟨some 25, none, .bin .sub (.t 21) (.t 24)⟩,
       ⟨some 26, none, .mov (.t 6)⟩,
       ⟨some 27, none, .bin .sub (.t 25) (.t 26)⟩,
       ⟨some 8, none, .mov (.t 27)⟩] [0, 1, 5, 7, 8]) (
     .seq (
     .reg [
       ⟨some 28, none, .mov (.t 5)⟩,
       ⟨some 29, none, .mov (.t 7)⟩,
       ⟨some 30, none, .mov (.t 8)⟩,
       ⟨some 31, none, .bin .and (.t 30) (.c (.u 64 4294967295))⟩,
       ⟨some 32, none, .cvu 32 (.t 31)⟩,
       ⟨some 33, none, .idxs 1 (.t 28) (.t 29)⟩,
       ⟨none, none, .st 1 (.t 33) (.t 32)⟩] [0, 1, 5, 7, 8]) (
     .reg [
       ⟨some 34, none, .mov (.t 8)⟩,
       ⟨some 35, none, .bin .shr (.t 34) (.c (.u 64 32))⟩,
       ⟨some 36, none, .bin .sub (.c (.u 64 1)) (.t 35)⟩,
       ⟨some 6, none, .mov (.t 36)⟩] [0, 1, 5, 6, 7])))) (
    .reg [
      ⟨some 16, none, .mov (.t 7)⟩,
      ⟨some 17, none, .bin .add (.t 16) (.c (.i 1))⟩,
      ⟨some 7, none, .mov (.t 17)⟩] [0, 1, 5, 6, 7])))))) (
  .seq (
  .reg [
    ⟨some 37, none, .mov (.t 5)⟩,
    ⟨some 38, none, .call f_curvetref1_trim [] [(.t 37)]⟩,
    ⟨some 4, none, .mov (.t 38)⟩] [4]) (
  .ret)))))
def m_curvetref1_Sub : MFn := ⟨c_curvetref1_Sub, [.tmp 4], 0⟩

/-- curvet/curvetref1.Shl -/
def c_curvetref1_Shl : Stm :=
  .seq (
  .reg [
    ⟨some 4, none, .mov (.c (.vs 0 []))⟩] [0, 1]) (
  .seq (
  .reg [
    ⟨some 8, none, .mov (.t 0)⟩,
    ⟨some 9, none, .len (.t 8)⟩,
    ⟨some 10, none, .mov (.t 1)⟩,
    ⟨some 11, none, .bin .quo (.t 10) (.c (.i 32))⟩,
    ⟨some 12, none, .bin .add (.t 9) (.t 11)⟩,
    ⟨some 13, none, .bin .add (.t 12) (.c (.i 1))⟩,
    ⟨some 14, none, .mks 1 4 [.u 32 0] (.t 13) (.t 13)⟩,
    ⟨some 5, none, .mov (.t 14)⟩] [0, 1, 5]) (
  .seq (
  .seq (
  .reg [
    ⟨some 6, none, .mov (.c (.i 0))⟩] [0, 1, 5, 6]) (
  .block 0 (
   .loop [0, 1, 5, 6] (
    .seq (
    .seq (
    .reg [
      ⟨some 15, none, .mov (.t 6)⟩,
      ⟨some 16, none, .mov (.t 0)⟩,
      ⟨some 17, none, .len (.t 16)⟩,
      ⟨some 18, none, .bin .lss (.t 15) (.t 17)⟩] [0, 1, 5, 6, 18]) (
    .cond (.t 18) (
     .reg [] [0, 1, 5, 6]) (
     .exit 0 [5]))) (
    .seq (
    .block 1 (
     .seq (
     .reg [
       ⟨some 21, none, .mov (.t 0)⟩,
       ⟨some 22, none, .mov (.t 6)⟩,
       ⟨some 23, none, .idxs 1 (.t 21) (.t 22)⟩,
       ⟨some 24, none, .ld false none (.t 23)⟩,
       ⟨some 25, none, .cvu 64 (.t 24)⟩,
       ⟨some 26, none, .mov (.t 1)⟩,
       ⟨some 27, none, .bin .rem (.t 26) (.c (.i 32))⟩,
       ⟨some 28, none, .bin .shl (.t 25) (.t 27)⟩,
       ⟨some 7, none, .mov (.t 28)⟩] [0, 1, 5, 6, 7]) (
     .seq (
     .reg [
       ⟨some 29, none, .mov (.t 5)⟩,
       ⟨some 30, none, .mov (.t 6)⟩,
       ⟨some 31, none, .mov (.t 1)⟩,
       ⟨some 32, none, .bin .quo (.t 31) (.c (.i 32))⟩,
       ⟨some 33, none, .bin .add (.t 30) (.t 32)⟩,
       ⟨some 34, none, .mov (.t 5)⟩,
       ⟨some 35, none, .mov (.t 6)⟩,
       ⟨some 36, none, .mov (.t 1)⟩,
       ⟨some 37, none, .bin .quo (.t 36) (.c (.i 32))⟩,
       ⟨some 38, none, .bin .add (.t 35) (.t 37)⟩,
       ⟨some 39, none, .idxs 1 (.t 34) (.t 38)⟩,
       ⟨some 40, none, .ld false none (.t 39)⟩,
       ⟨some 41, none, .mov (.t 7)⟩,
       ⟨some 42, none, .bin .and (.t 41) (.c (.u 64 4294967295))⟩,
       ⟨some 43, none, .cvu 32 (.t 42)⟩,
       ⟨some 44, none, .bin .or (.t 40) (.t 43)⟩,
       ⟨some 45, none, .idxs 1 (.t 29) (.t 33)⟩,
       ⟨none, none, .st 1 (.t 45) (.t 44)⟩] [0, 1, 5, 6, 7]) (
     .reg [
       ⟨some 46, none, .mov (.t 5)⟩,
       ⟨some 47, none, .mov (.t 6)⟩,
       ⟨some 48, none, .mov (.t 1)⟩,
       ⟨some 49, none, .bin .quo (.t 48) (.c (.i 32))⟩,
       ⟨some 50, none, .bin .add (.t 47) (.t 49)⟩,
       ⟨some 51, none, .bin .add (.t 50) (.c (.i 1))⟩,
       ⟨some 52, none, .mov (.t 7)⟩,
       ⟨some 53, none, .bin .shr (.t 52) (.c (.u 64 32))⟩,
       ⟨some 54, none, .cvu 32 (.t 53)⟩,
       ⟨some 55, none, .idxs 1 (.t 46) (.t 51)⟩,
       ⟨none, none, .st 1 (.t 55) (.t 54)⟩] [0, 1, 5, 6])))) (
    .reg [
      ⟨some 19, none, .mov (.t 6)⟩,
      ⟨some 20, none, .bin .add (.t 19) (.c (.i 1))⟩,
      ⟨some 6, none, .mov (.t 20)⟩] [0, 1, 5, 6])))))) (
  .seq (
  .reg [
    ⟨some 56, none, .mov (.t 5)⟩,
    ⟨some 57, none, .call f_curvetref1_trim [] [(.t 56)]⟩,
    ⟨some 4, none, .mov (.t 57)⟩] [4]) (
  .ret))))
def m_curvetref1_Shl : MFn := ⟨c_curvetref1_Shl, [.tmp 4], 0⟩

/-- curvet/curvetref1.Bits -/
def c_curvetref1_Bits : Stm :=
  .seq (
  .reg [
    ⟨some 2, none, .mov (.c (.i 0))⟩] [0]) (
  .seq (
  .seq (
  .reg [
    ⟨some 5, none, .mov (.t 0)⟩,
    ⟨some 6, none, .len (.t 5)⟩,
    ⟨some 7, none, .bin .eql (.t 6) (.c (.i 0))⟩] [0, 7]) (
  .cond (.t 7) (
   .seq (
   .reg [
     ⟨some 2, none, .mov (.c (.i 0))⟩] [2]) (
   .ret)) (
   .reg [] [0]))) (
  .seq (
  .reg [
    ⟨some 8, none, .mov (.t 0)⟩,
    ⟨some 9, none, .len (.t 8)⟩,
    ⟨some 10, none, .bin .sub (.t 9) (.c (.i 1))⟩,
    ⟨some 11, none, .bin .mul (.c (.i 32)) (.t 10)⟩,
    ⟨some 3, none, .mov (.t 11)⟩] [0, 3]) (
  .seq (
  .seq (
  .reg [
    ⟨some 12, none, .mov (.t 0)⟩,
    ⟨some 13, none, .mov (.t 0)⟩,
    ⟨some 14, none, .len (.t 13)⟩,
    ⟨some 15, none, .bin .sub (.t 14) (.c (.i 1))⟩,
    ⟨some 16, none, .idxs 1 (.t 12) (.t 15)⟩,
    ⟨some 17, none, .ld false none (.t 16)⟩,
    ⟨some 4, none, .mov (.t 17)⟩] [3, 4]) (
  .block 0 (
   .loop [3, 4] (
    .seq (
    .seq (
    .reg [
      ⟨some 18, none, .mov (.t 4)⟩,
      ⟨some 19, none, .bin .gtr (.t 18) (.c (.u 32 0))⟩] [3, 4, 19]) (
    .cond (.t 19) (
     .reg [] [3, 4]) (
     .exit 0 [3]))) (
    .seq (
    .block 1 (
     .reg [
       ⟨some 22, none, .mov (.t 3)⟩,
       ⟨some 23, none, .bin .add (.t 22) (.c (.i 1))⟩,
       ⟨some 3, none, .mov (.t 23)⟩] [3, 4])) (
    .reg [
      ⟨some 20, none, .mov (.t 4)⟩,
      ⟨some 21, none, .bin .shr (.t 20) (.c (.u 64 1))⟩,
      ⟨some 4, none, .mov (.t 21)⟩] [3, 4])))))) (
  .seq (
  .reg [
    ⟨some 24, none, .mov (.t 3)⟩,
    ⟨some 2, none, .mov (.t 24)⟩] [2]) (
  .ret)))))
def m_curvetref1_Bits : MFn := ⟨c_curvetref1_Bits, [.tmp 2], 0⟩

/-- curvet/curvetref1.Wide -/
def c_curvetref1_Wide : Stm :=
  .seq (
  .reg [
    ⟨some 2, none, .box (.c (.agg [.u 64 0, .u 64 0, .u 64 0, .u 64 0, .u 64 0, .u 64 0, .u 64 0, .u 64 0, .u 64 0, .u 64 0, .u 64 0, .u 64 0, .u 64 0, .u 64 0, .u 64 0, .u 64 0, .u 64 0, .u 64 0]))⟩] [0, 2]) (
  .seq (
  .reg [
    ⟨some 3, none, .box (.c (.agg [.u 64 0, .u 64 0, .u 64 0, .u 64 0, .u 64 0, .u 64 0, .u 64 0, .u 64 0, .u 64 0, .u 64 0, .u 64 0, .u 64 0, .u 64 0, .u 64 0, .u 64 0, .u 64 0, .u 64 0, .u 64 0]))⟩] [0, 2, 3]) (
  .seq (
  .seq (
  .reg [
    ⟨some 4, none, .mov (.c (.i 0))⟩] [0, 2, 3, 4]) (
  .block 0 (
   .loop [0, 2, 3, 4] (
    .seq (
    .seq (
    .reg [
      ⟨some 5, none, .mov (.t 4)⟩,
      ⟨some 6, none, .bin .lss (.t 5) (.c (.i 18))⟩] [0, 2, 3, 4, 6]) (
    .cond (.t 6) (
     .reg [] [0, 2, 3, 4]) (
     .exit 0 [2, 3]))) (
    .seq (
    .block 1 (
     .reg [
       ⟨some 9, none, .mov (.t 4)⟩,
       ⟨some 10, none, .mov (.t 0)⟩,
       ⟨some 11, none, .mov (.t 4)⟩,
       ⟨some 12, none, .bin .mul (.c (.i 2)) (.t 11)⟩,
       ⟨some 13, none, .call f_curvetref1_digit [] [(.t 10), (.t 12)]⟩,
       ⟨some 14, none, .mov (.t 0)⟩,
       ⟨some 15, none, .mov (.t 4)⟩,
       ⟨some 16, none, .bin .mul (.c (.i 2)) (.t 15)⟩,
       ⟨some 17, none, .bin .add (.t 16) (.c (.i 1))⟩,
       ⟨some 18, none, .call f_curvetref1_digit [] [(.t 14), (.t 17)]⟩,
       ⟨some 19, none, .bin .shl (.t 18) (.c (.u 64 32))⟩,
       ⟨some 20, none, .bin .or (.t 13) (.t 19)⟩,
       ⟨some 21, none, .off 0 (.t 3)⟩,
       ⟨some 22, none, .idx 18 1 (.t 21) (.t 9)⟩,
       ⟨none, none, .stl 3 1 (.t 22) (.t 20)⟩] [0, 2, 3, 4])) (
    .reg [
      ⟨some 7, none, .mov (.t 4)⟩,
      ⟨some 8, none, .bin .add (.t 7) (.c (.i 1))⟩,
      ⟨some 4, none, .mov (.t 8)⟩] [0, 2, 3, 4])))))) (
  .seq (
  .reg [
    ⟨some 23, none, .ldl 3 (some 18) (.t 3)⟩,
    ⟨none, none, .stl 2 18 (.t 2) (.t 23)⟩] [2]) (
  .ret))))
def m_curvetref1_Wide : MFn := ⟨c_curvetref1_Wide, [.cell 2 (some 18)], 0⟩

/-- curvet/curvetref1.Mul -/
def c_curvetref1_Mul : Stm :=
  .seq (
  .reg [
    ⟨some 4, none, .mov (.c (.vs 0 []))⟩] [0, 1]) (
  .seq (
  .reg [
    ⟨some 10, none, .mov (.t 0)⟩,
    ⟨some 11, none, .len (.t 10)⟩,
    ⟨some 12, none, .mov (.t 1)⟩,
    ⟨some 13, none, .len (.t 12)⟩,
    ⟨some 14, none, .bin .add (.t 11) (.t 13)⟩,
    ⟨some 15, none, .mks 1 4 [.u 32 0] (.t 14) (.t 14)⟩,
    ⟨some 5, none, .mov (.t 15)⟩] [0, 1, 5]) (
  .seq (
  .seq (
  .reg [
    ⟨some 6, none, .mov (.c (.i 0))⟩] [0, 1, 5, 6]) (
  .block 0 (
   .loop [0, 1, 5, 6] (
    .seq (
    .seq (
    .reg [
      ⟨some 16, none, .mov (.t 6)⟩,
      ⟨some 17, none, .mov (.t 0)⟩,
      ⟨some 18, none, .len (.t 17)⟩,
      ⟨some 19, none, .bin .lss (.t 16) (.t 18)⟩] [0, 1, 5, 6, 19]) (
    .cond (.t 19) (
     .reg [] [0, 1, 5, 6]) (
     .exit 0 [5]))) (
    .seq (
    .block 1 (
     .seq (
     .reg [
       ⟨some 7, none, .mov (.c (.u 64 0))⟩] [0, 1, 5, 6, 7]) (
     .seq (
     .seq (
     .reg [
       ⟨some 8, none, .mov (.c (.i 0))⟩] [0, 1, 5, 6, 7, 8]) (
     .block 2 (
      .loop [0, 1, 5, 6, 7, 8] (
       .seq (
       .seq (
       .reg [
         ⟨some 22, none, .mov (.t 8)⟩,
         ⟨some 23, none, .mov (.t 1)⟩,
         ⟨some 24, none, .len (.t 23)⟩,
         ⟨some 25, none, .bin .lss (.t 22) (.t 24)⟩] [0, 1, 5, 6, 7, 8, 25]) (
       .cond (.t 25) (
        .reg [] [0, 1, 5, 6, 7, 8]) (
        .exit 2 [0, 1, 5, 6, 7]))) (
       .seq (
       .block 3 (
        .seq (
        .reg [
          ⟨some 28, none, .mov (.t 0)⟩,
          ⟨some 29, none, .mov (.t 6)⟩,
          ⟨some 30, none, .idxs 1 (.t 28) (.t 29)⟩,
          ⟨some 31, none, .ld false none (.t 30)⟩,
          ⟨some 32, none, .cvu 64 (.t 31)⟩,
          ⟨some 33, none, .mov (.t 1)⟩,
          ⟨some 34, none, .mov (.t 8)⟩,
          ⟨some 35, none, .idxs 1 (.t 33) (.t 34)⟩,
          ⟨some 36, none, .ld false none (.t 35)⟩,
          ⟨some 37, none, .cvu 64 (.t 36)⟩,
          ⟨some 38, none, .bin .mul (.t 32) (.t 37)⟩,
          ⟨some 39, none, .mov (.t 5)⟩,
          ⟨some 40, none, .mov (.t 6)⟩,
          ⟨some 41, none, .mov (.t 8)⟩,
          ⟨some 42, none, .bin .add (.t 40) (.t 41)⟩,
          ⟨some 43, none, .idxs 1 (.t 39) (.t 42)⟩,
          ⟨some 44, none, .ld false none (.t 43)⟩,
          ⟨some 45, none, .cvu 64 (.t 44)⟩,
          ⟨some 46, none, .bin .add (.t 38) (.t 45)⟩,
          ⟨some 47, none, .mov (.t 7)⟩,
          ⟨some 48, none, .bin .add (.t 46) (.t 47)⟩,
          ⟨some 9, none, .mov (.t 48)⟩] [0, 1, 5, 6, 8, 9]) (
        .seq (
        .reg [
          ⟨some 49, none, .mov (.t 5)⟩,
          ⟨some 50, none, .mov (.t 6)⟩,
          ⟨some 51, none, .mov (.t 8)⟩,
          ⟨some 52, none, .bin .add (.t 50) (.t 51)⟩,
          ⟨some 53, none, .mov (.t 9)⟩,
          ⟨some 54, none, .bin .and (.t 53) (.c (.u 64 4294967295))⟩,
          ⟨some 55, none, .cvu 32 (.t 54)⟩,
          ⟨some 56, none, .idxs 1 (.t 49) (.t 52)⟩,
          ⟨none, none, .st 1 (.t 56) (.t 55)⟩] [0, 1, 5, 6, 8, 9]) (
        .reg [
          ⟨some 57, none, .mov (.t 9)⟩,
          ⟨some 58, none, .bin .shr (.t 57) (.c (.u 64 32))⟩,
          ⟨some 7, none, .mov (.t 58)⟩] [0, 1, 5, 6, 7, 8])))) (
       .reg [
         ⟨some 26, none, .mov (.t 8)⟩,
         ⟨some 27, none, .bin .add (.t 26) (.c (.i 1))⟩,
         ⟨some 8, none, .mov (.t 27)⟩] [0, 1, 5, 6, 7, 8])))))) (
     .reg [
       ⟨some 59, none, .mov (.t 5)⟩,
       ⟨some 60, none, .mov (.t 6)⟩,
       ⟨some 61, none, .mov (.t 1)⟩,
       ⟨some 62, none, .len (.t 61)⟩,
       ⟨some 63, none, .bin .add (.t 60) (.t 62)⟩,
       ⟨some 64, none, .mov (.t 7)⟩,
       ⟨some 65, none, .cvu 32 (.t 64)⟩,
       ⟨some 66, none, .idxs 1 (.t 59) (.t 63)⟩,
       ⟨none, none, .st 1 (.t 66) (.t 65)⟩] [0, 1, 5, 6])))) (
    .reg [
      ⟨some 20, none, .mov (.t 6)⟩,
      ⟨some 21, none, .bin .add (.t 20) (.c (.i 1))⟩,
      ⟨some 6, none, .mov (.t 21)⟩] [0, 1, 5, 6])))))) (
  .seq (
  .reg [
    ⟨some 67, none, .mov (.t 5)⟩,
    ⟨some 68, none, .call f_curvetref1_trim [] [(.t 67)]⟩,
    ⟨some 4, none, .mov (.t 68)⟩] [4]) (
  .ret))))
def m_curvetref1_Mul : MFn := ⟨c_curvetref1_Mul, [.tmp 4], 0⟩

/-- curvet/nat.Cmp -/
def c_nat_Cmp : Stm :=
  .seq (
  .reg [
    ⟨some 2, none, .boxv (.t 0)⟩,
    ⟨some 3, none, .boxv (.t 1)⟩,
    ⟨some 4, none, .mov (.c (.i 0))⟩] [2, 3]) (
  .seq (
  .seq (
  .reg [
    ⟨some 5, none, .mov (.c (.i 8))⟩] [2, 3, 5]) (
  .block 0 (
   .loop [2, 3, 5] (
    .seq (
    .seq (
    .reg [
      ⟨some 6, none, .mov (.t 5)⟩,
      ⟨some 7, none, .bin .geq (.t 6) (.c (.i 0))⟩] [2, 3, 5, 7]) (
    .cond (.t 7) (
     .reg [] [2, 3, 5]) (
     .exit 0 []))) (
    .seq (
    .block 1 (
     .block 2 (
      .seq (
      .reg [
        ⟨some 11, none, .mov (.t 5)⟩,
        ⟨some 12, none, .off 0 (.t 2)⟩,
        ⟨some 13, none, .idx 9 1 (.t 12) (.t 11)⟩,
        ⟨some 14, none, .ld true none (.t 13)⟩,
        ⟨some 15, none, .mov (.t 5)⟩,
        ⟨some 16, none, .off 0 (.t 3)⟩,
        ⟨some 17, none, .idx 9 1 (.t 16) (.t 15)⟩,
        ⟨some 18, none, .ld true none (.t 17)⟩,
        ⟨some 19, none, .bin .lss (.t 14) (.t 18)⟩,
        ⟨some 10, none, .mov (.t 19)⟩] [2, 3, 5, 10]) (
      .cond (.t 10) (
       .seq (
       .reg [
         ⟨some 4, none, .mov (.c (.i (-1)))⟩] [4]) (
       .ret)) (
       .seq (
       .reg [
         ⟨some 21, none, .mov (.t 5)⟩,
         ⟨some 22, none, .off 0 (.t 2)⟩,
         ⟨some 23, none, .idx 9 1 (.t 22) (.t 21)⟩,
         ⟨some 24, none, .ld true none (.t 23)⟩,
         ⟨some 25, none, .mov (.t 5)⟩,
         ⟨some 26, none, .off 0 (.t 3)⟩,
         ⟨some 27, none, .idx 9 1 (.t 26) (.t 25)⟩,
         ⟨some 28, none, .ld true none (.t 27)⟩,
         ⟨some 29, none, .bin .gtr (.t 24) (.t 28)⟩,
         ⟨some 20, none, .mov (.t 29)⟩] [2, 3, 5, 20]) (
       .cond (.t 20) (
        .seq (
        .reg [
          ⟨some 4, none, .mov (.c (.i 1))⟩] [4]) (
        .ret)) (
        .reg [] [2, 3, 5]))))))) (
    .reg [
      ⟨some 8, none, .mov (.t 5)⟩,
      ⟨some 9, none, .bin .sub (.t 8) (.c (.i 1))⟩,
      ⟨some 5, none, .mov (.t 9)⟩] [2, 3, 5])))))) (
  .seq (
  .reg [
    ⟨some 4, none, .mov (.c (.i 0))⟩] [4]) (
  .ret)))
def m_nat_Cmp : MFn := ⟨c_nat_Cmp, [.tmp 4], 0⟩

/-- curvet/nat.Shr -/
def c_nat_Shr : Stm :=
  .seq (
  .reg [
    ⟨some 2, none, .boxv (.t 0)⟩,
    ⟨some 4, none, .box (.c (.agg [.u 64 0, .u 64 0, .u 64 0, .u 64 0, .u 64 0, .u 64 0, .u 64 0, .u 64 0, .u 64 0]))⟩,
    ⟨some 5, none, .mov (.c (.i 0))⟩] [1, 2, 4]) (
  .seq (
  .seq (
  .reg [
    ⟨some 10, none, .mov (.t 1)⟩,
    ⟨some 11, none, .bin .lss (.t 10) (.c (.i 0))⟩,
    ⟨some 12, none, .mov (.t 11)⟩,
    ⟨some 13, (some (12, false)), .mov (.t 1)⟩,
    ⟨some 14, (some (12, false)), .bin .gtr (.t 13) (.c (.i 576))⟩,
    ⟨some 15, none, .pick (.t 12) (.c (.b true)) (.t 14)⟩] [1, 2, 4, 15]) (
  .cond (.t 15) (
   .seq (
   .reg [
     ⟨some 16, none, .build [.u 64 0, .u 64 0, .u 64 0, .u 64 0, .u 64 0, .u 64 0, .u 64 0, .u 64 0, .u 64 0] []⟩,
     ⟨none, none, .stl 4 9 (.t 4) (.t 16)⟩,
     ⟨some 5, none, .mov (.c (.i 102))⟩] [4, 5]) (
   .ret)) (
   .reg [] [1, 2, 4]))) (
  .seq (
  .reg [
    ⟨some 6, none, .box (.c (.agg [.u 64 0, .u 64 0, .u 64 0, .u 64 0, .u 64 0, .u 64 0, .u 64 0, .u 64 0, .u 64 0]))⟩] [1, 2, 4, 6]) (
  .seq (
  .reg [
    ⟨some 17, none, .mov (.t 1)⟩,
    ⟨some 18, none, .bin .quo (.t 17) (.c (.i 64))⟩,
    ⟨some 19, none, .mov (.t 1)⟩,
    ⟨some 20, none, .bin .rem (.t 19) (.c (.i 64))⟩,
    ⟨some 7, none, .mov (.t 18)⟩,
    ⟨some 8, none, .mov (.t 20)⟩] [2, 4, 6, 7, 8]) (
  .seq (
  .seq (
  .reg [
    ⟨some 21, none, .mov (.t 7)⟩,
    ⟨some 22, none, .bin .sub (.c (.i 9)) (.t 21)⟩,
    ⟨some 23, none, .mov (.c (.i 0))⟩] [2, 4, 6, 7, 8, 22, 23]) (
  .block 0 (
   .loop [2, 4, 6, 7, 8, 22, 23] (
    .seq (
    .reg [
      ⟨some 24, none, .bin .lss (.t 23) (.t 22)⟩] [2, 4, 6, 7, 8, 22, 23, 24]) (
    .seq (
    .cond (.t 24) (
     .reg [] [2, 4, 6, 7, 8, 22, 23]) (
     .exit 0 [4, 6])) (
    .seq (
    .block 1 (
     .seq (
     .reg [
       ⟨some 25, none, .mov (.t 23)⟩,
       ⟨some 9, none, .mov (.t 25)⟩] [2, 4, 6, 7, 8, 9, 22, 23]) (
     .seq (
     .reg [
       ⟨some 26, none, .mov (.t 9)⟩,
       ⟨some 27, none, .mov (.t 9)⟩,
       ⟨some 28, none, .mov (.t 7)⟩,
       ⟨some 29, none, .bin .add (.t 27) (.t 28)⟩,
       ⟨some 30, none, .off 0 (.t 2)⟩,
       ⟨some 31, none, .idx 9 1 (.t 30) (.t 29)⟩,
       ⟨some 32, none, .ld true none (.t 31)⟩,
       ⟨some 33, none, .mov (.t 8)⟩,
       ⟨some 34, none, .bin .shr (.t 32) (.t 33)⟩,
       ⟨some 35, none, .off 0 (.t 6)⟩,
       ⟨some 36, none, .idx 9 1 (.t 35) (.t 26)⟩,
       ⟨none, none, .stl 6 1 (.t 36) (.t 34)⟩] [2, 4, 6, 7, 8, 9, 22, 23]) (
     .seq (
     .reg [
       ⟨some 37, none, .mov (.t 9)⟩,
       ⟨some 38, none, .mov (.t 7)⟩,
       ⟨some 39, none, .bin .add (.t 37) (.t 38)⟩,
       ⟨some 40, none, .bin .add (.t 39) (.c (.i 1))⟩,
       ⟨some 41, none, .bin .lss (.t 40) (.c (.i 9))⟩] [2, 4, 6, 7, 8, 9, 22, 23, 41]) (
     .cond (.t 41) (
      .reg [
        ⟨some 42, none, .mov (.t 9)⟩,
        ⟨some 43, none, .off 0 (.t 6)⟩,
        ⟨some 44, none, .idx 9 1 (.t 43) (.t 42)⟩,
        ⟨some 45, none, .ldl 6 none (.t 44)⟩,
        ⟨some 46, none, .mov (.t 9)⟩,
        ⟨some 47, none, .mov (.t 7)⟩,
        ⟨some 48, none, .bin .add (.t 46) (.t 47)⟩,
        ⟨some 49, none, .bin .add (.t 48) (.c (.i 1))⟩,
        ⟨some 50, none, .off 0 (.t 2)⟩,
        ⟨some 51, none, .idx 9 1 (.t 50) (.t 49)⟩,
        ⟨some 52, none, .ld true none (.t 51)⟩,
        ⟨some 53, none, .mov (.t 8)⟩,
        ⟨some 54, none, .bin .sub (.c (.i 64)) (.t 53)⟩,
        ⟨some 55, none, .bin .shl (.t 52) (.t 54)⟩,
        ⟨some 56, none, .bin .or (.t 45) (.t 55)⟩,
        ⟨some 57, none, .off 0 (.t 6)⟩,
        ⟨some 58, none, .idx 9 1 (.t 57) (.t 42)⟩,
        ⟨none, none, .stl 6 1 (.t 58) (.t 56)⟩] [2, 4, 6, 7, 8, 22, 23]) (
      .reg [] [2, 4, 6, 7, 8, 22, 23])))))) (
    .reg [
      ⟨some 59, none, .bin .add (.t 23) (.c (.i 1))⟩,
      ⟨some 23, none, .mov (.t 59)⟩] [2, 4, 6, 7, 8, 22, 23]))))))) (
  .seq (
  .reg [
    ⟨some 60, none, .ldl 6 (some 9) (.t 6)⟩,
    ⟨none, none, .stl 4 9 (.t 4) (.t 60)⟩,
    ⟨some 5, none, .mov (.c (.i 0))⟩] [4, 5]) (
  .ret))))))
def m_nat_Shr : MFn := ⟨c_nat_Shr, [.cell 4 (some 9), .tmp 5], 0⟩

/-- curvet/curvetref1.Bit -/
def c_curvetref1_Bit : Stm :=
  .seq (
  .reg [
    ⟨some 4, none, .mov (.c (.i 0))⟩] [0, 1]) (
  .seq (
  .reg [
    ⟨some 5, none, .mov (.t 0)⟩,
    ⟨some 6, none, .mov (.t 1)⟩,
    ⟨some 7, none, .bin .quo (.t 6) (.c (.i 32))⟩,
    ⟨some 8, none, .call f_curvetref1_digit [] [(.t 5), (.t 7)]⟩,
    ⟨some 9, none, .mov (.t 1)⟩,
    ⟨some 10, none, .bin .rem (.t 9) (.c (.i 32))⟩,
    ⟨some 11, none, .bin .shr (.t 8) (.t 10)⟩,
    ⟨some 12, none, .bin .and (.t 11) (.c (.u 64 1))⟩,
    ⟨some 13, none, .cvi (.t 12)⟩,
    ⟨some 4, none, .mov (.t 13)⟩] [4]) (
  .ret))
def m_curvetref1_Bit : MFn := ⟨c_curvetref1_Bit, [.tmp 4], 0⟩

/-- curvet/nat.Small -/
def c_nat_Small : Stm :=
  .seq (
  .reg [
    ⟨some 2, none, .box (.c (.agg [.u 64 0, .u 64 0, .u 64 0, .u 64 0, .u 64 0, .u 64 0, .u 64 0, .u 64 0, .u 64 0]))⟩] [0, 2]) (
  .seq (
  .reg [
    ⟨some 3, none, .mov (.t 0)⟩,
    ⟨some 4, none, .mx (.t 3) (.c (.i 0))⟩,
    ⟨some 5, none, .cvu 64 (.t 4)⟩,
    ⟨some 6, none, .build [.u 64 0, .u 64 0, .u 64 0, .u 64 0, .u 64 0, .u 64 0, .u 64 0, .u 64 0, .u 64 0] [(0, 1, (.t 5))]⟩,
    ⟨some 7, none, .build [.u 64 0, .u 64 0, .u 64 0, .u 64 0, .u 64 0, .u 64 0, .u 64 0, .u 64 0, .u 64 0] [(0, 9, (.t 6))]⟩,
    ⟨none, none, .stl 2 9 (.t 2) (.t 7)⟩] [2]) (
  .ret))
def m_nat_Small : MFn := ⟨c_nat_Small, [.cell 2 (some 9)], 0⟩

/-- curvet/curvetref1.Small -/
def c_curvetref1_Small : Stm :=
  .seq (
  .reg [
    ⟨some 2, none, .mov (.c (.vs 0 []))⟩] [0]) (
  .seq (
  .seq (
  .reg [
    ⟨some 3, none, .mov (.t 0)⟩,
    ⟨some 4, none, .bin .lss (.t 3) (.c (.i 0))⟩] [0, 4]) (
  .cond (.t 4) (
   .seq (
   .reg [
     ⟨some 2, none, .mov (.c (.vs 0 []))⟩] [2]) (
   .ret)) (
   .reg [] [0]))) (
  .seq (
  .reg [
    ⟨some 5, none, .mov (.t 0)⟩,
    ⟨some 6, none, .cvu 64 (.t 5)⟩,
    ⟨some 7, none, .bin .and (.t 6) (.c (.u 64 4294967295))⟩,
    ⟨some 8, none, .cvu 32 (.t 7)⟩,
    ⟨some 9, none, .mov (.t 0)⟩,
    ⟨some 10, none, .cvu 64 (.t 9)⟩,
    ⟨some 11, none, .bin .shr (.t 10) (.c (.u 64 32))⟩,
    ⟨some 12, none, .cvu 32 (.t 11)⟩,
    ⟨some 13, none, .lit true 1 2 [.u 32 0, .u 32 0] [(0, 1, (.t 8)), (1, 1, (.t 12))]⟩,
    ⟨some 14, none, .call f_curvetref1_trim [] [(.t 13)]⟩,
    ⟨some 2, none, .mov (.t 14)⟩] [2]) (
  .ret)))
def m_curvetref1_Small : MFn := ⟨c_curvetref1_Small, [.tmp 2], 0⟩

/-- curvet/curvetref1.Shr -/
def c_curvetref1_Shr : Stm :=
  .seq (
  .reg [
    ⟨some 4, none, .mov (.c (.vs 0 []))⟩] [0, 1]) (
  .seq (
  .seq (
  .reg [
    ⟨some 8, none, .mov (.t 1)⟩,
    ⟨some 9, none, .bin .quo (.t 8) (.c (.i 32))⟩,
    ⟨some 10, none, .mov (.t 0)⟩,
    ⟨some 11, none, .len (.t 10)⟩,
    ⟨some 12, none, .bin .geq (.t 9) (.t 11)⟩] [0, 1, 12]) (
  .cond (.t 12) (
   .seq (
   .reg [
     ⟨some 4, none, .mov (.c (.vs 0 []))⟩] [4]) (
   .ret)) (
   .reg [] [0, 1]))) (
  .seq (
  .reg [
    ⟨some 13, none, .mov (.t 0)⟩,
    ⟨some 14, none, .len (.t 13)⟩,
    ⟨some 15, none, .mov (.t 1)⟩,
    ⟨some 16, none, .bin .quo (.t 15) (.c (.i 32))⟩,
    ⟨some 17, none, .bin .sub (.t 14) (.t 16)⟩,
    ⟨some 18, none, .mks 1 4 [.u 32 0] (.t 17) (.t 17)⟩,
    ⟨some 5, none, .mov (.t 18)⟩] [0, 1, 5]) (
  .seq (
  .seq (
  .reg [
    ⟨some 6, none, .mov (.c (.i 0))⟩] [0, 1, 5, 6]) (
  .block 0 (
   .loop [0, 1, 5, 6] (
    .seq (
    .seq (
    .reg [
      ⟨some 19, none, .mov (.t 6)⟩,
      ⟨some 20, none, .mov (.t 5)⟩,
      ⟨some 21, none, .len (.t 20)⟩,
      ⟨some 22, none, .bin .lss (.t 19) (.t 21)⟩] [0, 1, 5, 6, 22]) (
    .cond (.t 22) (
     .reg [] [0, 1, 5, 6]) (
     .exit 0 [5]))) (
    .seq (
    .block 1 (
     .seq (
     .reg [
       ⟨some 25, none, .mov (.t 0)⟩,
       ⟨some 26, none, .mov (.t 6)⟩,
       ⟨some 27, none, .mov (.t 1)⟩,
       ⟨some 28, none, .bin .quo (.t 27) (.c (.i 32))⟩,
       ⟨some 29, none, .bin .add (.t 26) (.t 28)⟩,
       ⟨some 30, none, .call f_curvetref1_digit [] [(.t 25), (.t 29)]⟩,
       ⟨some 31, none, .mov (.t 0)⟩,
       ⟨some 32, none, .mov (.t 6)⟩,
       ⟨some 33, none, .mov (.t 1)⟩,
       ⟨some 34, none, .bin .quo (.t 33) (.c (.i 32))⟩,
       ⟨some 35, none, .bin .add (.t 32) (.t 34)⟩,
       ⟨some 36, none, .bin .add (.t 35) (.c (.i 1))⟩,
       ⟨some 37, none, .call f_curvetref1_digit [] [(.t 31), (.t 36)]⟩,
       ⟨some 38, none, .bin .shl (.t 37) (.c (.u 64 32))⟩,
       ⟨some 39, none, .bin .or (.t 30) (.t 38)⟩,
       ⟨some 7, none, .mov (.t 39)⟩] [0, 1, 5, 6, 7]) (
     .reg [
       ⟨some 40, none, .mov (.t 5)⟩,
       ⟨some 41, none, .mov (.t 6)⟩,
       ⟨some 42, none, .mov (.t 7)⟩,
       ⟨some 43, none, .mov (.t 1)⟩,
       ⟨some 44, none, .bin .rem (.t 43) (.c (.i 32))⟩,
       ⟨some 45, none, .bin .shr (.t 42) (.t 44)⟩,
       ⟨some 46, none, .bin .and (.t 45) (.c (.u 64 4294967295))⟩,
       ⟨some 47, none, .cvu 32 (.t 46)⟩,
       ⟨some 48, none, .idxs 1 (.t 40) (.t 41)⟩,
       ⟨none, none, .st 1 (.t 48) (.t 47)⟩] [0, 1, 5, 6]))) (
    .reg [
      ⟨some 23, none, .mov (.t 6)⟩,
      ⟨some 24, none, .bin .add (.t 23) (.c (.i 1))⟩,
      ⟨some 6, none, .mov (.t 24)⟩] [0, 1, 5, 6])))))) (
  .seq (
  .reg [
    ⟨some 49, none, .mov (.t 5)⟩,
    ⟨some 50, none, .call f_curvetref1_trim [] [(.t 49)]⟩,
    ⟨some 4, none, .mov (.t 50)⟩] [4]) (
  .ret)))))
def m_curvetref1_Shr : MFn := ⟨c_curvetref1_Shr, [.tmp 4], 0⟩

/-- curvet/curvetref1.digit -/
def c_curvetref1_digit : Stm :=
  .seq (
  .reg [
    ⟨some 4, none, .mov (.c (.u 64 0))⟩] [0, 1]) (
  .seq (
  .seq (
  .reg [
    ⟨some 5, none, .mov (.t 1)⟩,
    ⟨some 6, none, .mov (.t 0)⟩,
    ⟨some 7, none, .len (.t 6)⟩,
    ⟨some 8, none, .bin .lss (.t 5) (.t 7)⟩] [0, 1, 8]) (
  .cond (.t 8) (
   .seq (
   .reg [
     ⟨some 9, none, .mov (.t 0)⟩,
     ⟨some 10, none, .mov (.t 1)⟩,
     ⟨some 11, none, .idxs 1 (.t 9) (.t 10)⟩,
     ⟨some 12, none, .ld false none (.t 11)⟩,
     ⟨some 13, none, .cvu 64 (.t 12)⟩,
     ⟨some 4, none, .mov (.t 13)⟩] [4]) (
   .ret)) (
   .reg [] []))) (
  .seq (
  .reg [
    ⟨some 4, none, .mov (.c (.u 64 0))⟩] [4]) (
  .ret)))
def m_curvetref1_digit : MFn := ⟨c_curvetref1_digit, [.tmp 4], 0⟩

/-- curvet/curvetref1.trim -/
def c_curvetref1_trim : Stm :=
  .seq (
  .reg [
    ⟨some 2, none, .mov (.c (.vs 0 []))⟩] [0]) (
  .seq (
  .reg [
    ⟨some 4, none, .mov (.t 0)⟩,
    ⟨some 5, none, .len (.t 4)⟩,
    ⟨some 3, none, .mov (.t 5)⟩] [0, 3]) (
  .seq (
  .block 0 (
   .loop [0, 3] (
    .seq (
    .seq (
    .reg [
      ⟨some 6, none, .mov (.t 3)⟩,
      ⟨some 7, none, .bin .gtr (.t 6) (.c (.i 0))⟩,
      ⟨some 8, none, .mov (.t 7)⟩,
      ⟨some 9, (some (8, true)), .mov (.t 0)⟩,
      ⟨some 10, (some (8, true)), .mov (.t 3)⟩,
      ⟨some 11, (some (8, true)), .bin .sub (.t 10) (.c (.i 1))⟩,
      ⟨some 12, (some (8, true)), .idxs 1 (.t 9) (.t 11)⟩,
      ⟨some 13, (some (8, true)), .ld false none (.t 12)⟩,
      ⟨some 14, (some (8, true)), .bin .eql (.t 13) (.c (.u 32 0))⟩,
      ⟨some 15, none, .pick (.t 8) (.t 14) (.c (.b false))⟩] [0, 3, 15]) (
    .cond (.t 15) (
     .reg [] [0, 3]) (
     .exit 0 [0, 3]))) (
    .block 1 (
     .reg [
       ⟨some 16, none, .mov (.t 3)⟩,
       ⟨some 17, none, .bin .sub (.t 16) (.c (.i 1))⟩,
       ⟨some 3, none, .mov (.t 17)⟩] [0, 3]))))) (
  .seq (
  .reg [
    ⟨some 18, none, .mov (.t 0)⟩,
    ⟨some 19, none, .mov (.t 3)⟩,
    ⟨some 20, none, .slv 1 (.t 18) none (some (.t 19))⟩,
    ⟨some 2, none, .mov (.t 20)⟩] [2]) (
  .ret))))
def m_curvetref1_trim : MFn := ⟨c_curvetref1_trim, [.tmp 2], 0⟩

/-- curvet/nat.used -/
def c_nat_used : Stm :=
  .seq (
  .reg [
    ⟨some 2, none, .mov (.c (.i 0))⟩] [0]) (
  .seq (
  .reg [
    ⟨some 3, none, .mov (.c (.i 9))⟩] [0, 3]) (
  .seq (
  .block 0 (
   .loop [0, 3] (
    .seq (
    .seq (
    .reg [
      ⟨some 4, none, .mov (.t 3)⟩,
      ⟨some 5, none, .bin .gtr (.t 4) (.c (.i 0))⟩,
      ⟨some 6, none, .mov (.t 5)⟩,
      ⟨some 7, (some (6, true)), .mov (.t 0)⟩,
      ⟨some 8, (some (6, true)), .mov (.t 3)⟩,
      ⟨some 9, (some (6, true)), .bin .sub (.t 8) (.c (.i 1))⟩,
      ⟨some 10, (some (6, true)), .nck (.t 7)⟩,
      ⟨some 11, (some (6, true)), .off 0 (.t 10)⟩,
      ⟨some 12, (some (6, true)), .idx 9 1 (.t 11) (.t 9)⟩,
      ⟨some 13, (some (6, true)), .ld false none (.t 12)⟩,
      ⟨some 14, (some (6, true)), .bin .eql (.t 13) (.c (.u 64 0))⟩,
      ⟨some 15, none, .pick (.t 6) (.t 14) (.c (.b false))⟩] [0, 3, 15]) (
    .cond (.t 15) (
     .reg [] [0, 3]) (
     .exit 0 [3]))) (
    .block 1 (
     .reg [
       ⟨some 16, none, .mov (.t 3)⟩,
       ⟨some 17, none, .bin .sub (.t 16) (.c (.i 1))⟩,
       ⟨some 3, none, .mov (.t 17)⟩] [0, 3]))))) (
  .seq (
  .reg [
    ⟨some 18, none, .mov (.t 3)⟩,
    ⟨some 2, none, .mov (.t 18)⟩] [2]) (
  .ret))))
def m_nat_used : MFn := ⟨c_nat_used, [.tmp 2], 0⟩

/-- math/bits.Len64 -/
def c_bits_Len64 : Stm :=
  .seq (
  .reg [
    ⟨some 2, none, .mov (.c (.i 0))⟩] [0, 2]) (
  .seq (
  .seq (
  .reg [
    ⟨some 3, none, .mov (.t 0)⟩,
    ⟨some 4, none, .bin .geq (.t 3) (.c (.u 64 4294967296))⟩] [0, 2, 4]) (
  .cond (.t 4) (
   .seq (
   .reg [
     ⟨some 5, none, .mov (.t 0)⟩,
     ⟨some 6, none, .bin .shr (.t 5) (.c (.u 64 32))⟩,
     ⟨some 0, none, .mov (.t 6)⟩] [0]) (
   .reg [
     ⟨some 2, none, .mov (.c (.i 32))⟩] [0, 2])) (
   .reg [] [0, 2]))) (
  .seq (
  .seq (
  .reg [
    ⟨some 7, none, .mov (.t 0)⟩,
    ⟨some 8, none, .bin .geq (.t 7) (.c (.u 64 65536))⟩] [0, 2, 8]) (
  .cond (.t 8) (
   .seq (
   .reg [
     ⟨some 9, none, .mov (.t 0)⟩,
     ⟨some 10, none, .bin .shr (.t 9) (.c (.u 64 16))⟩,
     ⟨some 0, none, .mov (.t 10)⟩] [0, 2]) (
   .reg [
     ⟨some 11, none, .mov (.t 2)⟩,
     ⟨some 12, none, .bin .add (.t 11) (.c (.i 16))⟩,
     ⟨some 2, none, .mov (.t 12)⟩] [0, 2])) (
   .reg [] [0, 2]))) (
  .seq (
  .seq (
  .reg [
    ⟨some 13, none, .mov (.t 0)⟩,
    ⟨some 14, none, .bin .geq (.t 13) (.c (.u 64 256))⟩] [0, 2, 14]) (
  .cond (.t 14) (
   .seq (
   .reg [
     ⟨some 15, none, .mov (.t 0)⟩,
     ⟨some 16, none, .bin .shr (.t 15) (.c (.u 64 8))⟩,
     ⟨some 0, none, .mov (.t 16)⟩] [0, 2]) (
   .reg [
     ⟨some 17, none, .mov (.t 2)⟩,
     ⟨some 18, none, .bin .add (.t 17) (.c (.i 8))⟩,
     ⟨some 2, none, .mov (.t 18)⟩] [0, 2])) (
   .reg [] [0, 2]))) (
  .seq (
  .reg [
    ⟨some 19, none, .mov (.t 2)⟩,
    ⟨some 20, none, .mov (.t 0)⟩,
    ⟨some 21, none, .cvu 8 (.t 20)⟩,
    ⟨some 22, none, .idxb (.c (.s [0, 1, 2, 2, 3, 3, 3, 3, 4, 4, 4, 4, 4, 4, 4, 4, 5, 5, 5, 5, 5, 5, 5, 5, 5, 5, 5, 5, 5, 5, 5, 5, 6, 6, 6, 6, 6, 6, 6, 6, 6, 6, 6, 6, 6, 6, 6, 6, 6, 6, 6, 6, 6, 6, 6, 6, 6, 6, 6, 6, 6, 6, 6, 6, 7, 7, 7, 7, 7, 7, 7, 7, 7, 7, 7, 7, 7, 7, 7, 7, 7, 7, 7, 7, 7, 7, 7, 7, 7, 7, 7, 7, 7, 7, 7, 7, 7, 7, 7, 7, 7, 7, 7, 7, 7, 7, 7, 7, 7, 7, 7, 7, 7, 7, 7, 7, 7, 7, 7, 7, 7, 7, 7, 7, 7, 7, 7, 7, 8, 8, 8, 8, 8, 8, 8, 8, 8, 8, 8, 8, 8, 8, 8, 8, 8, 8, 8, 8, 8, 8, 8, 8, 8, 8, 8, 8, 8, 8, 8, 8, 8, 8, 8, 8, 8, 8, 8, 8, 8, 8, 8, 8, 8, 8, 8, 8, 8, 8, 8, 8, 8, 8, 8, 8, 8, 8, 8, 8, 8, 8, 8, 8, 8, 8, 8, 8, 8, 8, 8, 8, 8, 8, 8, 8, 8, 8, 8, 8, 8, 8, 8, 8, 8, 8, 8, 8, 8, 8, 8, 8, 8, 8, 8, 8, 8, 8, 8, 8, 8, 8, 8, 8, 8, 8, 8, 8, 8, 8, 8, 8, 8, 8, 8, 8, 8, 8, 8, 8, 8, 8, 8, 8, 8, 8, 8, 8])) (.t 21)⟩,
    ⟨some 23, none, .cvi (.t 22)⟩,
    ⟨some 24, none, .bin .add (.t 19) (.t 23)⟩,
    ⟨some 2, none, .mov (.t 24)⟩] [2]) (
  .ret)))))
def m_bits_Len64 : MFn := ⟨c_bits_Len64, [.tmp 2], 0⟩

/-- math/bits.Mul64 -/
def c_bits_Mul64 : Stm :=
  .seq (
  .reg [
    ⟨some 4, none, .mov (.c (.u 64 0))⟩,
    ⟨some 5, none, .mov (.c (.u 64 0))⟩] [0, 1]) (
  .seq (
  .reg [
    ⟨some 14, none, .mov (.t 0)⟩,
    ⟨some 15, none, .bin .and (.t 14) (.c (.u 64 4294967295))⟩,
    ⟨some 6, none, .mov (.t 15)⟩] [0, 1, 6]) (
  .seq (
  .reg [
    ⟨some 16, none, .mov (.t 0)⟩,
    ⟨some 17, none, .bin .shr (.t 16) (.c (.u 64 32))⟩,
    ⟨some 7, none, .mov (.t 17)⟩] [0, 1, 6, 7]) (
  .seq (
  .reg [
    ⟨some 18, none, .mov (.t 1)⟩,
    ⟨some 19, none, .bin .and (.t 18) (.c (.u 64 4294967295))⟩,
    ⟨some 8, none, .mov (.t 19)⟩] [0, 1, 6, 7, 8]) (
  .seq (
  .reg [
    ⟨some 20, none, .mov (.t 1)⟩,
    ⟨some 21, none, .bin .shr (.t 20) (.c (.u 64 32))⟩,
    ⟨some 9, none, .mov (.t 21)⟩] [0, 1, 6, 7, 8, 9]) (
  .seq (
  .reg [
    ⟨some 22, none, .mov (.t 6)⟩,
    ⟨some 23, none, .mov (.t 8)⟩,
    ⟨some 24, none, .bin .mul (.t 22) (.t 23)⟩,
    ⟨some 10, none, .mov (.t 24)⟩] [0, 1, 6, 7, 8, 9, 10]) (
  .seq (
  .reg [
    ⟨some 25, none, .mov (.t 7)⟩,
    ⟨some 26, none, .mov (.t 8)⟩,
    ⟨some 27, none, .bin .mul (.t 25) (.t 26)⟩,
    ⟨some 28, none, .mov (.t 10)⟩,
    ⟨some 29, none, .bin .shr (.t 28) (.c (.u 64 32))⟩,
    ⟨some 30, none, .bin .add (.t 27) (.t 29)⟩,
    ⟨some 11, none, .mov (.t 30)⟩] [0, 1, 6, 7, 9, 11]) (
  .seq (
  .reg [
    ⟨some 31, none, .mov (.t 11)⟩,
    ⟨some 32, none, .bin .and (.t 31) (.c (.u 64 4294967295))⟩,
    ⟨some 12, none, .mov (.t 32)⟩] [0, 1, 6, 7, 9, 11, 12]) (
  .seq (
  .reg [
    ⟨some 33, none, .mov (.t 11)⟩,
    ⟨some 34, none, .bin .shr (.t 33) (.c (.u 64 32))⟩,
    ⟨some 13, none, .mov (.t 34)⟩] [0, 1, 6, 7, 9, 12, 13]) (
  .seq (
  .reg [
    ⟨some 35, none, .mov (.t 12)⟩,
    ⟨some 36, none, .mov (.t 6)⟩,
    ⟨some 37, none, .mov (.t 9)⟩,
    ⟨some 38, none, .bin .mul (.t 36) (.t 37)⟩,
    ⟨some 39, none, .bin .add (.t 35) (.t 38)⟩,
    ⟨some 12, none, .mov (.t 39)⟩] [0, 1, 7, 9, 12, 13]) (
  .seq (
  .reg [
    ⟨some 40, none, .mov (.t 7)⟩,
    ⟨some 41, none, .mov (.t 9)⟩,
    ⟨some 42, none, .bin .mul (.t 40) (.t 41)⟩,
    ⟨some 43, none, .mov (.t 13)⟩,
    ⟨some 44, none, .bin .add (.t 42) (.t 43)⟩,
    ⟨some 45, none, .mov (.t 12)⟩,
    ⟨some 46, none, .bin .shr (.t 45) (.c (.u 64 32))⟩,
    ⟨some 47, none, .bin .add (.t 44) (.t 46)⟩,
    ⟨some 4, none, .mov (.t 47)⟩] [0, 1, 4]) (
  .seq (
  .reg [
    ⟨some 48, none, .mov (.t 0)⟩,
    ⟨some 49, none, .mov (.t 1)⟩,
    ⟨some 50, none, .bin .mul (.t 48) (.t 49)⟩,
    ⟨some 5, none, .mov (.t 50)⟩] [4, 5]) (
  .ret))))))))))))
def m_bits_Mul64 : MFn := ⟨c_bits_Mul64, [.tmp 4, .tmp 5], 0⟩

def tab : List (Nat × MFn) := [
  (f_curvetlaw1_NatBytes, m_curvetlaw1_NatBytes),
  (f_curvetlaw1_NatBack, m_curvetlaw1_NatBack),
  (f_curvetlaw1_NatShares, m_curvetlaw1_NatShares),
  (f_curvetlaw1_NatEnds, m_curvetlaw1_NatEnds),
  (f_curvetlaw1_NatPowers, m_curvetlaw1_NatPowers),
  (f_curvetlaw1_NatSums, m_curvetlaw1_NatSums),
  (f_curvetlaw1_NatRules, m_curvetlaw1_NatRules),
  (f_curvetlaw1_NatOrder, m_curvetlaw1_NatOrder),
  (f_curvetlaw1_NatShifts, m_curvetlaw1_NatShifts),
  (f_curvetlaw1_NatDigits, m_curvetlaw1_NatDigits),
  (f_curvetlaw1_NatBits, m_curvetlaw1_NatBits),
  (f_nat_Of, m_nat_Of),
  (f_nat_Bytes, m_nat_Bytes),
  (f_curvetref1_Bytes, m_curvetref1_Bytes),
  (f_curvetref1_From, m_curvetref1_From),
  (f_curvetlaw0_Num, m_curvetlaw0_Num),
  (f_curvetlaw1_awake, m_curvetlaw1_awake),
  (f_curvetref1_Nat, m_curvetref1_Nat),
  (f_curvetref1_Read, m_curvetref1_Read),
  (f_nat_Bits, m_nat_Bits),
  (f_curvetlaw0_Nat, m_curvetlaw0_Nat),
  (f_nat_Add, m_nat_Add),
  (f_curvetlaw1_low, m_curvetlaw1_low),
  (f_nat_Mul, m_nat_Mul),
  (f_curvetlaw0_One, m_curvetlaw0_One),
  (f_nat_Sub, m_nat_Sub),
  (f_nat_Shl, m_nat_Shl),
  (f_nat_Bit, m_nat_Bit),
  (f_curvetref1_Add, m_curvetref1_Add),
  (f_curvetref1_Cmp, m_curvetref1_Cmp),
  (f_curvetref1_Sub, m_curvetref1_Sub),
  (f_curvetref1_Shl, m_curvetref1_Shl),
  (f_curvetref1_Bits, m_curvetref1_Bits),
  (f_curvetref1_Wide, m_curvetref1_Wide),
  (f_curvetref1_Mul, m_curvetref1_Mul),
  (f_nat_Cmp, m_nat_Cmp),
  (f_nat_Shr, m_nat_Shr),
  (f_curvetref1_Bit, m_curvetref1_Bit),
  (f_nat_Small, m_nat_Small),
  (f_curvetref1_Small, m_curvetref1_Small),
  (f_curvetref1_Shr, m_curvetref1_Shr),
  (f_curvetref1_digit, m_curvetref1_digit),
  (f_curvetref1_trim, m_curvetref1_trim),
  (f_nat_used, m_nat_used),
  (f_bits_Len64, m_bits_Len64),
  (f_bits_Mul64, m_bits_Mul64)]
def look (f : Nat) : List (Nat × MFn) → Option MFn
  | [] => none
  | (g, m) :: r => bif Nat.beq g f then some m else look f r
def T (f : Nat) : Option MFn := look f tab
end Mir
