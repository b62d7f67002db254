/- The functions of the cut, written down in the small language. Conditions: none. -/
import Derived.Test.YtphinknjjdfgeaaLim
set_option maxRecDepth 100000
namespace Mir

abbrev f_curvetlaw22_Ders : Nat := 115
abbrev f_curvetlaw22_DerBack : Nat := 116
abbrev f_curvetlaw22_DerSpoilt : Nat := 117
abbrev f_curvetlaw22_DerLengths : Nat := 118
abbrev f_curvetlaw22_DerLoose : Nat := 119
abbrev f_curvetlaw22_DerGreat : Nat := 120
abbrev f_der_Get : Nat := 121
abbrev f_curvetref13_Undo : Nat := 122
abbrev f_der_Put : Nat := 123
abbrev f_curvetref13_Der : Nat := 124
abbrev f_curvetref1_From : Nat := 14
abbrev f_curvetlaw0_Num : Nat := 15
abbrev f_curvetlaw22_awake : Nat := 125
abbrev f_nat_Bits : Nat := 19
abbrev f_curvetlaw0_One : Nat := 24
abbrev f_der_reader_field : Nat := 126
abbrev f_der_reader_number : Nat := 127
abbrev f_curvetref13_take : Nat := 128
abbrev f_curvetref1_Bits : Nat := 32
abbrev f_curvetref1_Nat : Nat := 17
abbrev f_der_field : Nat := 129
abbrev f_der_number : Nat := 130
abbrev f_curvetref13_number : Nat := 131
abbrev f_curvetref1_trim : Nat := 42
abbrev f_nat_used : Nat := 43
abbrev f_bits_Len64 : Nat := 44
abbrev f_der_reader_byte : Nat := 132
abbrev f_der_reader_bytes : Nat := 133
abbrev f_nat_Of : Nat := 11
abbrev f_curvetref1_Read : Nat := 18
abbrev f_curvetref1_digit : Nat := 41
abbrev f_nat_Bytes : Nat := 12
abbrev f_curvetref1_Bytes : Nat := 13
abbrev f_curvetlaw0_Nat : Nat := 20
abbrev f_nat_Add : Nat := 21
abbrev f_nat_Mul : Nat := 23
abbrev f_nat_Sub : Nat := 25
abbrev f_nat_Shl : Nat := 26
abbrev f_nat_Bit : Nat := 27
abbrev f_curvetref1_Add : Nat := 28
abbrev f_curvetref1_Cmp : Nat := 29
abbrev f_curvetref1_Sub : Nat := 30
abbrev f_curvetref1_Shl : Nat := 31
abbrev f_curvetref1_Wide : Nat := 33
abbrev f_curvetref1_Mul : Nat := 34
abbrev f_nat_Cmp : Nat := 35
abbrev f_nat_Shr : Nat := 36
abbrev f_curvetref1_Bit : Nat := 37
abbrev f_nat_Small : Nat := 38
abbrev f_curvetref1_Small : Nat := 39
abbrev f_curvetref1_Shr : Nat := 40
abbrev f_bits_Mul64 : Nat := 45

/-- curvet/curvetlaw22.Ders -/
def c_curvetlaw22_Ders : Stm :=
  .seq (
  .reg [
    ⟨some 2, none, .boxv (.t 0)⟩,
    ⟨some 4, none, .mov (.c (.b false))⟩] [1, 2]) (
  .seq (
  .reg [
    ⟨some 10, none, .mov (.t 1)⟩,
    ⟨some 11, none, .call f_der_Get [] [(.t 10)]⟩,
    ⟨some 9, none, .mov (.t 11)⟩,
    ⟨some 12, none, .ext 0 (.t 9)⟩,
    ⟨some 13, none, .ext 1 (.t 9)⟩,
    ⟨some 5, none, .box (.c (.agg [.u 64 0, .u 64 0, .u 64 0, .u 64 0, .u 64 0, .u 64 0, .u 64 0, .u 64 0, .u 64 0, .u 64 0, .u 64 0, .u 64 0, .u 64 0, .u 64 0, .u 64 0, .u 64 0, .u 64 0, .u 64 0]))⟩,
    ⟨none, none, .stl 5 18 (.t 5) (.t 12)⟩,
    ⟨some 6, none, .mov (.t 13)⟩] [1, 2, 5, 6]) (
  .seq (
  .reg [
    ⟨some 15, none, .mov (.t 1)⟩,
    ⟨some 16, none, .call f_curvetref13_Undo [] [(.t 15)]⟩,
    ⟨some 14, none, .mov (.t 16)⟩,
    ⟨some 17, none, .ext 0 (.t 14)⟩,
    ⟨some 18, none, .ext 1 (.t 14)⟩,
    ⟨some 7, none, .box (.c (.agg [.u 64 0, .u 64 0, .u 64 0, .u 64 0, .u 64 0, .u 64 0, .u 64 0, .u 64 0, .u 64 0, .u 64 0, .u 64 0, .u 64 0, .u 64 0, .u 64 0, .u 64 0, .u 64 0, .u 64 0, .u 64 0]))⟩,
    ⟨none, none, .stl 7 18 (.t 7) (.t 17)⟩,
    ⟨some 8, none, .mov (.t 18)⟩] [2, 5, 6, 7, 8]) (
  .seq (
  .reg [
    ⟨some 19, none, .ld true (some 18) (.t 2)⟩,
    ⟨some 20, none, .call f_der_Put [] [(.t 19)]⟩,
    ⟨some 21, none, .off 0 (.t 2)⟩,
    ⟨some 22, none, .ld true (some 9) (.t 21)⟩,
    ⟨some 23, none, .call f_curvetref1_From [] [(.t 22)]⟩,
    ⟨some 24, none, .off 9 (.t 2)⟩,
    ⟨some 25, none, .ld true (some 9) (.t 24)⟩,
    ⟨some 26, none, .call f_curvetref1_From [] [(.t 25)]⟩,
    ⟨some 27, none, .call f_curvetref13_Der [] [(.t 23), (.t 26)]⟩,
    ⟨some 28, none, .bin .eql (.t 20) (.t 27)⟩,
    ⟨some 29, none, .mov (.t 28)⟩,
    ⟨some 30, (some (29, true)), .ldl 5 (some 18) (.t 5)⟩,
    ⟨some 31, (some (29, true)), .ldl 7 (some 18) (.t 7)⟩,
    ⟨some 32, (some (29, true)), .eqv (.agg [.u 64, .u 64, .u 64, .u 64, .u 64, .u 64, .u 64, .u 64, .u 64, .u 64, .u 64, .u 64, .u 64, .u 64, .u 64, .u 64, .u 64, .u 64]) false (.t 30) (.t 31)⟩,
    ⟨some 33, none, .pick (.t 29) (.t 32) (.c (.b false))⟩,
    ⟨some 34, none, .mov (.t 33)⟩,
    ⟨some 35, (some (34, true)), .mov (.t 6)⟩,
    ⟨some 36, (some (34, true)), .call f_curvetlaw0_Num [] [(.t 35)]⟩,
    ⟨some 37, (some (34, true)), .mov (.t 8)⟩,
    ⟨some 38, (some (34, true)), .bin .eql (.t 36) (.t 37)⟩,
    ⟨some 39, none, .pick (.t 34) (.t 38) (.c (.b false))⟩,
    ⟨some 40, none, .mov (.t 39)⟩,
    ⟨some 41, (some (40, true)), .call f_curvetlaw22_awake [] []⟩,
    ⟨some 42, none, .pick (.t 40) (.t 41) (.c (.b false))⟩,
    ⟨some 4, none, .mov (.t 42)⟩] [4]) (
  .ret))))
def m_curvetlaw22_Ders : MFn := ⟨c_curvetlaw22_Ders, [.tmp 4], 0⟩

/-- curvet/curvetlaw22.DerBack -/
def c_curvetlaw22_DerBack : Stm :=
  .seq (
  .reg [
    ⟨some 2, none, .boxv (.t 0)⟩,
    ⟨some 4, none, .mov (.c (.b false))⟩] [1, 2]) (
  .seq (
  .seq (
  .reg [
    ⟨some 9, none, .call f_curvetlaw22_awake [] []⟩,
    ⟨some 10, none, .un .not (.t 9)⟩] [1, 2, 10]) (
  .cond (.t 10) (
   .seq (
   .reg [
     ⟨some 4, none, .mov (.c (.b false))⟩] [4]) (
   .ret)) (
   .reg [] [1, 2]))) (
  .seq (
  .reg [
    ⟨some 12, none, .ld true (some 18) (.t 2)⟩,
    ⟨some 13, none, .call f_der_Put [] [(.t 12)]⟩,
    ⟨some 14, none, .call f_der_Get [] [(.t 13)]⟩,
    ⟨some 11, none, .mov (.t 14)⟩,
    ⟨some 15, none, .ext 0 (.t 11)⟩,
    ⟨some 16, none, .ext 1 (.t 11)⟩,
    ⟨some 5, none, .box (.c (.agg [.u 64 0, .u 64 0, .u 64 0, .u 64 0, .u 64 0, .u 64 0, .u 64 0, .u 64 0, .u 64 0, .u 64 0, .u 64 0, .u 64 0, .u 64 0, .u 64 0, .u 64 0, .u 64 0, .u 64 0, .u 64 0]))⟩,
    ⟨none, none, .stl 5 18 (.t 5) (.t 15)⟩,
    ⟨some 6, none, .mov (.t 16)⟩] [1, 2, 5, 6]) (
  .seq (
  .reg [
    ⟨some 18, none, .mov (.t 1)⟩,
    ⟨some 19, none, .call f_der_Get [] [(.t 18)]⟩,
    ⟨some 17, none, .mov (.t 19)⟩,
    ⟨some 20, none, .ext 0 (.t 17)⟩,
    ⟨some 21, none, .ext 1 (.t 17)⟩,
    ⟨some 7, none, .box (.c (.agg [.u 64 0, .u 64 0, .u 64 0, .u 64 0, .u 64 0, .u 64 0, .u 64 0, .u 64 0, .u 64 0, .u 64 0, .u 64 0, .u 64 0, .u 64 0, .u 64 0, .u 64 0, .u 64 0, .u 64 0, .u 64 0]))⟩,
    ⟨none, none, .stl 7 18 (.t 7) (.t 20)⟩,
    ⟨some 8, none, .mov (.t 21)⟩] [1, 2, 5, 6, 7, 8]) (
  .seq (
  .reg [
    ⟨some 22, none, .mov (.t 6)⟩,
    ⟨some 23, none, .call f_curvetlaw0_Num [] [(.t 22)]⟩,
    ⟨some 24, none, .bin .eql (.t 23) (.c (.i 0))⟩,
    ⟨some 25, none, .mov (.t 24)⟩,
    ⟨some 26, (some (25, true)), .ldl 5 (some 18) (.t 5)⟩,
    ⟨some 27, (some (25, true)), .ld true (some 18) (.t 2)⟩,
    ⟨some 28, (some (25, true)), .eqv (.agg [.u 64, .u 64, .u 64, .u 64, .u 64, .u 64, .u 64, .u 64, .u 64, .u 64, .u 64, .u 64, .u 64, .u 64, .u 64, .u 64, .u 64, .u 64]) false (.t 26) (.t 27)⟩,
    ⟨some 29, none, .pick (.t 25) (.t 28) (.c (.b false))⟩,
    ⟨some 30, none, .mov (.t 29)⟩,
    ⟨some 31, (some (30, true)), .mov (.t 8)⟩,
    ⟨some 32, (some (30, true)), .call f_curvetlaw0_Num [] [(.t 31)]⟩,
    ⟨some 33, (some (30, true)), .bin .neq (.t 32) (.c (.i 0))⟩,
    ⟨some 34, (some (30, true)), .mov (.t 33)⟩,
    ⟨some 35, (some (34, true)), .ldl 7 (some 18) (.t 7)⟩,
    ⟨some 36, (some (34, true)), .build [.u 64 0, .u 64 0, .u 64 0, .u 64 0, .u 64 0, .u 64 0, .u 64 0, .u 64 0, .u 64 0, .u 64 0, .u 64 0, .u 64 0, .u 64 0, .u 64 0, .u 64 0, .u 64 0, .u 64 0, .u 64 0] []⟩,
    ⟨some 37, (some (34, true)), .eqv (.agg [.u 64, .u 64, .u 64, .u 64, .u 64, .u 64, .u 64, .u 64, .u 64, .u 64, .u 64, .u 64, .u 64, .u 64, .u 64, .u 64, .u 64, .u 64]) false (.t 35) (.t 36)⟩,
    ⟨some 38, (some (30, true)), .pick (.t 34) (.t 37) (.c (.b false))⟩,
    ⟨some 39, (some (30, true)), .mov (.t 38)⟩,
    ⟨some 40, (some (39, false)), .mov (.t 8)⟩,
    ⟨some 41, (some (39, false)), .call f_curvetlaw0_Num [] [(.t 40)]⟩,
    ⟨some 42, (some (39, false)), .bin .eql (.t 41) (.c (.i 0))⟩,
    ⟨some 43, (some (39, false)), .mov (.t 42)⟩,
    ⟨some 44, (some (43, true)), .ldl 7 (some 18) (.t 7)⟩,
    ⟨some 45, (some (43, true)), .call f_der_Put [] [(.t 44)]⟩,
    ⟨some 46, (some (43, true)), .mov (.t 1)⟩,
    ⟨some 47, (some (43, true)), .bin .eql (.t 45) (.t 46)⟩,
    ⟨some 48, (some (39, false)), .pick (.t 43) (.t 47) (.c (.b false))⟩,
    ⟨some 49, (some (30, true)), .pick (.t 39) (.c (.b true)) (.t 48)⟩,
    ⟨some 50, none, .pick (.t 30) (.t 49) (.c (.b false))⟩,
    ⟨some 4, none, .mov (.t 50)⟩] [4]) (
  .ret)))))
def m_curvetlaw22_DerBack : MFn := ⟨c_curvetlaw22_DerBack, [.tmp 4], 0⟩

/-- curvet/curvetlaw22.DerSpoilt -/
def c_curvetlaw22_DerSpoilt : Stm :=
  .seq (
  .reg [
    ⟨some 3, none, .boxv (.t 0)⟩,
    ⟨some 6, none, .mov (.c (.b false))⟩] [1, 2, 3]) (
  .seq (
  .seq (
  .reg [
    ⟨some 15, none, .call f_curvetlaw22_awake [] []⟩,
    ⟨some 16, none, .un .not (.t 15)⟩] [1, 2, 3, 16]) (
  .cond (.t 16) (
   .seq (
   .reg [
     ⟨some 6, none, .mov (.c (.b false))⟩] [6]) (
   .ret)) (
   .reg [] [1, 2, 3]))) (
  .seq (
  .reg [
    ⟨some 17, none, .ld true (some 18) (.t 3)⟩,
    ⟨some 18, none, .call f_der_Put [] [(.t 17)]⟩,
    ⟨some 7, none, .mov (.t 18)⟩] [1, 2, 7]) (
  .seq (
  .seq (
  .reg [
    ⟨some 19, none, .mov (.t 7)⟩,
    ⟨some 20, none, .bin .eql (.t 19) (.c (.s []))⟩] [1, 2, 7, 20]) (
  .cond (.t 20) (
   .seq (
   .reg [
     ⟨some 6, none, .mov (.c (.b false))⟩] [6]) (
   .ret)) (
   .reg [] [1, 2, 7]))) (
  .seq (
  .reg [
    ⟨some 22, none, .mov (.t 7)⟩,
    ⟨some 23, none, .mov (.t 1)⟩,
    ⟨some 24, none, .cvu 64 (.t 23)⟩,
    ⟨some 25, none, .mov (.t 7)⟩,
    ⟨some 26, none, .lens (.t 25)⟩,
    ⟨some 27, none, .cvu 64 (.t 26)⟩,
    ⟨some 28, none, .bin .rem (.t 24) (.t 27)⟩,
    ⟨some 29, none, .cvi (.t 28)⟩,
    ⟨some 30, none, .sls (.t 22) none (some (.t 29))⟩,
    ⟨some 31, none, .call f_der_Get [] [(.t 30)]⟩,
    ⟨some 21, none, .mov (.t 31)⟩,
    ⟨some 32, none, .ext 0 (.t 21)⟩,
    ⟨some 33, none, .ext 1 (.t 21)⟩,
    ⟨some 8, none, .box (.c (.agg [.u 64 0, .u 64 0, .u 64 0, .u 64 0, .u 64 0, .u 64 0, .u 64 0, .u 64 0, .u 64 0, .u 64 0, .u 64 0, .u 64 0, .u 64 0, .u 64 0, .u 64 0, .u 64 0, .u 64 0, .u 64 0]))⟩,
    ⟨none, none, .stl 8 18 (.t 8) (.t 32)⟩,
    ⟨some 9, none, .mov (.t 33)⟩] [2, 7, 9]) (
  .seq (
  .reg [
    ⟨some 35, none, .mov (.t 7)⟩,
    ⟨some 36, none, .mov (.t 2)⟩,
    ⟨some 37, none, .cvu 8 (.t 36)⟩,
    ⟨some 38, none, .lit true 1 1 [.u 8 0] [(0, 1, (.t 37))]⟩,
    ⟨some 39, none, .b2s true (.t 38)⟩,
    ⟨some 40, none, .bin .add (.t 35) (.t 39)⟩,
    ⟨some 41, none, .call f_der_Get [] [(.t 40)]⟩,
    ⟨some 34, none, .mov (.t 41)⟩,
    ⟨some 42, none, .ext 0 (.t 34)⟩,
    ⟨some 43, none, .ext 1 (.t 34)⟩,
    ⟨some 10, none, .box (.c (.agg [.u 64 0, .u 64 0, .u 64 0, .u 64 0, .u 64 0, .u 64 0, .u 64 0, .u 64 0, .u 64 0, .u 64 0, .u 64 0, .u 64 0, .u 64 0, .u 64 0, .u 64 0, .u 64 0, .u 64 0, .u 64 0]))⟩,
    ⟨none, none, .stl 10 18 (.t 10) (.t 42)⟩,
    ⟨some 11, none, .mov (.t 43)⟩] [2, 7, 9, 11]) (
  .seq (
  .reg [
    ⟨some 44, none, .mov (.t 7)⟩,
    ⟨some 45, none, .s2b (.t 44)⟩,
    ⟨some 12, none, .mov (.t 45)⟩] [2, 9, 11, 12]) (
  .seq (
  .reg [
    ⟨some 46, none, .mov (.t 12)⟩,
    ⟨some 47, none, .mov (.t 12)⟩,
    ⟨some 48, none, .idxs 1 (.t 47) (.c (.i 0))⟩,
    ⟨some 49, none, .ld false none (.t 48)⟩,
    ⟨some 50, none, .mov (.t 2)⟩,
    ⟨some 51, none, .cvu 64 (.t 50)⟩,
    ⟨some 52, none, .bin .rem (.t 51) (.c (.u 64 255))⟩,
    ⟨some 53, none, .cvi (.t 52)⟩,
    ⟨some 54, none, .bin .add (.c (.i 1)) (.t 53)⟩,
    ⟨some 55, none, .cvu 8 (.t 54)⟩,
    ⟨some 56, none, .bin .xor (.t 49) (.t 55)⟩,
    ⟨some 57, none, .idxs 1 (.t 46) (.c (.i 0))⟩,
    ⟨none, none, .st 1 (.t 57) (.t 56)⟩] [9, 11, 12]) (
  .seq (
  .reg [
    ⟨some 59, none, .mov (.t 12)⟩,
    ⟨some 60, none, .b2s false (.t 59)⟩,
    ⟨some 61, none, .call f_der_Get [] [(.t 60)]⟩,
    ⟨some 58, none, .mov (.t 61)⟩,
    ⟨some 62, none, .ext 0 (.t 58)⟩,
    ⟨some 63, none, .ext 1 (.t 58)⟩,
    ⟨some 13, none, .box (.c (.agg [.u 64 0, .u 64 0, .u 64 0, .u 64 0, .u 64 0, .u 64 0, .u 64 0, .u 64 0, .u 64 0, .u 64 0, .u 64 0, .u 64 0, .u 64 0, .u 64 0, .u 64 0, .u 64 0, .u 64 0, .u 64 0]))⟩,
    ⟨none, none, .stl 13 18 (.t 13) (.t 62)⟩,
    ⟨some 14, none, .mov (.t 63)⟩] [9, 11, 14]) (
  .seq (
  .reg [
    ⟨some 64, none, .mov (.t 9)⟩,
    ⟨some 65, none, .call f_curvetlaw0_Num [] [(.t 64)]⟩,
    ⟨some 66, none, .bin .eql (.t 65) (.c (.i 2200))⟩,
    ⟨some 67, none, .mov (.t 66)⟩,
    ⟨some 68, (some (67, true)), .mov (.t 11)⟩,
    ⟨some 69, (some (67, true)), .call f_curvetlaw0_Num [] [(.t 68)]⟩,
    ⟨some 70, (some (67, true)), .bin .eql (.t 69) (.c (.i 2200))⟩,
    ⟨some 71, none, .pick (.t 67) (.t 70) (.c (.b false))⟩,
    ⟨some 72, none, .mov (.t 71)⟩,
    ⟨some 73, (some (72, true)), .mov (.t 14)⟩,
    ⟨some 74, (some (72, true)), .call f_curvetlaw0_Num [] [(.t 73)]⟩,
    ⟨some 75, (some (72, true)), .bin .eql (.t 74) (.c (.i 2200))⟩,
    ⟨some 76, none, .pick (.t 72) (.t 75) (.c (.b false))⟩,
    ⟨some 6, none, .mov (.t 76)⟩] [6]) (
  .ret))))))))))
def m_curvetlaw22_DerSpoilt : MFn := ⟨c_curvetlaw22_DerSpoilt, [.tmp 6], 0⟩

/-- curvet/curvetlaw22.DerLengths -/
def c_curvetlaw22_DerLengths : Stm :=
  .seq (
  .reg [
    ⟨some 1, none, .boxv (.t 0)⟩,
    ⟨some 2, none, .mov (.c (.b false))⟩] [1]) (
  .seq (
  .seq (
  .reg [
    ⟨some 7, none, .call f_curvetlaw22_awake [] []⟩,
    ⟨some 8, none, .un .not (.t 7)⟩] [1, 8]) (
  .cond (.t 8) (
   .seq (
   .reg [
     ⟨some 2, none, .mov (.c (.b false))⟩] [2]) (
   .ret)) (
   .reg [] [1]))) (
  .seq (
  .reg [
    ⟨some 9, none, .off 0 (.t 1)⟩,
    ⟨some 10, none, .ld true (some 9) (.t 9)⟩,
    ⟨some 11, none, .call f_nat_Bits [] [(.t 10)]⟩,
    ⟨some 12, none, .bin .quo (.t 11) (.c (.i 8))⟩,
    ⟨some 13, none, .bin .add (.t 12) (.c (.i 1))⟩,
    ⟨some 14, none, .off 9 (.t 1)⟩,
    ⟨some 15, none, .ld true (some 9) (.t 14)⟩,
    ⟨some 16, none, .call f_nat_Bits [] [(.t 15)]⟩,
    ⟨some 17, none, .bin .quo (.t 16) (.c (.i 8))⟩,
    ⟨some 18, none, .bin .add (.t 17) (.c (.i 1))⟩,
    ⟨some 3, none, .mov (.t 13)⟩,
    ⟨some 4, none, .mov (.t 18)⟩] [1, 3, 4]) (
  .seq (
  .reg [
    ⟨some 19, none, .mov (.t 3)⟩,
    ⟨some 20, none, .bin .add (.c (.i 4)) (.t 19)⟩,
    ⟨some 21, none, .bin .add (.t 20) (.c (.i 2))⟩,
    ⟨some 22, none, .mov (.t 4)⟩,
    ⟨some 23, none, .bin .add (.t 21) (.t 22)⟩,
    ⟨some 5, none, .mov (.t 23)⟩] [1, 3, 4, 5]) (
  .seq (
  .seq (
  .reg [
    ⟨some 24, none, .mov (.t 3)⟩,
    ⟨some 25, none, .mov (.t 4)⟩,
    ⟨some 26, none, .bin .add (.t 24) (.t 25)⟩,
    ⟨some 27, none, .bin .add (.t 26) (.c (.i 4))⟩,
    ⟨some 28, none, .bin .geq (.t 27) (.c (.i 128))⟩] [1, 3, 4, 5, 28]) (
  .cond (.t 28) (
   .reg [
     ⟨some 29, none, .mov (.t 5)⟩,
     ⟨some 30, none, .bin .add (.t 29) (.c (.i 1))⟩,
     ⟨some 5, none, .mov (.t 30)⟩] [1, 3, 4, 5]) (
   .reg [] [1, 3, 4, 5]))) (
  .seq (
  .reg [
    ⟨some 31, none, .ld true (some 18) (.t 1)⟩,
    ⟨some 32, none, .call f_der_Put [] [(.t 31)]⟩,
    ⟨some 6, none, .mov (.t 32)⟩] [3, 4, 5, 6]) (
  .seq (
  .reg [
    ⟨some 33, none, .mov (.t 6)⟩,
    ⟨some 34, none, .lens (.t 33)⟩,
    ⟨some 35, none, .mov (.t 5)⟩,
    ⟨some 36, none, .bin .eql (.t 34) (.t 35)⟩,
    ⟨some 37, none, .mov (.t 36)⟩,
    ⟨some 38, (some (37, true)), .mov (.t 6)⟩,
    ⟨some 39, (some (37, true)), .idxb (.t 38) (.c (.i 0))⟩,
    ⟨some 40, (some (37, true)), .bin .eql (.t 39) (.c (.u 8 48))⟩,
    ⟨some 41, none, .pick (.t 37) (.t 40) (.c (.b false))⟩,
    ⟨some 42, none, .mov (.t 41)⟩,
    ⟨some 43, (some (42, true)), .mov (.t 3)⟩,
    ⟨some 44, (some (42, true)), .mov (.t 4)⟩,
    ⟨some 45, (some (42, true)), .bin .add (.t 43) (.t 44)⟩,
    ⟨some 46, (some (42, true)), .bin .add (.t 45) (.c (.i 4))⟩,
    ⟨some 47, (some (42, true)), .bin .lss (.t 46) (.c (.i 128))⟩,
    ⟨some 48, (some (42, true)), .mov (.t 47)⟩,
    ⟨some 49, (some (48, true)), .mov (.t 6)⟩,
    ⟨some 50, (some (48, true)), .idxb (.t 49) (.c (.i 1))⟩,
    ⟨some 51, (some (48, true)), .cvi (.t 50)⟩,
    ⟨some 52, (some (48, true)), .mov (.t 3)⟩,
    ⟨some 53, (some (48, true)), .mov (.t 4)⟩,
    ⟨some 54, (some (48, true)), .bin .add (.t 52) (.t 53)⟩,
    ⟨some 55, (some (48, true)), .bin .add (.t 54) (.c (.i 4))⟩,
    ⟨some 56, (some (48, true)), .bin .eql (.t 51) (.t 55)⟩,
    ⟨some 57, (some (42, true)), .pick (.t 48) (.t 56) (.c (.b false))⟩,
    ⟨some 58, (some (42, true)), .mov (.t 57)⟩,
    ⟨some 59, (some (58, false)), .mov (.t 3)⟩,
    ⟨some 60, (some (58, false)), .mov (.t 4)⟩,
    ⟨some 61, (some (58, false)), .bin .add (.t 59) (.t 60)⟩,
    ⟨some 62, (some (58, false)), .bin .add (.t 61) (.c (.i 4))⟩,
    ⟨some 63, (some (58, false)), .bin .geq (.t 62) (.c (.i 128))⟩,
    ⟨some 64, (some (58, false)), .mov (.t 63)⟩,
    ⟨some 65, (some (64, true)), .mov (.t 6)⟩,
    ⟨some 66, (some (64, true)), .idxb (.t 65) (.c (.i 1))⟩,
    ⟨some 67, (some (64, true)), .bin .eql (.t 66) (.c (.u 8 129))⟩,
    ⟨some 68, (some (58, false)), .pick (.t 64) (.t 67) (.c (.b false))⟩,
    ⟨some 69, (some (58, false)), .mov (.t 68)⟩,
    ⟨some 70, (some (69, true)), .mov (.t 6)⟩,
    ⟨some 71, (some (69, true)), .idxb (.t 70) (.c (.i 2))⟩,
    ⟨some 72, (some (69, true)), .cvi (.t 71)⟩,
    ⟨some 73, (some (69, true)), .mov (.t 3)⟩,
    ⟨some 74, (some (69, true)), .mov (.t 4)⟩,
    ⟨some 75, (some (69, true)), .bin .add (.t 73) (.t 74)⟩,
    ⟨some 76, (some (69, true)), .bin .add (.t 75) (.c (.i 4))⟩,
    ⟨some 77, (some (69, true)), .bin .eql (.t 72) (.t 76)⟩,
    ⟨some 78, (some (58, false)), .pick (.t 69) (.t 77) (.c (.b false))⟩,
    ⟨some 79, (some (42, true)), .pick (.t 58) (.c (.b true)) (.t 78)⟩,
    ⟨some 80, none, .pick (.t 42) (.t 79) (.c (.b false))⟩,
    ⟨some 2, none, .mov (.t 80)⟩] [2]) (
  .ret)))))))
def m_curvetlaw22_DerLengths : MFn := ⟨c_curvetlaw22_DerLengths, [.tmp 2], 0⟩

/-- curvet/curvetlaw22.DerLoose -/
def c_curvetlaw22_DerLoose : Stm :=
  .seq (
  .reg [
    ⟨some 6, none, .mov (.c (.b false))⟩] [0, 1, 2]) (
  .seq (
  .seq (
  .reg [
    ⟨some 15, none, .call f_curvetlaw22_awake [] []⟩,
    ⟨some 16, none, .un .not (.t 15)⟩] [0, 1, 2, 16]) (
  .cond (.t 16) (
   .seq (
   .reg [
     ⟨some 6, none, .mov (.c (.b false))⟩] [6]) (
   .ret)) (
   .reg [] [0, 1, 2]))) (
  .seq (
  .reg [
    ⟨some 17, none, .mov (.t 0)⟩,
    ⟨some 18, none, .cvu 64 (.t 17)⟩,
    ⟨some 19, none, .bin .rem (.t 18) (.c (.u 64 127))⟩,
    ⟨some 20, none, .cvi (.t 19)⟩,
    ⟨some 21, none, .bin .add (.c (.i 1)) (.t 20)⟩,
    ⟨some 22, none, .cvu 8 (.t 21)⟩,
    ⟨some 23, none, .mov (.t 1)⟩,
    ⟨some 24, none, .cvu 64 (.t 23)⟩,
    ⟨some 25, none, .bin .rem (.t 24) (.c (.u 64 127))⟩,
    ⟨some 26, none, .cvi (.t 25)⟩,
    ⟨some 27, none, .bin .add (.c (.i 1)) (.t 26)⟩,
    ⟨some 28, none, .cvu 8 (.t 27)⟩,
    ⟨some 7, none, .mov (.t 22)⟩,
    ⟨some 8, none, .mov (.t 28)⟩] [2, 7, 8]) (
  .seq (
  .reg [
    ⟨some 29, none, .mov (.t 7)⟩,
    ⟨some 30, none, .lit true 1 1 [.u 8 0] [(0, 1, (.t 29))]⟩,
    ⟨some 31, none, .b2s true (.t 30)⟩,
    ⟨some 32, none, .bin .add (.c (.s [48, 6, 2, 1])) (.t 31)⟩,
    ⟨some 33, none, .bin .add (.t 32) (.c (.s [2, 1]))⟩,
    ⟨some 34, none, .mov (.t 8)⟩,
    ⟨some 35, none, .lit true 1 1 [.u 8 0] [(0, 1, (.t 34))]⟩,
    ⟨some 36, none, .b2s true (.t 35)⟩,
    ⟨some 37, none, .bin .add (.t 33) (.t 36)⟩,
    ⟨some 9, none, .mov (.t 37)⟩] [2, 7, 8, 9]) (
  .seq (
  .reg [
    ⟨some 38, none, .mov (.t 7)⟩,
    ⟨some 39, none, .lit true 1 1 [.u 8 0] [(0, 1, (.t 38))]⟩,
    ⟨some 40, none, .b2s true (.t 39)⟩,
    ⟨some 41, none, .bin .add (.c (.s [48, 129, 6, 2, 1])) (.t 40)⟩,
    ⟨some 42, none, .bin .add (.t 41) (.c (.s [2, 1]))⟩,
    ⟨some 43, none, .mov (.t 8)⟩,
    ⟨some 44, none, .lit true 1 1 [.u 8 0] [(0, 1, (.t 43))]⟩,
    ⟨some 45, none, .b2s true (.t 44)⟩,
    ⟨some 46, none, .bin .add (.t 42) (.t 45)⟩,
    ⟨some 47, none, .mov (.t 7)⟩,
    ⟨some 48, none, .lit true 1 1 [.u 8 0] [(0, 1, (.t 47))]⟩,
    ⟨some 49, none, .b2s true (.t 48)⟩,
    ⟨some 50, none, .bin .add (.c (.s [48, 7, 2, 2, 0])) (.t 49)⟩,
    ⟨some 51, none, .bin .add (.t 50) (.c (.s [2, 1]))⟩,
    ⟨some 52, none, .mov (.t 8)⟩,
    ⟨some 53, none, .lit true 1 1 [.u 8 0] [(0, 1, (.t 52))]⟩,
    ⟨some 54, none, .b2s true (.t 53)⟩,
    ⟨some 55, none, .bin .add (.t 51) (.t 54)⟩,
    ⟨some 56, none, .mov (.t 7)⟩,
    ⟨some 57, none, .bin .or (.t 56) (.c (.u 8 128))⟩,
    ⟨some 58, none, .lit true 1 1 [.u 8 0] [(0, 1, (.t 57))]⟩,
    ⟨some 59, none, .b2s true (.t 58)⟩,
    ⟨some 60, none, .bin .add (.c (.s [48, 6, 2, 1])) (.t 59)⟩,
    ⟨some 61, none, .bin .add (.t 60) (.c (.s [2, 1]))⟩,
    ⟨some 62, none, .mov (.t 8)⟩,
    ⟨some 63, none, .lit true 1 1 [.u 8 0] [(0, 1, (.t 62))]⟩,
    ⟨some 64, none, .b2s true (.t 63)⟩,
    ⟨some 65, none, .bin .add (.t 61) (.t 64)⟩,
    ⟨some 66, none, .mov (.t 8)⟩,
    ⟨some 67, none, .lit true 1 1 [.u 8 0] [(0, 1, (.t 66))]⟩,
    ⟨some 68, none, .b2s true (.t 67)⟩,
    ⟨some 69, none, .bin .add (.c (.s [48, 5, 2, 0, 2, 1])) (.t 68)⟩,
    ⟨some 70, none, .mov (.t 7)⟩,
    ⟨some 71, none, .lit true 1 1 [.u 8 0] [(0, 1, (.t 70))]⟩,
    ⟨some 72, none, .b2s true (.t 71)⟩,
    ⟨some 73, none, .bin .add (.c (.s [48, 3, 2, 1])) (.t 72)⟩,
    ⟨some 74, none, .mov (.t 7)⟩,
    ⟨some 75, none, .lit true 1 1 [.u 8 0] [(0, 1, (.t 74))]⟩,
    ⟨some 76, none, .b2s true (.t 75)⟩,
    ⟨some 77, none, .bin .add (.c (.s [49, 6, 2, 1])) (.t 76)⟩,
    ⟨some 78, none, .bin .add (.t 77) (.c (.s [2, 1]))⟩,
    ⟨some 79, none, .mov (.t 8)⟩,
    ⟨some 80, none, .lit true 1 1 [.u 8 0] [(0, 1, (.t 79))]⟩,
    ⟨some 81, none, .b2s true (.t 80)⟩,
    ⟨some 82, none, .bin .add (.t 78) (.t 81)⟩,
    ⟨some 83, none, .mov (.t 7)⟩,
    ⟨some 84, none, .lit true 1 1 [.u 8 0] [(0, 1, (.t 83))]⟩,
    ⟨some 85, none, .b2s true (.t 84)⟩,
    ⟨some 86, none, .bin .add (.c (.s [48, 6, 3, 1])) (.t 85)⟩,
    ⟨some 87, none, .bin .add (.t 86) (.c (.s [2, 1]))⟩,
    ⟨some 88, none, .mov (.t 8)⟩,
    ⟨some 89, none, .lit true 1 1 [.u 8 0] [(0, 1, (.t 88))]⟩,
    ⟨some 90, none, .b2s true (.t 89)⟩,
    ⟨some 91, none, .bin .add (.t 87) (.t 90)⟩,
    ⟨some 92, none, .mov (.t 7)⟩,
    ⟨some 93, none, .lit true 1 1 [.u 8 0] [(0, 1, (.t 92))]⟩,
    ⟨some 94, none, .b2s true (.t 93)⟩,
    ⟨some 95, none, .bin .add (.c (.s [48, 128, 2, 1])) (.t 94)⟩,
    ⟨some 96, none, .bin .add (.t 95) (.c (.s [2, 1]))⟩,
    ⟨some 97, none, .mov (.t 8)⟩,
    ⟨some 98, none, .lit true 1 1 [.u 8 0] [(0, 1, (.t 97))]⟩,
    ⟨some 99, none, .b2s true (.t 98)⟩,
    ⟨some 100, none, .bin .add (.t 96) (.t 99)⟩,
    ⟨some 101, none, .bin .add (.t 100) (.c (.s [0, 0]))⟩,
    ⟨some 102, none, .lit true 1 8 [.s [], .s [], .s [], .s [], .s [], .s [], .s [], .s []] [(0, 1, (.t 46)), (1, 1, (.t 55)), (2, 1, (.t 65)), (3, 1, (.t 69)), (4, 1, (.t 73)), (5, 1, (.t 82)), (6, 1, (.t 91)), (7, 1, (.t 101))]⟩,
    ⟨some 10, none, .mov (.t 102)⟩] [2, 7, 8, 9, 10]) (
  .seq (
  .reg [
    ⟨some 104, none, .mov (.t 9)⟩,
    ⟨some 105, none, .call f_der_Get [] [(.t 104)]⟩,
    ⟨some 103, none, .mov (.t 105)⟩,
    ⟨some 106, none, .ext 0 (.t 103)⟩,
    ⟨some 107, none, .ext 1 (.t 103)⟩,
    ⟨some 11, none, .box (.c (.agg [.u 64 0, .u 64 0, .u 64 0, .u 64 0, .u 64 0, .u 64 0, .u 64 0, .u 64 0, .u 64 0, .u 64 0, .u 64 0, .u 64 0, .u 64 0, .u 64 0, .u 64 0, .u 64 0, .u 64 0, .u 64 0]))⟩,
    ⟨none, none, .stl 11 18 (.t 11) (.t 106)⟩,
    ⟨some 12, none, .mov (.t 107)⟩] [2, 7, 8, 10, 11, 12]) (
  .seq (
  .reg [
    ⟨some 109, none, .mov (.t 10)⟩,
    ⟨some 110, none, .mov (.t 2)⟩,
    ⟨some 111, none, .cvu 64 (.t 110)⟩,
    ⟨some 112, none, .bin .rem (.t 111) (.c (.u 64 8))⟩,
    ⟨some 113, none, .idxs 1 (.t 109) (.t 112)⟩,
    ⟨some 114, none, .ld false none (.t 113)⟩,
    ⟨some 115, none, .call f_der_Get [] [(.t 114)]⟩,
    ⟨some 108, none, .mov (.t 115)⟩,
    ⟨some 116, none, .ext 0 (.t 108)⟩,
    ⟨some 117, none, .ext 1 (.t 108)⟩,
    ⟨some 13, none, .box (.c (.agg [.u 64 0, .u 64 0, .u 64 0, .u 64 0, .u 64 0, .u 64 0, .u 64 0, .u 64 0, .u 64 0, .u 64 0, .u 64 0, .u 64 0, .u 64 0, .u 64 0, .u 64 0, .u 64 0, .u 64 0, .u 64 0]))⟩,
    ⟨none, none, .stl 13 18 (.t 13) (.t 116)⟩,
    ⟨some 14, none, .mov (.t 117)⟩] [7, 8, 11, 12, 14]) (
  .seq (
  .reg [
    ⟨some 118, none, .mov (.t 12)⟩,
    ⟨some 119, none, .call f_curvetlaw0_Num [] [(.t 118)]⟩,
    ⟨some 120, none, .bin .eql (.t 119) (.c (.i 0))⟩,
    ⟨some 121, none, .mov (.t 120)⟩,
    ⟨some 122, (some (121, true)), .ldl 11 (some 18) (.t 11)⟩,
    ⟨some 123, (some (121, true)), .mov (.t 7)⟩,
    ⟨some 124, (some (121, true)), .cvu 64 (.t 123)⟩,
    ⟨some 125, (some (121, true)), .call f_curvetlaw0_One [] [(.t 124)]⟩,
    ⟨some 126, (some (121, true)), .mov (.t 8)⟩,
    ⟨some 127, (some (121, true)), .cvu 64 (.t 126)⟩,
    ⟨some 128, (some (121, true)), .call f_curvetlaw0_One [] [(.t 127)]⟩,
    ⟨some 129, (some (121, true)), .build [.u 64 0, .u 64 0, .u 64 0, .u 64 0, .u 64 0, .u 64 0, .u 64 0, .u 64 0, .u 64 0, .u 64 0, .u 64 0, .u 64 0, .u 64 0, .u 64 0, .u 64 0, .u 64 0, .u 64 0, .u 64 0] [(0, 9, (.t 125)), (9, 9, (.t 128))]⟩,
    ⟨some 130, (some (121, true)), .eqv (.agg [.u 64, .u 64, .u 64, .u 64, .u 64, .u 64, .u 64, .u 64, .u 64, .u 64, .u 64, .u 64, .u 64, .u 64, .u 64, .u 64, .u 64, .u 64]) false (.t 122) (.t 129)⟩,
    ⟨some 131, none, .pick (.t 121) (.t 130) (.c (.b false))⟩,
    ⟨some 132, none, .mov (.t 131)⟩,
    ⟨some 133, (some (132, true)), .mov (.t 14)⟩,
    ⟨some 134, (some (132, true)), .call f_curvetlaw0_Num [] [(.t 133)]⟩,
    ⟨some 135, (some (132, true)), .bin .eql (.t 134) (.c (.i 2200))⟩,
    ⟨some 136, none, .pick (.t 132) (.t 135) (.c (.b false))⟩,
    ⟨some 6, none, .mov (.t 136)⟩] [6]) (
  .ret))))))))
def m_curvetlaw22_DerLoose : MFn := ⟨c_curvetlaw22_DerLoose, [.tmp 6], 0⟩

/-- curvet/curvetlaw22.DerGreat -/
def c_curvetlaw22_DerGreat : Stm :=
  .seq (
  .reg [
    ⟨some 3, none, .boxv (.t 0)⟩,
    ⟨some 4, none, .boxv (.t 1)⟩,
    ⟨some 6, none, .mov (.c (.b false))⟩] [2, 3, 4]) (
  .seq (
  .seq (
  .reg [
    ⟨some 15, none, .call f_curvetlaw22_awake [] []⟩,
    ⟨some 16, none, .un .not (.t 15)⟩] [2, 3, 4, 16]) (
  .cond (.t 16) (
   .seq (
   .reg [
     ⟨some 6, none, .mov (.c (.b false))⟩] [6]) (
   .ret)) (
   .reg [] [2, 3, 4]))) (
  .seq (
  .reg [
    ⟨some 17, none, .ld true (some 9) (.t 3)⟩,
    ⟨some 18, none, .ld true (some 9) (.t 4)⟩,
    ⟨some 19, none, .build [.u 64 0, .u 64 0, .u 64 0, .u 64 0, .u 64 0, .u 64 0, .u 64 0, .u 64 0, .u 64 0, .u 64 0, .u 64 0, .u 64 0, .u 64 0, .u 64 0, .u 64 0, .u 64 0, .u 64 0, .u 64 0] [(0, 9, (.t 17)), (9, 9, (.t 18))]⟩,
    ⟨some 7, none, .box (.c (.agg [.u 64 0, .u 64 0, .u 64 0, .u 64 0, .u 64 0, .u 64 0, .u 64 0, .u 64 0, .u 64 0, .u 64 0, .u 64 0, .u 64 0, .u 64 0, .u 64 0, .u 64 0, .u 64 0, .u 64 0, .u 64 0]))⟩,
    ⟨none, none, .stl 7 18 (.t 7) (.t 19)⟩] [2, 7]) (
  .seq (
  .reg [
    ⟨some 20, none, .off 0 (.t 7)⟩,
    ⟨some 21, none, .off 0 (.t 20)⟩,
    ⟨some 22, none, .idx 9 1 (.t 21) (.c (.i 8))⟩,
    ⟨some 23, none, .ldl 7 none (.t 22)⟩,
    ⟨some 24, none, .bin .or (.t 23) (.c (.u 64 9223372036854775808))⟩,
    ⟨some 25, none, .off 0 (.t 7)⟩,
    ⟨some 26, none, .off 0 (.t 25)⟩,
    ⟨some 27, none, .idx 9 1 (.t 26) (.c (.i 8))⟩,
    ⟨none, none, .stl 7 1 (.t 27) (.t 24)⟩] [2, 7]) (
  .seq (
  .seq (
  .reg [
    ⟨some 28, none, .mov (.t 2)⟩,
    ⟨some 29, none, .un .not (.t 28)⟩] [2, 7, 29]) (
  .cond (.t 29) (
   .reg [
     ⟨some 30, none, .off 0 (.t 7)⟩,
     ⟨some 31, none, .off 0 (.t 30)⟩,
     ⟨some 32, none, .idx 9 1 (.t 31) (.c (.i 8))⟩,
     ⟨some 33, none, .ldl 7 none (.t 32)⟩,
     ⟨some 34, none, .bin .and (.t 33) (.c (.u 64 9223372036854775807))⟩,
     ⟨some 35, none, .bin .or (.t 34) (.c (.u 64 4611686018427387904))⟩,
     ⟨some 36, none, .off 0 (.t 7)⟩,
     ⟨some 37, none, .off 0 (.t 36)⟩,
     ⟨some 38, none, .idx 9 1 (.t 37) (.c (.i 8))⟩,
     ⟨none, none, .stl 7 1 (.t 38) (.t 35)⟩] [2, 7]) (
   .reg [] [2, 7]))) (
  .seq (
  .reg [
    ⟨some 39, none, .ldl 7 (some 18) (.t 7)⟩,
    ⟨some 40, none, .call f_der_Put [] [(.t 39)]⟩,
    ⟨some 8, none, .mov (.t 40)⟩] [2, 7, 8]) (
  .seq (
  .reg [
    ⟨some 42, none, .mov (.t 8)⟩,
    ⟨some 43, none, .call f_der_Get [] [(.t 42)]⟩,
    ⟨some 41, none, .mov (.t 43)⟩,
    ⟨some 44, none, .ext 0 (.t 41)⟩,
    ⟨some 45, none, .ext 1 (.t 41)⟩,
    ⟨some 9, none, .box (.c (.agg [.u 64 0, .u 64 0, .u 64 0, .u 64 0, .u 64 0, .u 64 0, .u 64 0, .u 64 0, .u 64 0, .u 64 0, .u 64 0, .u 64 0, .u 64 0, .u 64 0, .u 64 0, .u 64 0, .u 64 0, .u 64 0]))⟩,
    ⟨none, none, .stl 9 18 (.t 9) (.t 44)⟩,
    ⟨some 10, none, .mov (.t 45)⟩] [2, 7, 8, 9, 10]) (
  .seq (
  .reg [
    ⟨some 11, none, .mov (.c (.i 72))⟩] [2, 7, 8, 9, 10, 11]) (
  .seq (
  .seq (
  .reg [
    ⟨some 46, none, .mov (.t 2)⟩] [7, 8, 9, 10, 11, 46]) (
  .cond (.t 46) (
   .reg [
     ⟨some 11, none, .mov (.c (.i 73))⟩] [7, 8, 9, 10, 11]) (
   .reg [] [7, 8, 9, 10, 11]))) (
  .seq (
  .reg [
    ⟨some 47, none, .lit true 1 1 [.u 8 0] [(0, 1, (.c (.u 8 73)))]⟩,
    ⟨some 48, none, .b2s true (.t 47)⟩,
    ⟨some 49, none, .bin .add (.c (.s [2])) (.t 48)⟩,
    ⟨some 50, none, .bin .add (.t 49) (.c (.s [1]))⟩,
    ⟨some 51, none, .mks 1 1 [.u 8 0] (.c (.i 72)) (.c (.i 72))⟩,
    ⟨some 52, none, .b2s false (.t 51)⟩,
    ⟨some 53, none, .bin .add (.t 50) (.t 52)⟩,
    ⟨some 54, none, .bin .add (.t 53) (.c (.s [2, 1, 1]))⟩,
    ⟨some 12, none, .mov (.t 54)⟩] [7, 8, 9, 10, 11, 12]) (
  .seq (
  .reg [
    ⟨some 56, none, .mov (.t 12)⟩,
    ⟨some 57, none, .lens (.t 56)⟩,
    ⟨some 58, none, .cvu 8 (.t 57)⟩,
    ⟨some 59, none, .lit true 1 1 [.u 8 0] [(0, 1, (.t 58))]⟩,
    ⟨some 60, none, .b2s true (.t 59)⟩,
    ⟨some 61, none, .bin .add (.c (.s [48])) (.t 60)⟩,
    ⟨some 62, none, .mov (.t 12)⟩,
    ⟨some 63, none, .bin .add (.t 61) (.t 62)⟩,
    ⟨some 64, none, .call f_der_Get [] [(.t 63)]⟩,
    ⟨some 55, none, .mov (.t 64)⟩,
    ⟨some 65, none, .ext 0 (.t 55)⟩,
    ⟨some 66, none, .ext 1 (.t 55)⟩,
    ⟨some 13, none, .box (.c (.agg [.u 64 0, .u 64 0, .u 64 0, .u 64 0, .u 64 0, .u 64 0, .u 64 0, .u 64 0, .u 64 0, .u 64 0, .u 64 0, .u 64 0, .u 64 0, .u 64 0, .u 64 0, .u 64 0, .u 64 0, .u 64 0]))⟩,
    ⟨none, none, .stl 13 18 (.t 13) (.t 65)⟩,
    ⟨some 14, none, .mov (.t 66)⟩] [7, 8, 9, 10, 11, 14]) (
  .seq (
  .reg [
    ⟨some 67, none, .mov (.t 10)⟩,
    ⟨some 68, none, .call f_curvetlaw0_Num [] [(.t 67)]⟩,
    ⟨some 69, none, .bin .eql (.t 68) (.c (.i 0))⟩,
    ⟨some 70, none, .mov (.t 69)⟩,
    ⟨some 71, (some (70, true)), .ldl 9 (some 18) (.t 9)⟩,
    ⟨some 72, (some (70, true)), .ldl 7 (some 18) (.t 7)⟩,
    ⟨some 73, (some (70, true)), .eqv (.agg [.u 64, .u 64, .u 64, .u 64, .u 64, .u 64, .u 64, .u 64, .u 64, .u 64, .u 64, .u 64, .u 64, .u 64, .u 64, .u 64, .u 64, .u 64]) false (.t 71) (.t 72)⟩,
    ⟨some 74, none, .pick (.t 70) (.t 73) (.c (.b false))⟩,
    ⟨some 75, none, .mov (.t 74)⟩,
    ⟨some 76, (some (75, true)), .mov (.t 8)⟩,
    ⟨some 77, (some (75, true)), .lens (.t 76)⟩,
    ⟨some 78, (some (75, true)), .mov (.t 11)⟩,
    ⟨some 79, (some (75, true)), .bin .gtr (.t 77) (.t 78)⟩,
    ⟨some 80, none, .pick (.t 75) (.t 79) (.c (.b false))⟩,
    ⟨some 81, none, .mov (.t 80)⟩,
    ⟨some 82, (some (81, true)), .mov (.t 14)⟩,
    ⟨some 83, (some (81, true)), .call f_curvetlaw0_Num [] [(.t 82)]⟩,
    ⟨some 84, (some (81, true)), .bin .eql (.t 83) (.c (.i 2200))⟩,
    ⟨some 85, none, .pick (.t 81) (.t 84) (.c (.b false))⟩,
    ⟨some 6, none, .mov (.t 85)⟩] [6]) (
  .ret))))))))))))
def m_curvetlaw22_DerGreat : MFn := ⟨c_curvetlaw22_DerGreat, [.tmp 6], 0⟩

/-- curvet/der.Get -/
def c_der_Get : Stm :=
  .seq (
  .reg [
    ⟨some 2, none, .box (.c (.agg [.u 64 0, .u 64 0, .u 64 0, .u 64 0, .u 64 0, .u 64 0, .u 64 0, .u 64 0, .u 64 0, .u 64 0, .u 64 0, .u 64 0, .u 64 0, .u 64 0, .u 64 0, .u 64 0, .u 64 0, .u 64 0]))⟩,
    ⟨some 3, none, .mov (.c (.i 0))⟩] [0, 2]) (
  .seq (
  .reg [
    ⟨some 7, none, .mov (.t 0)⟩,
    ⟨some 8, none, .build [.s [], .b false] [(0, 1, (.t 7))]⟩,
    ⟨some 9, none, .boxh (.t 8)⟩,
    ⟨some 4, none, .mov (.t 9)⟩] [0, 2, 4]) (
  .seq (
  .reg [
    ⟨some 10, none, .mov (.t 4)⟩,
    ⟨some 11, none, .call f_der_reader_field [] [(.t 10), (.c (.i 48))]⟩,
    ⟨some 12, none, .build [.s [], .b false] [(0, 1, (.t 11))]⟩,
    ⟨some 13, none, .boxh (.t 12)⟩,
    ⟨some 5, none, .mov (.t 13)⟩] [0, 2, 4, 5]) (
  .seq (
  .reg [
    ⟨some 14, none, .mov (.t 5)⟩,
    ⟨some 15, none, .call f_der_reader_number [] [(.t 14)]⟩,
    ⟨some 16, none, .build [.u 64 0, .u 64 0, .u 64 0, .u 64 0, .u 64 0, .u 64 0, .u 64 0, .u 64 0, .u 64 0, .u 64 0, .u 64 0, .u 64 0, .u 64 0, .u 64 0, .u 64 0, .u 64 0, .u 64 0, .u 64 0] [(0, 9, (.t 15))]⟩,
    ⟨some 6, none, .box (.c (.agg [.u 64 0, .u 64 0, .u 64 0, .u 64 0, .u 64 0, .u 64 0, .u 64 0, .u 64 0, .u 64 0, .u 64 0, .u 64 0, .u 64 0, .u 64 0, .u 64 0, .u 64 0, .u 64 0, .u 64 0, .u 64 0]))⟩,
    ⟨none, none, .stl 6 18 (.t 6) (.t 16)⟩] [0, 2, 4, 5, 6]) (
  .seq (
  .reg [
    ⟨some 17, none, .mov (.t 5)⟩,
    ⟨some 18, none, .call f_der_reader_number [] [(.t 17)]⟩,
    ⟨some 19, none, .off 9 (.t 6)⟩,
    ⟨none, none, .stl 6 9 (.t 19) (.t 18)⟩] [0, 2, 4, 5, 6]) (
  .seq (
  .seq (
  .reg [
    ⟨some 20, none, .mov (.t 4)⟩,
    ⟨some 21, none, .nck (.t 20)⟩,
    ⟨some 22, none, .off 1 (.t 21)⟩,
    ⟨some 23, none, .ld false none (.t 22)⟩,
    ⟨some 24, none, .mov (.t 23)⟩,
    ⟨some 25, (some (24, false)), .mov (.t 5)⟩,
    ⟨some 26, (some (24, false)), .nck (.t 25)⟩,
    ⟨some 27, (some (24, false)), .off 1 (.t 26)⟩,
    ⟨some 28, (some (24, false)), .ld false none (.t 27)⟩,
    ⟨some 29, none, .pick (.t 24) (.c (.b true)) (.t 28)⟩,
    ⟨some 30, none, .mov (.t 29)⟩,
    ⟨some 31, (some (30, false)), .ldl 6 (some 18) (.t 6)⟩,
    ⟨some 32, (some (30, false)), .call f_der_Put [] [(.t 31)]⟩,
    ⟨some 33, (some (30, false)), .mov (.t 0)⟩,
    ⟨some 34, (some (30, false)), .bin .neq (.t 32) (.t 33)⟩,
    ⟨some 35, none, .pick (.t 30) (.c (.b true)) (.t 34)⟩] [2, 6, 35]) (
  .cond (.t 35) (
   .seq (
   .reg [
     ⟨some 36, none, .build [.u 64 0, .u 64 0, .u 64 0, .u 64 0, .u 64 0, .u 64 0, .u 64 0, .u 64 0, .u 64 0, .u 64 0, .u 64 0, .u 64 0, .u 64 0, .u 64 0, .u 64 0, .u 64 0, .u 64 0, .u 64 0] []⟩,
     ⟨none, none, .stl 2 18 (.t 2) (.t 36)⟩,
     ⟨some 3, none, .mov (.c (.i 2200))⟩] [2, 3]) (
   .ret)) (
   .reg [] [2, 6]))) (
  .seq (
  .reg [
    ⟨some 37, none, .ldl 6 (some 18) (.t 6)⟩,
    ⟨none, none, .stl 2 18 (.t 2) (.t 37)⟩,
    ⟨some 3, none, .mov (.c (.i 0))⟩] [2, 3]) (
  .ret)))))))
def m_der_Get : MFn := ⟨c_der_Get, [.cell 2 (some 18), .tmp 3], 0⟩

/-- curvet/curvetref13.Undo -/
def c_curvetref13_Undo : Stm :=
  .seq (
  .reg [
    ⟨some 2, none, .box (.c (.agg [.u 64 0, .u 64 0, .u 64 0, .u 64 0, .u 64 0, .u 64 0, .u 64 0, .u 64 0, .u 64 0, .u 64 0, .u 64 0, .u 64 0, .u 64 0, .u 64 0, .u 64 0, .u 64 0, .u 64 0, .u 64 0]))⟩,
    ⟨some 3, none, .mov (.c (.i 0))⟩] [0, 2]) (
  .seq (
  .reg [
    ⟨some 4, none, .mov (.c (.i 2))⟩] [0, 2, 4]) (
  .seq (
  .seq (
  .reg [
    ⟨some 11, none, .mov (.t 0)⟩,
    ⟨some 12, none, .lens (.t 11)⟩,
    ⟨some 13, none, .bin .gtr (.t 12) (.c (.i 1))⟩,
    ⟨some 14, none, .mov (.t 13)⟩,
    ⟨some 15, (some (14, true)), .mov (.t 0)⟩,
    ⟨some 16, (some (14, true)), .idxb (.t 15) (.c (.i 1))⟩,
    ⟨some 17, (some (14, true)), .bin .eql (.t 16) (.c (.u 8 129))⟩,
    ⟨some 18, none, .pick (.t 14) (.t 17) (.c (.b false))⟩] [0, 2, 4, 18]) (
  .cond (.t 18) (
   .reg [
     ⟨some 4, none, .mov (.c (.i 3))⟩] [0, 2, 4]) (
   .reg [] [0, 2, 4]))) (
  .seq (
  .reg [
    ⟨some 20, none, .mov (.t 0)⟩,
    ⟨some 21, none, .mov (.t 4)⟩,
    ⟨some 22, none, .call f_curvetref13_take [] [(.t 20), (.t 21)]⟩,
    ⟨some 19, none, .mov (.t 22)⟩,
    ⟨some 23, none, .ext 0 (.t 19)⟩,
    ⟨some 24, none, .ext 1 (.t 19)⟩,
    ⟨some 25, none, .ext 2 (.t 19)⟩,
    ⟨some 5, none, .mov (.t 23)⟩,
    ⟨some 6, none, .mov (.t 24)⟩,
    ⟨some 7, none, .mov (.t 25)⟩] [0, 2, 5, 6, 7]) (
  .seq (
  .seq (
  .reg [
    ⟨some 26, none, .mov (.t 7)⟩,
    ⟨some 27, none, .un .not (.t 26)⟩] [0, 2, 5, 6, 27]) (
  .cond (.t 27) (
   .seq (
   .reg [
     ⟨some 28, none, .build [.u 64 0, .u 64 0, .u 64 0, .u 64 0, .u 64 0, .u 64 0, .u 64 0, .u 64 0, .u 64 0, .u 64 0, .u 64 0, .u 64 0, .u 64 0, .u 64 0, .u 64 0, .u 64 0, .u 64 0, .u 64 0] []⟩,
     ⟨none, none, .stl 2 18 (.t 2) (.t 28)⟩,
     ⟨some 3, none, .mov (.c (.i 2200))⟩] [2, 3]) (
   .ret)) (
   .reg [] [0, 2, 5, 6]))) (
  .seq (
  .reg [
    ⟨some 30, none, .mov (.t 0)⟩,
    ⟨some 31, none, .mov (.t 6)⟩,
    ⟨some 32, none, .call f_curvetref13_take [] [(.t 30), (.t 31)]⟩,
    ⟨some 29, none, .mov (.t 32)⟩,
    ⟨some 33, none, .ext 0 (.t 29)⟩,
    ⟨some 34, none, .ext 1 (.t 29)⟩,
    ⟨some 35, none, .ext 2 (.t 29)⟩,
    ⟨some 8, none, .mov (.t 33)⟩,
    ⟨some 9, none, .mov (.t 34)⟩,
    ⟨some 10, none, .mov (.t 35)⟩] [0, 2, 5, 8, 10]) (
  .seq (
  .seq (
  .reg [
    ⟨some 36, none, .mov (.t 10)⟩,
    ⟨some 37, none, .un .not (.t 36)⟩,
    ⟨some 38, none, .mov (.t 37)⟩,
    ⟨some 39, (some (38, false)), .mov (.t 5)⟩,
    ⟨some 40, (some (38, false)), .call f_curvetref1_Bits [] [(.t 39)]⟩,
    ⟨some 41, (some (38, false)), .bin .gtr (.t 40) (.c (.i 576))⟩,
    ⟨some 42, none, .pick (.t 38) (.c (.b true)) (.t 41)⟩,
    ⟨some 43, none, .mov (.t 42)⟩,
    ⟨some 44, (some (43, false)), .mov (.t 8)⟩,
    ⟨some 45, (some (43, false)), .call f_curvetref1_Bits [] [(.t 44)]⟩,
    ⟨some 46, (some (43, false)), .bin .gtr (.t 45) (.c (.i 576))⟩,
    ⟨some 47, none, .pick (.t 43) (.c (.b true)) (.t 46)⟩,
    ⟨some 48, none, .mov (.t 47)⟩,
    ⟨some 49, (some (48, false)), .mov (.t 5)⟩,
    ⟨some 50, (some (48, false)), .mov (.t 8)⟩,
    ⟨some 51, (some (48, false)), .call f_curvetref13_Der [] [(.t 49), (.t 50)]⟩,
    ⟨some 52, (some (48, false)), .mov (.t 0)⟩,
    ⟨some 53, (some (48, false)), .bin .neq (.t 51) (.t 52)⟩,
    ⟨some 54, none, .pick (.t 48) (.c (.b true)) (.t 53)⟩] [2, 5, 8, 54]) (
  .cond (.t 54) (
   .seq (
   .reg [
     ⟨some 55, none, .build [.u 64 0, .u 64 0, .u 64 0, .u 64 0, .u 64 0, .u 64 0, .u 64 0, .u 64 0, .u 64 0, .u 64 0, .u 64 0, .u 64 0, .u 64 0, .u 64 0, .u 64 0, .u 64 0, .u 64 0, .u 64 0] []⟩,
     ⟨none, none, .stl 2 18 (.t 2) (.t 55)⟩,
     ⟨some 3, none, .mov (.c (.i 2200))⟩] [2, 3]) (
   .ret)) (
   .reg [] [2, 5, 8]))) (
  .seq (
  .reg [
    ⟨some 56, none, .mov (.t 5)⟩,
    ⟨some 57, none, .call f_curvetref1_Nat [] [(.t 56)]⟩,
    ⟨some 58, none, .mov (.t 8)⟩,
    ⟨some 59, none, .call f_curvetref1_Nat [] [(.t 58)]⟩,
    ⟨some 60, none, .build [.u 64 0, .u 64 0, .u 64 0, .u 64 0, .u 64 0, .u 64 0, .u 64 0, .u 64 0, .u 64 0, .u 64 0, .u 64 0, .u 64 0, .u 64 0, .u 64 0, .u 64 0, .u 64 0, .u 64 0, .u 64 0] [(0, 9, (.t 57)), (9, 9, (.t 59))]⟩,
    ⟨none, none, .stl 2 18 (.t 2) (.t 60)⟩,
    ⟨some 3, none, .mov (.c (.i 0))⟩] [2, 3]) (
  .ret))))))))
def m_curvetref13_Undo : MFn := ⟨c_curvetref13_Undo, [.cell 2 (some 18), .tmp 3], 0⟩

/-- curvet/der.Put -/
def c_der_Put : Stm :=
  .seq (
  .reg [
    ⟨some 1, none, .boxv (.t 0)⟩,
    ⟨some 2, none, .mov (.c (.s []))⟩] [1]) (
  .seq (
  .reg [
    ⟨some 3, none, .off 0 (.t 1)⟩,
    ⟨some 4, none, .ld true (some 9) (.t 3)⟩,
    ⟨some 5, none, .call f_der_number [] [(.t 4)]⟩,
    ⟨some 6, none, .call f_der_field [] [(.c (.u 8 2)), (.t 5)]⟩,
    ⟨some 7, none, .off 9 (.t 1)⟩,
    ⟨some 8, none, .ld true (some 9) (.t 7)⟩,
    ⟨some 9, none, .call f_der_number [] [(.t 8)]⟩,
    ⟨some 10, none, .call f_der_field [] [(.c (.u 8 2)), (.t 9)]⟩,
    ⟨some 11, none, .bin .add (.t 6) (.t 10)⟩,
    ⟨some 12, none, .call f_der_field [] [(.c (.u 8 48)), (.t 11)]⟩,
    ⟨some 2, none, .mov (.t 12)⟩] [2]) (
  .ret))
def m_der_Put : MFn := ⟨c_der_Put, [.tmp 2], 0⟩

/-- curvet/curvetref13.Der -/
def c_curvetref13_Der : Stm :=
  .seq (
  .reg [
    ⟨some 4, none, .mov (.c (.s []))⟩] [0, 1]) (
  .seq (
  .reg [
    ⟨some 6, none, .mov (.t 0)⟩,
    ⟨some 7, none, .call f_curvetref13_number [] [(.t 6)]⟩,
    ⟨some 8, none, .mov (.t 1)⟩,
    ⟨some 9, none, .call f_curvetref13_number [] [(.t 8)]⟩,
    ⟨some 10, none, .bin .add (.t 7) (.t 9)⟩,
    ⟨some 5, none, .mov (.t 10)⟩] [5]) (
  .seq (
  .seq (
  .reg [
    ⟨some 11, none, .mov (.t 5)⟩,
    ⟨some 12, none, .lens (.t 11)⟩,
    ⟨some 13, none, .bin .lss (.t 12) (.c (.i 128))⟩] [5, 13]) (
  .cond (.t 13) (
   .seq (
   .reg [
     ⟨some 14, none, .mov (.t 5)⟩,
     ⟨some 15, none, .lens (.t 14)⟩,
     ⟨some 16, none, .cvu 8 (.t 15)⟩,
     ⟨some 17, none, .lit true 1 1 [.u 8 0] [(0, 1, (.t 16))]⟩,
     ⟨some 18, none, .b2s true (.t 17)⟩,
     ⟨some 19, none, .bin .add (.c (.s [48])) (.t 18)⟩,
     ⟨some 20, none, .mov (.t 5)⟩,
     ⟨some 21, none, .bin .add (.t 19) (.t 20)⟩,
     ⟨some 4, none, .mov (.t 21)⟩] [4]) (
   .ret)) (
   .reg [] [5]))) (
  .seq (
  .reg [
    ⟨some 22, none, .mov (.t 5)⟩,
    ⟨some 23, none, .lens (.t 22)⟩,
    ⟨some 24, none, .cvu 8 (.t 23)⟩,
    ⟨some 25, none, .lit true 1 1 [.u 8 0] [(0, 1, (.t 24))]⟩,
    ⟨some 26, none, .b2s true (.t 25)⟩,
    ⟨some 27, none, .bin .add (.c (.s [48, 129])) (.t 26)⟩,
    ⟨some 28, none, .mov (.t 5)⟩,
    ⟨some 29, none, .bin .add (.t 27) (.t 28)⟩,
    ⟨some 4, none, .mov (.t 29)⟩] [4]) (
  .ret))))
def m_curvetref13_Der : MFn := ⟨c_curvetref13_Der, [.tmp 4], 0⟩

/-- curvet/curvetref1.From -/
def c_curvetref1_From : Stm :=
  .seq (
  .reg [
    ⟨some 1, none, .boxv (.t 0)⟩,
    ⟨some 2, none, .mov (.c (.vs 0 []))⟩] [1]) (
  .seq (
  .reg [
    ⟨some 5, none, .mks 1 4 [.u 32 0] (.c (.i 18)) (.c (.i 18))⟩,
    ⟨some 3, none, .mov (.t 5)⟩] [1, 3]) (
  .seq (
  .seq (
  .reg [
    ⟨some 4, none, .mov (.c (.i 0))⟩] [1, 3, 4]) (
  .block 0 (
   .loop [1, 3, 4] (
    .seq (
    .seq (
    .reg [
      ⟨some 6, none, .mov (.t 4)⟩,
      ⟨some 7, none, .bin .lss (.t 6) (.c (.i 9))⟩] [1, 3, 4, 7]) (
    .cond (.t 7) (
     .reg [] [1, 3, 4]) (
     .exit 0 [3]))) (
    .seq (
    .block 1 (
     .seq (
     .reg [
       ⟨some 10, none, .mov (.t 3)⟩,
       ⟨some 11, none, .mov (.t 4)⟩,
       ⟨some 12, none, .bin .mul (.c (.i 2)) (.t 11)⟩,
       ⟨some 13, none, .mov (.t 4)⟩,
       ⟨some 14, none, .off 0 (.t 1)⟩,
       ⟨some 15, none, .idx 9 1 (.t 14) (.t 13)⟩,
       ⟨some 16, none, .ld true none (.t 15)⟩,
       ⟨some 17, none, .bin .and (.t 16) (.c (.u 64 4294967295))⟩,
       ⟨some 18, none, .cvu 32 (.t 17)⟩,
       ⟨some 19, none, .idxs 1 (.t 10) (.t 12)⟩,
       ⟨none, none, .st 1 (.t 19) (.t 18)⟩] [1, 3, 4]) (
     .reg [
       ⟨some 20, none, .mov (.t 3)⟩,
       ⟨some 21, none, .mov (.t 4)⟩,
       ⟨some 22, none, .bin .mul (.c (.i 2)) (.t 21)⟩,
       ⟨some 23, none, .bin .add (.t 22) (.c (.i 1))⟩,
       ⟨some 24, none, .mov (.t 4)⟩,
       ⟨some 25, none, .off 0 (.t 1)⟩,
       ⟨some 26, none, .idx 9 1 (.t 25) (.t 24)⟩,
       ⟨some 27, none, .ld true none (.t 26)⟩,
       ⟨some 28, none, .bin .shr (.t 27) (.c (.u 64 32))⟩,
       ⟨some 29, none, .cvu 32 (.t 28)⟩,
       ⟨some 30, none, .idxs 1 (.t 20) (.t 23)⟩,
       ⟨none, none, .st 1 (.t 30) (.t 29)⟩] [1, 3, 4]))) (
    .reg [
      ⟨some 8, none, .mov (.t 4)⟩,
      ⟨some 9, none, .bin .add (.t 8) (.c (.i 1))⟩,
      ⟨some 4, none, .mov (.t 9)⟩] [1, 3, 4])))))) (
  .seq (
  .reg [
    ⟨some 31, none, .mov (.t 3)⟩,
    ⟨some 32, none, .call f_curvetref1_trim [] [(.t 31)]⟩,
    ⟨some 2, none, .mov (.t 32)⟩] [2]) (
  .ret))))
def m_curvetref1_From : MFn := ⟨c_curvetref1_From, [.tmp 2], 0⟩

/-- curvet/curvetlaw0.Num -/
def c_curvetlaw0_Num : Stm :=
  .seq (
  .reg [
    ⟨some 2, none, .mov (.c (.i 0))⟩] [0]) (
  .seq (
  .reg [
    ⟨some 3, none, .mov (.t 0)⟩,
    ⟨some 2, none, .mov (.t 3)⟩] [2]) (
  .ret))
def m_curvetlaw0_Num : MFn := ⟨c_curvetlaw0_Num, [.tmp 2], 0⟩

/-- curvet/curvetlaw22.awake -/
def c_curvetlaw22_awake : Stm :=
  .seq (
  .reg [
    ⟨some 0, none, .mov (.c (.b false))⟩] []) (
  .seq (
  .reg [
    ⟨some 6, none, .call f_curvetlaw0_One [] [(.c (.u 64 128))]⟩,
    ⟨some 7, none, .call f_curvetlaw0_One [] [(.c (.u 64 0))]⟩,
    ⟨some 8, none, .build [.u 64 0, .u 64 0, .u 64 0, .u 64 0, .u 64 0, .u 64 0, .u 64 0, .u 64 0, .u 64 0, .u 64 0, .u 64 0, .u 64 0, .u 64 0, .u 64 0, .u 64 0, .u 64 0, .u 64 0, .u 64 0] [(0, 9, (.t 6)), (9, 9, (.t 7))]⟩,
    ⟨some 9, none, .call f_der_Put [] [(.t 8)]⟩,
    ⟨some 1, none, .mov (.t 9)⟩] [1]) (
  .seq (
  .reg [
    ⟨some 11, none, .mov (.t 1)⟩,
    ⟨some 12, none, .call f_der_Get [] [(.t 11)]⟩,
    ⟨some 10, none, .mov (.t 12)⟩,
    ⟨some 13, none, .ext 0 (.t 10)⟩,
    ⟨some 14, none, .ext 1 (.t 10)⟩,
    ⟨some 2, none, .box (.c (.agg [.u 64 0, .u 64 0, .u 64 0, .u 64 0, .u 64 0, .u 64 0, .u 64 0, .u 64 0, .u 64 0, .u 64 0, .u 64 0, .u 64 0, .u 64 0, .u 64 0, .u 64 0, .u 64 0, .u 64 0, .u 64 0]))⟩,
    ⟨none, none, .stl 2 18 (.t 2) (.t 13)⟩,
    ⟨some 3, none, .mov (.t 14)⟩] [1, 2, 3]) (
  .seq (
  .reg [
    ⟨some 16, none, .call f_der_Get [] [(.c (.s [48, 6, 2, 1, 128, 2, 1, 0]))]⟩,
    ⟨some 15, none, .mov (.t 16)⟩,
    ⟨some 17, none, .ext 0 (.t 15)⟩,
    ⟨some 18, none, .ext 1 (.t 15)⟩,
    ⟨some 4, none, .box (.c (.agg [.u 64 0, .u 64 0, .u 64 0, .u 64 0, .u 64 0, .u 64 0, .u 64 0, .u 64 0, .u 64 0, .u 64 0, .u 64 0, .u 64 0, .u 64 0, .u 64 0, .u 64 0, .u 64 0, .u 64 0, .u 64 0]))⟩,
    ⟨none, none, .stl 4 18 (.t 4) (.t 17)⟩,
    ⟨some 5, none, .mov (.t 18)⟩] [1, 2, 3, 5]) (
  .seq (
  .reg [
    ⟨some 19, none, .mov (.t 1)⟩,
    ⟨some 20, none, .bin .eql (.t 19) (.c (.s [48, 7, 2, 2, 0, 128, 2, 1, 0]))⟩,
    ⟨some 21, none, .mov (.t 20)⟩,
    ⟨some 22, (some (21, true)), .ldl 2 (some 18) (.t 2)⟩,
    ⟨some 23, (some (21, true)), .call f_curvetlaw0_One [] [(.c (.u 64 128))]⟩,
    ⟨some 24, (some (21, true)), .build [.u 64 0, .u 64 0, .u 64 0, .u 64 0, .u 64 0, .u 64 0, .u 64 0, .u 64 0, .u 64 0, .u 64 0, .u 64 0, .u 64 0, .u 64 0, .u 64 0, .u 64 0, .u 64 0, .u 64 0, .u 64 0] [(0, 9, (.t 23))]⟩,
    ⟨some 25, (some (21, true)), .eqv (.agg [.u 64, .u 64, .u 64, .u 64, .u 64, .u 64, .u 64, .u 64, .u 64, .u 64, .u 64, .u 64, .u 64, .u 64, .u 64, .u 64, .u 64, .u 64]) false (.t 22) (.t 24)⟩,
    ⟨some 26, none, .pick (.t 21) (.t 25) (.c (.b false))⟩,
    ⟨some 27, none, .mov (.t 26)⟩,
    ⟨some 28, (some (27, true)), .mov (.t 3)⟩,
    ⟨some 29, (some (27, true)), .call f_curvetlaw0_Num [] [(.t 28)]⟩,
    ⟨some 30, (some (27, true)), .bin .eql (.t 29) (.c (.i 0))⟩,
    ⟨some 31, none, .pick (.t 27) (.t 30) (.c (.b false))⟩,
    ⟨some 32, none, .mov (.t 31)⟩,
    ⟨some 33, (some (32, true)), .mov (.t 5)⟩,
    ⟨some 34, (some (32, true)), .call f_curvetlaw0_Num [] [(.t 33)]⟩,
    ⟨some 35, (some (32, true)), .bin .eql (.t 34) (.c (.i 2200))⟩,
    ⟨some 36, none, .pick (.t 32) (.t 35) (.c (.b false))⟩,
    ⟨some 0, none, .mov (.t 36)⟩] [0]) (
  .ret)))))
def m_curvetlaw22_awake : MFn := ⟨c_curvetlaw22_awake, [.tmp 0], 0⟩

/-- curvet/nat.Bits -/
def c_nat_Bits : Stm :=
  .seq (
  .reg [
    ⟨some 1, none, .boxv (.t 0)⟩,
    ⟨some 2, none, .mov (.c (.i 0))⟩] [1]) (
  .seq (
  .reg [
    ⟨some 4, none, .call f_nat_used [] [(.t 1)]⟩,
    ⟨some 3, none, .mov (.t 4)⟩] [1, 3]) (
  .seq (
  .seq (
  .reg [
    ⟨some 5, none, .mov (.t 3)⟩,
    ⟨some 6, none, .bin .eql (.t 5) (.c (.i 0))⟩] [1, 3, 6]) (
  .cond (.t 6) (
   .seq (
   .reg [
     ⟨some 2, none, .mov (.c (.i 0))⟩] [2]) (
   .ret)) (
   .reg [] [1, 3]))) (
  .seq (
  .reg [
    ⟨some 7, none, .mov (.t 3)⟩,
    ⟨some 8, none, .bin .sub (.t 7) (.c (.i 1))⟩,
    ⟨some 9, none, .bin .mul (.t 8) (.c (.i 64))⟩,
    ⟨some 10, none, .mov (.t 3)⟩,
    ⟨some 11, none, .bin .sub (.t 10) (.c (.i 1))⟩,
    ⟨some 12, none, .off 0 (.t 1)⟩,
    ⟨some 13, none, .idx 9 1 (.t 12) (.t 11)⟩,
    ⟨some 14, none, .ld true none (.t 13)⟩,
    ⟨some 15, none, .call f_bits_Len64 [] [(.t 14)]⟩,
    ⟨some 16, none, .bin .add (.t 9) (.t 15)⟩,
    ⟨some 2, none, .mov (.t 16)⟩] [2]) (
  .ret))))
def m_nat_Bits : MFn := ⟨c_nat_Bits, [.tmp 2], 0⟩

/-- curvet/curvetlaw0.One -/
def c_curvetlaw0_One : Stm :=
  .seq (
  .reg [
    ⟨some 2, none, .box (.c (.agg [.u 64 0, .u 64 0, .u 64 0, .u 64 0, .u 64 0, .u 64 0, .u 64 0, .u 64 0, .u 64 0]))⟩] [0, 2]) (
  .seq (
  .reg [
    ⟨some 3, none, .box (.c (.agg [.u 64 0, .u 64 0, .u 64 0, .u 64 0, .u 64 0, .u 64 0, .u 64 0, .u 64 0, .u 64 0]))⟩] [0, 2, 3]) (
  .seq (
  .reg [
    ⟨some 4, none, .mov (.t 0)⟩,
    ⟨some 5, none, .off 0 (.t 3)⟩,
    ⟨some 6, none, .idx 9 1 (.t 5) (.c (.i 0))⟩,
    ⟨none, none, .stl 3 1 (.t 6) (.t 4)⟩] [2, 3]) (
  .seq (
  .reg [
    ⟨some 7, none, .ldl 3 (some 9) (.t 3)⟩,
    ⟨none, none, .stl 2 9 (.t 2) (.t 7)⟩] [2]) (
  .ret))))
def m_curvetlaw0_One : MFn := ⟨c_curvetlaw0_One, [.cell 2 (some 9)], 0⟩

/-- (*curvet/der.reader).field -/
def c_der_reader_field : Stm :=
  .seq (
  .reg [
    ⟨some 4, none, .mov (.c (.s []))⟩] [0, 1]) (
  .seq (
  .seq (
  .reg [
    ⟨some 6, none, .mov (.t 0)⟩,
    ⟨some 7, none, .call f_der_reader_byte [] [(.t 6)]⟩,
    ⟨some 8, none, .mov (.t 1)⟩,
    ⟨some 9, none, .bin .neq (.t 7) (.t 8)⟩] [0, 9]) (
  .cond (.t 9) (
   .reg [
     ⟨some 10, none, .mov (.t 0)⟩,
     ⟨some 11, none, .nck (.t 10)⟩,
     ⟨some 12, none, .off 1 (.t 11)⟩,
     ⟨none, none, .st 1 (.t 12) (.c (.b true))⟩] [0]) (
   .reg [] [0]))) (
  .seq (
  .reg [
    ⟨some 13, none, .mov (.t 0)⟩,
    ⟨some 14, none, .call f_der_reader_byte [] [(.t 13)]⟩,
    ⟨some 5, none, .mov (.t 14)⟩] [0, 5]) (
  .seq (
  .seq (
  .reg [
    ⟨some 15, none, .mov (.t 5)⟩,
    ⟨some 16, none, .bin .eql (.t 15) (.c (.i 129))⟩] [0, 5, 16]) (
  .cond (.t 16) (
   .reg [
     ⟨some 17, none, .mov (.t 0)⟩,
     ⟨some 18, none, .call f_der_reader_byte [] [(.t 17)]⟩,
     ⟨some 5, none, .mov (.t 18)⟩] [0, 5]) (
   .reg [] [0, 5]))) (
  .seq (
  .reg [
    ⟨some 19, none, .mov (.t 0)⟩,
    ⟨some 20, none, .mov (.t 5)⟩,
    ⟨some 21, none, .call f_der_reader_bytes [] [(.t 19), (.t 20)]⟩,
    ⟨some 4, none, .mov (.t 21)⟩] [4]) (
  .ret)))))
def m_der_reader_field : MFn := ⟨c_der_reader_field, [.tmp 4], 0⟩

/-- (*curvet/der.reader).number -/
def c_der_reader_number : Stm :=
  .seq (
  .reg [
    ⟨some 2, none, .box (.c (.agg [.u 64 0, .u 64 0, .u 64 0, .u 64 0, .u 64 0, .u 64 0, .u 64 0, .u 64 0, .u 64 0]))⟩] [0, 2]) (
  .seq (
  .reg [
    ⟨some 6, none, .mov (.t 0)⟩,
    ⟨some 7, none, .call f_der_reader_field [] [(.t 6), (.c (.i 2))]⟩,
    ⟨some 3, none, .mov (.t 7)⟩] [0, 2, 3]) (
  .seq (
  .seq (
  .reg [
    ⟨some 8, none, .mov (.t 3)⟩,
    ⟨some 9, none, .lens (.t 8)⟩,
    ⟨some 10, none, .bin .gtr (.t 9) (.c (.i 1))⟩,
    ⟨some 11, none, .mov (.t 10)⟩,
    ⟨some 12, (some (11, true)), .mov (.t 3)⟩,
    ⟨some 13, (some (11, true)), .idxb (.t 12) (.c (.i 0))⟩,
    ⟨some 14, (some (11, true)), .bin .eql (.t 13) (.c (.u 8 0))⟩,
    ⟨some 15, none, .pick (.t 11) (.t 14) (.c (.b false))⟩] [0, 2, 3, 15]) (
  .cond (.t 15) (
   .reg [
     ⟨some 16, none, .mov (.t 3)⟩,
     ⟨some 17, none, .sls (.t 16) (some (.c (.i 1))) none⟩,
     ⟨some 3, none, .mov (.t 17)⟩] [0, 2, 3]) (
   .reg [] [0, 2, 3]))) (
  .seq (
  .reg [
    ⟨some 19, none, .mov (.t 3)⟩,
    ⟨some 20, none, .call f_nat_Of [] [(.t 19)]⟩,
    ⟨some 18, none, .mov (.t 20)⟩,
    ⟨some 21, none, .ext 0 (.t 18)⟩,
    ⟨some 22, none, .ext 1 (.t 18)⟩,
    ⟨some 4, none, .box (.c (.agg [.u 64 0, .u 64 0, .u 64 0, .u 64 0, .u 64 0, .u 64 0, .u 64 0, .u 64 0, .u 64 0]))⟩,
    ⟨none, none, .stl 4 9 (.t 4) (.t 21)⟩,
    ⟨some 5, none, .mov (.t 22)⟩] [0, 2, 4, 5]) (
  .seq (
  .seq (
  .reg [
    ⟨some 23, none, .mov (.t 5)⟩,
    ⟨some 24, none, .bin .neq (.t 23) (.c (.i 0))⟩] [0, 2, 4, 24]) (
  .cond (.t 24) (
   .reg [
     ⟨some 25, none, .mov (.t 0)⟩,
     ⟨some 26, none, .nck (.t 25)⟩,
     ⟨some 27, none, .off 1 (.t 26)⟩,
     ⟨none, none, .st 1 (.t 27) (.c (.b true))⟩] [2, 4]) (
   .reg [] [2, 4]))) (
  .seq (
  .reg [
    ⟨some 28, none, .ldl 4 (some 9) (.t 4)⟩,
    ⟨none, none, .stl 2 9 (.t 2) (.t 28)⟩] [2]) (
  .ret))))))
def m_der_reader_number : MFn := ⟨c_der_reader_number, [.cell 2 (some 9)], 0⟩

/-- curvet/curvetref13.take -/
def c_curvetref13_take : Stm :=
  .seq (
  .reg [
    ⟨some 4, none, .mov (.c (.vs 0 []))⟩,
    ⟨some 5, none, .mov (.c (.i 0))⟩,
    ⟨some 6, none, .mov (.c (.b false))⟩] [0, 1]) (
  .seq (
  .seq (
  .reg [
    ⟨some 8, none, .mov (.t 1)⟩,
    ⟨some 9, none, .bin .add (.t 8) (.c (.i 2))⟩,
    ⟨some 10, none, .mov (.t 0)⟩,
    ⟨some 11, none, .lens (.t 10)⟩,
    ⟨some 12, none, .bin .gtr (.t 9) (.t 11)⟩,
    ⟨some 13, none, .mov (.t 12)⟩,
    ⟨some 14, (some (13, false)), .mov (.t 0)⟩,
    ⟨some 15, (some (13, false)), .mov (.t 1)⟩,
    ⟨some 16, (some (13, false)), .idxb (.t 14) (.t 15)⟩,
    ⟨some 17, (some (13, false)), .bin .neq (.t 16) (.c (.u 8 2))⟩,
    ⟨some 18, none, .pick (.t 13) (.c (.b true)) (.t 17)⟩] [0, 1, 18]) (
  .cond (.t 18) (
   .seq (
   .reg [
     ⟨some 4, none, .mov (.c (.vs 0 []))⟩,
     ⟨some 5, none, .mov (.c (.i 0))⟩,
     ⟨some 6, none, .mov (.c (.b false))⟩] [4, 5, 6]) (
   .ret)) (
   .reg [] [0, 1]))) (
  .seq (
  .reg [
    ⟨some 19, none, .mov (.t 0)⟩,
    ⟨some 20, none, .mov (.t 1)⟩,
    ⟨some 21, none, .bin .add (.t 20) (.c (.i 1))⟩,
    ⟨some 22, none, .idxb (.t 19) (.t 21)⟩,
    ⟨some 23, none, .cvi (.t 22)⟩,
    ⟨some 7, none, .mov (.t 23)⟩] [0, 1, 7]) (
  .seq (
  .seq (
  .reg [
    ⟨some 24, none, .mov (.t 7)⟩,
    ⟨some 25, none, .bin .lss (.t 24) (.c (.i 1))⟩,
    ⟨some 26, none, .mov (.t 25)⟩,
    ⟨some 27, (some (26, false)), .mov (.t 7)⟩,
    ⟨some 28, (some (26, false)), .bin .gtr (.t 27) (.c (.i 73))⟩,
    ⟨some 29, none, .pick (.t 26) (.c (.b true)) (.t 28)⟩,
    ⟨some 30, none, .mov (.t 29)⟩,
    ⟨some 31, (some (30, false)), .mov (.t 1)⟩,
    ⟨some 32, (some (30, false)), .bin .add (.t 31) (.c (.i 2))⟩,
    ⟨some 33, (some (30, false)), .mov (.t 7)⟩,
    ⟨some 34, (some (30, false)), .bin .add (.t 32) (.t 33)⟩,
    ⟨some 35, (some (30, false)), .mov (.t 0)⟩,
    ⟨some 36, (some (30, false)), .lens (.t 35)⟩,
    ⟨some 37, (some (30, false)), .bin .gtr (.t 34) (.t 36)⟩,
    ⟨some 38, none, .pick (.t 30) (.c (.b true)) (.t 37)⟩] [0, 1, 7, 38]) (
  .cond (.t 38) (
   .seq (
   .reg [
     ⟨some 4, none, .mov (.c (.vs 0 []))⟩,
     ⟨some 5, none, .mov (.c (.i 0))⟩,
     ⟨some 6, none, .mov (.c (.b false))⟩] [4, 5, 6]) (
   .ret)) (
   .reg [] [0, 1, 7]))) (
  .seq (
  .reg [
    ⟨some 39, none, .mov (.t 0)⟩,
    ⟨some 40, none, .mov (.t 1)⟩,
    ⟨some 41, none, .bin .add (.t 40) (.c (.i 2))⟩,
    ⟨some 42, none, .mov (.t 1)⟩,
    ⟨some 43, none, .bin .add (.t 42) (.c (.i 2))⟩,
    ⟨some 44, none, .mov (.t 7)⟩,
    ⟨some 45, none, .bin .add (.t 43) (.t 44)⟩,
    ⟨some 46, none, .sls (.t 39) (some (.t 41)) (some (.t 45))⟩,
    ⟨some 47, none, .call f_curvetref1_Read [] [(.t 46)]⟩,
    ⟨some 48, none, .mov (.t 1)⟩,
    ⟨some 49, none, .bin .add (.t 48) (.c (.i 2))⟩,
    ⟨some 50, none, .mov (.t 7)⟩,
    ⟨some 51, none, .bin .add (.t 49) (.t 50)⟩,
    ⟨some 4, none, .mov (.t 47)⟩,
    ⟨some 5, none, .mov (.t 51)⟩,
    ⟨some 6, none, .mov (.c (.b true))⟩] [4, 5, 6]) (
  .ret)))))
def m_curvetref13_take : MFn := ⟨c_curvetref13_take, [.tmp 4, .tmp 5, .tmp 6], 0⟩

/-- curvet/curvetref1.Bits -/
def c_curvetref1_Bits : Stm :=
  .seq (
  .reg [
    ⟨some 2, none, .mov (.c (.i 0))⟩] [0]) (
  .seq (
  .seq (
  .reg [
    ⟨some 5, none, .mov (.t 0)⟩,
    ⟨some 6, none, .len (.t 5)⟩,
    ⟨some 7, none, .bin .eql (.t 6) (.c (.i 0))⟩] [0, 7]) (
  .cond (.t 7) (
   .seq (
   .reg [
     ⟨some 2, none, .mov (.c (.i 0))⟩] [2]) (
   .ret)) (
   .reg [] [0]))) (
  .seq (
  .reg [
    ⟨some 8, none, .mov (.t 0)⟩,
    ⟨some 9, none, .len (.t 8)⟩,
    ⟨some 10, none, .bin .sub (.t 9) (.c (.i 1))⟩,
    ⟨some 11, none, .bin .mul (.c (.i 32)) (.t 10)⟩,
    ⟨some 3, none, .mov (.t 11)⟩] [0, 3]) (
  .seq (
  .seq (
  .reg [
    ⟨some 12, none, .mov (.t 0)⟩,
    ⟨some 13, none, .mov (.t 0)⟩,
    ⟨some 14, none, .len (.t 13)⟩,
    ⟨some 15, none, .bin .sub (.t 14) (.c (.i 1))⟩,
    ⟨some 16, none, .idxs 1 (.t 12) (.t 15)⟩,
    ⟨some 17, none, .ld false none (.t 16)⟩,
    ⟨some 4, none, .mov (.t 17)⟩] [3, 4]) (
  .block 0 (
   .loop [3, 4] (
    .seq (
    .seq (
    .reg [
      ⟨some 18, none, .mov (.t 4)⟩,
      ⟨some 19, none, .bin .gtr (.t 18) (.c (.u 32 0))⟩] [3, 4, 19]) (
    .cond (.t 19) (
     .reg [] [3, 4]) (
     .exit 0 [3]))) (
    .seq (
    .block 1 (
     .reg [
       ⟨some 22, none, .mov (.t 3)⟩,
       ⟨some 23, none, .bin .add (.t 22) (.c (.i 1))⟩,
       ⟨some 3, none, .mov (.t 23)⟩] [3, 4])) (
    .reg [
      ⟨some 20, none, .mov (.t 4)⟩,
      ⟨some 21, none, .bin .shr (.t 20) (.c (.u 64 1))⟩,
      ⟨some 4, none, .mov (.t 21)⟩] [3, 4])))))) (
  .seq (
  .reg [
    ⟨some 24, none, .mov (.t 3)⟩,
    ⟨some 2, none, .mov (.t 24)⟩] [2]) (
  .ret)))))
def m_curvetref1_Bits : MFn := ⟨c_curvetref1_Bits, [.tmp 2], 0⟩

/-- curvet/curvetref1.Nat -/
def c_curvetref1_Nat : Stm :=
  .seq (
  .reg [
    ⟨some 2, none, .box (.c (.agg [.u 64 0, .u 64 0, .u 64 0, .u 64 0, .u 64 0, .u 64 0, .u 64 0, .u 64 0, .u 64 0]))⟩] [0, 2]) (
  .seq (
  .reg [
    ⟨some 3, none, .box (.c (.agg [.u 64 0, .u 64 0, .u 64 0, .u 64 0, .u 64 0, .u 64 0, .u 64 0, .u 64 0, .u 64 0]))⟩] [0, 2, 3]) (
  .seq (
  .seq (
  .reg [
    ⟨some 4, none, .mov (.c (.i 0))⟩] [0, 2, 3, 4]) (
  .block 0 (
   .loop [0, 2, 3, 4] (
    .seq (
    .seq (
    .reg [
      ⟨some 5, none, .mov (.t 4)⟩,
      ⟨some 6, none, .bin .lss (.t 5) (.c (.i 9))⟩] [0, 2, 3, 4, 6]) (
    .cond (.t 6) (
     .reg [] [0, 2, 3, 4]) (
     .exit 0 [2, 3]))) (
    .seq (
    .block 1 (
     .reg [
       ⟨some 9, none, .mov (.t 4)⟩,
       ⟨some 10, none, .mov (.t 0)⟩,
       ⟨some 11, none, .mov (.t 4)⟩,
       ⟨some 12, none, .bin .mul (.c (.i 2)) (.t 11)⟩,
       ⟨some 13, none, .call f_curvetref1_digit [] [(.t 10), (.t 12)]⟩,
       ⟨some 14, none, .mov (.t 0)⟩,
       ⟨some 15, none, .mov (.t 4)⟩,
       ⟨some 16, none, .bin .mul (.c (.i 2)) (.t 15)⟩,
       ⟨some 17, none, .bin .add (.t 16) (.c (.i 1))⟩,
       ⟨some 18, none, .call f_curvetref1_digit [] [(.t 14), (.t 17)]⟩,
       ⟨some 19, none, .bin .shl (.t 18) (.c (.u 64 32))⟩,
       ⟨some 20, none, .bin .or (.t 13) (.t 19)⟩,
       ⟨some 21, none, .off 0 (.t 3)⟩,
       ⟨some 22, none, .idx 9 1 (.t 21) (.t 9)⟩,
       ⟨none, none, .stl 3 1 (.t 22) (.t 20)⟩] [0, 2, 3, 4])) (
    .reg [
      ⟨some 7, none, .mov (.t 4)⟩,
      ⟨some 8, none, .bin .add (.t 7) (.c (.i 1))⟩,
      ⟨some 4, none, .mov (.t 8)⟩] [0, 2, 3, 4])))))) (
  .seq (
  .reg [
    ⟨some 23, none, .ldl 3 (some 9) (.t 3)⟩,
    ⟨none, none, .stl 2 9 (.t 2) (.t 23)⟩] [2]) (
  .ret))))
def m_curvetref1_Nat : MFn := ⟨c_curvetref1_Nat, [.cell 2 (some 9)], 0⟩

/-- curvet/der.field -/
def c_der_field : Stm :=
  .seq (
  .reg [
    ⟨some 4, none, .mov (.c (.s []))⟩] [0, 1]) (
  .seq (
  .seq (
  .reg [
    ⟨some 5, none, .mov (.t 1)⟩,
    ⟨some 6, none, .lens (.t 5)⟩,
    ⟨some 7, none, .bin .lss (.t 6) (.c (.i 128))⟩] [0, 1, 7]) (
  .cond (.t 7) (
   .seq (
   .reg [
     ⟨some 8, none, .mov (.t 0)⟩,
     ⟨some 9, none, .mov (.t 1)⟩,
     ⟨some 10, none, .lens (.t 9)⟩,
     ⟨some 11, none, .cvu 8 (.t 10)⟩,
     ⟨some 12, none, .lit true 1 2 [.u 8 0, .u 8 0] [(0, 1, (.t 8)), (1, 1, (.t 11))]⟩,
     ⟨some 13, none, .b2s true (.t 12)⟩,
     ⟨some 14, none, .mov (.t 1)⟩,
     ⟨some 15, none, .bin .add (.t 13) (.t 14)⟩,
     ⟨some 4, none, .mov (.t 15)⟩] [4]) (
   .ret)) (
   .reg [] [0, 1]))) (
  .seq (
  .reg [
    ⟨some 16, none, .mov (.t 0)⟩,
    ⟨some 17, none, .mov (.t 1)⟩,
    ⟨some 18, none, .lens (.t 17)⟩,
    ⟨some 19, none, .cvu 8 (.t 18)⟩,
    ⟨some 20, none, .lit true 1 3 [.u 8 0, .u 8 0, .u 8 0] [(0, 1, (.t 16)), (1, 1, (.c (.u 8 129))), (2, 1, (.t 19))]⟩,
    ⟨some 21, none, .b2s true (.t 20)⟩,
    ⟨some 22, none, .mov (.t 1)⟩,
    ⟨some 23, none, .bin .add (.t 21) (.t 22)⟩,
    ⟨some 4, none, .mov (.t 23)⟩] [4]) (
  .ret)))
def m_der_field : MFn := ⟨c_der_field, [.tmp 4], 0⟩

/-- curvet/der.number -/
def c_der_number : Stm :=
  .seq (
  .reg [
    ⟨some 1, none, .boxv (.t 0)⟩,
    ⟨some 2, none, .mov (.c (.s []))⟩] [1]) (
  .seq (
  .reg [
    ⟨some 6, none, .ld true (some 9) (.t 1)⟩,
    ⟨some 7, none, .ld true (some 9) (.t 1)⟩,
    ⟨some 8, none, .call f_nat_Bits [] [(.t 7)]⟩,
    ⟨some 9, none, .bin .add (.t 8) (.c (.i 7))⟩,
    ⟨some 10, none, .bin .quo (.t 9) (.c (.i 8))⟩,
    ⟨some 11, none, .mx (.c (.i 1)) (.t 10)⟩,
    ⟨some 12, none, .call f_nat_Bytes [] [(.t 6), (.t 11)]⟩,
    ⟨some 5, none, .mov (.t 12)⟩,
    ⟨some 13, none, .ext 0 (.t 5)⟩,
    ⟨some 14, none, .ext 1 (.t 5)⟩,
    ⟨some 3, none, .mov (.t 13)⟩,
    ⟨some 4, none, .mov (.t 14)⟩] [3]) (
  .seq (
  .seq (
  .reg [
    ⟨some 15, none, .mov (.t 3)⟩,
    ⟨some 16, none, .idxb (.t 15) (.c (.i 0))⟩,
    ⟨some 17, none, .bin .geq (.t 16) (.c (.u 8 128))⟩] [3, 17]) (
  .cond (.t 17) (
   .reg [
     ⟨some 18, none, .mov (.t 3)⟩,
     ⟨some 19, none, .bin .add (.c (.s [0])) (.t 18)⟩,
     ⟨some 3, none, .mov (.t 19)⟩] [3]) (
   .reg [] [3]))) (
  .seq (
  .reg [
    ⟨some 20, none, .mov (.t 3)⟩,
    ⟨some 2, none, .mov (.t 20)⟩] [2]) (
  .ret))))
def m_der_number : MFn := ⟨c_der_number, [.tmp 2], 0⟩

/-- curvet/curvetref13.number -/
def c_curvetref13_number : Stm :=
  .seq (
  .reg [
    ⟨some 2, none, .mov (.c (.s []))⟩] [0]) (
  .seq (
  .reg [
    ⟨some 8, none, .mov (.t 0)⟩,
    ⟨some 9, none, .call f_curvetref1_Bits [] [(.t 8)]⟩,
    ⟨some 10, none, .bin .quo (.t 9) (.c (.i 8))⟩,
    ⟨some 11, none, .bin .add (.t 10) (.c (.i 1))⟩,
    ⟨some 3, none, .mov (.t 11)⟩] [0, 3]) (
  .seq (
  .seq (
  .reg [
    ⟨some 12, none, .mov (.t 3)⟩,
    ⟨some 13, none, .bin .gtr (.t 12) (.c (.i 72))⟩] [0, 3, 13]) (
  .cond (.t 13) (
   .seq (
   .reg [
     ⟨some 15, none, .mov (.t 0)⟩,
     ⟨some 16, none, .call f_curvetref1_Bytes [] [(.t 15), (.c (.i 72))]⟩,
     ⟨some 14, none, .mov (.t 16)⟩,
     ⟨some 17, none, .ext 0 (.t 14)⟩,
     ⟨some 18, none, .ext 1 (.t 14)⟩,
     ⟨some 4, none, .mov (.t 17)⟩,
     ⟨some 5, none, .mov (.t 18)⟩] [4]) (
   .seq (
   .reg [
     ⟨some 19, none, .lit true 1 2 [.u 8 0, .u 8 0] [(0, 1, (.c (.u 8 73))), (1, 1, (.c (.u 8 0)))]⟩,
     ⟨some 20, none, .b2s true (.t 19)⟩,
     ⟨some 21, none, .bin .add (.c (.s [2])) (.t 20)⟩,
     ⟨some 22, none, .mov (.t 4)⟩,
     ⟨some 23, none, .bin .add (.t 21) (.t 22)⟩,
     ⟨some 2, none, .mov (.t 23)⟩] [2]) (
   .ret))) (
   .reg [] [0, 3]))) (
  .seq (
  .reg [
    ⟨some 25, none, .mov (.t 0)⟩,
    ⟨some 26, none, .mov (.t 3)⟩,
    ⟨some 27, none, .call f_curvetref1_Bytes [] [(.t 25), (.t 26)]⟩,
    ⟨some 24, none, .mov (.t 27)⟩,
    ⟨some 28, none, .ext 0 (.t 24)⟩,
    ⟨some 29, none, .ext 1 (.t 24)⟩,
    ⟨some 6, none, .mov (.t 28)⟩,
    ⟨some 7, none, .mov (.t 29)⟩] [3, 6]) (
  .seq (
  .reg [
    ⟨some 30, none, .mov (.t 3)⟩,
    ⟨some 31, none, .cvu 8 (.t 30)⟩,
    ⟨some 32, none, .lit true 1 1 [.u 8 0] [(0, 1, (.t 31))]⟩,
    ⟨some 33, none, .b2s true (.t 32)⟩,
    ⟨some 34, none, .bin .add (.c (.s [2])) (.t 33)⟩,
    ⟨some 35, none, .mov (.t 6)⟩,
    ⟨some 36, none, .bin .add (.t 34) (.t 35)⟩,
    ⟨some 2, none, .mov (.t 36)⟩] [2]) (
  .ret)))))
def m_curvetref13_number : MFn := ⟨c_curvetref13_number, [.tmp 2], 0⟩

/-- curvet/curvetref1.trim -/
def c_curvetref1_trim : Stm :=
  .seq (
  .reg [
    ⟨some 2, none, .mov (.c (.vs 0 []))⟩] [0]) (
  .seq (
  .reg [
    ⟨some 4, none, .mov (.t 0)⟩,
    ⟨some 5, none, .len (.t 4)⟩,
    ⟨some 3, none, .mov (.t 5)⟩] [0, 3]) (
  .seq (
  .block 0 (
   .loop [0, 3] (
    .seq (
    .seq (
    .reg [
      ⟨some 6, none, .mov (.t 3)⟩,
      ⟨some 7, none, .bin .gtr (.t 6) (.c (.i 0))⟩,
      ⟨some 8, none, .mov (.t 7)⟩,
      ⟨some 9, (some (8, true)), .mov (.t 0)⟩,
      ⟨some 10, (some (8, true)), .mov (.t 3)⟩,
      ⟨some 11, (some (8, true)), .bin .sub (.t 10) (.c (.i 1))⟩,
      ⟨some 12, (some (8, true)), .idxs 1 (.t 9) (.t 11)⟩,
      ⟨some 13, (some (8, true)), .ld false none (.t 12)⟩,
      ⟨some 14, (some (8, true)), .bin .eql (.t 13) (.c (.u 32 0))⟩,
      ⟨some 15, none, .pick (.t 8) (.t 14) (.c (.b false))⟩] [0, 3, 15]) (
    .cond (.t 15) (
     .reg [] [0, 3]) (
     .exit 0 [0, 3]))) (
    .block 1 (
     .reg [
       ⟨some 16, none, .mov (.t 3)⟩,
       ⟨some 17, none, .bin .sub (.t 16) (.c (.i 1))⟩,
       ⟨some 3, none, .mov (.t 17)⟩] [0, 3]))))) (
  .seq (
  .reg [
    ⟨some 18, none, .mov (.t 0)⟩,
    ⟨some 19, none, .mov (.t 3)⟩,
    ⟨some 20, none, .slv 1 (.t 18) none (some (.t 19))⟩,
    ⟨some 2, none, .mov (.t 20)⟩] [2]) (
  .ret))))
def m_curvetref1_trim : MFn := ⟨c_curvetref1_trim, [.tmp 2], 0⟩

/-- curvet/nat.used -/
def c_nat_used : Stm :=
  .seq (
  .reg [
    ⟨some 2, none, .mov (.c (.i 0))⟩] [0]) (
  .seq (
  .reg [
    ⟨some 3, none, .mov (.c (.i 9))⟩] [0, 3]) (
  .seq (
  .block 0 (
   .loop [0, 3] (
    .seq (
    .seq (
    .reg [
      ⟨some 4, none, .mov (.t 3)⟩,
      ⟨some 5, none, .bin .gtr (.t 4) (.c (.i 0))⟩,
      ⟨some 6, none, .mov (.t 5)⟩,
      ⟨some 7, (some (6, true)), .mov (.t 0)⟩,
      ⟨some 8, (some (6, true)), .mov (.t 3)⟩,
      ⟨some 9, (some (6, true)), .bin .sub (.t 8) (.c (.i 1))⟩,
      ⟨some 10, (some (6, true)), .nck (.t 7)⟩,
      ⟨some 11, (some (6, true)), .off 0 (.t 10)⟩,
      ⟨some 12, (some (6, true)), .idx 9 1 (.t 11) (.t 9)⟩,
      ⟨some 13, (some (6, true)), .ld false none (.t 12)⟩,
      ⟨some 14, (some (6, true)), .bin .eql (.t 13) (.c (.u 64 0))⟩,
      ⟨some 15, none, .pick (.t 6) (.t 14) (.c (.b false))⟩] [0, 3, 15]) (
    .cond (.t 15) (
     .reg [] [0, 3]) (
     .exit 0 [3]))) (
    .block 1 (
     .reg [
       ⟨some 16, none, .mov (.t 3)⟩,
       ⟨some 17, none, .bin .sub (.t 16) (.c (.i 1))⟩,
       ⟨some 3, none, .mov (.t 17)⟩] [0, 3]))))) (
  .seq (
  .reg [
    ⟨some 18, none, .mov (.t 3)⟩,
    ⟨some 2, none, .mov (.t 18)⟩] [2]) (
  .ret))))
def m_nat_used : MFn := ⟨c_nat_used, [.tmp 2], 0⟩

/-- math/bits.Len64 -/
def c_bits_Len64 : Stm :=
  .seq (
  .reg [
    ⟨some 2, none, .mov (.c (.i 0))⟩] [0, 2]) (
  .seq (
  .seq (
  .reg [
    ⟨some 3, none, .mov (.t 0)⟩,
    ⟨some 4, none, .bin .geq (.t 3) (.c (.u 64 4294967296))⟩] [0, 2, 4]) (
  .cond (.t 4) (
   .seq (
   .reg [
     ⟨some 5, none, .mov (.t 0)⟩,
     ⟨some 6, none, .bin .shr (.t 5) (.c (.u 64 32))⟩,
     ⟨some 0, none, .mov (.t 6)⟩] [0]) (
   .reg [
     ⟨some 2, none, .mov (.c (.i 32))⟩] [0, 2])) (
   .reg [] [0, 2]))) (
  .seq (
  .seq (
  .reg [
    ⟨some 7, none, .mov (.t 0)⟩,
    ⟨some 8, none, .bin .geq (.t 7) (.c (.u 64 65536))⟩] [0, 2, 8]) (
  .cond (.t 8) (
   .seq (
   .reg [
     ⟨some 9, none, .mov (.t 0)⟩,
     ⟨some 10, none, .bin .shr (.t 9) (.c (.u 64 16))⟩,
     ⟨some 0, none, .mov (.t 10)⟩] [0, 2]) (
   .reg [
     ⟨some 11, none, .mov (.t 2)⟩,
     ⟨some 12, none, .bin .add (.t 11) (.c (.i 16))⟩,
     ⟨some 2, none, .mov (.t 12)⟩] [0, 2])) (
   .reg [] [0, 2]))) (
  .seq (
  .seq (
  .reg [
    ⟨some 13, none, .mov (.t 0)⟩,
    ⟨some 14, none, .bin .geq (.t 13) (.c (.u 64 256))⟩] [0, 2, 14]) (
  .cond (.t 14) (
   .seq (
   .reg [
     ⟨some 15, none, .mov (.t 0)⟩,
     ⟨some 16, none, .bin .shr (.t 15) (.c (.u 64 8))⟩,
     ⟨some 0, none, .mov (.t 16)⟩] [0, 2]) (
   .reg [
     ⟨some 17, none, .mov (.t 2)⟩,
     ⟨some 18, none, .bin .add (.t 17) (.c (.i 8))⟩,
     ⟨some 2, none, .mov (.t 18)⟩] [0, 2])) (
   .reg [] [0, 2]))) (
  .seq (
  .reg [
    ⟨some 19, none, .mov (.t 2)⟩,
    ⟨some 20, none, .mov (.t 0)⟩,
    ⟨some 21, none, .cvu 8 (.t 20)⟩,
    ⟨some 22, none, .idxb (.c (.s [0, 1, 2, 2, 3, 3, 3, 3, 4, 4, 4, 4, 4, 4, 4, 4, 5, 5, 5, 5, 5, 5, 5, 5, 5, 5, 5, 5, 5, 5, 5, 5, 6, 6, 6, 6, 6, 6, 6, 6, 6, 6, 6, 6, 6, 6, 6, 6, 6, 6, 6, 6, 6, 6, 6, 6, 6, 6, 6, 6, 6, 6, 6, 6, 7, 7, 7, 7, 7, 7, 7, 7, 7, 7, 7, 7, 7, 7, 7, 7, 7, 7, 7, 7, 7, 7, 7, 7, 7, 7, 7, 7, 7, 7, 7, 7, 7, 7, 7, 7, 7, 7, 7, 7, 7, 7, 7, 7, 7, 7, 7, 7, 7, 7, 7, 7, 7, 7, 7, 7, 7, 7, 7, 7, 7, 7, 7, 7, 8, 8, 8, 8, 8, 8, 8, 8, 8, 8, 8, 8, 8, 8, 8, 8, 8, 8, 8, 8, 8, 8, 8, 8, 8, 8, 8, 8, 8, 8, 8, 8, 8, 8, 8, 8, 8, 8, 8, 8, 8, 8, 8, 8, 8, 8, 8, 8, 8, 8, 8, 8, 8, 8, 8, 8, 8, 8, 8, 8, 8, 8, 8, 8, 8, 8, 8, 8, 8, 8, 8, 8, 8, 8, 8, 8, 8, 8, 8, 8, 8, 8, 8, 8, 8, 8, 8, 8, 8, 8, 8, 8, 8, 8, 8, 8, 8, 8, 8, 8, 8, 8, 8, 8, 8, 8, 8, 8, 8, 8, 8, 8, 8, 8, 8, 8, 8, 8, 8, 8, 8, 8, 8, 8, 8, 8, 8, 8])) (.t 21)⟩,
    ⟨some 23, none, .cvi (.t 22)⟩,
    ⟨some 24, none, .bin .add (.t 19) (.t 23)⟩,
    ⟨some 2, none, .mov (.t 24)⟩] [2]) (
  .ret)))))
def m_bits_Len64 : MFn := ⟨c_bits_Len64, [.tmp 2], 0⟩

/-- (*curvet/der.reader).byte -/
def c_der_reader_byte : Stm :=
  .seq (
  .reg [
    ⟨some 2, none, .mov (.c (.i 0))⟩] [0]) (
  .seq (
  .reg [
    ⟨some 4, none, .mov (.t 0)⟩,
    ⟨some 5, none, .call f_der_reader_bytes [] [(.t 4), (.c (.i 1))]⟩,
    ⟨some 3, none, .mov (.t 5)⟩] [3]) (
  .seq (
  .seq (
  .reg [
    ⟨some 6, none, .mov (.t 3)⟩,
    ⟨some 7, none, .bin .eql (.t 6) (.c (.s []))⟩] [3, 7]) (
  .cond (.t 7) (
   .seq (
   .reg [
     ⟨some 2, none, .mov (.c (.i 0))⟩] [2]) (
   .ret)) (
   .reg [] [3]))) (
  .seq (
  .reg [
    ⟨some 8, none, .mov (.t 3)⟩,
    ⟨some 9, none, .idxb (.t 8) (.c (.i 0))⟩,
    ⟨some 10, none, .cvi (.t 9)⟩,
    ⟨some 2, none, .mov (.t 10)⟩] [2]) (
  .ret))))
def m_der_reader_byte : MFn := ⟨c_der_reader_byte, [.tmp 2], 0⟩

/-- (*curvet/der.reader).bytes -/
def c_der_reader_bytes : Stm :=
  .seq (
  .reg [
    ⟨some 4, none, .mov (.c (.s []))⟩] [0, 1]) (
  .seq (
  .seq (
  .reg [
    ⟨some 6, none, .mov (.t 1)⟩,
    ⟨some 7, none, .mov (.t 0)⟩,
    ⟨some 8, none, .nck (.t 7)⟩,
    ⟨some 9, none, .off 0 (.t 8)⟩,
    ⟨some 10, none, .ld false none (.t 9)⟩,
    ⟨some 11, none, .lens (.t 10)⟩,
    ⟨some 12, none, .bin .gtr (.t 6) (.t 11)⟩] [0, 1, 12]) (
  .cond (.t 12) (
   .seq (
   .reg [
     ⟨some 13, none, .mov (.t 0)⟩,
     ⟨some 14, none, .nck (.t 13)⟩,
     ⟨some 15, none, .off 1 (.t 14)⟩,
     ⟨none, none, .st 1 (.t 15) (.c (.b true))⟩] []) (
   .seq (
   .reg [
     ⟨some 4, none, .mov (.c (.s []))⟩] [4]) (
   .ret))) (
   .reg [] [0, 1]))) (
  .seq (
  .reg [
    ⟨some 16, none, .mov (.t 0)⟩,
    ⟨some 17, none, .nck (.t 16)⟩,
    ⟨some 18, none, .off 0 (.t 17)⟩,
    ⟨some 19, none, .ld false none (.t 18)⟩,
    ⟨some 20, none, .mov (.t 1)⟩,
    ⟨some 21, none, .sls (.t 19) none (some (.t 20))⟩,
    ⟨some 5, none, .mov (.t 21)⟩] [0, 1, 5]) (
  .seq (
  .reg [
    ⟨some 22, none, .mov (.t 0)⟩,
    ⟨some 23, none, .mov (.t 0)⟩,
    ⟨some 24, none, .nck (.t 23)⟩,
    ⟨some 25, none, .off 0 (.t 24)⟩,
    ⟨some 26, none, .ld false none (.t 25)⟩,
    ⟨some 27, none, .mov (.t 1)⟩,
    ⟨some 28, none, .sls (.t 26) (some (.t 27)) none⟩,
    ⟨some 29, none, .nck (.t 22)⟩,
    ⟨some 30, none, .off 0 (.t 29)⟩,
    ⟨none, none, .st 1 (.t 30) (.t 28)⟩] [5]) (
  .seq (
  .reg [
    ⟨some 31, none, .mov (.t 5)⟩,
    ⟨some 4, none, .mov (.t 31)⟩] [4]) (
  .ret)))))
def m_der_reader_bytes : MFn := ⟨c_der_reader_bytes, [.tmp 4], 0⟩

/-- curvet/nat.Of -/
def c_nat_Of : Stm :=
  .seq (
  .reg [
    ⟨some 2, none, .box (.c (.agg [.u 64 0, .u 64 0, .u 64 0, .u 64 0, .u 64 0, .u 64 0, .u 64 0, .u 64 0, .u 64 0]))⟩,
    ⟨some 3, none, .mov (.c (.i 0))⟩] [0, 2]) (
  .seq (
  .seq (
  .reg [
    ⟨some 7, none, .mov (.t 0)⟩,
    ⟨some 8, none, .lens (.t 7)⟩,
    ⟨some 9, none, .bin .gtr (.t 8) (.c (.i 72))⟩] [0, 2, 9]) (
  .cond (.t 9) (
   .seq (
   .reg [
     ⟨some 10, none, .build [.u 64 0, .u 64 0, .u 64 0, .u 64 0, .u 64 0, .u 64 0, .u 64 0, .u 64 0, .u 64 0] []⟩,
     ⟨none, none, .stl 2 9 (.t 2) (.t 10)⟩,
     ⟨some 3, none, .mov (.c (.i 100))⟩] [2, 3]) (
   .ret)) (
   .reg [] [0, 2]))) (
  .seq (
  .reg [
    ⟨some 4, none, .box (.c (.agg [.u 64 0, .u 64 0, .u 64 0, .u 64 0, .u 64 0, .u 64 0, .u 64 0, .u 64 0, .u 64 0]))⟩] [0, 2, 4]) (
  .seq (
  .seq (
  .reg [
    ⟨some 11, none, .mov (.t 0)⟩,
    ⟨some 12, none, .lens (.t 11)⟩,
    ⟨some 13, none, .mov (.c (.i 0))⟩] [0, 2, 4, 12, 13]) (
  .block 0 (
   .loop [0, 2, 4, 12, 13] (
    .seq (
    .reg [
      ⟨some 14, none, .bin .lss (.t 13) (.t 12)⟩] [0, 2, 4, 12, 13, 14]) (
    .seq (
    .cond (.t 14) (
     .reg [] [0, 2, 4, 12, 13]) (
     .exit 0 [2, 4])) (
    .seq (
    .block 1 (
     .seq (
     .reg [
       ⟨some 15, none, .mov (.t 13)⟩,
       ⟨some 5, none, .mov (.t 15)⟩] [0, 2, 4, 5, 12, 13]) (
     .seq (
     .reg [
       ⟨some 16, none, .mov (.t 0)⟩,
       ⟨some 17, none, .lens (.t 16)⟩,
       ⟨some 18, none, .bin .sub (.t 17) (.c (.i 1))⟩,
       ⟨some 19, none, .mov (.t 5)⟩,
       ⟨some 20, none, .bin .sub (.t 18) (.t 19)⟩,
       ⟨some 6, none, .mov (.t 20)⟩] [0, 2, 4, 5, 6, 12, 13]) (
     .reg [
       ⟨some 21, none, .mov (.t 5)⟩,
       ⟨some 22, none, .bin .quo (.t 21) (.c (.i 8))⟩,
       ⟨some 23, none, .off 0 (.t 4)⟩,
       ⟨some 24, none, .idx 9 1 (.t 23) (.t 22)⟩,
       ⟨some 25, none, .ldl 4 none (.t 24)⟩,
       ⟨some 26, none, .mov (.t 0)⟩,
       ⟨some 27, none, .mov (.t 6)⟩,
       ⟨some 28, none, .idxb (.t 26) (.t 27)⟩,
       ⟨some 29, none, .cvu 64 (.t 28)⟩,
       ⟨some 30, none, .mov (.t 5)⟩,
       ⟨some 31, none, .bin .rem (.t 30) (.c (.i 8))⟩,
       ⟨some 32, none, .bin .mul (.c (.i 8)) (.t 31)⟩,
       ⟨some 33, none, .bin .shl (.t 29) (.t 32)⟩,
       ⟨some 34, none, .bin .or (.t 25) (.t 33)⟩,
       ⟨some 35, none, .off 0 (.t 4)⟩,
       ⟨some 36, none, .idx 9 1 (.t 35) (.t 22)⟩,
       ⟨none, none, .stl 4 1 (.t 36) (.t 34)⟩] [0, 2, 4, 12, 13])))) (
    .reg [
      ⟨some 37, none, .bin .add (.t 13) (.c (.i 1))⟩,
      ⟨some 13, none, .mov (.t 37)⟩] [0, 2, 4, 12, 13]))))))) (
  .seq (
  .reg [
    ⟨some 38, none, .ldl 4 (some 9) (.t 4)⟩,
    ⟨none, none, .stl 2 9 (.t 2) (.t 38)⟩,
    ⟨some 3, none, .mov (.c (.i 0))⟩] [2, 3]) (
  .ret)))))
def m_nat_Of : MFn := ⟨c_nat_Of, [.cell 2 (some 9), .tmp 3], 0⟩

/-- curvet/curvetref1.Read -/
def c_curvetref1_Read : Stm :=
  .seq (
  .reg [
    ⟨some 2, none, .mov (.c (.vs 0 []))⟩] [0]) (
  .seq (
  .reg [
    ⟨some 6, none, .mov (.t 0)⟩,
    ⟨some 7, none, .lens (.t 6)⟩,
    ⟨some 8, none, .bin .quo (.t 7) (.c (.i 4))⟩,
    ⟨some 9, none, .bin .add (.t 8) (.c (.i 1))⟩,
    ⟨some 10, none, .mks 1 4 [.u 32 0] (.t 9) (.t 9)⟩,
    ⟨some 3, none, .mov (.t 10)⟩] [0, 3]) (
  .seq (
  .seq (
  .reg [
    ⟨some 4, none, .mov (.c (.i 0))⟩] [0, 3, 4]) (
  .block 0 (
   .loop [0, 3, 4] (
    .seq (
    .seq (
    .reg [
      ⟨some 11, none, .mov (.t 4)⟩,
      ⟨some 12, none, .mov (.t 0)⟩,
      ⟨some 13, none, .lens (.t 12)⟩,
      ⟨some 14, none, .bin .lss (.t 11) (.t 13)⟩] [0, 3, 4, 14]) (
    .cond (.t 14) (
     .reg [] [0, 3, 4]) (
     .exit 0 [3]))) (
    .seq (
    .block 1 (
     .seq (
     .reg [
       ⟨some 17, none, .mov (.t 0)⟩,
       ⟨some 18, none, .lens (.t 17)⟩,
       ⟨some 19, none, .bin .sub (.t 18) (.c (.i 1))⟩,
       ⟨some 20, none, .mov (.t 4)⟩,
       ⟨some 21, none, .bin .sub (.t 19) (.t 20)⟩,
       ⟨some 5, none, .mov (.t 21)⟩] [0, 3, 4, 5]) (
     .reg [
       ⟨some 22, none, .mov (.t 3)⟩,
       ⟨some 23, none, .mov (.t 5)⟩,
       ⟨some 24, none, .bin .quo (.t 23) (.c (.i 4))⟩,
       ⟨some 25, none, .mov (.t 3)⟩,
       ⟨some 26, none, .mov (.t 5)⟩,
       ⟨some 27, none, .bin .quo (.t 26) (.c (.i 4))⟩,
       ⟨some 28, none, .idxs 1 (.t 25) (.t 27)⟩,
       ⟨some 29, none, .ld false none (.t 28)⟩,
       ⟨some 30, none, .mov (.t 0)⟩,
       ⟨some 31, none, .mov (.t 4)⟩,
       ⟨some 32, none, .idxb (.t 30) (.t 31)⟩,
       ⟨some 33, none, .cvu 32 (.t 32)⟩,
       ⟨some 34, none, .mov (.t 5)⟩,
       ⟨some 35, none, .bin .rem (.t 34) (.c (.i 4))⟩,
       ⟨some 36, none, .bin .mul (.t 35) (.c (.i 8))⟩,
       ⟨some 37, none, .bin .shl (.t 33) (.t 36)⟩,
       ⟨some 38, none, .bin .or (.t 29) (.t 37)⟩,
       ⟨some 39, none, .idxs 1 (.t 22) (.t 24)⟩,
       ⟨none, none, .st 1 (.t 39) (.t 38)⟩] [0, 3, 4]))) (
    .reg [
      ⟨some 15, none, .mov (.t 4)⟩,
      ⟨some 16, none, .bin .add (.t 15) (.c (.i 1))⟩,
      ⟨some 4, none, .mov (.t 16)⟩] [0, 3, 4])))))) (
  .seq (
  .reg [
    ⟨some 40, none, .mov (.t 3)⟩,
    ⟨some 41, none, .call f_curvetref1_trim [] [(.t 40)]⟩,
    ⟨some 2, none, .mov (.t 41)⟩] [2]) (
  .ret))))
def m_curvetref1_Read : MFn := ⟨c_curvetref1_Read, [.tmp 2], 0⟩

/-- curvet/curvetref1.digit -/
def c_curvetref1_digit : Stm :=
  .seq (
  .reg [
    ⟨some 4, none, .mov (.c (.u 64 0))⟩] [0, 1]) (
  .seq (
  .seq (
  .reg [
    ⟨some 5, none, .mov (.t 1)⟩,
    ⟨some 6, none, .mov (.t 0)⟩,
    ⟨some 7, none, .len (.t 6)⟩,
    ⟨some 8, none, .bin .lss (.t 5) (.t 7)⟩] [0, 1, 8]) (
  .cond (.t 8) (
   .seq (
   .reg [
     ⟨some 9, none, .mov (.t 0)⟩,
     ⟨some 10, none, .mov (.t 1)⟩,
     ⟨some 11, none, .idxs 1 (.t 9) (.t 10)⟩,
     ⟨some 12, none, .ld false none (.t 11)⟩,
     ⟨some 13, none, .cvu 64 (.t 12)⟩,
     ⟨some 4, none, .mov (.t 13)⟩] [4]) (
   .ret)) (
   .reg [] []))) (
  .seq (
  .reg [
    ⟨some 4, none, .mov (.c (.u 64 0))⟩] [4]) (
  .ret)))
def m_curvetref1_digit : MFn := ⟨c_curvetref1_digit, [.tmp 4], 0⟩

/-- curvet/nat.Bytes -/
def c_nat_Bytes : Stm :=
  .seq (
  .reg [
    ⟨some 2, none, .boxv (.t 0)⟩,
    ⟨some 4, none, .mov (.c (.s []))⟩,
    ⟨some 5, none, .mov (.c (.i 0))⟩] [1, 2]) (
  .seq (
  .seq (
  .reg [
    ⟨some 8, none, .mov (.t 1)⟩,
    ⟨some 9, none, .bin .lss (.t 8) (.c (.i 0))⟩,
    ⟨some 10, none, .mov (.t 9)⟩,
    ⟨some 11, (some (10, false)), .mov (.t 1)⟩,
    ⟨some 12, (some (10, false)), .bin .gtr (.t 11) (.c (.i 72))⟩,
    ⟨some 13, none, .pick (.t 10) (.c (.b true)) (.t 12)⟩,
    ⟨some 14, none, .mov (.t 13)⟩,
    ⟨some 15, (some (14, false)), .ld true (some 9) (.t 2)⟩,
    ⟨some 16, (some (14, false)), .call f_nat_Bits [] [(.t 15)]⟩,
    ⟨some 17, (some (14, false)), .mov (.t 1)⟩,
    ⟨some 18, (some (14, false)), .bin .mul (.c (.i 8)) (.t 17)⟩,
    ⟨some 19, (some (14, false)), .bin .gtr (.t 16) (.t 18)⟩,
    ⟨some 20, none, .pick (.t 14) (.c (.b true)) (.t 19)⟩] [1, 2, 20]) (
  .cond (.t 20) (
   .seq (
   .reg [
     ⟨some 4, none, .mov (.c (.s []))⟩,
     ⟨some 5, none, .mov (.c (.i 101))⟩] [4, 5]) (
   .ret)) (
   .reg [] [1, 2]))) (
  .seq (
  .reg [
    ⟨some 21, none, .mov (.t 1)⟩,
    ⟨some 22, none, .mks 1 1 [.u 8 0] (.t 21) (.t 21)⟩,
    ⟨some 6, none, .mov (.t 22)⟩] [1, 2, 6]) (
  .seq (
  .seq (
  .reg [
    ⟨some 23, none, .mov (.t 6)⟩,
    ⟨some 24, none, .len (.t 23)⟩,
    ⟨some 25, none, .mov (.c (.i 0))⟩] [1, 2, 6, 24, 25]) (
  .block 0 (
   .loop [1, 2, 6, 24, 25] (
    .seq (
    .reg [
      ⟨some 26, none, .bin .lss (.t 25) (.t 24)⟩] [1, 2, 6, 24, 25, 26]) (
    .seq (
    .cond (.t 26) (
     .reg [] [1, 2, 6, 24, 25]) (
     .exit 0 [6])) (
    .seq (
    .block 1 (
     .seq (
     .reg [
       ⟨some 27, none, .mov (.t 25)⟩,
       ⟨some 7, none, .mov (.t 27)⟩] [1, 2, 6, 7, 24, 25]) (
     .reg [
       ⟨some 28, none, .mov (.t 6)⟩,
       ⟨some 29, none, .mov (.t 1)⟩,
       ⟨some 30, none, .bin .sub (.t 29) (.c (.i 1))⟩,
       ⟨some 31, none, .mov (.t 7)⟩,
       ⟨some 32, none, .bin .sub (.t 30) (.t 31)⟩,
       ⟨some 33, none, .mov (.t 7)⟩,
       ⟨some 34, none, .bin .quo (.t 33) (.c (.i 8))⟩,
       ⟨some 35, none, .off 0 (.t 2)⟩,
       ⟨some 36, none, .idx 9 1 (.t 35) (.t 34)⟩,
       ⟨some 37, none, .ld true none (.t 36)⟩,
       ⟨some 38, none, .mov (.t 7)⟩,
       ⟨some 39, none, .bin .rem (.t 38) (.c (.i 8))⟩,
       ⟨some 40, none, .bin .mul (.c (.i 8)) (.t 39)⟩,
       ⟨some 41, none, .bin .shr (.t 37) (.t 40)⟩,
       ⟨some 42, none, .cvu 8 (.t 41)⟩,
       ⟨some 43, none, .idxs 1 (.t 28) (.t 32)⟩,
       ⟨none, none, .st 1 (.t 43) (.t 42)⟩] [1, 2, 6, 24, 25]))) (
    .reg [
      ⟨some 44, none, .bin .add (.t 25) (.c (.i 1))⟩,
      ⟨some 25, none, .mov (.t 44)⟩] [1, 2, 6, 24, 25]))))))) (
  .seq (
  .reg [
    ⟨some 45, none, .mov (.t 6)⟩,
    ⟨some 46, none, .b2s false (.t 45)⟩,
    ⟨some 4, none, .mov (.t 46)⟩,
    ⟨some 5, none, .mov (.c (.i 0))⟩] [4, 5]) (
  .ret)))))
def m_nat_Bytes : MFn := ⟨c_nat_Bytes, [.tmp 4, .tmp 5], 0⟩

/-- curvet/curvetref1.Bytes -/
def c_curvetref1_Bytes : Stm :=
  .seq (
  .reg [
    ⟨some 4, none, .mov (.c (.s []))⟩,
    ⟨some 5, none, .mov (.c (.b false))⟩] [0, 1]) (
  .seq (
  .seq (
  .reg [
    ⟨some 8, none, .mov (.t 1)⟩,
    ⟨some 9, none, .bin .lss (.t 8) (.c (.i 0))⟩,
    ⟨some 10, none, .mov (.t 9)⟩,
    ⟨some 11, (some (10, false)), .mov (.t 1)⟩,
    ⟨some 12, (some (10, false)), .bin .gtr (.t 11) (.c (.i 72))⟩,
    ⟨some 13, none, .pick (.t 10) (.c (.b true)) (.t 12)⟩,
    ⟨some 14, none, .mov (.t 13)⟩,
    ⟨some 15, (some (14, false)), .mov (.t 0)⟩,
    ⟨some 16, (some (14, false)), .call f_curvetref1_Bits [] [(.t 15)]⟩,
    ⟨some 17, (some (14, false)), .mov (.t 1)⟩,
    ⟨some 18, (some (14, false)), .bin .mul (.c (.i 8)) (.t 17)⟩,
    ⟨some 19, (some (14, false)), .bin .gtr (.t 16) (.t 18)⟩,
    ⟨some 20, none, .pick (.t 14) (.c (.b true)) (.t 19)⟩] [0, 1, 20]) (
  .cond (.t 20) (
   .seq (
   .reg [
     ⟨some 4, none, .mov (.c (.s []))⟩,
     ⟨some 5, none, .mov (.c (.b false))⟩] [4, 5]) (
   .ret)) (
   .reg [] [0, 1]))) (
  .seq (
  .reg [
    ⟨some 21, none, .mov (.t 1)⟩,
    ⟨some 22, none, .mks 1 1 [.u 8 0] (.t 21) (.t 21)⟩,
    ⟨some 6, none, .mov (.t 22)⟩] [0, 1, 6]) (
  .seq (
  .seq (
  .reg [
    ⟨some 7, none, .mov (.c (.i 0))⟩] [0, 1, 6, 7]) (
  .block 0 (
   .loop [0, 1, 6, 7] (
    .seq (
    .seq (
    .reg [
      ⟨some 23, none, .mov (.t 7)⟩,
      ⟨some 24, none, .mov (.t 1)⟩,
      ⟨some 25, none, .bin .lss (.t 23) (.t 24)⟩] [0, 1, 6, 7, 25]) (
    .cond (.t 25) (
     .reg [] [0, 1, 6, 7]) (
     .exit 0 [6]))) (
    .seq (
    .block 1 (
     .reg [
       ⟨some 28, none, .mov (.t 6)⟩,
       ⟨some 29, none, .mov (.t 1)⟩,
       ⟨some 30, none, .bin .sub (.t 29) (.c (.i 1))⟩,
       ⟨some 31, none, .mov (.t 7)⟩,
       ⟨some 32, none, .bin .sub (.t 30) (.t 31)⟩,
       ⟨some 33, none, .mov (.t 0)⟩,
       ⟨some 34, none, .mov (.t 7)⟩,
       ⟨some 35, none, .bin .quo (.t 34) (.c (.i 4))⟩,
       ⟨some 36, none, .call f_curvetref1_digit [] [(.t 33), (.t 35)]⟩,
       ⟨some 37, none, .mov (.t 7)⟩,
       ⟨some 38, none, .bin .rem (.t 37) (.c (.i 4))⟩,
       ⟨some 39, none, .bin .mul (.t 38) (.c (.i 8))⟩,
       ⟨some 40, none, .bin .shr (.t 36) (.t 39)⟩,
       ⟨some 41, none, .bin .and (.t 40) (.c (.u 64 255))⟩,
       ⟨some 42, none, .cvu 8 (.t 41)⟩,
       ⟨some 43, none, .idxs 1 (.t 28) (.t 32)⟩,
       ⟨none, none, .st 1 (.t 43) (.t 42)⟩] [0, 1, 6, 7])) (
    .reg [
      ⟨some 26, none, .mov (.t 7)⟩,
      ⟨some 27, none, .bin .add (.t 26) (.c (.i 1))⟩,
      ⟨some 7, none, .mov (.t 27)⟩] [0, 1, 6, 7])))))) (
  .seq (
  .reg [
    ⟨some 44, none, .mov (.t 6)⟩,
    ⟨some 45, none, .b2s false (.t 44)⟩,
    ⟨some 4, none, .mov (.t 45)⟩,
    ⟨some 5, none, .mov (.c (.b true))⟩] [4, 5]) (
  .ret)))))
def m_curvetref1_Bytes : MFn := ⟨c_curvetref1_Bytes, [.tmp 4, .tmp 5], 0⟩

/-- curvet/curvetlaw0.Nat -/
def c_curvetlaw0_Nat : Stm :=
  .seq (
  .reg [
    ⟨some 2, none, .boxv (.t 0)⟩,
    ⟨some 4, none, .box (.c (.agg [.u 64 0, .u 64 0, .u 64 0, .u 64 0, .u 64 0, .u 64 0, .u 64 0, .u 64 0, .u 64 0]))⟩] [1, 2, 4]) (
  .seq (
  .reg [
    ⟨some 5, none, .box (.c (.agg [.u 64 0, .u 64 0, .u 64 0, .u 64 0, .u 64 0, .u 64 0, .u 64 0, .u 64 0, .u 64 0]))⟩] [1, 2, 4, 5]) (
  .seq (
  .seq (
  .reg [
    ⟨some 6, none, .mov (.c (.i 0))⟩] [1, 2, 4, 5, 6]) (
  .block 0 (
   .loop [1, 2, 4, 5, 6] (
    .seq (
    .seq (
    .reg [
      ⟨some 8, none, .mov (.t 6)⟩,
      ⟨some 9, none, .bin .lss (.t 8) (.c (.i 9))⟩] [1, 2, 4, 5, 6, 9]) (
    .cond (.t 9) (
     .reg [] [1, 2, 4, 5, 6]) (
     .exit 0 [4, 5]))) (
    .seq (
    .block 1 (
     .seq (
     .reg [
       ⟨some 12, none, .mov (.t 1)⟩,
       ⟨some 13, none, .mov (.t 6)⟩,
       ⟨some 14, none, .bin .mul (.c (.i 64)) (.t 13)⟩,
       ⟨some 15, none, .bin .sub (.t 12) (.t 14)⟩,
       ⟨some 7, none, .mov (.t 15)⟩] [1, 2, 4, 5, 6, 7]) (
     .block 2 (
      .seq (
      .reg [
        ⟨some 17, none, .mov (.t 7)⟩,
        ⟨some 18, none, .bin .geq (.t 17) (.c (.i 64))⟩,
        ⟨some 16, none, .mov (.t 18)⟩] [1, 2, 4, 5, 6, 7, 16]) (
      .cond (.t 16) (
       .reg [
         ⟨some 19, none, .mov (.t 6)⟩,
         ⟨some 20, none, .mov (.t 6)⟩,
         ⟨some 21, none, .idx 9 1 (.t 2) (.t 20)⟩,
         ⟨some 22, none, .ld true none (.t 21)⟩,
         ⟨some 23, none, .off 0 (.t 5)⟩,
         ⟨some 24, none, .idx 9 1 (.t 23) (.t 19)⟩,
         ⟨none, none, .stl 5 1 (.t 24) (.t 22)⟩] [1, 2, 4, 5, 6]) (
       .seq (
       .reg [
         ⟨some 26, none, .mov (.t 7)⟩,
         ⟨some 27, none, .bin .gtr (.t 26) (.c (.i 0))⟩,
         ⟨some 25, none, .mov (.t 27)⟩] [1, 2, 4, 5, 6, 7, 25]) (
       .cond (.t 25) (
        .reg [
          ⟨some 28, none, .mov (.t 6)⟩,
          ⟨some 29, none, .mov (.t 6)⟩,
          ⟨some 30, none, .idx 9 1 (.t 2) (.t 29)⟩,
          ⟨some 31, none, .ld true none (.t 30)⟩,
          ⟨some 32, none, .mov (.t 7)⟩,
          ⟨some 33, none, .bin .shl (.c (.u 64 1)) (.t 32)⟩,
          ⟨some 34, none, .bin .sub (.t 33) (.c (.u 64 1))⟩,
          ⟨some 35, none, .bin .and (.t 31) (.t 34)⟩,
          ⟨some 36, none, .off 0 (.t 5)⟩,
          ⟨some 37, none, .idx 9 1 (.t 36) (.t 28)⟩,
          ⟨none, none, .stl 5 1 (.t 37) (.t 35)⟩] [1, 2, 4, 5, 6]) (
        .reg [] [1, 2, 4, 5, 6])))))))) (
    .reg [
      ⟨some 10, none, .mov (.t 6)⟩,
      ⟨some 11, none, .bin .add (.t 10) (.c (.i 1))⟩,
      ⟨some 6, none, .mov (.t 11)⟩] [1, 2, 4, 5, 6])))))) (
  .seq (
  .reg [
    ⟨some 38, none, .ldl 5 (some 9) (.t 5)⟩,
    ⟨none, none, .stl 4 9 (.t 4) (.t 38)⟩] [4]) (
  .ret))))
def m_curvetlaw0_Nat : MFn := ⟨c_curvetlaw0_Nat, [.cell 4 (some 9)], 0⟩

/-- curvet/nat.Add -/
def c_nat_Add : Stm :=
  .seq (
  .reg [
    ⟨some 2, none, .box (.t 0)⟩,
    ⟨some 3, none, .boxv (.t 1)⟩,
    ⟨some 4, none, .box (.c (.agg [.u 64 0, .u 64 0, .u 64 0, .u 64 0, .u 64 0, .u 64 0, .u 64 0, .u 64 0, .u 64 0]))⟩,
    ⟨some 5, none, .mov (.c (.b false))⟩] [2, 3, 4]) (
  .seq (
  .reg [
    ⟨some 6, none, .mov (.c (.u 64 0))⟩] [2, 3, 4, 6]) (
  .seq (
  .seq (
  .reg [
    ⟨some 8, none, .mov (.c (.i 0))⟩] [2, 3, 4, 6, 8]) (
  .block 0 (
   .loop [2, 3, 4, 6, 8] (
    .seq (
    .reg [
      ⟨some 9, none, .bin .lss (.t 8) (.c (.i 9))⟩] [2, 3, 4, 6, 8, 9]) (
    .seq (
    .cond (.t 9) (
     .reg [] [2, 3, 4, 6, 8]) (
     .exit 0 [2, 4, 6])) (
    .seq (
    .block 1 (
     .seq (
     .reg [
       ⟨some 10, none, .mov (.t 8)⟩,
       ⟨some 7, none, .mov (.t 10)⟩] [2, 3, 4, 6, 7, 8]) (
     .reg [
       ⟨some 12, none, .mov (.t 7)⟩,
       ⟨some 13, none, .mov (.t 7)⟩,
       ⟨some 14, none, .off 0 (.t 2)⟩,
       ⟨some 15, none, .idx 9 1 (.t 14) (.t 13)⟩,
       ⟨some 16, none, .ldl 2 none (.t 15)⟩,
       ⟨some 17, none, .mov (.t 7)⟩,
       ⟨some 18, none, .off 0 (.t 3)⟩,
       ⟨some 19, none, .idx 9 1 (.t 18) (.t 17)⟩,
       ⟨some 20, none, .ld true none (.t 19)⟩,
       ⟨some 21, none, .mov (.t 6)⟩,
       ⟨some 22, none, .prim .add64 [(.t 16), (.t 20), (.t 21)]⟩,
       ⟨some 11, none, .mov (.t 22)⟩,
       ⟨some 23, none, .ext 0 (.t 11)⟩,
       ⟨some 24, none, .ext 1 (.t 11)⟩,
       ⟨some 25, none, .off 0 (.t 2)⟩,
       ⟨some 26, none, .idx 9 1 (.t 25) (.t 12)⟩,
       ⟨none, none, .stl 2 1 (.t 26) (.t 23)⟩,
       ⟨some 6, none, .mov (.t 24)⟩] [2, 3, 4, 6, 8]))) (
    .reg [
      ⟨some 27, none, .bin .add (.t 8) (.c (.i 1))⟩,
      ⟨some 8, none, .mov (.t 27)⟩] [2, 3, 4, 6, 8]))))))) (
  .seq (
  .reg [
    ⟨some 28, none, .ldl 2 (some 9) (.t 2)⟩,
    ⟨some 29, none, .mov (.t 6)⟩,
    ⟨some 30, none, .bin .eql (.t 29) (.c (.u 64 1))⟩,
    ⟨none, none, .stl 4 9 (.t 4) (.t 28)⟩,
    ⟨some 5, none, .mov (.t 30)⟩] [4, 5]) (
  .ret))))
def m_nat_Add : MFn := ⟨c_nat_Add, [.cell 4 (some 9), .tmp 5], 0⟩

/-- curvet/nat.Mul -/
def c_nat_Mul : Stm :=
  .seq (
  .reg [
    ⟨some 2, none, .boxv (.t 0)⟩,
    ⟨some 3, none, .boxv (.t 1)⟩,
    ⟨some 4, none, .box (.c (.agg [.u 64 0, .u 64 0, .u 64 0, .u 64 0, .u 64 0, .u 64 0, .u 64 0, .u 64 0, .u 64 0, .u 64 0, .u 64 0, .u 64 0, .u 64 0, .u 64 0, .u 64 0, .u 64 0, .u 64 0, .u 64 0]))⟩] [2, 3, 4]) (
  .seq (
  .reg [
    ⟨some 5, none, .box (.c (.agg [.u 64 0, .u 64 0, .u 64 0, .u 64 0, .u 64 0, .u 64 0, .u 64 0, .u 64 0, .u 64 0, .u 64 0, .u 64 0, .u 64 0, .u 64 0, .u 64 0, .u 64 0, .u 64 0, .u 64 0, .u 64 0]))⟩] [2, 3, 4, 5]) (
  .seq (
  .reg [
    ⟨some 14, none, .call f_nat_used [] [(.t 2)]⟩,
    ⟨some 15, none, .call f_nat_used [] [(.t 3)]⟩,
    ⟨some 6, none, .mov (.t 14)⟩,
    ⟨some 7, none, .mov (.t 15)⟩] [2, 3, 4, 5, 6, 7]) (
  .seq (
  .seq (
  .reg [
    ⟨some 16, none, .mov (.t 6)⟩,
    ⟨some 17, none, .mov (.c (.i 0))⟩] [2, 3, 4, 5, 7, 16, 17]) (
  .block 0 (
   .loop [2, 3, 4, 5, 7, 16, 17] (
    .seq (
    .reg [
      ⟨some 18, none, .bin .lss (.t 17) (.t 16)⟩] [2, 3, 4, 5, 7, 16, 17, 18]) (
    .seq (
    .cond (.t 18) (
     .reg [] [2, 3, 4, 5, 7, 16, 17]) (
     .exit 0 [4, 5])) (
    .seq (
    .block 1 (
     .seq (
     .reg [
       ⟨some 19, none, .mov (.t 17)⟩,
       ⟨some 8, none, .mov (.t 19)⟩] [2, 3, 4, 5, 7, 8, 16, 17]) (
     .seq (
     .reg [
       ⟨some 9, none, .mov (.c (.u 64 0))⟩] [2, 3, 4, 5, 7, 8, 9, 16, 17]) (
     .seq (
     .seq (
     .reg [
       ⟨some 20, none, .mov (.t 7)⟩,
       ⟨some 21, none, .mov (.c (.i 0))⟩] [2, 3, 4, 5, 7, 8, 9, 16, 17, 20, 21]) (
     .block 2 (
      .loop [2, 3, 4, 5, 7, 8, 9, 16, 17, 20, 21] (
       .seq (
       .reg [
         ⟨some 22, none, .bin .lss (.t 21) (.t 20)⟩] [2, 3, 4, 5, 7, 8, 9, 16, 17, 20, 21, 22]) (
       .seq (
       .cond (.t 22) (
        .reg [] [2, 3, 4, 5, 7, 8, 9, 16, 17, 20, 21]) (
        .exit 2 [2, 3, 4, 5, 7, 8, 9, 16, 17])) (
       .seq (
       .block 3 (
        .seq (
        .reg [
          ⟨some 23, none, .mov (.t 21)⟩,
          ⟨some 10, none, .mov (.t 23)⟩] [2, 3, 4, 5, 7, 8, 9, 10, 16, 17, 20, 21]) (
        .seq (
        .reg [
          ⟨some 25, none, .mov (.t 8)⟩,
          ⟨some 26, none, .off 0 (.t 2)⟩,
          ⟨some 27, none, .idx 9 1 (.t 26) (.t 25)⟩,
          ⟨some 28, none, .ld true none (.t 27)⟩,
          ⟨some 29, none, .mov (.t 10)⟩,
          ⟨some 30, none, .off 0 (.t 3)⟩,
          ⟨some 31, none, .idx 9 1 (.t 30) (.t 29)⟩,
          ⟨some 32, none, .ld true none (.t 31)⟩,
          ⟨some 33, none, .call f_bits_Mul64 [] [(.t 28), (.t 32)]⟩,
          ⟨some 24, none, .mov (.t 33)⟩,
          ⟨some 34, none, .ext 0 (.t 24)⟩,
          ⟨some 35, none, .ext 1 (.t 24)⟩,
          ⟨some 11, none, .mov (.t 34)⟩,
          ⟨some 12, none, .mov (.t 35)⟩] [2, 3, 4, 5, 7, 8, 9, 10, 11, 12, 16, 17, 20, 21]) (
        .seq (
        .reg [
          ⟨some 13, none, .mov (.c (.u 64 0))⟩] [2, 3, 4, 5, 7, 8, 9, 10, 11, 12, 16, 17, 20, 21]) (
        .seq (
        .reg [
          ⟨some 37, none, .mov (.t 12)⟩,
          ⟨some 38, none, .mov (.t 8)⟩,
          ⟨some 39, none, .mov (.t 10)⟩,
          ⟨some 40, none, .bin .add (.t 38) (.t 39)⟩,
          ⟨some 41, none, .off 0 (.t 5)⟩,
          ⟨some 42, none, .idx 18 1 (.t 41) (.t 40)⟩,
          ⟨some 43, none, .ldl 5 none (.t 42)⟩,
          ⟨some 44, none, .prim .add64 [(.t 37), (.t 43), (.c (.u 64 0))]⟩,
          ⟨some 36, none, .mov (.t 44)⟩,
          ⟨some 45, none, .ext 0 (.t 36)⟩,
          ⟨some 46, none, .ext 1 (.t 36)⟩,
          ⟨some 12, none, .mov (.t 45)⟩,
          ⟨some 13, none, .mov (.t 46)⟩] [2, 3, 4, 5, 7, 8, 9, 10, 11, 12, 13, 16, 17, 20, 21]) (
        .seq (
        .reg [
          ⟨some 47, none, .mov (.t 11)⟩,
          ⟨some 48, none, .mov (.t 13)⟩,
          ⟨some 49, none, .bin .add (.t 47) (.t 48)⟩,
          ⟨some 11, none, .mov (.t 49)⟩] [2, 3, 4, 5, 7, 8, 9, 10, 11, 12, 16, 17, 20, 21]) (
        .seq (
        .reg [
          ⟨some 51, none, .mov (.t 12)⟩,
          ⟨some 52, none, .mov (.t 9)⟩,
          ⟨some 53, none, .prim .add64 [(.t 51), (.t 52), (.c (.u 64 0))]⟩,
          ⟨some 50, none, .mov (.t 53)⟩,
          ⟨some 54, none, .ext 0 (.t 50)⟩,
          ⟨some 55, none, .ext 1 (.t 50)⟩,
          ⟨some 12, none, .mov (.t 54)⟩,
          ⟨some 13, none, .mov (.t 55)⟩] [2, 3, 4, 5, 7, 8, 10, 11, 12, 13, 16, 17, 20, 21]) (
        .reg [
          ⟨some 56, none, .mov (.t 8)⟩,
          ⟨some 57, none, .mov (.t 10)⟩,
          ⟨some 58, none, .bin .add (.t 56) (.t 57)⟩,
          ⟨some 59, none, .mov (.t 12)⟩,
          ⟨some 60, none, .mov (.t 11)⟩,
          ⟨some 61, none, .mov (.t 13)⟩,
          ⟨some 62, none, .bin .add (.t 60) (.t 61)⟩,
          ⟨some 63, none, .off 0 (.t 5)⟩,
          ⟨some 64, none, .idx 18 1 (.t 63) (.t 58)⟩,
          ⟨none, none, .stl 5 1 (.t 64) (.t 59)⟩,
          ⟨some 9, none, .mov (.t 62)⟩] [2, 3, 4, 5, 7, 8, 9, 16, 17, 20, 21])))))))) (
       .reg [
         ⟨some 65, none, .bin .add (.t 21) (.c (.i 1))⟩,
         ⟨some 21, none, .mov (.t 65)⟩] [2, 3, 4, 5, 7, 8, 9, 16, 17, 20, 21]))))))) (
     .reg [
       ⟨some 66, none, .mov (.t 8)⟩,
       ⟨some 67, none, .mov (.t 7)⟩,
       ⟨some 68, none, .bin .add (.t 66) (.t 67)⟩,
       ⟨some 69, none, .mov (.t 9)⟩,
       ⟨some 70, none, .off 0 (.t 5)⟩,
       ⟨some 71, none, .idx 18 1 (.t 70) (.t 68)⟩,
       ⟨none, none, .stl 5 1 (.t 71) (.t 69)⟩] [2, 3, 4, 5, 7, 16, 17]))))) (
    .reg [
      ⟨some 72, none, .bin .add (.t 17) (.c (.i 1))⟩,
      ⟨some 17, none, .mov (.t 72)⟩] [2, 3, 4, 5, 7, 16, 17]))))))) (
  .seq (
  .reg [
    ⟨some 73, none, .ldl 5 (some 18) (.t 5)⟩,
    ⟨none, none, .stl 4 18 (.t 4) (.t 73)⟩] [4]) (
  .ret)))))
def m_nat_Mul : MFn := ⟨c_nat_Mul, [.cell 4 (some 18)], 0⟩

/-- curvet/nat.Sub -/
def c_nat_Sub : Stm :=
  .seq (
  .reg [
    ⟨some 2, none, .box (.t 0)⟩,
    ⟨some 3, none, .boxv (.t 1)⟩,
    ⟨some 4, none, .box (.c (.agg [.u 64 0, .u 64 0, .u 64 0, .u 64 0, .u 64 0, .u 64 0, .u 64 0, .u 64 0, .u 64 0]))⟩,
    ⟨some 5, none, .mov (.c (.b false))⟩] [2, 3, 4]) (
  .seq (
  .reg [
    ⟨some 6, none, .mov (.c (.u 64 0))⟩] [2, 3, 4, 6]) (
  .seq (
  .seq (
  .reg [
    ⟨some 8, none, .mov (.c (.i 0))⟩] [2, 3, 4, 6, 8]) (
  .block 0 (
   .loop [2, 3, 4, 6, 8] (
    .seq (
    .reg [
      ⟨some 9, none, .bin .lss (.t 8) (.c (.i 9))⟩] [2, 3, 4, 6, 8, 9]) (
    .seq (
    .cond (.t 9) (
     .reg [] [2, 3, 4, 6, 8]) (
     .exit 0 [2, 4, 6])) (
    .seq (
    .block 1 (
     .seq (
     .reg [
       ⟨some 10, none, .mov (.t 8)⟩,
       ⟨some 7, none, .mov (.t 10)⟩] [2, 3, 4, 6, 7, 8]) (
     .reg [
       ⟨some 12, none, .mov (.t 7)⟩,
       ⟨some 13, none, .mov (.t 7)⟩,
       ⟨some 14, none, .off 0 (.t 2)⟩,
       ⟨some 15, none, .idx 9 1 (.t 14) (.t 13)⟩,
       ⟨some 16, none, .ldl 2 none (.t 15)⟩,
       ⟨some 17, none, .mov (.t 7)⟩,
       ⟨some 18, none, .off 0 (.t 3)⟩,
       ⟨some 19, none, .idx 9 1 (.t 18) (.t 17)⟩,
       ⟨some 20, none, .ld true none (.t 19)⟩,
       ⟨some 21, none, .mov (.t 6)⟩,
       ⟨some 22, none, .prim .sub64 [(.t 16), (.t 20), (.t 21)]⟩,
       ⟨some 11, none, .mov (.t 22)⟩,
       ⟨some 23, none, .ext 0 (.t 11)⟩,
       ⟨some 24, none, .ext 1 (.t 11)⟩,
       ⟨some 25, none, .off 0 (.t 2)⟩,
       ⟨some 26, none, .idx 9 1 (.t 25) (.t 12)⟩,
       ⟨none, none, .stl 2 1 (.t 26) (.t 23)⟩,
       ⟨some 6, none, .mov (.t 24)⟩] [2, 3, 4, 6, 8]))) (
    .reg [
      ⟨some 27, none, .bin .add (.t 8) (.c (.i 1))⟩,
      ⟨some 8, none, .mov (.t 27)⟩] [2, 3, 4, 6, 8]))))))) (
  .seq (
  .reg [
    ⟨some 28, none, .ldl 2 (some 9) (.t 2)⟩,
    ⟨some 29, none, .mov (.t 6)⟩,
    ⟨some 30, none, .bin .eql (.t 29) (.c (.u 64 1))⟩,
    ⟨none, none, .stl 4 9 (.t 4) (.t 28)⟩,
    ⟨some 5, none, .mov (.t 30)⟩] [4, 5]) (
  .ret))))
def m_nat_Sub : MFn := ⟨c_nat_Sub, [.cell 4 (some 9), .tmp 5], 0⟩

/-- curvet/nat.Shl -/
def c_nat_Shl : Stm :=
  .seq (
  .reg [
    ⟨some 2, none, .boxv (.t 0)⟩,
    ⟨some 4, none, .box (.c (.agg [.u 64 0, .u 64 0, .u 64 0, .u 64 0, .u 64 0, .u 64 0, .u 64 0, .u 64 0, .u 64 0]))⟩,
    ⟨some 5, none, .mov (.c (.i 0))⟩] [1, 2, 4]) (
  .seq (
  .seq (
  .reg [
    ⟨some 10, none, .mov (.t 1)⟩,
    ⟨some 11, none, .bin .lss (.t 10) (.c (.i 0))⟩,
    ⟨some 12, none, .mov (.t 11)⟩,
    ⟨some 13, (some (12, false)), .mov (.t 1)⟩,
    ⟨some 14, (some (12, false)), .bin .gtr (.t 13) (.c (.i 576))⟩,
    ⟨some 15, none, .pick (.t 12) (.c (.b true)) (.t 14)⟩] [1, 2, 4, 15]) (
  .cond (.t 15) (
   .seq (
   .reg [
     ⟨some 16, none, .build [.u 64 0, .u 64 0, .u 64 0, .u 64 0, .u 64 0, .u 64 0, .u 64 0, .u 64 0, .u 64 0] []⟩,
     ⟨none, none, .stl 4 9 (.t 4) (.t 16)⟩,
     ⟨some 5, none, .mov (.c (.i 102))⟩] [4, 5]) (
   .ret)) (
   .reg [] [1, 2, 4]))) (
  .seq (
  .reg [
    ⟨some 6, none, .box (.c (.agg [.u 64 0, .u 64 0, .u 64 0, .u 64 0, .u 64 0, .u 64 0, .u 64 0, .u 64 0, .u 64 0]))⟩] [1, 2, 4, 6]) (
  .seq (
  .reg [
    ⟨some 17, none, .mov (.t 1)⟩,
    ⟨some 18, none, .bin .quo (.t 17) (.c (.i 64))⟩,
    ⟨some 19, none, .mov (.t 1)⟩,
    ⟨some 20, none, .bin .rem (.t 19) (.c (.i 64))⟩,
    ⟨some 7, none, .mov (.t 18)⟩,
    ⟨some 8, none, .mov (.t 20)⟩] [2, 4, 6, 7, 8]) (
  .seq (
  .seq (
  .reg [
    ⟨some 21, none, .mov (.t 7)⟩,
    ⟨some 9, none, .mov (.t 21)⟩] [2, 4, 6, 7, 8, 9]) (
  .block 0 (
   .loop [2, 4, 6, 7, 8, 9] (
    .seq (
    .seq (
    .reg [
      ⟨some 22, none, .mov (.t 9)⟩,
      ⟨some 23, none, .bin .lss (.t 22) (.c (.i 9))⟩] [2, 4, 6, 7, 8, 9, 23]) (
    .cond (.t 23) (
     .reg [] [2, 4, 6, 7, 8, 9]) (
     .exit 0 [4, 6]))) (
    .seq (
    .block 1 (
     .seq (
     .reg [
       ⟨some 26, none, .mov (.t 9)⟩,
       ⟨some 27, none, .mov (.t 9)⟩,
       ⟨some 28, none, .mov (.t 7)⟩,
       ⟨some 29, none, .bin .sub (.t 27) (.t 28)⟩,
       ⟨some 30, none, .off 0 (.t 2)⟩,
       ⟨some 31, none, .idx 9 1 (.t 30) (.t 29)⟩,
       ⟨some 32, none, .ld true none (.t 31)⟩,
       ⟨some 33, none, .mov (.t 8)⟩,
       ⟨some 34, none, .bin .shl (.t 32) (.t 33)⟩,
       ⟨some 35, none, .off 0 (.t 6)⟩,
       ⟨some 36, none, .idx 9 1 (.t 35) (.t 26)⟩,
       ⟨none, none, .stl 6 1 (.t 36) (.t 34)⟩] [2, 4, 6, 7, 8, 9]) (
     .seq (
     .reg [
       ⟨some 37, none, .mov (.t 9)⟩,
       ⟨some 38, none, .mov (.t 7)⟩,
       ⟨some 39, none, .bin .gtr (.t 37) (.t 38)⟩] [2, 4, 6, 7, 8, 9, 39]) (
     .cond (.t 39) (
      .reg [
        ⟨some 40, none, .mov (.t 9)⟩,
        ⟨some 41, none, .off 0 (.t 6)⟩,
        ⟨some 42, none, .idx 9 1 (.t 41) (.t 40)⟩,
        ⟨some 43, none, .ldl 6 none (.t 42)⟩,
        ⟨some 44, none, .mov (.t 9)⟩,
        ⟨some 45, none, .mov (.t 7)⟩,
        ⟨some 46, none, .bin .sub (.t 44) (.t 45)⟩,
        ⟨some 47, none, .bin .sub (.t 46) (.c (.i 1))⟩,
        ⟨some 48, none, .off 0 (.t 2)⟩,
        ⟨some 49, none, .idx 9 1 (.t 48) (.t 47)⟩,
        ⟨some 50, none, .ld true none (.t 49)⟩,
        ⟨some 51, none, .mov (.t 8)⟩,
        ⟨some 52, none, .bin .sub (.c (.i 64)) (.t 51)⟩,
        ⟨some 53, none, .bin .shr (.t 50) (.t 52)⟩,
        ⟨some 54, none, .bin .or (.t 43) (.t 53)⟩,
        ⟨some 55, none, .off 0 (.t 6)⟩,
        ⟨some 56, none, .idx 9 1 (.t 55) (.t 40)⟩,
        ⟨none, none, .stl 6 1 (.t 56) (.t 54)⟩] [2, 4, 6, 7, 8, 9]) (
      .reg [] [2, 4, 6, 7, 8, 9]))))) (
    .reg [
      ⟨some 24, none, .mov (.t 9)⟩,
      ⟨some 25, none, .bin .add (.t 24) (.c (.i 1))⟩,
      ⟨some 9, none, .mov (.t 25)⟩] [2, 4, 6, 7, 8, 9])))))) (
  .seq (
  .reg [
    ⟨some 57, none, .ldl 6 (some 9) (.t 6)⟩,
    ⟨none, none, .stl 4 9 (.t 4) (.t 57)⟩,
    ⟨some 5, none, .mov (.c (.i 0))⟩] [4, 5]) (
  .ret))))))
def m_nat_Shl : MFn := ⟨c_nat_Shl, [.cell 4 (some 9), .tmp 5], 0⟩

/-- curvet/nat.Bit -/
def c_nat_Bit : Stm :=
  .seq (
  .reg [
    ⟨some 2, none, .boxv (.t 0)⟩,
    ⟨some 4, none, .mov (.c (.i 0))⟩] [1, 2]) (
  .seq (
  .seq (
  .reg [
    ⟨some 5, none, .mov (.t 1)⟩,
    ⟨some 6, none, .bin .lss (.t 5) (.c (.i 0))⟩,
    ⟨some 7, none, .mov (.t 6)⟩,
    ⟨some 8, (some (7, false)), .mov (.t 1)⟩,
    ⟨some 9, (some (7, false)), .bin .geq (.t 8) (.c (.i 576))⟩,
    ⟨some 10, none, .pick (.t 7) (.c (.b true)) (.t 9)⟩] [1, 2, 10]) (
  .cond (.t 10) (
   .seq (
   .reg [
     ⟨some 4, none, .mov (.c (.i 0))⟩] [4]) (
   .ret)) (
   .reg [] [1, 2]))) (
  .seq (
  .reg [
    ⟨some 11, none, .mov (.t 1)⟩,
    ⟨some 12, none, .bin .quo (.t 11) (.c (.i 64))⟩,
    ⟨some 13, none, .off 0 (.t 2)⟩,
    ⟨some 14, none, .idx 9 1 (.t 13) (.t 12)⟩,
    ⟨some 15, none, .ld true none (.t 14)⟩,
    ⟨some 16, none, .mov (.t 1)⟩,
    ⟨some 17, none, .bin .rem (.t 16) (.c (.i 64))⟩,
    ⟨some 18, none, .bin .shr (.t 15) (.t 17)⟩,
    ⟨some 19, none, .bin .and (.t 18) (.c (.u 64 1))⟩,
    ⟨some 20, none, .cvi (.t 19)⟩,
    ⟨some 4, none, .mov (.t 20)⟩] [4]) (
  .ret)))
def m_nat_Bit : MFn := ⟨c_nat_Bit, [.tmp 4], 0⟩

/-- curvet/curvetref1.Add -/
def c_curvetref1_Add : Stm :=
  .seq (
  .reg [
    ⟨some 4, none, .mov (.c (.vs 0 []))⟩] [0, 1]) (
  .seq (
  .reg [
    ⟨some 10, none, .mov (.t 0)⟩,
    ⟨some 11, none, .len (.t 10)⟩,
    ⟨some 12, none, .mov (.t 1)⟩,
    ⟨some 13, none, .len (.t 12)⟩,
    ⟨some 14, none, .mx (.t 11) (.t 13)⟩,
    ⟨some 5, none, .mov (.t 14)⟩] [0, 1, 5]) (
  .seq (
  .reg [
    ⟨some 15, none, .mov (.t 5)⟩,
    ⟨some 16, none, .bin .add (.t 15) (.c (.i 1))⟩,
    ⟨some 17, none, .mks 1 4 [.u 32 0] (.t 16) (.t 16)⟩,
    ⟨some 6, none, .mov (.t 17)⟩] [0, 1, 5, 6]) (
  .seq (
  .reg [
    ⟨some 7, none, .mov (.c (.u 64 0))⟩] [0, 1, 5, 6, 7]) (
  .seq (
  .seq (
  .reg [
    ⟨some 8, none, .mov (.c (.i 0))⟩] [0, 1, 5, 6, 7, 8]) (
  .block 0 (
   .loop [0, 1, 5, 6, 7, 8] (
    .seq (
    .seq (
    .reg [
      ⟨some 18, none, .mov (.t 8)⟩,
      ⟨some 19, none, .mov (.t 5)⟩,
      ⟨some 20, none, .bin .lss (.t 18) (.t 19)⟩] [0, 1, 5, 6, 7, 8, 20]) (
    .cond (.t 20) (
     .reg [] [0, 1, 5, 6, 7, 8]) (
     .exit 0 [5, 6, 7]))) (
    .seq (
    .block 1 (
     .seq (
     .reg [
       ⟨some 23, none, .mov (.t 0)⟩,
       ⟨some 24, none, .mov (.t 8)⟩,
       ⟨some 25, none, .call f_curvetref1_digit [] [(.t 23), (.t 24)]⟩,
       ⟨some 26, none, .mov (.t 1)⟩,
       ⟨some 27, none, .mov (.t 8)⟩,
       ⟨some 28, none, .call f_curvetref1_digit [] [(.t 26), (.t 27)]⟩,
       ⟨some 29, none, .bin .add (.t 25) (.t 28)⟩,
       ⟨some 30, none, .mov (.t 7)⟩,
       ⟨some 31, none, .bin .add (.t 29) (.t 30)⟩,
       ⟨some 9, none, .mov (.t 31)⟩] [0, 1, 5, 6, 8, 9]) (
     .seq (
     .reg [
       ⟨some 32, none, .mov (.t 6)⟩,
       ⟨some 33, none, .mov (.t 8)⟩,
       ⟨some 34, none, .mov (.t 9)⟩,
       ⟨some 35, none, .bin .and (.t 34) (.c (.u 64 4294967295))⟩,
       ⟨some 36, none, .cvu 32 (.t 35)⟩,
       ⟨some 37, none, .idxs 1 (.t 32) (.t 33)⟩,
       ⟨none, none, .st 1 (.t 37) (.t 36)⟩] [0, 1, 5, 6, 8, 9]) (
     .reg [
       ⟨some 38, none, .mov (.t 9)⟩,
       ⟨some 39, none, .bin .shr (.t 38) (.c (.u 64 32))⟩,
       ⟨some 7, none, .mov (.t 39)⟩] [0, 1, 5, 6, 7, 8])))) (
    .reg [
      ⟨some 21, none, .mov (.t 8)⟩,
      ⟨some 22, none, .bin .add (.t 21) (.c (.i 1))⟩,
      ⟨some 8, none, .mov (.t 22)⟩] [0, 1, 5, 6, 7, 8])))))) (
  .seq (
  .reg [
    ⟨some 40, none, .mov (.t 6)⟩,
    ⟨some 41, none, .mov (.t 5)⟩,
    ⟨some 42, none, .mov (.t 7)⟩,
    ⟨some 43, none, .cvu 32 (.t 42)⟩,
    ⟨some 44, none, .idxs 1 (.t 40) (.t 41)⟩,
    ⟨none, none, .st 1 (.t 44) (.t 43)⟩] [6]) (
  .seq (
  .reg [
    ⟨some 45, none, .mov (.t 6)⟩,
    ⟨some 46, none, .call f_curvetref1_trim [] [(.t 45)]⟩,
    ⟨some 4, none, .mov (.t 46)⟩] [4]) (
  .ret)))))))
def m_curvetref1_Add : MFn := ⟨c_curvetref1_Add, [.tmp 4], 0⟩

/-- curvet/curvetref1.Cmp -/
def c_curvetref1_Cmp : Stm :=
  .seq (
  .reg [
    ⟨some 4, none, .mov (.c (.i 0))⟩] [0, 1]) (
  .seq (
  .seq (
  .reg [
    ⟨some 6, none, .mov (.t 0)⟩,
    ⟨some 7, none, .len (.t 6)⟩,
    ⟨some 8, none, .mov (.t 1)⟩,
    ⟨some 9, none, .len (.t 8)⟩,
    ⟨some 10, none, .bin .neq (.t 7) (.t 9)⟩] [0, 1, 10]) (
  .cond (.t 10) (
   .seq (
   .seq (
   .reg [
     ⟨some 11, none, .mov (.t 0)⟩,
     ⟨some 12, none, .len (.t 11)⟩,
     ⟨some 13, none, .mov (.t 1)⟩,
     ⟨some 14, none, .len (.t 13)⟩,
     ⟨some 15, none, .bin .lss (.t 12) (.t 14)⟩] [15]) (
   .cond (.t 15) (
    .seq (
    .reg [
      ⟨some 4, none, .mov (.c (.i (-1)))⟩] [4]) (
    .ret)) (
    .reg [] []))) (
   .seq (
   .reg [
     ⟨some 4, none, .mov (.c (.i 1))⟩] [4]) (
   .ret))) (
   .reg [] [0, 1]))) (
  .seq (
  .seq (
  .reg [
    ⟨some 16, none, .mov (.t 0)⟩,
    ⟨some 17, none, .len (.t 16)⟩,
    ⟨some 18, none, .bin .sub (.t 17) (.c (.i 1))⟩,
    ⟨some 5, none, .mov (.t 18)⟩] [0, 1, 5]) (
  .block 0 (
   .loop [0, 1, 5] (
    .seq (
    .seq (
    .reg [
      ⟨some 19, none, .mov (.t 5)⟩,
      ⟨some 20, none, .bin .geq (.t 19) (.c (.i 0))⟩] [0, 1, 5, 20]) (
    .cond (.t 20) (
     .reg [] [0, 1, 5]) (
     .exit 0 []))) (
    .seq (
    .block 1 (
     .seq (
     .reg [
       ⟨some 23, none, .mov (.t 0)⟩,
       ⟨some 24, none, .mov (.t 5)⟩,
       ⟨some 25, none, .idxs 1 (.t 23) (.t 24)⟩,
       ⟨some 26, none, .ld false none (.t 25)⟩,
       ⟨some 27, none, .mov (.t 1)⟩,
       ⟨some 28, none, .mov (.t 5)⟩,
       ⟨some 29, none, .idxs 1 (.t 27) (.t 28)⟩,
       ⟨some 30, none, .ld false none (.t 29)⟩,
       ⟨some 31, none, .bin .neq (.t 26) (.t 30)⟩] [0, 1, 5, 31]) (
     .cond (.t 31) (
      .seq (
      .seq (
      .reg [
        ⟨some 32, none, .mov (.t 0)⟩,
        ⟨some 33, none, .mov (.t 5)⟩,
        ⟨some 34, none, .idxs 1 (.t 32) (.t 33)⟩,
        ⟨some 35, none, .ld false none (.t 34)⟩,
        ⟨some 36, none, .mov (.t 1)⟩,
        ⟨some 37, none, .mov (.t 5)⟩,
        ⟨some 38, none, .idxs 1 (.t 36) (.t 37)⟩,
        ⟨some 39, none, .ld false none (.t 38)⟩,
        ⟨some 40, none, .bin .lss (.t 35) (.t 39)⟩] [40]) (
      .cond (.t 40) (
       .seq (
       .reg [
         ⟨some 4, none, .mov (.c (.i (-1)))⟩] [4]) (
       .ret)) (
       .reg [] []))) (
      .seq (
      .reg [
        ⟨some 4, none, .mov (.c (.i 1))⟩] [4]) (
      .ret))) (
      .reg [] [0, 1, 5])))) (
    .reg [
      ⟨some 21, none, .mov (.t 5)⟩,
      ⟨some 22, none, .bin .sub (.t 21) (.c (.i 1))⟩,
      ⟨some 5, none, .mov (.t 22)⟩] [0, 1, 5])))))) (
  .seq (
  .reg [
    ⟨some 4, none, .mov (.c (.i 0))⟩] [4]) (
  .ret))))
def m_curvetref1_Cmp : MFn := ⟨c_curvetref1_Cmp, [.tmp 4], 0⟩

/-- curvet/curvetref1.Sub -/
def c_curvetref1_Sub : Stm :=
  .seq (
  .reg [
    ⟨some 4, none, .mov (.c (.vs 0 []))⟩] [0, 1]) (
  .seq (
  .reg [
    ⟨some 9, none, .mov (.t 0)⟩,
    ⟨some 10, none, .len (.t 9)⟩,
    ⟨some 11, none, .mks 1 4 [.u 32 0] (.t 10) (.t 10)⟩,
    ⟨some 5, none, .mov (.t 11)⟩] [0, 1, 5]) (
  .seq (
  .reg [
    ⟨some 6, none, .mov (.c (.u 64 0))⟩] [0, 1, 5, 6]) (
  .seq (
  .seq (
  .reg [
    ⟨some 7, none, .mov (.c (.i 0))⟩] [0, 1, 5, 6, 7]) (
  .block 0 (
   .loop [0, 1, 5, 6, 7] (
    .seq (
    .seq (
    .reg [
      ⟨some 12, none, .mov (.t 7)⟩,
      ⟨some 13, none, .mov (.t 0)⟩,
      ⟨some 14, none, .len (.t 13)⟩,
      ⟨some 15, none, .bin .lss (.t 12) (.t 14)⟩] [0, 1, 5, 6, 7, 15]) (
    .cond (.t 15) (
     .reg [] [0, 1, 5, 6, 7]) (
     .exit 0 [5]))) (
    .seq (
    .block 1 (
     .seq (
     .reg [
       ⟨some 18, none, .mov (.t 0)⟩,
       ⟨some 19, none, .mov (.t 7)⟩,
       ⟨some 20, none, .call f_curvetref1_digit [] [(.t 18), (.t 19)]⟩,
       ⟨some 21, none, .bin .add (.t 20) (.c (.u 64 4294967296))⟩,
       ⟨some 22, none, .mov (.t 1)⟩,
       ⟨some 23, none, .mov (.t 7)⟩,
       ⟨some 24, none, .call f_curvetref1_digit [] [(.t 22), (.t 23)]⟩,
       ⟨some 25, none, .bin .sub (.t 21) (.t 24)⟩,
       ⟨some 26, none, .mov (.t 6)⟩,
       ⟨some 27, none, .bin .sub (.t 25) (.t 26)⟩,
       ⟨some 8, none, .mov (.t 27)⟩] [0, 1, 5, 7, 8]) (
     .seq (
     .reg [
       ⟨some 28, none, .mov (.t 5)⟩,
       ⟨some 29, none, .mov (.t 7)⟩,
       ⟨some 30, none, .mov (.t 8)⟩,
       ⟨some 31, none, .bin .and (.t 30) (.c (.u 64 4294967295))⟩,
       ⟨some 32, none, .cvu 32 (.t 31)⟩,
       ⟨some 33, none, .idxs 1 (.t 28) (.t 29)⟩,
       ⟨none, none, .st 1 (.t 33) (.t 32)⟩] [0, 1, 5, 7, 8]) (
     .reg [
       ⟨some 34, none, .mov (.t 8)⟩,
       ⟨some 35, none, .bin .shr (.t 34) (.c (.u 64 32))⟩,
       ⟨some 36, none, .bin .sub (.c (.u 64 1)) (.t 35)⟩,
       ⟨some 6, none, .mov (.t 36)⟩] [0, 1, 5, 6, 7])))) (
    .reg [
      ⟨some 16, none, .mov (.t 7)⟩,
      ⟨some 17, none, .bin .add (.t 16) (.c (.i 1))⟩,
      ⟨some 7, none, .mov (.t 17)⟩] [0, 1, 5, 6, 7])))))) (
  .seq (
  .reg [
    ⟨some 37, none, .mov (.t 5)⟩,
    ⟨some 38, none, .call f_curvetref1_trim [] [(.t 37)]⟩,
    ⟨some 4, none, .mov (.t 38)⟩] [4]) (
  .ret)))))
def m_curvetref1_Sub : MFn := ⟨c_curvetref1_Sub, [.tmp 4], 0⟩

/-- curvet/curvetref1.Shl -/
def c_curvetref1_Shl : Stm :=
  .seq (
  .reg [
    ⟨some 4, none, .mov (.c (.vs 0 []))⟩] [0, 1]) (
  .seq (
  .reg [
    ⟨some 8, none, .mov (.t 0)⟩,
    ⟨some 9, none, .len (.t 8)⟩,
    ⟨some 10, none, .mov (.t 1)⟩,
    ⟨some 11, none, .bin .quo (.t 10) (.c (.i 32))⟩,
    ⟨some 12, none, .bin .add (.t 9) (.t 11)⟩,
    ⟨some 13, none, .bin .add (.t 12) (.c (.i 1))⟩,
    ⟨some 14, none, .mks 1 4 [.u 32 0] (.t 13) (.t 13)⟩,
    ⟨some 5, none, .mov (.t 14)⟩] [0, 1, 5]) (
  .seq (
  .seq (
  .reg [
    ⟨some 6, none, .mov (.c (.i 0))⟩] [0, 1, 5, 6]) (
  .block 0 (
   .loop [0, 1, 5, 6] (
    .seq (
    .seq (
    .reg [
      ⟨some 15, none, .mov (.t 6)⟩,
      ⟨some 16, none, .mov (.t 0)⟩,
      ⟨some 17, none, .len (.t 16)⟩,
      ⟨some 18, none, .bin .lss (.t 15) (.t 17)⟩] [0, 1, 5, 6, 18]) (
    .cond (.t 18) (
     .reg [] [0, 1, 5, 6]) (
     .exit 0 [5]))) (
    .seq (
    .block 1 (
     .seq (
     .reg [
       ⟨some 21, none, .mov (.t 0)⟩,
       ⟨some 22, none, .mov (.t 6)⟩,
       ⟨some 23, none, .idxs 1 (.t 21) (.t 22)⟩,
       ⟨some 24, none, .ld false none (.t 23)⟩,
       ⟨some 25, none, .cvu 64 (.t 24)⟩,
       ⟨some 26, none, .mov (.t 1)⟩,
       ⟨some 27, none, .bin .rem (.t 26) (.c (.i 32))⟩,
       ⟨some 28, none, .bin .shl (.t 25) (.t 27)⟩,
       ⟨some 7, none, .mov (.t 28)⟩] [0, 1, 5, 6, 7]) (
     .seq (
     .reg [
       ⟨some 29, none, .mov (.t 5)⟩,
       ⟨some 30, none, .mov (.t 6)⟩,
       ⟨some 31, none, .mov (.t 1)⟩,
       ⟨some 32, none, .bin .quo (.t 31) (.c (.i 32))⟩,
       ⟨some 33, none, .bin .add (.t 30) (.t 32)⟩,
       ⟨some 34, none, .mov (.t 5)⟩,
       ⟨some 35, none, .mov (.t 6)⟩,
       ⟨some 36, none, .mov (.t 1)⟩,
       ⟨some 37, none, .bin .quo (.t 36) (.c (.i 32))⟩,
       ⟨some 38, none, .bin .add (.t 35) (.t 37)⟩,
       ⟨some 39, none, .idxs 1 (.t 34) (.t 38)⟩,
       ⟨some 40, none, .ld false none (.t 39)⟩,
       ⟨some 41, none, .mov (.t 7)⟩,
       ⟨some 42, none, .bin .and (.t 41) (.c (.u 64 4294967295))⟩,
       ⟨some 43, none, .cvu 32 (.t 42)⟩,
       ⟨some 44, none, .bin .or (.t 40) (.t 43)⟩,
       ⟨some 45, none, .idxs 1 (.t 29) (.t 33)⟩,
       ⟨none, none, .st 1 (.t 45) (.t 44)⟩] [0, 1, 5, 6, 7]) (
     .reg [
       ⟨some 46, none, .mov (.t 5)⟩,
       ⟨some 47, none, .mov (.t 6)⟩,
       ⟨some 48, none, .mov (.t 1)⟩,
       ⟨some 49, none, .bin .quo (.t 48) (.c (.i 32))⟩,
       ⟨some 50, none, .bin .add (.t 47) (.t 49)⟩,
       ⟨some 51, none, .bin .add (.t 50) (.c (.i 1))⟩,
       ⟨some 52, none, .mov (.t 7)⟩,
       ⟨some 53, none, .bin .shr (.t 52) (.c (.u 64 32))⟩,
       ⟨some 54, none, .cvu 32 (.t 53)⟩,
       ⟨some 55, none, .idxs 1 (.t 46) (.t 51)⟩,
       ⟨none, none, .st 1 (.t 55) (.t 54)⟩] [0, 1, 5, 6])))) (
    .reg [
      ⟨some 19, none, .mov (.t 6)⟩,
      ⟨some 20, none, .bin .add (.t 19) (.c (.i 1))⟩,
      ⟨some 6, none, .mov (.t 20)⟩] [0, 1, 5, 6])))))) (
  .seq (
  .reg [
    ⟨some 56, none, .mov (.t 5)⟩,
    ⟨some 57, none, .call f_curvetref1_trim [] [(.t 56)]⟩,
    ⟨some 4, none, .mov (.t 57)⟩] [4]) (
  .ret))))
def m_curvetref1_Shl : MFn := ⟨c_curvetref1_Shl, [.tmp 4], 0⟩

/-- curvet/curvetref1.Wide -/
def c_curvetref1_Wide : Stm :=
  .seq (
  .reg [
    ⟨some 2, none, .box (.c (.agg [.u 64 0, .u 64 0, .u 64 0, .u 64 0, .u 64 0, .u 64 0, .u 64 0, .u 64 0, .u 64 0, .u 64 0, .u 64 0, .u 64 0, .u 64 0, .u 64 0, .u 64 0, .u 64 0, .u 64 0, .u 64 0]))⟩] [0, 2]) (
  .seq (
  .reg [
    ⟨some 3, none, .box (.c (.agg [.u 64 0, .u 64 0, .u 64 0, .u 64 0, .u 64 0, .u 64 0, .u 64 0, .u 64 0, .u 64 0, .u 64 0, .u 64 0, .u 64 0, .u 64 0, .u 64 0, .u 64 0, .u 64 0, .u 64 0, .u 64 0]))⟩] [0, 2, 3]) (
  .seq (
  .seq (
  .reg [
    ⟨some 4, none, .mov (.c (.i 0))⟩] [0, 2, 3, 4]) (
  .block 0 (
   .loop [0, 2, 3, 4] (
    .seq (
    .seq (
    .reg [
      ⟨some 5, none, .mov (.t 4)⟩,
      ⟨some 6, none, .bin .lss (.t 5) (.c (.i 18))⟩] [0, 2, 3, 4, 6]) (
    .cond (.t 6) (
     .reg [] [0, 2, 3, 4]) (
     .exit 0 [2, 3]))) (
    .seq (
    .block 1 (
     .reg [
       ⟨some 9, none, .mov (.t 4)⟩,
       ⟨some 10, none, .mov (.t 0)⟩,
       ⟨some 11, none, .mov (.t 4)⟩,
       ⟨some 12, none, .bin .mul (.c (.i 2)) (.t 11)⟩,
       ⟨some 13, none, .call f_curvetref1_digit [] [(.t 10), (.t 12)]⟩,
       ⟨some 14, none, .mov (.t 0)⟩,
       ⟨some 15, none, .mov (.t 4)⟩,
       ⟨some 16, none, .bin .mul (.c (.i 2)) (.t 15)⟩,
       ⟨some 17, none, .bin .add (.t 16) (.c (.i 1))⟩,
       ⟨some 18, none, .call f_curvetref1_digit [] [(.t 14), (.t 17)]⟩,
       ⟨some 19, none, .bin .shl (.t 18) (.c (.u 64 32))⟩,
       ⟨some 20, none, .bin .or (.t 13) (.t 19)⟩,
       ⟨some 21, none, .off 0 (.t 3)⟩,
       ⟨some 22, none, .idx 18 1 (.t 21) (.t 9)⟩,
       ⟨none, none, .stl 3 1 (.t 22) (.t 20)⟩] [0, 2, 3, 4])) (
    .reg [
      ⟨some 7, none, .mov (.t 4)⟩,
      ⟨some 8, none, .bin .add (.t 7) (.c (.i 1))⟩,
      ⟨some 4, none, .mov (.t 8)⟩] [0, 2, 3, 4])))))) (
  .seq (
  .reg [
    ⟨some 23, none, .ldl 3 (some 18) (.t 3)⟩,
    ⟨none, none, .stl 2 18 (.t 2) (.t 23)⟩] [2]) (
  .ret))))
def m_curvetref1_Wide : MFn := ⟨c_curvetref1_Wide, [.cell 2 (some 18)], 0⟩

/-- curvet/curvetref1.Mul -/
def c_curvetref1_Mul : Stm :=
  .seq (
  .reg [
    ⟨some 4, none, .mov (.c (.vs 0 []))⟩] [0, 1]) (
  .seq (
  .reg [
    ⟨some 10, none, .mov (.t 0)⟩,
    ⟨some 11, none, .len (.t 10)⟩,
    ⟨some 12, none, .mov (.t 1)⟩,
    ⟨some 13, none, .len (.t 12)⟩,
    ⟨some 14, none, .bin .add (.t 11) (.t 13)⟩,
    ⟨some 15, none, .mks 1 4 [.u 32 0] (.t 14) (.t 14)⟩,
    ⟨some 5, none, .mov (.t 15)⟩] [0, 1, 5]) (
  .seq (
  .seq (
  .reg [
    ⟨some 6, none, .mov (.c (.i 0))⟩] [0, 1, 5, 6]) (
  .block 0 (
   .loop [0, 1, 5, 6] (
    .seq (
    .seq (
    .reg [
      ⟨some 16, none, .mov (.t 6)⟩,
      ⟨some 17, none, .mov (.t 0)⟩,
      ⟨some 18, none, .len (.t 17)⟩,
      ⟨some 19, none, .bin .lss (.t 16) (.t 18)⟩] [0, 1, 5, 6, 19]) (
    .cond (.t 19) (
     .reg [] [0, 1, 5, 6]) (
     .exit 0 [5]))) (
    .seq (
    .block 1 (
     .seq (
     .reg [
       ⟨some 7, none, .mov (.c (.u 64 0))⟩] [0, 1, 5, 6, 7]) (
     .seq (
     .seq (
     .reg [
       ⟨some 8, none, .mov (.c (.i 0))⟩] [0, 1, 5, 6, 7, 8]) (
     .block 2 (
      .loop [0, 1, 5, 6, 7, 8] (
       .seq (
       .seq (
       .reg [
         ⟨some 22, none, .mov (.t 8)⟩,
         ⟨some 23, none, .mov (.t 1)⟩,
         ⟨some 24, none, .len (.t 23)⟩,
         ⟨some 25, none, .bin .lss (.t 22) (.t 24)⟩] [0, 1, 5, 6, 7, 8, 25]) (
       .cond (.t 25) (
        .reg [] [0, 1, 5, 6, 7, 8]) (
        .exit 2 [0, 1, 5, 6, 7]))) (
       .seq (
       .block 3 (
        .seq (
        .reg [
          ⟨some 28, none, .mov (.t 0)⟩,
          ⟨some 29, none, .mov (.t 6)⟩,
          ⟨some 30, none, .idxs 1 (.t 28) (.t 29)⟩,
          ⟨some 31, none, .ld false none (.t 30)⟩,
          ⟨some 32, none, .cvu 64 (.t 31)⟩,
          ⟨some 33, none, .mov (.t 1)⟩,
          ⟨some 34, none, .mov (.t 8)⟩,
          ⟨some 35, none, .idxs 1 (.t 33) (.t 34)⟩,
          ⟨some 36, none, .ld false none (.t 35)⟩,
          ⟨some 37, none, .cvu 64 (.t 36)⟩,
          ⟨some 38, none, .bin .mul (.t 32) (.t 37)⟩,
          ⟨some 39, none, .mov (.t 5)⟩,
          ⟨some 40, none, .mov (.t 6)⟩,
          ⟨some 41, none, .mov (.t 8)⟩,
          ⟨some 42, none, .bin .add (.t 40) (.t 41)⟩,
          ⟨some 43, none, .idxs 1 (.t 39) (.t 42)⟩,
          ⟨some 44, none, .ld false none (.t 43)⟩,
          ⟨some 45, none, .cvu 64 (.t 44)⟩,
          ⟨some 46, none, .bin .add (.t 38) (.t 45)⟩,
          ⟨some 47, none, .mov (.t 7)⟩,
          ⟨some 48, none, .bin .add (.t 46) (.t 47)⟩,
          ⟨some 9, none, .mov (.t 48)⟩] [0, 1, 5, 6, 8, 9]) (
        .seq (
        .reg [
          ⟨some 49, none, .mov (.t 5)⟩,
          ⟨some 50, none, .mov (.t 6)⟩,
          ⟨some 51, none, .mov (.t 8)⟩,
          ⟨some 52, none, .bin .add (.t 50) (.t 51)⟩,
          ⟨some 53, none, .mov (.t 9)⟩,
          ⟨some 54, none, .bin .and (.t 53) (.c (.u 64 4294967295))⟩,
          ⟨some 55, none, .cvu 32 (.t 54)⟩,
          ⟨some 56, none, .idxs 1 (.t 49) (.t 52)⟩,
          ⟨none, none, .st 1 (.t 56) (.t 55)⟩] [0, 1, 5, 6, 8, 9]) (
        .reg [
          ⟨some 57, none, .mov (.t 9)⟩,
          ⟨some 58, none, .bin .shr (.t 57) (.c (.u 64 32))⟩,
          ⟨some 7, none, .mov (.t 58)⟩] [0, 1, 5, 6, 7, 8])))) (
       .reg [
         ⟨some 26, none, .mov (.t 8)⟩,
         ⟨some 27, none, .bin .add (.t 26) (.c (.i 1))⟩,
         ⟨some 8, none, .mov (.t 27)⟩] [0, 1, 5, 6, 7, 8])))))) (
     .reg [
       ⟨some 59, none, .mov (.t 5)⟩,
       ⟨some 60, none, .mov (.t 6)⟩,
       ⟨some 61, none, .mov (.t 1)⟩,
       ⟨some 62, none, .len (.t 61)⟩,
       ⟨some 63, none, .bin .add (.t 60) (.t 62)⟩,
       ⟨some 64, none, .mov (.t 7)⟩,
       ⟨some 65, none, .cvu 32 (.t 64)⟩,
       ⟨some 66, none, .idxs 1 (.t 59) (.t 63)⟩,
       ⟨none, none, .st 1 (.t 66) (.t 65)⟩] [0, 1, 5, 6])))) (
    .reg [
      ⟨some 20, none, .mov (.t 6)⟩,
      ⟨some 21, none, .bin .add (.t 20) (.c (.i 1))⟩,
      ⟨some 6, none, .mov (.t 21)⟩] [0, 1, 5, 6])))))) (
  .seq (
  .reg [
    ⟨some 67, none, .mov (.t 5)⟩,
    ⟨some 68, none, .call f_curvetref1_trim [] [(.t 67)]⟩,
    ⟨some 4, none, .mov (.t 68)⟩] [4]) (
  .ret))))
def m_curvetref1_Mul : MFn := ⟨c_curvetref1_Mul, [.tmp 4], 0⟩

/-- curvet/nat.Cmp -/
def c_nat_Cmp : Stm :=
  .seq (
  .reg [
    ⟨some 2, none, .boxv (.t 0)⟩,
    ⟨some 3, none, .boxv (.t 1)⟩,
    ⟨some 4, none, .mov (.c (.i 0))⟩] [2, 3]) (
  .seq (
  .seq (
  .reg [
    ⟨some 5, none, .mov (.c (.i 8))⟩] [2, 3, 5]) (
  .block 0 (
   .loop [2, 3, 5] (
    .seq (
    .seq (
    .reg [
      ⟨some 6, none, .mov (.t 5)⟩,
      ⟨some 7, none, .bin .geq (.t 6) (.c (.i 0))⟩] [2, 3, 5, 7]) (
    .cond (.t 7) (
     .reg [] [2, 3, 5]) (
     .exit 0 []))) (
    .seq (
    .block 1 (
     .block 2 (
      .seq (
      .reg [
        ⟨some 11, none, .mov (.t 5)⟩,
        ⟨some 12, none, .off 0 (.t 2)⟩,
        ⟨some 13, none, .idx 9 1 (.t 12) (.t 11)⟩,
        ⟨some 14, none, .ld true none (.t 13)⟩,
        ⟨some 15, none, .mov (.t 5)⟩,
        ⟨some 16, none, .off 0 (.t 3)⟩,
        ⟨some 17, none, .idx 9 1 (.t 16) (.t 15)⟩,
        ⟨some 18, none, .ld true none (.t 17)⟩,
        ⟨some 19, none, .bin .lss (.t 14) (.t 18)⟩,
        ⟨some 10, none, .mov (.t 19)⟩] [2, 3, 5, 10]) (
      .cond (.t 10) (
       .seq (
       .reg [
         ⟨some 4, none, .mov (.c (.i (-1)))⟩] [4]) (
       .ret)) (
       .seq (
       .reg [
         ⟨some 21, none, .mov (.t 5)⟩,
         ⟨some 22, none, .off 0 (.t 2)⟩,
         ⟨some 23, none, .idx 9 1 (.t 22) (.t 21)⟩,
         ⟨some 24, none, .ld true none (.t 23)⟩,
         ⟨some 25, none, .mov (.t 5)⟩,
         ⟨some 26, none, .off 0 (.t 3)⟩,
         ⟨some 27, none, .idx 9 1 (.t 26) (.t 25)⟩,
         ⟨some 28, none, .ld true none (.t 27)⟩,
         ⟨some 29, none, .bin .gtr (.t 24) (.t 28)⟩,
         ⟨some 20, none, .mov (.t 29)⟩] [2, 3, 5, 20]) (
       .cond (.t 20) (
        .seq (
        .reg [
          ⟨some 4, none, .mov (.c (.i 1))⟩] [4]) (
        .ret)) (
        .reg [] [2, 3, 5]))))))) (
    .reg [
      ⟨some 8, none, .mov (.t 5)⟩,
      ⟨some 9, none, .bin .sub (.t 8) (.c (.i 1))⟩,
      ⟨some 5, none, .mov (.t 9)⟩] [2, 3, 5])))))) (
  .seq (
  .reg [
    ⟨some 4, none, .mov (.c (.i 0))⟩] [4]) (
  .ret)))
def m_nat_Cmp : MFn := ⟨c_nat_Cmp, [.tmp 4], 0⟩

/-- curvet/nat.Shr -/
def c_nat_Shr : Stm :=
  .seq (
  .reg [
    ⟨some 2, none, .boxv (.t 0)⟩,
    ⟨some 4, none, .box (.c (.agg [.u 64 0, .u 64 0, .u 64 0, .u 64 0, .u 64 0, .u 64 0, .u 64 0, .u 64 0, .u 64 0]))⟩,
    ⟨some 5, none, .mov (.c (.i 0))⟩] [1, 2, 4]) (
  .seq (
  .seq (
  .reg [
    ⟨some 10, none, .mov (.t 1)⟩,
    ⟨some 11, none, .bin .lss (.t 10) (.c (.i 0))⟩,
    ⟨some 12, none, .mov (.t 11)⟩,
    ⟨some 13, (some (12, false)), .mov (.t 1)⟩,
    ⟨some 14, (some (12, false)), .bin .gtr (.t 13) (.c (.i 576))⟩,
    ⟨some 15, none, .pick (.t 12) (.c (.b true)) (.t 14)⟩] [1, 2, 4, 15]) (
  .cond (.t 15) (
   .seq (
   .reg [
     ⟨some 16, none, .build [.u 64 0, .u 64 0, .u 64 0, .u 64 0, .u 64 0, .u 64 0, .u 64 0, .u 64 0, .u 64 0] []⟩,
     ⟨none, none, .stl 4 9 (.t 4) (.t 16)⟩,
     ⟨some 5, none, .mov (.c (.i 102))⟩] [4, 5]) (
   .ret)) (
   .reg [] [1, 2, 4]))) (
  .seq (
  .reg [
    ⟨some 6, none, .box (.c (.agg [.u 64 0, .u 64 0, .u 64 0, .u 64 0, .u 64 0, .u 64 0, .u 64 0, .u 64 0, .u 64 0]))⟩] [1, 2, 4, 6]) (
  .seq (
  .reg [
    ⟨some 17, none, .mov (.t 1)⟩,
    ⟨some 18, none, .bin .quo (.t 17) (.c (.i 64))⟩,
    ⟨some 19, none, .mov (.t 1)⟩,
    ⟨some 20, none, .bin .rem (.t 19) (.c (.i 64))⟩,
    ⟨some 7, none, .mov (.t 18)⟩,
    ⟨some 8, none, .mov (.t 20)⟩] [2, 4, 6, 7, 8]) (
  .seq (
  .seq (
  .reg [
    ⟨some 21, none, .mov (.t 7)⟩,
    ⟨some 22, none, .bin .sub (.c (.i 9)) (.t 21)⟩,
    ⟨some 23, none, .mov (.c (.i 0))⟩] [2, 4, 6, 7, 8, 22, 23]) (
  .block 0 (
   .loop [2, 4, 6, 7, 8, 22, 23] (
    .seq (
    .reg [
      ⟨some 24, none, .bin .lss (.t 23) (.t 22)⟩] [2, 4, 6, 7, 8, 22, 23, 24]) (
    .seq (
    .cond (.t 24) (
     .reg [] [2, 4, 6, 7, 8, 22, 23]) (
     .exit 0 [4, 6])) (
    .seq (
    .block 1 (
     .seq (
     .reg [
       ⟨some 25, none, .mov (.t 23)⟩,
       ⟨some 9, none, .mov (.t 25)⟩] [2, 4, 6, 7, 8, 9, 22, 23]) (
     .seq (
     .reg [
       ⟨some 26, none, .mov (.t 9)⟩,
       ⟨some 27, none, .mov (.t 9)⟩,
       ⟨some 28, none, .mov (.t 7)⟩,
       ⟨some 29, none, .bin .add (.t 27) (.t 28)⟩,
       ⟨some 30, none, .off 0 (.t 2)⟩,
       ⟨some 31, none, .idx 9 1 (.t 30) (.t 29)⟩,
       ⟨some 32, none, .ld true none (.t 31)⟩,
       ⟨some 33, none, .mov (.t 8)⟩,
       ⟨some 34, none, .bin .shr (.t 32) (.t 33)⟩,
       ⟨some 35, none, .off 0 (.t 6)⟩,
       ⟨some 36, none, .idx 9 1 (.t 35) (.t 26)⟩,
       ⟨none, none, .stl 6 1 (.t 36) (.t 34)⟩] [2, 4, 6, 7, 8, 9, 22, 23]) (
     .seq (
     .reg [
       ⟨some 37, none, .mov (.t 9)⟩,
       ⟨some 38, none, .mov (.t 7)⟩,
       ⟨some 39, none, .bin .add (.t 37) (.t 38)⟩,
       ⟨some 40, none, .bin .add (.t 39) (.c (.i 1))⟩,
       ⟨some 41, none, .bin .lss (.t 40) (.c (.i 9))⟩] [2, 4, 6, 7, 8, 9, 22, 23, 41]) (
     .cond (.t 41) (
      .reg [
        ⟨some 42, none, .mov (.t 9)⟩,
        ⟨some 43, none, .off 0 (.t 6)⟩,
        ⟨some 44, none, .idx 9 1 (.t 43) (.t 42)⟩,
        ⟨some 45, none, .ldl 6 none (.t 44)⟩,
        ⟨some 46, none, .mov (.t 9)⟩,
        ⟨some 47, none, .mov (.t 7)⟩,
        ⟨some 48, none, .bin .add (.t 46) (.t 47)⟩,
        ⟨some 49, none, .bin .add (.t 48) (.c (.i 1))⟩,
        ⟨some 50, none, .off 0 (.t 2)⟩,
        ⟨some 51, none, .idx 9 1 (.t 50) (.t 49)⟩,
        ⟨some 52, none, .ld true none (.t 51)⟩,
        ⟨some 53, none, .mov (.t 8)⟩,
        ⟨some 54, none, .bin .sub (.c (.i 64)) (.t 53)⟩,
        ⟨some 55, none, .bin .shl (.t 52) (.t 54)⟩,
        ⟨some 56, none, .bin .or (.t 45) (.t 55)⟩,
        ⟨some 57, none, .off 0 (.t 6)⟩,
        ⟨some 58, none, .idx 9 1 (.t 57) (.t 42)⟩,
        ⟨none, none, .stl 6 1 (.t 58) (.t 56)⟩] [2, 4, 6, 7, 8, 22, 23]) (
      .reg [] [2, 4, 6, 7, 8, 22, 23])))))) (
    .reg [
      ⟨some 59, none, .bin .add (.t 23) (.c (.i 1))⟩,
      ⟨some 23, none, .mov (.t 59)⟩] [2, 4, 6, 7, 8, 22, 23]))))))) (
  .seq (
  .reg [
    ⟨some 60, none, .ldl 6 (some 9) (.t 6)⟩,
    ⟨none, none, .stl 4 9 (.t 4) (.t 60)⟩,
    ⟨some 5, none, .mov (.c (.i 0))⟩] [4, 5]) (
  .ret))))))
def m_nat_Shr : MFn := ⟨c_nat_Shr, [.cell 4 (some 9), .tmp 5], 0⟩

/-- curvet/curvetref1.Bit -/
def c_curvetref1_Bit : Stm :=
  .seq (
  .reg [
    ⟨some 4, none, .mov (.c (.i 0))⟩] [0, 1]) (
  .seq (
  .reg [
    ⟨some 5, none, .mov (.t 0)⟩,
    ⟨some 6, none, .mov (.t 1)⟩,
    ⟨some 7, none, .bin .quo (.t 6) (.c (.i 32))⟩,
    ⟨some 8, none, .call f_curvetref1_digit [] [(.t 5), (.t 7)]⟩,
    ⟨some 9, none, .mov (.t 1)⟩,
    ⟨some 10, none, .bin .rem (.t 9) (.c (.i 32))⟩,
    ⟨some 11, none, .bin .shr (.t 8) (.t 10)⟩,
    ⟨some 12, none, .bin .and (.t 11) (.c (.u 64 1))⟩,
    ⟨some 13, none, .cvi (.t 12)⟩,
    ⟨some 4, none, .mov (.t 13)⟩] [4]) (
  .ret))
def m_curvetref1_Bit : MFn := ⟨c_curvetref1_Bit, [.tmp 4], 0⟩

/-- curvet/nat.Small -/
def c_nat_Small : Stm :=
  .seq (
  .reg [
    ⟨some 2, none, .box (.c (.agg [.u 64 0, .u 64 0, .u 64 0, .u 64 0, .u 64 0, .u 64 0, .u 64 0, .u 64 0, .u 64 0]))⟩] [0, 2]) (
  .seq (
  .reg [
    ⟨some 3, none, .mov (.t 0)⟩,
    ⟨some 4, none, .mx (.t 3) (.c (.i 0))⟩,
    ⟨some 5, none, .cvu 64 (.t 4)⟩,
    ⟨some 6, none, .build [.u 64 0, .u 64 0, .u 64 0, .u 64 0, .u 64 0, .u 64 0, .u 64 0, .u 64 0, .u 64 0] [(0, 1, (.t 5))]⟩,
    ⟨some 7, none, .build [.u 64 0, .u 64 0, .u 64 0, .u 64 0, .u 64 0, .u 64 0, .u 64 0, .u 64 0, .u 64 0] [(0, 9, (.t 6))]⟩,
    ⟨none, none, .stl 2 9 (.t 2) (.t 7)⟩] [2]) (
  .ret))
def m_nat_Small : MFn := ⟨c_nat_Small, [.cell 2 (some 9)], 0⟩

/-- curvet/curvetref1.Small -/
def c_curvetref1_Small : Stm :=
  .seq (
  .reg [
    ⟨some 2, none, .mov (.c (.vs 0 []))⟩] [0]) (
  .seq (
  .seq (
  .reg [
    ⟨some 3, none, .mov (.t 0)⟩,
    ⟨some 4, none, .bin .lss (.t 3) (.c (.i 0))⟩] [0, 4]) (
  .cond (.t 4) (
   .seq (
   .reg [
     ⟨some 2, none, .mov (.c (.vs 0 []))⟩] [2]) (
   .ret)) (
   .reg [] [0]))) (
  .seq (
  .reg [
    ⟨some 5, none, .mov (.t 0)⟩,
    ⟨some 6, none, .cvu 64 (.t 5)⟩,
    ⟨some 7, none, .bin .and (.t 6) (.c (.u 64 4294967295))⟩,
    ⟨some 8, none, .cvu 32 (.t 7)⟩,
    ⟨some 9, none, .mov (.t 0)⟩,
    ⟨some 10, none, .cvu 64 (.t 9)⟩,
    ⟨some 11, none, .bin .shr (.t 10) (.c (.u 64 32))⟩,
    ⟨some 12, none, .cvu 32 (.t 11)⟩,
    ⟨some 13, none, .lit true 1 2 [.u 32 0, .u 32 0] [(0, 1, (.t 8)), (1, 1, (.t 12))]⟩,
    ⟨some 14, none, .call f_curvetref1_trim [] [(.t 13)]⟩,
    ⟨some 2, none, .mov (.t 14)⟩] [2]) (
  .ret)))
def m_curvetref1_Small : MFn := ⟨c_curvetref1_Small, [.tmp 2], 0⟩

/-- curvet/curvetref1.Shr -/
def c_curvetref1_Shr : Stm :=
  .seq (
  .reg [
    ⟨some 4, none, .mov (.c (.vs 0 []))⟩] [0, 1]) (
  .seq (
  .seq (
  .reg [
    ⟨some 8, none, .mov (.t 1)⟩,
    ⟨some 9, none, .bin .quo (.t 8) (.c (.i 32))⟩,
    ⟨some 10, none, .mov (.t 0)⟩,
    ⟨some 11, none, .len (.t 10)⟩,
    ⟨some 12, none, .bin .geq (.t 9) (.t 11)⟩] [0, 1, 12]) (
  .cond (.t 12) (
   .seq (
   .reg [
     ⟨some 4, none, .mov (.c (.vs 0 []))⟩] [4]) (
   .ret)) (
   .reg [] [0, 1]))) (
  .seq (
  .reg [
    ⟨some 13, none, .mov (.t 0)⟩,
    ⟨some 14, none, .len (.t 13)⟩,
    ⟨some 15, none, .mov (.t 1)⟩,
    ⟨some 16, none, .bin .quo (.t 15) (.c (.i 32))⟩,
    ⟨some 17, none, .bin .sub (.t 14) (.t 16)⟩,
    ⟨some 18, none, .mks 1 4 [.u 32 0] (.t 17) (.t 17)⟩,
    ⟨some 5, none, .mov (.t 18)⟩] [0, 1, 5]) (
  .seq (
  .seq (
  .reg [
    ⟨some 6, none, .mov (.c (.i 0))⟩] [0, 1, 5, 6]) (
  .block 0 (
   .loop [0, 1, 5, 6] (
    .seq (
    .seq (
    .reg [
      ⟨some 19, none, .mov (.t 6)⟩,
      ⟨some 20, none, .mov (.t 5)⟩,
      ⟨some 21, none, .len (.t 20)⟩,
      ⟨some 22, none, .bin .lss (.t 19) (.t 21)⟩] [0, 1, 5, 6, 22]) (
    .cond (.t 22) (
     .reg [] [0, 1, 5, 6]) (
     .exit 0 [5]))) (
    .seq (
    .block 1 (
     .seq (
     .reg [
       ⟨some 25, none, .mov (.t 0)⟩,
       ⟨some 26, none, .mov (.t 6)⟩,
       ⟨some 27, none, .mov (.t 1)⟩,
       ⟨some 28, none, .bin .quo (.t 27) (.c (.i 32))⟩,
       ⟨some 29, none, .bin .add (.t 26) (.t 28)⟩,
       ⟨some 30, none, .call f_curvetref1_digit [] [(.t 25), (.t 29)]⟩,
       ⟨some 31, none, .mov (.t 0)⟩,
       ⟨some 32, none, .mov (.t 6)⟩,
       ⟨some 33, none, .mov (.t 1)⟩,
       ⟨some 34, none, .bin .quo (.t 33) (.c (.i 32))⟩,
       ⟨some 35, none, .bin .add (.t 32) (.t 34)⟩,
       ⟨some 36, none, .bin .add (.t 35) (.c (.i 1))⟩,
       ⟨some 37, none, .call f_curvetref1_digit [] [(.t 31), (.t 36)]⟩,
       ⟨some 38, none, .bin .shl (.t 37) (.c (.u 64 32))⟩,
       ⟨some 39, none, .bin .or (.t 30) (.t 38)⟩,
       ⟨some 7, none, .mov (.t 39)⟩] [0, 1, 5, 6, 7]) (
     .reg [
       ⟨some 40, none, .mov (.t 5)⟩,
       ⟨some 41, none, .mov (.t 6)⟩,
       ⟨some 42, none, .mov (.t 7)⟩,
       ⟨some 43, none, .mov (.t 1)⟩,
       ⟨some 44, none, .bin .rem (.t 43) (.c (.i 32))⟩,
       ⟨some 45, none, .bin .shr (.t 42) (.t 44)⟩,
       ⟨some 46, none, .bin .and (.t 45) (.c (.u 64 4294967295))⟩,
       ⟨some 47, none, .cvu 32 (.t 46)⟩,
       ⟨some 48, none, .idxs 1 (.t 40) (.t 41)⟩,
       ⟨none, none, .st 1 (.t 48) (.t 47)⟩] [0, 1, 5, 6]))) (
    .reg [
      ⟨some 23, none, .mov (.t 6)⟩,
      ⟨some 24, none, .bin .add (.t 23) (.c (.i 1))⟩,
      ⟨some 6, none, .mov (.t 24)⟩] [0, 1, 5, 6])))))) (
  .seq (
  .reg [
    ⟨some 49, none, .mov (.t 5)⟩,
    ⟨some 50, none, .call f_curvetref1_trim [] [(.t 49)]⟩,
    ⟨some 4, none, .mov (.t 50)⟩] [4]) (
  .ret)))))
def m_curvetref1_Shr : MFn := ⟨c_curvetref1_Shr, [.tmp 4], 0⟩

/-- math/bits.Mul64 -/
def c_bits_Mul64 : Stm :=
  .seq (
  .reg [
    ⟨some 4, none, .mov (.c (.u 64 0))⟩,
    ⟨some 5, none, .mov (.c (.u 64 0))⟩] [0, 1]) (
  .seq (
  .reg [
    ⟨some 14, none, .mov (.t 0)⟩,
    ⟨some 15, none, .bin .and (.t 14) (.c (.u 64 4294967295))⟩,
    ⟨some 6, none, .mov (.t 15)⟩] [0, 1, 6]) (
  .seq (
  .reg [
    ⟨some 16, none, .mov (.t 0)⟩,
    ⟨some 17, none, .bin .shr (.t 16) (.c (.u 64 32))⟩,
    ⟨some 7, none, .mov (.t 17)⟩] [0, 1, 6, 7]) (
  .seq (
  .reg [
    ⟨some 18, none, .mov (.t 1)⟩,
    ⟨some 19, none, .bin .and (.t 18) (.c (.u 64 4294967295))⟩,
    ⟨some 8, none, .mov (.t 19)⟩] [0, 1, 6, 7, 8]) (
  .seq (
  .reg [
    ⟨some 20, none, .mov (.t 1)⟩,
    ⟨some 21, none, .bin .shr (.t 20) (.c (.u 64 32))⟩,
    ⟨some 9, none, .mov (.t 21)⟩] [0, 1, 6, 7, 8, 9]) (
  .seq (
  .reg [
    ⟨some 22, none, .mov (.t 6)⟩,
    ⟨some 23, none, .mov (.t 8)⟩,
    ⟨some 24, none, .bin .mul (.t 22) (.t 23)⟩,
    ⟨some 10, none, .mov (.t 24)⟩] [0, 1, 6, 7, 8, 9, 10]) (
  .seq (
  .reg [
    ⟨some 25, none, .mov (.t 7)⟩,
    ⟨some 26, none, .mov (.t 8)⟩,
    ⟨some 27, none, .bin .mul (.t 25) (.t 26)⟩,
    ⟨some 28, none, .mov (.t 10)⟩,
    ⟨some 29, none, .bin .shr (.t 28) (.c (.u 64 32))⟩,
    ⟨some 30, none, .bin .add (.t 27) (.t 29)⟩,
    ⟨some 11, none, .mov (.t 30)⟩] [0, 1, 6, 7, 9, 11]) (
  .seq (
  .reg [
    ⟨some 31, none, .mov (.t 11)⟩,
    ⟨some 32, none, .bin .and (.t 31) (.c (.u 64 4294967295))⟩,
    ⟨some 12, none, .mov (.t 32)⟩] [0, 1, 6, 7, 9, 11, 12]) (
  .seq (
  .reg [
    ⟨some 33, none, .mov (.t 11)⟩,
    ⟨some 34, none, .bin .shr (.t 33) (.c (.u 64 32))⟩,
    ⟨some 13, none, .mov (.t 34)⟩] [0, 1, 6, 7, 9, 12, 13]) (
  .seq (
  .reg [
    ⟨some 35, none, .mov (.t 12)⟩,
    ⟨some 36, none, .mov (.t 6)⟩,
    ⟨some 37, none, .mov (.t 9)⟩,
    ⟨some 38, none, .bin .mul (.t 36) (.t 37)⟩,
    ⟨some 39, none, .bin .add (.t 35) (.t 38)⟩,
    ⟨some 12, none, .mov (.t 39)⟩] [0, 1, 7, 9, 12, 13]) (
  .seq (
  .reg [
    ⟨some 40, none, .mov (.t 7)⟩,
    ⟨some 41, none, .mov (.t 9)⟩,
    ⟨some 42, none, .bin .mul (.t 40) (.t 41)⟩,
    ⟨some 43, none, .mov (.t 13)⟩,
    ⟨some 44, none, .bin .add (.t 42) (.t 43)⟩,
    ⟨some 45, none, .mov (.t 12)⟩,
    ⟨some 46, none, .bin .shr (.t 45) (.c (.u 64 32))⟩,
    ⟨some 47, none, .bin .add (.t 44) (.t 46)⟩,
    ⟨some 4, none, .mov (.t 47)⟩] [0, 1, 4]) (
  .seq (
  .reg [
    ⟨some 48, none, .mov (.t 0)⟩,
    ⟨some 49, none, .mov (.t 1)⟩,
    ⟨some 50, none, .bin .mul (.t 48) (.t 49)⟩,
    ⟨some 5, none, .mov (.t 50)⟩] [4, 5]) (
  .ret))))))))))))
def m_bits_Mul64 : MFn := ⟨c_bits_Mul64, [.tmp 4, .tmp 5], 0⟩

def tab : List (Nat × MFn) := [
  (f_curvetlaw22_Ders, m_curvetlaw22_Ders),
  (f_curvetlaw22_DerBack, m_curvetlaw22_DerBack),
  (f_curvetlaw22_DerSpoilt, m_curvetlaw22_DerSpoilt),
  (f_curvetlaw22_DerLengths, m_curvetlaw22_DerLengths),
  (f_curvetlaw22_DerLoose, m_curvetlaw22_DerLoose),
  (f_curvetlaw22_DerGreat, m_curvetlaw22_DerGreat),
  (f_der_Get, m_der_Get),
  (f_curvetref13_Undo, m_curvetref13_Undo),
  (f_der_Put, m_der_Put),
  (f_curvetref13_Der, m_curvetref13_Der),
  (f_curvetref1_From, m_curvetref1_From),
  (f_curvetlaw0_Num, m_curvetlaw0_Num),
  (f_curvetlaw22_awake, m_curvetlaw22_awake),
  (f_nat_Bits, m_nat_Bits),
  (f_curvetlaw0_One, m_curvetlaw0_One),
  (f_der_reader_field, m_der_reader_field),
  (f_der_reader_number, m_der_reader_number),
  (f_curvetref13_take, m_curvetref13_take),
  (f_curvetref1_Bits, m_curvetref1_Bits),
  (f_curvetref1_Nat, m_curvetref1_Nat),
  (f_der_field, m_der_field),
  (f_der_number, m_der_number),
  (f_curvetref13_number, m_curvetref13_number),
  (f_curvetref1_trim, m_curvetref1_trim),
  (f_nat_used, m_nat_used),
  (f_bits_Len64, m_bits_Len64),
  (f_der_reader_byte, m_der_reader_byte),
  (f_der_reader_bytes, m_der_reader_bytes),
  (f_nat_Of, m_nat_Of),
  (f_curvetref1_Read, m_curvetref1_Read),
  (f_curvetref1_digit, m_curvetref1_digit),
  (f_nat_Bytes, m_nat_Bytes),
  (f_curvetref1_Bytes, m_curvetref1_Bytes),
  (f_curvetlaw0_Nat, m_curvetlaw0_Nat),
  (f_nat_Add, m_nat_Add),
  (f_nat_Mul, m_nat_Mul),
  (f_nat_Sub, m_nat_Sub),
  (f_nat_Shl, m_nat_Shl),
  (f_nat_Bit, m_nat_Bit),
  (f_curvetref1_Add, m_curvetref1_Add),
  (f_curvetref1_Cmp, m_curvetref1_Cmp),
  (f_curvetref1_Sub, m_curvetref1_Sub),
  (f_curvetref1_Shl, m_curvetref1_Shl),
  (f_curvetref1_Wide, m_curvetref1_Wide),
  (f_curvetref1_Mul, m_curvetref1_Mul),
  (f_nat_Cmp, m_nat_Cmp),
  (f_nat_Shr, m_nat_Shr),
  (f_curvetref1_Bit, m_curvetref1_Bit),
  (f_nat_Small, m_nat_Small),
  (f_curvetref1_Small, m_curvetref1_Small),
  (f_curvetref1_Shr, m_curvetref1_Shr),
  (f_bits_Mul64, m_bits_Mul64)]
def look (f : Nat) : List (Nat × MFn) → Option MFn
  | [] => none
  | (g, m) :: r => bif Nat.beq g f then some m else look f r
def T (f : Nat) : Option MFn := look f tab
end Mir
