/- A part of the proof that stands in this folder. No condition of its own. -/
import Derived.Test.YtmjkdmlndbfdjaaChecked
import Derived.Test.YtmjkdmlndbfdjaaPamU
set_option linter.unusedVariables false
set_option linter.unusedSimpArgs false
namespace Go.Proofs.Ytmjkdmlndbfdjaa
open Go Go.Proofs Go.Proofs.Ytmjkdmlndbfdjaa.Pam
def a3 : AFn := ⟨1, 
  .seq (.reg [⟨some 1, none, .w (.box 2 (.t 0))⟩,
    ⟨some 2, none, .d (.mv (.c (.bool false)))⟩])
  (.seq (.reg [⟨some 5, none, .d (.load true 2 (.t 1))⟩,
    ⟨some 6, none, .d (.call (.f 10) [(.t 5)])⟩,
    ⟨some 7, none, .d (.call (.f 9) [(.t 6)])⟩,
    ⟨some 3, none, .d (.mv (.t 7))⟩])
  (.seq (.reg [⟨some 8, none, .d (.load true 2 (.t 1))⟩,
    ⟨some 9, none, .d (.call (.f 10) [(.t 8)])⟩,
    ⟨some 10, none, .d (.call (.f 11) [(.t 9)])⟩,
    ⟨some 4, none, .d (.mv (.t 10))⟩])
  (.seq (.seq (.reg [⟨some 11, none, .d (.mv (.t 4))⟩,
    ⟨some 12, none, .d (.mv (.t 3))⟩,
    ⟨some 13, none, .d (.bin .bool .neq (.t 11) (.t 12))⟩])
  (.cond (.t 13) (.seq (.reg [⟨some 2, none, .d (.mv (.c (.bool false)))⟩])
   (.ret)) (.skip)))
  (.seq (.reg [⟨some 2, none, .d (.mv (.c (.bool true)))⟩])
  (.ret))))), [.tmp 2]⟩
abbrev k3 : List Nat := [0, 1, 2, 3, 4, 13]
abbrev o3 : List Nat := [1]
def a4 : AFn := ⟨2, 
  .seq (.reg [⟨some 3, none, .w (.box 2 (.t 1))⟩,
    ⟨some 4, none, .d (.mv (.c (.bool false)))⟩])
  (.seq (.reg [⟨some 10, none, .d (.mv (.t 0))⟩,
    ⟨some 11, none, .d (.load true 2 (.t 3))⟩,
    ⟨some 12, none, .d (.call (.f 10) [(.t 11)])⟩,
    ⟨some 13, none, .d (.call (.f 12) [(.t 10), (.t 12)])⟩,
    ⟨some 9, none, .d (.mv (.t 13))⟩,
    ⟨some 14, none, .d (.extract (.t 9) 0)⟩,
    ⟨some 15, none, .d (.extract (.t 9) 1)⟩,
    ⟨some 5, none, .w (.alloc [.int .i64 0, .int .i64 0])⟩,
    ⟨none, none, .w (.store 2 (.t 5) (.t 14))⟩,
    ⟨some 6, none, .d (.mv (.t 15))⟩])
  (.seq (.reg [⟨some 17, none, .d (.mv (.t 0))⟩,
    ⟨some 18, none, .d (.load true 2 (.t 3))⟩,
    ⟨some 19, none, .d (.call (.f 10) [(.t 18)])⟩,
    ⟨some 20, none, .d (.call (.f 13) [(.t 17), (.t 19)])⟩,
    ⟨some 16, none, .d (.mv (.t 20))⟩,
    ⟨some 21, none, .d (.extract (.t 16) 0)⟩,
    ⟨some 22, none, .d (.extract (.t 16) 1)⟩,
    ⟨some 7, none, .w (.alloc [.int .i64 0, .int .i64 0])⟩,
    ⟨none, none, .w (.store 2 (.t 7) (.t 21))⟩,
    ⟨some 8, none, .d (.mv (.t 22))⟩])
  (.seq (.seq (.reg [⟨some 23, none, .d (.load true 2 (.t 7))⟩,
    ⟨some 24, none, .d (.load true 2 (.t 5))⟩,
    ⟨some 25, none, .d (.call (.f 14) [(.t 23), (.t 24)])⟩,
    ⟨some 26, none, .d (.not (.t 25))⟩,
    ⟨some 27, none, .d (.mv (.t 26))⟩,
    ⟨some 28, some (27, false), .d (.mv (.t 8))⟩,
    ⟨some 29, some (27, false), .d (.mv (.t 6))⟩,
    ⟨some 30, some (27, false), .d (.bin .bool .neq (.t 28) (.t 29))⟩,
    ⟨some 31, none, .d (.pick (.t 27) (.c (.bool true)) (.t 30))⟩])
  (.cond (.t 31) (.seq (.reg [⟨some 4, none, .d (.mv (.c (.bool false)))⟩])
   (.ret)) (.skip)))
  (.seq (.reg [⟨some 4, none, .d (.mv (.c (.bool true)))⟩])
  (.ret))))), [.tmp 4]⟩
abbrev k4 : List Nat := [0, 1, 3, 4, 5, 6, 7, 8, 31]
abbrev o4 : List Nat := [3, 5, 7]
def a5 : AFn := ⟨2, 
  .seq (.reg [⟨some 2, none, .w (.box 2 (.t 0))⟩,
    ⟨some 3, none, .w (.box 2 (.t 1))⟩,
    ⟨some 4, none, .d (.mv (.c (.bool false)))⟩])
  (.seq (.dreg [] [⟨some 10, none, .d (.load true 2 (.t 2))⟩,
    ⟨some 11, none, .d (.call (.f 10) [(.t 10)])⟩,
    ⟨some 12, none, .d (.load true 2 (.t 3))⟩,
    ⟨some 13, none, .d (.call (.f 10) [(.t 12)])⟩,
    ⟨some 14, none, .d (.call (.f 15) [(.t 11), (.t 13)])⟩,
    ⟨some 9, none, .d (.mv (.t 14))⟩,
    ⟨some 15, none, .d (.extract (.t 9) 0)⟩,
    ⟨some 16, none, .d (.extract (.t 9) 1)⟩,
    ⟨some 5, none, .d (.mv (.t 15))⟩] [⟨some 6, none, .d (.mv (.t 16))⟩])
  (.seq (.dreg [] [⟨some 18, none, .d (.load true 2 (.t 2))⟩,
    ⟨some 19, none, .d (.call (.f 10) [(.t 18)])⟩,
    ⟨some 20, none, .d (.load true 2 (.t 3))⟩,
    ⟨some 21, none, .d (.call (.f 10) [(.t 20)])⟩,
    ⟨some 22, none, .d (.call (.f 16) [(.t 19), (.t 21)])⟩,
    ⟨some 17, none, .d (.mv (.t 22))⟩,
    ⟨some 23, none, .d (.extract (.t 17) 0)⟩,
    ⟨some 24, none, .d (.extract (.t 17) 1)⟩,
    ⟨some 7, none, .d (.mv (.t 23))⟩] [⟨some 8, none, .d (.mv (.t 24))⟩])
  (.seq (.seq (.reg [⟨some 25, none, .d (.mv (.t 7))⟩,
    ⟨some 26, none, .d (.mv (.t 5))⟩,
    ⟨some 27, none, .d (.bin .arith .neq (.t 25) (.t 26))⟩,
    ⟨some 28, none, .d (.mv (.t 27))⟩,
    ⟨some 29, some (28, false), .d (.mv (.t 8))⟩,
    ⟨some 30, some (28, false), .d (.mv (.t 6))⟩,
    ⟨some 31, some (28, false), .d (.bin .bool .neq (.t 29) (.t 30))⟩,
    ⟨some 32, none, .d (.pick (.t 28) (.c (.bool true)) (.t 31))⟩])
  (.cond (.t 32) (.seq (.reg [⟨some 4, none, .d (.mv (.c (.bool false)))⟩])
   (.ret)) (.skip)))
  (.seq (.reg [⟨some 4, none, .d (.mv (.c (.bool true)))⟩])
  (.ret))))), [.tmp 4]⟩
abbrev k5 : List Nat := [0, 1, 2, 3, 4, 5, 6, 7, 8, 32]
abbrev o5 : List Nat := [2, 3]
def a6 : AFn := ⟨3, 
  .seq (.reg [⟨some 5, none, .w (.box 2 (.t 2))⟩,
    ⟨some 6, none, .d (.mv (.c (.bool false)))⟩])
  (.seq (.reg [⟨some 12, none, .d (.mv (.t 0))⟩,
    ⟨some 13, none, .d (.mv (.t 1))⟩,
    ⟨some 14, none, .d (.load true 2 (.t 5))⟩,
    ⟨some 15, none, .d (.call (.f 10) [(.t 14)])⟩,
    ⟨some 16, none, .d (.call (.f 17) [(.t 12), (.t 13), (.t 15)])⟩,
    ⟨some 11, none, .d (.mv (.t 16))⟩,
    ⟨some 17, none, .d (.extract (.t 11) 0)⟩,
    ⟨some 18, none, .d (.extract (.t 11) 1)⟩,
    ⟨some 7, none, .w (.alloc [.int .i64 0, .int .i64 0])⟩,
    ⟨none, none, .w (.store 2 (.t 7) (.t 17))⟩,
    ⟨some 8, none, .d (.mv (.t 18))⟩])
  (.seq (.reg [⟨some 20, none, .d (.mv (.t 0))⟩,
    ⟨some 21, none, .d (.mv (.t 1))⟩,
    ⟨some 22, none, .d (.load true 2 (.t 5))⟩,
    ⟨some 23, none, .d (.call (.f 10) [(.t 22)])⟩,
    ⟨some 24, none, .d (.call (.f 18) [(.t 20), (.t 21), (.t 23)])⟩,
    ⟨some 19, none, .d (.mv (.t 24))⟩,
    ⟨some 25, none, .d (.extract (.t 19) 0)⟩,
    ⟨some 26, none, .d (.extract (.t 19) 1)⟩,
    ⟨some 9, none, .w (.alloc [.int .i64 0, .int .i64 0])⟩,
    ⟨none, none, .w (.store 2 (.t 9) (.t 25))⟩,
    ⟨some 10, none, .d (.mv (.t 26))⟩])
  (.seq (.seq (.reg [⟨some 27, none, .d (.load true 2 (.t 9))⟩,
    ⟨some 28, none, .d (.load true 2 (.t 7))⟩,
    ⟨some 29, none, .d (.call (.f 14) [(.t 27), (.t 28)])⟩,
    ⟨some 30, none, .d (.not (.t 29))⟩,
    ⟨some 31, none, .d (.mv (.t 30))⟩,
    ⟨some 32, some (31, false), .d (.mv (.t 10))⟩,
    ⟨some 33, some (31, false), .d (.mv (.t 8))⟩,
    ⟨some 34, some (31, false), .d (.bin .bool .neq (.t 32) (.t 33))⟩,
    ⟨some 35, none, .d (.pick (.t 31) (.c (.bool true)) (.t 34))⟩])
  (.cond (.t 35) (.seq (.reg [⟨some 6, none, .d (.mv (.c (.bool false)))⟩])
   (.ret)) (.skip)))
  (.seq (.reg [⟨some 6, none, .d (.mv (.c (.bool true)))⟩])
  (.ret))))), [.tmp 6]⟩
abbrev k6 : List Nat := [0, 1, 2, 5, 6, 7, 8, 9, 10, 35]
abbrev o6 : List Nat := [5, 7, 9]
def a7 : AFn := ⟨3, 
  .seq (.reg [⟨some 5, none, .w (.box 2 (.t 2))⟩,
    ⟨some 6, none, .d (.mv (.c (.bool false)))⟩])
  (.seq (.reg [⟨some 12, none, .d (.mv (.t 0))⟩,
    ⟨some 13, none, .d (.mv (.t 1))⟩,
    ⟨some 14, none, .d (.load true 2 (.t 5))⟩,
    ⟨some 15, none, .d (.call (.f 10) [(.t 14)])⟩,
    ⟨some 16, none, .d (.call (.f 19) [(.t 12), (.t 13), (.t 15)])⟩,
    ⟨some 11, none, .d (.mv (.t 16))⟩,
    ⟨some 17, none, .d (.extract (.t 11) 0)⟩,
    ⟨some 18, none, .d (.extract (.t 11) 1)⟩,
    ⟨some 7, none, .w (.alloc [.int .i64 0, .int .i64 0])⟩,
    ⟨none, none, .w (.store 2 (.t 7) (.t 17))⟩,
    ⟨some 8, none, .d (.mv (.t 18))⟩])
  (.seq (.reg [⟨some 20, none, .d (.mv (.t 0))⟩,
    ⟨some 21, none, .d (.mv (.t 1))⟩,
    ⟨some 22, none, .d (.load true 2 (.t 5))⟩,
    ⟨some 23, none, .d (.call (.f 10) [(.t 22)])⟩,
    ⟨some 24, none, .d (.call (.f 20) [(.t 20), (.t 21), (.t 23)])⟩,
    ⟨some 19, none, .d (.mv (.t 24))⟩,
    ⟨some 25, none, .d (.extract (.t 19) 0)⟩,
    ⟨some 26, none, .d (.extract (.t 19) 1)⟩,
    ⟨some 9, none, .w (.alloc [.int .i64 0, .int .i64 0])⟩,
    ⟨none, none, .w (.store 2 (.t 9) (.t 25))⟩,
    ⟨some 10, none, .d (.mv (.t 26))⟩])
  (.seq (.seq (.reg [⟨some 27, none, .d (.load true 2 (.t 9))⟩,
    ⟨some 28, none, .d (.load true 2 (.t 7))⟩,
    ⟨some 29, none, .d (.call (.f 14) [(.t 27), (.t 28)])⟩,
    ⟨some 30, none, .d (.not (.t 29))⟩,
    ⟨some 31, none, .d (.mv (.t 30))⟩,
    ⟨some 32, some (31, false), .d (.mv (.t 10))⟩,
    ⟨some 33, some (31, false), .d (.mv (.t 8))⟩,
    ⟨some 34, some (31, false), .d (.bin .bool .neq (.t 32) (.t 33))⟩,
    ⟨some 35, none, .d (.pick (.t 31) (.c (.bool true)) (.t 34))⟩])
  (.cond (.t 35) (.seq (.reg [⟨some 6, none, .d (.mv (.c (.bool false)))⟩])
   (.ret)) (.skip)))
  (.seq (.reg [⟨some 6, none, .d (.mv (.c (.bool true)))⟩])
  (.ret))))), [.tmp 6]⟩
abbrev k7 : List Nat := [0, 1, 2, 5, 6, 7, 8, 9, 10, 35]
abbrev o7 : List Nat := [5, 7, 9]
def a8 : AFn := ⟨2, 
  .seq (.reg [⟨some 3, none, .w (.box 2 (.t 1))⟩,
    ⟨some 4, none, .d (.mv (.c (.bool false)))⟩])
  (.seq (.reg [⟨some 10, none, .d (.mv (.t 0))⟩,
    ⟨some 11, none, .d (.load true 2 (.t 3))⟩,
    ⟨some 12, none, .d (.call (.f 10) [(.t 11)])⟩,
    ⟨some 13, none, .d (.call (.f 21) [(.t 10), (.t 12)])⟩,
    ⟨some 9, none, .d (.mv (.t 13))⟩,
    ⟨some 14, none, .d (.extract (.t 9) 0)⟩,
    ⟨some 15, none, .d (.extract (.t 9) 1)⟩,
    ⟨some 5, none, .w (.alloc [.int .i64 0, .int .i64 0])⟩,
    ⟨none, none, .w (.store 2 (.t 5) (.t 14))⟩,
    ⟨some 6, none, .d (.mv (.t 15))⟩])
  (.seq (.reg [⟨some 17, none, .d (.mv (.t 0))⟩,
    ⟨some 18, none, .d (.load true 2 (.t 3))⟩,
    ⟨some 19, none, .d (.call (.f 10) [(.t 18)])⟩,
    ⟨some 20, none, .d (.call (.f 22) [(.t 17), (.t 19)])⟩,
    ⟨some 16, none, .d (.mv (.t 20))⟩,
    ⟨some 21, none, .d (.extract (.t 16) 0)⟩,
    ⟨some 22, none, .d (.extract (.t 16) 1)⟩,
    ⟨some 7, none, .w (.alloc [.int .i64 0, .int .i64 0])⟩,
    ⟨none, none, .w (.store 2 (.t 7) (.t 21))⟩,
    ⟨some 8, none, .d (.mv (.t 22))⟩])
  (.seq (.seq (.reg [⟨some 23, none, .d (.load true 2 (.t 7))⟩,
    ⟨some 24, none, .d (.load true 2 (.t 5))⟩,
    ⟨some 25, none, .d (.call (.f 14) [(.t 23), (.t 24)])⟩,
    ⟨some 26, none, .d (.not (.t 25))⟩,
    ⟨some 27, none, .d (.mv (.t 26))⟩,
    ⟨some 28, some (27, false), .d (.mv (.t 8))⟩,
    ⟨some 29, some (27, false), .d (.mv (.t 6))⟩,
    ⟨some 30, some (27, false), .d (.bin .bool .neq (.t 28) (.t 29))⟩,
    ⟨some 31, none, .d (.pick (.t 27) (.c (.bool true)) (.t 30))⟩])
  (.cond (.t 31) (.seq (.reg [⟨some 4, none, .d (.mv (.c (.bool false)))⟩])
   (.ret)) (.skip)))
  (.seq (.reg [⟨some 4, none, .d (.mv (.c (.bool true)))⟩])
  (.ret))))), [.tmp 4]⟩
abbrev k8 : List Nat := [0, 1, 3, 4, 5, 6, 7, 8, 31]
abbrev o8 : List Nat := [3, 5, 7]
def a9 : AFn := ⟨1, 
  .seq (.reg [⟨some 1, none, .w (.box 2 (.t 0))⟩,
    ⟨some 2, none, .d (.mv (.c (.bool false)))⟩])
  (.seq (.reg [⟨some 3, none, .d (.load true 2 (.t 1))⟩,
    ⟨some 4, none, .d (.call (.f 23) [(.t 3)])⟩,
    ⟨some 2, none, .d (.mv (.t 4))⟩])
  (.ret)), [.tmp 2]⟩
abbrev k9 : List Nat := [0, 1, 2]
abbrev o9 : List Nat := [1]
def a10 : AFn := ⟨1, 
  .seq (.reg [⟨some 1, none, .w (.box 2 (.t 0))⟩,
    ⟨some 2, none, .w (.alloc [.int .i64 0, .int .i64 0])⟩])
  (.seq (.reg [⟨some 3, none, .w (.alloc [.int .i64 0, .int .i64 0])⟩])
  (.seq (.reg [⟨some 4, none, .d (.fa 0 (.t 1))⟩,
    ⟨some 5, none, .d (.load false 1 (.t 4))⟩,
    ⟨some 6, none, .d (.fa 0 (.t 3))⟩,
    ⟨none, none, .w (.store 1 (.t 6) (.t 5))⟩])
  (.seq (.reg [⟨some 7, none, .d (.fa 1 (.t 1))⟩,
    ⟨some 8, none, .d (.load false 1 (.t 7))⟩,
    ⟨some 9, none, .d (.fa 1 (.t 3))⟩,
    ⟨none, none, .w (.store 1 (.t 9) (.t 8))⟩])
  (.seq (.reg [⟨some 10, none, .d (.load true 2 (.t 3))⟩,
    ⟨none, none, .w (.store 2 (.t 2) (.t 10))⟩])
  (.ret))))), [.cell 2 2 true]⟩
abbrev k10 : List Nat := [0, 1, 2, 3]
abbrev o10 : List Nat := [1, 2, 3]
def a11 : AFn := ⟨1, 
  .seq (.reg [⟨some 1, none, .w (.box 2 (.t 0))⟩,
    ⟨some 2, none, .d (.mv (.c (.bool false)))⟩])
  (.seq (.reg [⟨some 3, none, .d (.fa 1 (.t 1))⟩,
    ⟨some 4, none, .d (.load false 1 (.t 3))⟩,
    ⟨some 5, none, .d (.call (.f 24) [(.t 4), (.c (.int .i64 1)), (.c (.int .i64 10))])⟩,
    ⟨some 6, none, .d (.mv (.t 5))⟩,
    ⟨some 7, some (6, true), .d (.fa 0 (.t 1))⟩,
    ⟨some 8, some (6, true), .d (.load false 1 (.t 7))⟩,
    ⟨some 9, some (6, true), .d (.fa 1 (.t 1))⟩,
    ⟨some 10, some (6, true), .d (.load false 1 (.t 9))⟩,
    ⟨some 11, some (6, true), .d (.call (.f 24) [(.t 8), (.c (.int .i64 0)), (.t 10)])⟩,
    ⟨some 12, none, .d (.pick (.t 6) (.t 11) (.c (.bool false)))⟩,
    ⟨some 2, none, .d (.mv (.t 12))⟩])
  (.ret)), [.tmp 2]⟩
abbrev k11 : List Nat := [0, 1, 2]
abbrev o11 : List Nat := [1]
def a12 : AFn := ⟨2, 
  .seq (.reg [⟨some 3, none, .w (.box 2 (.t 1))⟩,
    ⟨some 4, none, .w (.alloc [.int .i64 0, .int .i64 0])⟩,
    ⟨some 5, none, .d (.mv (.c (.bool false)))⟩])
  (.seq (.seq (.reg [⟨some 6, none, .d (.mv (.t 0))⟩,
    ⟨some 7, none, .d (.load true 2 (.t 3))⟩,
    ⟨some 8, none, .d (.call (.f 25) [(.t 6), (.c (.int .i64 0)), (.t 7)])⟩,
    ⟨some 9, none, .d (.not (.t 8))⟩])
  (.cond (.t 9) (.seq (.reg [⟨some 10, none, .d (.build [.int .i64 0, .int .i64 0] [])⟩,
     ⟨none, none, .w (.store 2 (.t 4) (.t 10))⟩,
     ⟨some 5, none, .d (.mv (.c (.bool false)))⟩])
   (.ret)) (.skip)))
  (.seq (.reg [⟨some 11, none, .d (.mv (.t 0))⟩,
    ⟨some 12, none, .d (.fa 0 (.t 3))⟩,
    ⟨some 13, none, .d (.load false 1 (.t 12))⟩,
    ⟨some 14, none, .d (.bin .arith .mul (.t 11) (.t 13))⟩,
    ⟨some 15, none, .d (.fa 1 (.t 3))⟩,
    ⟨some 16, none, .d (.load false 1 (.t 15))⟩,
    ⟨some 17, none, .d (.call (.f 26) [(.t 14), (.t 16)])⟩,
    ⟨none, none, .w (.store 2 (.t 4) (.t 17))⟩,
    ⟨some 5, none, .d (.mv (.c (.bool true)))⟩])
  (.ret))), [.cell 4 2 true, .tmp 5]⟩
abbrev k12 : List Nat := [0, 1, 3, 4, 5, 9]
abbrev o12 : List Nat := [3, 4]
def a13 : AFn := ⟨2, 
  .seq (.reg [⟨some 3, none, .w (.box 2 (.t 1))⟩,
    ⟨some 4, none, .w (.alloc [.int .i64 0, .int .i64 0])⟩,
    ⟨some 5, none, .d (.mv (.c (.bool false)))⟩])
  (.seq (.seq (.reg [⟨some 6, none, .d (.mv (.t 0))⟩,
    ⟨some 7, none, .d (.call (.f 27) [(.t 6)])⟩,
    ⟨some 8, none, .d (.not (.t 7))⟩,
    ⟨some 9, none, .d (.mv (.t 8))⟩,
    ⟨some 10, some (9, false), .d (.load true 2 (.t 3))⟩,
    ⟨some 11, some (9, false), .d (.call (.f 11) [(.t 10)])⟩,
    ⟨some 12, some (9, false), .d (.not (.t 11))⟩,
    ⟨some 13, none, .d (.pick (.t 9) (.c (.bool true)) (.t 12))⟩])
  (.cond (.t 13) (.seq (.reg [⟨some 14, none, .d (.build [.int .i64 0, .int .i64 0] [])⟩,
     ⟨none, none, .w (.store 2 (.t 4) (.t 14))⟩,
     ⟨some 5, none, .d (.mv (.c (.bool false)))⟩])
   (.ret)) (.skip)))
  (.seq (.reg [⟨some 15, none, .d (.mv (.t 0))⟩,
    ⟨some 16, none, .d (.fa 0 (.t 3))⟩,
    ⟨some 17, none, .d (.load false 1 (.t 16))⟩,
    ⟨some 18, none, .d (.bin .arith .mul (.t 15) (.t 17))⟩,
    ⟨some 19, none, .d (.fa 1 (.t 3))⟩,
    ⟨some 20, none, .d (.load false 1 (.t 19))⟩,
    ⟨some 21, none, .d (.call (.f 28) [(.t 18), (.t 20)])⟩,
    ⟨none, none, .w (.store 2 (.t 4) (.t 21))⟩,
    ⟨some 5, none, .d (.mv (.c (.bool true)))⟩])
  (.ret))), [.cell 4 2 true, .tmp 5]⟩
abbrev k13 : List Nat := [0, 1, 3, 4, 5, 13]
abbrev o13 : List Nat := [3, 4]
def a14 : AFn := ⟨2, 
  .seq (.reg [⟨some 2, none, .w (.box 2 (.t 0))⟩,
    ⟨some 3, none, .w (.box 2 (.t 1))⟩,
    ⟨some 4, none, .d (.mv (.c (.bool false)))⟩])
  (.seq (.seq (.reg [⟨some 5, none, .d (.mv (.c (.int .i64 0)))⟩])
  (.block 0 (.loop (.seq (.seq (.reg [⟨some 6, none, .d (.mv (.t 5))⟩,
      ⟨some 7, none, .d (.bin .arith .lss (.t 6) (.c (.int .i64 2)))⟩])
    (.cond (.t 7) (.skip) (.exit 0)))
    (.seq (.block 1 (.seq (.dreg [] [⟨some 10, none, .d (.mv (.t 5))⟩,
       ⟨some 11, none, .d (.iaA 2 1 (.t 2) (.t 10))⟩,
       ⟨some 12, none, .d (.load false 1 (.t 11))⟩,
       ⟨some 13, none, .d (.mv (.t 5))⟩,
       ⟨some 14, none, .d (.iaA 2 1 (.t 3) (.t 13))⟩,
       ⟨some 15, none, .d (.load false 1 (.t 14))⟩,
       ⟨some 16, none, .d (.bin .arith .neq (.t 12) (.t 15))⟩] [])
     (.cond (.t 16) (.seq (.reg [⟨some 4, none, .d (.mv (.c (.bool false)))⟩])
      (.ret)) (.skip))))
    (.reg [⟨some 8, none, .d (.mv (.t 5))⟩,
      ⟨some 9, none, .d (.bin .arith .add (.t 8) (.c (.int .i64 1)))⟩,
      ⟨some 5, none, .d (.mv (.t 9))⟩]))))))
  (.seq (.reg [⟨some 4, none, .d (.mv (.c (.bool true)))⟩])
  (.ret))), [.tmp 4]⟩
abbrev k14 : List Nat := [0, 1, 2, 3, 4, 5, 7, 16]
abbrev o14 : List Nat := [2, 3]
def a15 : AFn := ⟨2, 
  .seq (.reg [⟨some 2, none, .w (.box 2 (.t 0))⟩,
    ⟨some 3, none, .w (.box 2 (.t 1))⟩,
    ⟨some 4, none, .d (.mv (.c (.int .i64 0)))⟩,
    ⟨some 5, none, .d (.mv (.c (.bool false)))⟩])
  (.seq (.seq (.reg [⟨some 7, none, .d (.load true 2 (.t 2))⟩,
    ⟨some 8, none, .d (.call (.f 23) [(.t 7)])⟩,
    ⟨some 9, none, .d (.not (.t 8))⟩,
    ⟨some 10, none, .d (.mv (.t 9))⟩,
    ⟨some 11, some (10, false), .d (.load true 2 (.t 3))⟩,
    ⟨some 12, some (10, false), .d (.call (.f 23) [(.t 11)])⟩,
    ⟨some 13, some (10, false), .d (.not (.t 12))⟩,
    ⟨some 14, none, .d (.pick (.t 10) (.c (.bool true)) (.t 13))⟩])
  (.cond (.t 14) (.seq (.reg [⟨some 4, none, .d (.mv (.c (.int .i64 0)))⟩,
     ⟨some 5, none, .d (.mv (.c (.bool false)))⟩])
   (.ret)) (.skip)))
  (.seq (.seq (.reg [⟨some 6, none, .d (.mv (.c (.int .i64 1)))⟩])
  (.block 0 (.loop (.seq (.seq (.reg [⟨some 15, none, .d (.mv (.t 6))⟩,
      ⟨some 16, none, .d (.bin .arith .leq (.t 15) (.c (.int .i64 12)))⟩])
    (.cond (.t 16) (.skip) (.exit 0)))
    (.seq (.block 1 (.seq (.dreg [] [⟨some 19, none, .d (.mv (.t 6))⟩,
       ⟨some 20, none, .d (.load true 2 (.t 2))⟩,
       ⟨some 21, none, .d (.call (.f 29) [(.t 19), (.t 20)])⟩,
       ⟨some 22, none, .d (.fa 1 (.t 3))⟩,
       ⟨some 23, none, .d (.load false 1 (.t 22))⟩,
       ⟨some 24, none, .d (.bin .arith .mul (.t 21) (.t 23))⟩,
       ⟨some 25, none, .d (.fa 0 (.t 3))⟩,
       ⟨some 26, none, .d (.load false 1 (.t 25))⟩,
       ⟨some 27, none, .d (.fa 1 (.t 2))⟩,
       ⟨some 28, none, .d (.load false 1 (.t 27))⟩,
       ⟨some 29, none, .d (.mv (.t 6))⟩,
       ⟨some 30, none, .d (.call (.f 30) [(.t 28), (.t 29)])⟩,
       ⟨some 31, none, .d (.bin .arith .mul (.t 26) (.t 30))⟩,
       ⟨some 32, none, .d (.bin .arith .geq (.t 24) (.t 31))⟩] [])
     (.cond (.t 32) (.seq (.reg [⟨some 33, none, .d (.mv (.t 6))⟩,
        ⟨some 4, none, .d (.mv (.t 33))⟩,
        ⟨some 5, none, .d (.mv (.c (.bool true)))⟩])
      (.ret)) (.skip))))
    (.reg [⟨some 17, none, .d (.mv (.t 6))⟩,
      ⟨some 18, none, .d (.bin .arith .add (.t 17) (.c (.int .i64 2)))⟩,
      ⟨some 6, none, .d (.mv (.t 18))⟩]))))))
  (.seq (.reg [⟨some 4, none, .d (.mv (.c (.int .i64 0)))⟩,
    ⟨some 5, none, .d (.mv (.c (.bool false)))⟩])
  (.ret)))), [.tmp 4, .tmp 5]⟩
abbrev k15 : List Nat := [0, 1, 2, 3, 4, 5, 6, 14, 16, 32]
abbrev o15 : List Nat := [2, 3]
def a16 : AFn := ⟨2, 
  .seq (.reg [⟨some 2, none, .w (.box 2 (.t 0))⟩,
    ⟨some 3, none, .w (.box 2 (.t 1))⟩,
    ⟨some 4, none, .d (.mv (.c (.int .i64 0)))⟩,
    ⟨some 5, none, .d (.mv (.c (.bool false)))⟩])
  (.seq (.seq (.reg [⟨some 7, none, .d (.load true 2 (.t 2))⟩,
    ⟨some 8, none, .d (.call (.f 11) [(.t 7)])⟩,
    ⟨some 9, none, .d (.not (.t 8))⟩,
    ⟨some 10, none, .d (.mv (.t 9))⟩,
    ⟨some 11, some (10, false), .d (.load true 2 (.t 3))⟩,
    ⟨some 12, some (10, false), .d (.call (.f 11) [(.t 11)])⟩,
    ⟨some 13, some (10, false), .d (.not (.t 12))⟩,
    ⟨some 14, none, .d (.pick (.t 10) (.c (.bool true)) (.t 13))⟩])
  (.cond (.t 14) (.seq (.reg [⟨some 4, none, .d (.mv (.c (.int .i64 0)))⟩,
     ⟨some 5, none, .d (.mv (.c (.bool false)))⟩])
   (.ret)) (.skip)))
  (.seq (.seq (.reg [⟨some 6, none, .d (.mv (.c (.int .i64 1)))⟩])
  (.block 0 (.loop (.seq (.seq (.reg [⟨some 15, none, .d (.mv (.t 6))⟩,
      ⟨some 16, none, .d (.bin .arith .leq (.t 15) (.c (.int .i64 12)))⟩])
    (.cond (.t 16) (.skip) (.exit 0)))
    (.seq (.block 1 (.seq (.dreg [] [⟨some 19, none, .d (.load true 2 (.t 2))⟩,
       ⟨some 20, none, .d (.mv (.t 6))⟩,
       ⟨some 21, none, .d (.call (.f 31) [(.t 19), (.t 20)])⟩,
       ⟨some 22, none, .d (.fa 1 (.t 3))⟩,
       ⟨some 23, none, .d (.load false 1 (.t 22))⟩,
       ⟨some 24, none, .d (.bin .arith .mul (.t 21) (.t 23))⟩,
       ⟨some 25, none, .d (.fa 0 (.t 3))⟩,
       ⟨some 26, none, .d (.load false 1 (.t 25))⟩,
       ⟨some 27, none, .d (.fa 1 (.t 2))⟩,
       ⟨some 28, none, .d (.load false 1 (.t 27))⟩,
       ⟨some 29, none, .d (.mv (.t 6))⟩,
       ⟨some 30, none, .d (.call (.f 32) [(.t 28), (.t 29)])⟩,
       ⟨some 31, none, .d (.bin .arith .mul (.t 26) (.t 30))⟩,
       ⟨some 32, none, .d (.bin .arith .geq (.t 24) (.t 31))⟩] [])
     (.cond (.t 32) (.seq (.reg [⟨some 33, none, .d (.mv (.t 6))⟩,
        ⟨some 4, none, .d (.mv (.t 33))⟩,
        ⟨some 5, none, .d (.mv (.c (.bool true)))⟩])
      (.ret)) (.skip))))
    (.reg [⟨some 17, none, .d (.mv (.t 6))⟩,
      ⟨some 18, none, .d (.bin .arith .add (.t 17) (.c (.int .i64 2)))⟩,
      ⟨some 6, none, .d (.mv (.t 18))⟩]))))))
  (.seq (.reg [⟨some 4, none, .d (.mv (.c (.int .i64 0)))⟩,
    ⟨some 5, none, .d (.mv (.c (.bool false)))⟩])
  (.ret)))), [.tmp 4, .tmp 5]⟩
abbrev k16 : List Nat := [0, 1, 2, 3, 4, 5, 6, 14, 16, 32]
abbrev o16 : List Nat := [2, 3]
def a17 : AFn := ⟨3, 
  .seq (.reg [⟨some 5, none, .w (.box 2 (.t 2))⟩,
    ⟨some 6, none, .w (.alloc [.int .i64 0, .int .i64 0])⟩,
    ⟨some 7, none, .d (.mv (.c (.bool false)))⟩])
  (.seq (.seq (.reg [⟨some 8, none, .d (.mv (.t 0))⟩,
    ⟨some 9, none, .d (.mv (.t 1))⟩,
    ⟨some 10, none, .d (.load true 2 (.t 5))⟩,
    ⟨some 11, none, .d (.call (.f 25) [(.t 8), (.t 9), (.t 10)])⟩,
    ⟨some 12, none, .d (.not (.t 11))⟩])
  (.cond (.t 12) (.seq (.reg [⟨some 13, none, .d (.build [.int .i64 0, .int .i64 0] [])⟩,
     ⟨none, none, .w (.store 2 (.t 6) (.t 13))⟩,
     ⟨some 7, none, .d (.mv (.c (.bool false)))⟩])
   (.ret)) (.skip)))
  (.seq (.dreg [] [⟨some 14, none, .d (.mv (.t 0))⟩,
    ⟨some 15, none, .d (.mv (.t 1))⟩,
    ⟨some 16, none, .d (.call (.f 33) [(.t 14), (.t 15)])⟩,
    ⟨some 17, none, .d (.mv (.t 0))⟩,
    ⟨some 18, none, .d (.mv (.t 1))⟩,
    ⟨some 19, none, .d (.load true 2 (.t 5))⟩,
    ⟨some 20, none, .d (.call (.f 34) [(.t 17), (.t 18), (.t 19)])⟩,
    ⟨some 21, none, .d (.bin .arith .mul (.t 16) (.t 20))⟩,
    ⟨some 22, none, .d (.fa 1 (.t 5))⟩,
    ⟨some 23, none, .d (.load false 1 (.t 22))⟩,
    ⟨some 24, none, .d (.mv (.t 0))⟩,
    ⟨some 25, none, .d (.call (.f 30) [(.t 23), (.t 24)])⟩,
    ⟨some 26, none, .d (.call (.f 26) [(.t 21), (.t 25)])⟩] [⟨none, none, .w (.store 2 (.t 6) (.t 26))⟩,
    ⟨some 7, none, .d (.mv (.c (.bool true)))⟩])
  (.ret))), [.cell 6 2 true, .tmp 7]⟩
abbrev k17 : List Nat := [0, 1, 2, 5, 6, 7, 12]
abbrev o17 : List Nat := [5, 6]
def a18 : AFn := ⟨3, 
  .seq (.reg [⟨some 5, none, .w (.box 2 (.t 2))⟩,
    ⟨some 6, none, .w (.alloc [.int .i64 0, .int .i64 0])⟩,
    ⟨some 7, none, .d (.mv (.c (.bool false)))⟩])
  (.seq (.seq (.reg [⟨some 8, none, .d (.mv (.t 0))⟩,
    ⟨some 9, none, .d (.call (.f 27) [(.t 8)])⟩,
    ⟨some 10, none, .d (.not (.t 9))⟩,
    ⟨some 11, none, .d (.mv (.t 10))⟩,
    ⟨some 12, some (11, false), .d (.mv (.t 1))⟩,
    ⟨some 13, some (11, false), .d (.mv (.t 0))⟩,
    ⟨some 14, some (11, false), .d (.call (.f 24) [(.t 12), (.c (.int .i64 0)), (.t 13)])⟩,
    ⟨some 15, some (11, false), .d (.not (.t 14))⟩,
    ⟨some 16, none, .d (.pick (.t 11) (.c (.bool true)) (.t 15))⟩,
    ⟨some 17, none, .d (.mv (.t 16))⟩,
    ⟨some 18, some (17, false), .d (.load true 2 (.t 5))⟩,
    ⟨some 19, some (17, false), .d (.call (.f 11) [(.t 18)])⟩,
    ⟨some 20, some (17, false), .d (.not (.t 19))⟩,
    ⟨some 21, none, .d (.pick (.t 17) (.c (.bool true)) (.t 20))⟩])
  (.cond (.t 21) (.seq (.reg [⟨some 22, none, .d (.build [.int .i64 0, .int .i64 0] [])⟩,
     ⟨none, none, .w (.store 2 (.t 6) (.t 22))⟩,
     ⟨some 7, none, .d (.mv (.c (.bool false)))⟩])
   (.ret)) (.skip)))
  (.seq (.dreg [] [⟨some 23, none, .d (.load true 2 (.t 5))⟩,
    ⟨some 24, none, .d (.mv (.t 0))⟩,
    ⟨some 25, none, .d (.load true 2 (.t 5))⟩,
    ⟨some 26, none, .d (.mv (.t 0))⟩,
    ⟨some 27, none, .d (.mv (.t 1))⟩,
    ⟨some 28, none, .d (.call (.f 36) [(.t 25), (.t 26), (.t 27)])⟩,
    ⟨some 29, none, .d (.call (.f 35) [(.t 23), (.t 24), (.t 28)])⟩] [⟨none, none, .w (.store 2 (.t 6) (.t 29))⟩,
    ⟨some 7, none, .d (.mv (.c (.bool true)))⟩])
  (.ret))), [.cell 6 2 true, .tmp 7]⟩
abbrev k18 : List Nat := [0, 1, 2, 5, 6, 7, 21]
abbrev o18 : List Nat := [5, 6]
def a19 : AFn := ⟨3, 
  .seq (.reg [⟨some 5, none, .w (.box 2 (.t 2))⟩,
    ⟨some 6, none, .w (.alloc [.int .i64 0, .int .i64 0])⟩,
    ⟨some 7, none, .d (.mv (.c (.bool false)))⟩])
  (.seq (.seq (.reg [⟨some 8, none, .d (.mv (.t 0))⟩,
    ⟨some 9, none, .d (.mv (.t 1))⟩,
    ⟨some 10, none, .d (.load true 2 (.t 5))⟩,
    ⟨some 11, none, .d (.call (.f 25) [(.t 8), (.t 9), (.t 10)])⟩,
    ⟨some 12, none, .d (.not (.t 11))⟩])
  (.cond (.t 12) (.seq (.reg [⟨some 13, none, .d (.build [.int .i64 0, .int .i64 0] [])⟩,
     ⟨none, none, .w (.store 2 (.t 6) (.t 13))⟩,
     ⟨some 7, none, .d (.mv (.c (.bool false)))⟩])
   (.ret)) (.skip)))
  (.seq (.dreg [] [⟨some 14, none, .d (.mv (.t 0))⟩,
    ⟨some 15, none, .d (.mv (.t 1))⟩,
    ⟨some 16, none, .d (.load true 2 (.t 5))⟩,
    ⟨some 17, none, .d (.call (.f 37) [(.t 14), (.t 15), (.t 16)])⟩,
    ⟨some 18, none, .d (.fa 1 (.t 5))⟩,
    ⟨some 19, none, .d (.load false 1 (.t 18))⟩,
    ⟨some 20, none, .d (.mv (.t 0))⟩,
    ⟨some 21, none, .d (.call (.f 30) [(.t 19), (.t 20)])⟩,
    ⟨some 22, none, .d (.call (.f 26) [(.t 17), (.t 21)])⟩] [⟨none, none, .w (.store 2 (.t 6) (.t 22))⟩,
    ⟨some 7, none, .d (.mv (.c (.bool true)))⟩])
  (.ret))), [.cell 6 2 true, .tmp 7]⟩
abbrev k19 : List Nat := [0, 1, 2, 5, 6, 7, 12]
abbrev o19 : List Nat := [5, 6]
def a20 : AFn := ⟨3, 
  .seq (.reg [⟨some 5, none, .w (.box 2 (.t 2))⟩,
    ⟨some 6, none, .w (.alloc [.int .i64 0, .int .i64 0])⟩,
    ⟨some 7, none, .d (.mv (.c (.bool false)))⟩])
  (.seq (.seq (.reg [⟨some 8, none, .d (.mv (.t 0))⟩,
    ⟨some 9, none, .d (.call (.f 27) [(.t 8)])⟩,
    ⟨some 10, none, .d (.not (.t 9))⟩,
    ⟨some 11, none, .d (.mv (.t 10))⟩,
    ⟨some 12, some (11, false), .d (.mv (.t 1))⟩,
    ⟨some 13, some (11, false), .d (.mv (.t 0))⟩,
    ⟨some 14, some (11, false), .d (.call (.f 24) [(.t 12), (.c (.int .i64 0)), (.t 13)])⟩,
    ⟨some 15, some (11, false), .d (.not (.t 14))⟩,
    ⟨some 16, none, .d (.pick (.t 11) (.c (.bool true)) (.t 15))⟩,
    ⟨some 17, none, .d (.mv (.t 16))⟩,
    ⟨some 18, some (17, false), .d (.load true 2 (.t 5))⟩,
    ⟨some 19, some (17, false), .d (.call (.f 11) [(.t 18)])⟩,
    ⟨some 20, some (17, false), .d (.not (.t 19))⟩,
    ⟨some 21, none, .d (.pick (.t 17) (.c (.bool true)) (.t 20))⟩])
  (.cond (.t 21) (.seq (.reg [⟨some 22, none, .d (.build [.int .i64 0, .int .i64 0] [])⟩,
     ⟨none, none, .w (.store 2 (.t 6) (.t 22))⟩,
     ⟨some 7, none, .d (.mv (.c (.bool false)))⟩])
   (.ret)) (.skip)))
  (.seq (.dreg [] [⟨some 23, none, .d (.load true 2 (.t 5))⟩,
    ⟨some 24, none, .d (.mv (.t 0))⟩,
    ⟨some 25, none, .d (.load true 2 (.t 5))⟩,
    ⟨some 26, none, .d (.mv (.t 0))⟩,
    ⟨some 27, none, .d (.mv (.t 1))⟩,
    ⟨some 28, none, .d (.call (.f 38) [(.t 25), (.t 26), (.t 27)])⟩,
    ⟨some 29, none, .d (.call (.f 35) [(.t 23), (.t 24), (.t 28)])⟩] [⟨none, none, .w (.store 2 (.t 6) (.t 29))⟩,
    ⟨some 7, none, .d (.mv (.c (.bool true)))⟩])
  (.ret))), [.cell 6 2 true, .tmp 7]⟩
abbrev k20 : List Nat := [0, 1, 2, 5, 6, 7, 21]
abbrev o20 : List Nat := [5, 6]
def a21 : AFn := ⟨2, 
  .seq (.reg [⟨some 3, none, .w (.box 2 (.t 1))⟩,
    ⟨some 4, none, .w (.alloc [.int .i64 0, .int .i64 0])⟩,
    ⟨some 5, none, .d (.mv (.c (.bool false)))⟩])
  (.seq (.seq (.reg [⟨some 6, none, .d (.mv (.t 0))⟩,
    ⟨some 7, none, .d (.load true 2 (.t 3))⟩,
    ⟨some 8, none, .d (.call (.f 25) [(.t 6), (.c (.int .i64 0)), (.t 7)])⟩,
    ⟨some 9, none, .d (.not (.t 8))⟩,
    ⟨some 10, none, .d (.mv (.t 9))⟩,
    ⟨some 11, some (10, false), .d (.mv (.t 0))⟩,
    ⟨some 12, some (10, false), .d (.bin .arith .eql (.t 11) (.c (.int .i64 0)))⟩,
    ⟨some 13, none, .d (.pick (.t 10) (.c (.bool true)) (.t 12))⟩])
  (.cond (.t 13) (.seq (.reg [⟨some 14, none, .d (.build [.int .i64 0, .int .i64 0] [])⟩,
     ⟨none, none, .w (.store 2 (.t 4) (.t 14))⟩,
     ⟨some 5, none, .d (.mv (.c (.bool false)))⟩])
   (.ret)) (.skip)))
  (.seq (.dreg [] [⟨some 15, none, .d (.mv (.t 0))⟩,
    ⟨some 16, none, .d (.load true 2 (.t 3))⟩,
    ⟨some 17, none, .d (.call (.f 29) [(.t 15), (.t 16)])⟩,
    ⟨some 18, none, .d (.fa 1 (.t 3))⟩,
    ⟨some 19, none, .d (.load false 1 (.t 18))⟩,
    ⟨some 20, none, .d (.mv (.t 0))⟩,
    ⟨some 21, none, .d (.call (.f 30) [(.t 19), (.t 20)])⟩,
    ⟨some 22, none, .d (.call (.f 26) [(.t 17), (.t 21)])⟩] [⟨none, none, .w (.store 2 (.t 4) (.t 22))⟩,
    ⟨some 5, none, .d (.mv (.c (.bool true)))⟩])
  (.ret))), [.cell 4 2 true, .tmp 5]⟩
abbrev k21 : List Nat := [0, 1, 3, 4, 5, 13]
abbrev o21 : List Nat := [3, 4]
def a22 : AFn := ⟨2, 
  .seq (.reg [⟨some 3, none, .w (.box 2 (.t 1))⟩,
    ⟨some 4, none, .w (.alloc [.int .i64 0, .int .i64 0])⟩,
    ⟨some 5, none, .d (.mv (.c (.bool false)))⟩])
  (.seq (.seq (.reg [⟨some 6, none, .d (.mv (.t 0))⟩,
    ⟨some 7, none, .d (.call (.f 24) [(.t 6), (.c (.int .i64 1)), (.c (.int .i64 12))])⟩,
    ⟨some 8, none, .d (.not (.t 7))⟩,
    ⟨some 9, none, .d (.mv (.t 8))⟩,
    ⟨some 10, some (9, false), .d (.load true 2 (.t 3))⟩,
    ⟨some 11, some (9, false), .d (.call (.f 11) [(.t 10)])⟩,
    ⟨some 12, some (9, false), .d (.not (.t 11))⟩,
    ⟨some 13, none, .d (.pick (.t 9) (.c (.bool true)) (.t 12))⟩])
  (.cond (.t 13) (.seq (.reg [⟨some 14, none, .d (.build [.int .i64 0, .int .i64 0] [])⟩,
     ⟨none, none, .w (.store 2 (.t 4) (.t 14))⟩,
     ⟨some 5, none, .d (.mv (.c (.bool false)))⟩])
   (.ret)) (.skip)))
  (.seq (.dreg [] [⟨some 15, none, .d (.load true 2 (.t 3))⟩,
    ⟨some 16, none, .d (.mv (.t 0))⟩,
    ⟨some 17, none, .d (.load true 2 (.t 3))⟩,
    ⟨some 18, none, .d (.mv (.t 0))⟩,
    ⟨some 19, none, .d (.call (.f 31) [(.t 17), (.t 18)])⟩,
    ⟨some 20, none, .d (.call (.f 35) [(.t 15), (.t 16), (.t 19)])⟩] [⟨none, none, .w (.store 2 (.t 4) (.t 20))⟩,
    ⟨some 5, none, .d (.mv (.c (.bool true)))⟩])
  (.ret))), [.cell 4 2 true, .tmp 5]⟩
abbrev k22 : List Nat := [0, 1, 3, 4, 5, 13]
abbrev o22 : List Nat := [3, 4]
def a23 : AFn := ⟨1, 
  .seq (.reg [⟨some 1, none, .w (.box 2 (.t 0))⟩,
    ⟨some 2, none, .d (.mv (.c (.bool false)))⟩])
  (.seq (.reg [⟨some 3, none, .d (.fa 1 (.t 1))⟩,
    ⟨some 4, none, .d (.load false 1 (.t 3))⟩,
    ⟨some 5, none, .d (.call (.f 39) [(.t 4), (.c (.int .i64 1)), (.c (.int .i64 10))])⟩,
    ⟨some 6, none, .d (.mv (.t 5))⟩,
    ⟨some 7, some (6, true), .d (.fa 0 (.t 1))⟩,
    ⟨some 8, some (6, true), .d (.load false 1 (.t 7))⟩,
    ⟨some 9, some (6, true), .d (.fa 1 (.t 1))⟩,
    ⟨some 10, some (6, true), .d (.load false 1 (.t 9))⟩,
    ⟨some 11, some (6, true), .d (.call (.f 39) [(.t 8), (.c (.int .i64 0)), (.t 10)])⟩,
    ⟨some 12, none, .d (.pick (.t 6) (.t 11) (.c (.bool false)))⟩,
    ⟨some 2, none, .d (.mv (.t 12))⟩])
  (.ret)), [.tmp 2]⟩
abbrev k23 : List Nat := [0, 1, 2]
abbrev o23 : List Nat := [1]
def a24 : AFn := ⟨3, 
  .seq (.reg [⟨some 6, none, .d (.mv (.c (.bool false)))⟩])
  (.seq (.reg [⟨some 7, none, .d (.mv (.t 1))⟩,
    ⟨some 8, none, .d (.mv (.t 0))⟩,
    ⟨some 9, none, .d (.bin .arith .leq (.t 7) (.t 8))⟩,
    ⟨some 10, none, .d (.mv (.t 9))⟩,
    ⟨some 11, some (10, true), .d (.mv (.t 0))⟩,
    ⟨some 12, some (10, true), .d (.mv (.t 2))⟩,
    ⟨some 13, some (10, true), .d (.bin .arith .leq (.t 11) (.t 12))⟩,
    ⟨some 14, none, .d (.pick (.t 10) (.t 13) (.c (.bool false)))⟩,
    ⟨some 6, none, .d (.mv (.t 14))⟩])
  (.ret)), [.tmp 6]⟩
abbrev k24 : List Nat := [0, 1, 2, 6]
abbrev o24 : List Nat := []
def a25 : AFn := ⟨3, 
  .seq (.reg [⟨some 5, none, .w (.box 2 (.t 2))⟩,
    ⟨some 6, none, .d (.mv (.c (.bool false)))⟩])
  (.seq (.reg [⟨some 7, none, .d (.load true 2 (.t 5))⟩,
    ⟨some 8, none, .d (.call (.f 23) [(.t 7)])⟩,
    ⟨some 9, none, .d (.mv (.t 8))⟩,
    ⟨some 10, some (9, true), .d (.mv (.t 0))⟩,
    ⟨some 11, some (9, true), .d (.call (.f 39) [(.t 10), (.c (.int .i64 0)), (.c (.int .i64 12))])⟩,
    ⟨some 12, none, .d (.pick (.t 9) (.t 11) (.c (.bool false)))⟩,
    ⟨some 13, none, .d (.mv (.t 12))⟩,
    ⟨some 14, some (13, true), .d (.mv (.t 1))⟩,
    ⟨some 15, some (13, true), .d (.mv (.t 0))⟩,
    ⟨some 16, some (13, true), .d (.call (.f 39) [(.t 14), (.c (.int .i64 0)), (.t 15)])⟩,
    ⟨some 17, none, .d (.pick (.t 13) (.t 16) (.c (.bool false)))⟩,
    ⟨some 6, none, .d (.mv (.t 17))⟩])
  (.ret)), [.tmp 6]⟩
abbrev k25 : List Nat := [0, 1, 2, 5, 6]
abbrev o25 : List Nat := [5]
def a26 : AFn := ⟨2, 
  .seq (.reg [⟨some 4, none, .w (.alloc [.int .i64 0, .int .i64 0])⟩])
  (.seq (.reg [⟨some 7, none, .d (.mv (.t 0))⟩,
    ⟨some 8, none, .d (.mv (.t 1))⟩,
    ⟨some 5, none, .d (.mv (.t 7))⟩,
    ⟨some 6, none, .d (.mv (.t 8))⟩])
  (.seq (.block 0 (.loop (.seq (.seq (.reg [⟨some 9, none, .d (.mv (.t 6))⟩,
      ⟨some 10, none, .d (.bin .arith .gtr (.t 9) (.c (.int .i64 0)))⟩])
    (.cond (.t 10) (.skip) (.exit 0)))
    (.block 1 (.dreg [] [⟨some 11, none, .d (.mv (.t 6))⟩,
       ⟨some 12, none, .d (.mv (.t 5))⟩,
       ⟨some 13, none, .d (.mv (.t 6))⟩,
       ⟨some 14, none, .d (.bin .arith .rem (.t 12) (.t 13))⟩,
       ⟨some 5, none, .d (.mv (.t 11))⟩] [⟨some 6, none, .d (.mv (.t 14))⟩])))))
  (.seq (.dreg [] [⟨some 15, none, .d (.mv (.t 0))⟩,
    ⟨some 16, none, .d (.mv (.t 5))⟩,
    ⟨some 17, none, .d (.call (.f 40) [(.t 16), (.c (.int .i64 1))])⟩,
    ⟨some 18, none, .d (.bin .arith .quo (.t 15) (.t 17))⟩,
    ⟨some 19, none, .d (.mv (.t 1))⟩,
    ⟨some 20, none, .d (.mv (.t 5))⟩,
    ⟨some 21, none, .d (.call (.f 40) [(.t 20), (.c (.int .i64 1))])⟩,
    ⟨some 22, none, .d (.bin .arith .quo (.t 19) (.t 21))⟩,
    ⟨some 23, none, .d (.build [.int .i64 0, .int .i64 0] [(0, 1, (.t 18)), (1, 1, (.t 22))])⟩] [⟨none, none, .w (.store 2 (.t 4) (.t 23))⟩])
  (.ret)))), [.cell 4 2 true]⟩
abbrev k26 : List Nat := [0, 1, 4, 5, 6, 10]
abbrev o26 : List Nat := [4]
def a27 : AFn := ⟨1, 
  .seq (.reg [⟨some 2, none, .d (.mv (.c (.bool false)))⟩])
  (.seq (.reg [⟨some 3, none, .d (.mv (.t 0))⟩,
    ⟨some 4, none, .d (.call (.f 24) [(.t 3), (.c (.int .i64 0)), (.c (.int .i64 12))])⟩,
    ⟨some 2, none, .d (.mv (.t 4))⟩])
  (.ret)), [.tmp 2]⟩
abbrev k27 : List Nat := [0, 2]
abbrev o27 : List Nat := []
def a28 : AFn := ⟨2, 
  .seq (.reg [⟨some 4, none, .w (.alloc [.int .i64 0, .int .i64 0])⟩])
  (.seq (.reg [⟨some 7, none, .d (.mv (.t 0))⟩,
    ⟨some 8, none, .d (.mv (.t 1))⟩,
    ⟨some 5, none, .d (.mv (.t 7))⟩,
    ⟨some 6, none, .d (.mv (.t 8))⟩])
  (.seq (.block 0 (.loop (.seq (.seq (.reg [⟨some 9, none, .d (.mv (.t 6))⟩,
      ⟨some 10, none, .d (.bin .arith .neq (.t 9) (.c (.int .i64 0)))⟩])
    (.cond (.t 10) (.skip) (.exit 0)))
    (.block 1 (.dreg [] [⟨some 11, none, .d (.mv (.t 6))⟩,
       ⟨some 12, none, .d (.mv (.t 5))⟩,
       ⟨some 13, none, .d (.mv (.t 6))⟩,
       ⟨some 14, none, .d (.bin .arith .rem (.t 12) (.t 13))⟩,
       ⟨some 5, none, .d (.mv (.t 11))⟩] [⟨some 6, none, .d (.mv (.t 14))⟩])))))
  (.seq (.dreg [] [⟨some 15, none, .d (.mv (.t 0))⟩,
    ⟨some 16, none, .d (.mv (.t 5))⟩,
    ⟨some 17, none, .d (.bin .arith .quo (.t 15) (.t 16))⟩,
    ⟨some 18, none, .d (.mv (.t 1))⟩,
    ⟨some 19, none, .d (.mv (.t 5))⟩,
    ⟨some 20, none, .d (.bin .arith .quo (.t 18) (.t 19))⟩,
    ⟨some 21, none, .d (.build [.int .i64 0, .int .i64 0] [(0, 1, (.t 17)), (1, 1, (.t 20))])⟩] [⟨none, none, .w (.store 2 (.t 4) (.t 21))⟩])
  (.ret)))), [.cell 4 2 true]⟩
abbrev k28 : List Nat := [0, 1, 4, 5, 6, 10]
abbrev o28 : List Nat := [4]
def a29 : AFn := ⟨2, 
  .seq (.reg [⟨some 3, none, .w (.box 2 (.t 1))⟩,
    ⟨some 4, none, .d (.mv (.c (.int .i64 0)))⟩])
  (.seq (.reg [⟨some 5, none, .d (.mv (.t 0))⟩,
    ⟨some 6, none, .d (.mv (.t 0))⟩,
    ⟨some 7, none, .d (.bin .arith .sub (.t 6) (.c (.int .i64 1)))⟩,
    ⟨some 8, none, .d (.bin .arith .quo (.t 7) (.c (.int .i64 2)))⟩,
    ⟨some 9, none, .d (.load true 2 (.t 3))⟩,
    ⟨some 10, none, .d (.call (.f 37) [(.t 5), (.t 8), (.t 9)])⟩,
    ⟨some 4, none, .d (.mv (.t 10))⟩])
  (.ret)), [.tmp 4]⟩
abbrev k29 : List Nat := [0, 1, 3, 4]
abbrev o29 : List Nat := [3]
def a30 : AFn := ⟨2, 
  .seq (.reg [⟨some 4, none, .d (.mv (.c (.int .i64 0)))⟩])
  (.seq (.reg [⟨some 5, none, .d (.mv (.c (.int .i64 1)))⟩])
  (.seq (.seq (.reg [⟨some 6, none, .d (.mv (.c (.int .i64 0)))⟩])
  (.block 0 (.loop (.seq (.seq (.reg [⟨some 7, none, .d (.mv (.t 6))⟩,
      ⟨some 8, none, .d (.mv (.t 1))⟩,
      ⟨some 9, none, .d (.bin .arith .lss (.t 7) (.t 8))⟩])
    (.cond (.t 9) (.skip) (.exit 0)))
    (.seq (.block 1 (.reg [⟨some 12, none, .d (.mv (.t 5))⟩,
       ⟨some 13, none, .d (.mv (.t 0))⟩,
       ⟨some 14, none, .d (.bin .arith .mul (.t 12) (.t 13))⟩,
       ⟨some 5, none, .d (.mv (.t 14))⟩]))
    (.reg [⟨some 10, none, .d (.mv (.t 6))⟩,
      ⟨some 11, none, .d (.bin .arith .add (.t 10) (.c (.int .i64 1)))⟩,
      ⟨some 6, none, .d (.mv (.t 11))⟩]))))))
  (.seq (.reg [⟨some 15, none, .d (.mv (.t 5))⟩,
    ⟨some 4, none, .d (.mv (.t 15))⟩])
  (.ret)))), [.tmp 4]⟩
abbrev k30 : List Nat := [0, 1, 4, 5, 6, 9]
abbrev o30 : List Nat := []
def a31 : AFn := ⟨2, 
  .seq (.reg [⟨some 2, none, .w (.box 2 (.t 0))⟩,
    ⟨some 4, none, .d (.mv (.c (.int .i64 0)))⟩])
  (.seq (.reg [⟨some 5, none, .d (.load true 2 (.t 2))⟩,
    ⟨some 6, none, .d (.mv (.t 1))⟩,
    ⟨some 7, none, .d (.mv (.t 1))⟩,
    ⟨some 8, none, .d (.bin .arith .sub (.t 7) (.c (.int .i64 1)))⟩,
    ⟨some 9, none, .d (.bin .arith .quo (.t 8) (.c (.int .i64 2)))⟩,
    ⟨some 10, none, .d (.call (.f 38) [(.t 5), (.t 6), (.t 9)])⟩,
    ⟨some 4, none, .d (.mv (.t 10))⟩])
  (.ret)), [.tmp 4]⟩
abbrev k31 : List Nat := [0, 1, 2, 4]
abbrev o31 : List Nat := [2]
def a32 : AFn := ⟨2, 
  .seq (.reg [⟨some 4, none, .d (.mv (.c (.int .i64 0)))⟩])
  (.seq (.reg [⟨some 5, none, .d (.mv (.c (.int .i64 1)))⟩])
  (.seq (.seq (.reg [⟨some 6, none, .d (.mv (.t 1))⟩,
    ⟨some 7, none, .d (.mv (.c (.int .i64 0)))⟩])
  (.block 0 (.loop (.seq (.reg [⟨some 8, none, .d (.bin .arith .lss (.t 7) (.t 6))⟩])
    (.seq (.cond (.t 8) (.skip) (.exit 0))
    (.seq (.block 1 (.reg [⟨some 9, none, .d (.mv (.t 5))⟩,
       ⟨some 10, none, .d (.mv (.t 0))⟩,
       ⟨some 11, none, .d (.bin .arith .mul (.t 9) (.t 10))⟩,
       ⟨some 5, none, .d (.mv (.t 11))⟩]))
    (.reg [⟨some 12, none, .d (.bin .arith .add (.t 7) (.c (.int .i64 1)))⟩,
      ⟨some 7, none, .d (.mv (.t 12))⟩])))))))
  (.seq (.reg [⟨some 13, none, .d (.mv (.t 5))⟩,
    ⟨some 4, none, .d (.mv (.t 13))⟩])
  (.ret)))), [.tmp 4]⟩
abbrev k32 : List Nat := [0, 1, 4, 5, 6, 7, 8]
abbrev o32 : List Nat := []
def a33 : AFn := ⟨2, 
  .seq (.reg [⟨some 4, none, .d (.mv (.c (.int .i64 0)))⟩])
  (.seq (.reg [⟨some 5, none, .d (.mv (.c (.int .i64 1)))⟩])
  (.seq (.seq (.reg [⟨some 6, none, .d (.mv (.c (.int .i64 0)))⟩])
  (.block 0 (.loop (.seq (.seq (.reg [⟨some 7, none, .d (.mv (.t 6))⟩,
      ⟨some 8, none, .d (.mv (.t 1))⟩,
      ⟨some 9, none, .d (.bin .arith .lss (.t 7) (.t 8))⟩])
    (.cond (.t 9) (.skip) (.exit 0)))
    (.seq (.block 1 (.reg [⟨some 12, none, .d (.mv (.t 5))⟩,
       ⟨some 13, none, .d (.mv (.t 0))⟩,
       ⟨some 14, none, .d (.mv (.t 6))⟩,
       ⟨some 15, none, .d (.bin .arith .sub (.t 13) (.t 14))⟩,
       ⟨some 16, none, .d (.bin .arith .mul (.t 12) (.t 15))⟩,
       ⟨some 17, none, .d (.mv (.t 6))⟩,
       ⟨some 18, none, .d (.bin .arith .add (.t 17) (.c (.int .i64 1)))⟩,
       ⟨some 19, none, .d (.bin .arith .quo (.t 16) (.t 18))⟩,
       ⟨some 5, none, .d (.mv (.t 19))⟩]))
    (.reg [⟨some 10, none, .d (.mv (.t 6))⟩,
      ⟨some 11, none, .d (.bin .arith .add (.t 10) (.c (.int .i64 1)))⟩,
      ⟨some 6, none, .d (.mv (.t 11))⟩]))))))
  (.seq (.reg [⟨some 20, none, .d (.mv (.t 5))⟩,
    ⟨some 4, none, .d (.mv (.t 20))⟩])
  (.ret)))), [.tmp 4]⟩
abbrev k33 : List Nat := [0, 1, 4, 5, 6, 9]
abbrev o33 : List Nat := []
def a34 : AFn := ⟨3, 
  .seq (.reg [⟨some 5, none, .w (.box 2 (.t 2))⟩,
    ⟨some 6, none, .d (.mv (.c (.int .i64 0)))⟩])
  (.seq (.dreg [] [⟨some 7, none, .d (.fa 0 (.t 5))⟩,
    ⟨some 8, none, .d (.load false 1 (.t 7))⟩,
    ⟨some 9, none, .d (.mv (.t 1))⟩,
    ⟨some 10, none, .d (.call (.f 30) [(.t 8), (.t 9)])⟩,
    ⟨some 11, none, .d (.fa 1 (.t 5))⟩,
    ⟨some 12, none, .d (.load false 1 (.t 11))⟩,
    ⟨some 13, none, .d (.fa 0 (.t 5))⟩,
    ⟨some 14, none, .d (.load false 1 (.t 13))⟩,
    ⟨some 15, none, .d (.bin .arith .sub (.t 12) (.t 14))⟩,
    ⟨some 16, none, .d (.mv (.t 0))⟩,
    ⟨some 17, none, .d (.mv (.t 1))⟩,
    ⟨some 18, none, .d (.bin .arith .sub (.t 16) (.t 17))⟩,
    ⟨some 19, none, .d (.call (.f 30) [(.t 15), (.t 18)])⟩,
    ⟨some 20, none, .d (.bin .arith .mul (.t 10) (.t 19))⟩] [⟨some 6, none, .d (.mv (.t 20))⟩])
  (.ret)), [.tmp 6]⟩
abbrev k34 : List Nat := [0, 1, 2, 5, 6]
abbrev o34 : List Nat := [5]
def a35 : AFn := ⟨3, 
  .seq (.reg [⟨some 3, none, .w (.box 2 (.t 0))⟩,
    ⟨some 6, none, .w (.alloc [.int .i64 0, .int .i64 0])⟩])
  (.seq (.reg [⟨some 7, none, .d (.mv (.t 2))⟩,
    ⟨some 8, none, .d (.fa 1 (.t 3))⟩,
    ⟨some 9, none, .d (.load false 1 (.t 8))⟩,
    ⟨some 10, none, .d (.mv (.t 1))⟩,
    ⟨some 11, none, .d (.call (.f 32) [(.t 9), (.t 10)])⟩,
    ⟨some 12, none, .d (.call (.f 28) [(.t 7), (.t 11)])⟩,
    ⟨none, none, .w (.store 2 (.t 6) (.t 12))⟩])
  (.ret)), [.cell 6 2 true]⟩
abbrev k35 : List Nat := [0, 1, 2, 3, 6]
abbrev o35 : List Nat := [3, 6]
def a36 : AFn := ⟨3, 
  .seq (.reg [⟨some 3, none, .w (.box 2 (.t 0))⟩,
    ⟨some 6, none, .d (.mv (.c (.int .i64 0)))⟩])
  (.seq (.dreg [] [⟨some 7, none, .d (.mv (.t 1))⟩,
    ⟨some 8, none, .d (.mv (.t 2))⟩,
    ⟨some 9, none, .d (.call (.f 41) [(.t 7), (.t 8)])⟩,
    ⟨some 10, none, .d (.load true 2 (.t 3))⟩,
    ⟨some 11, none, .d (.mv (.t 1))⟩,
    ⟨some 12, none, .d (.mv (.t 2))⟩,
    ⟨some 13, none, .d (.call (.f 42) [(.t 10), (.t 11), (.t 12)])⟩,
    ⟨some 14, none, .d (.bin .arith .mul (.t 9) (.t 13))⟩] [⟨some 6, none, .d (.mv (.t 14))⟩])
  (.ret)), [.tmp 6]⟩
abbrev k36 : List Nat := [0, 1, 2, 3, 6]
abbrev o36 : List Nat := [3]
def a37 : AFn := ⟨3, 
  .seq (.reg [⟨some 5, none, .w (.box 2 (.t 2))⟩,
    ⟨some 6, none, .d (.mv (.c (.int .i64 0)))⟩])
  (.seq (.reg [⟨some 7, none, .d (.mv (.c (.int .i64 0)))⟩])
  (.seq (.seq (.reg [⟨some 8, none, .d (.mv (.c (.int .i64 0)))⟩])
  (.block 0 (.loop (.seq (.seq (.reg [⟨some 9, none, .d (.mv (.t 8))⟩,
      ⟨some 10, none, .d (.mv (.t 1))⟩,
      ⟨some 11, none, .d (.bin .arith .leq (.t 9) (.t 10))⟩])
    (.cond (.t 11) (.skip) (.exit 0)))
    (.seq (.block 1 (.dreg [] [⟨some 14, none, .d (.mv (.t 7))⟩,
       ⟨some 15, none, .d (.mv (.t 0))⟩,
       ⟨some 16, none, .d (.mv (.t 8))⟩,
       ⟨some 17, none, .d (.call (.f 33) [(.t 15), (.t 16)])⟩,
       ⟨some 18, none, .d (.mv (.t 0))⟩,
       ⟨some 19, none, .d (.mv (.t 8))⟩,
       ⟨some 20, none, .d (.load true 2 (.t 5))⟩,
       ⟨some 21, none, .d (.call (.f 34) [(.t 18), (.t 19), (.t 20)])⟩,
       ⟨some 22, none, .d (.bin .arith .mul (.t 17) (.t 21))⟩,
       ⟨some 23, none, .d (.bin .arith .add (.t 14) (.t 22))⟩] [⟨some 7, none, .d (.mv (.t 23))⟩]))
    (.reg [⟨some 12, none, .d (.mv (.t 8))⟩,
      ⟨some 13, none, .d (.bin .arith .add (.t 12) (.c (.int .i64 1)))⟩,
      ⟨some 8, none, .d (.mv (.t 13))⟩]))))))
  (.seq (.reg [⟨some 24, none, .d (.mv (.t 7))⟩,
    ⟨some 6, none, .d (.mv (.t 24))⟩])
  (.ret)))), [.tmp 6]⟩
abbrev k37 : List Nat := [0, 1, 2, 5, 6, 7, 8, 11]
abbrev o37 : List Nat := [5]
def a38 : AFn := ⟨3, 
  .seq (.reg [⟨some 3, none, .w (.box 2 (.t 0))⟩,
    ⟨some 6, none, .d (.mv (.c (.int .i64 0)))⟩])
  (.seq (.reg [⟨some 7, none, .d (.mv (.c (.int .i64 0)))⟩])
  (.seq (.seq (.reg [⟨some 9, none, .d (.mv (.t 2))⟩,
    ⟨some 10, none, .d (.bin .arith .add (.t 9) (.c (.int .i64 1)))⟩,
    ⟨some 11, none, .d (.mv (.c (.int .i64 0)))⟩])
  (.block 0 (.loop (.seq (.reg [⟨some 12, none, .d (.bin .arith .lss (.t 11) (.t 10))⟩])
    (.seq (.cond (.t 12) (.skip) (.exit 0))
    (.seq (.block 1 (.seq (.reg [⟨some 13, none, .d (.mv (.t 11))⟩,
       ⟨some 8, none, .d (.mv (.t 13))⟩])
     (.reg [⟨some 14, none, .d (.mv (.t 7))⟩,
       ⟨some 15, none, .d (.load true 2 (.t 3))⟩,
       ⟨some 16, none, .d (.mv (.t 1))⟩,
       ⟨some 17, none, .d (.mv (.t 8))⟩,
       ⟨some 18, none, .d (.call (.f 36) [(.t 15), (.t 16), (.t 17)])⟩,
       ⟨some 19, none, .d (.bin .arith .add (.t 14) (.t 18))⟩,
       ⟨some 7, none, .d (.mv (.t 19))⟩])))
    (.reg [⟨some 20, none, .d (.bin .arith .add (.t 11) (.c (.int .i64 1)))⟩,
      ⟨some 11, none, .d (.mv (.t 20))⟩])))))))
  (.seq (.reg [⟨some 21, none, .d (.mv (.t 7))⟩,
    ⟨some 6, none, .d (.mv (.t 21))⟩])
  (.ret)))), [.tmp 6]⟩
abbrev k38 : List Nat := [0, 1, 2, 3, 6, 7, 8, 10, 11, 12]
abbrev o38 : List Nat := [3]
def a39 : AFn := ⟨3, 
  .seq (.reg [⟨some 6, none, .d (.mv (.c (.bool false)))⟩])
  (.seq (.reg [⟨some 7, none, .d (.mv (.t 0))⟩,
    ⟨some 8, none, .d (.mv (.t 1))⟩,
    ⟨some 9, none, .d (.bin .arith .geq (.t 7) (.t 8))⟩,
    ⟨some 10, none, .d (.mv (.t 9))⟩,
    ⟨some 11, some (10, true), .d (.mv (.t 0))⟩,
    ⟨some 12, some (10, true), .d (.mv (.t 2))⟩,
    ⟨some 13, some (10, true), .d (.bin .arith .leq (.t 11) (.t 12))⟩,
    ⟨some 14, none, .d (.pick (.t 10) (.t 13) (.c (.bool false)))⟩,
    ⟨some 6, none, .d (.mv (.t 14))⟩])
  (.ret)), [.tmp 6]⟩
abbrev k39 : List Nat := [0, 1, 2, 6]
abbrev o39 : List Nat := []
def a40 : AFn := ⟨2, 
  .seq (.reg [⟨some 4, none, .d (.mv (.c (.int .i64 0)))⟩])
  (.seq (.seq (.reg [⟨some 5, none, .d (.mv (.t 0))⟩,
    ⟨some 6, none, .d (.mv (.t 1))⟩,
    ⟨some 7, none, .d (.bin .arith .gtr (.t 5) (.t 6))⟩])
  (.cond (.t 7) (.seq (.reg [⟨some 8, none, .d (.mv (.t 0))⟩,
     ⟨some 4, none, .d (.mv (.t 8))⟩])
   (.ret)) (.skip)))
  (.seq (.reg [⟨some 9, none, .d (.mv (.t 1))⟩,
    ⟨some 4, none, .d (.mv (.t 9))⟩])
  (.ret))), [.tmp 4]⟩
abbrev k40 : List Nat := [0, 1, 4, 7]
abbrev o40 : List Nat := []
def a41 : AFn := ⟨2, 
  .seq (.reg [⟨some 4, none, .d (.mv (.c (.int .i64 0)))⟩])
  (.seq (.reg [⟨some 5, none, .d (.mv (.c (.int .i64 1)))⟩])
  (.seq (.seq (.reg [⟨some 7, none, .d (.mv (.t 1))⟩,
    ⟨some 8, none, .d (.mv (.c (.int .i64 0)))⟩])
  (.block 0 (.loop (.seq (.reg [⟨some 9, none, .d (.bin .arith .lss (.t 8) (.t 7))⟩])
    (.seq (.cond (.t 9) (.skip) (.exit 0))
    (.seq (.block 1 (.seq (.reg [⟨some 10, none, .d (.mv (.t 8))⟩,
       ⟨some 6, none, .d (.mv (.t 10))⟩])
     (.reg [⟨some 11, none, .d (.mv (.t 5))⟩,
       ⟨some 12, none, .d (.mv (.t 0))⟩,
       ⟨some 13, none, .d (.mv (.t 6))⟩,
       ⟨some 14, none, .d (.bin .arith .sub (.t 12) (.t 13))⟩,
       ⟨some 15, none, .d (.bin .arith .mul (.t 11) (.t 14))⟩,
       ⟨some 16, none, .d (.mv (.t 6))⟩,
       ⟨some 17, none, .d (.bin .arith .add (.t 16) (.c (.int .i64 1)))⟩,
       ⟨some 18, none, .d (.bin .arith .quo (.t 15) (.t 17))⟩,
       ⟨some 5, none, .d (.mv (.t 18))⟩])))
    (.reg [⟨some 19, none, .d (.bin .arith .add (.t 8) (.c (.int .i64 1)))⟩,
      ⟨some 8, none, .d (.mv (.t 19))⟩])))))))
  (.seq (.reg [⟨some 20, none, .d (.mv (.t 5))⟩,
    ⟨some 4, none, .d (.mv (.t 20))⟩])
  (.ret)))), [.tmp 4]⟩
abbrev k41 : List Nat := [0, 1, 4, 5, 6, 7, 8, 9]
abbrev o41 : List Nat := []
def a42 : AFn := ⟨3, 
  .seq (.reg [⟨some 3, none, .w (.box 2 (.t 0))⟩,
    ⟨some 6, none, .d (.mv (.c (.int .i64 0)))⟩])
  (.seq (.dreg [] [⟨some 7, none, .d (.fa 0 (.t 3))⟩,
    ⟨some 8, none, .d (.load false 1 (.t 7))⟩,
    ⟨some 9, none, .d (.mv (.t 2))⟩,
    ⟨some 10, none, .d (.call (.f 32) [(.t 8), (.t 9)])⟩,
    ⟨some 11, none, .d (.fa 1 (.t 3))⟩,
    ⟨some 12, none, .d (.load false 1 (.t 11))⟩,
    ⟨some 13, none, .d (.fa 0 (.t 3))⟩,
    ⟨some 14, none, .d (.load false 1 (.t 13))⟩,
    ⟨some 15, none, .d (.bin .arith .sub (.t 12) (.t 14))⟩,
    ⟨some 16, none, .d (.mv (.t 1))⟩,
    ⟨some 17, none, .d (.mv (.t 2))⟩,
    ⟨some 18, none, .d (.bin .arith .sub (.t 16) (.t 17))⟩,
    ⟨some 19, none, .d (.call (.f 32) [(.t 15), (.t 18)])⟩,
    ⟨some 20, none, .d (.bin .arith .mul (.t 10) (.t 19))⟩] [⟨some 6, none, .d (.mv (.t 20))⟩])
  (.ret)), [.tmp 6]⟩
abbrev k42 : List Nat := [0, 1, 2, 3, 6]
abbrev o42 : List Nat := [3]

theorem is3 : Is Try.prog 3 a3 := Is.mk' (fun _ => none) Try.func3 (by kernel_rfl) (by kernel_rfl)
theorem is4 : Is Try.prog 4 a4 := Is.mk' (fun _ => none) Try.func4 (by kernel_rfl) (by kernel_rfl)
theorem is5 : Is Try.prog 5 a5 := Is.mk' (fun _ => none) Try.func5 (by kernel_rfl) (by kernel_rfl)
theorem is6 : Is Try.prog 6 a6 := Is.mk' (fun _ => none) Try.func6 (by kernel_rfl) (by kernel_rfl)
theorem is7 : Is Try.prog 7 a7 := Is.mk' (fun _ => none) Try.func7 (by kernel_rfl) (by kernel_rfl)
theorem is8 : Is Try.prog 8 a8 := Is.mk' (fun _ => none) Try.func8 (by kernel_rfl) (by kernel_rfl)
theorem is9 : Is Try.prog 9 a9 := Is.mk' (fun _ => none) Try.func9 (by kernel_rfl) (by kernel_rfl)
theorem is10 : Is Try.prog 10 a10 := Is.mk' (fun _ => none) Try.func10 (by kernel_rfl) (by kernel_rfl)
theorem is11 : Is Try.prog 11 a11 := Is.mk' (fun _ => none) Try.func11 (by kernel_rfl) (by kernel_rfl)
theorem is12 : Is Try.prog 12 a12 := Is.mk' (fun _ => none) Try.func12 (by kernel_rfl) (by kernel_rfl)
theorem is13 : Is Try.prog 13 a13 := Is.mk' (fun _ => none) Try.func13 (by kernel_rfl) (by kernel_rfl)
theorem is14 : Is Try.prog 14 a14 := Is.mk' (fun _ => none) Try.func14 (by kernel_rfl) (by kernel_rfl)
theorem is15 : Is Try.prog 15 a15 := Is.mk' (fun _ => none) Try.func15 (by kernel_rfl) (by kernel_rfl)
theorem is16 : Is Try.prog 16 a16 := Is.mk' (fun _ => none) Try.func16 (by kernel_rfl) (by kernel_rfl)
theorem is17 : Is Try.prog 17 a17 := Is.mk' (fun _ => none) Try.func17 (by kernel_rfl) (by kernel_rfl)
theorem is18 : Is Try.prog 18 a18 := Is.mk' (fun _ => none) Try.func18 (by kernel_rfl) (by kernel_rfl)
theorem is19 : Is Try.prog 19 a19 := Is.mk' (fun _ => none) Try.func19 (by kernel_rfl) (by kernel_rfl)
theorem is20 : Is Try.prog 20 a20 := Is.mk' (fun _ => none) Try.func20 (by kernel_rfl) (by kernel_rfl)
theorem is21 : Is Try.prog 21 a21 := Is.mk' (fun _ => none) Try.func21 (by kernel_rfl) (by kernel_rfl)
theorem is22 : Is Try.prog 22 a22 := Is.mk' (fun _ => none) Try.func22 (by kernel_rfl) (by kernel_rfl)
theorem is23 : Is Try.prog 23 a23 := Is.mk' (fun _ => none) Try.func23 (by kernel_rfl) (by kernel_rfl)
theorem is24 : Is Try.prog 24 a24 := Is.mk' (fun _ => none) Try.func24 (by kernel_rfl) (by kernel_rfl)
theorem is25 : Is Try.prog 25 a25 := Is.mk' (fun _ => none) Try.func25 (by kernel_rfl) (by kernel_rfl)
theorem is26 : Is Try.prog 26 a26 := Is.mk' (fun _ => none) Try.func26 (by kernel_rfl) (by kernel_rfl)
theorem is27 : Is Try.prog 27 a27 := Is.mk' (fun _ => none) Try.func27 (by kernel_rfl) (by kernel_rfl)
theorem is28 : Is Try.prog 28 a28 := Is.mk' (fun _ => none) Try.func28 (by kernel_rfl) (by kernel_rfl)
theorem is29 : Is Try.prog 29 a29 := Is.mk' (fun _ => none) Try.func29 (by kernel_rfl) (by kernel_rfl)
theorem is30 : Is Try.prog 30 a30 := Is.mk' (fun _ => none) Try.func30 (by kernel_rfl) (by kernel_rfl)
theorem is31 : Is Try.prog 31 a31 := Is.mk' (fun _ => none) Try.func31 (by kernel_rfl) (by kernel_rfl)
theorem is32 : Is Try.prog 32 a32 := Is.mk' (fun _ => none) Try.func32 (by kernel_rfl) (by kernel_rfl)
theorem is33 : Is Try.prog 33 a33 := Is.mk' (fun _ => none) Try.func33 (by kernel_rfl) (by kernel_rfl)
theorem is34 : Is Try.prog 34 a34 := Is.mk' (fun _ => none) Try.func34 (by kernel_rfl) (by kernel_rfl)
theorem is35 : Is Try.prog 35 a35 := Is.mk' (fun _ => none) Try.func35 (by kernel_rfl) (by kernel_rfl)
theorem is36 : Is Try.prog 36 a36 := Is.mk' (fun _ => none) Try.func36 (by kernel_rfl) (by kernel_rfl)
theorem is37 : Is Try.prog 37 a37 := Is.mk' (fun _ => none) Try.func37 (by kernel_rfl) (by kernel_rfl)
theorem is38 : Is Try.prog 38 a38 := Is.mk' (fun _ => none) Try.func38 (by kernel_rfl) (by kernel_rfl)
theorem is39 : Is Try.prog 39 a39 := Is.mk' (fun _ => none) Try.func39 (by kernel_rfl) (by kernel_rfl)
theorem is40 : Is Try.prog 40 a40 := Is.mk' (fun _ => none) Try.func40 (by kernel_rfl) (by kernel_rfl)
theorem is41 : Is Try.prog 41 a41 := Is.mk' (fun _ => none) Try.func41 (by kernel_rfl) (by kernel_rfl)
theorem is42 : Is Try.prog 42 a42 := Is.mk' (fun _ => none) Try.func42 (by kernel_rfl) (by kernel_rfl)
end Go.Proofs.Ytmjkdmlndbfdjaa