/- A part of the proof that stands in this folder: a small machine whose steps are shown to be the steps of the model, or walks of functions by it. No condition of its own. -/
import Derived.Test.YtmncbkkpchmjhaaB1ML
set_option linter.unusedVariables false
set_option linter.unusedSimpArgs false
namespace Go.Proofs.Ytmncbkkpchmjhaa.Pam
open Go
structure M where
  i : Nat
  a : SV
  b : SV
  c : SV
  d : SV
  e : SV
  f : SV
  g : SV
  h : SV
  k : SV
  l : SV
  m : SV
  o : Option Ob
  p : Option Ob
  q : Option Ob
  r : Option Ob
  t : Option Ob
def a_l4Needs (f_l4Counted : FuncId) (f_l4Told : FuncId) (f_l4Counts : FuncId) (f_l4Within : FuncId) : AFn := ⟨1, 
  .seq (.reg [⟨some 2, none, .d (.mv (.c (.nilsl)))⟩])
  (.seq (.reg [⟨some 3, none, .d (.mv (.c (.int .i64 1)))⟩])
  (.seq (.seq (.reg [⟨some 4, none, .d (.mv (.c (.int .i64 0)))⟩])
  (.block 0 (.loop (.seq (.seq (.reg [⟨some 14, none, .d (.mv (.t 4))⟩,
      ⟨some 15, none, .d (.mv (.t 0))⟩,
      ⟨some 16, none, .d (.bin .arith .lss (.t 14) (.t 15))⟩])
    (.cond (.t 16) (.skip) (.exit 0)))
    (.seq (.block 1 (.reg [⟨some 19, none, .d (.mv (.t 3))⟩,
       ⟨some 20, none, .d (.bin .arith .mul (.t 19) (.c (.int .i64 9)))⟩,
       ⟨some 3, none, .d (.mv (.t 20))⟩]))
    (.reg [⟨some 17, none, .d (.mv (.t 4))⟩,
      ⟨some 18, none, .d (.bin .arith .add (.t 17) (.c (.int .i64 1)))⟩,
      ⟨some 4, none, .d (.mv (.t 18))⟩]))))))
  (.seq (.reg [⟨some 21, none, .d (.mv (.t 3))⟩,
    ⟨some 22, none, .w (.mkslice 1 (.int .i64 0) (.t 21))⟩,
    ⟨some 23, none, .w (.bslice 1 [] [])⟩,
    ⟨some 5, none, .d (.mv (.t 22))⟩,
    ⟨some 6, none, .d (.mv (.t 23))⟩])
  (.seq (.seq (.reg [⟨some 7, none, .d (.mv (.c (.int .i64 0)))⟩])
  (.block 2 (.loop (.seq (.seq (.reg [⟨some 24, none, .d (.mv (.t 7))⟩,
      ⟨some 25, none, .d (.mv (.t 3))⟩,
      ⟨some 26, none, .d (.bin .arith .lss (.t 24) (.t 25))⟩])
    (.cond (.t 26) (.skip) (.exit 2)))
    (.seq (.block 3 (.seq (.reg [⟨some 29, none, .d (.mv (.t 5))⟩,
       ⟨some 30, none, .d (.mv (.t 7))⟩,
       ⟨some 31, none, .d (.ia 1 (.t 29) (.t 30))⟩,
       ⟨none, none, .w (.store 1 (.t 31) (.c (.int .i64 (-1))))⟩])
     (.seq (.reg [⟨some 32, none, .d (.mv (.t 7))⟩,
       ⟨some 33, none, .d (.mv (.t 0))⟩,
       ⟨some 34, none, .d (.call (.f f_l4Counted) [(.t 32), (.t 33)])⟩,
       ⟨some 8, none, .d (.mv (.t 34))⟩])
     (.seq (.reg [⟨some 35, none, .d (.mv (.t 8))⟩,
       ⟨some 36, none, .d (.call (.f f_l4Told) [(.t 35)])⟩])
     (.cond (.t 36) (.reg [⟨some 37, none, .d (.mv (.t 5))⟩,
        ⟨some 38, none, .d (.mv (.t 7))⟩,
        ⟨some 39, none, .d (.ia 1 (.t 37) (.t 38))⟩,
        ⟨none, none, .w (.store 1 (.t 39) (.c (.int .i64 0)))⟩]) (.seq (.reg [⟨some 40, none, .d (.mv (.t 8))⟩,
        ⟨some 41, none, .d (.call (.f f_l4Counts) [(.t 40)])⟩])
      (.cond (.t 41) (.reg [⟨some 42, none, .d (.mv (.t 6))⟩,
         ⟨some 43, none, .d (.mv (.t 7))⟩,
         ⟨some 44, none, .w (.bslice 1 [.int .i64 0] [(0, (.t 43))])⟩,
         ⟨some 45, none, .w (.append 1 (.t 42) (.t 44))⟩,
         ⟨some 6, none, .d (.mv (.t 45))⟩]) (.skip))))))))
    (.reg [⟨some 27, none, .d (.mv (.t 7))⟩,
      ⟨some 28, none, .d (.bin .arith .add (.t 27) (.c (.int .i64 1)))⟩,
      ⟨some 7, none, .d (.mv (.t 28))⟩]))))))
  (.seq (.seq (.reg [⟨some 9, none, .d (.mv (.c (.int .i64 1)))⟩])
  (.block 4 (.loop (.seq (.seq (.reg [⟨some 46, none, .d (.mv (.t 6))⟩,
      ⟨some 47, none, .d (.len (.t 46))⟩,
      ⟨some 48, none, .d (.bin .arith .gtr (.t 47) (.c (.int .i64 0)))⟩])
    (.cond (.t 48) (.skip) (.exit 4)))
    (.seq (.block 5 (.seq (.reg [⟨some 51, none, .w (.bslice 1 [] [])⟩,
       ⟨some 52, none, .w (.bslice 1 [] [])⟩,
       ⟨some 10, none, .d (.mv (.t 51))⟩,
       ⟨some 11, none, .d (.mv (.t 52))⟩])
     (.seq (.seq (.reg [⟨some 12, none, .d (.mv (.c (.int .i64 0)))⟩])
     (.block 6 (.loop (.seq (.seq (.reg [⟨some 53, none, .d (.mv (.t 12))⟩,
         ⟨some 54, none, .d (.mv (.t 6))⟩,
         ⟨some 55, none, .d (.len (.t 54))⟩,
         ⟨some 56, none, .d (.bin .arith .lss (.t 53) (.t 55))⟩])
       (.cond (.t 56) (.skip) (.exit 6)))
       (.seq (.block 7 (.seq (.reg [⟨some 59, none, .d (.mv (.t 6))⟩,
          ⟨some 60, none, .d (.mv (.t 12))⟩,
          ⟨some 61, none, .d (.ia 1 (.t 59) (.t 60))⟩,
          ⟨some 62, none, .d (.load false 1 (.t 61))⟩,
          ⟨some 63, none, .d (.mv (.t 0))⟩,
          ⟨some 64, none, .d (.call (.f f_l4Counted) [(.t 62), (.t 63)])⟩,
          ⟨some 65, none, .d (.mv (.t 5))⟩,
          ⟨some 66, none, .d (.call (.f f_l4Within) [(.t 64), (.t 65)])⟩])
        (.cond (.t 66) (.reg [⟨some 67, none, .d (.mv (.t 10))⟩,
           ⟨some 68, none, .d (.mv (.t 6))⟩,
           ⟨some 69, none, .d (.mv (.t 12))⟩,
           ⟨some 70, none, .d (.ia 1 (.t 68) (.t 69))⟩,
           ⟨some 71, none, .d (.load false 1 (.t 70))⟩,
           ⟨some 72, none, .w (.bslice 1 [.int .i64 0] [(0, (.t 71))])⟩,
           ⟨some 73, none, .w (.append 1 (.t 67) (.t 72))⟩,
           ⟨some 10, none, .d (.mv (.t 73))⟩]) (.reg [⟨some 74, none, .d (.mv (.t 11))⟩,
           ⟨some 75, none, .d (.mv (.t 6))⟩,
           ⟨some 76, none, .d (.mv (.t 12))⟩,
           ⟨some 77, none, .d (.ia 1 (.t 75) (.t 76))⟩,
           ⟨some 78, none, .d (.load false 1 (.t 77))⟩,
           ⟨some 79, none, .w (.bslice 1 [.int .i64 0] [(0, (.t 78))])⟩,
           ⟨some 80, none, .w (.append 1 (.t 74) (.t 79))⟩,
           ⟨some 11, none, .d (.mv (.t 80))⟩]))))
       (.reg [⟨some 57, none, .d (.mv (.t 12))⟩,
         ⟨some 58, none, .d (.bin .arith .add (.t 57) (.c (.int .i64 1)))⟩,
         ⟨some 12, none, .d (.mv (.t 58))⟩]))))))
     (.seq (.seq (.reg [⟨some 13, none, .d (.mv (.c (.int .i64 0)))⟩])
     (.block 8 (.loop (.seq (.seq (.reg [⟨some 81, none, .d (.mv (.t 13))⟩,
         ⟨some 82, none, .d (.mv (.t 10))⟩,
         ⟨some 83, none, .d (.len (.t 82))⟩,
         ⟨some 84, none, .d (.bin .arith .lss (.t 81) (.t 83))⟩])
       (.cond (.t 84) (.skip) (.exit 8)))
       (.seq (.block 9 (.reg [⟨some 87, none, .d (.mv (.t 5))⟩,
          ⟨some 88, none, .d (.mv (.t 10))⟩,
          ⟨some 89, none, .d (.mv (.t 13))⟩,
          ⟨some 90, none, .d (.ia 1 (.t 88) (.t 89))⟩,
          ⟨some 91, none, .d (.load false 1 (.t 90))⟩,
          ⟨some 92, none, .d (.mv (.t 9))⟩,
          ⟨some 93, none, .d (.ia 1 (.t 87) (.t 91))⟩,
          ⟨none, none, .w (.store 1 (.t 93) (.t 92))⟩]))
       (.reg [⟨some 85, none, .d (.mv (.t 13))⟩,
         ⟨some 86, none, .d (.bin .arith .add (.t 85) (.c (.int .i64 1)))⟩,
         ⟨some 13, none, .d (.mv (.t 86))⟩]))))))
     (.reg [⟨some 94, none, .d (.mv (.t 11))⟩,
       ⟨some 6, none, .d (.mv (.t 94))⟩])))))
    (.reg [⟨some 49, none, .d (.mv (.t 9))⟩,
      ⟨some 50, none, .d (.bin .arith .add (.t 49) (.c (.int .i64 1)))⟩,
      ⟨some 9, none, .d (.mv (.t 50))⟩]))))))
  (.seq (.reg [⟨some 95, none, .d (.mv (.t 5))⟩,
    ⟨some 2, none, .d (.mv (.t 95))⟩])
  (.ret))))))), [.tmp 2]⟩
def n_l4Needs : Nat → Option Ann := fun _ => none
abbrev k_l4Needs : List Nat := [0, 2, 3, 4, 5, 6, 7, 8, 9, 10, 11, 12, 13, 16, 26, 36, 41, 48, 56, 66, 84]
abbrev o_l4Needs : List Nat := [22, 23, 44, 45, 51, 52, 72, 73, 79, 80]
def a_l10Needs (f_l4Counted : FuncId) (f_l4Told : FuncId) (f_l4Counts : FuncId) (f_l10Best : FuncId) : AFn := ⟨1, 
  .seq (.reg [⟨some 2, none, .d (.mv (.c (.nilsl)))⟩])
  (.seq (.reg [⟨some 3, none, .d (.mv (.c (.int .i64 1)))⟩])
  (.seq (.seq (.reg [⟨some 4, none, .d (.mv (.c (.int .i64 0)))⟩])
  (.block 0 (.loop (.seq (.seq (.reg [⟨some 14, none, .d (.mv (.t 4))⟩,
      ⟨some 15, none, .d (.mv (.t 0))⟩,
      ⟨some 16, none, .d (.bin .arith .lss (.t 14) (.t 15))⟩])
    (.cond (.t 16) (.skip) (.exit 0)))
    (.seq (.block 1 (.reg [⟨some 19, none, .d (.mv (.t 3))⟩,
       ⟨some 20, none, .d (.bin .arith .mul (.t 19) (.c (.int .i64 9)))⟩,
       ⟨some 3, none, .d (.mv (.t 20))⟩]))
    (.reg [⟨some 17, none, .d (.mv (.t 4))⟩,
      ⟨some 18, none, .d (.bin .arith .add (.t 17) (.c (.int .i64 1)))⟩,
      ⟨some 4, none, .d (.mv (.t 18))⟩]))))))
  (.seq (.reg [⟨some 21, none, .d (.mv (.t 3))⟩,
    ⟨some 22, none, .w (.mkslice 1 (.int .i64 0) (.t 21))⟩,
    ⟨some 23, none, .w (.bslice 1 [] [])⟩,
    ⟨some 5, none, .d (.mv (.t 22))⟩,
    ⟨some 6, none, .d (.mv (.t 23))⟩])
  (.seq (.seq (.reg [⟨some 7, none, .d (.mv (.c (.int .i64 0)))⟩])
  (.block 2 (.loop (.seq (.seq (.reg [⟨some 24, none, .d (.mv (.t 7))⟩,
      ⟨some 25, none, .d (.mv (.t 3))⟩,
      ⟨some 26, none, .d (.bin .arith .lss (.t 24) (.t 25))⟩])
    (.cond (.t 26) (.skip) (.exit 2)))
    (.seq (.block 3 (.seq (.reg [⟨some 29, none, .d (.mv (.t 5))⟩,
       ⟨some 30, none, .d (.mv (.t 7))⟩,
       ⟨some 31, none, .d (.ia 1 (.t 29) (.t 30))⟩,
       ⟨none, none, .w (.store 1 (.t 31) (.c (.int .i64 (-1))))⟩])
     (.seq (.reg [⟨some 32, none, .d (.mv (.t 7))⟩,
       ⟨some 33, none, .d (.mv (.t 0))⟩,
       ⟨some 34, none, .d (.call (.f f_l4Counted) [(.t 32), (.t 33)])⟩,
       ⟨some 8, none, .d (.mv (.t 34))⟩])
     (.seq (.reg [⟨some 35, none, .d (.mv (.t 8))⟩,
       ⟨some 36, none, .d (.call (.f f_l4Told) [(.t 35)])⟩])
     (.cond (.t 36) (.reg [⟨some 37, none, .d (.mv (.t 5))⟩,
        ⟨some 38, none, .d (.mv (.t 7))⟩,
        ⟨some 39, none, .d (.ia 1 (.t 37) (.t 38))⟩,
        ⟨none, none, .w (.store 1 (.t 39) (.c (.int .i64 0)))⟩]) (.seq (.reg [⟨some 40, none, .d (.mv (.t 8))⟩,
        ⟨some 41, none, .d (.call (.f f_l4Counts) [(.t 40)])⟩])
      (.cond (.t 41) (.reg [⟨some 42, none, .d (.mv (.t 6))⟩,
         ⟨some 43, none, .d (.mv (.t 7))⟩,
         ⟨some 44, none, .w (.bslice 1 [.int .i64 0] [(0, (.t 43))])⟩,
         ⟨some 45, none, .w (.append 1 (.t 42) (.t 44))⟩,
         ⟨some 6, none, .d (.mv (.t 45))⟩]) (.skip))))))))
    (.reg [⟨some 27, none, .d (.mv (.t 7))⟩,
      ⟨some 28, none, .d (.bin .arith .add (.t 27) (.c (.int .i64 1)))⟩,
      ⟨some 7, none, .d (.mv (.t 28))⟩]))))))
  (.seq (.seq (.reg [⟨some 9, none, .d (.mv (.c (.int .i64 1)))⟩])
  (.block 4 (.loop (.seq (.seq (.reg [⟨some 46, none, .d (.mv (.t 6))⟩,
      ⟨some 47, none, .d (.len (.t 46))⟩,
      ⟨some 48, none, .d (.bin .arith .gtr (.t 47) (.c (.int .i64 0)))⟩])
    (.cond (.t 48) (.skip) (.exit 4)))
    (.seq (.block 5 (.seq (.reg [⟨some 51, none, .w (.bslice 1 [] [])⟩,
       ⟨some 52, none, .w (.bslice 1 [] [])⟩,
       ⟨some 10, none, .d (.mv (.t 51))⟩,
       ⟨some 11, none, .d (.mv (.t 52))⟩])
     (.seq (.seq (.reg [⟨some 12, none, .d (.mv (.c (.int .i64 0)))⟩])
     (.block 6 (.loop (.seq (.seq (.reg [⟨some 53, none, .d (.mv (.t 12))⟩,
         ⟨some 54, none, .d (.mv (.t 6))⟩,
         ⟨some 55, none, .d (.len (.t 54))⟩,
         ⟨some 56, none, .d (.bin .arith .lss (.t 53) (.t 55))⟩])
       (.cond (.t 56) (.skip) (.exit 6)))
       (.seq (.block 7 (.seq (.reg [⟨some 59, none, .d (.mv (.t 6))⟩,
          ⟨some 60, none, .d (.mv (.t 12))⟩,
          ⟨some 61, none, .d (.ia 1 (.t 59) (.t 60))⟩,
          ⟨some 62, none, .d (.load false 1 (.t 61))⟩,
          ⟨some 63, none, .d (.mv (.t 0))⟩,
          ⟨some 64, none, .d (.call (.f f_l4Counted) [(.t 62), (.t 63)])⟩,
          ⟨some 65, none, .d (.mv (.t 5))⟩,
          ⟨some 66, none, .d (.mv (.t 9))⟩,
          ⟨some 67, none, .w (.callL (.f f_l10Best) [(.t 64), (.t 65), (.t 66)] [22] 1 false)⟩,
          ⟨some 68, none, .d (.len (.t 67))⟩,
          ⟨some 69, none, .d (.bin .arith .gtr (.t 68) (.c (.int .i64 0)))⟩])
        (.cond (.t 69) (.reg [⟨some 70, none, .d (.mv (.t 10))⟩,
           ⟨some 71, none, .d (.mv (.t 6))⟩,
           ⟨some 72, none, .d (.mv (.t 12))⟩,
           ⟨some 73, none, .d (.ia 1 (.t 71) (.t 72))⟩,
           ⟨some 74, none, .d (.load false 1 (.t 73))⟩,
           ⟨some 75, none, .w (.bslice 1 [.int .i64 0] [(0, (.t 74))])⟩,
           ⟨some 76, none, .w (.append 1 (.t 70) (.t 75))⟩,
           ⟨some 10, none, .d (.mv (.t 76))⟩]) (.reg [⟨some 77, none, .d (.mv (.t 11))⟩,
           ⟨some 78, none, .d (.mv (.t 6))⟩,
           ⟨some 79, none, .d (.mv (.t 12))⟩,
           ⟨some 80, none, .d (.ia 1 (.t 78) (.t 79))⟩,
           ⟨some 81, none, .d (.load false 1 (.t 80))⟩,
           ⟨some 82, none, .w (.bslice 1 [.int .i64 0] [(0, (.t 81))])⟩,
           ⟨some 83, none, .w (.append 1 (.t 77) (.t 82))⟩,
           ⟨some 11, none, .d (.mv (.t 83))⟩]))))
       (.reg [⟨some 57, none, .d (.mv (.t 12))⟩,
         ⟨some 58, none, .d (.bin .arith .add (.t 57) (.c (.int .i64 1)))⟩,
         ⟨some 12, none, .d (.mv (.t 58))⟩]))))))
     (.seq (.seq (.reg [⟨some 13, none, .d (.mv (.c (.int .i64 0)))⟩])
     (.block 8 (.loop (.seq (.seq (.reg [⟨some 84, none, .d (.mv (.t 13))⟩,
         ⟨some 85, none, .d (.mv (.t 10))⟩,
         ⟨some 86, none, .d (.len (.t 85))⟩,
         ⟨some 87, none, .d (.bin .arith .lss (.t 84) (.t 86))⟩])
       (.cond (.t 87) (.skip) (.exit 8)))
       (.seq (.block 9 (.reg [⟨some 90, none, .d (.mv (.t 5))⟩,
          ⟨some 91, none, .d (.mv (.t 10))⟩,
          ⟨some 92, none, .d (.mv (.t 13))⟩,
          ⟨some 93, none, .d (.ia 1 (.t 91) (.t 92))⟩,
          ⟨some 94, none, .d (.load false 1 (.t 93))⟩,
          ⟨some 95, none, .d (.mv (.t 9))⟩,
          ⟨some 96, none, .d (.ia 1 (.t 90) (.t 94))⟩,
          ⟨none, none, .w (.store 1 (.t 96) (.t 95))⟩]))
       (.reg [⟨some 88, none, .d (.mv (.t 13))⟩,
         ⟨some 89, none, .d (.bin .arith .add (.t 88) (.c (.int .i64 1)))⟩,
         ⟨some 13, none, .d (.mv (.t 89))⟩]))))))
     (.reg [⟨some 97, none, .d (.mv (.t 11))⟩,
       ⟨some 6, none, .d (.mv (.t 97))⟩])))))
    (.reg [⟨some 49, none, .d (.mv (.t 9))⟩,
      ⟨some 50, none, .d (.bin .arith .add (.t 49) (.c (.int .i64 1)))⟩,
      ⟨some 9, none, .d (.mv (.t 50))⟩]))))))
  (.seq (.reg [⟨some 98, none, .d (.mv (.t 5))⟩,
    ⟨some 2, none, .d (.mv (.t 98))⟩])
  (.ret))))))), [.tmp 2]⟩
def n_l10Needs : Nat → Option Ann := fun d => if d = 67 then some ⟨[22], 1, false⟩ else none
abbrev k_l10Needs : List Nat := [0, 2, 3, 4, 5, 6, 7, 8, 9, 10, 11, 12, 13, 16, 26, 36, 41, 48, 56, 69, 87]
abbrev o_l10Needs : List Nat := [22, 23, 44, 45, 51, 52, 67, 75, 76, 82, 83]
def c_l4Needs : Con := pure' fun
  | [.p (.int .i64 p)] => if (1 ≤ p ∧ p ≤ 3) then some (.ar 2000000, [.arr 1 (ints (tabK (ntT tabB) p.toNat 9))]) else none
  | _ => none
def c_l10Needs : Con := pure' fun
  | [.p (.int .i64 p)] => if (1 ≤ p ∧ p ≤ 3) then some (.ar 2000000, [.arr 1 (ints (tabK (ntT tabO) p.toNat 6))]) else none
  | _ => none
theorem nt_top {both : Bool} {nt : List Int → Nat} {R : Nat} (N : NT both nt R) {p key : Nat} (h : okPl both nt p) (h1 : 1 ≤ p) (h3 : p ≤ 3) (hk : key < 9 ^ p) (hs : (dg key p).sum ≤ 8) : nt (pad3 (dg key p)) ≤ R := by
  refine N.top _ (mem_allT.2 ?_)
  have h8 := dg_in8 key p
  match p, h1, h3 with
  | 1, _, _ => simp [dg, pad3, inT] at hs ⊢; omega
  | 2, _, _ => simp [dg, pad3, inT] at hs ⊢; omega
  | 3, _, _ => simp [dg, pad3, inT] at hs ⊢; omega
set_option maxHeartbeats 4000000 in
theorem s_l4Needs {P : Program} (hm : P.follows .mixedOrders = true) {Γ : Gam} (hΓ : GS P Γ) {n : FuncId} {f_l4Counted : FuncId} {f_l4Told : FuncId} {f_l4Counts : FuncId} {f_l4Within : FuncId} (is : Is P n (a_l4Needs f_l4Counted f_l4Told f_l4Counts f_l4Within)) (h_l4Counted : Γ f_l4Counted = c_l4Counted) (h_l4Told : Γ f_l4Told = c_isTold) (h_l4Counts : Γ f_l4Counts = c_AreCounts) (h_l4Within : Γ f_l4Within = c_l4Within)  : Says P n c_l4Needs := by
  refine Says.pure fun args r fs h => ?_
  split at h
  case h_2 => cases h
  rename_i p
  split at h
  case isFalse => cases h
  rename_i hc
  simp only [ofI_ints, ofBo_bools, ofAs_asks, Option.some.injEq, Prod.mk.injEq] at h hc
  obtain ⟨rfl, rfl⟩ := h
  obtain ⟨hp1', hp3'⟩ := hc
  obtain ⟨p, rfl⟩ : ∃ j : Nat, p = j := ⟨p.toNat, by omega⟩
  simp only [Int.toNat_natCast]
  have hp1 : 1 ≤ p := by omega
  have hp3 : p ≤ 3 := by omega
  have hpi3 : (p : Int) ≤ 3 := by omega
  have hpi0 : (0 : Int) ≤ (p : Int) := by omega
  have h9 := pow9 hp3
  have hokB := okP_B hp1 hp3
  have hN : NT true (ntT tabB) 9 := ntB
  have htop : ∀ key, key < 9 ^ p → (dg key p).sum ≤ 8 → (ntT tabB) (pad3 (dg key p)) ≤ 9 := fun key hk hs => nt_top hN hokB hp1 hp3 hk hs
  generalize (ntT tabB) = nt at *
  refine is.go hm hΓ k_l4Needs o_l4Needs (by simp [a_l4Needs]) ?_
  simp only [a_l4Needs, List.zipIdx_cons, List.zipIdx_nil, ↓SP, SQ, Gam.add, stepM, callC, argC, lendO, nmBy, nmC, likeL, likeB, plainOb, offs, exL, X, F, trP, trO, stepD, stepW, newA, SV.tr, SV.trL, fz, allP, Ob.tr, loadA, cellsA, SV.cells, binA, binI, eqOut, isSl, isPt, natOf, callee, snap, SV.refsL, SV.refs, thaw, fzAll, loA, hiA, elemOf, partsA, buildA, putCells, ↓reduceIte, reduceCtorEq, okCell, Nat.reduceAdd, Nat.reduceEqDiff, Nat.reduceSub, Nat.reduceMul, Nat.reduceLeDiff, Nat.reduceLT, Nat.reduceBEq, PV.scal, PV.scalL, SV.scal, SV.scalL, Ob.scal, PV.isCell, pure', resO]
  refine loop_at (fun s : M => mkEnv [(0, si p), (2, .p .nilsl), (3, si ((9 ^ s.i : Nat) : Int)), (4, si s.i), (5, .junk), (6, .junk), (7, .junk), (8, .junk), (9, .junk), (10, .junk), (11, .junk), (12, .junk), (13, .junk), (16, s.a), (26, .junk), (36, .junk), (41, .junk), (48, .junk), (56, .junk), (66, .junk), (84, .junk)]) (fun s => mkO [(22, none), (23, none), (44, none), (45, none), (51, none), (52, none), (72, none), (73, none), (79, none), (80, none)]) (fun s => s.i ≤ p) (fun s => p - s.i) ⟨0, .junk, .junk, .junk, .junk, .junk, .junk, .junk, .junk, .junk, .junk, .junk, none, none, none, none, none⟩ (by simp) rfl rfl ?_
  rintro ⟨i, waa, wab, wac, wad, wae, waf, wag, wah, wak, wal, wam, waoo, waop, waoq, waor, waot⟩ hi R1 hR1 hN1
  simp only at hi
  by_cases h : i < p
  · have h1 : (i : Int) < (p : Int) := by omega
    have hw := wrap_one (i := i) (by omega)
    have hpw := pow9 (i := i) (by omega)
    have hm9 : IntKind.i64.wrap (((9 ^ i : Nat) : Int) * 9) = ((9 ^ (i + 1) : Nat) : Int) := by
      rw [Nat.pow_succ]
      generalize 9 ^ i = z at hpw
      rw [wrap64 (by omega) (by omega)]; omega
    simp only [h1, hw, hm9, ↓SP, SQ, Gam.add, stepM, callC, argC, lendO, nmBy, nmC, likeL, likeB, plainOb, offs, exL, X, F, trP, trO, stepD, stepW, newA, SV.tr, SV.trL, fz, allP, Ob.tr, loadA, cellsA, SV.cells, binA, binI, eqOut, isSl, isPt, natOf, callee, snap, SV.refsL, SV.refs, thaw, fzAll, loA, hiA, elemOf, partsA, buildA, putCells, ↓reduceIte, reduceCtorEq, okCell, Nat.reduceAdd, Nat.reduceEqDiff, Nat.reduceSub, Nat.reduceMul, Nat.reduceLeDiff, Nat.reduceLT, Nat.reduceBEq, PV.scal, PV.scalL, SV.scal, SV.scalL, Ob.scal, PV.isCell, pure', resO]
    exact hN1 ⟨i + 1, _, .junk, .junk, .junk, .junk, .junk, .junk, .junk, .junk, .junk, .junk, none, none, none, none, none⟩ _ _ (by simp only; omega) (by simp only; omega) rfl rfl
  have hie : i = p := by omega
  have h1 : ¬ ((p : Nat) : Int) < (p : Int) := by omega
  subst hie
  have hroom : 9 ^ i ≤ roomA := by unfold roomA; omega
  have hn0 : (0 : Int) ≤ ((9 ^ i : Nat) : Int) := Int.natCast_nonneg _
  have hA0 := stA_0 nt i
  simp only [h1, ↓SP, SQ, Gam.add, stepM, callC, argC, lendO, nmBy, nmC, likeL, likeB, plainOb, offs, exL, X, F, trP, trO, stepD, stepW, newA, SV.tr, SV.trL, fz, allP, Ob.tr, loadA, cellsA, SV.cells, binA, binI, eqOut, isSl, isPt, natOf, callee, snap, SV.refsL, SV.refs, thaw, fzAll, loA, hiA, elemOf, partsA, buildA, putCells, ↓reduceIte, reduceCtorEq, okCell, Nat.reduceAdd, Nat.reduceEqDiff, Nat.reduceSub, Nat.reduceMul, Nat.reduceLeDiff, Nat.reduceLT, Nat.reduceBEq, PV.scal, PV.scalL, SV.scal, SV.scalL, Ob.scal, PV.isCell, pure', resO]
  refine hR1 _ _ _ (by intro h; cases h) ?_
  simp only [hroom, hn0, Int.toNat_natCast, ints_rep, hA0, ↓SP, SQ, Gam.add, stepM, callC, argC, lendO, nmBy, nmC, likeL, likeB, plainOb, offs, exL, X, F, trP, trO, stepD, stepW, newA, SV.tr, SV.trL, fz, allP, Ob.tr, loadA, cellsA, SV.cells, binA, binI, eqOut, isSl, isPt, natOf, callee, snap, SV.refsL, SV.refs, thaw, fzAll, loA, hiA, elemOf, partsA, buildA, putCells, ↓reduceIte, reduceCtorEq, okCell, Nat.reduceAdd, Nat.reduceEqDiff, Nat.reduceSub, Nat.reduceMul, Nat.reduceLeDiff, Nat.reduceLT, Nat.reduceBEq, PV.scal, PV.scalL, SV.scal, SV.scalL, Ob.scal, PV.isCell, pure', resO]
  refine loop_at (fun s : M => mkEnv [(0, si i), (2, .p .nilsl), (3, si ((9 ^ i : Nat) : Int)), (4, si i), (5, .ar 22), (6, .ar 23), (7, si s.i), (8, s.a), (9, .junk), (10, .junk), (11, .junk), (12, .junk), (13, .junk), (16, sb false), (26, s.b), (36, s.c), (41, s.d), (48, .junk), (56, .junk), (66, .junk), (84, .junk)]) (fun s => mkO [(22, some (.arr 1 (ints (stA nt i s.i)))), (23, some (.arr 1 (ints (nz (lfA nt i s.i))))), (44, s.o), (45, none), (51, none), (52, none), (72, none), (73, none), (79, none), (80, none)]) (fun s => s.i ≤ 9 ^ i) (fun s => 9 ^ i - s.i) ⟨0, .junk, .junk, .junk, .junk, .junk, .junk, .junk, .junk, .junk, .junk, .junk, none, none, none, none, none⟩ (by simp) rfl rfl ?_
  rintro ⟨j, wba, wbb, wbc, wbd, wbe, wbf, wbg, wbh, wbk, wbl, wbm, wboo, wbop, wboq, wbor, wbot⟩ hj R2 hR2 hN2
  simp only at hj
  by_cases h : j < 9 ^ i
  · have h2 : (j : Int) < ((9 ^ i : Nat) : Int) := Int.ofNat_lt.2 h
    have hw := wrap_one (i := j) (by omega)
    have hj0 : (0 : Int) ≤ (j : Int) := Int.natCast_nonneg _
    have hj1 : (j : Int) ≤ 1000000 := by omega
    have hlen := stA_len nt i j
    have hdl := dg_len j i
    have hdl3 : (dg j i).length ≤ 3 := by omega
    have hdlb : (dg j i).length ≤ 1100000 := by omega
    have hd8 := dg_in8 j i
    have hone := stA_one (nt := nt) (p := i) (i := j)
    obtain ⟨e0, he0⟩ : ∃ e, (ints (stA nt i j))[j]? = some e := ⟨_, List.getElem?_eq_getElem (by rw [ints_len, hlen]; exact h)⟩
    have hlen1 : ((stA nt i j).set j (-1)).length = 9 ^ i := by rw [List.length_set, hlen]
    obtain ⟨e1, he1⟩ : ∃ e, (ints ((stA nt i j).set j (-1)))[j]? = some e := ⟨_, List.getElem?_eq_getElem (by rw [ints_len, hlen1]; exact h)⟩
    cases ht : told (dg j i) with
    | true =>
      have hv := val0_told hokB h ht
      have hs8 : (dg j i).sum ≤ 8 := by have := ht; simp only [told, decide_eq_true_eq] at this; omega
      have hz := (zero_told hokB h hs8).2 ht
      have hno := lfA_no (nt := nt) (p := i) (i := j) (by omega)
      rw [hv] at hone
      have hset : ((stA nt i j).set j (-1)).set j 0 = stA nt i (j + 1) := by rw [List.set_set, hone]
      simp only [h, h2, hw, hj0, hj1, hpi0, hpi3, hlen, hlen1, hdl3, hdlb, hd8, he0, he1, ht, hset, Int.toNat_natCast, ints_len, ints_set, isI_ints, ofI_ints, h_l4Counted, c_l4Counted, h_l4Told, c_isTold, h_l4Counts, c_AreCounts, ↓SP, SQ, Gam.add, stepM, callC, argC, lendO, nmBy, nmC, likeL, likeB, plainOb, offs, exL, X, F, trP, trO, stepD, stepW, newA, SV.tr, SV.trL, fz, allP, Ob.tr, loadA, cellsA, SV.cells, binA, binI, eqOut, isSl, isPt, natOf, callee, snap, SV.refsL, SV.refs, thaw, fzAll, loA, hiA, elemOf, partsA, buildA, putCells, ↓reduceIte, reduceCtorEq, okCell, Nat.reduceAdd, Nat.reduceEqDiff, Nat.reduceSub, Nat.reduceMul, Nat.reduceLeDiff, Nat.reduceLT, Nat.reduceBEq, PV.scal, PV.scalL, SV.scal, SV.scalL, Ob.scal, PV.isCell, pure', resO]
      exact hN2 ⟨j + 1, _, _, _, _, .junk, .junk, .junk, .junk, .junk, .junk, .junk, _, none, none, none, none⟩ _ _ (by simp only; omega) (by simp only; omega) rfl (by rw [hno])
    | false =>
      have hv := val0_not hokB h ht
      rw [hv] at hone
      cases hkc : okC (dg j i) with
      | true =>
        have hs8 := (okC_out hkc).2.2
        have hnz : 0 < nt (pad3 (dg j i)) := by
          rcases Nat.eq_zero_or_pos (nt (pad3 (dg j i))) with g | g
          · have := (zero_told hokB h hs8).1 g; rw [ht] at this; cases this
          · exact g
        have hyes := lfA_yes hs8 hnz
        have hll := lfA_len nt i j
        have hr : (lfA nt i j).length + 1 ≤ roomA := by unfold roomA; omega
        simp only [h, h2, hw, hj0, hj1, hpi0, hpi3, hlen, hlen1, hdl3, hdlb, hd8, he0, he1, ht, hkc, hone, hyes, hr, nz_len, nz_app, Int.toNat_natCast, ints_len, ints_set, ints_app1, ints_cell, isI_ints, ofI_ints, h_l4Counted, c_l4Counted, h_l4Told, c_isTold, h_l4Counts, c_AreCounts, ↓SP, SQ, Gam.add, stepM, callC, argC, lendO, nmBy, nmC, likeL, likeB, plainOb, offs, exL, X, F, trP, trO, stepD, stepW, newA, SV.tr, SV.trL, fz, allP, Ob.tr, loadA, cellsA, SV.cells, binA, binI, eqOut, isSl, isPt, natOf, callee, snap, SV.refsL, SV.refs, thaw, fzAll, loA, hiA, elemOf, partsA, buildA, putCells, ↓reduceIte, reduceCtorEq, okCell, Nat.reduceAdd, Nat.reduceEqDiff, Nat.reduceSub, Nat.reduceMul, Nat.reduceLeDiff, Nat.reduceLT, Nat.reduceBEq, PV.scal, PV.scalL, SV.scal, SV.scalL, Ob.scal, PV.isCell, pure', resO]
        exact hN2 ⟨j + 1, _, _, _, _, .junk, .junk, .junk, .junk, .junk, .junk, .junk, _, none, none, none, none⟩ _ _ (by simp only; omega) (by simp only; omega) rfl rfl
      | false =>
        have hno := lfA_no (nt := nt) (p := i) (i := j) (fun e => by
          have : okC (dg j i) = true := by
            simp only [okC, hdl, hd8, dec_t e.1, Bool.and_true]
            rw [dec_t (by omega), dec_t (by omega)]; rfl
          rw [hkc] at this; cases this)
        simp only [h, h2, hw, hj0, hj1, hpi0, hpi3, hlen, hlen1, hdl3, hdlb, hd8, he0, he1, ht, hkc, hone, Int.toNat_natCast, ints_len, ints_set, isI_ints, ofI_ints, h_l4Counted, c_l4Counted, h_l4Told, c_isTold, h_l4Counts, c_AreCounts, ↓SP, SQ, Gam.add, stepM, callC, argC, lendO, nmBy, nmC, likeL, likeB, plainOb, offs, exL, X, F, trP, trO, stepD, stepW, newA, SV.tr, SV.trL, fz, allP, Ob.tr, loadA, cellsA, SV.cells, binA, binI, eqOut, isSl, isPt, natOf, callee, snap, SV.refsL, SV.refs, thaw, fzAll, loA, hiA, elemOf, partsA, buildA, putCells, ↓reduceIte, reduceCtorEq, okCell, Nat.reduceAdd, Nat.reduceEqDiff, Nat.reduceSub, Nat.reduceMul, Nat.reduceLeDiff, Nat.reduceLT, Nat.reduceBEq, PV.scal, PV.scalL, SV.scal, SV.scalL, Ob.scal, PV.isCell, pure', resO]
        exact hN2 ⟨j + 1, _, _, _, _, .junk, .junk, .junk, .junk, .junk, .junk, .junk, _, none, none, none, none⟩ _ _ (by simp only; omega) (by simp only; omega) rfl (by rw [hno])
  have hje : j = 9 ^ i := by omega
  have h2 : ¬ ((9 ^ i : Nat) : Int) < ((9 ^ i : Nat) : Int) := Int.lt_irrefl _
  subst hje
  have hA9 := stA_end nt i
  have hL9 := lfA_end nt i
  simp only [h2, ↓SP, SQ, Gam.add, stepM, callC, argC, lendO, nmBy, nmC, likeL, likeB, plainOb, offs, exL, X, F, trP, trO, stepD, stepW, newA, SV.tr, SV.trL, fz, allP, Ob.tr, loadA, cellsA, SV.cells, binA, binI, eqOut, isSl, isPt, natOf, callee, snap, SV.refsL, SV.refs, thaw, fzAll, loA, hiA, elemOf, partsA, buildA, putCells, ↓reduceIte, reduceCtorEq, okCell, Nat.reduceAdd, Nat.reduceEqDiff, Nat.reduceSub, Nat.reduceMul, Nat.reduceLeDiff, Nat.reduceLT, Nat.reduceBEq, PV.scal, PV.scalL, SV.scal, SV.scalL, Ob.scal, PV.isCell, pure', resO]
  refine hR2 _ _ _ (by intro h; cases h) ?_
  simp only [hA9, hL9, ↓SP, SQ, Gam.add, stepM, callC, argC, lendO, nmBy, nmC, likeL, likeB, plainOb, offs, exL, X, F, trP, trO, stepD, stepW, newA, SV.tr, SV.trL, fz, allP, Ob.tr, loadA, cellsA, SV.cells, binA, binI, eqOut, isSl, isPt, natOf, callee, snap, SV.refsL, SV.refs, thaw, fzAll, loA, hiA, elemOf, partsA, buildA, putCells, ↓reduceIte, reduceCtorEq, okCell, Nat.reduceAdd, Nat.reduceEqDiff, Nat.reduceSub, Nat.reduceMul, Nat.reduceLeDiff, Nat.reduceLT, Nat.reduceBEq, PV.scal, PV.scalL, SV.scal, SV.scalL, Ob.scal, PV.isCell, pure', resO]
  refine loop_at (fun s : M => mkEnv [(0, si i), (2, .p .nilsl), (3, si ((9 ^ i : Nat) : Int)), (4, si i), (5, .ar 22), (6, match s.i with | 0 => .ar 23 | _ + 1 => .ar 52), (7, si ((9 ^ i : Nat) : Int)), (8, s.a), (9, si ((s.i + 1 : Nat) : Int)), (10, s.b), (11, s.c), (12, s.d), (13, s.e), (16, sb false), (26, sb false), (36, s.f), (41, s.g), (48, s.h), (56, s.k), (66, s.l), (84, s.m)]) (fun s => mkO [(22, some (.arr 1 (ints (tabK nt i s.i)))), (23, some (.arr 1 (ints (nz (lfK nt i 0))))), (44, s.o), (45, none), (51, s.p), (52, match s.i with | 0 => none | k + 1 => some (.arr 1 (ints (nz (lfK nt i (k + 1)))))), (72, s.q), (73, none), (79, s.r), (80, none)]) (fun s => s.i ≤ 9) (fun s => 9 - s.i) ⟨0, _, .junk, .junk, .junk, .junk, _, _, .junk, .junk, .junk, .junk, _, none, none, none, none⟩ (by simp) rfl rfl ?_
  rintro ⟨k, wca, wcb, wcc, wcd, wce, wcf, wcg, wch, wck, wcl, wcm, wcoo, wcop, wcoq, wcor, wcot⟩ hk R3 hR3 hN3
  simp only at hk
  by_cases h : 0 < (lfK nt i k).length
  · have hkR : k < 9 := by
      obtain ⟨key, hkey⟩ := List.exists_mem_of_length_pos h
      have := lf_mem hkey
      have := htop key this.1 this.2.1
      omega
    have hw := wrap_one (i := k + 1) (by omega)
    have hll := lf_len nt i k
    have hz0 := lf_len nt i 0
    have h3' : ((lfK nt i k).length : Int) > 0 := by omega
    cases k with
    | zero =>
      simp only [h3', nz_len, ints_len, ↓SP, SQ, Gam.add, stepM, callC, argC, lendO, nmBy, nmC, likeL, likeB, plainOb, offs, exL, X, F, trP, trO, stepD, stepW, newA, SV.tr, SV.trL, fz, allP, Ob.tr, loadA, cellsA, SV.cells, binA, binI, eqOut, isSl, isPt, natOf, callee, snap, SV.refsL, SV.refs, thaw, fzAll, loA, hiA, elemOf, partsA, buildA, putCells, ↓reduceIte, reduceCtorEq, okCell, Nat.reduceAdd, Nat.reduceEqDiff, Nat.reduceSub, Nat.reduceMul, Nat.reduceLeDiff, Nat.reduceLT, Nat.reduceBEq, PV.scal, PV.scalL, SV.scal, SV.scalL, Ob.scal, PV.isCell, pure', resO]
      refine loop_at (fun s : M => mkEnv [(0, si i), (2, .p .nilsl), (3, si ((9 ^ i : Nat) : Int)), (4, si i), (5, .ar 22), (6, .ar 23), (7, si ((9 ^ i : Nat) : Int)), (8, s.a), (9, si ((1 : Nat) : Int)), (10, .ar 51), (11, .ar 52), (12, si s.i), (13, s.b), (16, sb false), (26, sb false), (36, s.c), (41, s.d), (48, sb true), (56, s.e), (66, s.f), (84, s.g)]) (fun s => mkO [(22, some (.arr 1 (ints (tabK nt i (0))))), (23, some (.arr 1 (ints (nz (lfK nt i 0))))), (44, s.o), (45, none), (51, some (.arr 1 (ints (nz (((lfK nt i (0)).take s.i).filter fun key => decide (nt (pad3 (dg key i)) ≤ 1)))))), (52, some (.arr 1 (ints (nz (((lfK nt i (0)).take s.i).filter fun key => !decide (nt (pad3 (dg key i)) ≤ 1)))))), (72, s.q), (73, none), (79, s.r), (80, none)]) (fun s => s.i ≤ (lfK nt i (0)).length) (fun s => (lfK nt i (0)).length - s.i) ⟨0, _, _, _, _, _, _, _, .junk, .junk, .junk, .junk, _, none, _, _, none⟩ (by simp) rfl rfl ?_
      rintro ⟨i2, wda, wdb, wdc, wdd, wde, wdf, wdg, wdh, wdk, wdl, wdm, wdoo, wdop, wdoq, wdor, wdot⟩ hi2 R4 hR4 hN4
      simp only at hi2
      by_cases hlt : i2 < (lfK nt i (0)).length
      · have h4 : (i2 : Int) < (lfK nt i (0)).length := by omega
        have hi3 : i2 < (lfK nt i (0)).length := hlt
        have hwi := wrap_one (i := i2) (by omega)
        obtain ⟨key, hkey⟩ : ∃ key, (lfK nt i (0)).getD i2 0 = key := ⟨_, rfl⟩
        have hmem := lf_mem (nt := nt) (p := i) (k := 0) (key := key) (by rw [← hkey, getD_lt hlt]; exact List.getElem_mem hlt)
        have hgk := nz_get hlt
        rw [hkey] at hgk
        have hk0 : (0 : Int) ≤ (key : Int) := by omega
        have hk1 : (key : Int) ≤ 1000000 := by omega
        have hdl := dg_len key i
        have htold : told (dg key i) = false := by
          cases ht : told (dg key i) with
          | false => rfl
          | true => have := (zero_told hokB hmem.1 hmem.2.1).2 ht; omega
        have hokw := open_okw hp1 hp3 hmem.1 hmem.2.1 htold
        have htabl : (tabK nt i (0)).length = 9 ^ i := tabK_len nt i (0)
        have hwany := wi_any (k := 0) hokB hp3 hmem.1 hmem.2.1 htold
        have hq0 := take_one (lfK nt i (0)) i2 0 hlt
        rw [hkey] at hq0
        by_cases hnt : nt (pad3 (dg key i)) ≤ 1
        ·   skip
            rw [dec_t hnt] at hwany
            have hapx : (((lfK nt i (0)).take i2).filter fun key => decide (nt (pad3 (dg key i)) ≤ 1)) ++ [key] = ((lfK nt i (0)).take (i2 + 1)).filter fun key => decide (nt (pad3 (dg key i)) ≤ 1) := by
              rw [hq0, List.filter_append]; simp only [List.filter_cons, dec_t hnt, List.filter_nil, if_true]
            have hsm : ((lfK nt i (0)).take (i2 + 1)).filter (fun key => !decide (nt (pad3 (dg key i)) ≤ 1)) = ((lfK nt i (0)).take i2).filter fun key => !decide (nt (pad3 (dg key i)) ≤ 1) := by
              rw [hq0, List.filter_append]; simp only [List.filter_cons, dec_t hnt, Bool.not_true, List.filter_nil, Bool.false_eq_true, if_false, List.append_nil]
            have hfl : (((lfK nt i (0)).take i2).filter fun key => decide (nt (pad3 (dg key i)) ≤ 1)).length + 1 ≤ roomA := by
              have := List.length_filter_le (fun key => decide (nt (pad3 (dg key i)) ≤ 1)) ((lfK nt i (0)).take i2)
              rw [List.length_take] at this
              unfold roomA; omega
            simp only [h4, hi3, hgk, hk0, hk1, hpi0, hpi3, nz_len, ints_len, Int.toNat_natCast, isI_ints, ofI_ints, h_l4Counted, c_l4Counted, hwany, hokw, htabl, hdl, h_l4Within, c_l4Within, hwi, hapx, hfl, nz_app, ints_app1, ints_cell, ↓SP, SQ, Gam.add, stepM, callC, argC, lendO, nmBy, nmC, likeL, likeB, plainOb, offs, exL, X, F, trP, trO, stepD, stepW, newA, SV.tr, SV.trL, fz, allP, Ob.tr, loadA, cellsA, SV.cells, binA, binI, eqOut, isSl, isPt, natOf, callee, snap, SV.refsL, SV.refs, thaw, fzAll, loA, hiA, elemOf, partsA, buildA, putCells, ↓reduceIte, reduceCtorEq, okCell, Nat.reduceAdd, Nat.reduceEqDiff, Nat.reduceSub, Nat.reduceMul, Nat.reduceLeDiff, Nat.reduceLT, Nat.reduceBEq, PV.scal, PV.scalL, SV.scal, SV.scalL, Ob.scal, PV.isCell, pure', resO]
            exact hN4 ⟨i2 + 1, _, _, _, _, _, _, _, .junk, .junk, .junk, .junk, _, none, _, _, none⟩ _ _ (by simp only; omega) (by simp only; omega) rfl (by rw [hsm])
        ·   skip
            rw [dec_f hnt] at hwany
            have hapx : (((lfK nt i (0)).take i2).filter fun key => !decide (nt (pad3 (dg key i)) ≤ 1)) ++ [key] = ((lfK nt i (0)).take (i2 + 1)).filter fun key => !decide (nt (pad3 (dg key i)) ≤ 1) := by
              rw [hq0, List.filter_append]; simp only [List.filter_cons, dec_f hnt, Bool.not_false, List.filter_nil, if_true]
            have hsm : ((lfK nt i (0)).take (i2 + 1)).filter (fun key => decide (nt (pad3 (dg key i)) ≤ 1)) = ((lfK nt i (0)).take i2).filter fun key => decide (nt (pad3 (dg key i)) ≤ 1) := by
              rw [hq0, List.filter_append]; simp only [List.filter_cons, dec_f hnt, List.filter_nil, Bool.false_eq_true, if_false, List.append_nil]
            have hfl : (((lfK nt i (0)).take i2).filter fun key => !decide (nt (pad3 (dg key i)) ≤ 1)).length + 1 ≤ roomA := by
              have := List.length_filter_le (fun key => !decide (nt (pad3 (dg key i)) ≤ 1)) ((lfK nt i (0)).take i2)
              rw [List.length_take] at this
              unfold roomA; omega
            simp only [h4, hi3, hgk, hk0, hk1, hpi0, hpi3, nz_len, ints_len, Int.toNat_natCast, isI_ints, ofI_ints, h_l4Counted, c_l4Counted, hwany, hokw, htabl, hdl, h_l4Within, c_l4Within, hwi, hapx, hfl, nz_app, ints_app1, ints_cell, ↓SP, SQ, Gam.add, stepM, callC, argC, lendO, nmBy, nmC, likeL, likeB, plainOb, offs, exL, X, F, trP, trO, stepD, stepW, newA, SV.tr, SV.trL, fz, allP, Ob.tr, loadA, cellsA, SV.cells, binA, binI, eqOut, isSl, isPt, natOf, callee, snap, SV.refsL, SV.refs, thaw, fzAll, loA, hiA, elemOf, partsA, buildA, putCells, ↓reduceIte, reduceCtorEq, okCell, Nat.reduceAdd, Nat.reduceEqDiff, Nat.reduceSub, Nat.reduceMul, Nat.reduceLeDiff, Nat.reduceLT, Nat.reduceBEq, PV.scal, PV.scalL, SV.scal, SV.scalL, Ob.scal, PV.isCell, pure', resO]
            exact hN4 ⟨i2 + 1, _, _, _, _, _, _, _, .junk, .junk, .junk, .junk, _, none, _, _, none⟩ _ _ (by simp only; omega) (by simp only; omega) rfl (by rw [hsm])
      have hi2e : i2 = (lfK nt i (0)).length := by omega
      have h4 : ¬ ((lfK nt i (0)).length : Int) < (lfK nt i (0)).length := by omega
      subst hi2e
      have hmore : ((lfK nt i (0)).take (lfK nt i (0)).length).filter (fun key => !decide (nt (pad3 (dg key i)) ≤ 1)) = lfK nt i (1) := by rw [List.take_length, lf_next]
      obtain ⟨fnd, hfnd⟩ : ∃ fnd, ((lfK nt i (0)).take (lfK nt i (0)).length).filter (fun key => decide (nt (pad3 (dg key i)) ≤ 1)) = fnd := ⟨_, rfl⟩
      have hfl1 : fnd.length ≤ 9 ^ i := by
        rw [← hfnd]
        have := List.length_filter_le (fun key => decide (nt (pad3 (dg key i)) ≤ 1)) ((lfK nt i (0)).take (lfK nt i (0)).length)
        rw [List.take_length] at this
        rw [List.take_length]; omega
      have hfm : ∀ x ∈ fnd, x < 9 ^ i := fun x hx => by
        rw [← hfnd] at hx
        exact (lf_mem (List.mem_of_mem_take (List.mem_filter.1 hx).1)).1
      have hB0 := stB_0 nt i (0)
      simp only [h4, nz_len, ints_len, ↓SP, SQ, Gam.add, stepM, callC, argC, lendO, nmBy, nmC, likeL, likeB, plainOb, offs, exL, X, F, trP, trO, stepD, stepW, newA, SV.tr, SV.trL, fz, allP, Ob.tr, loadA, cellsA, SV.cells, binA, binI, eqOut, isSl, isPt, natOf, callee, snap, SV.refsL, SV.refs, thaw, fzAll, loA, hiA, elemOf, partsA, buildA, putCells, ↓reduceIte, reduceCtorEq, okCell, Nat.reduceAdd, Nat.reduceEqDiff, Nat.reduceSub, Nat.reduceMul, Nat.reduceLeDiff, Nat.reduceLT, Nat.reduceBEq, PV.scal, PV.scalL, SV.scal, SV.scalL, Ob.scal, PV.isCell, pure', resO]
      refine hR4 _ _ _ (by intro h; cases h) ?_
      simp only [hmore, hfnd, ↓SP, SQ, Gam.add, stepM, callC, argC, lendO, nmBy, nmC, likeL, likeB, plainOb, offs, exL, X, F, trP, trO, stepD, stepW, newA, SV.tr, SV.trL, fz, allP, Ob.tr, loadA, cellsA, SV.cells, binA, binI, eqOut, isSl, isPt, natOf, callee, snap, SV.refsL, SV.refs, thaw, fzAll, loA, hiA, elemOf, partsA, buildA, putCells, ↓reduceIte, reduceCtorEq, okCell, Nat.reduceAdd, Nat.reduceEqDiff, Nat.reduceSub, Nat.reduceMul, Nat.reduceLeDiff, Nat.reduceLT, Nat.reduceBEq, PV.scal, PV.scalL, SV.scal, SV.scalL, Ob.scal, PV.isCell, pure', resO]
      refine loop_at (fun s : M => mkEnv [(0, si i), (2, .p .nilsl), (3, si ((9 ^ i : Nat) : Int)), (4, si i), (5, .ar 22), (6, .ar 23), (7, si ((9 ^ i : Nat) : Int)), (8, s.a), (9, si ((1 : Nat) : Int)), (10, .ar 51), (11, .ar 52), (12, si (lfK nt i (0)).length), (13, si s.i), (16, sb false), (26, sb false), (36, s.c), (41, s.d), (48, sb true), (56, sb false), (66, s.f), (84, s.g)]) (fun s => mkO [(22, some (.arr 1 (ints (stB nt i (0) (fnd.take s.i))))), (23, some (.arr 1 (ints (nz (lfK nt i 0))))), (44, s.o), (45, none), (51, some (.arr 1 (ints (nz fnd)))), (52, some (.arr 1 (ints (nz (lfK nt i (1)))))), (72, s.q), (73, none), (79, s.r), (80, none)]) (fun s => s.i ≤ fnd.length) (fun s => fnd.length - s.i) ⟨0, _, .junk, _, _, .junk, _, _, .junk, .junk, .junk, .junk, _, none, _, _, none⟩ (by simp) rfl (by simp only [List.take_zero, hB0]; try rfl) ?_
      rintro ⟨i3, wea, web, wec, wed, wee, wef, weg, weh, wek, wel, wem, weoo, weop, weoq, weor, weot⟩ hi3 R5 hR5 hN5
      simp only at hi3
      by_cases hlt : i3 < fnd.length
      · have h5 : (i3 : Int) < fnd.length := by omega
        have hwi := wrap_one (i := i3) (by omega)
        obtain ⟨key, hkey⟩ : ∃ key, fnd.getD i3 0 = key := ⟨_, rfl⟩
        have hkm := hfm key (by rw [← hkey, getD_lt hlt]; exact List.getElem_mem hlt)
        have hgk := nz_get hlt
        rw [hkey] at hgk
        have hk0 : (0 : Int) ≤ (key : Int) := by omega
        have hbl := stB_len nt i (0) (fnd.take i3)
        have hset := stB_one nt i (0) (fnd.take i3) key
        have ht1 := take_one fnd i3 0 hlt
        rw [hkey] at ht1
        rw [← ht1] at hset
        obtain ⟨e6, he6⟩ : ∃ e, (ints (stB nt i (0) (fnd.take i3)))[key]? = some e := ⟨_, List.getElem?_eq_getElem (by rw [ints_len, hbl]; exact hkm)⟩
        simp only [h5, hlt, hgk, hk0, hkm, hbl, hset, he6, hwi, nz_len, ints_len, ints_set, Int.toNat_natCast, ↓SP, SQ, Gam.add, stepM, callC, argC, lendO, nmBy, nmC, likeL, likeB, plainOb, offs, exL, X, F, trP, trO, stepD, stepW, newA, SV.tr, SV.trL, fz, allP, Ob.tr, loadA, cellsA, SV.cells, binA, binI, eqOut, isSl, isPt, natOf, callee, snap, SV.refsL, SV.refs, thaw, fzAll, loA, hiA, elemOf, partsA, buildA, putCells, ↓reduceIte, reduceCtorEq, okCell, Nat.reduceAdd, Nat.reduceEqDiff, Nat.reduceSub, Nat.reduceMul, Nat.reduceLeDiff, Nat.reduceLT, Nat.reduceBEq, PV.scal, PV.scalL, SV.scal, SV.scalL, Ob.scal, PV.isCell, pure', resO]
        exact hN5 ⟨i3 + 1, _, .junk, _, _, .junk, _, _, .junk, .junk, .junk, .junk, _, none, _, _, none⟩ _ _ (by simp only; omega) (by simp only; omega) rfl rfl
      have hi3e : i3 = fnd.length := by omega
      have h5 : ¬ (fnd.length : Int) < fnd.length := by omega
      subst hi3e
      have hend : stB nt i (0) (fnd.take fnd.length) = tabK nt i (1) := by
        rw [List.take_length, ← hfnd, List.take_length, stB_end]
      simp only [h5, nz_len, ints_len, ↓SP, SQ, Gam.add, stepM, callC, argC, lendO, nmBy, nmC, likeL, likeB, plainOb, offs, exL, X, F, trP, trO, stepD, stepW, newA, SV.tr, SV.trL, fz, allP, Ob.tr, loadA, cellsA, SV.cells, binA, binI, eqOut, isSl, isPt, natOf, callee, snap, SV.refsL, SV.refs, thaw, fzAll, loA, hiA, elemOf, partsA, buildA, putCells, ↓reduceIte, reduceCtorEq, okCell, Nat.reduceAdd, Nat.reduceEqDiff, Nat.reduceSub, Nat.reduceMul, Nat.reduceLeDiff, Nat.reduceLT, Nat.reduceBEq, PV.scal, PV.scalL, SV.scal, SV.scalL, Ob.scal, PV.isCell, pure', resO]
      refine hR5 _ _ _ (by intro h; cases h) ?_
      simp only [hend, hw, ↓SP, SQ, Gam.add, stepM, callC, argC, lendO, nmBy, nmC, likeL, likeB, plainOb, offs, exL, X, F, trP, trO, stepD, stepW, newA, SV.tr, SV.trL, fz, allP, Ob.tr, loadA, cellsA, SV.cells, binA, binI, eqOut, isSl, isPt, natOf, callee, snap, SV.refsL, SV.refs, thaw, fzAll, loA, hiA, elemOf, partsA, buildA, putCells, ↓reduceIte, reduceCtorEq, okCell, Nat.reduceAdd, Nat.reduceEqDiff, Nat.reduceSub, Nat.reduceMul, Nat.reduceLeDiff, Nat.reduceLT, Nat.reduceBEq, PV.scal, PV.scalL, SV.scal, SV.scalL, Ob.scal, PV.isCell, pure', resO]
      exact hN3 ⟨1, _, _, _, _, _, _, _, _, _, _, _, _, _, _, _, none⟩ _ _ (by simp only; omega) (by simp only; omega) rfl rfl
    | succ k =>
      simp only [h3', nz_len, ints_len, ↓SP, SQ, Gam.add, stepM, callC, argC, lendO, nmBy, nmC, likeL, likeB, plainOb, offs, exL, X, F, trP, trO, stepD, stepW, newA, SV.tr, SV.trL, fz, allP, Ob.tr, loadA, cellsA, SV.cells, binA, binI, eqOut, isSl, isPt, natOf, callee, snap, SV.refsL, SV.refs, thaw, fzAll, loA, hiA, elemOf, partsA, buildA, putCells, ↓reduceIte, reduceCtorEq, okCell, Nat.reduceAdd, Nat.reduceEqDiff, Nat.reduceSub, Nat.reduceMul, Nat.reduceLeDiff, Nat.reduceLT, Nat.reduceBEq, PV.scal, PV.scalL, SV.scal, SV.scalL, Ob.scal, PV.isCell, pure', resO]
      refine loop_at (fun s : M => mkEnv [(0, si i), (2, .p .nilsl), (3, si ((9 ^ i : Nat) : Int)), (4, si i), (5, .ar 22), (6, .p (.sl 1 (ints (nz (lfK nt i (k + 1)))))), (7, si ((9 ^ i : Nat) : Int)), (8, s.a), (9, si ((k + 1 + 1 : Nat) : Int)), (10, .ar 51), (11, .ar 52), (12, si s.i), (13, s.b), (16, sb false), (26, sb false), (36, s.c), (41, s.d), (48, sb true), (56, s.e), (66, s.f), (84, s.g)]) (fun s => mkO [(22, some (.arr 1 (ints (tabK nt i (k + 1))))), (23, some (.arr 1 (ints (nz (lfK nt i 0))))), (44, s.o), (45, none), (51, some (.arr 1 (ints (nz (((lfK nt i (k + 1)).take s.i).filter fun key => decide (nt (pad3 (dg key i)) ≤ (k + 1) + 1)))))), (52, some (.arr 1 (ints (nz (((lfK nt i (k + 1)).take s.i).filter fun key => !decide (nt (pad3 (dg key i)) ≤ (k + 1) + 1)))))), (72, s.q), (73, none), (79, s.r), (80, none)]) (fun s => s.i ≤ (lfK nt i (k + 1)).length) (fun s => (lfK nt i (k + 1)).length - s.i) ⟨0, _, _, _, _, _, _, _, .junk, .junk, .junk, .junk, _, none, _, _, none⟩ (by simp) rfl rfl ?_
      rintro ⟨i2, wda, wdb, wdc, wdd, wde, wdf, wdg, wdh, wdk, wdl, wdm, wdoo, wdop, wdoq, wdor, wdot⟩ hi2 R4 hR4 hN4
      simp only at hi2
      by_cases hlt : i2 < (lfK nt i (k + 1)).length
      · have h4 : (i2 : Int) < (lfK nt i (k + 1)).length := by omega
        have hi3 : i2 < (lfK nt i (k + 1)).length := hlt
        have hwi := wrap_one (i := i2) (by omega)
        obtain ⟨key, hkey⟩ : ∃ key, (lfK nt i (k + 1)).getD i2 0 = key := ⟨_, rfl⟩
        have hmem := lf_mem (nt := nt) (p := i) (k := k + 1) (key := key) (by rw [← hkey, getD_lt hlt]; exact List.getElem_mem hlt)
        have hgk := nz_get hlt
        rw [hkey] at hgk
        have hk0 : (0 : Int) ≤ (key : Int) := by omega
        have hk1 : (key : Int) ≤ 1000000 := by omega
        have hdl := dg_len key i
        have htold : told (dg key i) = false := by
          cases ht : told (dg key i) with
          | false => rfl
          | true => have := (zero_told hokB hmem.1 hmem.2.1).2 ht; omega
        have hokw := open_okw hp1 hp3 hmem.1 hmem.2.1 htold
        have htabl : (tabK nt i (k + 1)).length = 9 ^ i := tabK_len nt i (k + 1)
        have hwany := wi_any (k := k + 1) hokB hp3 hmem.1 hmem.2.1 htold
        have hq0 := take_one (lfK nt i (k + 1)) i2 0 hlt
        rw [hkey] at hq0
        by_cases hnt : nt (pad3 (dg key i)) ≤ (k + 1) + 1
        ·   skip
            rw [dec_t hnt] at hwany
            have hapx : (((lfK nt i (k + 1)).take i2).filter fun key => decide (nt (pad3 (dg key i)) ≤ (k + 1) + 1)) ++ [key] = ((lfK nt i (k + 1)).take (i2 + 1)).filter fun key => decide (nt (pad3 (dg key i)) ≤ (k + 1) + 1) := by
              rw [hq0, List.filter_append]; simp only [List.filter_cons, dec_t hnt, List.filter_nil, if_true]
            have hsm : ((lfK nt i (k + 1)).take (i2 + 1)).filter (fun key => !decide (nt (pad3 (dg key i)) ≤ (k + 1) + 1)) = ((lfK nt i (k + 1)).take i2).filter fun key => !decide (nt (pad3 (dg key i)) ≤ (k + 1) + 1) := by
              rw [hq0, List.filter_append]; simp only [List.filter_cons, dec_t hnt, Bool.not_true, List.filter_nil, Bool.false_eq_true, if_false, List.append_nil]
            have hfl : (((lfK nt i (k + 1)).take i2).filter fun key => decide (nt (pad3 (dg key i)) ≤ (k + 1) + 1)).length + 1 ≤ roomA := by
              have := List.length_filter_le (fun key => decide (nt (pad3 (dg key i)) ≤ (k + 1) + 1)) ((lfK nt i (k + 1)).take i2)
              rw [List.length_take] at this
              unfold roomA; omega
            simp only [h4, hi3, hgk, hk0, hk1, hpi0, hpi3, nz_len, ints_len, Int.toNat_natCast, isI_ints, ofI_ints, h_l4Counted, c_l4Counted, hwany, hokw, htabl, hdl, h_l4Within, c_l4Within, hwi, hapx, hfl, nz_app, ints_app1, ints_cell, ↓SP, SQ, Gam.add, stepM, callC, argC, lendO, nmBy, nmC, likeL, likeB, plainOb, offs, exL, X, F, trP, trO, stepD, stepW, newA, SV.tr, SV.trL, fz, allP, Ob.tr, loadA, cellsA, SV.cells, binA, binI, eqOut, isSl, isPt, natOf, callee, snap, SV.refsL, SV.refs, thaw, fzAll, loA, hiA, elemOf, partsA, buildA, putCells, ↓reduceIte, reduceCtorEq, okCell, Nat.reduceAdd, Nat.reduceEqDiff, Nat.reduceSub, Nat.reduceMul, Nat.reduceLeDiff, Nat.reduceLT, Nat.reduceBEq, PV.scal, PV.scalL, SV.scal, SV.scalL, Ob.scal, PV.isCell, pure', resO]
            exact hN4 ⟨i2 + 1, _, _, _, _, _, _, _, .junk, .junk, .junk, .junk, _, none, _, _, none⟩ _ _ (by simp only; omega) (by simp only; omega) rfl (by rw [hsm])
        ·   skip
            rw [dec_f hnt] at hwany
            have hapx : (((lfK nt i (k + 1)).take i2).filter fun key => !decide (nt (pad3 (dg key i)) ≤ (k + 1) + 1)) ++ [key] = ((lfK nt i (k + 1)).take (i2 + 1)).filter fun key => !decide (nt (pad3 (dg key i)) ≤ (k + 1) + 1) := by
              rw [hq0, List.filter_append]; simp only [List.filter_cons, dec_f hnt, Bool.not_false, List.filter_nil, if_true]
            have hsm : ((lfK nt i (k + 1)).take (i2 + 1)).filter (fun key => decide (nt (pad3 (dg key i)) ≤ (k + 1) + 1)) = ((lfK nt i (k + 1)).take i2).filter fun key => decide (nt (pad3 (dg key i)) ≤ (k + 1) + 1) := by
              rw [hq0, List.filter_append]; simp only [List.filter_cons, dec_f hnt, List.filter_nil, Bool.false_eq_true, if_false, List.append_nil]
            have hfl : (((lfK nt i (k + 1)).take i2).filter fun key => !decide (nt (pad3 (dg key i)) ≤ (k + 1) + 1)).length + 1 ≤ roomA := by
              have := List.length_filter_le (fun key => !decide (nt (pad3 (dg key i)) ≤ (k + 1) + 1)) ((lfK nt i (k + 1)).take i2)
              rw [List.length_take] at this
              unfold roomA; omega
            simp only [h4, hi3, hgk, hk0, hk1, hpi0, hpi3, nz_len, ints_len, Int.toNat_natCast, isI_ints, ofI_ints, h_l4Counted, c_l4Counted, hwany, hokw, htabl, hdl, h_l4Within, c_l4Within, hwi, hapx, hfl, nz_app, ints_app1, ints_cell, ↓SP, SQ, Gam.add, stepM, callC, argC, lendO, nmBy, nmC, likeL, likeB, plainOb, offs, exL, X, F, trP, trO, stepD, stepW, newA, SV.tr, SV.trL, fz, allP, Ob.tr, loadA, cellsA, SV.cells, binA, binI, eqOut, isSl, isPt, natOf, callee, snap, SV.refsL, SV.refs, thaw, fzAll, loA, hiA, elemOf, partsA, buildA, putCells, ↓reduceIte, reduceCtorEq, okCell, Nat.reduceAdd, Nat.reduceEqDiff, Nat.reduceSub, Nat.reduceMul, Nat.reduceLeDiff, Nat.reduceLT, Nat.reduceBEq, PV.scal, PV.scalL, SV.scal, SV.scalL, Ob.scal, PV.isCell, pure', resO]
            exact hN4 ⟨i2 + 1, _, _, _, _, _, _, _, .junk, .junk, .junk, .junk, _, none, _, _, none⟩ _ _ (by simp only; omega) (by simp only; omega) rfl (by rw [hsm])
      have hi2e : i2 = (lfK nt i (k + 1)).length := by omega
      have h4 : ¬ ((lfK nt i (k + 1)).length : Int) < (lfK nt i (k + 1)).length := by omega
      subst hi2e
      have hmore : ((lfK nt i (k + 1)).take (lfK nt i (k + 1)).length).filter (fun key => !decide (nt (pad3 (dg key i)) ≤ (k + 1) + 1)) = lfK nt i ((k + 1) + 1) := by rw [List.take_length, lf_next]
      obtain ⟨fnd, hfnd⟩ : ∃ fnd, ((lfK nt i (k + 1)).take (lfK nt i (k + 1)).length).filter (fun key => decide (nt (pad3 (dg key i)) ≤ (k + 1) + 1)) = fnd := ⟨_, rfl⟩
      have hfl1 : fnd.length ≤ 9 ^ i := by
        rw [← hfnd]
        have := List.length_filter_le (fun key => decide (nt (pad3 (dg key i)) ≤ (k + 1) + 1)) ((lfK nt i (k + 1)).take (lfK nt i (k + 1)).length)
        rw [List.take_length] at this
        rw [List.take_length]; omega
      have hfm : ∀ x ∈ fnd, x < 9 ^ i := fun x hx => by
        rw [← hfnd] at hx
        exact (lf_mem (List.mem_of_mem_take (List.mem_filter.1 hx).1)).1
      have hB0 := stB_0 nt i (k + 1)
      simp only [h4, nz_len, ints_len, ↓SP, SQ, Gam.add, stepM, callC, argC, lendO, nmBy, nmC, likeL, likeB, plainOb, offs, exL, X, F, trP, trO, stepD, stepW, newA, SV.tr, SV.trL, fz, allP, Ob.tr, loadA, cellsA, SV.cells, binA, binI, eqOut, isSl, isPt, natOf, callee, snap, SV.refsL, SV.refs, thaw, fzAll, loA, hiA, elemOf, partsA, buildA, putCells, ↓reduceIte, reduceCtorEq, okCell, Nat.reduceAdd, Nat.reduceEqDiff, Nat.reduceSub, Nat.reduceMul, Nat.reduceLeDiff, Nat.reduceLT, Nat.reduceBEq, PV.scal, PV.scalL, SV.scal, SV.scalL, Ob.scal, PV.isCell, pure', resO]
      refine hR4 _ _ _ (by intro h; cases h) ?_
      simp only [hmore, hfnd, ↓SP, SQ, Gam.add, stepM, callC, argC, lendO, nmBy, nmC, likeL, likeB, plainOb, offs, exL, X, F, trP, trO, stepD, stepW, newA, SV.tr, SV.trL, fz, allP, Ob.tr, loadA, cellsA, SV.cells, binA, binI, eqOut, isSl, isPt, natOf, callee, snap, SV.refsL, SV.refs, thaw, fzAll, loA, hiA, elemOf, partsA, buildA, putCells, ↓reduceIte, reduceCtorEq, okCell, Nat.reduceAdd, Nat.reduceEqDiff, Nat.reduceSub, Nat.reduceMul, Nat.reduceLeDiff, Nat.reduceLT, Nat.reduceBEq, PV.scal, PV.scalL, SV.scal, SV.scalL, Ob.scal, PV.isCell, pure', resO]
      refine loop_at (fun s : M => mkEnv [(0, si i), (2, .p .nilsl), (3, si ((9 ^ i : Nat) : Int)), (4, si i), (5, .ar 22), (6, .p (.sl 1 (ints (nz (lfK nt i (k + 1)))))), (7, si ((9 ^ i : Nat) : Int)), (8, s.a), (9, si ((k + 1 + 1 : Nat) : Int)), (10, .ar 51), (11, .ar 52), (12, si (lfK nt i (k + 1)).length), (13, si s.i), (16, sb false), (26, sb false), (36, s.c), (41, s.d), (48, sb true), (56, sb false), (66, s.f), (84, s.g)]) (fun s => mkO [(22, some (.arr 1 (ints (stB nt i (k + 1) (fnd.take s.i))))), (23, some (.arr 1 (ints (nz (lfK nt i 0))))), (44, s.o), (45, none), (51, some (.arr 1 (ints (nz fnd)))), (52, some (.arr 1 (ints (nz (lfK nt i ((k + 1) + 1)))))), (72, s.q), (73, none), (79, s.r), (80, none)]) (fun s => s.i ≤ fnd.length) (fun s => fnd.length - s.i) ⟨0, _, .junk, _, _, .junk, _, _, .junk, .junk, .junk, .junk, _, none, _, _, none⟩ (by simp) rfl (by simp only [List.take_zero, hB0]; try rfl) ?_
      rintro ⟨i3, wea, web, wec, wed, wee, wef, weg, weh, wek, wel, wem, weoo, weop, weoq, weor, weot⟩ hi3 R5 hR5 hN5
      simp only at hi3
      by_cases hlt : i3 < fnd.length
      · have h5 : (i3 : Int) < fnd.length := by omega
        have hwi := wrap_one (i := i3) (by omega)
        obtain ⟨key, hkey⟩ : ∃ key, fnd.getD i3 0 = key := ⟨_, rfl⟩
        have hkm := hfm key (by rw [← hkey, getD_lt hlt]; exact List.getElem_mem hlt)
        have hgk := nz_get hlt
        rw [hkey] at hgk
        have hk0 : (0 : Int) ≤ (key : Int) := by omega
        have hbl := stB_len nt i (k + 1) (fnd.take i3)
        have hset := stB_one nt i (k + 1) (fnd.take i3) key
        have ht1 := take_one fnd i3 0 hlt
        rw [hkey] at ht1
        rw [← ht1] at hset
        obtain ⟨e6, he6⟩ : ∃ e, (ints (stB nt i (k + 1) (fnd.take i3)))[key]? = some e := ⟨_, List.getElem?_eq_getElem (by rw [ints_len, hbl]; exact hkm)⟩
        simp only [h5, hlt, hgk, hk0, hkm, hbl, hset, he6, hwi, nz_len, ints_len, ints_set, Int.toNat_natCast, ↓SP, SQ, Gam.add, stepM, callC, argC, lendO, nmBy, nmC, likeL, likeB, plainOb, offs, exL, X, F, trP, trO, stepD, stepW, newA, SV.tr, SV.trL, fz, allP, Ob.tr, loadA, cellsA, SV.cells, binA, binI, eqOut, isSl, isPt, natOf, callee, snap, SV.refsL, SV.refs, thaw, fzAll, loA, hiA, elemOf, partsA, buildA, putCells, ↓reduceIte, reduceCtorEq, okCell, Nat.reduceAdd, Nat.reduceEqDiff, Nat.reduceSub, Nat.reduceMul, Nat.reduceLeDiff, Nat.reduceLT, Nat.reduceBEq, PV.scal, PV.scalL, SV.scal, SV.scalL, Ob.scal, PV.isCell, pure', resO]
        exact hN5 ⟨i3 + 1, _, .junk, _, _, .junk, _, _, .junk, .junk, .junk, .junk, _, none, _, _, none⟩ _ _ (by simp only; omega) (by simp only; omega) rfl rfl
      have hi3e : i3 = fnd.length := by omega
      have h5 : ¬ (fnd.length : Int) < fnd.length := by omega
      subst hi3e
      have hend : stB nt i (k + 1) (fnd.take fnd.length) = tabK nt i ((k + 1) + 1) := by
        rw [List.take_length, ← hfnd, List.take_length, stB_end]
      simp only [h5, nz_len, ints_len, ↓SP, SQ, Gam.add, stepM, callC, argC, lendO, nmBy, nmC, likeL, likeB, plainOb, offs, exL, X, F, trP, trO, stepD, stepW, newA, SV.tr, SV.trL, fz, allP, Ob.tr, loadA, cellsA, SV.cells, binA, binI, eqOut, isSl, isPt, natOf, callee, snap, SV.refsL, SV.refs, thaw, fzAll, loA, hiA, elemOf, partsA, buildA, putCells, ↓reduceIte, reduceCtorEq, okCell, Nat.reduceAdd, Nat.reduceEqDiff, Nat.reduceSub, Nat.reduceMul, Nat.reduceLeDiff, Nat.reduceLT, Nat.reduceBEq, PV.scal, PV.scalL, SV.scal, SV.scalL, Ob.scal, PV.isCell, pure', resO]
      refine hR5 _ _ _ (by intro h; cases h) ?_
      simp only [hend, hw, ↓SP, SQ, Gam.add, stepM, callC, argC, lendO, nmBy, nmC, likeL, likeB, plainOb, offs, exL, X, F, trP, trO, stepD, stepW, newA, SV.tr, SV.trL, fz, allP, Ob.tr, loadA, cellsA, SV.cells, binA, binI, eqOut, isSl, isPt, natOf, callee, snap, SV.refsL, SV.refs, thaw, fzAll, loA, hiA, elemOf, partsA, buildA, putCells, ↓reduceIte, reduceCtorEq, okCell, Nat.reduceAdd, Nat.reduceEqDiff, Nat.reduceSub, Nat.reduceMul, Nat.reduceLeDiff, Nat.reduceLT, Nat.reduceBEq, PV.scal, PV.scalL, SV.scal, SV.scalL, Ob.scal, PV.isCell, pure', resO]
      exact hN3 ⟨(k + 1) + 1, _, _, _, _, _, _, _, _, _, _, _, _, _, _, _, none⟩ _ _ (by simp only; omega) (by simp only; omega) rfl rfl
  have hnil : lfK nt i k = [] := List.length_eq_zero_iff.1 (by omega)
  have hl0 : (lfK nt i k).length = 0 := by omega
  have h00 : ¬ ((0 : Nat) : Int) > 0 := by omega
  have hdone := tab_done (R := 9) hnil hk
  cases k with
  | zero =>
    simp only [hl0, h00, nz_len, ints_len, ↓SP, SQ, Gam.add, stepM, callC, argC, lendO, nmBy, nmC, likeL, likeB, plainOb, offs, exL, X, F, trP, trO, stepD, stepW, newA, SV.tr, SV.trL, fz, allP, Ob.tr, loadA, cellsA, SV.cells, binA, binI, eqOut, isSl, isPt, natOf, callee, snap, SV.refsL, SV.refs, thaw, fzAll, loA, hiA, elemOf, partsA, buildA, putCells, ↓reduceIte, reduceCtorEq, okCell, Nat.reduceAdd, Nat.reduceEqDiff, Nat.reduceSub, Nat.reduceMul, Nat.reduceLeDiff, Nat.reduceLT, Nat.reduceBEq, PV.scal, PV.scalL, SV.scal, SV.scalL, Ob.scal, PV.isCell, pure', resO]
    refine hR3 _ _ _ (by intro h; cases h) ?_
    simp only [hdone, ↓SP, SQ, Gam.add, stepM, callC, argC, lendO, nmBy, nmC, likeL, likeB, plainOb, offs, exL, X, F, trP, trO, stepD, stepW, newA, SV.tr, SV.trL, fz, allP, Ob.tr, loadA, cellsA, SV.cells, binA, binI, eqOut, isSl, isPt, natOf, callee, snap, SV.refsL, SV.refs, thaw, fzAll, loA, hiA, elemOf, partsA, buildA, putCells, ↓reduceIte, reduceCtorEq, okCell, Nat.reduceAdd, Nat.reduceEqDiff, Nat.reduceSub, Nat.reduceMul, Nat.reduceLeDiff, Nat.reduceLT, Nat.reduceBEq, PV.scal, PV.scalL, SV.scal, SV.scalL, Ob.scal, PV.isCell, pure', resO]
    refine finA_gen [22] trivial (by simp [retA, rvA, mkE_cons, mk_nil, mkO_cons, mkO_nil, loadA, SV.tr, SV.trL, nmF, rn_nil, rn_cons1, rn_cons2, plainOb, SV.refsL, SV.refs, Ob.refs, X, F, List.range_succ, mkO, setO_mk]; rfl) ?_ ?_ ?_ ?_ ?_ ?_ ?_ <;> simp [retA, rvA, mkE_cons, mk_nil, mkO_cons, mkO_nil, loadA, SV.tr, SV.trL, nmF, rn_nil, rn_cons1, rn_cons2, plainOb, SV.refsL, SV.refs, Ob.refs, X, F, List.range_succ, mkO, setO_mk]
  | succ k =>
    simp only [hl0, h00, nz_len, ints_len, ↓SP, SQ, Gam.add, stepM, callC, argC, lendO, nmBy, nmC, likeL, likeB, plainOb, offs, exL, X, F, trP, trO, stepD, stepW, newA, SV.tr, SV.trL, fz, allP, Ob.tr, loadA, cellsA, SV.cells, binA, binI, eqOut, isSl, isPt, natOf, callee, snap, SV.refsL, SV.refs, thaw, fzAll, loA, hiA, elemOf, partsA, buildA, putCells, ↓reduceIte, reduceCtorEq, okCell, Nat.reduceAdd, Nat.reduceEqDiff, Nat.reduceSub, Nat.reduceMul, Nat.reduceLeDiff, Nat.reduceLT, Nat.reduceBEq, PV.scal, PV.scalL, SV.scal, SV.scalL, Ob.scal, PV.isCell, pure', resO]
    refine hR3 _ _ _ (by intro h; cases h) ?_
    simp only [hdone, ↓SP, SQ, Gam.add, stepM, callC, argC, lendO, nmBy, nmC, likeL, likeB, plainOb, offs, exL, X, F, trP, trO, stepD, stepW, newA, SV.tr, SV.trL, fz, allP, Ob.tr, loadA, cellsA, SV.cells, binA, binI, eqOut, isSl, isPt, natOf, callee, snap, SV.refsL, SV.refs, thaw, fzAll, loA, hiA, elemOf, partsA, buildA, putCells, ↓reduceIte, reduceCtorEq, okCell, Nat.reduceAdd, Nat.reduceEqDiff, Nat.reduceSub, Nat.reduceMul, Nat.reduceLeDiff, Nat.reduceLT, Nat.reduceBEq, PV.scal, PV.scalL, SV.scal, SV.scalL, Ob.scal, PV.isCell, pure', resO]
    refine finA_gen [22] trivial (by simp [retA, rvA, mkE_cons, mk_nil, mkO_cons, mkO_nil, loadA, SV.tr, SV.trL, nmF, rn_nil, rn_cons1, rn_cons2, plainOb, SV.refsL, SV.refs, Ob.refs, X, F, List.range_succ, mkO, setO_mk]; rfl) ?_ ?_ ?_ ?_ ?_ ?_ ?_ <;> simp [retA, rvA, mkE_cons, mk_nil, mkO_cons, mkO_nil, loadA, SV.tr, SV.trL, nmF, rn_nil, rn_cons1, rn_cons2, plainOb, SV.refsL, SV.refs, Ob.refs, X, F, List.range_succ, mkO, setO_mk]
set_option maxHeartbeats 4000000 in
theorem s_l10Needs {P : Program} (hm : P.follows .mixedOrders = true) {Γ : Gam} (hΓ : GS P Γ) {n : FuncId} {f_l4Counted : FuncId} {f_l4Told : FuncId} {f_l4Counts : FuncId} {f_l10Best : FuncId} (is : Is P n (a_l10Needs f_l4Counted f_l4Told f_l4Counts f_l10Best)) (h_l4Counted : Γ f_l4Counted = c_l4Counted) (h_l4Told : Γ f_l4Told = c_isTold) (h_l4Counts : Γ f_l4Counts = c_AreCounts) (h_l10Best : Γ f_l10Best = c_l10Best)  : Says P n c_l10Needs := by
  refine Says.pure fun args r fs h => ?_
  split at h
  case h_2 => cases h
  rename_i p
  split at h
  case isFalse => cases h
  rename_i hc
  simp only [ofI_ints, ofBo_bools, ofAs_asks, Option.some.injEq, Prod.mk.injEq] at h hc
  obtain ⟨rfl, rfl⟩ := h
  obtain ⟨hp1', hp3'⟩ := hc
  obtain ⟨p, rfl⟩ : ∃ j : Nat, p = j := ⟨p.toNat, by omega⟩
  simp only [Int.toNat_natCast]
  have hp1 : 1 ≤ p := by omega
  have hp3 : p ≤ 3 := by omega
  have hpi3 : (p : Int) ≤ 3 := by omega
  have hpi0 : (0 : Int) ≤ (p : Int) := by omega
  have h9 := pow9 hp3
  have hokB := okP_O hp1 hp3
  have hN : NT false (ntT tabO) 6 := ntO
  have htop : ∀ key, key < 9 ^ p → (dg key p).sum ≤ 8 → (ntT tabO) (pad3 (dg key p)) ≤ 6 := fun key hk hs => nt_top hN hokB hp1 hp3 hk hs
  generalize (ntT tabO) = nt at *
  refine is.go hm hΓ k_l10Needs o_l10Needs (by simp [a_l10Needs]) ?_
  simp only [a_l10Needs, List.zipIdx_cons, List.zipIdx_nil, ↓SP, SQ, Gam.add, stepM, callC, argC, lendO, nmBy, nmC, likeL, likeB, plainOb, offs, exL, X, F, trP, trO, stepD, stepW, newA, SV.tr, SV.trL, fz, allP, Ob.tr, loadA, cellsA, SV.cells, binA, binI, eqOut, isSl, isPt, natOf, callee, snap, SV.refsL, SV.refs, thaw, fzAll, loA, hiA, elemOf, partsA, buildA, putCells, ↓reduceIte, reduceCtorEq, okCell, Nat.reduceAdd, Nat.reduceEqDiff, Nat.reduceSub, Nat.reduceMul, Nat.reduceLeDiff, Nat.reduceLT, Nat.reduceBEq, PV.scal, PV.scalL, SV.scal, SV.scalL, Ob.scal, PV.isCell, pure', resO]
  refine loop_at (fun s : M => mkEnv [(0, si p), (2, .p .nilsl), (3, si ((9 ^ s.i : Nat) : Int)), (4, si s.i), (5, .junk), (6, .junk), (7, .junk), (8, .junk), (9, .junk), (10, .junk), (11, .junk), (12, .junk), (13, .junk), (16, s.a), (26, .junk), (36, .junk), (41, .junk), (48, .junk), (56, .junk), (69, .junk), (87, .junk)]) (fun s => mkO [(22, none), (23, none), (44, none), (45, none), (51, none), (52, none), (67, none), (75, none), (76, none), (82, none), (83, none)]) (fun s => s.i ≤ p) (fun s => p - s.i) ⟨0, .junk, .junk, .junk, .junk, .junk, .junk, .junk, .junk, .junk, .junk, .junk, none, none, none, none, none⟩ (by simp) rfl rfl ?_
  rintro ⟨i, waa, wab, wac, wad, wae, waf, wag, wah, wak, wal, wam, waoo, waop, waoq, waor, waot⟩ hi R1 hR1 hN1
  simp only at hi
  by_cases h : i < p
  · have h1 : (i : Int) < (p : Int) := by omega
    have hw := wrap_one (i := i) (by omega)
    have hpw := pow9 (i := i) (by omega)
    have hm9 : IntKind.i64.wrap (((9 ^ i : Nat) : Int) * 9) = ((9 ^ (i + 1) : Nat) : Int) := by
      rw [Nat.pow_succ]
      generalize 9 ^ i = z at hpw
      rw [wrap64 (by omega) (by omega)]; omega
    simp only [h1, hw, hm9, ↓SP, SQ, Gam.add, stepM, callC, argC, lendO, nmBy, nmC, likeL, likeB, plainOb, offs, exL, X, F, trP, trO, stepD, stepW, newA, SV.tr, SV.trL, fz, allP, Ob.tr, loadA, cellsA, SV.cells, binA, binI, eqOut, isSl, isPt, natOf, callee, snap, SV.refsL, SV.refs, thaw, fzAll, loA, hiA, elemOf, partsA, buildA, putCells, ↓reduceIte, reduceCtorEq, okCell, Nat.reduceAdd, Nat.reduceEqDiff, Nat.reduceSub, Nat.reduceMul, Nat.reduceLeDiff, Nat.reduceLT, Nat.reduceBEq, PV.scal, PV.scalL, SV.scal, SV.scalL, Ob.scal, PV.isCell, pure', resO]
    exact hN1 ⟨i + 1, _, .junk, .junk, .junk, .junk, .junk, .junk, .junk, .junk, .junk, .junk, none, none, none, none, none⟩ _ _ (by simp only; omega) (by simp only; omega) rfl rfl
  have hie : i = p := by omega
  have h1 : ¬ ((p : Nat) : Int) < (p : Int) := by omega
  subst hie
  have hroom : 9 ^ i ≤ roomA := by unfold roomA; omega
  have hn0 : (0 : Int) ≤ ((9 ^ i : Nat) : Int) := Int.natCast_nonneg _
  have hA0 := stA_0 nt i
  simp only [h1, ↓SP, SQ, Gam.add, stepM, callC, argC, lendO, nmBy, nmC, likeL, likeB, plainOb, offs, exL, X, F, trP, trO, stepD, stepW, newA, SV.tr, SV.trL, fz, allP, Ob.tr, loadA, cellsA, SV.cells, binA, binI, eqOut, isSl, isPt, natOf, callee, snap, SV.refsL, SV.refs, thaw, fzAll, loA, hiA, elemOf, partsA, buildA, putCells, ↓reduceIte, reduceCtorEq, okCell, Nat.reduceAdd, Nat.reduceEqDiff, Nat.reduceSub, Nat.reduceMul, Nat.reduceLeDiff, Nat.reduceLT, Nat.reduceBEq, PV.scal, PV.scalL, SV.scal, SV.scalL, Ob.scal, PV.isCell, pure', resO]
  refine hR1 _ _ _ (by intro h; cases h) ?_
  simp only [hroom, hn0, Int.toNat_natCast, ints_rep, hA0, ↓SP, SQ, Gam.add, stepM, callC, argC, lendO, nmBy, nmC, likeL, likeB, plainOb, offs, exL, X, F, trP, trO, stepD, stepW, newA, SV.tr, SV.trL, fz, allP, Ob.tr, loadA, cellsA, SV.cells, binA, binI, eqOut, isSl, isPt, natOf, callee, snap, SV.refsL, SV.refs, thaw, fzAll, loA, hiA, elemOf, partsA, buildA, putCells, ↓reduceIte, reduceCtorEq, okCell, Nat.reduceAdd, Nat.reduceEqDiff, Nat.reduceSub, Nat.reduceMul, Nat.reduceLeDiff, Nat.reduceLT, Nat.reduceBEq, PV.scal, PV.scalL, SV.scal, SV.scalL, Ob.scal, PV.isCell, pure', resO]
  refine loop_at (fun s : M => mkEnv [(0, si i), (2, .p .nilsl), (3, si ((9 ^ i : Nat) : Int)), (4, si i), (5, .ar 22), (6, .ar 23), (7, si s.i), (8, s.a), (9, .junk), (10, .junk), (11, .junk), (12, .junk), (13, .junk), (16, sb false), (26, s.b), (36, s.c), (41, s.d), (48, .junk), (56, .junk), (69, .junk), (87, .junk)]) (fun s => mkO [(22, some (.arr 1 (ints (stA nt i s.i)))), (23, some (.arr 1 (ints (nz (lfA nt i s.i))))), (44, s.o), (45, none), (51, none), (52, none), (67, none), (75, none), (76, none), (82, none), (83, none)]) (fun s => s.i ≤ 9 ^ i) (fun s => 9 ^ i - s.i) ⟨0, .junk, .junk, .junk, .junk, .junk, .junk, .junk, .junk, .junk, .junk, .junk, none, none, none, none, none⟩ (by simp) rfl rfl ?_
  rintro ⟨j, wba, wbb, wbc, wbd, wbe, wbf, wbg, wbh, wbk, wbl, wbm, wboo, wbop, wboq, wbor, wbot⟩ hj R2 hR2 hN2
  simp only at hj
  by_cases h : j < 9 ^ i
  · have h2 : (j : Int) < ((9 ^ i : Nat) : Int) := Int.ofNat_lt.2 h
    have hw := wrap_one (i := j) (by omega)
    have hj0 : (0 : Int) ≤ (j : Int) := Int.natCast_nonneg _
    have hj1 : (j : Int) ≤ 1000000 := by omega
    have hlen := stA_len nt i j
    have hdl := dg_len j i
    have hdl3 : (dg j i).length ≤ 3 := by omega
    have hdlb : (dg j i).length ≤ 1100000 := by omega
    have hd8 := dg_in8 j i
    have hone := stA_one (nt := nt) (p := i) (i := j)
    obtain ⟨e0, he0⟩ : ∃ e, (ints (stA nt i j))[j]? = some e := ⟨_, List.getElem?_eq_getElem (by rw [ints_len, hlen]; exact h)⟩
    have hlen1 : ((stA nt i j).set j (-1)).length = 9 ^ i := by rw [List.length_set, hlen]
    obtain ⟨e1, he1⟩ : ∃ e, (ints ((stA nt i j).set j (-1)))[j]? = some e := ⟨_, List.getElem?_eq_getElem (by rw [ints_len, hlen1]; exact h)⟩
    cases ht : told (dg j i) with
    | true =>
      have hv := val0_told hokB h ht
      have hs8 : (dg j i).sum ≤ 8 := by have := ht; simp only [told, decide_eq_true_eq] at this; omega
      have hz := (zero_told hokB h hs8).2 ht
      have hno := lfA_no (nt := nt) (p := i) (i := j) (by omega)
      rw [hv] at hone
      have hset : ((stA nt i j).set j (-1)).set j 0 = stA nt i (j + 1) := by rw [List.set_set, hone]
      simp only [h, h2, hw, hj0, hj1, hpi0, hpi3, hlen, hlen1, hdl3, hdlb, hd8, he0, he1, ht, hset, Int.toNat_natCast, ints_len, ints_set, isI_ints, ofI_ints, h_l4Counted, c_l4Counted, h_l4Told, c_isTold, h_l4Counts, c_AreCounts, ↓SP, SQ, Gam.add, stepM, callC, argC, lendO, nmBy, nmC, likeL, likeB, plainOb, offs, exL, X, F, trP, trO, stepD, stepW, newA, SV.tr, SV.trL, fz, allP, Ob.tr, loadA, cellsA, SV.cells, binA, binI, eqOut, isSl, isPt, natOf, callee, snap, SV.refsL, SV.refs, thaw, fzAll, loA, hiA, elemOf, partsA, buildA, putCells, ↓reduceIte, reduceCtorEq, okCell, Nat.reduceAdd, Nat.reduceEqDiff, Nat.reduceSub, Nat.reduceMul, Nat.reduceLeDiff, Nat.reduceLT, Nat.reduceBEq, PV.scal, PV.scalL, SV.scal, SV.scalL, Ob.scal, PV.isCell, pure', resO]
      exact hN2 ⟨j + 1, _, _, _, _, .junk, .junk, .junk, .junk, .junk, .junk, .junk, _, none, none, none, none⟩ _ _ (by simp only; omega) (by simp only; omega) rfl (by rw [hno])
    | false =>
      have hv := val0_not hokB h ht
      rw [hv] at hone
      cases hkc : okC (dg j i) with
      | true =>
        have hs8 := (okC_out hkc).2.2
        have hnz : 0 < nt (pad3 (dg j i)) := by
          rcases Nat.eq_zero_or_pos (nt (pad3 (dg j i))) with g | g
          · have := (zero_told hokB h hs8).1 g; rw [ht] at this; cases this
          · exact g
        have hyes := lfA_yes hs8 hnz
        have hll := lfA_len nt i j
        have hr : (lfA nt i j).length + 1 ≤ roomA := by unfold roomA; omega
        simp only [h, h2, hw, hj0, hj1, hpi0, hpi3, hlen, hlen1, hdl3, hdlb, hd8, he0, he1, ht, hkc, hone, hyes, hr, nz_len, nz_app, Int.toNat_natCast, ints_len, ints_set, ints_app1, ints_cell, isI_ints, ofI_ints, h_l4Counted, c_l4Counted, h_l4Told, c_isTold, h_l4Counts, c_AreCounts, ↓SP, SQ, Gam.add, stepM, callC, argC, lendO, nmBy, nmC, likeL, likeB, plainOb, offs, exL, X, F, trP, trO, stepD, stepW, newA, SV.tr, SV.trL, fz, allP, Ob.tr, loadA, cellsA, SV.cells, binA, binI, eqOut, isSl, isPt, natOf, callee, snap, SV.refsL, SV.refs, thaw, fzAll, loA, hiA, elemOf, partsA, buildA, putCells, ↓reduceIte, reduceCtorEq, okCell, Nat.reduceAdd, Nat.reduceEqDiff, Nat.reduceSub, Nat.reduceMul, Nat.reduceLeDiff, Nat.reduceLT, Nat.reduceBEq, PV.scal, PV.scalL, SV.scal, SV.scalL, Ob.scal, PV.isCell, pure', resO]
        exact hN2 ⟨j + 1, _, _, _, _, .junk, .junk, .junk, .junk, .junk, .junk, .junk, _, none, none, none, none⟩ _ _ (by simp only; omega) (by simp only; omega) rfl rfl
      | false =>
        have hno := lfA_no (nt := nt) (p := i) (i := j) (fun e => by
          have : okC (dg j i) = true := by
            simp only [okC, hdl, hd8, dec_t e.1, Bool.and_true]
            rw [dec_t (by omega), dec_t (by omega)]; rfl
          rw [hkc] at this; cases this)
        simp only [h, h2, hw, hj0, hj1, hpi0, hpi3, hlen, hlen1, hdl3, hdlb, hd8, he0, he1, ht, hkc, hone, Int.toNat_natCast, ints_len, ints_set, isI_ints, ofI_ints, h_l4Counted, c_l4Counted, h_l4Told, c_isTold, h_l4Counts, c_AreCounts, ↓SP, SQ, Gam.add, stepM, callC, argC, lendO, nmBy, nmC, likeL, likeB, plainOb, offs, exL, X, F, trP, trO, stepD, stepW, newA, SV.tr, SV.trL, fz, allP, Ob.tr, loadA, cellsA, SV.cells, binA, binI, eqOut, isSl, isPt, natOf, callee, snap, SV.refsL, SV.refs, thaw, fzAll, loA, hiA, elemOf, partsA, buildA, putCells, ↓reduceIte, reduceCtorEq, okCell, Nat.reduceAdd, Nat.reduceEqDiff, Nat.reduceSub, Nat.reduceMul, Nat.reduceLeDiff, Nat.reduceLT, Nat.reduceBEq, PV.scal, PV.scalL, SV.scal, SV.scalL, Ob.scal, PV.isCell, pure', resO]
        exact hN2 ⟨j + 1, _, _, _, _, .junk, .junk, .junk, .junk, .junk, .junk, .junk, _, none, none, none, none⟩ _ _ (by simp only; omega) (by simp only; omega) rfl (by rw [hno])
  have hje : j = 9 ^ i := by omega
  have h2 : ¬ ((9 ^ i : Nat) : Int) < ((9 ^ i : Nat) : Int) := Int.lt_irrefl _
  subst hje
  have hA9 := stA_end nt i
  have hL9 := lfA_end nt i
  simp only [h2, ↓SP, SQ, Gam.add, stepM, callC, argC, lendO, nmBy, nmC, likeL, likeB, plainOb, offs, exL, X, F, trP, trO, stepD, stepW, newA, SV.tr, SV.trL, fz, allP, Ob.tr, loadA, cellsA, SV.cells, binA, binI, eqOut, isSl, isPt, natOf, callee, snap, SV.refsL, SV.refs, thaw, fzAll, loA, hiA, elemOf, partsA, buildA, putCells, ↓reduceIte, reduceCtorEq, okCell, Nat.reduceAdd, Nat.reduceEqDiff, Nat.reduceSub, Nat.reduceMul, Nat.reduceLeDiff, Nat.reduceLT, Nat.reduceBEq, PV.scal, PV.scalL, SV.scal, SV.scalL, Ob.scal, PV.isCell, pure', resO]
  refine hR2 _ _ _ (by intro h; cases h) ?_
  simp only [hA9, hL9, ↓SP, SQ, Gam.add, stepM, callC, argC, lendO, nmBy, nmC, likeL, likeB, plainOb, offs, exL, X, F, trP, trO, stepD, stepW, newA, SV.tr, SV.trL, fz, allP, Ob.tr, loadA, cellsA, SV.cells, binA, binI, eqOut, isSl, isPt, natOf, callee, snap, SV.refsL, SV.refs, thaw, fzAll, loA, hiA, elemOf, partsA, buildA, putCells, ↓reduceIte, reduceCtorEq, okCell, Nat.reduceAdd, Nat.reduceEqDiff, Nat.reduceSub, Nat.reduceMul, Nat.reduceLeDiff, Nat.reduceLT, Nat.reduceBEq, PV.scal, PV.scalL, SV.scal, SV.scalL, Ob.scal, PV.isCell, pure', resO]
  refine loop_at (fun s : M => mkEnv [(0, si i), (2, .p .nilsl), (3, si ((9 ^ i : Nat) : Int)), (4, si i), (5, .ar 22), (6, match s.i with | 0 => .ar 23 | _ + 1 => .ar 52), (7, si ((9 ^ i : Nat) : Int)), (8, s.a), (9, si ((s.i + 1 : Nat) : Int)), (10, s.b), (11, s.c), (12, s.d), (13, s.e), (16, sb false), (26, sb false), (36, s.f), (41, s.g), (48, s.h), (56, s.k), (69, s.l), (87, s.m)]) (fun s => mkO [(22, some (.arr 1 (ints (tabK nt i s.i)))), (23, some (.arr 1 (ints (nz (lfK nt i 0))))), (44, s.o), (45, none), (51, s.p), (52, match s.i with | 0 => none | k + 1 => some (.arr 1 (ints (nz (lfK nt i (k + 1)))))), (67, s.t), (75, s.q), (76, none), (82, s.r), (83, none)]) (fun s => s.i ≤ 6) (fun s => 6 - s.i) ⟨0, _, .junk, .junk, .junk, .junk, _, _, .junk, .junk, .junk, .junk, _, none, none, none, none⟩ (by simp) rfl rfl ?_
  rintro ⟨k, wca, wcb, wcc, wcd, wce, wcf, wcg, wch, wck, wcl, wcm, wcoo, wcop, wcoq, wcor, wcot⟩ hk R3 hR3 hN3
  simp only at hk
  by_cases h : 0 < (lfK nt i k).length
  · have hkR : k < 6 := by
      obtain ⟨key, hkey⟩ := List.exists_mem_of_length_pos h
      have := lf_mem hkey
      have := htop key this.1 this.2.1
      omega
    have hw := wrap_one (i := k + 1) (by omega)
    have hll := lf_len nt i k
    have hz0 := lf_len nt i 0
    have h3' : ((lfK nt i k).length : Int) > 0 := by omega
    cases k with
    | zero =>
      simp only [h3', nz_len, ints_len, ↓SP, SQ, Gam.add, stepM, callC, argC, lendO, nmBy, nmC, likeL, likeB, plainOb, offs, exL, X, F, trP, trO, stepD, stepW, newA, SV.tr, SV.trL, fz, allP, Ob.tr, loadA, cellsA, SV.cells, binA, binI, eqOut, isSl, isPt, natOf, callee, snap, SV.refsL, SV.refs, thaw, fzAll, loA, hiA, elemOf, partsA, buildA, putCells, ↓reduceIte, reduceCtorEq, okCell, Nat.reduceAdd, Nat.reduceEqDiff, Nat.reduceSub, Nat.reduceMul, Nat.reduceLeDiff, Nat.reduceLT, Nat.reduceBEq, PV.scal, PV.scalL, SV.scal, SV.scalL, Ob.scal, PV.isCell, pure', resO]
      refine loop_at (fun s : M => mkEnv [(0, si i), (2, .p .nilsl), (3, si ((9 ^ i : Nat) : Int)), (4, si i), (5, .ar 22), (6, .ar 23), (7, si ((9 ^ i : Nat) : Int)), (8, s.a), (9, si ((1 : Nat) : Int)), (10, .ar 51), (11, .ar 52), (12, si s.i), (13, s.b), (16, sb false), (26, sb false), (36, s.c), (41, s.d), (48, sb true), (56, s.e), (69, s.f), (87, s.g)]) (fun s => mkO [(22, some (.arr 1 (ints (tabK nt i (0))))), (23, some (.arr 1 (ints (nz (lfK nt i 0))))), (44, s.o), (45, none), (51, some (.arr 1 (ints (nz (((lfK nt i (0)).take s.i).filter fun key => decide (nt (pad3 (dg key i)) ≤ 1)))))), (52, some (.arr 1 (ints (nz (((lfK nt i (0)).take s.i).filter fun key => !decide (nt (pad3 (dg key i)) ≤ 1)))))), (67, s.t), (75, s.q), (76, none), (82, s.r), (83, none)]) (fun s => s.i ≤ (lfK nt i (0)).length) (fun s => (lfK nt i (0)).length - s.i) ⟨0, _, _, _, _, _, _, _, .junk, .junk, .junk, .junk, _, none, _, _, _⟩ (by simp) rfl rfl ?_
      rintro ⟨i2, wda, wdb, wdc, wdd, wde, wdf, wdg, wdh, wdk, wdl, wdm, wdoo, wdop, wdoq, wdor, wdot⟩ hi2 R4 hR4 hN4
      simp only at hi2
      by_cases hlt : i2 < (lfK nt i (0)).length
      · have h4 : (i2 : Int) < (lfK nt i (0)).length := by omega
        have hi3 : i2 < (lfK nt i (0)).length := hlt
        have hwi := wrap_one (i := i2) (by omega)
        obtain ⟨key, hkey⟩ : ∃ key, (lfK nt i (0)).getD i2 0 = key := ⟨_, rfl⟩
        have hmem := lf_mem (nt := nt) (p := i) (k := 0) (key := key) (by rw [← hkey, getD_lt hlt]; exact List.getElem_mem hlt)
        have hgk := nz_get hlt
        rw [hkey] at hgk
        have hk0 : (0 : Int) ≤ (key : Int) := by omega
        have hk1 : (key : Int) ≤ 1000000 := by omega
        have hdl := dg_len key i
        have htold : told (dg key i) = false := by
          cases ht : told (dg key i) with
          | false => rfl
          | true => have := (zero_told hokB hmem.1 hmem.2.1).2 ht; omega
        have hokw := open_okw hp1 hp3 hmem.1 hmem.2.1 htold
        have htabl : (tabK nt i (0)).length = 9 ^ i := tabK_len nt i (0)
        have hbany := bo_any (k := 0) hokB hp3 hmem.1 hmem.2.1 htold
        have hbs1 : c_l10Best [.p (.sl 1 (ints (dg key i))), .ar 1000000, .p (.int .i64 ((1 : Nat) : Int))] [.arr 1 (ints (tabK nt i (0)))] = match bsF (tabK nt i (0)) ((1 : Nat) : Int) (dg key i) with
            | some s => some (.p (.sl 1 (ints s)), [.arr 1 (ints (tabK nt i (0)))], [])
            | none => some (.ar 2000000, [.arr 1 (ints (tabK nt i (0)))], [.arr 1 []]) := by
          simp only [c_l10Best, isI_ints, ofI_ints, hokw, htabl, hdl, and_self, if_true]
          cases bsF (tabK nt i (0)) ((1 : Nat) : Int) (dg key i) <;> rfl
        have hbe : (9 ^ i == 9 ^ i) = true := beq_self_eq_true _
        have hq0 := take_one (lfK nt i (0)) i2 0 hlt
        rw [hkey] at hq0
        by_cases hnt : nt (pad3 (dg key i)) ≤ 1
        ·   skip
            rw [dec_t hnt] at hbany
            obtain ⟨s0, hs0⟩ := Option.isSome_iff_exists.1 hbany
            rw [hs0] at hbs1
            have hs0l : s0.length = i := by rw [spl_len (List.mem_of_find?_eq_some hs0), hdl]
            have hs0p : (s0.length : Int) > 0 := by omega
            have hapx : (((lfK nt i (0)).take i2).filter fun key => decide (nt (pad3 (dg key i)) ≤ 1)) ++ [key] = ((lfK nt i (0)).take (i2 + 1)).filter fun key => decide (nt (pad3 (dg key i)) ≤ 1) := by
              rw [hq0, List.filter_append]; simp only [List.filter_cons, dec_t hnt, List.filter_nil, if_true]
            have hsm : ((lfK nt i (0)).take (i2 + 1)).filter (fun key => !decide (nt (pad3 (dg key i)) ≤ 1)) = ((lfK nt i (0)).take i2).filter fun key => !decide (nt (pad3 (dg key i)) ≤ 1) := by
              rw [hq0, List.filter_append]; simp only [List.filter_cons, dec_t hnt, Bool.not_true, List.filter_nil, Bool.false_eq_true, if_false, List.append_nil]
            have hfl : (((lfK nt i (0)).take i2).filter fun key => decide (nt (pad3 (dg key i)) ≤ 1)).length + 1 ≤ roomA := by
              have := List.length_filter_le (fun key => decide (nt (pad3 (dg key i)) ≤ 1)) ((lfK nt i (0)).take i2)
              rw [List.length_take] at this
              unfold roomA; omega
            simp only [h4, hi3, hgk, hk0, hk1, hpi0, hpi3, nz_len, ints_len, Int.toNat_natCast, isI_ints, ofI_ints, h_l4Counted, c_l4Counted, hbs1, hs0p, h_l10Best, hbe, htabl, hwi, hapx, hfl, nz_app, ints_app1, ints_cell, ↓SP, SQ, Gam.add, stepM, callC, argC, lendO, nmBy, nmC, likeL, likeB, plainOb, offs, exL, X, F, trP, trO, stepD, stepW, newA, SV.tr, SV.trL, fz, allP, Ob.tr, loadA, cellsA, SV.cells, binA, binI, eqOut, isSl, isPt, natOf, callee, snap, SV.refsL, SV.refs, thaw, fzAll, loA, hiA, elemOf, partsA, buildA, putCells, ↓reduceIte, reduceCtorEq, okCell, Nat.reduceAdd, Nat.reduceEqDiff, Nat.reduceSub, Nat.reduceMul, Nat.reduceLeDiff, Nat.reduceLT, Nat.reduceBEq, PV.scal, PV.scalL, SV.scal, SV.scalL, Ob.scal, PV.isCell, pure', resO]
            exact hN4 ⟨i2 + 1, _, _, _, _, _, _, _, .junk, .junk, .junk, .junk, _, none, _, _, _⟩ _ _ (by simp only; omega) (by simp only; omega) rfl (by rw [hsm])
        ·   skip
            rw [dec_f hnt] at hbany
            have hs0 : bsF (tabK nt i (0)) ((1 : Nat) : Int) (dg key i) = none := by
              cases hb : bsF (tabK nt i (0)) ((1 : Nat) : Int) (dg key i) with
              | none => rfl
              | some s => rw [hb] at hbany; cases hbany
            rw [hs0] at hbs1
            have h00 : ¬ ((0 : Nat) : Int) > 0 := by omega
            have hapx : (((lfK nt i (0)).take i2).filter fun key => !decide (nt (pad3 (dg key i)) ≤ 1)) ++ [key] = ((lfK nt i (0)).take (i2 + 1)).filter fun key => !decide (nt (pad3 (dg key i)) ≤ 1) := by
              rw [hq0, List.filter_append]; simp only [List.filter_cons, dec_f hnt, Bool.not_false, List.filter_nil, if_true]
            have hsm : ((lfK nt i (0)).take (i2 + 1)).filter (fun key => decide (nt (pad3 (dg key i)) ≤ 1)) = ((lfK nt i (0)).take i2).filter fun key => decide (nt (pad3 (dg key i)) ≤ 1) := by
              rw [hq0, List.filter_append]; simp only [List.filter_cons, dec_f hnt, List.filter_nil, Bool.false_eq_true, if_false, List.append_nil]
            have hfl : (((lfK nt i (0)).take i2).filter fun key => !decide (nt (pad3 (dg key i)) ≤ 1)).length + 1 ≤ roomA := by
              have := List.length_filter_le (fun key => !decide (nt (pad3 (dg key i)) ≤ 1)) ((lfK nt i (0)).take i2)
              rw [List.length_take] at this
              unfold roomA; omega
            simp only [h4, hi3, hgk, hk0, hk1, hpi0, hpi3, nz_len, ints_len, Int.toNat_natCast, isI_ints, ofI_ints, h_l4Counted, c_l4Counted, hbs1, h00, h_l10Best, hbe, htabl, List.length_nil, hwi, hapx, hfl, nz_app, ints_app1, ints_cell, ↓SP, SQ, Gam.add, stepM, callC, argC, lendO, nmBy, nmC, likeL, likeB, plainOb, offs, exL, X, F, trP, trO, stepD, stepW, newA, SV.tr, SV.trL, fz, allP, Ob.tr, loadA, cellsA, SV.cells, binA, binI, eqOut, isSl, isPt, natOf, callee, snap, SV.refsL, SV.refs, thaw, fzAll, loA, hiA, elemOf, partsA, buildA, putCells, ↓reduceIte, reduceCtorEq, okCell, Nat.reduceAdd, Nat.reduceEqDiff, Nat.reduceSub, Nat.reduceMul, Nat.reduceLeDiff, Nat.reduceLT, Nat.reduceBEq, PV.scal, PV.scalL, SV.scal, SV.scalL, Ob.scal, PV.isCell, pure', resO]
            exact hN4 ⟨i2 + 1, _, _, _, _, _, _, _, .junk, .junk, .junk, .junk, _, none, _, _, _⟩ _ _ (by simp only; omega) (by simp only; omega) rfl (by rw [hsm])
      have hi2e : i2 = (lfK nt i (0)).length := by omega
      have h4 : ¬ ((lfK nt i (0)).length : Int) < (lfK nt i (0)).length := by omega
      subst hi2e
      have hmore : ((lfK nt i (0)).take (lfK nt i (0)).length).filter (fun key => !decide (nt (pad3 (dg key i)) ≤ 1)) = lfK nt i (1) := by rw [List.take_length, lf_next]
      obtain ⟨fnd, hfnd⟩ : ∃ fnd, ((lfK nt i (0)).take (lfK nt i (0)).length).filter (fun key => decide (nt (pad3 (dg key i)) ≤ 1)) = fnd := ⟨_, rfl⟩
      have hfl1 : fnd.length ≤ 9 ^ i := by
        rw [← hfnd]
        have := List.length_filter_le (fun key => decide (nt (pad3 (dg key i)) ≤ 1)) ((lfK nt i (0)).take (lfK nt i (0)).length)
        rw [List.take_length] at this
        rw [List.take_length]; omega
      have hfm : ∀ x ∈ fnd, x < 9 ^ i := fun x hx => by
        rw [← hfnd] at hx
        exact (lf_mem (List.mem_of_mem_take (List.mem_filter.1 hx).1)).1
      have hB0 := stB_0 nt i (0)
      simp only [h4, nz_len, ints_len, ↓SP, SQ, Gam.add, stepM, callC, argC, lendO, nmBy, nmC, likeL, likeB, plainOb, offs, exL, X, F, trP, trO, stepD, stepW, newA, SV.tr, SV.trL, fz, allP, Ob.tr, loadA, cellsA, SV.cells, binA, binI, eqOut, isSl, isPt, natOf, callee, snap, SV.refsL, SV.refs, thaw, fzAll, loA, hiA, elemOf, partsA, buildA, putCells, ↓reduceIte, reduceCtorEq, okCell, Nat.reduceAdd, Nat.reduceEqDiff, Nat.reduceSub, Nat.reduceMul, Nat.reduceLeDiff, Nat.reduceLT, Nat.reduceBEq, PV.scal, PV.scalL, SV.scal, SV.scalL, Ob.scal, PV.isCell, pure', resO]
      refine hR4 _ _ _ (by intro h; cases h) ?_
      simp only [hmore, hfnd, ↓SP, SQ, Gam.add, stepM, callC, argC, lendO, nmBy, nmC, likeL, likeB, plainOb, offs, exL, X, F, trP, trO, stepD, stepW, newA, SV.tr, SV.trL, fz, allP, Ob.tr, loadA, cellsA, SV.cells, binA, binI, eqOut, isSl, isPt, natOf, callee, snap, SV.refsL, SV.refs, thaw, fzAll, loA, hiA, elemOf, partsA, buildA, putCells, ↓reduceIte, reduceCtorEq, okCell, Nat.reduceAdd, Nat.reduceEqDiff, Nat.reduceSub, Nat.reduceMul, Nat.reduceLeDiff, Nat.reduceLT, Nat.reduceBEq, PV.scal, PV.scalL, SV.scal, SV.scalL, Ob.scal, PV.isCell, pure', resO]
      refine loop_at (fun s : M => mkEnv [(0, si i), (2, .p .nilsl), (3, si ((9 ^ i : Nat) : Int)), (4, si i), (5, .ar 22), (6, .ar 23), (7, si ((9 ^ i : Nat) : Int)), (8, s.a), (9, si ((1 : Nat) : Int)), (10, .ar 51), (11, .ar 52), (12, si (lfK nt i (0)).length), (13, si s.i), (16, sb false), (26, sb false), (36, s.c), (41, s.d), (48, sb true), (56, sb false), (69, s.f), (87, s.g)]) (fun s => mkO [(22, some (.arr 1 (ints (stB nt i (0) (fnd.take s.i))))), (23, some (.arr 1 (ints (nz (lfK nt i 0))))), (44, s.o), (45, none), (51, some (.arr 1 (ints (nz fnd)))), (52, some (.arr 1 (ints (nz (lfK nt i (1)))))), (67, s.t), (75, s.q), (76, none), (82, s.r), (83, none)]) (fun s => s.i ≤ fnd.length) (fun s => fnd.length - s.i) ⟨0, _, .junk, _, _, .junk, _, _, .junk, .junk, .junk, .junk, _, none, _, _, _⟩ (by simp) rfl (by simp only [List.take_zero, hB0]; try rfl) ?_
      rintro ⟨i3, wea, web, wec, wed, wee, wef, weg, weh, wek, wel, wem, weoo, weop, weoq, weor, weot⟩ hi3 R5 hR5 hN5
      simp only at hi3
      by_cases hlt : i3 < fnd.length
      · have h5 : (i3 : Int) < fnd.length := by omega
        have hwi := wrap_one (i := i3) (by omega)
        obtain ⟨key, hkey⟩ : ∃ key, fnd.getD i3 0 = key := ⟨_, rfl⟩
        have hkm := hfm key (by rw [← hkey, getD_lt hlt]; exact List.getElem_mem hlt)
        have hgk := nz_get hlt
        rw [hkey] at hgk
        have hk0 : (0 : Int) ≤ (key : Int) := by omega
        have hbl := stB_len nt i (0) (fnd.take i3)
        have hset := stB_one nt i (0) (fnd.take i3) key
        have ht1 := take_one fnd i3 0 hlt
        rw [hkey] at ht1
        rw [← ht1] at hset
        obtain ⟨e6, he6⟩ : ∃ e, (ints (stB nt i (0) (fnd.take i3)))[key]? = some e := ⟨_, List.getElem?_eq_getElem (by rw [ints_len, hbl]; exact hkm)⟩
        simp only [h5, hlt, hgk, hk0, hkm, hbl, hset, he6, hwi, nz_len, ints_len, ints_set, Int.toNat_natCast, ↓SP, SQ, Gam.add, stepM, callC, argC, lendO, nmBy, nmC, likeL, likeB, plainOb, offs, exL, X, F, trP, trO, stepD, stepW, newA, SV.tr, SV.trL, fz, allP, Ob.tr, loadA, cellsA, SV.cells, binA, binI, eqOut, isSl, isPt, natOf, callee, snap, SV.refsL, SV.refs, thaw, fzAll, loA, hiA, elemOf, partsA, buildA, putCells, ↓reduceIte, reduceCtorEq, okCell, Nat.reduceAdd, Nat.reduceEqDiff, Nat.reduceSub, Nat.reduceMul, Nat.reduceLeDiff, Nat.reduceLT, Nat.reduceBEq, PV.scal, PV.scalL, SV.scal, SV.scalL, Ob.scal, PV.isCell, pure', resO]
        exact hN5 ⟨i3 + 1, _, .junk, _, _, .junk, _, _, .junk, .junk, .junk, .junk, _, none, _, _, _⟩ _ _ (by simp only; omega) (by simp only; omega) rfl rfl
      have hi3e : i3 = fnd.length := by omega
      have h5 : ¬ (fnd.length : Int) < fnd.length := by omega
      subst hi3e
      have hend : stB nt i (0) (fnd.take fnd.length) = tabK nt i (1) := by
        rw [List.take_length, ← hfnd, List.take_length, stB_end]
      simp only [h5, nz_len, ints_len, ↓SP, SQ, Gam.add, stepM, callC, argC, lendO, nmBy, nmC, likeL, likeB, plainOb, offs, exL, X, F, trP, trO, stepD, stepW, newA, SV.tr, SV.trL, fz, allP, Ob.tr, loadA, cellsA, SV.cells, binA, binI, eqOut, isSl, isPt, natOf, callee, snap, SV.refsL, SV.refs, thaw, fzAll, loA, hiA, elemOf, partsA, buildA, putCells, ↓reduceIte, reduceCtorEq, okCell, Nat.reduceAdd, Nat.reduceEqDiff, Nat.reduceSub, Nat.reduceMul, Nat.reduceLeDiff, Nat.reduceLT, Nat.reduceBEq, PV.scal, PV.scalL, SV.scal, SV.scalL, Ob.scal, PV.isCell, pure', resO]
      refine hR5 _ _ _ (by intro h; cases h) ?_
      simp only [hend, hw, ↓SP, SQ, Gam.add, stepM, callC, argC, lendO, nmBy, nmC, likeL, likeB, plainOb, offs, exL, X, F, trP, trO, stepD, stepW, newA, SV.tr, SV.trL, fz, allP, Ob.tr, loadA, cellsA, SV.cells, binA, binI, eqOut, isSl, isPt, natOf, callee, snap, SV.refsL, SV.refs, thaw, fzAll, loA, hiA, elemOf, partsA, buildA, putCells, ↓reduceIte, reduceCtorEq, okCell, Nat.reduceAdd, Nat.reduceEqDiff, Nat.reduceSub, Nat.reduceMul, Nat.reduceLeDiff, Nat.reduceLT, Nat.reduceBEq, PV.scal, PV.scalL, SV.scal, SV.scalL, Ob.scal, PV.isCell, pure', resO]
      exact hN3 ⟨1, _, _, _, _, _, _, _, _, _, _, _, _, _, _, _, _⟩ _ _ (by simp only; omega) (by simp only; omega) rfl rfl
    | succ k =>
      simp only [h3', nz_len, ints_len, ↓SP, SQ, Gam.add, stepM, callC, argC, lendO, nmBy, nmC, likeL, likeB, plainOb, offs, exL, X, F, trP, trO, stepD, stepW, newA, SV.tr, SV.trL, fz, allP, Ob.tr, loadA, cellsA, SV.cells, binA, binI, eqOut, isSl, isPt, natOf, callee, snap, SV.refsL, SV.refs, thaw, fzAll, loA, hiA, elemOf, partsA, buildA, putCells, ↓reduceIte, reduceCtorEq, okCell, Nat.reduceAdd, Nat.reduceEqDiff, Nat.reduceSub, Nat.reduceMul, Nat.reduceLeDiff, Nat.reduceLT, Nat.reduceBEq, PV.scal, PV.scalL, SV.scal, SV.scalL, Ob.scal, PV.isCell, pure', resO]
      refine loop_at (fun s : M => mkEnv [(0, si i), (2, .p .nilsl), (3, si ((9 ^ i : Nat) : Int)), (4, si i), (5, .ar 22), (6, .p (.sl 1 (ints (nz (lfK nt i (k + 1)))))), (7, si ((9 ^ i : Nat) : Int)), (8, s.a), (9, si ((k + 1 + 1 : Nat) : Int)), (10, .ar 51), (11, .ar 52), (12, si s.i), (13, s.b), (16, sb false), (26, sb false), (36, s.c), (41, s.d), (48, sb true), (56, s.e), (69, s.f), (87, s.g)]) (fun s => mkO [(22, some (.arr 1 (ints (tabK nt i (k + 1))))), (23, some (.arr 1 (ints (nz (lfK nt i 0))))), (44, s.o), (45, none), (51, some (.arr 1 (ints (nz (((lfK nt i (k + 1)).take s.i).filter fun key => decide (nt (pad3 (dg key i)) ≤ (k + 1) + 1)))))), (52, some (.arr 1 (ints (nz (((lfK nt i (k + 1)).take s.i).filter fun key => !decide (nt (pad3 (dg key i)) ≤ (k + 1) + 1)))))), (67, s.t), (75, s.q), (76, none), (82, s.r), (83, none)]) (fun s => s.i ≤ (lfK nt i (k + 1)).length) (fun s => (lfK nt i (k + 1)).length - s.i) ⟨0, _, _, _, _, _, _, _, .junk, .junk, .junk, .junk, _, none, _, _, _⟩ (by simp) rfl rfl ?_
      rintro ⟨i2, wda, wdb, wdc, wdd, wde, wdf, wdg, wdh, wdk, wdl, wdm, wdoo, wdop, wdoq, wdor, wdot⟩ hi2 R4 hR4 hN4
      simp only at hi2
      by_cases hlt : i2 < (lfK nt i (k + 1)).length
      · have h4 : (i2 : Int) < (lfK nt i (k + 1)).length := by omega
        have hi3 : i2 < (lfK nt i (k + 1)).length := hlt
        have hwi := wrap_one (i := i2) (by omega)
        obtain ⟨key, hkey⟩ : ∃ key, (lfK nt i (k + 1)).getD i2 0 = key := ⟨_, rfl⟩
        have hmem := lf_mem (nt := nt) (p := i) (k := k + 1) (key := key) (by rw [← hkey, getD_lt hlt]; exact List.getElem_mem hlt)
        have hgk := nz_get hlt
        rw [hkey] at hgk
        have hk0 : (0 : Int) ≤ (key : Int) := by omega
        have hk1 : (key : Int) ≤ 1000000 := by omega
        have hdl := dg_len key i
        have htold : told (dg key i) = false := by
          cases ht : told (dg key i) with
          | false => rfl
          | true => have := (zero_told hokB hmem.1 hmem.2.1).2 ht; omega
        have hokw := open_okw hp1 hp3 hmem.1 hmem.2.1 htold
        have htabl : (tabK nt i (k + 1)).length = 9 ^ i := tabK_len nt i (k + 1)
        have hbany := bo_any (k := k + 1) hokB hp3 hmem.1 hmem.2.1 htold
        have hbs1 : c_l10Best [.p (.sl 1 (ints (dg key i))), .ar 1000000, .p (.int .i64 ((k + 1 + 1 : Nat) : Int))] [.arr 1 (ints (tabK nt i (k + 1)))] = match bsF (tabK nt i (k + 1)) ((k + 1 + 1 : Nat) : Int) (dg key i) with
            | some s => some (.p (.sl 1 (ints s)), [.arr 1 (ints (tabK nt i (k + 1)))], [])
            | none => some (.ar 2000000, [.arr 1 (ints (tabK nt i (k + 1)))], [.arr 1 []]) := by
          simp only [c_l10Best, isI_ints, ofI_ints, hokw, htabl, hdl, and_self, if_true]
          cases bsF (tabK nt i (k + 1)) ((k + 1 + 1 : Nat) : Int) (dg key i) <;> rfl
        have hbe : (9 ^ i == 9 ^ i) = true := beq_self_eq_true _
        have hq0 := take_one (lfK nt i (k + 1)) i2 0 hlt
        rw [hkey] at hq0
        by_cases hnt : nt (pad3 (dg key i)) ≤ (k + 1) + 1
        ·   skip
            rw [dec_t hnt] at hbany
            obtain ⟨s0, hs0⟩ := Option.isSome_iff_exists.1 hbany
            rw [hs0] at hbs1
            have hs0l : s0.length = i := by rw [spl_len (List.mem_of_find?_eq_some hs0), hdl]
            have hs0p : (s0.length : Int) > 0 := by omega
            have hapx : (((lfK nt i (k + 1)).take i2).filter fun key => decide (nt (pad3 (dg key i)) ≤ (k + 1) + 1)) ++ [key] = ((lfK nt i (k + 1)).take (i2 + 1)).filter fun key => decide (nt (pad3 (dg key i)) ≤ (k + 1) + 1) := by
              rw [hq0, List.filter_append]; simp only [List.filter_cons, dec_t hnt, List.filter_nil, if_true]
            have hsm : ((lfK nt i (k + 1)).take (i2 + 1)).filter (fun key => !decide (nt (pad3 (dg key i)) ≤ (k + 1) + 1)) = ((lfK nt i (k + 1)).take i2).filter fun key => !decide (nt (pad3 (dg key i)) ≤ (k + 1) + 1) := by
              rw [hq0, List.filter_append]; simp only [List.filter_cons, dec_t hnt, Bool.not_true, List.filter_nil, Bool.false_eq_true, if_false, List.append_nil]
            have hfl : (((lfK nt i (k + 1)).take i2).filter fun key => decide (nt (pad3 (dg key i)) ≤ (k + 1) + 1)).length + 1 ≤ roomA := by
              have := List.length_filter_le (fun key => decide (nt (pad3 (dg key i)) ≤ (k + 1) + 1)) ((lfK nt i (k + 1)).take i2)
              rw [List.length_take] at this
              unfold roomA; omega
            simp only [h4, hi3, hgk, hk0, hk1, hpi0, hpi3, nz_len, ints_len, Int.toNat_natCast, isI_ints, ofI_ints, h_l4Counted, c_l4Counted, hbs1, hs0p, h_l10Best, hbe, htabl, hwi, hapx, hfl, nz_app, ints_app1, ints_cell, ↓SP, SQ, Gam.add, stepM, callC, argC, lendO, nmBy, nmC, likeL, likeB, plainOb, offs, exL, X, F, trP, trO, stepD, stepW, newA, SV.tr, SV.trL, fz, allP, Ob.tr, loadA, cellsA, SV.cells, binA, binI, eqOut, isSl, isPt, natOf, callee, snap, SV.refsL, SV.refs, thaw, fzAll, loA, hiA, elemOf, partsA, buildA, putCells, ↓reduceIte, reduceCtorEq, okCell, Nat.reduceAdd, Nat.reduceEqDiff, Nat.reduceSub, Nat.reduceMul, Nat.reduceLeDiff, Nat.reduceLT, Nat.reduceBEq, PV.scal, PV.scalL, SV.scal, SV.scalL, Ob.scal, PV.isCell, pure', resO]
            exact hN4 ⟨i2 + 1, _, _, _, _, _, _, _, .junk, .junk, .junk, .junk, _, none, _, _, _⟩ _ _ (by simp only; omega) (by simp only; omega) rfl (by rw [hsm])
        ·   skip
            rw [dec_f hnt] at hbany
            have hs0 : bsF (tabK nt i (k + 1)) ((k + 1 + 1 : Nat) : Int) (dg key i) = none := by
              cases hb : bsF (tabK nt i (k + 1)) ((k + 1 + 1 : Nat) : Int) (dg key i) with
              | none => rfl
              | some s => rw [hb] at hbany; cases hbany
            rw [hs0] at hbs1
            have h00 : ¬ ((0 : Nat) : Int) > 0 := by omega
            have hapx : (((lfK nt i (k + 1)).take i2).filter fun key => !decide (nt (pad3 (dg key i)) ≤ (k + 1) + 1)) ++ [key] = ((lfK nt i (k + 1)).take (i2 + 1)).filter fun key => !decide (nt (pad3 (dg key i)) ≤ (k + 1) + 1) := by
              rw [hq0, List.filter_append]; simp only [List.filter_cons, dec_f hnt, Bool.not_false, List.filter_nil, if_true]
            have hsm : ((lfK nt i (k + 1)).take (i2 + 1)).filter (fun key => decide (nt (pad3 (dg key i)) ≤ (k + 1) + 1)) = ((lfK nt i (k + 1)).take i2).filter fun key => decide (nt (pad3 (dg key i)) ≤ (k + 1) + 1) := by
              rw [hq0, List.filter_append]; simp only [List.filter_cons, dec_f hnt, List.filter_nil, Bool.false_eq_true, if_false, List.append_nil]
            have hfl : (((lfK nt i (k + 1)).take i2).filter fun key => !decide (nt (pad3 (dg key i)) ≤ (k + 1) + 1)).length + 1 ≤ roomA := by
              have := List.length_filter_le (fun key => !decide (nt (pad3 (dg key i)) ≤ (k + 1) + 1)) ((lfK nt i (k + 1)).take i2)
              rw [List.length_take] at this
              unfold roomA; omega
            simp only [h4, hi3, hgk, hk0, hk1, hpi0, hpi3, nz_len, ints_len, Int.toNat_natCast, isI_ints, ofI_ints, h_l4Counted, c_l4Counted, hbs1, h00, h_l10Best, hbe, htabl, List.length_nil, hwi, hapx, hfl, nz_app, ints_app1, ints_cell, ↓SP, SQ, Gam.add, stepM, callC, argC, lendO, nmBy, nmC, likeL, likeB, plainOb, offs, exL, X, F, trP, trO, stepD, stepW, newA, SV.tr, SV.trL, fz, allP, Ob.tr, loadA, cellsA, SV.cells, binA, binI, eqOut, isSl, isPt, natOf, callee, snap, SV.refsL, SV.refs, thaw, fzAll, loA, hiA, elemOf, partsA, buildA, putCells, ↓reduceIte, reduceCtorEq, okCell, Nat.reduceAdd, Nat.reduceEqDiff, Nat.reduceSub, Nat.reduceMul, Nat.reduceLeDiff, Nat.reduceLT, Nat.reduceBEq, PV.scal, PV.scalL, SV.scal, SV.scalL, Ob.scal, PV.isCell, pure', resO]
            exact hN4 ⟨i2 + 1, _, _, _, _, _, _, _, .junk, .junk, .junk, .junk, _, none, _, _, _⟩ _ _ (by simp only; omega) (by simp only; omega) rfl (by rw [hsm])
      have hi2e : i2 = (lfK nt i (k + 1)).length := by omega
      have h4 : ¬ ((lfK nt i (k + 1)).length : Int) < (lfK nt i (k + 1)).length := by omega
      subst hi2e
      have hmore : ((lfK nt i (k + 1)).take (lfK nt i (k + 1)).length).filter (fun key => !decide (nt (pad3 (dg key i)) ≤ (k + 1) + 1)) = lfK nt i ((k + 1) + 1) := by rw [List.take_length, lf_next]
      obtain ⟨fnd, hfnd⟩ : ∃ fnd, ((lfK nt i (k + 1)).take (lfK nt i (k + 1)).length).filter (fun key => decide (nt (pad3 (dg key i)) ≤ (k + 1) + 1)) = fnd := ⟨_, rfl⟩
      have hfl1 : fnd.length ≤ 9 ^ i := by
        rw [← hfnd]
        have := List.length_filter_le (fun key => decide (nt (pad3 (dg key i)) ≤ (k + 1) + 1)) ((lfK nt i (k + 1)).take (lfK nt i (k + 1)).length)
        rw [List.take_length] at this
        rw [List.take_length]; omega
      have hfm : ∀ x ∈ fnd, x < 9 ^ i := fun x hx => by
        rw [← hfnd] at hx
        exact (lf_mem (List.mem_of_mem_take (List.mem_filter.1 hx).1)).1
      have hB0 := stB_0 nt i (k + 1)
      simp only [h4, nz_len, ints_len, ↓SP, SQ, Gam.add, stepM, callC, argC, lendO, nmBy, nmC, likeL, likeB, plainOb, offs, exL, X, F, trP, trO, stepD, stepW, newA, SV.tr, SV.trL, fz, allP, Ob.tr, loadA, cellsA, SV.cells, binA, binI, eqOut, isSl, isPt, natOf, callee, snap, SV.refsL, SV.refs, thaw, fzAll, loA, hiA, elemOf, partsA, buildA, putCells, ↓reduceIte, reduceCtorEq, okCell, Nat.reduceAdd, Nat.reduceEqDiff, Nat.reduceSub, Nat.reduceMul, Nat.reduceLeDiff, Nat.reduceLT, Nat.reduceBEq, PV.scal, PV.scalL, SV.scal, SV.scalL, Ob.scal, PV.isCell, pure', resO]
      refine hR4 _ _ _ (by intro h; cases h) ?_
      simp only [hmore, hfnd, ↓SP, SQ, Gam.add, stepM, callC, argC, lendO, nmBy, nmC, likeL, likeB, plainOb, offs, exL, X, F, trP, trO, stepD, stepW, newA, SV.tr, SV.trL, fz, allP, Ob.tr, loadA, cellsA, SV.cells, binA, binI, eqOut, isSl, isPt, natOf, callee, snap, SV.refsL, SV.refs, thaw, fzAll, loA, hiA, elemOf, partsA, buildA, putCells, ↓reduceIte, reduceCtorEq, okCell, Nat.reduceAdd, Nat.reduceEqDiff, Nat.reduceSub, Nat.reduceMul, Nat.reduceLeDiff, Nat.reduceLT, Nat.reduceBEq, PV.scal, PV.scalL, SV.scal, SV.scalL, Ob.scal, PV.isCell, pure', resO]
      refine loop_at (fun s : M => mkEnv [(0, si i), (2, .p .nilsl), (3, si ((9 ^ i : Nat) : Int)), (4, si i), (5, .ar 22), (6, .p (.sl 1 (ints (nz (lfK nt i (k + 1)))))), (7, si ((9 ^ i : Nat) : Int)), (8, s.a), (9, si ((k + 1 + 1 : Nat) : Int)), (10, .ar 51), (11, .ar 52), (12, si (lfK nt i (k + 1)).length), (13, si s.i), (16, sb false), (26, sb false), (36, s.c), (41, s.d), (48, sb true), (56, sb false), (69, s.f), (87, s.g)]) (fun s => mkO [(22, some (.arr 1 (ints (stB nt i (k + 1) (fnd.take s.i))))), (23, some (.arr 1 (ints (nz (lfK nt i 0))))), (44, s.o), (45, none), (51, some (.arr 1 (ints (nz fnd)))), (52, some (.arr 1 (ints (nz (lfK nt i ((k + 1) + 1)))))), (67, s.t), (75, s.q), (76, none), (82, s.r), (83, none)]) (fun s => s.i ≤ fnd.length) (fun s => fnd.length - s.i) ⟨0, _, .junk, _, _, .junk, _, _, .junk, .junk, .junk, .junk, _, none, _, _, _⟩ (by simp) rfl (by simp only [List.take_zero, hB0]; try rfl) ?_
      rintro ⟨i3, wea, web, wec, wed, wee, wef, weg, weh, wek, wel, wem, weoo, weop, weoq, weor, weot⟩ hi3 R5 hR5 hN5
      simp only at hi3
      by_cases hlt : i3 < fnd.length
      · have h5 : (i3 : Int) < fnd.length := by omega
        have hwi := wrap_one (i := i3) (by omega)
        obtain ⟨key, hkey⟩ : ∃ key, fnd.getD i3 0 = key := ⟨_, rfl⟩
        have hkm := hfm key (by rw [← hkey, getD_lt hlt]; exact List.getElem_mem hlt)
        have hgk := nz_get hlt
        rw [hkey] at hgk
        have hk0 : (0 : Int) ≤ (key : Int) := by omega
        have hbl := stB_len nt i (k + 1) (fnd.take i3)
        have hset := stB_one nt i (k + 1) (fnd.take i3) key
        have ht1 := take_one fnd i3 0 hlt
        rw [hkey] at ht1
        rw [← ht1] at hset
        obtain ⟨e6, he6⟩ : ∃ e, (ints (stB nt i (k + 1) (fnd.take i3)))[key]? = some e := ⟨_, List.getElem?_eq_getElem (by rw [ints_len, hbl]; exact hkm)⟩
        simp only [h5, hlt, hgk, hk0, hkm, hbl, hset, he6, hwi, nz_len, ints_len, ints_set, Int.toNat_natCast, ↓SP, SQ, Gam.add, stepM, callC, argC, lendO, nmBy, nmC, likeL, likeB, plainOb, offs, exL, X, F, trP, trO, stepD, stepW, newA, SV.tr, SV.trL, fz, allP, Ob.tr, loadA, cellsA, SV.cells, binA, binI, eqOut, isSl, isPt, natOf, callee, snap, SV.refsL, SV.refs, thaw, fzAll, loA, hiA, elemOf, partsA, buildA, putCells, ↓reduceIte, reduceCtorEq, okCell, Nat.reduceAdd, Nat.reduceEqDiff, Nat.reduceSub, Nat.reduceMul, Nat.reduceLeDiff, Nat.reduceLT, Nat.reduceBEq, PV.scal, PV.scalL, SV.scal, SV.scalL, Ob.scal, PV.isCell, pure', resO]
        exact hN5 ⟨i3 + 1, _, .junk, _, _, .junk, _, _, .junk, .junk, .junk, .junk, _, none, _, _, _⟩ _ _ (by simp only; omega) (by simp only; omega) rfl rfl
      have hi3e : i3 = fnd.length := by omega
      have h5 : ¬ (fnd.length : Int) < fnd.length := by omega
      subst hi3e
      have hend : stB nt i (k + 1) (fnd.take fnd.length) = tabK nt i ((k + 1) + 1) := by
        rw [List.take_length, ← hfnd, List.take_length, stB_end]
      simp only [h5, nz_len, ints_len, ↓SP, SQ, Gam.add, stepM, callC, argC, lendO, nmBy, nmC, likeL, likeB, plainOb, offs, exL, X, F, trP, trO, stepD, stepW, newA, SV.tr, SV.trL, fz, allP, Ob.tr, loadA, cellsA, SV.cells, binA, binI, eqOut, isSl, isPt, natOf, callee, snap, SV.refsL, SV.refs, thaw, fzAll, loA, hiA, elemOf, partsA, buildA, putCells, ↓reduceIte, reduceCtorEq, okCell, Nat.reduceAdd, Nat.reduceEqDiff, Nat.reduceSub, Nat.reduceMul, Nat.reduceLeDiff, Nat.reduceLT, Nat.reduceBEq, PV.scal, PV.scalL, SV.scal, SV.scalL, Ob.scal, PV.isCell, pure', resO]
      refine hR5 _ _ _ (by intro h; cases h) ?_
      simp only [hend, hw, ↓SP, SQ, Gam.add, stepM, callC, argC, lendO, nmBy, nmC, likeL, likeB, plainOb, offs, exL, X, F, trP, trO, stepD, stepW, newA, SV.tr, SV.trL, fz, allP, Ob.tr, loadA, cellsA, SV.cells, binA, binI, eqOut, isSl, isPt, natOf, callee, snap, SV.refsL, SV.refs, thaw, fzAll, loA, hiA, elemOf, partsA, buildA, putCells, ↓reduceIte, reduceCtorEq, okCell, Nat.reduceAdd, Nat.reduceEqDiff, Nat.reduceSub, Nat.reduceMul, Nat.reduceLeDiff, Nat.reduceLT, Nat.reduceBEq, PV.scal, PV.scalL, SV.scal, SV.scalL, Ob.scal, PV.isCell, pure', resO]
      exact hN3 ⟨(k + 1) + 1, _, _, _, _, _, _, _, _, _, _, _, _, _, _, _, _⟩ _ _ (by simp only; omega) (by simp only; omega) rfl rfl
  have hnil : lfK nt i k = [] := List.length_eq_zero_iff.1 (by omega)
  have hl0 : (lfK nt i k).length = 0 := by omega
  have h00 : ¬ ((0 : Nat) : Int) > 0 := by omega
  have hdone := tab_done (R := 6) hnil hk
  cases k with
  | zero =>
    simp only [hl0, h00, nz_len, ints_len, ↓SP, SQ, Gam.add, stepM, callC, argC, lendO, nmBy, nmC, likeL, likeB, plainOb, offs, exL, X, F, trP, trO, stepD, stepW, newA, SV.tr, SV.trL, fz, allP, Ob.tr, loadA, cellsA, SV.cells, binA, binI, eqOut, isSl, isPt, natOf, callee, snap, SV.refsL, SV.refs, thaw, fzAll, loA, hiA, elemOf, partsA, buildA, putCells, ↓reduceIte, reduceCtorEq, okCell, Nat.reduceAdd, Nat.reduceEqDiff, Nat.reduceSub, Nat.reduceMul, Nat.reduceLeDiff, Nat.reduceLT, Nat.reduceBEq, PV.scal, PV.scalL, SV.scal, SV.scalL, Ob.scal, PV.isCell, pure', resO]
    refine hR3 _ _ _ (by intro h; cases h) ?_
    simp only [hdone, ↓SP, SQ, Gam.add, stepM, callC, argC, lendO, nmBy, nmC, likeL, likeB, plainOb, offs, exL, X, F, trP, trO, stepD, stepW, newA, SV.tr, SV.trL, fz, allP, Ob.tr, loadA, cellsA, SV.cells, binA, binI, eqOut, isSl, isPt, natOf, callee, snap, SV.refsL, SV.refs, thaw, fzAll, loA, hiA, elemOf, partsA, buildA, putCells, ↓reduceIte, reduceCtorEq, okCell, Nat.reduceAdd, Nat.reduceEqDiff, Nat.reduceSub, Nat.reduceMul, Nat.reduceLeDiff, Nat.reduceLT, Nat.reduceBEq, PV.scal, PV.scalL, SV.scal, SV.scalL, Ob.scal, PV.isCell, pure', resO]
    refine finA_gen [22] trivial (by simp [retA, rvA, mkE_cons, mk_nil, mkO_cons, mkO_nil, loadA, SV.tr, SV.trL, nmF, rn_nil, rn_cons1, rn_cons2, plainOb, SV.refsL, SV.refs, Ob.refs, X, F, List.range_succ, mkO, setO_mk]; rfl) ?_ ?_ ?_ ?_ ?_ ?_ ?_ <;> simp [retA, rvA, mkE_cons, mk_nil, mkO_cons, mkO_nil, loadA, SV.tr, SV.trL, nmF, rn_nil, rn_cons1, rn_cons2, plainOb, SV.refsL, SV.refs, Ob.refs, X, F, List.range_succ, mkO, setO_mk]
  | succ k =>
    simp only [hl0, h00, nz_len, ints_len, ↓SP, SQ, Gam.add, stepM, callC, argC, lendO, nmBy, nmC, likeL, likeB, plainOb, offs, exL, X, F, trP, trO, stepD, stepW, newA, SV.tr, SV.trL, fz, allP, Ob.tr, loadA, cellsA, SV.cells, binA, binI, eqOut, isSl, isPt, natOf, callee, snap, SV.refsL, SV.refs, thaw, fzAll, loA, hiA, elemOf, partsA, buildA, putCells, ↓reduceIte, reduceCtorEq, okCell, Nat.reduceAdd, Nat.reduceEqDiff, Nat.reduceSub, Nat.reduceMul, Nat.reduceLeDiff, Nat.reduceLT, Nat.reduceBEq, PV.scal, PV.scalL, SV.scal, SV.scalL, Ob.scal, PV.isCell, pure', resO]
    refine hR3 _ _ _ (by intro h; cases h) ?_
    simp only [hdone, ↓SP, SQ, Gam.add, stepM, callC, argC, lendO, nmBy, nmC, likeL, likeB, plainOb, offs, exL, X, F, trP, trO, stepD, stepW, newA, SV.tr, SV.trL, fz, allP, Ob.tr, loadA, cellsA, SV.cells, binA, binI, eqOut, isSl, isPt, natOf, callee, snap, SV.refsL, SV.refs, thaw, fzAll, loA, hiA, elemOf, partsA, buildA, putCells, ↓reduceIte, reduceCtorEq, okCell, Nat.reduceAdd, Nat.reduceEqDiff, Nat.reduceSub, Nat.reduceMul, Nat.reduceLeDiff, Nat.reduceLT, Nat.reduceBEq, PV.scal, PV.scalL, SV.scal, SV.scalL, Ob.scal, PV.isCell, pure', resO]
    refine finA_gen [22] trivial (by simp [retA, rvA, mkE_cons, mk_nil, mkO_cons, mkO_nil, loadA, SV.tr, SV.trL, nmF, rn_nil, rn_cons1, rn_cons2, plainOb, SV.refsL, SV.refs, Ob.refs, X, F, List.range_succ, mkO, setO_mk]; rfl) ?_ ?_ ?_ ?_ ?_ ?_ ?_ <;> simp [retA, rvA, mkE_cons, mk_nil, mkO_cons, mkO_nil, loadA, SV.tr, SV.trL, nmF, rn_nil, rn_cons1, rn_cons2, plainOb, SV.refsL, SV.refs, Ob.refs, X, F, List.range_succ, mkO, setO_mk]
end Go.Proofs.Ytmncbkkpchmjhaa.Pam
