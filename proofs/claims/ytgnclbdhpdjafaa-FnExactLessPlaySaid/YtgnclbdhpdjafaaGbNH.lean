/- A part of the proof that stands in this folder: a small machine whose steps are shown to be the steps of the model, or walks of functions by it. No condition of its own. -/
import Derived.Test.YtgnclbdhpdjafaaGbNF
set_option linter.unusedVariables false
set_option linter.unusedSimpArgs false
namespace Go.Proofs.Ytgnclbdhpdjafaa.Pam
open Go
def yW (m : Int) (x : List Int) : Bool := decide (lnT m (aftL m (kbT m x) false x) ≠ lnT m x - 1)
def nxW (m : Int) (x : List Int) : List Int := aftL m (kbT m x) (yW m x) x
def wsF (m : Int) : Nat → List Int → List Bool
  | 0, _ => []
  | f + 1, x => yW m x :: wsF m f (nxW m x)
theorem wsF_len (m : Int) : ∀ f x, (wsF m f x).length = f
  | 0, _ => rfl
  | f + 1, x => by simp [wsF, wsF_len m f]
def wst (m : Int) (x : List Int) : List Bool := wsF m (lnT m x).toNat x
structure WkS (m : Int) (x : List Int) : Prop where
  sF : isSh (aftL m (kbT m x) false x) m = true
  sT : isSh (aftL m (kbT m x) true x) m = true
  sh : isSh (nxW m x) m = true
  nx : lnT m (nxW m x) = lnT m x - 1
  bk : 1 ≤ kbT m x ∧ kbT m x < x.length
  up : wsF m (lnT m x).toNat x = yW m x :: wsF m (lnT m (nxW m x)).toNat (nxW m x)
  y1 : (lnT m (aftL m (kbT m x) false x) != lnT m x - 1) = yW m x
  y2 : decide (lnT m (aftL m (kbT m x) false x) + 1 < lnT m x) = yW m x
theorem WkS.of {m : Int} {x : List Int} (hs : isSh x m = true) (ho : ¬ (opens x).length < 2) : WkS m x := by
  have C := CS.of hs
  obtain ⟨k1, k2, k3⟩ := kbT_bd hs ho
  have hp := C.pos ho
  simp only [hitT, Bool.and_eq_true, decide_eq_true_eq] at k3
  have he := k3.2
  simp only [oneT, mxT] at he
  have hsF := C.sh _ k1 k2 false
  have hsT := C.sh _ k1 k2 true
  have hsx : isSh (nxW m x) m = true := C.sh _ k1 k2 _
  have hnx : lnT m (nxW m x) = lnT m x - 1 := by
    simp only [nxW]
    cases hy : yW m x with
    | true =>
      simp only [yW, decide_eq_true_eq] at hy
      split at he <;> omega
    | false =>
      simp only [yW, decide_eq_false_iff_not, Decidable.not_not] at hy
      exact hy
  refine ⟨hsF, hsT, hsx, hnx, ⟨k1, k2⟩, ?_, ?_, ?_⟩
  · rw [hnx, show (lnT m x).toNat = (lnT m x - 1).toNat + 1 by omega]; rfl
  · simp only [yW]
    by_cases h : lnT m (aftL m (kbT m x) false x) = lnT m x - 1
    · rw [h]; simp
    · rw [dec_t h]; simpa using h
  · simp only [yW]
    rw [Bool.eq_iff_iff, decide_eq_true_eq, decide_eq_true_eq]
    split at he <;> omega
structure W6 where
  x : List Int
  out : List Bool
  E : ES
  a : SV
  b : SV
  c : SV
  d : SV
  o : Option Ob
  p : Option Ob
def a_LessWorst (f_isShort : FuncId) (f_newLesser : FuncId) (f_lneed : FuncId) (f_lbest : FuncId) (f_less : FuncId) (f_bothA : FuncId) : AFn := ⟨1, 
  .seq (.reg [⟨some 1, none, .w (.box 2 (.t 0))⟩,
    ⟨some 2, none, .d (.mv (.c (.nilsl)))⟩,
    ⟨some 3, none, .d (.mv (.c (.bool false)))⟩])
  (.seq (.seq (.reg [⟨some 9, none, .d (.load true 2 (.t 1))⟩,
    ⟨some 10, none, .d (.call (.f f_isShort) [(.t 9)])⟩,
    ⟨some 11, none, .d (.not (.t 10))⟩])
  (.cond (.t 11) (.seq (.reg [⟨some 2, none, .d (.mv (.c (.nilsl)))⟩,
     ⟨some 3, none, .d (.mv (.c (.bool false)))⟩])
   (.ret)) (.skip)))
  (.seq (.reg [⟨some 12, none, .w (.callL (.f f_newLesser) [] [] 1 false)⟩,
    ⟨some 13, none, .w (.bslice 1 [] [])⟩,
    ⟨some 4, none, .w (.alloc [.nilmap])⟩,
    ⟨none, none, .w (.store 1 (.t 4) (.t 12))⟩,
    ⟨some 5, none, .d (.mv (.t 13))⟩])
  (.seq (.seq (.reg [⟨some 14, none, .d (.load true 1 (.t 4))⟩,
    ⟨some 15, none, .d (.load true 2 (.t 1))⟩,
    ⟨some 16, none, .w (.callL (.f f_lneed) [(.t 14), (.t 15)] [12] 0 false)⟩,
    ⟨some 6, none, .d (.mv (.t 16))⟩])
  (.block 0 (.loop (.seq (.seq (.reg [⟨some 17, none, .d (.mv (.t 6))⟩,
      ⟨some 18, none, .d (.bin .arith .gtr (.t 17) (.c (.int .i64 0)))⟩])
    (.cond (.t 18) (.skip) (.exit 0)))
    (.seq (.block 1 (.seq (.dreg [7] [([12, 7], ⟨some 21, none, .d (.load true 2 (.t 1))⟩),
       ([7], ⟨some 22, none, .d (.load true 1 (.t 4))⟩),
       ([7], ⟨some 23, none, .d (.load true 2 (.t 1))⟩),
       ([7], ⟨some 24, none, .w (.callL (.f f_lbest) [(.t 22), (.t 23)] [12] 0 false)⟩),
       ([7], ⟨some 25, none, .d (.call (.f f_less) [(.t 24)])⟩),
       ([7], ⟨some 26, none, .d (.call (.f f_bothA) [(.t 21), (.t 25)])⟩),
       ([12], ⟨some 7, none, .w (.alloc [.nilsl, .int .i64 0, .nilsl, .int .i64 0])⟩)] [⟨none, none, .w (.store 4 (.t 7) (.t 26))⟩])
     (.seq (.reg [⟨some 27, none, .d (.load true 1 (.t 4))⟩,
       ⟨some 28, none, .d (.iaA 2 2 (.t 7) (.c (.int .i64 0)))⟩,
       ⟨some 29, none, .d (.load true 2 (.t 28))⟩,
       ⟨some 30, none, .w (.callL (.f f_lneed) [(.t 27), (.t 29)] [12] 0 false)⟩,
       ⟨some 31, none, .d (.mv (.t 6))⟩,
       ⟨some 32, none, .d (.bin .arith .sub (.t 31) (.c (.int .i64 1)))⟩,
       ⟨some 33, none, .d (.bin .arith .neq (.t 30) (.t 32))⟩,
       ⟨some 8, none, .d (.mv (.t 33))⟩])
     (.seq (.reg [⟨some 34, none, .d (.mv (.t 5))⟩,
       ⟨some 35, none, .d (.mv (.t 8))⟩,
       ⟨some 36, none, .w (.bslice 1 [.bool false] [(0, (.t 35))])⟩,
       ⟨some 37, none, .w (.append 1 (.t 34) (.t 36))⟩,
       ⟨some 5, none, .d (.mv (.t 37))⟩])
     (.seq (.reg [⟨some 38, none, .d (.iaA 2 2 (.t 7) (.c (.int .i64 0)))⟩,
       ⟨some 39, none, .d (.load true 2 (.t 38))⟩,
       ⟨none, none, .w (.store 2 (.t 1) (.t 39))⟩])
     (.seq (.reg [⟨some 40, none, .d (.mv (.t 8))⟩])
     (.cond (.t 40) (.reg [⟨some 41, none, .d (.iaA 2 2 (.t 7) (.c (.int .i64 1)))⟩,
        ⟨some 42, none, .d (.load true 2 (.t 41))⟩,
        ⟨none, none, .w (.store 2 (.t 1) (.t 42))⟩]) (.skip))))))))
    (.reg [⟨some 19, none, .d (.mv (.t 6))⟩,
      ⟨some 20, none, .d (.bin .arith .sub (.t 19) (.c (.int .i64 1)))⟩,
      ⟨some 6, none, .d (.mv (.t 20))⟩]))))))
  (.seq (.reg [⟨some 43, none, .d (.mv (.t 5))⟩,
    ⟨some 2, none, .d (.mv (.t 43))⟩,
    ⟨some 3, none, .d (.mv (.c (.bool true)))⟩])
  (.ret))))), [.tmp 2, .tmp 3]⟩
def n_LessWorst : Nat → Option Ann := fun d => if d = 12 then some ⟨[], 1, false⟩ else if d = 16 then some ⟨[12], 0, false⟩ else if d = 24 then some ⟨[12], 0, false⟩ else if d = 30 then some ⟨[12], 0, false⟩ else none
abbrev k_LessWorst : List Nat := [0, 1, 2, 3, 4, 5, 6, 7, 8, 11, 18, 40]
abbrev o_LessWorst : List Nat := [1, 4, 7, 12, 13, 36, 37]
def a_s_LessWorst (f_l6Short : FuncId) (f_l6Needs : FuncId) (f_l6Done : FuncId) (f_l6Best : FuncId) (f_l6After : FuncId) (f_l6Key : FuncId) : AFn := ⟨1, 
  .seq (.reg [⟨some 1, none, .w (.box 2 (.t 0))⟩,
    ⟨some 2, none, .d (.mv (.c (.nilsl)))⟩,
    ⟨some 3, none, .d (.mv (.c (.bool false)))⟩])
  (.seq (.reg [⟨some 9, none, .w (.bslice 1 [] [])⟩,
    ⟨some 4, none, .d (.mv (.t 9))⟩])
  (.seq (.seq (.reg [⟨some 10, none, .d (.load true 2 (.t 1))⟩,
    ⟨some 11, none, .d (.call (.f f_l6Short) [(.t 10)])⟩,
    ⟨some 12, none, .d (.not (.t 11))⟩])
  (.cond (.t 12) (.seq (.reg [⟨some 13, none, .d (.mv (.t 4))⟩,
     ⟨some 2, none, .d (.mv (.t 13))⟩,
     ⟨some 3, none, .d (.mv (.c (.bool false)))⟩])
   (.ret)) (.skip)))
  (.seq (.reg [⟨some 14, none, .d (.fa 0 (.t 1))⟩,
    ⟨some 15, none, .d (.load false 1 (.t 14))⟩,
    ⟨some 16, none, .d (.len (.t 15))⟩,
    ⟨some 17, none, .d (.fa 1 (.t 1))⟩,
    ⟨some 18, none, .d (.load false 1 (.t 17))⟩,
    ⟨some 19, none, .d (.call (.f f_l6Needs) [(.t 16), (.t 18)])⟩,
    ⟨some 5, none, .d (.mv (.t 19))⟩])
  (.seq (.block 0 (.loop (.seq (.seq (.reg [⟨some 20, none, .d (.load true 2 (.t 1))⟩,
      ⟨some 21, none, .d (.call (.f f_l6Done) [(.t 20)])⟩,
      ⟨some 22, none, .d (.not (.t 21))⟩])
    (.cond (.t 22) (.skip) (.exit 0)))
    (.block 1 (.seq (.reg [⟨some 23, none, .d (.load true 2 (.t 1))⟩,
       ⟨some 24, none, .d (.mv (.t 5))⟩,
       ⟨some 25, none, .d (.call (.f f_l6Best) [(.t 23), (.t 24)])⟩,
       ⟨some 6, none, .d (.mv (.t 25))⟩])
     (.seq (.reg [⟨some 26, none, .d (.load true 2 (.t 1))⟩,
       ⟨some 27, none, .d (.mv (.t 6))⟩,
       ⟨some 28, none, .d (.call (.f f_l6After) [(.t 26), (.t 27), (.c (.bool false))])⟩,
       ⟨some 7, none, .w (.alloc [.nilsl, .int .i64 0])⟩,
       ⟨none, none, .w (.store 2 (.t 7) (.t 28))⟩])
     (.seq (.dreg [] [([], ⟨some 29, none, .d (.mv (.t 5))⟩),
       ([], ⟨some 30, none, .d (.load true 2 (.t 7))⟩),
       ([], ⟨some 31, none, .d (.call (.f f_l6Key) [(.t 30)])⟩),
       ([], ⟨some 32, none, .d (.ia 1 (.t 29) (.t 31))⟩),
       ([], ⟨some 33, none, .d (.load false 1 (.t 32))⟩),
       ([], ⟨some 34, none, .d (.bin .arith .add (.t 33) (.c (.int .i64 1)))⟩),
       ([], ⟨some 35, none, .d (.mv (.t 5))⟩),
       ([], ⟨some 36, none, .d (.load true 2 (.t 1))⟩),
       ([], ⟨some 37, none, .d (.call (.f f_l6Key) [(.t 36)])⟩),
       ([], ⟨some 38, none, .d (.ia 1 (.t 35) (.t 37))⟩),
       ([], ⟨some 39, none, .d (.load false 1 (.t 38))⟩)] [⟨some 40, none, .d (.bin .arith .lss (.t 34) (.t 39))⟩,
       ⟨some 8, none, .d (.mv (.t 40))⟩])
     (.seq (.reg [⟨some 41, none, .d (.mv (.t 4))⟩,
       ⟨some 42, none, .d (.mv (.t 8))⟩,
       ⟨some 43, none, .w (.bslice 1 [.bool false] [(0, (.t 42))])⟩,
       ⟨some 44, none, .w (.append 1 (.t 41) (.t 43))⟩,
       ⟨some 4, none, .d (.mv (.t 44))⟩])
     (.reg [⟨some 45, none, .d (.load true 2 (.t 1))⟩,
       ⟨some 46, none, .d (.mv (.t 6))⟩,
       ⟨some 47, none, .d (.mv (.t 8))⟩,
       ⟨some 48, none, .d (.call (.f f_l6After) [(.t 45), (.t 46), (.t 47)])⟩,
       ⟨none, none, .w (.store 2 (.t 1) (.t 48))⟩])))))))))
  (.seq (.reg [⟨some 49, none, .d (.mv (.t 4))⟩,
    ⟨some 2, none, .d (.mv (.t 49))⟩,
    ⟨some 3, none, .d (.mv (.c (.bool true)))⟩])
  (.ret)))))), [.tmp 2, .tmp 3]⟩
def n_s_LessWorst : Nat → Option Ann := fun _ => none
abbrev k_s_LessWorst : List Nat := [0, 1, 2, 3, 4, 5, 6, 7, 8, 12, 22]
abbrev o_s_LessWorst : List Nat := [1, 7, 9, 43, 44]
def c_LessWorst : Con := pure' fun
  | [.p (.agg [.sl 1 x_, .int .i64 m])] => if isI x_ = true ∧ ((ofI x_).length ≤ 1100000) then some (if isSh (ofI x_) m = true then .tp [.ar 2000000, .p (.bool true)] else .tp [.p .nilsl, .p (.bool false)], if isSh (ofI x_) m = true then [.arr 1 (bools (wst m (ofI x_)))] else []) else none
  | _ => none
set_option maxHeartbeats 2000000 in
theorem s_LessWorst {P : Program} (hm : P.follows .mixedOrders = true) {Γ : Gam} (hΓ : GS P Γ) {n : FuncId} {f_isShort : FuncId} {f_newLesser : FuncId} {f_lneed : FuncId} {f_lbest : FuncId} {f_less : FuncId} {f_bothA : FuncId} (is : Is P n (a_LessWorst f_isShort f_newLesser f_lneed f_lbest f_less f_bothA)) (h_isShort : Γ f_isShort = c_isShort) (h_newLesser : Γ f_newLesser = c_newLesser) (h_lneed : Γ f_lneed = c_lneed) (h_lbest : Γ f_lbest = c_lbest) (h_less : Γ f_less = c_less) (h_bothA : Γ f_bothA = c_bothA)  : Says P n c_LessWorst := by
  refine Says.pure fun args r fs h => ?_
  split at h
  case h_2 => cases h
  rename_i x_ m
  split at h
  case isFalse => cases h
  rename_i hc
  obtain ⟨hx_, hc⟩ := hc
  obtain ⟨x, rfl⟩ := isI_out hx_
  simp only [ofI_ints, ofBo_bools, ofAs_asks, Option.some.injEq, Prod.mk.injEq] at h hc
  obtain ⟨rfl, rfl⟩ := h
  cases h1 : isSh x m with
  | false =>
    refine is.go hm hΓ k_LessWorst o_LessWorst (by simp [a_LessWorst]) ?_
    simp only [a_LessWorst, h_isShort, c_isShort, h_newLesser, c_newLesser, h_lneed, c_lneed, h_lbest, c_lbest, h_less, c_less, h_bothA, c_bothA, hc, h1, Bool.false_eq_true, List.zipIdx_cons, List.zipIdx_nil, ↓SP, SQ, Gam.add, stepM, callC, argC, lendO, nmBy, nmC, likeL, likeB, plainOb, offs, exL, X, F, trP, trO, stepD, stepW, newA, SV.tr, SV.trL, fz, allP, Ob.tr, loadA, cellsA, SV.cells, binA, binI, eqOut, isSl, isPt, natOf, callee, snap, SV.refsL, SV.refs, thaw, fzAll, loA, hiA, elemOf, partsA, buildA, putCells, ↓reduceIte, reduceCtorEq, okCell, Nat.reduceAdd, Nat.reduceEqDiff, Nat.reduceSub, Nat.reduceMul, Nat.reduceLeDiff, Nat.reduceLT, Nat.reduceBEq, PV.scal, PV.scalL, SV.scal, SV.scalL, Ob.scal, PV.isCell, pure', resO]
    refine finA_gen [] trivial (by simp [retA, rvA, List.mapM_cons, List.mapM_nil, Option.pure_def, Option.bind_eq_bind, Option.bind_some, Option.map_some, mkE_cons, mk_nil, mkO_cons, mkO_nil, loadA, ↓reduceIte, List.take_succ_cons, List.take_zero, List.drop_zero, List.drop_succ_cons, List.length_cons, List.length_nil, Nat.reduceAdd, Nat.reduceEqDiff, Nat.reduceLeDiff, Nat.zero_add, Nat.le_refl, reduceCtorEq, SV.tr, SV.trL, nmF, rn_nil, rn_cons1, rn_cons2, List.map_cons, List.map_nil, List.all_cons, List.all_nil, plainOb, SV.refsL, SV.refs, Ob.refs, X, F, List.range_succ, List.range_zero, List.nil_append, List.cons_append, List.isEmpty_nil, decide_true, Nat.reduceLT, Bool.and_self, Bool.and_true, and_self, and_true, List.getElem?_cons_zero, List.getElem?_cons_succ, List.nodup_cons, List.nodup_nil, List.mem_cons, List.not_mem_nil, not_false_eq_true, or_false, List.append_nil, mkO, setO_mk, List.mem_singleton]; rfl) ?_ ?_ ?_ ?_ ?_ ?_ ?_ <;> simp [retA, rvA, List.mapM_cons, List.mapM_nil, Option.pure_def, Option.bind_eq_bind, Option.bind_some, Option.map_some, mkE_cons, mk_nil, mkO_cons, mkO_nil, loadA, ↓reduceIte, List.take_succ_cons, List.take_zero, List.drop_zero, List.drop_succ_cons, List.length_cons, List.length_nil, Nat.reduceAdd, Nat.reduceEqDiff, Nat.reduceLeDiff, Nat.zero_add, Nat.le_refl, reduceCtorEq, SV.tr, SV.trL, nmF, rn_nil, rn_cons1, rn_cons2, List.map_cons, List.map_nil, List.all_cons, List.all_nil, plainOb, SV.refsL, SV.refs, Ob.refs, X, F, List.range_succ, List.range_zero, List.nil_append, List.cons_append, List.isEmpty_nil, decide_true, Nat.reduceLT, Bool.and_self, Bool.and_true, and_self, and_true, List.getElem?_cons_zero, List.getElem?_cons_succ, List.nodup_cons, List.nodup_nil, List.mem_cons, List.not_mem_nil, not_false_eq_true, or_false, List.append_nil, mkO, setO_mk, List.mem_singleton]
  | true =>
    have hok0 := okLM_nil m x.length
    have hi0 : isES [] = true := rfl
    have ho0 : ofES [] = [] := rfl
    have hg0 := needE_good h1 hok0
    have hl0 := (CS.of h1).lt
    have hl5 := (sh_out h1).2.1
    refine is.go hm hΓ k_LessWorst o_LessWorst (by simp [a_LessWorst]) ?_
    simp only [a_LessWorst, h_isShort, c_isShort, h_newLesser, c_newLesser, h_lneed, c_lneed, h_lbest, c_lbest, h_less, c_less, h_bothA, c_bothA, hc, h1, hok0, hi0, ho0, ints_len, isI_ints, ofI_ints, List.zipIdx_cons, List.zipIdx_nil, ↓SP, SQ, Gam.add, stepM, callC, argC, lendO, nmBy, nmC, likeL, likeB, plainOb, offs, exL, X, F, trP, trO, stepD, stepW, newA, SV.tr, SV.trL, fz, allP, Ob.tr, loadA, cellsA, SV.cells, binA, binI, eqOut, isSl, isPt, natOf, callee, snap, SV.refsL, SV.refs, thaw, fzAll, loA, hiA, elemOf, partsA, buildA, putCells, ↓reduceIte, reduceCtorEq, okCell, Nat.reduceAdd, Nat.reduceEqDiff, Nat.reduceSub, Nat.reduceMul, Nat.reduceLeDiff, Nat.reduceLT, Nat.reduceBEq, PV.scal, PV.scalL, SV.scal, SV.scalL, Ob.scal, PV.isCell, pure', resO]
    refine loop_at (fun s : W6 => mkEnv [(0, .p (.agg [.sl 1 (ints x), .int .i64 m])), (1, .bx 1 0), (2, .p .nilsl), (3, sb false), (4, .bx 4 0), (5, .ar 13), (6, si (lnT m s.x)), (7, s.a), (8, s.b), (11, sb false), (18, s.c), (40, s.d)]) (fun s => mkO [(1, some (.box [.p (.sl 1 (ints s.x)), si m])), (4, some (.box [.mp 12])), (7, s.o), (12, some (.map (entE s.E))), (13, some (.arr 1 (bools s.out))), (36, s.p), (37, none)]) (fun s => isSh s.x m = true ∧ s.x.length = x.length ∧ okLM m x.length s.E ∧ s.out ++ wsF m (lnT m s.x).toNat s.x = wst m x) (fun s => (lnT m s.x).toNat) ⟨x, [], (needE m x []).2, .junk, .junk, .junk, .junk, none, none⟩ ⟨h1, rfl, hg0.2, rfl⟩ rfl rfl ?_
    rintro ⟨z, out, E, c1, c2, c3, c4, o1, o2⟩ ⟨hz, hzl, hok, hw⟩ R hR hN
    simp only at hz hzl hok hw
    have C := CS.of hz
    have hlz := C.lt
    have hol : out.length + (lnT m z).toNat = (lnT m x).toNat := by
      have := congrArg List.length hw
      simpa [wsF_len, wst] using this
    by_cases h : lnT m z > 0
    · have ho : ¬ (opens z).length < 2 := fun g => by have := C.zero g; omega
      have W := WkS.of hz ho
      have hok' : okLM m z.length E := by rw [hzl]; exact hok
      have hokb := beE_good hz hok' (kbT m z) W.bk.2
      rw [hzl] at hokb
      have hokb' : okLM m (aftL m (kbT m z) false z).length (beE m z E (kbT m z)) := by rw [aftL_len, hzl]; exact hokb
      have hng := needE_good W.sF hokb'
      have hng2 := hng.2
      rw [aftL_len, hzl] at hng2
      have h05 : (0 : Int) ≤ (kbT m z : Int) ∧ (kbT m z : Int) ≤ 5 := by have := W.bk; omega
      have h1000 := sh_1000 hz
      have hlen := sh_len hz
      have ha0 := aft_ls (k := kbT m z) (by have := W.bk; omega) (m := m) (y := false) (sh_out hz).2.1
      have ha1 := aft_ls (k := kbT m z) (by have := W.bk; omega) (m := m) (y := true) (sh_out hz).2.1
      have hw1 : IntKind.i64.wrap (lnT m z - 1) = lnT m z - 1 := wrap64 (by omega) (by omega)
      have hr : out.length + 1 ≤ roomA := by unfold roomA; omega
      have y1 := W.y1
      have hsF := W.sF
      have hnx := W.nx
      have hnxl : (nxW m z).length = x.length := by rw [nxW, aftL_len, hzl]
      have hwn : (out ++ [yW m z]) ++ wsF m (lnT m (nxW m z)).toNat (nxW m z) = wst m x := by
        rw [← hw, W.up]; simp
      cases hy : yW m z with
      | false =>
        rw [hy] at y1 hwn
        have hnd : nxW m z = aftL m (kbT m z) false z := by rw [nxW, hy]
        rcases o1 with _ | o1
        · simp only [hc, h, hz, hzl, ho, hok, hokb, hw1, hr, y1, hsF, h05, h1000, hlen, ha0, ha1, h_lbest, c_lbest, h_less, c_less, h_bothA, c_bothA, h_lneed, c_lneed, isES_ent, ofES_ent, Int.toNat_natCast, Int.le_refl, Int.toNat_zero, Int.toNat_one, Int.reduceLE, Int.reduceToNat, Nat.zero_mul, Nat.one_mul, aftL_len, bools_len, bools_app1, bools_cell, ints_len, isI_ints, ofI_ints, not_false_eq_true, Bool.false_eq_true, ↓SP, SQ, Gam.add, stepM, callC, argC, lendO, nmBy, nmC, likeL, likeB, plainOb, offs, exL, X, F, trP, trO, stepD, stepW, newA, SV.tr, SV.trL, fz, allP, Ob.tr, loadA, cellsA, SV.cells, binA, binI, eqOut, isSl, isPt, natOf, callee, snap, SV.refsL, SV.refs, thaw, fzAll, loA, hiA, elemOf, partsA, buildA, putCells, ↓reduceIte, reduceCtorEq, okCell, Nat.reduceAdd, Nat.reduceEqDiff, Nat.reduceSub, Nat.reduceMul, Nat.reduceLeDiff, Nat.reduceLT, Nat.reduceBEq, PV.scal, PV.scalL, SV.scal, SV.scalL, Ob.scal, PV.isCell, pure', resO]
          exact hN ⟨nxW m z, out ++ [false], _, _, _, _, _, _, _⟩ _ _ (by simp only; exact ⟨W.sh, hnxl, hng2, hwn⟩) (by simp only; omega) (by rw [hnx]) (by rw [hnd])
        · simp only [hc, h, hz, hzl, ho, hok, hokb, hw1, hr, y1, hsF, h05, h1000, hlen, ha0, ha1, h_lbest, c_lbest, h_less, c_less, h_bothA, c_bothA, h_lneed, c_lneed, isES_ent, ofES_ent, Int.toNat_natCast, Int.le_refl, Int.toNat_zero, Int.toNat_one, Int.reduceLE, Int.reduceToNat, Nat.zero_mul, Nat.one_mul, aftL_len, bools_len, bools_app1, bools_cell, ints_len, isI_ints, ofI_ints, not_false_eq_true, Bool.false_eq_true, ↓SP, SQ, Gam.add, stepM, callC, argC, lendO, nmBy, nmC, likeL, likeB, plainOb, offs, exL, X, F, trP, trO, stepD, stepW, newA, SV.tr, SV.trL, fz, allP, Ob.tr, loadA, cellsA, SV.cells, binA, binI, eqOut, isSl, isPt, natOf, callee, snap, SV.refsL, SV.refs, thaw, fzAll, loA, hiA, elemOf, partsA, buildA, putCells, ↓reduceIte, reduceCtorEq, okCell, Nat.reduceAdd, Nat.reduceEqDiff, Nat.reduceSub, Nat.reduceMul, Nat.reduceLeDiff, Nat.reduceLT, Nat.reduceBEq, PV.scal, PV.scalL, SV.scal, SV.scalL, Ob.scal, PV.isCell, pure', resO]
          exact hN ⟨nxW m z, out ++ [false], _, _, _, _, _, _, _⟩ _ _ (by simp only; exact ⟨W.sh, hnxl, hng2, hwn⟩) (by simp only; omega) (by rw [hnx]) (by rw [hnd])
      | true =>
        rw [hy] at y1 hwn
        have hnd : nxW m z = aftL m (kbT m z) true z := by rw [nxW, hy]
        rcases o1 with _ | o1
        · simp only [hc, h, hz, hzl, ho, hok, hokb, hw1, hr, y1, hsF, h05, h1000, hlen, ha0, ha1, h_lbest, c_lbest, h_less, c_less, h_bothA, c_bothA, h_lneed, c_lneed, isES_ent, ofES_ent, Int.toNat_natCast, Int.le_refl, Int.toNat_zero, Int.toNat_one, Int.reduceLE, Int.reduceToNat, Nat.zero_mul, Nat.one_mul, aftL_len, bools_len, bools_app1, bools_cell, ints_len, isI_ints, ofI_ints, not_false_eq_true, Bool.false_eq_true, ↓SP, SQ, Gam.add, stepM, callC, argC, lendO, nmBy, nmC, likeL, likeB, plainOb, offs, exL, X, F, trP, trO, stepD, stepW, newA, SV.tr, SV.trL, fz, allP, Ob.tr, loadA, cellsA, SV.cells, binA, binI, eqOut, isSl, isPt, natOf, callee, snap, SV.refsL, SV.refs, thaw, fzAll, loA, hiA, elemOf, partsA, buildA, putCells, ↓reduceIte, reduceCtorEq, okCell, Nat.reduceAdd, Nat.reduceEqDiff, Nat.reduceSub, Nat.reduceMul, Nat.reduceLeDiff, Nat.reduceLT, Nat.reduceBEq, PV.scal, PV.scalL, SV.scal, SV.scalL, Ob.scal, PV.isCell, pure', resO]
          exact hN ⟨nxW m z, out ++ [true], _, _, _, _, _, _, _⟩ _ _ (by simp only; exact ⟨W.sh, hnxl, hng2, hwn⟩) (by simp only; omega) (by rw [hnx]) (by rw [hnd])
        · simp only [hc, h, hz, hzl, ho, hok, hokb, hw1, hr, y1, hsF, h05, h1000, hlen, ha0, ha1, h_lbest, c_lbest, h_less, c_less, h_bothA, c_bothA, h_lneed, c_lneed, isES_ent, ofES_ent, Int.toNat_natCast, Int.le_refl, Int.toNat_zero, Int.toNat_one, Int.reduceLE, Int.reduceToNat, Nat.zero_mul, Nat.one_mul, aftL_len, bools_len, bools_app1, bools_cell, ints_len, isI_ints, ofI_ints, not_false_eq_true, Bool.false_eq_true, ↓SP, SQ, Gam.add, stepM, callC, argC, lendO, nmBy, nmC, likeL, likeB, plainOb, offs, exL, X, F, trP, trO, stepD, stepW, newA, SV.tr, SV.trL, fz, allP, Ob.tr, loadA, cellsA, SV.cells, binA, binI, eqOut, isSl, isPt, natOf, callee, snap, SV.refsL, SV.refs, thaw, fzAll, loA, hiA, elemOf, partsA, buildA, putCells, ↓reduceIte, reduceCtorEq, okCell, Nat.reduceAdd, Nat.reduceEqDiff, Nat.reduceSub, Nat.reduceMul, Nat.reduceLeDiff, Nat.reduceLT, Nat.reduceBEq, PV.scal, PV.scalL, SV.scal, SV.scalL, Ob.scal, PV.isCell, pure', resO]
          exact hN ⟨nxW m z, out ++ [true], _, _, _, _, _, _, _⟩ _ _ (by simp only; exact ⟨W.sh, hnxl, hng2, hwn⟩) (by simp only; omega) (by rw [hnx]) (by rw [hnd])
    · have hz0 : lnT m z = 0 := by omega
      have hfe : out = wst m x := by rw [← hw, hz0]; simp [wsF]
      simp only [h, ↓SP, SQ, Gam.add, stepM, callC, argC, lendO, nmBy, nmC, likeL, likeB, plainOb, offs, exL, X, F, trP, trO, stepD, stepW, newA, SV.tr, SV.trL, fz, allP, Ob.tr, loadA, cellsA, SV.cells, binA, binI, eqOut, isSl, isPt, natOf, callee, snap, SV.refsL, SV.refs, thaw, fzAll, loA, hiA, elemOf, partsA, buildA, putCells, ↓reduceIte, reduceCtorEq, okCell, Nat.reduceAdd, Nat.reduceEqDiff, Nat.reduceSub, Nat.reduceMul, Nat.reduceLeDiff, Nat.reduceLT, Nat.reduceBEq, PV.scal, PV.scalL, SV.scal, SV.scalL, Ob.scal, PV.isCell, pure', resO]
      refine hR _ _ _ (by intro h; cases h) ?_
      simp only [↓SP, SQ, Gam.add, stepM, callC, argC, lendO, nmBy, nmC, likeL, likeB, plainOb, offs, exL, X, F, trP, trO, stepD, stepW, newA, SV.tr, SV.trL, fz, allP, Ob.tr, loadA, cellsA, SV.cells, binA, binI, eqOut, isSl, isPt, natOf, callee, snap, SV.refsL, SV.refs, thaw, fzAll, loA, hiA, elemOf, partsA, buildA, putCells, ↓reduceIte, reduceCtorEq, okCell, Nat.reduceAdd, Nat.reduceEqDiff, Nat.reduceSub, Nat.reduceMul, Nat.reduceLeDiff, Nat.reduceLT, Nat.reduceBEq, PV.scal, PV.scalL, SV.scal, SV.scalL, Ob.scal, PV.isCell, pure', resO]
      refine finA_gen [13] trivial (by simp [retA, rvA, List.mapM_cons, List.mapM_nil, Option.pure_def, Option.bind_eq_bind, Option.bind_some, Option.map_some, mkE_cons, mk_nil, mkO_cons, mkO_nil, loadA, ↓reduceIte, List.take_succ_cons, List.take_zero, List.drop_zero, List.drop_succ_cons, List.length_cons, List.length_nil, Nat.reduceAdd, Nat.reduceEqDiff, Nat.reduceLeDiff, Nat.zero_add, Nat.le_refl, reduceCtorEq, SV.tr, SV.trL, nmF, rn_nil, rn_cons1, rn_cons2, List.map_cons, List.map_nil, List.all_cons, List.all_nil, plainOb, SV.refsL, SV.refs, Ob.refs, X, F, List.range_succ, List.range_zero, List.nil_append, List.cons_append, List.isEmpty_nil, decide_true, Nat.reduceLT, Bool.and_self, Bool.and_true, and_self, and_true, List.getElem?_cons_zero, List.getElem?_cons_succ, List.nodup_cons, List.nodup_nil, List.mem_cons, List.not_mem_nil, not_false_eq_true, or_false, List.append_nil, mkO, setO_mk, List.mem_singleton]; rfl) ?_ ?_ ?_ ?_ ?_ ?_ ?_ <;> simp [hfe, retA, rvA, List.mapM_cons, List.mapM_nil, Option.pure_def, Option.bind_eq_bind, Option.bind_some, Option.map_some, mkE_cons, mk_nil, mkO_cons, mkO_nil, loadA, ↓reduceIte, List.take_succ_cons, List.take_zero, List.drop_zero, List.drop_succ_cons, List.length_cons, List.length_nil, Nat.reduceAdd, Nat.reduceEqDiff, Nat.reduceLeDiff, Nat.zero_add, Nat.le_refl, reduceCtorEq, SV.tr, SV.trL, nmF, rn_nil, rn_cons1, rn_cons2, List.map_cons, List.map_nil, List.all_cons, List.all_nil, plainOb, SV.refsL, SV.refs, Ob.refs, X, F, List.range_succ, List.range_zero, List.nil_append, List.cons_append, List.isEmpty_nil, decide_true, Nat.reduceLT, Bool.and_self, Bool.and_true, and_self, and_true, List.getElem?_cons_zero, List.getElem?_cons_succ, List.nodup_cons, List.nodup_nil, List.mem_cons, List.not_mem_nil, not_false_eq_true, or_false, List.append_nil, mkO, setO_mk, List.mem_singleton]
def c_s_LessWorst : Con := pure' fun
  | [.p (.agg [.sl 1 x_, .int .i64 m])] => if isI x_ = true ∧ ((ofI x_).length ≤ 1100000) then some (.tp [.ar 2000000, .p (.bool (isSh (ofI x_) m))], [.arr 1 (bools (if isSh (ofI x_) m = true then wst m (ofI x_) else []))]) else none
  | _ => none
set_option maxHeartbeats 2000000 in
theorem s_s_LessWorst {P : Program} (hm : P.follows .mixedOrders = true) {Γ : Gam} (hΓ : GS P Γ) {n : FuncId} {f_l6Short : FuncId} {f_l6Needs : FuncId} {f_l6Done : FuncId} {f_l6Best : FuncId} {f_l6After : FuncId} {f_l6Key : FuncId} (is : Is P n (a_s_LessWorst f_l6Short f_l6Needs f_l6Done f_l6Best f_l6After f_l6Key)) (h_l6Short : Γ f_l6Short = c_isShort) (h_l6Needs : Γ f_l6Needs = c_l6Needs) (h_l6Done : Γ f_l6Done = c_l6Done) (h_l6Best : Γ f_l6Best = c_l6Best) (h_l6After : Γ f_l6After = c_l6After) (h_l6Key : Γ f_l6Key = c_l6Key)  : Says P n c_s_LessWorst := by
  refine Says.pure fun args r fs h => ?_
  split at h
  case h_2 => cases h
  rename_i x_ m
  split at h
  case isFalse => cases h
  rename_i hc
  obtain ⟨hx_, hc⟩ := hc
  obtain ⟨x, rfl⟩ := isI_out hx_
  simp only [ofI_ints, ofBo_bools, ofAs_asks, Option.some.injEq, Prod.mk.injEq] at h hc
  obtain ⟨rfl, rfl⟩ := h
  cases h1 : isSh x m with
  | false =>
    refine is.go hm hΓ k_s_LessWorst o_s_LessWorst (by simp [a_s_LessWorst]) ?_
    simp only [a_s_LessWorst, h_l6Short, c_isShort, h_l6Needs, c_l6Needs, h_l6Done, c_l6Done, h_l6Best, c_l6Best, h_l6After, c_l6After, h_l6Key, c_l6Key, hc, h1, Bool.false_eq_true, List.zipIdx_cons, List.zipIdx_nil, ↓SP, SQ, Gam.add, stepM, callC, argC, lendO, nmBy, nmC, likeL, likeB, plainOb, offs, exL, X, F, trP, trO, stepD, stepW, newA, SV.tr, SV.trL, fz, allP, Ob.tr, loadA, cellsA, SV.cells, binA, binI, eqOut, isSl, isPt, natOf, callee, snap, SV.refsL, SV.refs, thaw, fzAll, loA, hiA, elemOf, partsA, buildA, putCells, ↓reduceIte, reduceCtorEq, okCell, Nat.reduceAdd, Nat.reduceEqDiff, Nat.reduceSub, Nat.reduceMul, Nat.reduceLeDiff, Nat.reduceLT, Nat.reduceBEq, PV.scal, PV.scalL, SV.scal, SV.scalL, Ob.scal, PV.isCell, pure', resO]
    refine finA_gen [9] trivial (by simp [retA, rvA, List.mapM_cons, List.mapM_nil, Option.pure_def, Option.bind_eq_bind, Option.bind_some, Option.map_some, mkE_cons, mk_nil, mkO_cons, mkO_nil, loadA, ↓reduceIte, List.take_succ_cons, List.take_zero, List.drop_zero, List.drop_succ_cons, List.length_cons, List.length_nil, Nat.reduceAdd, Nat.reduceEqDiff, Nat.reduceLeDiff, Nat.zero_add, Nat.le_refl, reduceCtorEq, SV.tr, SV.trL, nmF, rn_nil, rn_cons1, rn_cons2, List.map_cons, List.map_nil, List.all_cons, List.all_nil, plainOb, SV.refsL, SV.refs, Ob.refs, X, F, List.range_succ, List.range_zero, List.nil_append, List.cons_append, List.isEmpty_nil, decide_true, Nat.reduceLT, Bool.and_self, Bool.and_true, and_self, and_true, List.getElem?_cons_zero, List.getElem?_cons_succ, List.nodup_cons, List.nodup_nil, List.mem_cons, List.not_mem_nil, not_false_eq_true, or_false, List.append_nil, mkO, setO_mk, List.mem_singleton]; rfl) ?_ ?_ ?_ ?_ ?_ ?_ ?_ <;> simp [bools, retA, rvA, List.mapM_cons, List.mapM_nil, Option.pure_def, Option.bind_eq_bind, Option.bind_some, Option.map_some, mkE_cons, mk_nil, mkO_cons, mkO_nil, loadA, ↓reduceIte, List.take_succ_cons, List.take_zero, List.drop_zero, List.drop_succ_cons, List.length_cons, List.length_nil, Nat.reduceAdd, Nat.reduceEqDiff, Nat.reduceLeDiff, Nat.zero_add, Nat.le_refl, reduceCtorEq, SV.tr, SV.trL, nmF, rn_nil, rn_cons1, rn_cons2, List.map_cons, List.map_nil, List.all_cons, List.all_nil, plainOb, SV.refsL, SV.refs, Ob.refs, X, F, List.range_succ, List.range_zero, List.nil_append, List.cons_append, List.isEmpty_nil, decide_true, Nat.reduceLT, Bool.and_self, Bool.and_true, and_self, and_true, List.getElem?_cons_zero, List.getElem?_cons_succ, List.nodup_cons, List.nodup_nil, List.mem_cons, List.not_mem_nil, not_false_eq_true, or_false, List.append_nil, mkO, setO_mk, List.mem_singleton]
  | true =>
    have hl0 := (CS.of h1).lt
    have hi := sh_i5 h1
    have hl5 := (sh_out h1).2.1
    refine is.go hm hΓ k_s_LessWorst o_s_LessWorst (by simp [a_s_LessWorst]) ?_
    simp only [a_s_LessWorst, h_l6Short, c_isShort, h_l6Needs, c_l6Needs, h_l6Done, c_l6Done, h_l6Best, c_l6Best, h_l6After, c_l6After, h_l6Key, c_l6Key, hc, h1, hi, Int.toNat_natCast, ints_len, isI_ints, ofI_ints, List.zipIdx_cons, List.zipIdx_nil, ↓SP, SQ, Gam.add, stepM, callC, argC, lendO, nmBy, nmC, likeL, likeB, plainOb, offs, exL, X, F, trP, trO, stepD, stepW, newA, SV.tr, SV.trL, fz, allP, Ob.tr, loadA, cellsA, SV.cells, binA, binI, eqOut, isSl, isPt, natOf, callee, snap, SV.refsL, SV.refs, thaw, fzAll, loA, hiA, elemOf, partsA, buildA, putCells, ↓reduceIte, reduceCtorEq, okCell, Nat.reduceAdd, Nat.reduceEqDiff, Nat.reduceSub, Nat.reduceMul, Nat.reduceLeDiff, Nat.reduceLT, Nat.reduceBEq, PV.scal, PV.scalL, SV.scal, SV.scalL, Ob.scal, PV.isCell, pure', resO]
    refine loop_at (fun s : W6 => mkEnv [(0, .p (.agg [.sl 1 (ints x), .int .i64 m])), (1, .bx 1 0), (2, .p .nilsl), (3, sb false), (4, .ar 9), (5, .p (.sl 1 (ints (tblL m x.length)))), (6, s.a), (7, s.b), (8, s.c), (12, sb false), (22, s.d)]) (fun s => mkO [(1, some (.box [.p (.sl 1 (ints s.x)), si m])), (7, s.o), (9, some (.arr 1 (bools s.out))), (43, s.p), (44, none)]) (fun s => isSh s.x m = true ∧ s.x.length = x.length ∧ s.out ++ wsF m (lnT m s.x).toNat s.x = wst m x) (fun s => (lnT m s.x).toNat) ⟨x, [], [], .junk, .junk, .junk, .junk, none, none⟩ ⟨h1, rfl, rfl⟩ rfl rfl ?_
    rintro ⟨z, out, E, c1, c2, c3, c4, o1, o2⟩ ⟨hz, hzl, hw⟩ R hR hN
    simp only at hz hzl hw
    have C := CS.of hz
    have hlz := C.lt
    have hol : out.length + (lnT m z).toNat = (lnT m x).toNat := by
      have := congrArg List.length hw
      simpa [wsF_len, wst] using this
    have hlen := sh_len hz
    by_cases ho : (opens z).length < 2
    · have ho2 : ((opens z).length : Int) < 2 := by omega
      have hz0 := C.zero ho
      have hfe : out = wst m x := by rw [← hw, hz0]; simp [wsF]
      simp only [ho2, hlen, h_l6Done, c_l6Done, isI_ints, ofI_ints, ints_len, ↓SP, SQ, Gam.add, stepM, callC, argC, lendO, nmBy, nmC, likeL, likeB, plainOb, offs, exL, X, F, trP, trO, stepD, stepW, newA, SV.tr, SV.trL, fz, allP, Ob.tr, loadA, cellsA, SV.cells, binA, binI, eqOut, isSl, isPt, natOf, callee, snap, SV.refsL, SV.refs, thaw, fzAll, loA, hiA, elemOf, partsA, buildA, putCells, ↓reduceIte, reduceCtorEq, okCell, Nat.reduceAdd, Nat.reduceEqDiff, Nat.reduceSub, Nat.reduceMul, Nat.reduceLeDiff, Nat.reduceLT, Nat.reduceBEq, PV.scal, PV.scalL, SV.scal, SV.scalL, Ob.scal, PV.isCell, pure', resO]
      refine hR _ _ _ (by intro h; cases h) ?_
      simp only [↓SP, SQ, Gam.add, stepM, callC, argC, lendO, nmBy, nmC, likeL, likeB, plainOb, offs, exL, X, F, trP, trO, stepD, stepW, newA, SV.tr, SV.trL, fz, allP, Ob.tr, loadA, cellsA, SV.cells, binA, binI, eqOut, isSl, isPt, natOf, callee, snap, SV.refsL, SV.refs, thaw, fzAll, loA, hiA, elemOf, partsA, buildA, putCells, ↓reduceIte, reduceCtorEq, okCell, Nat.reduceAdd, Nat.reduceEqDiff, Nat.reduceSub, Nat.reduceMul, Nat.reduceLeDiff, Nat.reduceLT, Nat.reduceBEq, PV.scal, PV.scalL, SV.scal, SV.scalL, Ob.scal, PV.isCell, pure', resO]
      refine finA_gen [9] trivial (by simp [retA, rvA, List.mapM_cons, List.mapM_nil, Option.pure_def, Option.bind_eq_bind, Option.bind_some, Option.map_some, mkE_cons, mk_nil, mkO_cons, mkO_nil, loadA, ↓reduceIte, List.take_succ_cons, List.take_zero, List.drop_zero, List.drop_succ_cons, List.length_cons, List.length_nil, Nat.reduceAdd, Nat.reduceEqDiff, Nat.reduceLeDiff, Nat.zero_add, Nat.le_refl, reduceCtorEq, SV.tr, SV.trL, nmF, rn_nil, rn_cons1, rn_cons2, List.map_cons, List.map_nil, List.all_cons, List.all_nil, plainOb, SV.refsL, SV.refs, Ob.refs, X, F, List.range_succ, List.range_zero, List.nil_append, List.cons_append, List.isEmpty_nil, decide_true, Nat.reduceLT, Bool.and_self, Bool.and_true, and_self, and_true, List.getElem?_cons_zero, List.getElem?_cons_succ, List.nodup_cons, List.nodup_nil, List.mem_cons, List.not_mem_nil, not_false_eq_true, or_false, List.append_nil, mkO, setO_mk, List.mem_singleton]; rfl) ?_ ?_ ?_ ?_ ?_ ?_ ?_ <;> simp [hfe, retA, rvA, List.mapM_cons, List.mapM_nil, Option.pure_def, Option.bind_eq_bind, Option.bind_some, Option.map_some, mkE_cons, mk_nil, mkO_cons, mkO_nil, loadA, ↓reduceIte, List.take_succ_cons, List.take_zero, List.drop_zero, List.drop_succ_cons, List.length_cons, List.length_nil, Nat.reduceAdd, Nat.reduceEqDiff, Nat.reduceLeDiff, Nat.zero_add, Nat.le_refl, reduceCtorEq, SV.tr, SV.trL, nmF, rn_nil, rn_cons1, rn_cons2, List.map_cons, List.map_nil, List.all_cons, List.all_nil, plainOb, SV.refsL, SV.refs, Ob.refs, X, F, List.range_succ, List.range_zero, List.nil_append, List.cons_append, List.isEmpty_nil, decide_true, Nat.reduceLT, Bool.and_self, Bool.and_true, and_self, and_true, List.getElem?_cons_zero, List.getElem?_cons_succ, List.nodup_cons, List.nodup_nil, List.mem_cons, List.not_mem_nil, not_false_eq_true, or_false, List.append_nil, mkO, setO_mk, List.mem_singleton]
    · have ho2 : ¬ ((opens z).length : Int) < 2 := by omega
      have W := WkS.of hz ho
      have hp := C.pos ho
      have h05 : (0 : Int) ≤ (kbT m z : Int) ∧ (kbT m z : Int) ≤ 5 := by have := W.bk; omega
      have hsF := W.sF
      have hlF := (CS.of hsF).lt
      obtain ⟨p0, p1, p2⟩ := tbl_at hz
      obtain ⟨q0, q1, q2⟩ := tbl_at hsF
      rw [aftL_len, hzl] at q1 q2
      rw [hzl] at p1 p2
      have hw1 : IntKind.i64.wrap (lnT m (aftL m (kbT m z) false z) + 1) = lnT m (aftL m (kbT m z) false z) + 1 := wrap64 (by omega) (by omega)
      have hr : out.length + 1 ≤ roomA := by unfold roomA; omega
      have y2 := W.y2
      have hnx := W.nx
      have hnxl : (nxW m z).length = x.length := by rw [nxW, aftL_len, hzl]
      have hnd : aftL m (kbT m z) (yW m z) z = nxW m z := rfl
      have hwn : (out ++ [yW m z]) ++ wsF m (lnT m (nxW m z)).toNat (nxW m z) = wst m x := by
        rw [← hw, W.up]; simp
      rcases o1 with _ | o1
      · simp only [hc, ho, ho2, hz, hzl, hlen, p0, p1, p2, q0, q1, q2, hw1, hr, y2, hsF, hnd, h05, h_l6Done, c_l6Done, h_l6Best, c_l6Best, h_l6After, c_l6After, h_l6Key, c_l6Key, Int.toNat_natCast, bools_len, bools_app1, bools_cell, ints_len, isI_ints, ofI_ints, not_false_eq_true, ↓SP, SQ, Gam.add, stepM, callC, argC, lendO, nmBy, nmC, likeL, likeB, plainOb, offs, exL, X, F, trP, trO, stepD, stepW, newA, SV.tr, SV.trL, fz, allP, Ob.tr, loadA, cellsA, SV.cells, binA, binI, eqOut, isSl, isPt, natOf, callee, snap, SV.refsL, SV.refs, thaw, fzAll, loA, hiA, elemOf, partsA, buildA, putCells, ↓reduceIte, reduceCtorEq, okCell, Nat.reduceAdd, Nat.reduceEqDiff, Nat.reduceSub, Nat.reduceMul, Nat.reduceLeDiff, Nat.reduceLT, Nat.reduceBEq, PV.scal, PV.scalL, SV.scal, SV.scalL, Ob.scal, PV.isCell, pure', resO]
        exact hN ⟨nxW m z, out ++ [yW m z], [], _, _, _, _, _, _⟩ _ _ (by simp only; exact ⟨W.sh, hnxl, hwn⟩) (by simp only; omega) rfl rfl
      · simp only [hc, ho, ho2, hz, hzl, hlen, p0, p1, p2, q0, q1, q2, hw1, hr, y2, hsF, hnd, h05, h_l6Done, c_l6Done, h_l6Best, c_l6Best, h_l6After, c_l6After, h_l6Key, c_l6Key, Int.toNat_natCast, bools_len, bools_app1, bools_cell, ints_len, isI_ints, ofI_ints, not_false_eq_true, ↓SP, SQ, Gam.add, stepM, callC, argC, lendO, nmBy, nmC, likeL, likeB, plainOb, offs, exL, X, F, trP, trO, stepD, stepW, newA, SV.tr, SV.trL, fz, allP, Ob.tr, loadA, cellsA, SV.cells, binA, binI, eqOut, isSl, isPt, natOf, callee, snap, SV.refsL, SV.refs, thaw, fzAll, loA, hiA, elemOf, partsA, buildA, putCells, ↓reduceIte, reduceCtorEq, okCell, Nat.reduceAdd, Nat.reduceEqDiff, Nat.reduceSub, Nat.reduceMul, Nat.reduceLeDiff, Nat.reduceLT, Nat.reduceBEq, PV.scal, PV.scalL, SV.scal, SV.scalL, Ob.scal, PV.isCell, pure', resO]
        exact hN ⟨nxW m z, out ++ [yW m z], [], _, _, _, _, _, _⟩ _ _ (by simp only; exact ⟨W.sh, hnxl, hwn⟩) (by simp only; omega) rfl rfl
theorem wst_len {m : Int} {x : List Int} (h : isSh x m = true) : (wst m x).length ≤ 100 := by
  rw [wst, wsF_len]; have := (CS.of h).lt; omega
def a_x_LessWorst (f_szState : FuncId) (f_toState : FuncId) (f_s_LessWorst : FuncId) (f_LessWorst : FuncId) (f_eqBoolS : FuncId) (f_eqState : FuncId) (f_markState : FuncId) (f_markBoolS : FuncId) (f_heldBoolS : FuncId) : AFn := ⟨1, 
  .seq (.reg [⟨some 1, none, .w (.box 2 (.t 0))⟩,
    ⟨some 2, none, .d (.mv (.c (.bool false)))⟩])
  (.seq (.reg [⟨some 3, none, .d (.mv (.c (.int .i64 1048576)))⟩])
  (.seq (.reg [⟨some 14, none, .d (.load true 2 (.t 1))⟩,
    ⟨some 15, none, .d (.mv (.t 3))⟩,
    ⟨some 16, none, .d (.call (.f f_szState) [(.t 14), (.t 15)])⟩,
    ⟨some 3, none, .d (.mv (.t 16))⟩])
  (.seq (.seq (.reg [⟨some 17, none, .d (.mv (.t 3))⟩,
    ⟨some 18, none, .d (.bin .arith .lss (.t 17) (.c (.int .i64 0)))⟩])
  (.cond (.t 18) (.seq (.reg [⟨some 2, none, .d (.mv (.c (.bool true)))⟩])
   (.ret)) (.skip)))
  (.seq (.reg [⟨some 20, none, .d (.load true 2 (.t 1))⟩,
    ⟨some 21, none, .d (.call (.f f_toState) [(.t 20)])⟩,
    ⟨some 22, none, .d (.call (.f f_s_LessWorst) [(.t 21)])⟩,
    ⟨some 19, none, .d (.mv (.t 22))⟩,
    ⟨some 23, none, .d (.extract (.t 19) 0)⟩,
    ⟨some 24, none, .d (.extract (.t 19) 1)⟩,
    ⟨some 4, none, .d (.mv (.t 23))⟩,
    ⟨some 5, none, .d (.mv (.t 24))⟩])
  (.seq (.reg [⟨some 25, none, .d (.load true 2 (.t 1))⟩,
    ⟨some 26, none, .w (.callL (.f f_toState) [(.t 25)] [] 1 false)⟩,
    ⟨some 6, none, .w (.alloc [.nilsl, .int .i64 0])⟩,
    ⟨none, none, .w (.store 2 (.t 6) (.t 26))⟩])
  (.seq (.reg [⟨some 28, none, .d (.load true 2 (.t 6))⟩,
    ⟨some 29, none, .w (.callL (.f f_LessWorst) [(.t 28)] [] 1 false)⟩,
    ⟨some 27, none, .d (.mv (.t 29))⟩,
    ⟨some 30, none, .d (.extract (.t 27) 0)⟩,
    ⟨some 31, none, .d (.extract (.t 27) 1)⟩,
    ⟨some 7, none, .d (.mv (.t 30))⟩,
    ⟨some 8, none, .d (.mv (.t 31))⟩])
  (.seq (.seq (.reg [⟨some 32, none, .d (.mv (.t 7))⟩,
    ⟨some 33, none, .d (.mv (.t 4))⟩,
    ⟨some 34, none, .d (.call (.f f_eqBoolS) [(.t 32), (.t 33)])⟩,
    ⟨some 35, none, .d (.not (.t 34))⟩,
    ⟨some 36, none, .d (.mv (.t 35))⟩,
    ⟨some 37, some (36, false), .d (.mv (.t 8))⟩,
    ⟨some 38, some (36, false), .d (.mv (.t 5))⟩,
    ⟨some 39, some (36, false), .d (.bin .bool .neq (.t 37) (.t 38))⟩,
    ⟨some 40, none, .d (.pick (.t 36) (.c (.bool true)) (.t 39))⟩])
  (.cond (.t 40) (.seq (.reg [⟨some 2, none, .d (.mv (.c (.bool false)))⟩])
   (.ret)) (.skip)))
  (.seq (.seq (.dreg [] [([], ⟨some 41, none, .d (.load true 2 (.t 6))⟩),
    ([], ⟨some 42, none, .d (.load true 2 (.t 1))⟩),
    ([], ⟨some 43, none, .d (.call (.f f_toState) [(.t 42)])⟩)] [⟨some 44, none, .d (.call (.f f_eqState) [(.t 41), (.t 43)])⟩,
    ⟨some 45, none, .d (.not (.t 44))⟩])
  (.cond (.t 45) (.seq (.reg [⟨some 2, none, .d (.mv (.c (.bool false)))⟩])
   (.ret)) (.skip)))
  (.seq (.reg [⟨some 9, none, .d (.mv (.c (.int .i64 1)))⟩])
  (.seq (.reg [⟨some 46, none, .d (.load true 2 (.t 6))⟩,
    ⟨some 47, none, .d (.mv (.t 9))⟩,
    ⟨some 48, none, .w (.callL (.f f_markState) [(.t 46), (.t 47)] [26] 0 false)⟩,
    ⟨some 9, none, .d (.mv (.t 48))⟩])
  (.seq (.seq (.reg [⟨some 49, none, .d (.mv (.t 9))⟩,
    ⟨some 50, none, .d (.bin .arith .lss (.t 49) (.c (.int .i64 0)))⟩,
    ⟨some 51, none, .d (.mv (.t 50))⟩,
    ⟨some 52, some (51, false), .d (.mv (.t 7))⟩,
    ⟨some 53, some (51, false), .d (.mv (.t 4))⟩,
    ⟨some 54, some (51, false), .d (.call (.f f_eqBoolS) [(.t 52), (.t 53)])⟩,
    ⟨some 55, some (51, false), .d (.not (.t 54))⟩,
    ⟨some 56, none, .d (.pick (.t 51) (.c (.bool true)) (.t 55))⟩,
    ⟨some 57, none, .d (.mv (.t 56))⟩,
    ⟨some 58, some (57, false), .d (.mv (.t 8))⟩,
    ⟨some 59, some (57, false), .d (.mv (.t 5))⟩,
    ⟨some 60, some (57, false), .d (.bin .bool .neq (.t 58) (.t 59))⟩,
    ⟨some 61, none, .d (.pick (.t 57) (.c (.bool true)) (.t 60))⟩])
  (.cond (.t 61) (.seq (.reg [⟨some 2, none, .d (.mv (.c (.bool false)))⟩])
   (.ret)) (.skip)))
  (.seq (.reg [⟨some 10, none, .d (.mv (.c (.int .i64 1)))⟩])
  (.seq (.reg [⟨some 62, none, .d (.mv (.t 7))⟩,
    ⟨some 63, none, .d (.mv (.t 10))⟩,
    ⟨some 64, none, .w (.callL (.f f_markBoolS) [(.t 62), (.t 63)] [29] 0 false)⟩,
    ⟨some 10, none, .d (.mv (.t 64))⟩])
  (.seq (.reg [⟨some 11, none, .d (.mv (.c (.int .i64 1)))⟩])
  (.seq (.reg [⟨some 65, none, .d (.mv (.t 7))⟩,
    ⟨some 66, none, .d (.mv (.t 11))⟩,
    ⟨some 67, none, .d (.call (.f f_heldBoolS) [(.t 65), (.t 66)])⟩,
    ⟨some 11, none, .d (.mv (.t 67))⟩])
  (.seq (.seq (.reg [⟨some 68, none, .d (.mv (.t 11))⟩,
    ⟨some 69, none, .d (.bin .arith .lss (.t 68) (.c (.int .i64 0)))⟩])
  (.cond (.t 69) (.seq (.reg [⟨some 2, none, .d (.mv (.c (.bool false)))⟩])
   (.ret)) (.skip)))
  (.seq (.seq (.reg [⟨some 70, none, .d (.mv (.t 11))⟩,
    ⟨some 71, none, .d (.mv (.t 10))⟩,
    ⟨some 72, none, .d (.bin .arith .neq (.t 70) (.t 71))⟩])
  (.cond (.t 72) (.seq (.reg [⟨some 2, none, .d (.mv (.c (.bool false)))⟩])
   (.ret)) (.skip)))
  (.seq (.reg [⟨some 74, none, .d (.load true 2 (.t 1))⟩,
    ⟨some 75, none, .d (.call (.f f_toState) [(.t 74)])⟩,
    ⟨some 76, none, .d (.call (.f f_LessWorst) [(.t 75)])⟩,
    ⟨some 73, none, .d (.mv (.t 76))⟩,
    ⟨some 77, none, .d (.extract (.t 73) 0)⟩,
    ⟨some 78, none, .d (.extract (.t 73) 1)⟩,
    ⟨some 12, none, .d (.mv (.t 77))⟩,
    ⟨some 13, none, .d (.mv (.t 78))⟩])
  (.seq (.seq (.reg [⟨some 79, none, .d (.mv (.t 12))⟩,
    ⟨some 80, none, .d (.mv (.t 4))⟩,
    ⟨some 81, none, .d (.call (.f f_eqBoolS) [(.t 79), (.t 80)])⟩,
    ⟨some 82, none, .d (.not (.t 81))⟩,
    ⟨some 83, none, .d (.mv (.t 82))⟩,
    ⟨some 84, some (83, false), .d (.mv (.t 13))⟩,
    ⟨some 85, some (83, false), .d (.mv (.t 5))⟩,
    ⟨some 86, some (83, false), .d (.bin .bool .neq (.t 84) (.t 85))⟩,
    ⟨some 87, none, .d (.pick (.t 83) (.c (.bool true)) (.t 86))⟩])
  (.cond (.t 87) (.seq (.reg [⟨some 2, none, .d (.mv (.c (.bool false)))⟩])
   (.ret)) (.skip)))
  (.seq (.reg [⟨some 11, none, .d (.mv (.c (.int .i64 1)))⟩])
  (.seq (.reg [⟨some 88, none, .d (.mv (.t 7))⟩,
    ⟨some 89, none, .d (.mv (.t 11))⟩,
    ⟨some 90, none, .d (.call (.f f_heldBoolS) [(.t 88), (.t 89)])⟩,
    ⟨some 11, none, .d (.mv (.t 90))⟩])
  (.seq (.seq (.reg [⟨some 91, none, .d (.mv (.t 11))⟩,
    ⟨some 92, none, .d (.bin .arith .lss (.t 91) (.c (.int .i64 0)))⟩])
  (.cond (.t 92) (.seq (.reg [⟨some 2, none, .d (.mv (.c (.bool false)))⟩])
   (.ret)) (.skip)))
  (.seq (.seq (.reg [⟨some 93, none, .d (.mv (.t 11))⟩,
    ⟨some 94, none, .d (.mv (.t 10))⟩,
    ⟨some 95, none, .d (.bin .arith .neq (.t 93) (.t 94))⟩])
  (.cond (.t 95) (.seq (.reg [⟨some 2, none, .d (.mv (.c (.bool false)))⟩])
   (.ret)) (.skip)))
  (.seq (.reg [⟨some 2, none, .d (.mv (.c (.bool true)))⟩])
  (.ret))))))))))))))))))))))))), [.tmp 2]⟩
def n_x_LessWorst : Nat → Option Ann := fun d => if d = 26 then some ⟨[], 1, false⟩ else if d = 29 then some ⟨[], 1, false⟩ else if d = 48 then some ⟨[26], 0, false⟩ else if d = 64 then some ⟨[29], 0, false⟩ else none
abbrev k_x_LessWorst : List Nat := [0, 1, 2, 3, 4, 5, 6, 7, 8, 9, 10, 11, 12, 13, 18, 40, 45, 61, 69, 72, 87, 92, 95]
abbrev o_x_LessWorst : List Nat := [1, 6, 26, 29]
def c_x_LessWorst : Con := pure' fun
  | [.p (.agg [v, .int .i64 m])] => match slI v with
    | some x => if x.length ≤ 9223372036854775807 then some (.p (.bool true), []) else none
    | none => none
  | _ => none
set_option maxRecDepth 100000 in
theorem s_x_LessWorst {P : Program} (hm : P.follows .mixedOrders = true) {Γ : Gam} (hΓ : GS P Γ) {n : FuncId} {f_szState : FuncId} {f_toState : FuncId} {f_s_LessWorst : FuncId} {f_LessWorst : FuncId} {f_eqBoolS : FuncId} {f_eqState : FuncId} {f_markState : FuncId} {f_markBoolS : FuncId} {f_heldBoolS : FuncId} (is : Is P n (a_x_LessWorst f_szState f_toState f_s_LessWorst f_LessWorst f_eqBoolS f_eqState f_markState f_markBoolS f_heldBoolS)) (h_szState : Γ f_szState = c_szState) (h_toState : Γ f_toState = c_toState) (h_s_LessWorst : Γ f_s_LessWorst = c_s_LessWorst) (h_LessWorst : Γ f_LessWorst = c_LessWorst) (h_eqBoolS : Γ f_eqBoolS = c_eqBoolS) (h_eqState : Γ f_eqState = c_eqState) (h_markState : Γ f_markState = c_markState) (h_markBoolS : Γ f_markBoolS = c_markBoolS) (h_heldBoolS : Γ f_heldBoolS = c_heldBoolS)  : Says P n c_x_LessWorst := by
  refine Says.pure fun args r fs h => ?_
  split at h
  case h_2 => cases h
  rename_i v m
  split at h
  case h_2 => cases h
  rename_i x hx
  split at h
  case isFalse => cases h
  rename_i hc
  simp only [Option.some.injEq, Prod.mk.injEq] at h
  obtain ⟨rfl, rfl⟩ := h
  have hlp := slI_lenP hx
  by_cases hk : (1048576 : Int) - (x.length : Int) < 0
  · refine is.go hm hΓ k_x_LessWorst o_x_LessWorst (by simp [a_x_LessWorst]) ?_
    simp only [a_x_LessWorst, h_szState, c_szState, h_toState, c_toState, h_s_LessWorst, c_s_LessWorst, h_LessWorst, c_LessWorst, h_eqBoolS, c_eqBoolS, h_eqState, c_eqState, h_markState, c_markState, h_markBoolS, c_markBoolS, h_heldBoolS, c_heldBoolS, hlp, hc, hk, Int.reduceLE, Int.reduceNeg, Int.reduceLT, List.zipIdx_cons, List.zipIdx_nil, ↓SP, SQ, Gam.add, stepM, callC, argC, lendO, nmBy, nmC, likeL, likeB, plainOb, offs, exL, X, F, trP, trO, stepD, stepW, newA, SV.tr, SV.trL, fz, allP, Ob.tr, loadA, cellsA, SV.cells, binA, binI, eqOut, isSl, isPt, natOf, callee, snap, SV.refsL, SV.refs, thaw, fzAll, loA, hiA, elemOf, partsA, buildA, putCells, ↓reduceIte, reduceCtorEq, okCell, Nat.reduceAdd, Nat.reduceEqDiff, Nat.reduceSub, Nat.reduceMul, Nat.reduceLeDiff, Nat.reduceLT, Nat.reduceBEq, PV.scal, PV.scalL, SV.scal, SV.scalL, Ob.scal, PV.isCell, pure', resO]
    exact finA_val (by simp [retA, rvA, List.mapM_cons, List.mapM_nil, Option.pure_def, Option.bind_eq_bind, Option.bind_some, Option.map_some, mkE_cons, mk_nil, mkO_cons, mkO_nil, loadA, ↓reduceIte, List.take_succ_cons, List.take_zero, List.drop_zero, List.drop_succ_cons, List.length_cons, List.length_nil, Nat.reduceAdd, Nat.reduceEqDiff, Nat.reduceLeDiff, Nat.zero_add, Nat.le_refl, reduceCtorEq, SV.tr, SV.trL, nmF, rn_nil, rn_cons1, rn_cons2, List.map_cons, List.map_nil, List.all_cons, List.all_nil, plainOb, SV.refsL, SV.refs, Ob.refs, X, F, List.range_succ, List.range_zero, List.nil_append, List.cons_append, List.isEmpty_nil, decide_true, Nat.reduceLT, Bool.and_self, Bool.and_true, and_self, and_true, List.getElem?_cons_zero, List.getElem?_cons_succ, List.nodup_cons, List.nodup_nil, List.mem_cons, List.not_mem_nil, not_false_eq_true, or_false, List.append_nil, mkO, setO_mk, List.mem_singleton]) (by simp [SV.tr, SV.trL])
  · have hlen : x.length ≤ 1048576 := by omega
    have hlen2 : x.length ≤ 1100000 := by omega
    have hml := marks_len 1 x.length
    have q2 : ¬ (1 : Int) + x.length < 0 := by omega
    have hnb : heldB [] 1 := fun j hj => by simp at hj
    cases hg2 : isSh x m with
    | true =>
      generalize hgy : wst m x = y at *
      have al : y.length ≤ 100 := by rw [← hgy]; exact wst_len hg2
      have al2 : y.length ≤ 1100000 := by omega
      have hmb := marksB_len 1 y.length
      have hhb := heldB_marks 1 y.length
      have q3 : ¬ (1 : Int) + y.length < 0 := by omega
      refine is.go hm hΓ k_x_LessWorst o_x_LessWorst (by simp [a_x_LessWorst]) ?_
      simp only [a_x_LessWorst, h_szState, c_szState, h_toState, c_toState, h_s_LessWorst, c_s_LessWorst, h_LessWorst, c_LessWorst, h_eqBoolS, c_eqBoolS, h_eqState, c_eqState, h_markState, c_markState, h_markBoolS, c_markBoolS, h_heldBoolS, c_heldBoolS, hx, hlp, hc, hk, hlen, hlen2, hgy, hg2, hml, q2, q3, al2, hmb, hhb, ints_len, bools_len, slI_sl, slB_sl, beq_self_eq_true, Bool.not_true, Int.reduceLE, Int.reduceNeg, Int.reduceLT, bne_self_eq_false, List.zipIdx_cons, List.zipIdx_nil, ↓SP, SQ, Gam.add, stepM, callC, argC, lendO, nmBy, nmC, likeL, likeB, plainOb, offs, exL, X, F, trP, trO, stepD, stepW, newA, SV.tr, SV.trL, fz, allP, Ob.tr, loadA, cellsA, SV.cells, binA, binI, eqOut, isSl, isPt, natOf, callee, snap, SV.refsL, SV.refs, thaw, fzAll, loA, hiA, elemOf, partsA, buildA, putCells, ↓reduceIte, reduceCtorEq, okCell, Nat.reduceAdd, Nat.reduceEqDiff, Nat.reduceSub, Nat.reduceMul, Nat.reduceLeDiff, Nat.reduceLT, Nat.reduceBEq, PV.scal, PV.scalL, SV.scal, SV.scalL, Ob.scal, PV.isCell, pure', resO]
      exact finA_val (by simp [retA, rvA, List.mapM_cons, List.mapM_nil, Option.pure_def, Option.bind_eq_bind, Option.bind_some, Option.map_some, mkE_cons, mk_nil, mkO_cons, mkO_nil, loadA, ↓reduceIte, List.take_succ_cons, List.take_zero, List.drop_zero, List.drop_succ_cons, List.length_cons, List.length_nil, Nat.reduceAdd, Nat.reduceEqDiff, Nat.reduceLeDiff, Nat.zero_add, Nat.le_refl, reduceCtorEq, SV.tr, SV.trL, nmF, rn_nil, rn_cons1, rn_cons2, List.map_cons, List.map_nil, List.all_cons, List.all_nil, plainOb, SV.refsL, SV.refs, Ob.refs, X, F, List.range_succ, List.range_zero, List.nil_append, List.cons_append, List.isEmpty_nil, decide_true, Nat.reduceLT, Bool.and_self, Bool.and_true, and_self, and_true, List.getElem?_cons_zero, List.getElem?_cons_succ, List.nodup_cons, List.nodup_nil, List.mem_cons, List.not_mem_nil, not_false_eq_true, or_false, List.append_nil, mkO, setO_mk, List.mem_singleton]) (by simp [SV.tr, SV.trL])
    | false =>
      refine is.go hm hΓ k_x_LessWorst o_x_LessWorst (by simp [a_x_LessWorst]) ?_
      simp only [a_x_LessWorst, h_szState, c_szState, h_toState, c_toState, h_s_LessWorst, c_s_LessWorst, h_LessWorst, c_LessWorst, h_eqBoolS, c_eqBoolS, h_eqState, c_eqState, h_markState, c_markState, h_markBoolS, c_markBoolS, h_heldBoolS, c_heldBoolS, hx, hlp, hc, hk, hlen, hlen2, hg2, hml, q2, hnb, ints_len, bools_len, slI_sl, slB_sl, slB_nil, Bool.false_eq_true, beq_self_eq_true, Bool.not_true, Int.reduceLE, Int.reduceNeg, Int.reduceLT, bne_self_eq_false, List.zipIdx_cons, List.zipIdx_nil, ↓SP, SQ, Gam.add, stepM, callC, argC, lendO, nmBy, nmC, likeL, likeB, plainOb, offs, exL, X, F, trP, trO, stepD, stepW, newA, SV.tr, SV.trL, fz, allP, Ob.tr, loadA, cellsA, SV.cells, binA, binI, eqOut, isSl, isPt, natOf, callee, snap, SV.refsL, SV.refs, thaw, fzAll, loA, hiA, elemOf, partsA, buildA, putCells, ↓reduceIte, reduceCtorEq, okCell, Nat.reduceAdd, Nat.reduceEqDiff, Nat.reduceSub, Nat.reduceMul, Nat.reduceLeDiff, Nat.reduceLT, Nat.reduceBEq, PV.scal, PV.scalL, SV.scal, SV.scalL, Ob.scal, PV.isCell, pure', resO]
      exact finA_val (by simp [retA, rvA, List.mapM_cons, List.mapM_nil, Option.pure_def, Option.bind_eq_bind, Option.bind_some, Option.map_some, mkE_cons, mk_nil, mkO_cons, mkO_nil, loadA, ↓reduceIte, List.take_succ_cons, List.take_zero, List.drop_zero, List.drop_succ_cons, List.length_cons, List.length_nil, Nat.reduceAdd, Nat.reduceEqDiff, Nat.reduceLeDiff, Nat.zero_add, Nat.le_refl, reduceCtorEq, SV.tr, SV.trL, nmF, rn_nil, rn_cons1, rn_cons2, List.map_cons, List.map_nil, List.all_cons, List.all_nil, plainOb, SV.refsL, SV.refs, Ob.refs, X, F, List.range_succ, List.range_zero, List.nil_append, List.cons_append, List.isEmpty_nil, decide_true, Nat.reduceLT, Bool.and_self, Bool.and_true, and_self, and_true, List.getElem?_cons_zero, List.getElem?_cons_succ, List.nodup_cons, List.nodup_nil, List.mem_cons, List.not_mem_nil, not_false_eq_true, or_false, List.append_nil, mkO, setO_mk, List.mem_singleton]) (by simp [SV.tr, SV.trL])
end Go.Proofs.Ytgnclbdhpdjafaa.Pam
