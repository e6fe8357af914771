/- Texts that the proof needs, put together: G127 Ee Eg Pt Pv Px G43 G46 G51 Qa Ea Eb Ec Va. -/
import Derived.Test.YtcljhpldfanhkaaBJb2
import Derived.Test.YtcljhpldfanhkaaBJb3
import Derived.Test.YtcljhpldfanhkaaBJb4
import Derived.Test.YtcljhpldfanhkaaBJb5
set_option linter.unusedVariables false
set_option linter.unusedSimpArgs false
namespace Go.Proofs.Ytcljhpldfanhkaa
open Go.RowKit
def S_l10Any (N : Nat) (c_0 : Cur) : Option (Frm × Int × Int) :=
 (S_l10Framework N c_0).bind fun v1 =>
 (S_l1Below N (⟨c_0.b, v1.2.1, v1.2.2⟩ : Cur) (14 : Int)).bind fun v2 =>
 cnd (v2.1 == (0 : Int)) (
  (S_l1PickInt N (⟨c_0.b, v2.2.1, v2.2.2⟩ : Cur) ([(-1 : Int), (5 : Int), (9 : Int)] : List Int)).bind fun v3 =>
  grd (0 ≤ (0 : Int) ∧ (0 : Int) < (v1.1.places.length : Int)) <|
  grd (v1.1.places.length = (v1.1.places.set ((0 : Int).toNat) (v3.1, (v1.1.places.getD ((0 : Int).toNat) (0, 0)).2)).length) <|
  some ((⟨⟨v1.1.g.n, v1.1.g.bars⟩, (v1.1.places.set ((0 : Int).toNat) (v3.1, (v1.1.places.getD ((0 : Int).toNat) (0, 0)).2))⟩ : Frm), v3.2.2.1, v3.2.2.2)) (
  cnd (v2.1 == (1 : Int)) (
   grd (0 ≤ (1 : Int) ∧ (1 : Int) ≤ (v1.1.places.length : Int)) <|
   some ((⟨⟨v1.1.g.n, v1.1.g.bars⟩, ((v1.1.places.take v1.1.places.length).drop ((1 : Int).toNat))⟩ : Frm), v2.2.1, v2.2.2)) (
   some ((⟨⟨v1.1.g.n, v1.1.g.bars⟩, v1.1.places⟩ : Frm), v2.2.1, v2.2.2)))
set_option maxRecDepth 20000 in
set_option maxHeartbeats 1600000 in
theorem S_l10Any_w (N : Nat) (c_0 : Cur) (r : Frm × Int × Int) (h : S_l10Any N c_0 = some r) : MCall Try.prog 131 [.ptr 1000000 0] [900101] [1000000] [(111, .pairs [])] [(111, .pairs r.1.g.bars)] [[.ro false (.bytes c_0.b), .int c_0.i, .int c_0.h]] [[.ro false (.bytes c_0.b), .int r.2.1, .int r.2.2]] (.agg [.int r.1.g.n, .row 900101 0 r.1.g.bars.length, .ro true (.pairs r.1.places)]) := by
 unfold S_l10Any at h
 refine mcall_intro (TT := TT) tt Try.func131 rfl rfl Try.ntmps131 (congrArg Array.toList Try.results131) rfl rfl rfl rfl rfl fun w0 O0 => ?_
 refine vSeq ?_
 refine vRegion ?_
 refine oAlloc tt rfl rfl rfl rfl rfl rfl rfl rfl rfl ?_
 refine vNil ?_
 change VC _ _ _ _
 refine vSeq ?_
 refine vRegion ?_
 refine oVal tt rfl rfl rfl rfl rfl trivial ?_
 refine vEnO (En.zero 9503 111 (.pairs []) rfl rfl) ?_
 refine vEnO (En.zero 9504 71 (.pairs []) rfl rfl) ?_
 obtain ⟨v1, hc1, h⟩ := bind_inv h
 refine oMCall (S_l10Framework_w N c_0 v1 hc1) [9503, 9504] [1000000] [1050, 1051] rfl rfl rfl rfl rfl rfl ⟨rfl, rfl, trivial⟩ ⟨rfl, trivial⟩ ⟨⟨rfl, rfl⟩, trivial⟩ ?_
 refine oAlloc tt rfl rfl rfl rfl rfl rfl rfl rfl rfl ?_
 refine oStore tt rfl rfl rfl rfl rfl rfl rfl rfl rfl rfl rfl ⟨trivial, trivial, trivial, trivial⟩ ?_
 refine vNil ?_
 change VC _ _ _ _
 iterate 2 refine vSeq ?_
 refine vRegion ?_
 refine oVal tt rfl rfl rfl rfl rfl trivial ?_
 obtain ⟨v2, hc2, h⟩ := bind_inv h
 refine oMCall (S_l1Below_w N (⟨c_0.b, v1.2.1, v1.2.2⟩ : Cur) (14 : Int) v2 hc2) [] [1000000] [] rfl rfl rfl rfl rfl rfl trivial ⟨rfl, trivial⟩ ⟨⟨rfl, rfl⟩, ⟨rfl, rfl⟩, trivial⟩ ?_
 refine vNil ?_
 change VC _ _ _ _
 refine vBlock ?_
 refine vSeq ?_
 refine vRegion ?_
 iterate 2 refine oVal tt rfl rfl rfl rfl rfl trivial ?_
 refine vNil ?_
 change VC _ _ _ _
 refine vCond rfl (fun hb3 => ?_) (fun hb3 => ?_)
 ·replace h := cnd_t hb3 h
  refine vRegionN 5 [3, 4, 1040000013, 1041000000] [0, 1, 0, 0, 12, 31, 63, 127] (by kernel_rfl) (by kernel_rfl) (by kernel_rfl) (by kernel_rfl) (by kernel_rfl) rfl (by rfl) ?_
  iterate 3 refine nVal tt rfl (wNone rfl) rfl rfl rfl rfl rfl trivial ?_
  refine nBuild tt (wNone rfl) rfl rfl rfl rfl rfl rfl rfl rfl rfl rfl rfl rfl ?_
  obtain ⟨v3, hc4, h⟩ := bind_inv h
  refine nMCall (rids := []) (bids := []) (pids := []) (wNone rfl) (S_l1PickInt_w N (⟨c_0.b, v2.2.1, v2.2.2⟩ : Cur) ([(-1 : Int), (5 : Int), (9 : Int)] : List Int) v3 hc4) [13] [1000000] [13] rfl rfl rfl rfl rfl (by first | rfl | kernel_rfl) rfl rfl rfl rfl rfl (by first | rfl | kernel_rfl)  ⟨rfl, trivial⟩ ⟨rfl, trivial⟩ ⟨⟨rfl, rfl⟩, ⟨rfl, rfl⟩, trivial⟩ ?_
  refine nNil ?_
  change VO _ _ _ _ _
  obtain ⟨hg5, h⟩ := grd_inv h
  iterate 2 refine oVal tt rfl rfl rfl rfl rfl hg5 ?_
  refine oStore tt rfl rfl rfl rfl rfl rfl rfl rfl rfl rfl ⟨_, _, rfl, hg5.1, hg5.2⟩ ⟨hg5, trivial⟩ ?_
  refine vNil ?_
  change VC _ _ _ _
  refine vSeq ?_
  refine vRegion ?_
  refine oVal tt rfl rfl rfl rfl rfl trivial ?_
  refine oStore tt rfl rfl rfl rfl rfl rfl rfl rfl rfl rfl rfl ⟨trivial, trivial, trivial, trivial⟩ ?_
  refine vNil ?_
  change VC _ _ _ _
  obtain ⟨hg6, h⟩ := grd_inv h
  refine vEn (En.freezeB 2 2 rfl rfl rfl rfl hg6) ?_
  refine vRet ?_
  change ∃ _, _
  cases h
  exact ⟨[1050], rfl, ⟨rfl, trivial⟩, ⟨rfl, trivial⟩, rfl⟩
 ·replace h := cnd_f hb3 h
  refine vSeq ?_
  refine vRegion ?_
  iterate 2 refine oVal tt rfl rfl rfl rfl rfl trivial ?_
  refine vNil ?_
  change VC _ _ _ _
  refine vCond rfl (fun hb7 => ?_) (fun hb7 => ?_)
  ·replace h := cnd_t hb7 h
   refine vRegion ?_
   iterate 2 refine oVal tt rfl rfl rfl rfl rfl trivial ?_
   refine oFreeze (t := 20) rfl rfl rfl rfl ?_
   obtain ⟨hg8, h⟩ := grd_inv h
   refine oVal tt rfl rfl rfl rfl rfl hg8 ?_
   refine oVal tt rfl rfl rfl rfl rfl trivial ?_
   refine oStore tt rfl rfl rfl rfl rfl rfl rfl rfl rfl rfl rfl ⟨trivial, trivial⟩ ?_
   refine vNil ?_
   change VC _ _ _ _
   refine vSeq ?_
   refine vRegion ?_
   refine oVal tt rfl rfl rfl rfl rfl trivial ?_
   refine oStore tt rfl rfl rfl rfl rfl rfl rfl rfl rfl rfl rfl ⟨trivial, trivial, trivial, trivial⟩ ?_
   refine vNil ?_
   change VC _ _ _ _
   refine vRet ?_
   change ∃ _, _
   cases h
   exact ⟨[1050], rfl, ⟨rfl, trivial⟩, ⟨rfl, trivial⟩, rfl⟩
  ·replace h := cnd_f hb7 h
   refine vSkip ?_
   change VC _ _ _ _
   refine vSeq ?_
   refine vRegion ?_
   refine oVal tt rfl rfl rfl rfl rfl trivial ?_
   refine oStore tt rfl rfl rfl rfl rfl rfl rfl rfl rfl rfl rfl ⟨trivial, trivial, trivial, trivial⟩ ?_
   refine vNil ?_
   change VC _ _ _ _
   refine vEn (En.freezeB 2 2 rfl rfl rfl rfl rfl) ?_
   refine vRet ?_
   change ∃ _, _
   cases h
   exact ⟨[1050], rfl, ⟨rfl, trivial⟩, ⟨rfl, trivial⟩, rfl⟩
def S_DrawSquaresOf (N : Nat) (code_0 : List Int) : Option (List (Int × Int)) :=
 (S_l1New N code_0).bind fun v1 =>
 (S_l10Any N v1).bind fun v2 =>
 some v2.1.places
set_option maxRecDepth 20000 in
set_option maxHeartbeats 1600000 in
theorem S_DrawSquaresOf_w (N : Nat) (code_0 : List Int) (r : List (Int × Int)) (h : S_DrawSquaresOf N code_0 = some r) : PCall Try.prog 49 [.ro false (.bytes code_0)] [] (.ro true (.pairs r)) := by
 unfold S_DrawSquaresOf at h
 refine pcall_intro (TT := TT) tt Try.func49 rfl rfl Try.ntmps49 (congrArg Array.toList Try.results49) rfl rfl fun w0 => ?_
 refine vSeq ?_
 refine vRegion ?_
 refine oVal tt rfl rfl rfl rfl rfl trivial ?_
 refine vNil ?_
 change VC _ _ _ _
 refine vSeq ?_
 refine vRegion ?_
 refine oVal tt rfl rfl rfl rfl rfl trivial ?_
 obtain ⟨v1, hc1, h⟩ := bind_inv h
 refine oCallB (S_l1New_w N code_0 v1 hc1) rfl rfl rfl rfl rfl ⟨rfl, rfl, trivial⟩ ?_
 refine vEnO (En.zero 9502 111 (.pairs []) rfl rfl) ?_
 obtain ⟨v2, hc2, h⟩ := bind_inv h
 refine oMCall (S_l10Any_w N v1 v2 hc2) [9502] [5] [1060] rfl rfl rfl rfl rfl rfl ⟨rfl, trivial⟩ ⟨rfl, trivial⟩ ⟨⟨rfl, rfl⟩, trivial⟩ ?_
 refine oAlloc tt rfl rfl rfl rfl rfl rfl rfl rfl rfl ?_
 refine oStore tt rfl rfl rfl rfl rfl rfl rfl rfl rfl rfl rfl ⟨trivial, trivial, trivial, trivial⟩ ?_
 refine vNil ?_
 change VC _ _ _ _
 refine vSeq ?_
 refine vRegion ?_
 iterate 3 refine oVal tt rfl rfl rfl rfl rfl trivial ?_
 refine vNil ?_
 change VC _ _ _ _
 refine vRet ?_
 change ∃ _, _
 cases h
 exact ⟨[], _, rfl, trivial, rfl, (.eq rfl), rfl⟩
def S_DrawMengerOf (N : Nat) (code_0 : List Int) : Option (List Int) :=
 (S_l1New N code_0).bind fun v1 =>
 (S_l22Squares N v1).bind fun v2 =>
 grd ((9 : Int) ≠ 0) <|
 cnd ((Int.tmod (code_0.length : Int) (9 : Int)) == (0 : Int)) (
  grd (0 ≤ (1 : Int) ∧ (1 : Int) ≤ (v2.1.length : Int)) <|
  some ((v2.1.take v2.1.length).drop ((1 : Int).toNat))) (
  some v2.1)
set_option maxRecDepth 20000 in
set_option maxHeartbeats 1600000 in
theorem S_DrawMengerOf_w (N : Nat) (code_0 : List Int) (r : List Int) (h : S_DrawMengerOf N code_0 = some r) : PCall Try.prog 58 [.ro false (.bytes code_0)] [] (.ro true (.ints r)) := by
 unfold S_DrawMengerOf at h
 refine pcall_intro (TT := TT) tt Try.func58 rfl rfl Try.ntmps58 (congrArg Array.toList Try.results58) rfl rfl fun w0 => ?_
 refine vSeq ?_
 refine vRegion ?_
 refine oVal tt rfl rfl rfl rfl rfl trivial ?_
 refine vNil ?_
 change VC _ _ _ _
 refine vSeq ?_
 refine vRegion ?_
 refine oVal tt rfl rfl rfl rfl rfl trivial ?_
 obtain ⟨v1, hc1, h⟩ := bind_inv h
 refine oCallB (S_l1New_w N code_0 v1 hc1) rfl rfl rfl rfl rfl ⟨rfl, rfl, trivial⟩ ?_
 refine vEnO (En.zero 9502 3 (.ints []) rfl rfl) ?_
 obtain ⟨v2, hc2, h⟩ := bind_inv h
 refine oMCall (S_l22Squares_w N v1 v2 hc2) [9502] [5] [1060] rfl rfl rfl rfl rfl rfl ⟨rfl, trivial⟩ ⟨rfl, trivial⟩ ⟨⟨rfl, rfl⟩, trivial⟩ ?_
 refine oVal tt rfl rfl rfl rfl rfl trivial ?_
 refine vNil ?_
 change VC _ _ _ _
 iterate 2 refine vSeq ?_
 refine vRegion ?_
 iterate 2 refine oVal tt rfl rfl rfl rfl rfl trivial ?_
 obtain ⟨hg3, h⟩ := grd_inv h
 refine oVal tt rfl rfl rfl rfl rfl hg3 ?_
 refine oVal tt rfl rfl rfl rfl rfl trivial ?_
 refine vNil ?_
 change VC _ _ _ _
 refine vCond rfl (fun hb4 => ?_) (fun hb4 => ?_)
 ·replace h := cnd_t hb4 h
  refine vSeq ?_
  refine vRegion ?_
  refine oVal tt rfl rfl rfl rfl rfl trivial ?_
  refine oFreeze (t := 11) rfl rfl rfl rfl ?_
  obtain ⟨hg5, h⟩ := grd_inv h
  refine oVal tt rfl rfl rfl rfl rfl hg5 ?_
  refine oVal tt rfl rfl rfl rfl rfl trivial ?_
  refine vNil ?_
  change VC _ _ _ _
  refine vRet ?_
  change ∃ _, _
  cases h
  exact ⟨[], _, rfl, trivial, rfl, (.eq rfl), rfl⟩
 ·replace h := cnd_f hb4 h
  refine vSkip ?_
  change VC _ _ _ _
  refine vSeq ?_
  refine vRegion ?_
  iterate 2 refine oVal tt rfl rfl rfl rfl rfl trivial ?_
  refine vNil ?_
  change VC _ _ _ _
  refine vEn (En.freeze 2 rfl rfl rfl rfl) ?_
  refine vRet ?_
  change ∃ _, _
  cases h
  exact ⟨[], _, rfl, trivial, rfl, (.eq rfl), rfl⟩
def L_FnLengths (N : Nat) (code_0 : List Int) : Option (Bool) :=
 (L_big N code_0).bind fun v1 =>
 cnd v1 (
  some true) (
  (S_DrawSquaresOf N code_0).bind fun v2 =>
  (I_SquaresOf N v2).bind fun v3 =>
  (S_SquaresOf N v2).bind fun v4 =>
  (L_sameInts N v3 v4).bind fun v5 =>
  cnd (!v5) (
   some false) (
   cnd ((v2.length : Int) == (4 : Int)) (
    cnd ((v3.length : Int) == (6 : Int)) (
     (I_IsPlanar N v3).bind fun v6 =>
     cnd (!v6) (
      some false) (
      (I_MengerOf N v3).bind fun v7 =>
      cnd (v7 != (0 : Int)) (
       some false) (
       grd (0 ≤ (5 : Int) ∧ (5 : Int) ≤ (v3.length : Int)) <|
       (I_LastSquares N ((v3.take ((5 : Int).toNat)).drop 0)).bind fun v8 =>
       grd (0 ≤ (5 : Int) ∧ (5 : Int) < (v3.length : Int)) <|
       (L_has N v8 (v3.getD ((5 : Int).toNat) 0)).bind fun v9 =>
       cnd (!v9) (
        some false) (
        cnd ((v2.length : Int) == (3 : Int)) (
         cnd ((v3.length : Int) == (3 : Int)) (
          grd (0 ≤ (0 : Int) ∧ (0 : Int) < (v3.length : Int)) <|
          grd (0 ≤ (1 : Int) ∧ (1 : Int) < (v3.length : Int)) <|
          grd (0 ≤ (2 : Int) ∧ (2 : Int) < (v3.length : Int)) <|
          (I_IsTriangle N (v3.getD ((0 : Int).toNat) 0) (v3.getD ((1 : Int).toNat) 0) (v3.getD ((2 : Int).toNat) 0)).bind fun v10 =>
          cnd (!v10) (
           some false) (
           (I_HeronOf N (v3.getD ((0 : Int).toNat) 0) (v3.getD ((1 : Int).toNat) 0) (v3.getD ((2 : Int).toNat) 0)).bind fun v11 =>
           grd (0 ≤ (0 : Int) ∧ (0 : Int) < (v2.length : Int)) <|
           grd (0 ≤ (1 : Int) ∧ (1 : Int) < (v2.length : Int)) <|
           grd (0 ≤ (2 : Int) ∧ (2 : Int) < (v2.length : Int)) <|
           (S_AreCollinear N (v2.getD ((0 : Int).toNat) (0, 0)) (v2.getD ((1 : Int).toNat) (0, 0)) (v2.getD ((2 : Int).toNat) (0, 0))).bind fun v12 =>
           cnd ((v11 == (0 : Int)) != v12) (
            some false) (
            (S_DrawMengerOf N code_0).bind fun v13 =>
            (S_DrawHeronOf N code_0).bind fun v14 =>
            (S_DrawIsTriangle N code_0).bind fun v15 =>
            (S_DrawIsPlanar N code_0).bind fun v16 =>
            (S_DrawLastSquares N code_0).bind fun v17 =>
            (I_MengerOf N v13).bind fun v18 =>
            (S_MengerOf N v13).bind fun v19 =>
            cnd (v18 == v19) (
             (I_HeronOf N v14.1 v14.2.1 v14.2.2).bind fun v20 =>
             (S_HeronOf N v14.1 v14.2.1 v14.2.2).bind fun v21 =>
             cnd (v20 == v21) (
              (I_HeronOf N v14.1 v14.2.1 v14.2.2).bind fun v22 =>
              (I_HeronOf N v14.2.2 v14.1 v14.2.1).bind fun v23 =>
              cnd (v22 == v23) (
               (I_IsTriangle N v15.1 v15.2.1 v15.2.2).bind fun v24 =>
               (S_IsTriangle N v15.1 v15.2.1 v15.2.2).bind fun v25 =>
               cnd (v24 == v25) (
                (I_IsPlanar N v16).bind fun v26 =>
                (S_IsPlanar N v16).bind fun v27 =>
                cnd (v26 == v27) (
                 (I_LastSquares N v17).bind fun v28 =>
                 (S_LastSquares N v17).bind fun v29 =>
                 (L_sameInts N v28 v29).bind fun v30 =>
                 some v30) (
                 some false)) (
                some false)) (
               some false)) (
              some false)) (
             some false)))) (
          (S_DrawMengerOf N code_0).bind fun v31 =>
          (S_DrawHeronOf N code_0).bind fun v32 =>
          (S_DrawIsTriangle N code_0).bind fun v33 =>
          (S_DrawIsPlanar N code_0).bind fun v34 =>
          (S_DrawLastSquares N code_0).bind fun v35 =>
          (I_MengerOf N v31).bind fun v36 =>
          (S_MengerOf N v31).bind fun v37 =>
          cnd (v36 == v37) (
           (I_HeronOf N v32.1 v32.2.1 v32.2.2).bind fun v38 =>
           (S_HeronOf N v32.1 v32.2.1 v32.2.2).bind fun v39 =>
           cnd (v38 == v39) (
            (I_HeronOf N v32.1 v32.2.1 v32.2.2).bind fun v40 =>
            (I_HeronOf N v32.2.2 v32.1 v32.2.1).bind fun v41 =>
            cnd (v40 == v41) (
             (I_IsTriangle N v33.1 v33.2.1 v33.2.2).bind fun v42 =>
             (S_IsTriangle N v33.1 v33.2.1 v33.2.2).bind fun v43 =>
             cnd (v42 == v43) (
              (I_IsPlanar N v34).bind fun v44 =>
              (S_IsPlanar N v34).bind fun v45 =>
              cnd (v44 == v45) (
               (I_LastSquares N v35).bind fun v46 =>
               (S_LastSquares N v35).bind fun v47 =>
               (L_sameInts N v46 v47).bind fun v48 =>
               some v48) (
               some false)) (
              some false)) (
             some false)) (
            some false)) (
           some false))) (
         (S_DrawMengerOf N code_0).bind fun v49 =>
         (S_DrawHeronOf N code_0).bind fun v50 =>
         (S_DrawIsTriangle N code_0).bind fun v51 =>
         (S_DrawIsPlanar N code_0).bind fun v52 =>
         (S_DrawLastSquares N code_0).bind fun v53 =>
         (I_MengerOf N v49).bind fun v54 =>
         (S_MengerOf N v49).bind fun v55 =>
         cnd (v54 == v55) (
          (I_HeronOf N v50.1 v50.2.1 v50.2.2).bind fun v56 =>
          (S_HeronOf N v50.1 v50.2.1 v50.2.2).bind fun v57 =>
          cnd (v56 == v57) (
           (I_HeronOf N v50.1 v50.2.1 v50.2.2).bind fun v58 =>
           (I_HeronOf N v50.2.2 v50.1 v50.2.1).bind fun v59 =>
           cnd (v58 == v59) (
            (I_IsTriangle N v51.1 v51.2.1 v51.2.2).bind fun v60 =>
            (S_IsTriangle N v51.1 v51.2.1 v51.2.2).bind fun v61 =>
            cnd (v60 == v61) (
             (I_IsPlanar N v52).bind fun v62 =>
             (S_IsPlanar N v52).bind fun v63 =>
             cnd (v62 == v63) (
              (I_LastSquares N v53).bind fun v64 =>
              (S_LastSquares N v53).bind fun v65 =>
              (L_sameInts N v64 v65).bind fun v66 =>
              some v66) (
              some false)) (
             some false)) (
            some false)) (
           some false)) (
          some false)))))) (
     cnd ((v2.length : Int) == (3 : Int)) (
      cnd ((v3.length : Int) == (3 : Int)) (
       grd (0 ≤ (0 : Int) ∧ (0 : Int) < (v3.length : Int)) <|
       grd (0 ≤ (1 : Int) ∧ (1 : Int) < (v3.length : Int)) <|
       grd (0 ≤ (2 : Int) ∧ (2 : Int) < (v3.length : Int)) <|
       (I_IsTriangle N (v3.getD ((0 : Int).toNat) 0) (v3.getD ((1 : Int).toNat) 0) (v3.getD ((2 : Int).toNat) 0)).bind fun v67 =>
       cnd (!v67) (
        some false) (
        (I_HeronOf N (v3.getD ((0 : Int).toNat) 0) (v3.getD ((1 : Int).toNat) 0) (v3.getD ((2 : Int).toNat) 0)).bind fun v68 =>
        grd (0 ≤ (0 : Int) ∧ (0 : Int) < (v2.length : Int)) <|
        grd (0 ≤ (1 : Int) ∧ (1 : Int) < (v2.length : Int)) <|
        grd (0 ≤ (2 : Int) ∧ (2 : Int) < (v2.length : Int)) <|
        (S_AreCollinear N (v2.getD ((0 : Int).toNat) (0, 0)) (v2.getD ((1 : Int).toNat) (0, 0)) (v2.getD ((2 : Int).toNat) (0, 0))).bind fun v69 =>
        cnd ((v68 == (0 : Int)) != v69) (
         some false) (
         (S_DrawMengerOf N code_0).bind fun v70 =>
         (S_DrawHeronOf N code_0).bind fun v71 =>
         (S_DrawIsTriangle N code_0).bind fun v72 =>
         (S_DrawIsPlanar N code_0).bind fun v73 =>
         (S_DrawLastSquares N code_0).bind fun v74 =>
         (I_MengerOf N v70).bind fun v75 =>
         (S_MengerOf N v70).bind fun v76 =>
         cnd (v75 == v76) (
          (I_HeronOf N v71.1 v71.2.1 v71.2.2).bind fun v77 =>
          (S_HeronOf N v71.1 v71.2.1 v71.2.2).bind fun v78 =>
          cnd (v77 == v78) (
           (I_HeronOf N v71.1 v71.2.1 v71.2.2).bind fun v79 =>
           (I_HeronOf N v71.2.2 v71.1 v71.2.1).bind fun v80 =>
           cnd (v79 == v80) (
            (I_IsTriangle N v72.1 v72.2.1 v72.2.2).bind fun v81 =>
            (S_IsTriangle N v72.1 v72.2.1 v72.2.2).bind fun v82 =>
            cnd (v81 == v82) (
             (I_IsPlanar N v73).bind fun v83 =>
             (S_IsPlanar N v73).bind fun v84 =>
             cnd (v83 == v84) (
              (I_LastSquares N v74).bind fun v85 =>
              (S_LastSquares N v74).bind fun v86 =>
              (L_sameInts N v85 v86).bind fun v87 =>
              some v87) (
              some false)) (
             some false)) (
            some false)) (
           some false)) (
          some false)))) (
       (S_DrawMengerOf N code_0).bind fun v88 =>
       (S_DrawHeronOf N code_0).bind fun v89 =>
       (S_DrawIsTriangle N code_0).bind fun v90 =>
       (S_DrawIsPlanar N code_0).bind fun v91 =>
       (S_DrawLastSquares N code_0).bind fun v92 =>
       (I_MengerOf N v88).bind fun v93 =>
       (S_MengerOf N v88).bind fun v94 =>
       cnd (v93 == v94) (
        (I_HeronOf N v89.1 v89.2.1 v89.2.2).bind fun v95 =>
        (S_HeronOf N v89.1 v89.2.1 v89.2.2).bind fun v96 =>
        cnd (v95 == v96) (
         (I_HeronOf N v89.1 v89.2.1 v89.2.2).bind fun v97 =>
         (I_HeronOf N v89.2.2 v89.1 v89.2.1).bind fun v98 =>
         cnd (v97 == v98) (
          (I_IsTriangle N v90.1 v90.2.1 v90.2.2).bind fun v99 =>
          (S_IsTriangle N v90.1 v90.2.1 v90.2.2).bind fun v100 =>
          cnd (v99 == v100) (
           (I_IsPlanar N v91).bind fun v101 =>
           (S_IsPlanar N v91).bind fun v102 =>
           cnd (v101 == v102) (
            (I_LastSquares N v92).bind fun v103 =>
            (S_LastSquares N v92).bind fun v104 =>
            (L_sameInts N v103 v104).bind fun v105 =>
            some v105) (
            some false)) (
           some false)) (
          some false)) (
         some false)) (
        some false))) (
      (S_DrawMengerOf N code_0).bind fun v106 =>
      (S_DrawHeronOf N code_0).bind fun v107 =>
      (S_DrawIsTriangle N code_0).bind fun v108 =>
      (S_DrawIsPlanar N code_0).bind fun v109 =>
      (S_DrawLastSquares N code_0).bind fun v110 =>
      (I_MengerOf N v106).bind fun v111 =>
      (S_MengerOf N v106).bind fun v112 =>
      cnd (v111 == v112) (
       (I_HeronOf N v107.1 v107.2.1 v107.2.2).bind fun v113 =>
       (S_HeronOf N v107.1 v107.2.1 v107.2.2).bind fun v114 =>
       cnd (v113 == v114) (
        (I_HeronOf N v107.1 v107.2.1 v107.2.2).bind fun v115 =>
        (I_HeronOf N v107.2.2 v107.1 v107.2.1).bind fun v116 =>
        cnd (v115 == v116) (
         (I_IsTriangle N v108.1 v108.2.1 v108.2.2).bind fun v117 =>
         (S_IsTriangle N v108.1 v108.2.1 v108.2.2).bind fun v118 =>
         cnd (v117 == v118) (
          (I_IsPlanar N v109).bind fun v119 =>
          (S_IsPlanar N v109).bind fun v120 =>
          cnd (v119 == v120) (
           (I_LastSquares N v110).bind fun v121 =>
           (S_LastSquares N v110).bind fun v122 =>
           (L_sameInts N v121 v122).bind fun v123 =>
           some v123) (
           some false)) (
          some false)) (
         some false)) (
        some false)) (
       some false)))) (
    cnd ((v2.length : Int) == (3 : Int)) (
     cnd ((v3.length : Int) == (3 : Int)) (
      grd (0 ≤ (0 : Int) ∧ (0 : Int) < (v3.length : Int)) <|
      grd (0 ≤ (1 : Int) ∧ (1 : Int) < (v3.length : Int)) <|
      grd (0 ≤ (2 : Int) ∧ (2 : Int) < (v3.length : Int)) <|
      (I_IsTriangle N (v3.getD ((0 : Int).toNat) 0) (v3.getD ((1 : Int).toNat) 0) (v3.getD ((2 : Int).toNat) 0)).bind fun v124 =>
      cnd (!v124) (
       some false) (
       (I_HeronOf N (v3.getD ((0 : Int).toNat) 0) (v3.getD ((1 : Int).toNat) 0) (v3.getD ((2 : Int).toNat) 0)).bind fun v125 =>
       grd (0 ≤ (0 : Int) ∧ (0 : Int) < (v2.length : Int)) <|
       grd (0 ≤ (1 : Int) ∧ (1 : Int) < (v2.length : Int)) <|
       grd (0 ≤ (2 : Int) ∧ (2 : Int) < (v2.length : Int)) <|
       (S_AreCollinear N (v2.getD ((0 : Int).toNat) (0, 0)) (v2.getD ((1 : Int).toNat) (0, 0)) (v2.getD ((2 : Int).toNat) (0, 0))).bind fun v126 =>
       cnd ((v125 == (0 : Int)) != v126) (
        some false) (
        (S_DrawMengerOf N code_0).bind fun v127 =>
        (S_DrawHeronOf N code_0).bind fun v128 =>
        (S_DrawIsTriangle N code_0).bind fun v129 =>
        (S_DrawIsPlanar N code_0).bind fun v130 =>
        (S_DrawLastSquares N code_0).bind fun v131 =>
        (I_MengerOf N v127).bind fun v132 =>
        (S_MengerOf N v127).bind fun v133 =>
        cnd (v132 == v133) (
         (I_HeronOf N v128.1 v128.2.1 v128.2.2).bind fun v134 =>
         (S_HeronOf N v128.1 v128.2.1 v128.2.2).bind fun v135 =>
         cnd (v134 == v135) (
          (I_HeronOf N v128.1 v128.2.1 v128.2.2).bind fun v136 =>
          (I_HeronOf N v128.2.2 v128.1 v128.2.1).bind fun v137 =>
          cnd (v136 == v137) (
           (I_IsTriangle N v129.1 v129.2.1 v129.2.2).bind fun v138 =>
           (S_IsTriangle N v129.1 v129.2.1 v129.2.2).bind fun v139 =>
           cnd (v138 == v139) (
            (I_IsPlanar N v130).bind fun v140 =>
            (S_IsPlanar N v130).bind fun v141 =>
            cnd (v140 == v141) (
             (I_LastSquares N v131).bind fun v142 =>
             (S_LastSquares N v131).bind fun v143 =>
             (L_sameInts N v142 v143).bind fun v144 =>
             some v144) (
             some false)) (
            some false)) (
           some false)) (
          some false)) (
         some false)))) (
      (S_DrawMengerOf N code_0).bind fun v145 =>
      (S_DrawHeronOf N code_0).bind fun v146 =>
      (S_DrawIsTriangle N code_0).bind fun v147 =>
      (S_DrawIsPlanar N code_0).bind fun v148 =>
      (S_DrawLastSquares N code_0).bind fun v149 =>
      (I_MengerOf N v145).bind fun v150 =>
      (S_MengerOf N v145).bind fun v151 =>
      cnd (v150 == v151) (
       (I_HeronOf N v146.1 v146.2.1 v146.2.2).bind fun v152 =>
       (S_HeronOf N v146.1 v146.2.1 v146.2.2).bind fun v153 =>
       cnd (v152 == v153) (
        (I_HeronOf N v146.1 v146.2.1 v146.2.2).bind fun v154 =>
        (I_HeronOf N v146.2.2 v146.1 v146.2.1).bind fun v155 =>
        cnd (v154 == v155) (
         (I_IsTriangle N v147.1 v147.2.1 v147.2.2).bind fun v156 =>
         (S_IsTriangle N v147.1 v147.2.1 v147.2.2).bind fun v157 =>
         cnd (v156 == v157) (
          (I_IsPlanar N v148).bind fun v158 =>
          (S_IsPlanar N v148).bind fun v159 =>
          cnd (v158 == v159) (
           (I_LastSquares N v149).bind fun v160 =>
           (S_LastSquares N v149).bind fun v161 =>
           (L_sameInts N v160 v161).bind fun v162 =>
           some v162) (
           some false)) (
          some false)) (
         some false)) (
        some false)) (
       some false))) (
     (S_DrawMengerOf N code_0).bind fun v163 =>
     (S_DrawHeronOf N code_0).bind fun v164 =>
     (S_DrawIsTriangle N code_0).bind fun v165 =>
     (S_DrawIsPlanar N code_0).bind fun v166 =>
     (S_DrawLastSquares N code_0).bind fun v167 =>
     (I_MengerOf N v163).bind fun v168 =>
     (S_MengerOf N v163).bind fun v169 =>
     cnd (v168 == v169) (
      (I_HeronOf N v164.1 v164.2.1 v164.2.2).bind fun v170 =>
      (S_HeronOf N v164.1 v164.2.1 v164.2.2).bind fun v171 =>
      cnd (v170 == v171) (
       (I_HeronOf N v164.1 v164.2.1 v164.2.2).bind fun v172 =>
       (I_HeronOf N v164.2.2 v164.1 v164.2.1).bind fun v173 =>
       cnd (v172 == v173) (
        (I_IsTriangle N v165.1 v165.2.1 v165.2.2).bind fun v174 =>
        (S_IsTriangle N v165.1 v165.2.1 v165.2.2).bind fun v175 =>
        cnd (v174 == v175) (
         (I_IsPlanar N v166).bind fun v176 =>
         (S_IsPlanar N v166).bind fun v177 =>
         cnd (v176 == v177) (
          (I_LastSquares N v167).bind fun v178 =>
          (S_LastSquares N v167).bind fun v179 =>
          (L_sameInts N v178 v179).bind fun v180 =>
          some v180) (
          some false)) (
         some false)) (
        some false)) (
       some false)) (
      some false)))))
set_option maxRecDepth 20000 in
set_option maxHeartbeats 1600000 in
theorem L_FnLengths_w (N : Nat) (code_0 : List Int) (r : Bool) (h : L_FnLengths N code_0 = some r) : PCall Try.prog 5 [.ro false (.bytes code_0)] [] (.bool r) := by
 unfold L_FnLengths at h
 refine pcall_intro (TT := TT) tt Try.func5 rfl rfl Try.ntmps5 (congrArg Array.toList Try.results5) rfl rfl fun w0 => ?_
 refine vSeq ?_
 refine vRegion ?_
 refine oVal tt rfl rfl rfl rfl rfl trivial ?_
 refine vNil ?_
 change VC _ _ _ _
 iterate 2 refine vSeq ?_
 refine vRegion ?_
 refine oVal tt rfl rfl rfl rfl rfl trivial ?_
 obtain ⟨v1, hc1, h⟩ := bind_inv h
 refine oCall (L_big_w N code_0 v1 hc1) rfl rfl rfl rfl rfl rfl rfl rfl ⟨rfl, trivial⟩ ?_
 refine vNil ?_
 change VC _ _ _ _
 refine vCond rfl (fun hb2 => ?_) (fun hb2 => ?_)
 ·replace h := cnd_t hb2 h
  refine vSeq ?_
  refine vRegion ?_
  refine oVal tt rfl rfl rfl rfl rfl trivial ?_
  refine vNil ?_
  change VC _ _ _ _
  refine vRet ?_
  change ∃ _, _
  cases h
  exact ⟨[], _, rfl, trivial, rfl, (.eq rfl), rfl⟩
 ·replace h := cnd_f hb2 h
  refine vSkip ?_
  change VC _ _ _ _
  refine vSeq ?_
  refine vRegion ?_
  refine oVal tt rfl rfl rfl rfl rfl trivial ?_
  obtain ⟨v2, hc3, h⟩ := bind_inv h
  refine oCall (S_DrawSquaresOf_w N code_0 v2 hc3) rfl rfl rfl rfl rfl rfl rfl rfl ⟨rfl, trivial⟩ ?_
  refine oVal tt rfl rfl rfl rfl rfl trivial ?_
  refine vNil ?_
  change VC _ _ _ _
  refine vSeq ?_
  refine vRegion ?_
  refine oVal tt rfl rfl rfl rfl rfl trivial ?_
  obtain ⟨v3, hc4, h⟩ := bind_inv h
  refine oCall (I_SquaresOf_w N v2 v3 hc4) rfl rfl rfl rfl rfl rfl rfl rfl ⟨rfl, trivial⟩ ?_
  refine oFreeze (t := 19) rfl rfl rfl rfl ?_
  refine oVal tt rfl rfl rfl rfl rfl trivial ?_
  refine vNil ?_
  change VC _ _ _ _
  iterate 2 refine vSeq ?_
  refine vRegion ?_
  iterate 2 refine oVal tt rfl rfl rfl rfl rfl trivial ?_
  obtain ⟨v4, hc5, h⟩ := bind_inv h
  refine oCall (S_SquaresOf_w N v2 v4 hc5) rfl rfl rfl rfl rfl rfl rfl rfl ⟨rfl, trivial⟩ ?_
  obtain ⟨v5, hc6, h⟩ := bind_inv h
  refine oCall (L_sameInts_w N v3 v4 v5 hc6) rfl rfl rfl rfl rfl rfl rfl rfl ⟨rfl, (.inl ⟨rfl, rfl⟩), trivial⟩ ?_
  refine oVal tt rfl rfl rfl rfl rfl trivial ?_
  refine vNil ?_
  change VC _ _ _ _
  refine vCond rfl (fun hb7 => ?_) (fun hb7 => ?_)
  ·replace h := cnd_t hb7 h
   refine vSeq ?_
   refine vRegion ?_
   refine oVal tt rfl rfl rfl rfl rfl trivial ?_
   refine vNil ?_
   change VC _ _ _ _
   refine vRet ?_
   change ∃ _, _
   cases h
   exact ⟨[], _, rfl, trivial, rfl, (.eq rfl), rfl⟩
  ·replace h := cnd_f hb7 h
   refine vSkip ?_
   change VC _ _ _ _
   iterate 2 refine vSeq ?_
   refine vRegionN 24 [20] [0, 1, 3, 7, 15, 31, 63, 127, 255, 511, 1023, 2047, 4095, 8191, 16383, 32767, 65535, 131071, 262143, 524287, 1048575, 262143, 2359295, 6553599, 16777215, 33554431, 67108863, 134217727] (by kernel_rfl) (by kernel_rfl) (by kernel_rfl) (by kernel_rfl) (by kernel_rfl) rfl (by rfl) ?_
   iterate 4 refine nVal tt rfl (wNone rfl) rfl rfl rfl rfl rfl trivial ?_
   refine nSplit rfl rfl rfl (fun hb8 => ?_) (fun hb8 => ?_)
   ·replace h := cnd_t hb8 h
    iterate 3 refine nVal tt rfl (wSome rfl rfl rfl rfl hb8) rfl rfl rfl rfl rfl trivial ?_
    refine nPickT rfl (wNone rfl) rfl rfl rfl hb8 rfl rfl ?_
    refine nVal tt rfl (wNone rfl) rfl rfl rfl rfl rfl trivial ?_
    refine nSplit rfl rfl rfl (fun hb9 => ?_) (fun hb9 => ?_)
    ·replace h := cnd_t hb9 h
     refine nVal tt rfl (wSome rfl rfl rfl rfl hb9) rfl rfl rfl rfl rfl trivial ?_
     obtain ⟨v6, hc10, h⟩ := bind_inv h
     refine nCall (I_IsPlanar_w N v3 v6 hc10) rfl (wSome rfl rfl rfl rfl hb9) rfl rfl rfl rfl rfl rfl rfl rfl ⟨rfl, trivial⟩ ?_
     iterate 2 refine nVal tt rfl (wSome rfl rfl rfl rfl hb9) rfl rfl rfl rfl rfl trivial ?_
     refine nSplit rfl rfl rfl (fun hb11 => ?_) (fun hb11 => ?_)
     ·replace h := cnd_t hb11 h
      iterate 3 refine nNoF rfl rfl rfl rfl hb11 rfl rfl ?_
      refine nPickT rfl (wSome rfl rfl rfl rfl hb9) rfl rfl rfl hb11 rfl rfl ?_
      refine nVal tt rfl (wSome rfl rfl rfl rfl hb9) rfl rfl rfl rfl rfl trivial ?_
      iterate 6 refine nNoF rfl rfl rfl rfl rfl rfl rfl ?_
      refine nNil ?_
      change VO _ _ _ _ _
      iterate 2 refine oNoF rfl rfl rfl rfl rfl rfl rfl ?_
      refine oPickGT rfl rfl rfl rfl hb9 rfl rfl rfl rfl rfl rfl ?_
      refine oPick rfl rfl rfl rfl rfl hb9 rfl ?_
      refine vNil ?_
      change VC _ _ _ _
      refine vCondT rfl rfl ?_
      refine vSeq ?_
      refine vRegion ?_
      refine oVal tt rfl rfl rfl rfl rfl trivial ?_
      refine vNil ?_
      change VC _ _ _ _
      refine vRet ?_
      change ∃ _, _
      cases h
      exact ⟨[], _, rfl, trivial, rfl, (.eq rfl), rfl⟩
     ·replace h := cnd_f hb11 h
      refine nVal tt rfl (wSome rfl rfl rfl rfl hb11) rfl rfl rfl rfl rfl trivial ?_
      obtain ⟨v7, hc12, h⟩ := bind_inv h
      refine nCall (I_MengerOf_w N v3 v7 hc12) rfl (wSome rfl rfl rfl rfl hb11) rfl rfl rfl rfl rfl rfl rfl rfl ⟨rfl, trivial⟩ ?_
      refine nVal tt rfl (wSome rfl rfl rfl rfl hb11) rfl rfl rfl rfl rfl trivial ?_
      refine nPickF rfl (wSome rfl rfl rfl rfl hb9) rfl rfl rfl hb11 rfl rfl ?_
      refine nVal tt rfl (wSome rfl rfl rfl rfl hb9) rfl rfl rfl rfl rfl trivial ?_
      refine nSplit rfl rfl rfl (fun hb13 => ?_) (fun hb13 => ?_)
      ·replace h := cnd_t hb13 h
       iterate 6 refine nNoF rfl rfl rfl rfl hb13 rfl rfl ?_
       refine nNil ?_
       change VO _ _ _ _ _
       iterate 2 refine oNoF rfl rfl rfl rfl hb13 rfl rfl ?_
       refine oPickGT rfl rfl rfl rfl hb9 rfl rfl rfl rfl hb13 rfl ?_
       refine oPick rfl rfl rfl rfl rfl hb9 rfl ?_
       refine vNil ?_
       change VC _ _ _ _
       refine vCondT rfl rfl ?_
       refine vSeq ?_
       refine vRegion ?_
       refine oVal tt rfl rfl rfl rfl rfl trivial ?_
       refine vNil ?_
       change VC _ _ _ _
       refine vRet ?_
       change ∃ _, _
       cases h
       exact ⟨[], _, rfl, trivial, rfl, (.eq rfl), rfl⟩
      ·replace h := cnd_f hb13 h
       refine nVal tt rfl (wSome rfl rfl rfl rfl hb13) rfl rfl rfl rfl rfl trivial ?_
       obtain ⟨hg14, h⟩ := grd_inv h
       refine nVal tt rfl (wSome rfl rfl rfl rfl hb13) rfl rfl rfl rfl rfl hg14 ?_
       obtain ⟨v8, hc15, h⟩ := bind_inv h
       refine nCallR (I_LastSquares_w N ((v3.take ((5 : Int).toNat)).drop 0) v8 hc15) rfl (wSome rfl rfl rfl rfl hb13) rfl rfl rfl rfl rfl rfl (by first | rfl | kernel_rfl | (simp [nrL, nm, gdst, nmT, rowB]; done)) rfl (by first | rfl | kernel_rfl | (simp [chkE, nrL, nm, gdst, nmT, rowB, hid, ment, mentA, mentS]; done) | (simp [chkE, nrL, nm, gdst, nmT, rowB, hid, ment, mentA, mentS]; decide)) ⟨rfl, trivial⟩ ?_
       refine nVal tt rfl (wSome rfl rfl rfl rfl hb13) rfl rfl rfl rfl rfl trivial ?_
       obtain ⟨hg16, h⟩ := grd_inv h
       refine nVal tt rfl (wSome rfl rfl rfl rfl hb13) rfl rfl rfl rfl rfl hg16 ?_
       refine nVal tt rfl (wSome rfl rfl rfl rfl hb13) rfl rfl rfl rfl rfl trivial ?_
       refine nNil ?_
       change VO _ _ _ _ _
       obtain ⟨v9, hc17, h⟩ := bind_inv h
       refine oCallG (L_has_w N v8 (v3.getD ((5 : Int).toNat) 0) v9 hc17) rfl rfl rfl rfl hb13 rfl rfl rfl rfl rfl rfl rfl ⟨(.inl ⟨rfl, rfl⟩), rfl, trivial⟩ ?_
       refine oValG tt rfl rfl rfl rfl rfl hb13 rfl rfl rfl trivial ?_
       refine oPickGF rfl rfl rfl rfl hb9 rfl rfl rfl rfl hb13 rfl ?_
       refine oPick rfl rfl rfl rfl rfl hb9 rfl ?_
       refine vNil ?_
       change VC _ _ _ _
       refine vCond rfl (fun hb18 => ?_) (fun hb18 => ?_)
       ·replace h := cnd_t hb18 h
        refine vSeq ?_
        refine vRegion ?_
        refine oVal tt rfl rfl rfl rfl rfl trivial ?_
        refine vNil ?_
        change VC _ _ _ _
        refine vRet ?_
        change ∃ _, _
        cases h
        exact ⟨[], _, rfl, trivial, rfl, (.eq rfl), rfl⟩
       ·replace h := cnd_f hb18 h
        refine vSkip ?_
        change VC _ _ _ _
        iterate 2 refine vSeq ?_
        refine vRegionD (by kernel_rfl) (by kernel_rfl) ?_
        iterate 4 refine cVal tt rfl (wNone rfl) rfl rfl rfl trivial ?_
        refine cSplit rfl rfl rfl (fun hb19 => ?_) (fun hb19 => ?_)
        ·replace h := cnd_t hb19 h
         iterate 3 refine cVal tt rfl (wSome rfl rfl rfl rfl hb19) rfl rfl rfl trivial ?_
         refine cPickT rfl (wNone rfl) rfl rfl rfl hb19 rfl ?_
         refine cVal tt rfl (wNone rfl) rfl rfl rfl trivial ?_
         refine cSplit rfl rfl rfl (fun hb20 => ?_) (fun hb20 => ?_)
         ·replace h := cnd_t hb20 h
          refine cVal tt rfl (wSome rfl rfl rfl rfl hb20) rfl rfl rfl trivial ?_
          obtain ⟨hg21, h⟩ := grd_inv h
          refine cVal tt rfl (wSome rfl rfl rfl rfl hb20) rfl rfl rfl hg21 ?_
          iterate 2 refine cVal tt rfl (wSome rfl rfl rfl rfl hb20) rfl rfl rfl trivial ?_
          obtain ⟨hg22, h⟩ := grd_inv h
          refine cVal tt rfl (wSome rfl rfl rfl rfl hb20) rfl rfl rfl hg22 ?_
          iterate 2 refine cVal tt rfl (wSome rfl rfl rfl rfl hb20) rfl rfl rfl trivial ?_
          obtain ⟨hg23, h⟩ := grd_inv h
          refine cVal tt rfl (wSome rfl rfl rfl rfl hb20) rfl rfl rfl hg23 ?_
          refine cVal tt rfl (wSome rfl rfl rfl rfl hb20) rfl rfl rfl trivial ?_
          obtain ⟨v10, hc24, h⟩ := bind_inv h
          refine cCall (I_IsTriangle_w N (v3.getD ((0 : Int).toNat) 0) (v3.getD ((1 : Int).toNat) 0) (v3.getD ((2 : Int).toNat) 0) v10 hc24) rfl (wSome rfl rfl rfl rfl hb20) rfl rfl rfl rfl rfl rfl ⟨rfl, rfl, rfl, trivial⟩ ?_
          iterate 2 refine cVal tt rfl (wSome rfl rfl rfl rfl hb20) rfl rfl rfl trivial ?_
          refine cSplit rfl rfl rfl (fun hb25 => ?_) (fun hb25 => ?_)
          ·replace h := cnd_t hb25 h
           iterate 22 refine cNoF rfl rfl rfl rfl hb25 rfl rfl ?_
           refine cPickT rfl (wSome rfl rfl rfl rfl hb20) rfl rfl rfl hb25 rfl ?_
           refine cPickT rfl (wNone rfl) rfl rfl rfl hb20 rfl ?_
           refine cNil ?_
           change VC _ _ _ _
           refine vCondT rfl rfl ?_
           refine vSeq ?_
           refine vRegion ?_
           refine oVal tt rfl rfl rfl rfl rfl trivial ?_
           refine vNil ?_
           change VC _ _ _ _
           refine vRet ?_
           change ∃ _, _
           cases h
           exact ⟨[], _, rfl, trivial, rfl, (.eq rfl), rfl⟩
          ·replace h := cnd_f hb25 h
           refine cVal tt rfl (wSome rfl rfl rfl rfl hb25) rfl rfl rfl trivial ?_
           refine cVal tt rfl (wSome rfl rfl rfl rfl hb25) rfl rfl rfl hg21 ?_
           iterate 2 refine cVal tt rfl (wSome rfl rfl rfl rfl hb25) rfl rfl rfl trivial ?_
           refine cVal tt rfl (wSome rfl rfl rfl rfl hb25) rfl rfl rfl hg22 ?_
           iterate 2 refine cVal tt rfl (wSome rfl rfl rfl rfl hb25) rfl rfl rfl trivial ?_
           refine cVal tt rfl (wSome rfl rfl rfl rfl hb25) rfl rfl rfl hg23 ?_
           refine cVal tt rfl (wSome rfl rfl rfl rfl hb25) rfl rfl rfl trivial ?_
           obtain ⟨v11, hc26, h⟩ := bind_inv h
           refine cCall (I_HeronOf_w N (v3.getD ((0 : Int).toNat) 0) (v3.getD ((1 : Int).toNat) 0) (v3.getD ((2 : Int).toNat) 0) v11 hc26) rfl (wSome rfl rfl rfl rfl hb25) rfl rfl rfl rfl rfl rfl ⟨rfl, rfl, rfl, trivial⟩ ?_
           iterate 2 refine cVal tt rfl (wSome rfl rfl rfl rfl hb25) rfl rfl rfl trivial ?_
           obtain ⟨hg27, h⟩ := grd_inv h
           refine cVal tt rfl (wSome rfl rfl rfl rfl hb25) rfl rfl rfl hg27 ?_
           iterate 2 refine cVal tt rfl (wSome rfl rfl rfl rfl hb25) rfl rfl rfl trivial ?_
           obtain ⟨hg28, h⟩ := grd_inv h
           refine cVal tt rfl (wSome rfl rfl rfl rfl hb25) rfl rfl rfl hg28 ?_
           iterate 2 refine cVal tt rfl (wSome rfl rfl rfl rfl hb25) rfl rfl rfl trivial ?_
           obtain ⟨hg29, h⟩ := grd_inv h
           refine cVal tt rfl (wSome rfl rfl rfl rfl hb25) rfl rfl rfl hg29 ?_
           refine cVal tt rfl (wSome rfl rfl rfl rfl hb25) rfl rfl rfl trivial ?_
           obtain ⟨v12, hc30, h⟩ := bind_inv h
           refine cCall (S_AreCollinear_w N (v2.getD ((0 : Int).toNat) (0, 0)) (v2.getD ((1 : Int).toNat) (0, 0)) (v2.getD ((2 : Int).toNat) (0, 0)) v12 hc30) rfl (wSome rfl rfl rfl rfl hb25) rfl rfl rfl rfl rfl rfl ⟨⟨rfl, rfl, trivial⟩, ⟨rfl, rfl, trivial⟩, ⟨rfl, rfl, trivial⟩, trivial⟩ ?_
           refine cPure (wSome rfl rfl rfl rfl hb25) (pNeB Try.underlying4 rfl rfl rfl) rfl rfl ?_
           refine cPickF rfl (wSome rfl rfl rfl rfl hb20) rfl rfl rfl hb25 rfl ?_
           refine cPickT rfl (wNone rfl) rfl rfl rfl hb20 rfl ?_
           refine cNil ?_
           change VC _ _ _ _
           refine vCond rfl (fun hb31 => ?_) (fun hb31 => ?_)
           ·replace h := cnd_t hb31 h
            refine vSeq ?_
            refine vRegion ?_
            refine oVal tt rfl rfl rfl rfl rfl trivial ?_
            refine vNil ?_
            change VC _ _ _ _
            refine vRet ?_
            change ∃ _, _
            cases h
            exact ⟨[], _, rfl, trivial, rfl, (.eq rfl), rfl⟩
           ·replace h := cnd_f hb31 h
            refine vSkip ?_
            change VC _ _ _ _
            refine vSeq ?_
            refine vRegion ?_
            refine oVal tt rfl rfl rfl rfl rfl trivial ?_
            obtain ⟨v13, hc32, h⟩ := bind_inv h
            refine oCall (S_DrawMengerOf_w N code_0 v13 hc32) rfl rfl rfl rfl rfl rfl rfl rfl ⟨rfl, trivial⟩ ?_
            refine oVal tt rfl rfl rfl rfl rfl trivial ?_
            refine vNil ?_
            change VC _ _ _ _
            refine vSeq ?_
            refine vRegion ?_
            refine oVal tt rfl rfl rfl rfl rfl trivial ?_
            obtain ⟨v14, hc33, h⟩ := bind_inv h
            refine oCall (S_DrawHeronOf_w N code_0 v14 hc33) rfl rfl rfl rfl rfl rfl rfl rfl ⟨rfl, trivial⟩ ?_
            iterate 7 refine oVal tt rfl rfl rfl rfl rfl trivial ?_
            refine vNil ?_
            change VC _ _ _ _
            refine vSeq ?_
            refine vRegion ?_
            refine oVal tt rfl rfl rfl rfl rfl trivial ?_
            obtain ⟨v15, hc34, h⟩ := bind_inv h
            refine oCall (S_DrawIsTriangle_w N code_0 v15 hc34) rfl rfl rfl rfl rfl rfl rfl rfl ⟨rfl, trivial⟩ ?_
            iterate 7 refine oVal tt rfl rfl rfl rfl rfl trivial ?_
            refine vNil ?_
            change VC _ _ _ _
            refine vSeq ?_
            refine vRegion ?_
            refine oVal tt rfl rfl rfl rfl rfl trivial ?_
            obtain ⟨v16, hc35, h⟩ := bind_inv h
            refine oCall (S_DrawIsPlanar_w N code_0 v16 hc35) rfl rfl rfl rfl rfl rfl rfl rfl ⟨rfl, trivial⟩ ?_
            refine oVal tt rfl rfl rfl rfl rfl trivial ?_
            refine vNil ?_
            change VC _ _ _ _
            refine vSeq ?_
            refine vRegion ?_
            refine oVal tt rfl rfl rfl rfl rfl trivial ?_
            obtain ⟨v17, hc36, h⟩ := bind_inv h
            refine oCall (S_DrawLastSquares_w N code_0 v17 hc36) rfl rfl rfl rfl rfl rfl rfl rfl ⟨rfl, trivial⟩ ?_
            refine oVal tt rfl rfl rfl rfl rfl trivial ?_
            refine vNil ?_
            change VC _ _ _ _
            refine vSeq ?_
            refine vRegion ?_
            refine oVal tt rfl rfl rfl rfl rfl trivial ?_
            obtain ⟨v18, hc37, h⟩ := bind_inv h
            refine oCall (I_MengerOf_w N v13 v18 hc37) rfl rfl rfl rfl rfl rfl rfl rfl ⟨rfl, trivial⟩ ?_
            refine oVal tt rfl rfl rfl rfl rfl trivial ?_
            obtain ⟨v19, hc38, h⟩ := bind_inv h
            refine oCall (S_MengerOf_w N v13 v19 hc38) rfl rfl rfl rfl rfl rfl rfl rfl ⟨rfl, trivial⟩ ?_
            iterate 2 refine oVal tt rfl rfl rfl rfl rfl trivial ?_
            refine oSplit rfl rfl rfl (fun hb39 => ?_) (fun hb39 => ?_)
            ·replace h := cnd_t hb39 h
             iterate 3 refine oValG tt rfl rfl rfl rfl rfl hb39 rfl rfl rfl trivial ?_
             obtain ⟨v20, hc40, h⟩ := bind_inv h
             refine oCallG (I_HeronOf_w N v14.1 v14.2.1 v14.2.2 v20 hc40) rfl rfl rfl rfl hb39 rfl rfl rfl rfl rfl rfl rfl ⟨rfl, rfl, rfl, trivial⟩ ?_
             iterate 3 refine oValG tt rfl rfl rfl rfl rfl hb39 rfl rfl rfl trivial ?_
             obtain ⟨v21, hc41, h⟩ := bind_inv h
             refine oCallG (S_HeronOf_w N v14.1 v14.2.1 v14.2.2 v21 hc41) rfl rfl rfl rfl hb39 rfl rfl rfl rfl rfl rfl rfl ⟨rfl, rfl, rfl, trivial⟩ ?_
             refine oValG tt rfl rfl rfl rfl rfl hb39 rfl rfl rfl trivial ?_
             refine oPick rfl rfl rfl rfl rfl hb39 rfl ?_
             refine oVal tt rfl rfl rfl rfl rfl trivial ?_
             refine oSplit rfl rfl rfl (fun hb42 => ?_) (fun hb42 => ?_)
             ·replace h := cnd_t hb42 h
              iterate 3 refine oValG tt rfl rfl rfl rfl rfl hb42 rfl rfl rfl trivial ?_
              obtain ⟨v22, hc43, h⟩ := bind_inv h
              refine oCallG (I_HeronOf_w N v14.1 v14.2.1 v14.2.2 v22 hc43) rfl rfl rfl rfl hb42 rfl rfl rfl rfl rfl rfl rfl ⟨rfl, rfl, rfl, trivial⟩ ?_
              iterate 3 refine oValG tt rfl rfl rfl rfl rfl hb42 rfl rfl rfl trivial ?_
              obtain ⟨v23, hc44, h⟩ := bind_inv h
              refine oCallG (I_HeronOf_w N v14.2.2 v14.1 v14.2.1 v23 hc44) rfl rfl rfl rfl hb42 rfl rfl rfl rfl rfl rfl rfl ⟨rfl, rfl, rfl, trivial⟩ ?_
              refine oValG tt rfl rfl rfl rfl rfl hb42 rfl rfl rfl trivial ?_
              refine oPick rfl rfl rfl rfl rfl hb42 rfl ?_
              refine oVal tt rfl rfl rfl rfl rfl trivial ?_
              refine oSplit rfl rfl rfl (fun hb45 => ?_) (fun hb45 => ?_)
              ·replace h := cnd_t hb45 h
               iterate 3 refine oValG tt rfl rfl rfl rfl rfl hb45 rfl rfl rfl trivial ?_
               obtain ⟨v24, hc46, h⟩ := bind_inv h
               refine oCallG (I_IsTriangle_w N v15.1 v15.2.1 v15.2.2 v24 hc46) rfl rfl rfl rfl hb45 rfl rfl rfl rfl rfl rfl rfl ⟨rfl, rfl, rfl, trivial⟩ ?_
               iterate 3 refine oValG tt rfl rfl rfl rfl rfl hb45 rfl rfl rfl trivial ?_
               obtain ⟨v25, hc47, h⟩ := bind_inv h
               refine oCallG (S_IsTriangle_w N v15.1 v15.2.1 v15.2.2 v25 hc47) rfl rfl rfl rfl hb45 rfl rfl rfl rfl rfl rfl rfl ⟨rfl, rfl, rfl, trivial⟩ ?_
               refine oPure (wSome rfl rfl rfl rfl hb45) (pEqB Try.underlying4 rfl rfl rfl) rfl rfl ?_
               refine oPick rfl rfl rfl rfl rfl hb45 rfl ?_
               refine oVal tt rfl rfl rfl rfl rfl trivial ?_
               refine oSplit rfl rfl rfl (fun hb48 => ?_) (fun hb48 => ?_)
               ·replace h := cnd_t hb48 h
                refine oValG tt rfl rfl rfl rfl rfl hb48 rfl rfl rfl trivial ?_
                obtain ⟨v26, hc49, h⟩ := bind_inv h
                refine oCallG (I_IsPlanar_w N v16 v26 hc49) rfl rfl rfl rfl hb48 rfl rfl rfl rfl rfl rfl rfl ⟨(.inl ⟨rfl, rfl⟩), trivial⟩ ?_
                refine oValG tt rfl rfl rfl rfl rfl hb48 rfl rfl rfl trivial ?_
                obtain ⟨v27, hc50, h⟩ := bind_inv h
                refine oCallG (S_IsPlanar_w N v16 v27 hc50) rfl rfl rfl rfl hb48 rfl rfl rfl rfl rfl rfl rfl ⟨(.inl ⟨rfl, rfl⟩), trivial⟩ ?_
                refine oPure (wSome rfl rfl rfl rfl hb48) (pEqB Try.underlying4 rfl rfl rfl) rfl rfl ?_
                refine oPick rfl rfl rfl rfl rfl hb48 rfl ?_
                refine oVal tt rfl rfl rfl rfl rfl trivial ?_
                refine oSplit rfl rfl rfl (fun hb51 => ?_) (fun hb51 => ?_)
                ·replace h := cnd_t hb51 h
                 refine oValG tt rfl rfl rfl rfl rfl hb51 rfl rfl rfl trivial ?_
                 obtain ⟨v28, hc52, h⟩ := bind_inv h
                 refine oCallG (I_LastSquares_w N v17 v28 hc52) rfl rfl rfl rfl hb51 rfl rfl rfl rfl rfl rfl rfl ⟨rfl, trivial⟩ ?_
                 refine oValG tt rfl rfl rfl rfl rfl hb51 rfl rfl rfl trivial ?_
                 obtain ⟨v29, hc53, h⟩ := bind_inv h
                 refine oCallG (S_LastSquares_w N v17 v29 hc53) rfl rfl rfl rfl hb51 rfl rfl rfl rfl rfl rfl rfl ⟨rfl, trivial⟩ ?_
                 obtain ⟨v30, hc54, h⟩ := bind_inv h
                 refine oCallG (L_sameInts_w N v28 v29 v30 hc54) rfl rfl rfl rfl hb51 rfl rfl rfl rfl rfl rfl rfl ⟨(.inl ⟨rfl, rfl⟩), (.inl ⟨rfl, rfl⟩), trivial⟩ ?_
                 refine oPick rfl rfl rfl rfl rfl hb51 rfl ?_
                 refine oVal tt rfl rfl rfl rfl rfl trivial ?_
                 refine vNil ?_
                 change VC _ _ _ _
                 refine vRet ?_
                 change ∃ _, _
                 cases h
                 exact ⟨[], _, rfl, trivial, rfl, (.eq rfl), rfl⟩
                ·replace h := cnd_f hb51 h
                 iterate 5 refine oNoT rfl rfl rfl rfl hb51 rfl rfl ?_
                 refine oPickF rfl rfl rfl rfl rfl hb51 rfl ?_
                 refine oVal tt rfl rfl rfl rfl rfl trivial ?_
                 refine vNil ?_
                 change VC _ _ _ _
                 refine vRet ?_
                 change ∃ _, _
                 cases h
                 exact ⟨[], _, rfl, trivial, rfl, (.eq rfl), rfl⟩
               ·replace h := cnd_f hb48 h
                iterate 5 refine oNoT rfl rfl rfl rfl hb48 rfl rfl ?_
                refine oPickF rfl rfl rfl rfl rfl hb48 rfl ?_
                refine oVal tt rfl rfl rfl rfl rfl trivial ?_
                iterate 5 refine oNoT rfl rfl rfl rfl rfl rfl rfl ?_
                refine oPickF rfl rfl rfl rfl rfl rfl rfl ?_
                refine oVal tt rfl rfl rfl rfl rfl trivial ?_
                refine vNil ?_
                change VC _ _ _ _
                refine vRet ?_
                change ∃ _, _
                cases h
                exact ⟨[], _, rfl, trivial, rfl, (.eq rfl), rfl⟩
              ·replace h := cnd_f hb45 h
               iterate 9 refine oNoT rfl rfl rfl rfl hb45 rfl rfl ?_
               refine oPickF rfl rfl rfl rfl rfl hb45 rfl ?_
               refine oVal tt rfl rfl rfl rfl rfl trivial ?_
               iterate 5 refine oNoT rfl rfl rfl rfl rfl rfl rfl ?_
               refine oPickF rfl rfl rfl rfl rfl rfl rfl ?_
               refine oVal tt rfl rfl rfl rfl rfl trivial ?_
               iterate 5 refine oNoT rfl rfl rfl rfl rfl rfl rfl ?_
               refine oPickF rfl rfl rfl rfl rfl rfl rfl ?_
               refine oVal tt rfl rfl rfl rfl rfl trivial ?_
               refine vNil ?_
               change VC _ _ _ _
               refine vRet ?_
               change ∃ _, _
               cases h
               exact ⟨[], _, rfl, trivial, rfl, (.eq rfl), rfl⟩
             ·replace h := cnd_f hb42 h
              iterate 9 refine oNoT rfl rfl rfl rfl hb42 rfl rfl ?_
              refine oPickF rfl rfl rfl rfl rfl hb42 rfl ?_
              refine oVal tt rfl rfl rfl rfl rfl trivial ?_
              iterate 9 refine oNoT rfl rfl rfl rfl rfl rfl rfl ?_
              refine oPickF rfl rfl rfl rfl rfl rfl rfl ?_
              refine oVal tt rfl rfl rfl rfl rfl trivial ?_
              iterate 5 refine oNoT rfl rfl rfl rfl rfl rfl rfl ?_
              refine oPickF rfl rfl rfl rfl rfl rfl rfl ?_
              refine oVal tt rfl rfl rfl rfl rfl trivial ?_
              iterate 5 refine oNoT rfl rfl rfl rfl rfl rfl rfl ?_
              refine oPickF rfl rfl rfl rfl rfl rfl rfl ?_
              refine oVal tt rfl rfl rfl rfl rfl trivial ?_
              refine vNil ?_
              change VC _ _ _ _
              refine vRet ?_
              change ∃ _, _
              cases h
              exact ⟨[], _, rfl, trivial, rfl, (.eq rfl), rfl⟩
            ·replace h := cnd_f hb39 h
             iterate 9 refine oNoT rfl rfl rfl rfl hb39 rfl rfl ?_
             refine oPickF rfl rfl rfl rfl rfl hb39 rfl ?_
             refine oVal tt rfl rfl rfl rfl rfl trivial ?_
             iterate 9 refine oNoT rfl rfl rfl rfl rfl rfl rfl ?_
             refine oPickF rfl rfl rfl rfl rfl rfl rfl ?_
             refine oVal tt rfl rfl rfl rfl rfl trivial ?_
             iterate 9 refine oNoT rfl rfl rfl rfl rfl rfl rfl ?_
             refine oPickF rfl rfl rfl rfl rfl rfl rfl ?_
             refine oVal tt rfl rfl rfl rfl rfl trivial ?_
             iterate 5 refine oNoT rfl rfl rfl rfl rfl rfl rfl ?_
             refine oPickF rfl rfl rfl rfl rfl rfl rfl ?_
             refine oVal tt rfl rfl rfl rfl rfl trivial ?_
             iterate 5 refine oNoT rfl rfl rfl rfl rfl rfl rfl ?_
             refine oPickF rfl rfl rfl rfl rfl rfl rfl ?_
             refine oVal tt rfl rfl rfl rfl rfl trivial ?_
             refine vNil ?_
             change VC _ _ _ _
             refine vRet ?_
             change ∃ _, _
             cases h
             exact ⟨[], _, rfl, trivial, rfl, (.eq rfl), rfl⟩
         ·replace h := cnd_f hb20 h
          iterate 12 refine cNoT rfl rfl rfl rfl hb20 rfl rfl ?_
          iterate 22 refine cNoU rfl rfl rfl rfl rfl ?_
          refine cNoT rfl rfl rfl rfl hb20 rfl rfl ?_
          refine cPickF rfl (wNone rfl) rfl rfl rfl hb20 rfl ?_
          refine cNil ?_
          change VC _ _ _ _
          refine vCondF rfl rfl ?_
          refine vSkip ?_
          change VC _ _ _ _
          refine vSeq ?_
          refine vRegion ?_
          refine oVal tt rfl rfl rfl rfl rfl trivial ?_
          obtain ⟨v31, hc55, h⟩ := bind_inv h
          refine oCall (S_DrawMengerOf_w N code_0 v31 hc55) rfl rfl rfl rfl rfl rfl rfl rfl ⟨rfl, trivial⟩ ?_
          refine oVal tt rfl rfl rfl rfl rfl trivial ?_
          refine vNil ?_
          change VC _ _ _ _
          refine vSeq ?_
          refine vRegion ?_
          refine oVal tt rfl rfl rfl rfl rfl trivial ?_
          obtain ⟨v32, hc56, h⟩ := bind_inv h
          refine oCall (S_DrawHeronOf_w N code_0 v32 hc56) rfl rfl rfl rfl rfl rfl rfl rfl ⟨rfl, trivial⟩ ?_
          iterate 7 refine oVal tt rfl rfl rfl rfl rfl trivial ?_
          refine vNil ?_
          change VC _ _ _ _
          refine vSeq ?_
          refine vRegion ?_
          refine oVal tt rfl rfl rfl rfl rfl trivial ?_
          obtain ⟨v33, hc57, h⟩ := bind_inv h
          refine oCall (S_DrawIsTriangle_w N code_0 v33 hc57) rfl rfl rfl rfl rfl rfl rfl rfl ⟨rfl, trivial⟩ ?_
          iterate 7 refine oVal tt rfl rfl rfl rfl rfl trivial ?_
          refine vNil ?_
          change VC _ _ _ _
          refine vSeq ?_
          refine vRegion ?_
          refine oVal tt rfl rfl rfl rfl rfl trivial ?_
          obtain ⟨v34, hc58, h⟩ := bind_inv h
          refine oCall (S_DrawIsPlanar_w N code_0 v34 hc58) rfl rfl rfl rfl rfl rfl rfl rfl ⟨rfl, trivial⟩ ?_
          refine oVal tt rfl rfl rfl rfl rfl trivial ?_
          refine vNil ?_
          change VC _ _ _ _
          refine vSeq ?_
          refine vRegion ?_
          refine oVal tt rfl rfl rfl rfl rfl trivial ?_
          obtain ⟨v35, hc59, h⟩ := bind_inv h
          refine oCall (S_DrawLastSquares_w N code_0 v35 hc59) rfl rfl rfl rfl rfl rfl rfl rfl ⟨rfl, trivial⟩ ?_
          refine oVal tt rfl rfl rfl rfl rfl trivial ?_
          refine vNil ?_
          change VC _ _ _ _
          refine vSeq ?_
          refine vRegion ?_
          refine oVal tt rfl rfl rfl rfl rfl trivial ?_
          obtain ⟨v36, hc60, h⟩ := bind_inv h
          refine oCall (I_MengerOf_w N v31 v36 hc60) rfl rfl rfl rfl rfl rfl rfl rfl ⟨rfl, trivial⟩ ?_
          refine oVal tt rfl rfl rfl rfl rfl trivial ?_
          obtain ⟨v37, hc61, h⟩ := bind_inv h
          refine oCall (S_MengerOf_w N v31 v37 hc61) rfl rfl rfl rfl rfl rfl rfl rfl ⟨rfl, trivial⟩ ?_
          iterate 2 refine oVal tt rfl rfl rfl rfl rfl trivial ?_
          refine oSplit rfl rfl rfl (fun hb62 => ?_) (fun hb62 => ?_)
          ·replace h := cnd_t hb62 h
           iterate 3 refine oValG tt rfl rfl rfl rfl rfl hb62 rfl rfl rfl trivial ?_
           obtain ⟨v38, hc63, h⟩ := bind_inv h
           refine oCallG (I_HeronOf_w N v32.1 v32.2.1 v32.2.2 v38 hc63) rfl rfl rfl rfl hb62 rfl rfl rfl rfl rfl rfl rfl ⟨rfl, rfl, rfl, trivial⟩ ?_
           iterate 3 refine oValG tt rfl rfl rfl rfl rfl hb62 rfl rfl rfl trivial ?_
           obtain ⟨v39, hc64, h⟩ := bind_inv h
           refine oCallG (S_HeronOf_w N v32.1 v32.2.1 v32.2.2 v39 hc64) rfl rfl rfl rfl hb62 rfl rfl rfl rfl rfl rfl rfl ⟨rfl, rfl, rfl, trivial⟩ ?_
           refine oValG tt rfl rfl rfl rfl rfl hb62 rfl rfl rfl trivial ?_
           refine oPick rfl rfl rfl rfl rfl hb62 rfl ?_
           refine oVal tt rfl rfl rfl rfl rfl trivial ?_
           refine oSplit rfl rfl rfl (fun hb65 => ?_) (fun hb65 => ?_)
           ·replace h := cnd_t hb65 h
            iterate 3 refine oValG tt rfl rfl rfl rfl rfl hb65 rfl rfl rfl trivial ?_
            obtain ⟨v40, hc66, h⟩ := bind_inv h
            refine oCallG (I_HeronOf_w N v32.1 v32.2.1 v32.2.2 v40 hc66) rfl rfl rfl rfl hb65 rfl rfl rfl rfl rfl rfl rfl ⟨rfl, rfl, rfl, trivial⟩ ?_
            iterate 3 refine oValG tt rfl rfl rfl rfl rfl hb65 rfl rfl rfl trivial ?_
            obtain ⟨v41, hc67, h⟩ := bind_inv h
            refine oCallG (I_HeronOf_w N v32.2.2 v32.1 v32.2.1 v41 hc67) rfl rfl rfl rfl hb65 rfl rfl rfl rfl rfl rfl rfl ⟨rfl, rfl, rfl, trivial⟩ ?_
            refine oValG tt rfl rfl rfl rfl rfl hb65 rfl rfl rfl trivial ?_
            refine oPick rfl rfl rfl rfl rfl hb65 rfl ?_
            refine oVal tt rfl rfl rfl rfl rfl trivial ?_
            refine oSplit rfl rfl rfl (fun hb68 => ?_) (fun hb68 => ?_)
            ·replace h := cnd_t hb68 h
             iterate 3 refine oValG tt rfl rfl rfl rfl rfl hb68 rfl rfl rfl trivial ?_
             obtain ⟨v42, hc69, h⟩ := bind_inv h
             refine oCallG (I_IsTriangle_w N v33.1 v33.2.1 v33.2.2 v42 hc69) rfl rfl rfl rfl hb68 rfl rfl rfl rfl rfl rfl rfl ⟨rfl, rfl, rfl, trivial⟩ ?_
             iterate 3 refine oValG tt rfl rfl rfl rfl rfl hb68 rfl rfl rfl trivial ?_
             obtain ⟨v43, hc70, h⟩ := bind_inv h
             refine oCallG (S_IsTriangle_w N v33.1 v33.2.1 v33.2.2 v43 hc70) rfl rfl rfl rfl hb68 rfl rfl rfl rfl rfl rfl rfl ⟨rfl, rfl, rfl, trivial⟩ ?_
             refine oPure (wSome rfl rfl rfl rfl hb68) (pEqB Try.underlying4 rfl rfl rfl) rfl rfl ?_
             refine oPick rfl rfl rfl rfl rfl hb68 rfl ?_
             refine oVal tt rfl rfl rfl rfl rfl trivial ?_
             refine oSplit rfl rfl rfl (fun hb71 => ?_) (fun hb71 => ?_)
             ·replace h := cnd_t hb71 h
              refine oValG tt rfl rfl rfl rfl rfl hb71 rfl rfl rfl trivial ?_
              obtain ⟨v44, hc72, h⟩ := bind_inv h
              refine oCallG (I_IsPlanar_w N v34 v44 hc72) rfl rfl rfl rfl hb71 rfl rfl rfl rfl rfl rfl rfl ⟨(.inl ⟨rfl, rfl⟩), trivial⟩ ?_
              refine oValG tt rfl rfl rfl rfl rfl hb71 rfl rfl rfl trivial ?_
              obtain ⟨v45, hc73, h⟩ := bind_inv h
              refine oCallG (S_IsPlanar_w N v34 v45 hc73) rfl rfl rfl rfl hb71 rfl rfl rfl rfl rfl rfl rfl ⟨(.inl ⟨rfl, rfl⟩), trivial⟩ ?_
              refine oPure (wSome rfl rfl rfl rfl hb71) (pEqB Try.underlying4 rfl rfl rfl) rfl rfl ?_
              refine oPick rfl rfl rfl rfl rfl hb71 rfl ?_
              refine oVal tt rfl rfl rfl rfl rfl trivial ?_
              refine oSplit rfl rfl rfl (fun hb74 => ?_) (fun hb74 => ?_)
              ·replace h := cnd_t hb74 h
               refine oValG tt rfl rfl rfl rfl rfl hb74 rfl rfl rfl trivial ?_
               obtain ⟨v46, hc75, h⟩ := bind_inv h
               refine oCallG (I_LastSquares_w N v35 v46 hc75) rfl rfl rfl rfl hb74 rfl rfl rfl rfl rfl rfl rfl ⟨rfl, trivial⟩ ?_
               refine oValG tt rfl rfl rfl rfl rfl hb74 rfl rfl rfl trivial ?_
               obtain ⟨v47, hc76, h⟩ := bind_inv h
               refine oCallG (S_LastSquares_w N v35 v47 hc76) rfl rfl rfl rfl hb74 rfl rfl rfl rfl rfl rfl rfl ⟨rfl, trivial⟩ ?_
               obtain ⟨v48, hc77, h⟩ := bind_inv h
               refine oCallG (L_sameInts_w N v46 v47 v48 hc77) rfl rfl rfl rfl hb74 rfl rfl rfl rfl rfl rfl rfl ⟨(.inl ⟨rfl, rfl⟩), (.inl ⟨rfl, rfl⟩), trivial⟩ ?_
               refine oPick rfl rfl rfl rfl rfl hb74 rfl ?_
               refine oVal tt rfl rfl rfl rfl rfl trivial ?_
               refine vNil ?_
               change VC _ _ _ _
               refine vRet ?_
               change ∃ _, _
               cases h
               exact ⟨[], _, rfl, trivial, rfl, (.eq rfl), rfl⟩
              ·replace h := cnd_f hb74 h
               iterate 5 refine oNoT rfl rfl rfl rfl hb74 rfl rfl ?_
               refine oPickF rfl rfl rfl rfl rfl hb74 rfl ?_
               refine oVal tt rfl rfl rfl rfl rfl trivial ?_
               refine vNil ?_
               change VC _ _ _ _
               refine vRet ?_
               change ∃ _, _
               cases h
               exact ⟨[], _, rfl, trivial, rfl, (.eq rfl), rfl⟩
             ·replace h := cnd_f hb71 h
              iterate 5 refine oNoT rfl rfl rfl rfl hb71 rfl rfl ?_
              refine oPickF rfl rfl rfl rfl rfl hb71 rfl ?_
              refine oVal tt rfl rfl rfl rfl rfl trivial ?_
              iterate 5 refine oNoT rfl rfl rfl rfl rfl rfl rfl ?_
              refine oPickF rfl rfl rfl rfl rfl rfl rfl ?_
              refine oVal tt rfl rfl rfl rfl rfl trivial ?_
              refine vNil ?_
              change VC _ _ _ _
              refine vRet ?_
              change ∃ _, _
              cases h
              exact ⟨[], _, rfl, trivial, rfl, (.eq rfl), rfl⟩
            ·replace h := cnd_f hb68 h
             iterate 9 refine oNoT rfl rfl rfl rfl hb68 rfl rfl ?_
             refine oPickF rfl rfl rfl rfl rfl hb68 rfl ?_
             refine oVal tt rfl rfl rfl rfl rfl trivial ?_
             iterate 5 refine oNoT rfl rfl rfl rfl rfl rfl rfl ?_
             refine oPickF rfl rfl rfl rfl rfl rfl rfl ?_
             refine oVal tt rfl rfl rfl rfl rfl trivial ?_
             iterate 5 refine oNoT rfl rfl rfl rfl rfl rfl rfl ?_
             refine oPickF rfl rfl rfl rfl rfl rfl rfl ?_
             refine oVal tt rfl rfl rfl rfl rfl trivial ?_
             refine vNil ?_
             change VC _ _ _ _
             refine vRet ?_
             change ∃ _, _
             cases h
             exact ⟨[], _, rfl, trivial, rfl, (.eq rfl), rfl⟩
           ·replace h := cnd_f hb65 h
            iterate 9 refine oNoT rfl rfl rfl rfl hb65 rfl rfl ?_
            refine oPickF rfl rfl rfl rfl rfl hb65 rfl ?_
            refine oVal tt rfl rfl rfl rfl rfl trivial ?_
            iterate 9 refine oNoT rfl rfl rfl rfl rfl rfl rfl ?_
            refine oPickF rfl rfl rfl rfl rfl rfl rfl ?_
            refine oVal tt rfl rfl rfl rfl rfl trivial ?_
            iterate 5 refine oNoT rfl rfl rfl rfl rfl rfl rfl ?_
            refine oPickF rfl rfl rfl rfl rfl rfl rfl ?_
            refine oVal tt rfl rfl rfl rfl rfl trivial ?_
            iterate 5 refine oNoT rfl rfl rfl rfl rfl rfl rfl ?_
            refine oPickF rfl rfl rfl rfl rfl rfl rfl ?_
            refine oVal tt rfl rfl rfl rfl rfl trivial ?_
            refine vNil ?_
            change VC _ _ _ _
            refine vRet ?_
            change ∃ _, _
            cases h
            exact ⟨[], _, rfl, trivial, rfl, (.eq rfl), rfl⟩
          ·replace h := cnd_f hb62 h
           iterate 9 refine oNoT rfl rfl rfl rfl hb62 rfl rfl ?_
           refine oPickF rfl rfl rfl rfl rfl hb62 rfl ?_
           refine oVal tt rfl rfl rfl rfl rfl trivial ?_
           iterate 9 refine oNoT rfl rfl rfl rfl rfl rfl rfl ?_
           refine oPickF rfl rfl rfl rfl rfl rfl rfl ?_
           refine oVal tt rfl rfl rfl rfl rfl trivial ?_
           iterate 9 refine oNoT rfl rfl rfl rfl rfl rfl rfl ?_
           refine oPickF rfl rfl rfl rfl rfl rfl rfl ?_
           refine oVal tt rfl rfl rfl rfl rfl trivial ?_
           iterate 5 refine oNoT rfl rfl rfl rfl rfl rfl rfl ?_
           refine oPickF rfl rfl rfl rfl rfl rfl rfl ?_
           refine oVal tt rfl rfl rfl rfl rfl trivial ?_
           iterate 5 refine oNoT rfl rfl rfl rfl rfl rfl rfl ?_
           refine oPickF rfl rfl rfl rfl rfl rfl rfl ?_
           refine oVal tt rfl rfl rfl rfl rfl trivial ?_
           refine vNil ?_
           change VC _ _ _ _
           refine vRet ?_
           change ∃ _, _
           cases h
           exact ⟨[], _, rfl, trivial, rfl, (.eq rfl), rfl⟩
        ·replace h := cnd_f hb19 h
         iterate 3 refine cNoT rfl rfl rfl rfl hb19 rfl rfl ?_
         refine cPickF rfl (wNone rfl) rfl rfl rfl hb19 rfl ?_
         refine cVal tt rfl (wNone rfl) rfl rfl rfl trivial ?_
         iterate 12 refine cNoT rfl rfl rfl rfl rfl rfl rfl ?_
         iterate 22 refine cNoU rfl rfl rfl rfl rfl ?_
         refine cNoT rfl rfl rfl rfl rfl rfl rfl ?_
         refine cPickF rfl (wNone rfl) rfl rfl rfl rfl rfl ?_
         refine cNil ?_
         change VC _ _ _ _
         refine vCondF rfl rfl ?_
         refine vSkip ?_
         change VC _ _ _ _
         refine vSeq ?_
         refine vRegion ?_
         refine oVal tt rfl rfl rfl rfl rfl trivial ?_
         obtain ⟨v49, hc78, h⟩ := bind_inv h
         refine oCall (S_DrawMengerOf_w N code_0 v49 hc78) rfl rfl rfl rfl rfl rfl rfl rfl ⟨rfl, trivial⟩ ?_
         refine oVal tt rfl rfl rfl rfl rfl trivial ?_
         refine vNil ?_
         change VC _ _ _ _
         refine vSeq ?_
         refine vRegion ?_
         refine oVal tt rfl rfl rfl rfl rfl trivial ?_
         obtain ⟨v50, hc79, h⟩ := bind_inv h
         refine oCall (S_DrawHeronOf_w N code_0 v50 hc79) rfl rfl rfl rfl rfl rfl rfl rfl ⟨rfl, trivial⟩ ?_
         iterate 7 refine oVal tt rfl rfl rfl rfl rfl trivial ?_
         refine vNil ?_
         change VC _ _ _ _
         refine vSeq ?_
         refine vRegion ?_
         refine oVal tt rfl rfl rfl rfl rfl trivial ?_
         obtain ⟨v51, hc80, h⟩ := bind_inv h
         refine oCall (S_DrawIsTriangle_w N code_0 v51 hc80) rfl rfl rfl rfl rfl rfl rfl rfl ⟨rfl, trivial⟩ ?_
         iterate 7 refine oVal tt rfl rfl rfl rfl rfl trivial ?_
         refine vNil ?_
         change VC _ _ _ _
         refine vSeq ?_
         refine vRegion ?_
         refine oVal tt rfl rfl rfl rfl rfl trivial ?_
         obtain ⟨v52, hc81, h⟩ := bind_inv h
         refine oCall (S_DrawIsPlanar_w N code_0 v52 hc81) rfl rfl rfl rfl rfl rfl rfl rfl ⟨rfl, trivial⟩ ?_
         refine oVal tt rfl rfl rfl rfl rfl trivial ?_
         refine vNil ?_
         change VC _ _ _ _
         refine vSeq ?_
         refine vRegion ?_
         refine oVal tt rfl rfl rfl rfl rfl trivial ?_
         obtain ⟨v53, hc82, h⟩ := bind_inv h
         refine oCall (S_DrawLastSquares_w N code_0 v53 hc82) rfl rfl rfl rfl rfl rfl rfl rfl ⟨rfl, trivial⟩ ?_
         refine oVal tt rfl rfl rfl rfl rfl trivial ?_
         refine vNil ?_
         change VC _ _ _ _
         refine vSeq ?_
         refine vRegion ?_
         refine oVal tt rfl rfl rfl rfl rfl trivial ?_
         obtain ⟨v54, hc83, h⟩ := bind_inv h
         refine oCall (I_MengerOf_w N v49 v54 hc83) rfl rfl rfl rfl rfl rfl rfl rfl ⟨rfl, trivial⟩ ?_
         refine oVal tt rfl rfl rfl rfl rfl trivial ?_
         obtain ⟨v55, hc84, h⟩ := bind_inv h
         refine oCall (S_MengerOf_w N v49 v55 hc84) rfl rfl rfl rfl rfl rfl rfl rfl ⟨rfl, trivial⟩ ?_
         iterate 2 refine oVal tt rfl rfl rfl rfl rfl trivial ?_
         refine oSplit rfl rfl rfl (fun hb85 => ?_) (fun hb85 => ?_)
         ·replace h := cnd_t hb85 h
          iterate 3 refine oValG tt rfl rfl rfl rfl rfl hb85 rfl rfl rfl trivial ?_
          obtain ⟨v56, hc86, h⟩ := bind_inv h
          refine oCallG (I_HeronOf_w N v50.1 v50.2.1 v50.2.2 v56 hc86) rfl rfl rfl rfl hb85 rfl rfl rfl rfl rfl rfl rfl ⟨rfl, rfl, rfl, trivial⟩ ?_
          iterate 3 refine oValG tt rfl rfl rfl rfl rfl hb85 rfl rfl rfl trivial ?_
          obtain ⟨v57, hc87, h⟩ := bind_inv h
          refine oCallG (S_HeronOf_w N v50.1 v50.2.1 v50.2.2 v57 hc87) rfl rfl rfl rfl hb85 rfl rfl rfl rfl rfl rfl rfl ⟨rfl, rfl, rfl, trivial⟩ ?_
          refine oValG tt rfl rfl rfl rfl rfl hb85 rfl rfl rfl trivial ?_
          refine oPick rfl rfl rfl rfl rfl hb85 rfl ?_
          refine oVal tt rfl rfl rfl rfl rfl trivial ?_
          refine oSplit rfl rfl rfl (fun hb88 => ?_) (fun hb88 => ?_)
          ·replace h := cnd_t hb88 h
           iterate 3 refine oValG tt rfl rfl rfl rfl rfl hb88 rfl rfl rfl trivial ?_
           obtain ⟨v58, hc89, h⟩ := bind_inv h
           refine oCallG (I_HeronOf_w N v50.1 v50.2.1 v50.2.2 v58 hc89) rfl rfl rfl rfl hb88 rfl rfl rfl rfl rfl rfl rfl ⟨rfl, rfl, rfl, trivial⟩ ?_
           iterate 3 refine oValG tt rfl rfl rfl rfl rfl hb88 rfl rfl rfl trivial ?_
           obtain ⟨v59, hc90, h⟩ := bind_inv h
           refine oCallG (I_HeronOf_w N v50.2.2 v50.1 v50.2.1 v59 hc90) rfl rfl rfl rfl hb88 rfl rfl rfl rfl rfl rfl rfl ⟨rfl, rfl, rfl, trivial⟩ ?_
           refine oValG tt rfl rfl rfl rfl rfl hb88 rfl rfl rfl trivial ?_
           refine oPick rfl rfl rfl rfl rfl hb88 rfl ?_
           refine oVal tt rfl rfl rfl rfl rfl trivial ?_
           refine oSplit rfl rfl rfl (fun hb91 => ?_) (fun hb91 => ?_)
           ·replace h := cnd_t hb91 h
            iterate 3 refine oValG tt rfl rfl rfl rfl rfl hb91 rfl rfl rfl trivial ?_
            obtain ⟨v60, hc92, h⟩ := bind_inv h
            refine oCallG (I_IsTriangle_w N v51.1 v51.2.1 v51.2.2 v60 hc92) rfl rfl rfl rfl hb91 rfl rfl rfl rfl rfl rfl rfl ⟨rfl, rfl, rfl, trivial⟩ ?_
            iterate 3 refine oValG tt rfl rfl rfl rfl rfl hb91 rfl rfl rfl trivial ?_
            obtain ⟨v61, hc93, h⟩ := bind_inv h
            refine oCallG (S_IsTriangle_w N v51.1 v51.2.1 v51.2.2 v61 hc93) rfl rfl rfl rfl hb91 rfl rfl rfl rfl rfl rfl rfl ⟨rfl, rfl, rfl, trivial⟩ ?_
            refine oPure (wSome rfl rfl rfl rfl hb91) (pEqB Try.underlying4 rfl rfl rfl) rfl rfl ?_
            refine oPick rfl rfl rfl rfl rfl hb91 rfl ?_
            refine oVal tt rfl rfl rfl rfl rfl trivial ?_
            refine oSplit rfl rfl rfl (fun hb94 => ?_) (fun hb94 => ?_)
            ·replace h := cnd_t hb94 h
             refine oValG tt rfl rfl rfl rfl rfl hb94 rfl rfl rfl trivial ?_
             obtain ⟨v62, hc95, h⟩ := bind_inv h
             refine oCallG (I_IsPlanar_w N v52 v62 hc95) rfl rfl rfl rfl hb94 rfl rfl rfl rfl rfl rfl rfl ⟨(.inl ⟨rfl, rfl⟩), trivial⟩ ?_
             refine oValG tt rfl rfl rfl rfl rfl hb94 rfl rfl rfl trivial ?_
             obtain ⟨v63, hc96, h⟩ := bind_inv h
             refine oCallG (S_IsPlanar_w N v52 v63 hc96) rfl rfl rfl rfl hb94 rfl rfl rfl rfl rfl rfl rfl ⟨(.inl ⟨rfl, rfl⟩), trivial⟩ ?_
             refine oPure (wSome rfl rfl rfl rfl hb94) (pEqB Try.underlying4 rfl rfl rfl) rfl rfl ?_
             refine oPick rfl rfl rfl rfl rfl hb94 rfl ?_
             refine oVal tt rfl rfl rfl rfl rfl trivial ?_
             refine oSplit rfl rfl rfl (fun hb97 => ?_) (fun hb97 => ?_)
             ·replace h := cnd_t hb97 h
              refine oValG tt rfl rfl rfl rfl rfl hb97 rfl rfl rfl trivial ?_
              obtain ⟨v64, hc98, h⟩ := bind_inv h
              refine oCallG (I_LastSquares_w N v53 v64 hc98) rfl rfl rfl rfl hb97 rfl rfl rfl rfl rfl rfl rfl ⟨rfl, trivial⟩ ?_
              refine oValG tt rfl rfl rfl rfl rfl hb97 rfl rfl rfl trivial ?_
              obtain ⟨v65, hc99, h⟩ := bind_inv h
              refine oCallG (S_LastSquares_w N v53 v65 hc99) rfl rfl rfl rfl hb97 rfl rfl rfl rfl rfl rfl rfl ⟨rfl, trivial⟩ ?_
              obtain ⟨v66, hc100, h⟩ := bind_inv h
              refine oCallG (L_sameInts_w N v64 v65 v66 hc100) rfl rfl rfl rfl hb97 rfl rfl rfl rfl rfl rfl rfl ⟨(.inl ⟨rfl, rfl⟩), (.inl ⟨rfl, rfl⟩), trivial⟩ ?_
              refine oPick rfl rfl rfl rfl rfl hb97 rfl ?_
              refine oVal tt rfl rfl rfl rfl rfl trivial ?_
              refine vNil ?_
              change VC _ _ _ _
              refine vRet ?_
              change ∃ _, _
              cases h
              exact ⟨[], _, rfl, trivial, rfl, (.eq rfl), rfl⟩
             ·replace h := cnd_f hb97 h
              iterate 5 refine oNoT rfl rfl rfl rfl hb97 rfl rfl ?_
              refine oPickF rfl rfl rfl rfl rfl hb97 rfl ?_
              refine oVal tt rfl rfl rfl rfl rfl trivial ?_
              refine vNil ?_
              change VC _ _ _ _
              refine vRet ?_
              change ∃ _, _
              cases h
              exact ⟨[], _, rfl, trivial, rfl, (.eq rfl), rfl⟩
            ·replace h := cnd_f hb94 h
             iterate 5 refine oNoT rfl rfl rfl rfl hb94 rfl rfl ?_
             refine oPickF rfl rfl rfl rfl rfl hb94 rfl ?_
             refine oVal tt rfl rfl rfl rfl rfl trivial ?_
             iterate 5 refine oNoT rfl rfl rfl rfl rfl rfl rfl ?_
             refine oPickF rfl rfl rfl rfl rfl rfl rfl ?_
             refine oVal tt rfl rfl rfl rfl rfl trivial ?_
             refine vNil ?_
             change VC _ _ _ _
             refine vRet ?_
             change ∃ _, _
             cases h
             exact ⟨[], _, rfl, trivial, rfl, (.eq rfl), rfl⟩
           ·replace h := cnd_f hb91 h
            iterate 9 refine oNoT rfl rfl rfl rfl hb91 rfl rfl ?_
            refine oPickF rfl rfl rfl rfl rfl hb91 rfl ?_
            refine oVal tt rfl rfl rfl rfl rfl trivial ?_
            iterate 5 refine oNoT rfl rfl rfl rfl rfl rfl rfl ?_
            refine oPickF rfl rfl rfl rfl rfl rfl rfl ?_
            refine oVal tt rfl rfl rfl rfl rfl trivial ?_
            iterate 5 refine oNoT rfl rfl rfl rfl rfl rfl rfl ?_
            refine oPickF rfl rfl rfl rfl rfl rfl rfl ?_
            refine oVal tt rfl rfl rfl rfl rfl trivial ?_
            refine vNil ?_
            change VC _ _ _ _
            refine vRet ?_
            change ∃ _, _
            cases h
            exact ⟨[], _, rfl, trivial, rfl, (.eq rfl), rfl⟩
          ·replace h := cnd_f hb88 h
           iterate 9 refine oNoT rfl rfl rfl rfl hb88 rfl rfl ?_
           refine oPickF rfl rfl rfl rfl rfl hb88 rfl ?_
           refine oVal tt rfl rfl rfl rfl rfl trivial ?_
           iterate 9 refine oNoT rfl rfl rfl rfl rfl rfl rfl ?_
           refine oPickF rfl rfl rfl rfl rfl rfl rfl ?_
           refine oVal tt rfl rfl rfl rfl rfl trivial ?_
           iterate 5 refine oNoT rfl rfl rfl rfl rfl rfl rfl ?_
           refine oPickF rfl rfl rfl rfl rfl rfl rfl ?_
           refine oVal tt rfl rfl rfl rfl rfl trivial ?_
           iterate 5 refine oNoT rfl rfl rfl rfl rfl rfl rfl ?_
           refine oPickF rfl rfl rfl rfl rfl rfl rfl ?_
           refine oVal tt rfl rfl rfl rfl rfl trivial ?_
           refine vNil ?_
           change VC _ _ _ _
           refine vRet ?_
           change ∃ _, _
           cases h
           exact ⟨[], _, rfl, trivial, rfl, (.eq rfl), rfl⟩
         ·replace h := cnd_f hb85 h
          iterate 9 refine oNoT rfl rfl rfl rfl hb85 rfl rfl ?_
          refine oPickF rfl rfl rfl rfl rfl hb85 rfl ?_
          refine oVal tt rfl rfl rfl rfl rfl trivial ?_
          iterate 9 refine oNoT rfl rfl rfl rfl rfl rfl rfl ?_
          refine oPickF rfl rfl rfl rfl rfl rfl rfl ?_
          refine oVal tt rfl rfl rfl rfl rfl trivial ?_
          iterate 9 refine oNoT rfl rfl rfl rfl rfl rfl rfl ?_
          refine oPickF rfl rfl rfl rfl rfl rfl rfl ?_
          refine oVal tt rfl rfl rfl rfl rfl trivial ?_
          iterate 5 refine oNoT rfl rfl rfl rfl rfl rfl rfl ?_
          refine oPickF rfl rfl rfl rfl rfl rfl rfl ?_
          refine oVal tt rfl rfl rfl rfl rfl trivial ?_
          iterate 5 refine oNoT rfl rfl rfl rfl rfl rfl rfl ?_
          refine oPickF rfl rfl rfl rfl rfl rfl rfl ?_
          refine oVal tt rfl rfl rfl rfl rfl trivial ?_
          refine vNil ?_
          change VC _ _ _ _
          refine vRet ?_
          change ∃ _, _
          cases h
          exact ⟨[], _, rfl, trivial, rfl, (.eq rfl), rfl⟩
    ·replace h := cnd_f hb9 h
     iterate 4 refine nNoT rfl rfl rfl rfl hb9 rfl rfl ?_
     iterate 3 refine nNoU rfl rfl rfl rfl rfl ?_
     iterate 2 refine nNoT rfl rfl rfl rfl hb9 rfl rfl ?_
     iterate 6 refine nNoU rfl rfl rfl rfl rfl ?_
     refine nNil ?_
     change VO _ _ _ _ _
     iterate 2 refine oNoU rfl rfl rfl rfl rfl ?_
     refine oNoT rfl rfl rfl rfl hb9 rfl rfl ?_
     refine oPickF rfl rfl rfl rfl rfl hb9 rfl ?_
     refine vNil ?_
     change VC _ _ _ _
     refine vCondF rfl rfl ?_
     refine vSkip ?_
     change VC _ _ _ _
     iterate 2 refine vSeq ?_
     refine vRegionD (by kernel_rfl) (by kernel_rfl) ?_
     iterate 4 refine cVal tt rfl (wNone rfl) rfl rfl rfl trivial ?_
     refine cSplit rfl rfl rfl (fun hb101 => ?_) (fun hb101 => ?_)
     ·replace h := cnd_t hb101 h
      iterate 3 refine cVal tt rfl (wSome rfl rfl rfl rfl hb101) rfl rfl rfl trivial ?_
      refine cPickT rfl (wNone rfl) rfl rfl rfl hb101 rfl ?_
      refine cVal tt rfl (wNone rfl) rfl rfl rfl trivial ?_
      refine cSplit rfl rfl rfl (fun hb102 => ?_) (fun hb102 => ?_)
      ·replace h := cnd_t hb102 h
       refine cVal tt rfl (wSome rfl rfl rfl rfl hb102) rfl rfl rfl trivial ?_
       obtain ⟨hg103, h⟩ := grd_inv h
       refine cVal tt rfl (wSome rfl rfl rfl rfl hb102) rfl rfl rfl hg103 ?_
       iterate 2 refine cVal tt rfl (wSome rfl rfl rfl rfl hb102) rfl rfl rfl trivial ?_
       obtain ⟨hg104, h⟩ := grd_inv h
       refine cVal tt rfl (wSome rfl rfl rfl rfl hb102) rfl rfl rfl hg104 ?_
       iterate 2 refine cVal tt rfl (wSome rfl rfl rfl rfl hb102) rfl rfl rfl trivial ?_
       obtain ⟨hg105, h⟩ := grd_inv h
       refine cVal tt rfl (wSome rfl rfl rfl rfl hb102) rfl rfl rfl hg105 ?_
       refine cVal tt rfl (wSome rfl rfl rfl rfl hb102) rfl rfl rfl trivial ?_
       obtain ⟨v67, hc106, h⟩ := bind_inv h
       refine cCall (I_IsTriangle_w N (v3.getD ((0 : Int).toNat) 0) (v3.getD ((1 : Int).toNat) 0) (v3.getD ((2 : Int).toNat) 0) v67 hc106) rfl (wSome rfl rfl rfl rfl hb102) rfl rfl rfl rfl rfl rfl ⟨rfl, rfl, rfl, trivial⟩ ?_
       iterate 2 refine cVal tt rfl (wSome rfl rfl rfl rfl hb102) rfl rfl rfl trivial ?_
       refine cSplit rfl rfl rfl (fun hb107 => ?_) (fun hb107 => ?_)
       ·replace h := cnd_t hb107 h
        iterate 22 refine cNoF rfl rfl rfl rfl hb107 rfl rfl ?_
        refine cPickT rfl (wSome rfl rfl rfl rfl hb102) rfl rfl rfl hb107 rfl ?_
        refine cPickT rfl (wNone rfl) rfl rfl rfl hb102 rfl ?_
        refine cNil ?_
        change VC _ _ _ _
        refine vCondT rfl rfl ?_
        refine vSeq ?_
        refine vRegion ?_
        refine oVal tt rfl rfl rfl rfl rfl trivial ?_
        refine vNil ?_
        change VC _ _ _ _
        refine vRet ?_
        change ∃ _, _
        cases h
        exact ⟨[], _, rfl, trivial, rfl, (.eq rfl), rfl⟩
       ·replace h := cnd_f hb107 h
        refine cVal tt rfl (wSome rfl rfl rfl rfl hb107) rfl rfl rfl trivial ?_
        refine cVal tt rfl (wSome rfl rfl rfl rfl hb107) rfl rfl rfl hg103 ?_
        iterate 2 refine cVal tt rfl (wSome rfl rfl rfl rfl hb107) rfl rfl rfl trivial ?_
        refine cVal tt rfl (wSome rfl rfl rfl rfl hb107) rfl rfl rfl hg104 ?_
        iterate 2 refine cVal tt rfl (wSome rfl rfl rfl rfl hb107) rfl rfl rfl trivial ?_
        refine cVal tt rfl (wSome rfl rfl rfl rfl hb107) rfl rfl rfl hg105 ?_
        refine cVal tt rfl (wSome rfl rfl rfl rfl hb107) rfl rfl rfl trivial ?_
        obtain ⟨v68, hc108, h⟩ := bind_inv h
        refine cCall (I_HeronOf_w N (v3.getD ((0 : Int).toNat) 0) (v3.getD ((1 : Int).toNat) 0) (v3.getD ((2 : Int).toNat) 0) v68 hc108) rfl (wSome rfl rfl rfl rfl hb107) rfl rfl rfl rfl rfl rfl ⟨rfl, rfl, rfl, trivial⟩ ?_
        iterate 2 refine cVal tt rfl (wSome rfl rfl rfl rfl hb107) rfl rfl rfl trivial ?_
        obtain ⟨hg109, h⟩ := grd_inv h
        refine cVal tt rfl (wSome rfl rfl rfl rfl hb107) rfl rfl rfl hg109 ?_
        iterate 2 refine cVal tt rfl (wSome rfl rfl rfl rfl hb107) rfl rfl rfl trivial ?_
        obtain ⟨hg110, h⟩ := grd_inv h
        refine cVal tt rfl (wSome rfl rfl rfl rfl hb107) rfl rfl rfl hg110 ?_
        iterate 2 refine cVal tt rfl (wSome rfl rfl rfl rfl hb107) rfl rfl rfl trivial ?_
        obtain ⟨hg111, h⟩ := grd_inv h
        refine cVal tt rfl (wSome rfl rfl rfl rfl hb107) rfl rfl rfl hg111 ?_
        refine cVal tt rfl (wSome rfl rfl rfl rfl hb107) rfl rfl rfl trivial ?_
        obtain ⟨v69, hc112, h⟩ := bind_inv h
        refine cCall (S_AreCollinear_w N (v2.getD ((0 : Int).toNat) (0, 0)) (v2.getD ((1 : Int).toNat) (0, 0)) (v2.getD ((2 : Int).toNat) (0, 0)) v69 hc112) rfl (wSome rfl rfl rfl rfl hb107) rfl rfl rfl rfl rfl rfl ⟨⟨rfl, rfl, trivial⟩, ⟨rfl, rfl, trivial⟩, ⟨rfl, rfl, trivial⟩, trivial⟩ ?_
        refine cPure (wSome rfl rfl rfl rfl hb107) (pNeB Try.underlying4 rfl rfl rfl) rfl rfl ?_
        refine cPickF rfl (wSome rfl rfl rfl rfl hb102) rfl rfl rfl hb107 rfl ?_
        refine cPickT rfl (wNone rfl) rfl rfl rfl hb102 rfl ?_
        refine cNil ?_
        change VC _ _ _ _
        refine vCond rfl (fun hb113 => ?_) (fun hb113 => ?_)
        ·replace h := cnd_t hb113 h
         refine vSeq ?_
         refine vRegion ?_
         refine oVal tt rfl rfl rfl rfl rfl trivial ?_
         refine vNil ?_
         change VC _ _ _ _
         refine vRet ?_
         change ∃ _, _
         cases h
         exact ⟨[], _, rfl, trivial, rfl, (.eq rfl), rfl⟩
        ·replace h := cnd_f hb113 h
         refine vSkip ?_
         change VC _ _ _ _
         refine vSeq ?_
         refine vRegion ?_
         refine oVal tt rfl rfl rfl rfl rfl trivial ?_
         obtain ⟨v70, hc114, h⟩ := bind_inv h
         refine oCall (S_DrawMengerOf_w N code_0 v70 hc114) rfl rfl rfl rfl rfl rfl rfl rfl ⟨rfl, trivial⟩ ?_
         refine oVal tt rfl rfl rfl rfl rfl trivial ?_
         refine vNil ?_
         change VC _ _ _ _
         refine vSeq ?_
         refine vRegion ?_
         refine oVal tt rfl rfl rfl rfl rfl trivial ?_
         obtain ⟨v71, hc115, h⟩ := bind_inv h
         refine oCall (S_DrawHeronOf_w N code_0 v71 hc115) rfl rfl rfl rfl rfl rfl rfl rfl ⟨rfl, trivial⟩ ?_
         iterate 7 refine oVal tt rfl rfl rfl rfl rfl trivial ?_
         refine vNil ?_
         change VC _ _ _ _
         refine vSeq ?_
         refine vRegion ?_
         refine oVal tt rfl rfl rfl rfl rfl trivial ?_
         obtain ⟨v72, hc116, h⟩ := bind_inv h
         refine oCall (S_DrawIsTriangle_w N code_0 v72 hc116) rfl rfl rfl rfl rfl rfl rfl rfl ⟨rfl, trivial⟩ ?_
         iterate 7 refine oVal tt rfl rfl rfl rfl rfl trivial ?_
         refine vNil ?_
         change VC _ _ _ _
         refine vSeq ?_
         refine vRegion ?_
         refine oVal tt rfl rfl rfl rfl rfl trivial ?_
         obtain ⟨v73, hc117, h⟩ := bind_inv h
         refine oCall (S_DrawIsPlanar_w N code_0 v73 hc117) rfl rfl rfl rfl rfl rfl rfl rfl ⟨rfl, trivial⟩ ?_
         refine oVal tt rfl rfl rfl rfl rfl trivial ?_
         refine vNil ?_
         change VC _ _ _ _
         refine vSeq ?_
         refine vRegion ?_
         refine oVal tt rfl rfl rfl rfl rfl trivial ?_
         obtain ⟨v74, hc118, h⟩ := bind_inv h
         refine oCall (S_DrawLastSquares_w N code_0 v74 hc118) rfl rfl rfl rfl rfl rfl rfl rfl ⟨rfl, trivial⟩ ?_
         refine oVal tt rfl rfl rfl rfl rfl trivial ?_
         refine vNil ?_
         change VC _ _ _ _
         refine vSeq ?_
         refine vRegion ?_
         refine oVal tt rfl rfl rfl rfl rfl trivial ?_
         obtain ⟨v75, hc119, h⟩ := bind_inv h
         refine oCall (I_MengerOf_w N v70 v75 hc119) rfl rfl rfl rfl rfl rfl rfl rfl ⟨rfl, trivial⟩ ?_
         refine oVal tt rfl rfl rfl rfl rfl trivial ?_
         obtain ⟨v76, hc120, h⟩ := bind_inv h
         refine oCall (S_MengerOf_w N v70 v76 hc120) rfl rfl rfl rfl rfl rfl rfl rfl ⟨rfl, trivial⟩ ?_
         iterate 2 refine oVal tt rfl rfl rfl rfl rfl trivial ?_
         refine oSplit rfl rfl rfl (fun hb121 => ?_) (fun hb121 => ?_)
         ·replace h := cnd_t hb121 h
          iterate 3 refine oValG tt rfl rfl rfl rfl rfl hb121 rfl rfl rfl trivial ?_
          obtain ⟨v77, hc122, h⟩ := bind_inv h
          refine oCallG (I_HeronOf_w N v71.1 v71.2.1 v71.2.2 v77 hc122) rfl rfl rfl rfl hb121 rfl rfl rfl rfl rfl rfl rfl ⟨rfl, rfl, rfl, trivial⟩ ?_
          iterate 3 refine oValG tt rfl rfl rfl rfl rfl hb121 rfl rfl rfl trivial ?_
          obtain ⟨v78, hc123, h⟩ := bind_inv h
          refine oCallG (S_HeronOf_w N v71.1 v71.2.1 v71.2.2 v78 hc123) rfl rfl rfl rfl hb121 rfl rfl rfl rfl rfl rfl rfl ⟨rfl, rfl, rfl, trivial⟩ ?_
          refine oValG tt rfl rfl rfl rfl rfl hb121 rfl rfl rfl trivial ?_
          refine oPick rfl rfl rfl rfl rfl hb121 rfl ?_
          refine oVal tt rfl rfl rfl rfl rfl trivial ?_
          refine oSplit rfl rfl rfl (fun hb124 => ?_) (fun hb124 => ?_)
          ·replace h := cnd_t hb124 h
           iterate 3 refine oValG tt rfl rfl rfl rfl rfl hb124 rfl rfl rfl trivial ?_
           obtain ⟨v79, hc125, h⟩ := bind_inv h
           refine oCallG (I_HeronOf_w N v71.1 v71.2.1 v71.2.2 v79 hc125) rfl rfl rfl rfl hb124 rfl rfl rfl rfl rfl rfl rfl ⟨rfl, rfl, rfl, trivial⟩ ?_
           iterate 3 refine oValG tt rfl rfl rfl rfl rfl hb124 rfl rfl rfl trivial ?_
           obtain ⟨v80, hc126, h⟩ := bind_inv h
           refine oCallG (I_HeronOf_w N v71.2.2 v71.1 v71.2.1 v80 hc126) rfl rfl rfl rfl hb124 rfl rfl rfl rfl rfl rfl rfl ⟨rfl, rfl, rfl, trivial⟩ ?_
           refine oValG tt rfl rfl rfl rfl rfl hb124 rfl rfl rfl trivial ?_
           refine oPick rfl rfl rfl rfl rfl hb124 rfl ?_
           refine oVal tt rfl rfl rfl rfl rfl trivial ?_
           refine oSplit rfl rfl rfl (fun hb127 => ?_) (fun hb127 => ?_)
           ·replace h := cnd_t hb127 h
            iterate 3 refine oValG tt rfl rfl rfl rfl rfl hb127 rfl rfl rfl trivial ?_
            obtain ⟨v81, hc128, h⟩ := bind_inv h
            refine oCallG (I_IsTriangle_w N v72.1 v72.2.1 v72.2.2 v81 hc128) rfl rfl rfl rfl hb127 rfl rfl rfl rfl rfl rfl rfl ⟨rfl, rfl, rfl, trivial⟩ ?_
            iterate 3 refine oValG tt rfl rfl rfl rfl rfl hb127 rfl rfl rfl trivial ?_
            obtain ⟨v82, hc129, h⟩ := bind_inv h
            refine oCallG (S_IsTriangle_w N v72.1 v72.2.1 v72.2.2 v82 hc129) rfl rfl rfl rfl hb127 rfl rfl rfl rfl rfl rfl rfl ⟨rfl, rfl, rfl, trivial⟩ ?_
            refine oPure (wSome rfl rfl rfl rfl hb127) (pEqB Try.underlying4 rfl rfl rfl) rfl rfl ?_
            refine oPick rfl rfl rfl rfl rfl hb127 rfl ?_
            refine oVal tt rfl rfl rfl rfl rfl trivial ?_
            refine oSplit rfl rfl rfl (fun hb130 => ?_) (fun hb130 => ?_)
            ·replace h := cnd_t hb130 h
             refine oValG tt rfl rfl rfl rfl rfl hb130 rfl rfl rfl trivial ?_
             obtain ⟨v83, hc131, h⟩ := bind_inv h
             refine oCallG (I_IsPlanar_w N v73 v83 hc131) rfl rfl rfl rfl hb130 rfl rfl rfl rfl rfl rfl rfl ⟨(.inl ⟨rfl, rfl⟩), trivial⟩ ?_
             refine oValG tt rfl rfl rfl rfl rfl hb130 rfl rfl rfl trivial ?_
             obtain ⟨v84, hc132, h⟩ := bind_inv h
             refine oCallG (S_IsPlanar_w N v73 v84 hc132) rfl rfl rfl rfl hb130 rfl rfl rfl rfl rfl rfl rfl ⟨(.inl ⟨rfl, rfl⟩), trivial⟩ ?_
             refine oPure (wSome rfl rfl rfl rfl hb130) (pEqB Try.underlying4 rfl rfl rfl) rfl rfl ?_
             refine oPick rfl rfl rfl rfl rfl hb130 rfl ?_
             refine oVal tt rfl rfl rfl rfl rfl trivial ?_
             refine oSplit rfl rfl rfl (fun hb133 => ?_) (fun hb133 => ?_)
             ·replace h := cnd_t hb133 h
              refine oValG tt rfl rfl rfl rfl rfl hb133 rfl rfl rfl trivial ?_
              obtain ⟨v85, hc134, h⟩ := bind_inv h
              refine oCallG (I_LastSquares_w N v74 v85 hc134) rfl rfl rfl rfl hb133 rfl rfl rfl rfl rfl rfl rfl ⟨rfl, trivial⟩ ?_
              refine oValG tt rfl rfl rfl rfl rfl hb133 rfl rfl rfl trivial ?_
              obtain ⟨v86, hc135, h⟩ := bind_inv h
              refine oCallG (S_LastSquares_w N v74 v86 hc135) rfl rfl rfl rfl hb133 rfl rfl rfl rfl rfl rfl rfl ⟨rfl, trivial⟩ ?_
              obtain ⟨v87, hc136, h⟩ := bind_inv h
              refine oCallG (L_sameInts_w N v85 v86 v87 hc136) rfl rfl rfl rfl hb133 rfl rfl rfl rfl rfl rfl rfl ⟨(.inl ⟨rfl, rfl⟩), (.inl ⟨rfl, rfl⟩), trivial⟩ ?_
              refine oPick rfl rfl rfl rfl rfl hb133 rfl ?_
              refine oVal tt rfl rfl rfl rfl rfl trivial ?_
              refine vNil ?_
              change VC _ _ _ _
              refine vRet ?_
              change ∃ _, _
              cases h
              exact ⟨[], _, rfl, trivial, rfl, (.eq rfl), rfl⟩
             ·replace h := cnd_f hb133 h
              iterate 5 refine oNoT rfl rfl rfl rfl hb133 rfl rfl ?_
              refine oPickF rfl rfl rfl rfl rfl hb133 rfl ?_
              refine oVal tt rfl rfl rfl rfl rfl trivial ?_
              refine vNil ?_
              change VC _ _ _ _
              refine vRet ?_
              change ∃ _, _
              cases h
              exact ⟨[], _, rfl, trivial, rfl, (.eq rfl), rfl⟩
            ·replace h := cnd_f hb130 h
             iterate 5 refine oNoT rfl rfl rfl rfl hb130 rfl rfl ?_
             refine oPickF rfl rfl rfl rfl rfl hb130 rfl ?_
             refine oVal tt rfl rfl rfl rfl rfl trivial ?_
             iterate 5 refine oNoT rfl rfl rfl rfl rfl rfl rfl ?_
             refine oPickF rfl rfl rfl rfl rfl rfl rfl ?_
             refine oVal tt rfl rfl rfl rfl rfl trivial ?_
             refine vNil ?_
             change VC _ _ _ _
             refine vRet ?_
             change ∃ _, _
             cases h
             exact ⟨[], _, rfl, trivial, rfl, (.eq rfl), rfl⟩
           ·replace h := cnd_f hb127 h
            iterate 9 refine oNoT rfl rfl rfl rfl hb127 rfl rfl ?_
            refine oPickF rfl rfl rfl rfl rfl hb127 rfl ?_
            refine oVal tt rfl rfl rfl rfl rfl trivial ?_
            iterate 5 refine oNoT rfl rfl rfl rfl rfl rfl rfl ?_
            refine oPickF rfl rfl rfl rfl rfl rfl rfl ?_
            refine oVal tt rfl rfl rfl rfl rfl trivial ?_
            iterate 5 refine oNoT rfl rfl rfl rfl rfl rfl rfl ?_
            refine oPickF rfl rfl rfl rfl rfl rfl rfl ?_
            refine oVal tt rfl rfl rfl rfl rfl trivial ?_
            refine vNil ?_
            change VC _ _ _ _
            refine vRet ?_
            change ∃ _, _
            cases h
            exact ⟨[], _, rfl, trivial, rfl, (.eq rfl), rfl⟩
          ·replace h := cnd_f hb124 h
           iterate 9 refine oNoT rfl rfl rfl rfl hb124 rfl rfl ?_
           refine oPickF rfl rfl rfl rfl rfl hb124 rfl ?_
           refine oVal tt rfl rfl rfl rfl rfl trivial ?_
           iterate 9 refine oNoT rfl rfl rfl rfl rfl rfl rfl ?_
           refine oPickF rfl rfl rfl rfl rfl rfl rfl ?_
           refine oVal tt rfl rfl rfl rfl rfl trivial ?_
           iterate 5 refine oNoT rfl rfl rfl rfl rfl rfl rfl ?_
           refine oPickF rfl rfl rfl rfl rfl rfl rfl ?_
           refine oVal tt rfl rfl rfl rfl rfl trivial ?_
           iterate 5 refine oNoT rfl rfl rfl rfl rfl rfl rfl ?_
           refine oPickF rfl rfl rfl rfl rfl rfl rfl ?_
           refine oVal tt rfl rfl rfl rfl rfl trivial ?_
           refine vNil ?_
           change VC _ _ _ _
           refine vRet ?_
           change ∃ _, _
           cases h
           exact ⟨[], _, rfl, trivial, rfl, (.eq rfl), rfl⟩
         ·replace h := cnd_f hb121 h
          iterate 9 refine oNoT rfl rfl rfl rfl hb121 rfl rfl ?_
          refine oPickF rfl rfl rfl rfl rfl hb121 rfl ?_
          refine oVal tt rfl rfl rfl rfl rfl trivial ?_
          iterate 9 refine oNoT rfl rfl rfl rfl rfl rfl rfl ?_
          refine oPickF rfl rfl rfl rfl rfl rfl rfl ?_
          refine oVal tt rfl rfl rfl rfl rfl trivial ?_
          iterate 9 refine oNoT rfl rfl rfl rfl rfl rfl rfl ?_
          refine oPickF rfl rfl rfl rfl rfl rfl rfl ?_
          refine oVal tt rfl rfl rfl rfl rfl trivial ?_
          iterate 5 refine oNoT rfl rfl rfl rfl rfl rfl rfl ?_
          refine oPickF rfl rfl rfl rfl rfl rfl rfl ?_
          refine oVal tt rfl rfl rfl rfl rfl trivial ?_
          iterate 5 refine oNoT rfl rfl rfl rfl rfl rfl rfl ?_
          refine oPickF rfl rfl rfl rfl rfl rfl rfl ?_
          refine oVal tt rfl rfl rfl rfl rfl trivial ?_
          refine vNil ?_
          change VC _ _ _ _
          refine vRet ?_
          change ∃ _, _
          cases h
          exact ⟨[], _, rfl, trivial, rfl, (.eq rfl), rfl⟩
      ·replace h := cnd_f hb102 h
       iterate 12 refine cNoT rfl rfl rfl rfl hb102 rfl rfl ?_
       iterate 22 refine cNoU rfl rfl rfl rfl rfl ?_
       refine cNoT rfl rfl rfl rfl hb102 rfl rfl ?_
       refine cPickF rfl (wNone rfl) rfl rfl rfl hb102 rfl ?_
       refine cNil ?_
       change VC _ _ _ _
       refine vCondF rfl rfl ?_
       refine vSkip ?_
       change VC _ _ _ _
       refine vSeq ?_
       refine vRegion ?_
       refine oVal tt rfl rfl rfl rfl rfl trivial ?_
       obtain ⟨v88, hc137, h⟩ := bind_inv h
       refine oCall (S_DrawMengerOf_w N code_0 v88 hc137) rfl rfl rfl rfl rfl rfl rfl rfl ⟨rfl, trivial⟩ ?_
       refine oVal tt rfl rfl rfl rfl rfl trivial ?_
       refine vNil ?_
       change VC _ _ _ _
       refine vSeq ?_
       refine vRegion ?_
       refine oVal tt rfl rfl rfl rfl rfl trivial ?_
       obtain ⟨v89, hc138, h⟩ := bind_inv h
       refine oCall (S_DrawHeronOf_w N code_0 v89 hc138) rfl rfl rfl rfl rfl rfl rfl rfl ⟨rfl, trivial⟩ ?_
       iterate 7 refine oVal tt rfl rfl rfl rfl rfl trivial ?_
       refine vNil ?_
       change VC _ _ _ _
       refine vSeq ?_
       refine vRegion ?_
       refine oVal tt rfl rfl rfl rfl rfl trivial ?_
       obtain ⟨v90, hc139, h⟩ := bind_inv h
       refine oCall (S_DrawIsTriangle_w N code_0 v90 hc139) rfl rfl rfl rfl rfl rfl rfl rfl ⟨rfl, trivial⟩ ?_
       iterate 7 refine oVal tt rfl rfl rfl rfl rfl trivial ?_
       refine vNil ?_
       change VC _ _ _ _
       refine vSeq ?_
       refine vRegion ?_
       refine oVal tt rfl rfl rfl rfl rfl trivial ?_
       obtain ⟨v91, hc140, h⟩ := bind_inv h
       refine oCall (S_DrawIsPlanar_w N code_0 v91 hc140) rfl rfl rfl rfl rfl rfl rfl rfl ⟨rfl, trivial⟩ ?_
       refine oVal tt rfl rfl rfl rfl rfl trivial ?_
       refine vNil ?_
       change VC _ _ _ _
       refine vSeq ?_
       refine vRegion ?_
       refine oVal tt rfl rfl rfl rfl rfl trivial ?_
       obtain ⟨v92, hc141, h⟩ := bind_inv h
       refine oCall (S_DrawLastSquares_w N code_0 v92 hc141) rfl rfl rfl rfl rfl rfl rfl rfl ⟨rfl, trivial⟩ ?_
       refine oVal tt rfl rfl rfl rfl rfl trivial ?_
       refine vNil ?_
       change VC _ _ _ _
       refine vSeq ?_
       refine vRegion ?_
       refine oVal tt rfl rfl rfl rfl rfl trivial ?_
       obtain ⟨v93, hc142, h⟩ := bind_inv h
       refine oCall (I_MengerOf_w N v88 v93 hc142) rfl rfl rfl rfl rfl rfl rfl rfl ⟨rfl, trivial⟩ ?_
       refine oVal tt rfl rfl rfl rfl rfl trivial ?_
       obtain ⟨v94, hc143, h⟩ := bind_inv h
       refine oCall (S_MengerOf_w N v88 v94 hc143) rfl rfl rfl rfl rfl rfl rfl rfl ⟨rfl, trivial⟩ ?_
       iterate 2 refine oVal tt rfl rfl rfl rfl rfl trivial ?_
       refine oSplit rfl rfl rfl (fun hb144 => ?_) (fun hb144 => ?_)
       ·replace h := cnd_t hb144 h
        iterate 3 refine oValG tt rfl rfl rfl rfl rfl hb144 rfl rfl rfl trivial ?_
        obtain ⟨v95, hc145, h⟩ := bind_inv h
        refine oCallG (I_HeronOf_w N v89.1 v89.2.1 v89.2.2 v95 hc145) rfl rfl rfl rfl hb144 rfl rfl rfl rfl rfl rfl rfl ⟨rfl, rfl, rfl, trivial⟩ ?_
        iterate 3 refine oValG tt rfl rfl rfl rfl rfl hb144 rfl rfl rfl trivial ?_
        obtain ⟨v96, hc146, h⟩ := bind_inv h
        refine oCallG (S_HeronOf_w N v89.1 v89.2.1 v89.2.2 v96 hc146) rfl rfl rfl rfl hb144 rfl rfl rfl rfl rfl rfl rfl ⟨rfl, rfl, rfl, trivial⟩ ?_
        refine oValG tt rfl rfl rfl rfl rfl hb144 rfl rfl rfl trivial ?_
        refine oPick rfl rfl rfl rfl rfl hb144 rfl ?_
        refine oVal tt rfl rfl rfl rfl rfl trivial ?_
        refine oSplit rfl rfl rfl (fun hb147 => ?_) (fun hb147 => ?_)
        ·replace h := cnd_t hb147 h
         iterate 3 refine oValG tt rfl rfl rfl rfl rfl hb147 rfl rfl rfl trivial ?_
         obtain ⟨v97, hc148, h⟩ := bind_inv h
         refine oCallG (I_HeronOf_w N v89.1 v89.2.1 v89.2.2 v97 hc148) rfl rfl rfl rfl hb147 rfl rfl rfl rfl rfl rfl rfl ⟨rfl, rfl, rfl, trivial⟩ ?_
         iterate 3 refine oValG tt rfl rfl rfl rfl rfl hb147 rfl rfl rfl trivial ?_
         obtain ⟨v98, hc149, h⟩ := bind_inv h
         refine oCallG (I_HeronOf_w N v89.2.2 v89.1 v89.2.1 v98 hc149) rfl rfl rfl rfl hb147 rfl rfl rfl rfl rfl rfl rfl ⟨rfl, rfl, rfl, trivial⟩ ?_
         refine oValG tt rfl rfl rfl rfl rfl hb147 rfl rfl rfl trivial ?_
         refine oPick rfl rfl rfl rfl rfl hb147 rfl ?_
         refine oVal tt rfl rfl rfl rfl rfl trivial ?_
         refine oSplit rfl rfl rfl (fun hb150 => ?_) (fun hb150 => ?_)
         ·replace h := cnd_t hb150 h
          iterate 3 refine oValG tt rfl rfl rfl rfl rfl hb150 rfl rfl rfl trivial ?_
          obtain ⟨v99, hc151, h⟩ := bind_inv h
          refine oCallG (I_IsTriangle_w N v90.1 v90.2.1 v90.2.2 v99 hc151) rfl rfl rfl rfl hb150 rfl rfl rfl rfl rfl rfl rfl ⟨rfl, rfl, rfl, trivial⟩ ?_
          iterate 3 refine oValG tt rfl rfl rfl rfl rfl hb150 rfl rfl rfl trivial ?_
          obtain ⟨v100, hc152, h⟩ := bind_inv h
          refine oCallG (S_IsTriangle_w N v90.1 v90.2.1 v90.2.2 v100 hc152) rfl rfl rfl rfl hb150 rfl rfl rfl rfl rfl rfl rfl ⟨rfl, rfl, rfl, trivial⟩ ?_
          refine oPure (wSome rfl rfl rfl rfl hb150) (pEqB Try.underlying4 rfl rfl rfl) rfl rfl ?_
          refine oPick rfl rfl rfl rfl rfl hb150 rfl ?_
          refine oVal tt rfl rfl rfl rfl rfl trivial ?_
          refine oSplit rfl rfl rfl (fun hb153 => ?_) (fun hb153 => ?_)
          ·replace h := cnd_t hb153 h
           refine oValG tt rfl rfl rfl rfl rfl hb153 rfl rfl rfl trivial ?_
           obtain ⟨v101, hc154, h⟩ := bind_inv h
           refine oCallG (I_IsPlanar_w N v91 v101 hc154) rfl rfl rfl rfl hb153 rfl rfl rfl rfl rfl rfl rfl ⟨(.inl ⟨rfl, rfl⟩), trivial⟩ ?_
           refine oValG tt rfl rfl rfl rfl rfl hb153 rfl rfl rfl trivial ?_
           obtain ⟨v102, hc155, h⟩ := bind_inv h
           refine oCallG (S_IsPlanar_w N v91 v102 hc155) rfl rfl rfl rfl hb153 rfl rfl rfl rfl rfl rfl rfl ⟨(.inl ⟨rfl, rfl⟩), trivial⟩ ?_
           refine oPure (wSome rfl rfl rfl rfl hb153) (pEqB Try.underlying4 rfl rfl rfl) rfl rfl ?_
           refine oPick rfl rfl rfl rfl rfl hb153 rfl ?_
           refine oVal tt rfl rfl rfl rfl rfl trivial ?_
           refine oSplit rfl rfl rfl (fun hb156 => ?_) (fun hb156 => ?_)
           ·replace h := cnd_t hb156 h
            refine oValG tt rfl rfl rfl rfl rfl hb156 rfl rfl rfl trivial ?_
            obtain ⟨v103, hc157, h⟩ := bind_inv h
            refine oCallG (I_LastSquares_w N v92 v103 hc157) rfl rfl rfl rfl hb156 rfl rfl rfl rfl rfl rfl rfl ⟨rfl, trivial⟩ ?_
            refine oValG tt rfl rfl rfl rfl rfl hb156 rfl rfl rfl trivial ?_
            obtain ⟨v104, hc158, h⟩ := bind_inv h
            refine oCallG (S_LastSquares_w N v92 v104 hc158) rfl rfl rfl rfl hb156 rfl rfl rfl rfl rfl rfl rfl ⟨rfl, trivial⟩ ?_
            obtain ⟨v105, hc159, h⟩ := bind_inv h
            refine oCallG (L_sameInts_w N v103 v104 v105 hc159) rfl rfl rfl rfl hb156 rfl rfl rfl rfl rfl rfl rfl ⟨(.inl ⟨rfl, rfl⟩), (.inl ⟨rfl, rfl⟩), trivial⟩ ?_
            refine oPick rfl rfl rfl rfl rfl hb156 rfl ?_
            refine oVal tt rfl rfl rfl rfl rfl trivial ?_
            refine vNil ?_
            change VC _ _ _ _
            refine vRet ?_
            change ∃ _, _
            cases h
            exact ⟨[], _, rfl, trivial, rfl, (.eq rfl), rfl⟩
           ·replace h := cnd_f hb156 h
            iterate 5 refine oNoT rfl rfl rfl rfl hb156 rfl rfl ?_
            refine oPickF rfl rfl rfl rfl rfl hb156 rfl ?_
            refine oVal tt rfl rfl rfl rfl rfl trivial ?_
            refine vNil ?_
            change VC _ _ _ _
            refine vRet ?_
            change ∃ _, _
            cases h
            exact ⟨[], _, rfl, trivial, rfl, (.eq rfl), rfl⟩
          ·replace h := cnd_f hb153 h
           iterate 5 refine oNoT rfl rfl rfl rfl hb153 rfl rfl ?_
           refine oPickF rfl rfl rfl rfl rfl hb153 rfl ?_
           refine oVal tt rfl rfl rfl rfl rfl trivial ?_
           iterate 5 refine oNoT rfl rfl rfl rfl rfl rfl rfl ?_
           refine oPickF rfl rfl rfl rfl rfl rfl rfl ?_
           refine oVal tt rfl rfl rfl rfl rfl trivial ?_
           refine vNil ?_
           change VC _ _ _ _
           refine vRet ?_
           change ∃ _, _
           cases h
           exact ⟨[], _, rfl, trivial, rfl, (.eq rfl), rfl⟩
         ·replace h := cnd_f hb150 h
          iterate 9 refine oNoT rfl rfl rfl rfl hb150 rfl rfl ?_
          refine oPickF rfl rfl rfl rfl rfl hb150 rfl ?_
          refine oVal tt rfl rfl rfl rfl rfl trivial ?_
          iterate 5 refine oNoT rfl rfl rfl rfl rfl rfl rfl ?_
          refine oPickF rfl rfl rfl rfl rfl rfl rfl ?_
          refine oVal tt rfl rfl rfl rfl rfl trivial ?_
          iterate 5 refine oNoT rfl rfl rfl rfl rfl rfl rfl ?_
          refine oPickF rfl rfl rfl rfl rfl rfl rfl ?_
          refine oVal tt rfl rfl rfl rfl rfl trivial ?_
          refine vNil ?_
          change VC _ _ _ _
          refine vRet ?_
          change ∃ _, _
          cases h
          exact ⟨[], _, rfl, trivial, rfl, (.eq rfl), rfl⟩
        ·replace h := cnd_f hb147 h
         iterate 9 refine oNoT rfl rfl rfl rfl hb147 rfl rfl ?_
         refine oPickF rfl rfl rfl rfl rfl hb147 rfl ?_
         refine oVal tt rfl rfl rfl rfl rfl trivial ?_
         iterate 9 refine oNoT rfl rfl rfl rfl rfl rfl rfl ?_
         refine oPickF rfl rfl rfl rfl rfl rfl rfl ?_
         refine oVal tt rfl rfl rfl rfl rfl trivial ?_
         iterate 5 refine oNoT rfl rfl rfl rfl rfl rfl rfl ?_
         refine oPickF rfl rfl rfl rfl rfl rfl rfl ?_
         refine oVal tt rfl rfl rfl rfl rfl trivial ?_
         iterate 5 refine oNoT rfl rfl rfl rfl rfl rfl rfl ?_
         refine oPickF rfl rfl rfl rfl rfl rfl rfl ?_
         refine oVal tt rfl rfl rfl rfl rfl trivial ?_
         refine vNil ?_
         change VC _ _ _ _
         refine vRet ?_
         change ∃ _, _
         cases h
         exact ⟨[], _, rfl, trivial, rfl, (.eq rfl), rfl⟩
       ·replace h := cnd_f hb144 h
        iterate 9 refine oNoT rfl rfl rfl rfl hb144 rfl rfl ?_
        refine oPickF rfl rfl rfl rfl rfl hb144 rfl ?_
        refine oVal tt rfl rfl rfl rfl rfl trivial ?_
        iterate 9 refine oNoT rfl rfl rfl rfl rfl rfl rfl ?_
        refine oPickF rfl rfl rfl rfl rfl rfl rfl ?_
        refine oVal tt rfl rfl rfl rfl rfl trivial ?_
        iterate 9 refine oNoT rfl rfl rfl rfl rfl rfl rfl ?_
        refine oPickF rfl rfl rfl rfl rfl rfl rfl ?_
        refine oVal tt rfl rfl rfl rfl rfl trivial ?_
        iterate 5 refine oNoT rfl rfl rfl rfl rfl rfl rfl ?_
        refine oPickF rfl rfl rfl rfl rfl rfl rfl ?_
        refine oVal tt rfl rfl rfl rfl rfl trivial ?_
        iterate 5 refine oNoT rfl rfl rfl rfl rfl rfl rfl ?_
        refine oPickF rfl rfl rfl rfl rfl rfl rfl ?_
        refine oVal tt rfl rfl rfl rfl rfl trivial ?_
        refine vNil ?_
        change VC _ _ _ _
        refine vRet ?_
        change ∃ _, _
        cases h
        exact ⟨[], _, rfl, trivial, rfl, (.eq rfl), rfl⟩
     ·replace h := cnd_f hb101 h
      iterate 3 refine cNoT rfl rfl rfl rfl hb101 rfl rfl ?_
      refine cPickF rfl (wNone rfl) rfl rfl rfl hb101 rfl ?_
      refine cVal tt rfl (wNone rfl) rfl rfl rfl trivial ?_
      iterate 12 refine cNoT rfl rfl rfl rfl rfl rfl rfl ?_
      iterate 22 refine cNoU rfl rfl rfl rfl rfl ?_
      refine cNoT rfl rfl rfl rfl rfl rfl rfl ?_
      refine cPickF rfl (wNone rfl) rfl rfl rfl rfl rfl ?_
      refine cNil ?_
      change VC _ _ _ _
      refine vCondF rfl rfl ?_
      refine vSkip ?_
      change VC _ _ _ _
      refine vSeq ?_
      refine vRegion ?_
      refine oVal tt rfl rfl rfl rfl rfl trivial ?_
      obtain ⟨v106, hc160, h⟩ := bind_inv h
      refine oCall (S_DrawMengerOf_w N code_0 v106 hc160) rfl rfl rfl rfl rfl rfl rfl rfl ⟨rfl, trivial⟩ ?_
      refine oVal tt rfl rfl rfl rfl rfl trivial ?_
      refine vNil ?_
      change VC _ _ _ _
      refine vSeq ?_
      refine vRegion ?_
      refine oVal tt rfl rfl rfl rfl rfl trivial ?_
      obtain ⟨v107, hc161, h⟩ := bind_inv h
      refine oCall (S_DrawHeronOf_w N code_0 v107 hc161) rfl rfl rfl rfl rfl rfl rfl rfl ⟨rfl, trivial⟩ ?_
      iterate 7 refine oVal tt rfl rfl rfl rfl rfl trivial ?_
      refine vNil ?_
      change VC _ _ _ _
      refine vSeq ?_
      refine vRegion ?_
      refine oVal tt rfl rfl rfl rfl rfl trivial ?_
      obtain ⟨v108, hc162, h⟩ := bind_inv h
      refine oCall (S_DrawIsTriangle_w N code_0 v108 hc162) rfl rfl rfl rfl rfl rfl rfl rfl ⟨rfl, trivial⟩ ?_
      iterate 7 refine oVal tt rfl rfl rfl rfl rfl trivial ?_
      refine vNil ?_
      change VC _ _ _ _
      refine vSeq ?_
      refine vRegion ?_
      refine oVal tt rfl rfl rfl rfl rfl trivial ?_
      obtain ⟨v109, hc163, h⟩ := bind_inv h
      refine oCall (S_DrawIsPlanar_w N code_0 v109 hc163) rfl rfl rfl rfl rfl rfl rfl rfl ⟨rfl, trivial⟩ ?_
      refine oVal tt rfl rfl rfl rfl rfl trivial ?_
      refine vNil ?_
      change VC _ _ _ _
      refine vSeq ?_
      refine vRegion ?_
      refine oVal tt rfl rfl rfl rfl rfl trivial ?_
      obtain ⟨v110, hc164, h⟩ := bind_inv h
      refine oCall (S_DrawLastSquares_w N code_0 v110 hc164) rfl rfl rfl rfl rfl rfl rfl rfl ⟨rfl, trivial⟩ ?_
      refine oVal tt rfl rfl rfl rfl rfl trivial ?_
      refine vNil ?_
      change VC _ _ _ _
      refine vSeq ?_
      refine vRegion ?_
      refine oVal tt rfl rfl rfl rfl rfl trivial ?_
      obtain ⟨v111, hc165, h⟩ := bind_inv h
      refine oCall (I_MengerOf_w N v106 v111 hc165) rfl rfl rfl rfl rfl rfl rfl rfl ⟨rfl, trivial⟩ ?_
      refine oVal tt rfl rfl rfl rfl rfl trivial ?_
      obtain ⟨v112, hc166, h⟩ := bind_inv h
      refine oCall (S_MengerOf_w N v106 v112 hc166) rfl rfl rfl rfl rfl rfl rfl rfl ⟨rfl, trivial⟩ ?_
      iterate 2 refine oVal tt rfl rfl rfl rfl rfl trivial ?_
      refine oSplit rfl rfl rfl (fun hb167 => ?_) (fun hb167 => ?_)
      ·replace h := cnd_t hb167 h
       iterate 3 refine oValG tt rfl rfl rfl rfl rfl hb167 rfl rfl rfl trivial ?_
       obtain ⟨v113, hc168, h⟩ := bind_inv h
       refine oCallG (I_HeronOf_w N v107.1 v107.2.1 v107.2.2 v113 hc168) rfl rfl rfl rfl hb167 rfl rfl rfl rfl rfl rfl rfl ⟨rfl, rfl, rfl, trivial⟩ ?_
       iterate 3 refine oValG tt rfl rfl rfl rfl rfl hb167 rfl rfl rfl trivial ?_
       obtain ⟨v114, hc169, h⟩ := bind_inv h
       refine oCallG (S_HeronOf_w N v107.1 v107.2.1 v107.2.2 v114 hc169) rfl rfl rfl rfl hb167 rfl rfl rfl rfl rfl rfl rfl ⟨rfl, rfl, rfl, trivial⟩ ?_
       refine oValG tt rfl rfl rfl rfl rfl hb167 rfl rfl rfl trivial ?_
       refine oPick rfl rfl rfl rfl rfl hb167 rfl ?_
       refine oVal tt rfl rfl rfl rfl rfl trivial ?_
       refine oSplit rfl rfl rfl (fun hb170 => ?_) (fun hb170 => ?_)
       ·replace h := cnd_t hb170 h
        iterate 3 refine oValG tt rfl rfl rfl rfl rfl hb170 rfl rfl rfl trivial ?_
        obtain ⟨v115, hc171, h⟩ := bind_inv h
        refine oCallG (I_HeronOf_w N v107.1 v107.2.1 v107.2.2 v115 hc171) rfl rfl rfl rfl hb170 rfl rfl rfl rfl rfl rfl rfl ⟨rfl, rfl, rfl, trivial⟩ ?_
        iterate 3 refine oValG tt rfl rfl rfl rfl rfl hb170 rfl rfl rfl trivial ?_
        obtain ⟨v116, hc172, h⟩ := bind_inv h
        refine oCallG (I_HeronOf_w N v107.2.2 v107.1 v107.2.1 v116 hc172) rfl rfl rfl rfl hb170 rfl rfl rfl rfl rfl rfl rfl ⟨rfl, rfl, rfl, trivial⟩ ?_
        refine oValG tt rfl rfl rfl rfl rfl hb170 rfl rfl rfl trivial ?_
        refine oPick rfl rfl rfl rfl rfl hb170 rfl ?_
        refine oVal tt rfl rfl rfl rfl rfl trivial ?_
        refine oSplit rfl rfl rfl (fun hb173 => ?_) (fun hb173 => ?_)
        ·replace h := cnd_t hb173 h
         iterate 3 refine oValG tt rfl rfl rfl rfl rfl hb173 rfl rfl rfl trivial ?_
         obtain ⟨v117, hc174, h⟩ := bind_inv h
         refine oCallG (I_IsTriangle_w N v108.1 v108.2.1 v108.2.2 v117 hc174) rfl rfl rfl rfl hb173 rfl rfl rfl rfl rfl rfl rfl ⟨rfl, rfl, rfl, trivial⟩ ?_
         iterate 3 refine oValG tt rfl rfl rfl rfl rfl hb173 rfl rfl rfl trivial ?_
         obtain ⟨v118, hc175, h⟩ := bind_inv h
         refine oCallG (S_IsTriangle_w N v108.1 v108.2.1 v108.2.2 v118 hc175) rfl rfl rfl rfl hb173 rfl rfl rfl rfl rfl rfl rfl ⟨rfl, rfl, rfl, trivial⟩ ?_
         refine oPure (wSome rfl rfl rfl rfl hb173) (pEqB Try.underlying4 rfl rfl rfl) rfl rfl ?_
         refine oPick rfl rfl rfl rfl rfl hb173 rfl ?_
         refine oVal tt rfl rfl rfl rfl rfl trivial ?_
         refine oSplit rfl rfl rfl (fun hb176 => ?_) (fun hb176 => ?_)
         ·replace h := cnd_t hb176 h
          refine oValG tt rfl rfl rfl rfl rfl hb176 rfl rfl rfl trivial ?_
          obtain ⟨v119, hc177, h⟩ := bind_inv h
          refine oCallG (I_IsPlanar_w N v109 v119 hc177) rfl rfl rfl rfl hb176 rfl rfl rfl rfl rfl rfl rfl ⟨(.inl ⟨rfl, rfl⟩), trivial⟩ ?_
          refine oValG tt rfl rfl rfl rfl rfl hb176 rfl rfl rfl trivial ?_
          obtain ⟨v120, hc178, h⟩ := bind_inv h
          refine oCallG (S_IsPlanar_w N v109 v120 hc178) rfl rfl rfl rfl hb176 rfl rfl rfl rfl rfl rfl rfl ⟨(.inl ⟨rfl, rfl⟩), trivial⟩ ?_
          refine oPure (wSome rfl rfl rfl rfl hb176) (pEqB Try.underlying4 rfl rfl rfl) rfl rfl ?_
          refine oPick rfl rfl rfl rfl rfl hb176 rfl ?_
          refine oVal tt rfl rfl rfl rfl rfl trivial ?_
          refine oSplit rfl rfl rfl (fun hb179 => ?_) (fun hb179 => ?_)
          ·replace h := cnd_t hb179 h
           refine oValG tt rfl rfl rfl rfl rfl hb179 rfl rfl rfl trivial ?_
           obtain ⟨v121, hc180, h⟩ := bind_inv h
           refine oCallG (I_LastSquares_w N v110 v121 hc180) rfl rfl rfl rfl hb179 rfl rfl rfl rfl rfl rfl rfl ⟨rfl, trivial⟩ ?_
           refine oValG tt rfl rfl rfl rfl rfl hb179 rfl rfl rfl trivial ?_
           obtain ⟨v122, hc181, h⟩ := bind_inv h
           refine oCallG (S_LastSquares_w N v110 v122 hc181) rfl rfl rfl rfl hb179 rfl rfl rfl rfl rfl rfl rfl ⟨rfl, trivial⟩ ?_
           obtain ⟨v123, hc182, h⟩ := bind_inv h
           refine oCallG (L_sameInts_w N v121 v122 v123 hc182) rfl rfl rfl rfl hb179 rfl rfl rfl rfl rfl rfl rfl ⟨(.inl ⟨rfl, rfl⟩), (.inl ⟨rfl, rfl⟩), trivial⟩ ?_
           refine oPick rfl rfl rfl rfl rfl hb179 rfl ?_
           refine oVal tt rfl rfl rfl rfl rfl trivial ?_
           refine vNil ?_
           change VC _ _ _ _
           refine vRet ?_
           change ∃ _, _
           cases h
           exact ⟨[], _, rfl, trivial, rfl, (.eq rfl), rfl⟩
          ·replace h := cnd_f hb179 h
           iterate 5 refine oNoT rfl rfl rfl rfl hb179 rfl rfl ?_
           refine oPickF rfl rfl rfl rfl rfl hb179 rfl ?_
           refine oVal tt rfl rfl rfl rfl rfl trivial ?_
           refine vNil ?_
           change VC _ _ _ _
           refine vRet ?_
           change ∃ _, _
           cases h
           exact ⟨[], _, rfl, trivial, rfl, (.eq rfl), rfl⟩
         ·replace h := cnd_f hb176 h
          iterate 5 refine oNoT rfl rfl rfl rfl hb176 rfl rfl ?_
          refine oPickF rfl rfl rfl rfl rfl hb176 rfl ?_
          refine oVal tt rfl rfl rfl rfl rfl trivial ?_
          iterate 5 refine oNoT rfl rfl rfl rfl rfl rfl rfl ?_
          refine oPickF rfl rfl rfl rfl rfl rfl rfl ?_
          refine oVal tt rfl rfl rfl rfl rfl trivial ?_
          refine vNil ?_
          change VC _ _ _ _
          refine vRet ?_
          change ∃ _, _
          cases h
          exact ⟨[], _, rfl, trivial, rfl, (.eq rfl), rfl⟩
        ·replace h := cnd_f hb173 h
         iterate 9 refine oNoT rfl rfl rfl rfl hb173 rfl rfl ?_
         refine oPickF rfl rfl rfl rfl rfl hb173 rfl ?_
         refine oVal tt rfl rfl rfl rfl rfl trivial ?_
         iterate 5 refine oNoT rfl rfl rfl rfl rfl rfl rfl ?_
         refine oPickF rfl rfl rfl rfl rfl rfl rfl ?_
         refine oVal tt rfl rfl rfl rfl rfl trivial ?_
         iterate 5 refine oNoT rfl rfl rfl rfl rfl rfl rfl ?_
         refine oPickF rfl rfl rfl rfl rfl rfl rfl ?_
         refine oVal tt rfl rfl rfl rfl rfl trivial ?_
         refine vNil ?_
         change VC _ _ _ _
         refine vRet ?_
         change ∃ _, _
         cases h
         exact ⟨[], _, rfl, trivial, rfl, (.eq rfl), rfl⟩
       ·replace h := cnd_f hb170 h
        iterate 9 refine oNoT rfl rfl rfl rfl hb170 rfl rfl ?_
        refine oPickF rfl rfl rfl rfl rfl hb170 rfl ?_
        refine oVal tt rfl rfl rfl rfl rfl trivial ?_
        iterate 9 refine oNoT rfl rfl rfl rfl rfl rfl rfl ?_
        refine oPickF rfl rfl rfl rfl rfl rfl rfl ?_
        refine oVal tt rfl rfl rfl rfl rfl trivial ?_
        iterate 5 refine oNoT rfl rfl rfl rfl rfl rfl rfl ?_
        refine oPickF rfl rfl rfl rfl rfl rfl rfl ?_
        refine oVal tt rfl rfl rfl rfl rfl trivial ?_
        iterate 5 refine oNoT rfl rfl rfl rfl rfl rfl rfl ?_
        refine oPickF rfl rfl rfl rfl rfl rfl rfl ?_
        refine oVal tt rfl rfl rfl rfl rfl trivial ?_
        refine vNil ?_
        change VC _ _ _ _
        refine vRet ?_
        change ∃ _, _
        cases h
        exact ⟨[], _, rfl, trivial, rfl, (.eq rfl), rfl⟩
      ·replace h := cnd_f hb167 h
       iterate 9 refine oNoT rfl rfl rfl rfl hb167 rfl rfl ?_
       refine oPickF rfl rfl rfl rfl rfl hb167 rfl ?_
       refine oVal tt rfl rfl rfl rfl rfl trivial ?_
       iterate 9 refine oNoT rfl rfl rfl rfl rfl rfl rfl ?_
       refine oPickF rfl rfl rfl rfl rfl rfl rfl ?_
       refine oVal tt rfl rfl rfl rfl rfl trivial ?_
       iterate 9 refine oNoT rfl rfl rfl rfl rfl rfl rfl ?_
       refine oPickF rfl rfl rfl rfl rfl rfl rfl ?_
       refine oVal tt rfl rfl rfl rfl rfl trivial ?_
       iterate 5 refine oNoT rfl rfl rfl rfl rfl rfl rfl ?_
       refine oPickF rfl rfl rfl rfl rfl rfl rfl ?_
       refine oVal tt rfl rfl rfl rfl rfl trivial ?_
       iterate 5 refine oNoT rfl rfl rfl rfl rfl rfl rfl ?_
       refine oPickF rfl rfl rfl rfl rfl rfl rfl ?_
       refine oVal tt rfl rfl rfl rfl rfl trivial ?_
       refine vNil ?_
       change VC _ _ _ _
       refine vRet ?_
       change ∃ _, _
       cases h
       exact ⟨[], _, rfl, trivial, rfl, (.eq rfl), rfl⟩
   ·replace h := cnd_f hb8 h
    iterate 3 refine nNoT rfl rfl rfl rfl hb8 rfl rfl ?_
    refine nPickF rfl (wNone rfl) rfl rfl rfl hb8 rfl rfl ?_
    refine nVal tt rfl (wNone rfl) rfl rfl rfl rfl rfl trivial ?_
    iterate 4 refine nNoT rfl rfl rfl rfl rfl rfl rfl ?_
    iterate 3 refine nNoU rfl rfl rfl rfl rfl ?_
    iterate 2 refine nNoT rfl rfl rfl rfl rfl rfl rfl ?_
    iterate 6 refine nNoU rfl rfl rfl rfl rfl ?_
    refine nNil ?_
    change VO _ _ _ _ _
    iterate 2 refine oNoU rfl rfl rfl rfl rfl ?_
    refine oNoT rfl rfl rfl rfl rfl rfl rfl ?_
    refine oPickF rfl rfl rfl rfl rfl rfl rfl ?_
    refine vNil ?_
    change VC _ _ _ _
    refine vCondF rfl rfl ?_
    refine vSkip ?_
    change VC _ _ _ _
    iterate 2 refine vSeq ?_
    refine vRegionD (by kernel_rfl) (by kernel_rfl) ?_
    iterate 4 refine cVal tt rfl (wNone rfl) rfl rfl rfl trivial ?_
    refine cSplit rfl rfl rfl (fun hb183 => ?_) (fun hb183 => ?_)
    ·replace h := cnd_t hb183 h
     iterate 3 refine cVal tt rfl (wSome rfl rfl rfl rfl hb183) rfl rfl rfl trivial ?_
     refine cPickT rfl (wNone rfl) rfl rfl rfl hb183 rfl ?_
     refine cVal tt rfl (wNone rfl) rfl rfl rfl trivial ?_
     refine cSplit rfl rfl rfl (fun hb184 => ?_) (fun hb184 => ?_)
     ·replace h := cnd_t hb184 h
      refine cVal tt rfl (wSome rfl rfl rfl rfl hb184) rfl rfl rfl trivial ?_
      obtain ⟨hg185, h⟩ := grd_inv h
      refine cVal tt rfl (wSome rfl rfl rfl rfl hb184) rfl rfl rfl hg185 ?_
      iterate 2 refine cVal tt rfl (wSome rfl rfl rfl rfl hb184) rfl rfl rfl trivial ?_
      obtain ⟨hg186, h⟩ := grd_inv h
      refine cVal tt rfl (wSome rfl rfl rfl rfl hb184) rfl rfl rfl hg186 ?_
      iterate 2 refine cVal tt rfl (wSome rfl rfl rfl rfl hb184) rfl rfl rfl trivial ?_
      obtain ⟨hg187, h⟩ := grd_inv h
      refine cVal tt rfl (wSome rfl rfl rfl rfl hb184) rfl rfl rfl hg187 ?_
      refine cVal tt rfl (wSome rfl rfl rfl rfl hb184) rfl rfl rfl trivial ?_
      obtain ⟨v124, hc188, h⟩ := bind_inv h
      refine cCall (I_IsTriangle_w N (v3.getD ((0 : Int).toNat) 0) (v3.getD ((1 : Int).toNat) 0) (v3.getD ((2 : Int).toNat) 0) v124 hc188) rfl (wSome rfl rfl rfl rfl hb184) rfl rfl rfl rfl rfl rfl ⟨rfl, rfl, rfl, trivial⟩ ?_
      iterate 2 refine cVal tt rfl (wSome rfl rfl rfl rfl hb184) rfl rfl rfl trivial ?_
      refine cSplit rfl rfl rfl (fun hb189 => ?_) (fun hb189 => ?_)
      ·replace h := cnd_t hb189 h
       iterate 22 refine cNoF rfl rfl rfl rfl hb189 rfl rfl ?_
       refine cPickT rfl (wSome rfl rfl rfl rfl hb184) rfl rfl rfl hb189 rfl ?_
       refine cPickT rfl (wNone rfl) rfl rfl rfl hb184 rfl ?_
       refine cNil ?_
       change VC _ _ _ _
       refine vCondT rfl rfl ?_
       refine vSeq ?_
       refine vRegion ?_
       refine oVal tt rfl rfl rfl rfl rfl trivial ?_
       refine vNil ?_
       change VC _ _ _ _
       refine vRet ?_
       change ∃ _, _
       cases h
       exact ⟨[], _, rfl, trivial, rfl, (.eq rfl), rfl⟩
      ·replace h := cnd_f hb189 h
       refine cVal tt rfl (wSome rfl rfl rfl rfl hb189) rfl rfl rfl trivial ?_
       refine cVal tt rfl (wSome rfl rfl rfl rfl hb189) rfl rfl rfl hg185 ?_
       iterate 2 refine cVal tt rfl (wSome rfl rfl rfl rfl hb189) rfl rfl rfl trivial ?_
       refine cVal tt rfl (wSome rfl rfl rfl rfl hb189) rfl rfl rfl hg186 ?_
       iterate 2 refine cVal tt rfl (wSome rfl rfl rfl rfl hb189) rfl rfl rfl trivial ?_
       refine cVal tt rfl (wSome rfl rfl rfl rfl hb189) rfl rfl rfl hg187 ?_
       refine cVal tt rfl (wSome rfl rfl rfl rfl hb189) rfl rfl rfl trivial ?_
       obtain ⟨v125, hc190, h⟩ := bind_inv h
       refine cCall (I_HeronOf_w N (v3.getD ((0 : Int).toNat) 0) (v3.getD ((1 : Int).toNat) 0) (v3.getD ((2 : Int).toNat) 0) v125 hc190) rfl (wSome rfl rfl rfl rfl hb189) rfl rfl rfl rfl rfl rfl ⟨rfl, rfl, rfl, trivial⟩ ?_
       iterate 2 refine cVal tt rfl (wSome rfl rfl rfl rfl hb189) rfl rfl rfl trivial ?_
       obtain ⟨hg191, h⟩ := grd_inv h
       refine cVal tt rfl (wSome rfl rfl rfl rfl hb189) rfl rfl rfl hg191 ?_
       iterate 2 refine cVal tt rfl (wSome rfl rfl rfl rfl hb189) rfl rfl rfl trivial ?_
       obtain ⟨hg192, h⟩ := grd_inv h
       refine cVal tt rfl (wSome rfl rfl rfl rfl hb189) rfl rfl rfl hg192 ?_
       iterate 2 refine cVal tt rfl (wSome rfl rfl rfl rfl hb189) rfl rfl rfl trivial ?_
       obtain ⟨hg193, h⟩ := grd_inv h
       refine cVal tt rfl (wSome rfl rfl rfl rfl hb189) rfl rfl rfl hg193 ?_
       refine cVal tt rfl (wSome rfl rfl rfl rfl hb189) rfl rfl rfl trivial ?_
       obtain ⟨v126, hc194, h⟩ := bind_inv h
       refine cCall (S_AreCollinear_w N (v2.getD ((0 : Int).toNat) (0, 0)) (v2.getD ((1 : Int).toNat) (0, 0)) (v2.getD ((2 : Int).toNat) (0, 0)) v126 hc194) rfl (wSome rfl rfl rfl rfl hb189) rfl rfl rfl rfl rfl rfl ⟨⟨rfl, rfl, trivial⟩, ⟨rfl, rfl, trivial⟩, ⟨rfl, rfl, trivial⟩, trivial⟩ ?_
       refine cPure (wSome rfl rfl rfl rfl hb189) (pNeB Try.underlying4 rfl rfl rfl) rfl rfl ?_
       refine cPickF rfl (wSome rfl rfl rfl rfl hb184) rfl rfl rfl hb189 rfl ?_
       refine cPickT rfl (wNone rfl) rfl rfl rfl hb184 rfl ?_
       refine cNil ?_
       change VC _ _ _ _
       refine vCond rfl (fun hb195 => ?_) (fun hb195 => ?_)
       ·replace h := cnd_t hb195 h
        refine vSeq ?_
        refine vRegion ?_
        refine oVal tt rfl rfl rfl rfl rfl trivial ?_
        refine vNil ?_
        change VC _ _ _ _
        refine vRet ?_
        change ∃ _, _
        cases h
        exact ⟨[], _, rfl, trivial, rfl, (.eq rfl), rfl⟩
       ·replace h := cnd_f hb195 h
        refine vSkip ?_
        change VC _ _ _ _
        refine vSeq ?_
        refine vRegion ?_
        refine oVal tt rfl rfl rfl rfl rfl trivial ?_
        obtain ⟨v127, hc196, h⟩ := bind_inv h
        refine oCall (S_DrawMengerOf_w N code_0 v127 hc196) rfl rfl rfl rfl rfl rfl rfl rfl ⟨rfl, trivial⟩ ?_
        refine oVal tt rfl rfl rfl rfl rfl trivial ?_
        refine vNil ?_
        change VC _ _ _ _
        refine vSeq ?_
        refine vRegion ?_
        refine oVal tt rfl rfl rfl rfl rfl trivial ?_
        obtain ⟨v128, hc197, h⟩ := bind_inv h
        refine oCall (S_DrawHeronOf_w N code_0 v128 hc197) rfl rfl rfl rfl rfl rfl rfl rfl ⟨rfl, trivial⟩ ?_
        iterate 7 refine oVal tt rfl rfl rfl rfl rfl trivial ?_
        refine vNil ?_
        change VC _ _ _ _
        refine vSeq ?_
        refine vRegion ?_
        refine oVal tt rfl rfl rfl rfl rfl trivial ?_
        obtain ⟨v129, hc198, h⟩ := bind_inv h
        refine oCall (S_DrawIsTriangle_w N code_0 v129 hc198) rfl rfl rfl rfl rfl rfl rfl rfl ⟨rfl, trivial⟩ ?_
        iterate 7 refine oVal tt rfl rfl rfl rfl rfl trivial ?_
        refine vNil ?_
        change VC _ _ _ _
        refine vSeq ?_
        refine vRegion ?_
        refine oVal tt rfl rfl rfl rfl rfl trivial ?_
        obtain ⟨v130, hc199, h⟩ := bind_inv h
        refine oCall (S_DrawIsPlanar_w N code_0 v130 hc199) rfl rfl rfl rfl rfl rfl rfl rfl ⟨rfl, trivial⟩ ?_
        refine oVal tt rfl rfl rfl rfl rfl trivial ?_
        refine vNil ?_
        change VC _ _ _ _
        refine vSeq ?_
        refine vRegion ?_
        refine oVal tt rfl rfl rfl rfl rfl trivial ?_
        obtain ⟨v131, hc200, h⟩ := bind_inv h
        refine oCall (S_DrawLastSquares_w N code_0 v131 hc200) rfl rfl rfl rfl rfl rfl rfl rfl ⟨rfl, trivial⟩ ?_
        refine oVal tt rfl rfl rfl rfl rfl trivial ?_
        refine vNil ?_
        change VC _ _ _ _
        refine vSeq ?_
        refine vRegion ?_
        refine oVal tt rfl rfl rfl rfl rfl trivial ?_
        obtain ⟨v132, hc201, h⟩ := bind_inv h
        refine oCall (I_MengerOf_w N v127 v132 hc201) rfl rfl rfl rfl rfl rfl rfl rfl ⟨rfl, trivial⟩ ?_
        refine oVal tt rfl rfl rfl rfl rfl trivial ?_
        obtain ⟨v133, hc202, h⟩ := bind_inv h
        refine oCall (S_MengerOf_w N v127 v133 hc202) rfl rfl rfl rfl rfl rfl rfl rfl ⟨rfl, trivial⟩ ?_
        iterate 2 refine oVal tt rfl rfl rfl rfl rfl trivial ?_
        refine oSplit rfl rfl rfl (fun hb203 => ?_) (fun hb203 => ?_)
        ·replace h := cnd_t hb203 h
         iterate 3 refine oValG tt rfl rfl rfl rfl rfl hb203 rfl rfl rfl trivial ?_
         obtain ⟨v134, hc204, h⟩ := bind_inv h
         refine oCallG (I_HeronOf_w N v128.1 v128.2.1 v128.2.2 v134 hc204) rfl rfl rfl rfl hb203 rfl rfl rfl rfl rfl rfl rfl ⟨rfl, rfl, rfl, trivial⟩ ?_
         iterate 3 refine oValG tt rfl rfl rfl rfl rfl hb203 rfl rfl rfl trivial ?_
         obtain ⟨v135, hc205, h⟩ := bind_inv h
         refine oCallG (S_HeronOf_w N v128.1 v128.2.1 v128.2.2 v135 hc205) rfl rfl rfl rfl hb203 rfl rfl rfl rfl rfl rfl rfl ⟨rfl, rfl, rfl, trivial⟩ ?_
         refine oValG tt rfl rfl rfl rfl rfl hb203 rfl rfl rfl trivial ?_
         refine oPick rfl rfl rfl rfl rfl hb203 rfl ?_
         refine oVal tt rfl rfl rfl rfl rfl trivial ?_
         refine oSplit rfl rfl rfl (fun hb206 => ?_) (fun hb206 => ?_)
         ·replace h := cnd_t hb206 h
          iterate 3 refine oValG tt rfl rfl rfl rfl rfl hb206 rfl rfl rfl trivial ?_
          obtain ⟨v136, hc207, h⟩ := bind_inv h
          refine oCallG (I_HeronOf_w N v128.1 v128.2.1 v128.2.2 v136 hc207) rfl rfl rfl rfl hb206 rfl rfl rfl rfl rfl rfl rfl ⟨rfl, rfl, rfl, trivial⟩ ?_
          iterate 3 refine oValG tt rfl rfl rfl rfl rfl hb206 rfl rfl rfl trivial ?_
          obtain ⟨v137, hc208, h⟩ := bind_inv h
          refine oCallG (I_HeronOf_w N v128.2.2 v128.1 v128.2.1 v137 hc208) rfl rfl rfl rfl hb206 rfl rfl rfl rfl rfl rfl rfl ⟨rfl, rfl, rfl, trivial⟩ ?_
          refine oValG tt rfl rfl rfl rfl rfl hb206 rfl rfl rfl trivial ?_
          refine oPick rfl rfl rfl rfl rfl hb206 rfl ?_
          refine oVal tt rfl rfl rfl rfl rfl trivial ?_
          refine oSplit rfl rfl rfl (fun hb209 => ?_) (fun hb209 => ?_)
          ·replace h := cnd_t hb209 h
           iterate 3 refine oValG tt rfl rfl rfl rfl rfl hb209 rfl rfl rfl trivial ?_
           obtain ⟨v138, hc210, h⟩ := bind_inv h
           refine oCallG (I_IsTriangle_w N v129.1 v129.2.1 v129.2.2 v138 hc210) rfl rfl rfl rfl hb209 rfl rfl rfl rfl rfl rfl rfl ⟨rfl, rfl, rfl, trivial⟩ ?_
           iterate 3 refine oValG tt rfl rfl rfl rfl rfl hb209 rfl rfl rfl trivial ?_
           obtain ⟨v139, hc211, h⟩ := bind_inv h
           refine oCallG (S_IsTriangle_w N v129.1 v129.2.1 v129.2.2 v139 hc211) rfl rfl rfl rfl hb209 rfl rfl rfl rfl rfl rfl rfl ⟨rfl, rfl, rfl, trivial⟩ ?_
           refine oPure (wSome rfl rfl rfl rfl hb209) (pEqB Try.underlying4 rfl rfl rfl) rfl rfl ?_
           refine oPick rfl rfl rfl rfl rfl hb209 rfl ?_
           refine oVal tt rfl rfl rfl rfl rfl trivial ?_
           refine oSplit rfl rfl rfl (fun hb212 => ?_) (fun hb212 => ?_)
           ·replace h := cnd_t hb212 h
            refine oValG tt rfl rfl rfl rfl rfl hb212 rfl rfl rfl trivial ?_
            obtain ⟨v140, hc213, h⟩ := bind_inv h
            refine oCallG (I_IsPlanar_w N v130 v140 hc213) rfl rfl rfl rfl hb212 rfl rfl rfl rfl rfl rfl rfl ⟨(.inl ⟨rfl, rfl⟩), trivial⟩ ?_
            refine oValG tt rfl rfl rfl rfl rfl hb212 rfl rfl rfl trivial ?_
            obtain ⟨v141, hc214, h⟩ := bind_inv h
            refine oCallG (S_IsPlanar_w N v130 v141 hc214) rfl rfl rfl rfl hb212 rfl rfl rfl rfl rfl rfl rfl ⟨(.inl ⟨rfl, rfl⟩), trivial⟩ ?_
            refine oPure (wSome rfl rfl rfl rfl hb212) (pEqB Try.underlying4 rfl rfl rfl) rfl rfl ?_
            refine oPick rfl rfl rfl rfl rfl hb212 rfl ?_
            refine oVal tt rfl rfl rfl rfl rfl trivial ?_
            refine oSplit rfl rfl rfl (fun hb215 => ?_) (fun hb215 => ?_)
            ·replace h := cnd_t hb215 h
             refine oValG tt rfl rfl rfl rfl rfl hb215 rfl rfl rfl trivial ?_
             obtain ⟨v142, hc216, h⟩ := bind_inv h
             refine oCallG (I_LastSquares_w N v131 v142 hc216) rfl rfl rfl rfl hb215 rfl rfl rfl rfl rfl rfl rfl ⟨rfl, trivial⟩ ?_
             refine oValG tt rfl rfl rfl rfl rfl hb215 rfl rfl rfl trivial ?_
             obtain ⟨v143, hc217, h⟩ := bind_inv h
             refine oCallG (S_LastSquares_w N v131 v143 hc217) rfl rfl rfl rfl hb215 rfl rfl rfl rfl rfl rfl rfl ⟨rfl, trivial⟩ ?_
             obtain ⟨v144, hc218, h⟩ := bind_inv h
             refine oCallG (L_sameInts_w N v142 v143 v144 hc218) rfl rfl rfl rfl hb215 rfl rfl rfl rfl rfl rfl rfl ⟨(.inl ⟨rfl, rfl⟩), (.inl ⟨rfl, rfl⟩), trivial⟩ ?_
             refine oPick rfl rfl rfl rfl rfl hb215 rfl ?_
             refine oVal tt rfl rfl rfl rfl rfl trivial ?_
             refine vNil ?_
             change VC _ _ _ _
             refine vRet ?_
             change ∃ _, _
             cases h
             exact ⟨[], _, rfl, trivial, rfl, (.eq rfl), rfl⟩
            ·replace h := cnd_f hb215 h
             iterate 5 refine oNoT rfl rfl rfl rfl hb215 rfl rfl ?_
             refine oPickF rfl rfl rfl rfl rfl hb215 rfl ?_
             refine oVal tt rfl rfl rfl rfl rfl trivial ?_
             refine vNil ?_
             change VC _ _ _ _
             refine vRet ?_
             change ∃ _, _
             cases h
             exact ⟨[], _, rfl, trivial, rfl, (.eq rfl), rfl⟩
           ·replace h := cnd_f hb212 h
            iterate 5 refine oNoT rfl rfl rfl rfl hb212 rfl rfl ?_
            refine oPickF rfl rfl rfl rfl rfl hb212 rfl ?_
            refine oVal tt rfl rfl rfl rfl rfl trivial ?_
            iterate 5 refine oNoT rfl rfl rfl rfl rfl rfl rfl ?_
            refine oPickF rfl rfl rfl rfl rfl rfl rfl ?_
            refine oVal tt rfl rfl rfl rfl rfl trivial ?_
            refine vNil ?_
            change VC _ _ _ _
            refine vRet ?_
            change ∃ _, _
            cases h
            exact ⟨[], _, rfl, trivial, rfl, (.eq rfl), rfl⟩
          ·replace h := cnd_f hb209 h
           iterate 9 refine oNoT rfl rfl rfl rfl hb209 rfl rfl ?_
           refine oPickF rfl rfl rfl rfl rfl hb209 rfl ?_
           refine oVal tt rfl rfl rfl rfl rfl trivial ?_
           iterate 5 refine oNoT rfl rfl rfl rfl rfl rfl rfl ?_
           refine oPickF rfl rfl rfl rfl rfl rfl rfl ?_
           refine oVal tt rfl rfl rfl rfl rfl trivial ?_
           iterate 5 refine oNoT rfl rfl rfl rfl rfl rfl rfl ?_
           refine oPickF rfl rfl rfl rfl rfl rfl rfl ?_
           refine oVal tt rfl rfl rfl rfl rfl trivial ?_
           refine vNil ?_
           change VC _ _ _ _
           refine vRet ?_
           change ∃ _, _
           cases h
           exact ⟨[], _, rfl, trivial, rfl, (.eq rfl), rfl⟩
         ·replace h := cnd_f hb206 h
          iterate 9 refine oNoT rfl rfl rfl rfl hb206 rfl rfl ?_
          refine oPickF rfl rfl rfl rfl rfl hb206 rfl ?_
          refine oVal tt rfl rfl rfl rfl rfl trivial ?_
          iterate 9 refine oNoT rfl rfl rfl rfl rfl rfl rfl ?_
          refine oPickF rfl rfl rfl rfl rfl rfl rfl ?_
          refine oVal tt rfl rfl rfl rfl rfl trivial ?_
          iterate 5 refine oNoT rfl rfl rfl rfl rfl rfl rfl ?_
          refine oPickF rfl rfl rfl rfl rfl rfl rfl ?_
          refine oVal tt rfl rfl rfl rfl rfl trivial ?_
          iterate 5 refine oNoT rfl rfl rfl rfl rfl rfl rfl ?_
          refine oPickF rfl rfl rfl rfl rfl rfl rfl ?_
          refine oVal tt rfl rfl rfl rfl rfl trivial ?_
          refine vNil ?_
          change VC _ _ _ _
          refine vRet ?_
          change ∃ _, _
          cases h
          exact ⟨[], _, rfl, trivial, rfl, (.eq rfl), rfl⟩
        ·replace h := cnd_f hb203 h
         iterate 9 refine oNoT rfl rfl rfl rfl hb203 rfl rfl ?_
         refine oPickF rfl rfl rfl rfl rfl hb203 rfl ?_
         refine oVal tt rfl rfl rfl rfl rfl trivial ?_
         iterate 9 refine oNoT rfl rfl rfl rfl rfl rfl rfl ?_
         refine oPickF rfl rfl rfl rfl rfl rfl rfl ?_
         refine oVal tt rfl rfl rfl rfl rfl trivial ?_
         iterate 9 refine oNoT rfl rfl rfl rfl rfl rfl rfl ?_
         refine oPickF rfl rfl rfl rfl rfl rfl rfl ?_
         refine oVal tt rfl rfl rfl rfl rfl trivial ?_
         iterate 5 refine oNoT rfl rfl rfl rfl rfl rfl rfl ?_
         refine oPickF rfl rfl rfl rfl rfl rfl rfl ?_
         refine oVal tt rfl rfl rfl rfl rfl trivial ?_
         iterate 5 refine oNoT rfl rfl rfl rfl rfl rfl rfl ?_
         refine oPickF rfl rfl rfl rfl rfl rfl rfl ?_
         refine oVal tt rfl rfl rfl rfl rfl trivial ?_
         refine vNil ?_
         change VC _ _ _ _
         refine vRet ?_
         change ∃ _, _
         cases h
         exact ⟨[], _, rfl, trivial, rfl, (.eq rfl), rfl⟩
     ·replace h := cnd_f hb184 h
      iterate 12 refine cNoT rfl rfl rfl rfl hb184 rfl rfl ?_
      iterate 22 refine cNoU rfl rfl rfl rfl rfl ?_
      refine cNoT rfl rfl rfl rfl hb184 rfl rfl ?_
      refine cPickF rfl (wNone rfl) rfl rfl rfl hb184 rfl ?_
      refine cNil ?_
      change VC _ _ _ _
      refine vCondF rfl rfl ?_
      refine vSkip ?_
      change VC _ _ _ _
      refine vSeq ?_
      refine vRegion ?_
      refine oVal tt rfl rfl rfl rfl rfl trivial ?_
      obtain ⟨v145, hc219, h⟩ := bind_inv h
      refine oCall (S_DrawMengerOf_w N code_0 v145 hc219) rfl rfl rfl rfl rfl rfl rfl rfl ⟨rfl, trivial⟩ ?_
      refine oVal tt rfl rfl rfl rfl rfl trivial ?_
      refine vNil ?_
      change VC _ _ _ _
      refine vSeq ?_
      refine vRegion ?_
      refine oVal tt rfl rfl rfl rfl rfl trivial ?_
      obtain ⟨v146, hc220, h⟩ := bind_inv h
      refine oCall (S_DrawHeronOf_w N code_0 v146 hc220) rfl rfl rfl rfl rfl rfl rfl rfl ⟨rfl, trivial⟩ ?_
      iterate 7 refine oVal tt rfl rfl rfl rfl rfl trivial ?_
      refine vNil ?_
      change VC _ _ _ _
      refine vSeq ?_
      refine vRegion ?_
      refine oVal tt rfl rfl rfl rfl rfl trivial ?_
      obtain ⟨v147, hc221, h⟩ := bind_inv h
      refine oCall (S_DrawIsTriangle_w N code_0 v147 hc221) rfl rfl rfl rfl rfl rfl rfl rfl ⟨rfl, trivial⟩ ?_
      iterate 7 refine oVal tt rfl rfl rfl rfl rfl trivial ?_
      refine vNil ?_
      change VC _ _ _ _
      refine vSeq ?_
      refine vRegion ?_
      refine oVal tt rfl rfl rfl rfl rfl trivial ?_
      obtain ⟨v148, hc222, h⟩ := bind_inv h
      refine oCall (S_DrawIsPlanar_w N code_0 v148 hc222) rfl rfl rfl rfl rfl rfl rfl rfl ⟨rfl, trivial⟩ ?_
      refine oVal tt rfl rfl rfl rfl rfl trivial ?_
      refine vNil ?_
      change VC _ _ _ _
      refine vSeq ?_
      refine vRegion ?_
      refine oVal tt rfl rfl rfl rfl rfl trivial ?_
      obtain ⟨v149, hc223, h⟩ := bind_inv h
      refine oCall (S_DrawLastSquares_w N code_0 v149 hc223) rfl rfl rfl rfl rfl rfl rfl rfl ⟨rfl, trivial⟩ ?_
      refine oVal tt rfl rfl rfl rfl rfl trivial ?_
      refine vNil ?_
      change VC _ _ _ _
      refine vSeq ?_
      refine vRegion ?_
      refine oVal tt rfl rfl rfl rfl rfl trivial ?_
      obtain ⟨v150, hc224, h⟩ := bind_inv h
      refine oCall (I_MengerOf_w N v145 v150 hc224) rfl rfl rfl rfl rfl rfl rfl rfl ⟨rfl, trivial⟩ ?_
      refine oVal tt rfl rfl rfl rfl rfl trivial ?_
      obtain ⟨v151, hc225, h⟩ := bind_inv h
      refine oCall (S_MengerOf_w N v145 v151 hc225) rfl rfl rfl rfl rfl rfl rfl rfl ⟨rfl, trivial⟩ ?_
      iterate 2 refine oVal tt rfl rfl rfl rfl rfl trivial ?_
      refine oSplit rfl rfl rfl (fun hb226 => ?_) (fun hb226 => ?_)
      ·replace h := cnd_t hb226 h
       iterate 3 refine oValG tt rfl rfl rfl rfl rfl hb226 rfl rfl rfl trivial ?_
       obtain ⟨v152, hc227, h⟩ := bind_inv h
       refine oCallG (I_HeronOf_w N v146.1 v146.2.1 v146.2.2 v152 hc227) rfl rfl rfl rfl hb226 rfl rfl rfl rfl rfl rfl rfl ⟨rfl, rfl, rfl, trivial⟩ ?_
       iterate 3 refine oValG tt rfl rfl rfl rfl rfl hb226 rfl rfl rfl trivial ?_
       obtain ⟨v153, hc228, h⟩ := bind_inv h
       refine oCallG (S_HeronOf_w N v146.1 v146.2.1 v146.2.2 v153 hc228) rfl rfl rfl rfl hb226 rfl rfl rfl rfl rfl rfl rfl ⟨rfl, rfl, rfl, trivial⟩ ?_
       refine oValG tt rfl rfl rfl rfl rfl hb226 rfl rfl rfl trivial ?_
       refine oPick rfl rfl rfl rfl rfl hb226 rfl ?_
       refine oVal tt rfl rfl rfl rfl rfl trivial ?_
       refine oSplit rfl rfl rfl (fun hb229 => ?_) (fun hb229 => ?_)
       ·replace h := cnd_t hb229 h
        iterate 3 refine oValG tt rfl rfl rfl rfl rfl hb229 rfl rfl rfl trivial ?_
        obtain ⟨v154, hc230, h⟩ := bind_inv h
        refine oCallG (I_HeronOf_w N v146.1 v146.2.1 v146.2.2 v154 hc230) rfl rfl rfl rfl hb229 rfl rfl rfl rfl rfl rfl rfl ⟨rfl, rfl, rfl, trivial⟩ ?_
        iterate 3 refine oValG tt rfl rfl rfl rfl rfl hb229 rfl rfl rfl trivial ?_
        obtain ⟨v155, hc231, h⟩ := bind_inv h
        refine oCallG (I_HeronOf_w N v146.2.2 v146.1 v146.2.1 v155 hc231) rfl rfl rfl rfl hb229 rfl rfl rfl rfl rfl rfl rfl ⟨rfl, rfl, rfl, trivial⟩ ?_
        refine oValG tt rfl rfl rfl rfl rfl hb229 rfl rfl rfl trivial ?_
        refine oPick rfl rfl rfl rfl rfl hb229 rfl ?_
        refine oVal tt rfl rfl rfl rfl rfl trivial ?_
        refine oSplit rfl rfl rfl (fun hb232 => ?_) (fun hb232 => ?_)
        ·replace h := cnd_t hb232 h
         iterate 3 refine oValG tt rfl rfl rfl rfl rfl hb232 rfl rfl rfl trivial ?_
         obtain ⟨v156, hc233, h⟩ := bind_inv h
         refine oCallG (I_IsTriangle_w N v147.1 v147.2.1 v147.2.2 v156 hc233) rfl rfl rfl rfl hb232 rfl rfl rfl rfl rfl rfl rfl ⟨rfl, rfl, rfl, trivial⟩ ?_
         iterate 3 refine oValG tt rfl rfl rfl rfl rfl hb232 rfl rfl rfl trivial ?_
         obtain ⟨v157, hc234, h⟩ := bind_inv h
         refine oCallG (S_IsTriangle_w N v147.1 v147.2.1 v147.2.2 v157 hc234) rfl rfl rfl rfl hb232 rfl rfl rfl rfl rfl rfl rfl ⟨rfl, rfl, rfl, trivial⟩ ?_
         refine oPure (wSome rfl rfl rfl rfl hb232) (pEqB Try.underlying4 rfl rfl rfl) rfl rfl ?_
         refine oPick rfl rfl rfl rfl rfl hb232 rfl ?_
         refine oVal tt rfl rfl rfl rfl rfl trivial ?_
         refine oSplit rfl rfl rfl (fun hb235 => ?_) (fun hb235 => ?_)
         ·replace h := cnd_t hb235 h
          refine oValG tt rfl rfl rfl rfl rfl hb235 rfl rfl rfl trivial ?_
          obtain ⟨v158, hc236, h⟩ := bind_inv h
          refine oCallG (I_IsPlanar_w N v148 v158 hc236) rfl rfl rfl rfl hb235 rfl rfl rfl rfl rfl rfl rfl ⟨(.inl ⟨rfl, rfl⟩), trivial⟩ ?_
          refine oValG tt rfl rfl rfl rfl rfl hb235 rfl rfl rfl trivial ?_
          obtain ⟨v159, hc237, h⟩ := bind_inv h
          refine oCallG (S_IsPlanar_w N v148 v159 hc237) rfl rfl rfl rfl hb235 rfl rfl rfl rfl rfl rfl rfl ⟨(.inl ⟨rfl, rfl⟩), trivial⟩ ?_
          refine oPure (wSome rfl rfl rfl rfl hb235) (pEqB Try.underlying4 rfl rfl rfl) rfl rfl ?_
          refine oPick rfl rfl rfl rfl rfl hb235 rfl ?_
          refine oVal tt rfl rfl rfl rfl rfl trivial ?_
          refine oSplit rfl rfl rfl (fun hb238 => ?_) (fun hb238 => ?_)
          ·replace h := cnd_t hb238 h
           refine oValG tt rfl rfl rfl rfl rfl hb238 rfl rfl rfl trivial ?_
           obtain ⟨v160, hc239, h⟩ := bind_inv h
           refine oCallG (I_LastSquares_w N v149 v160 hc239) rfl rfl rfl rfl hb238 rfl rfl rfl rfl rfl rfl rfl ⟨rfl, trivial⟩ ?_
           refine oValG tt rfl rfl rfl rfl rfl hb238 rfl rfl rfl trivial ?_
           obtain ⟨v161, hc240, h⟩ := bind_inv h
           refine oCallG (S_LastSquares_w N v149 v161 hc240) rfl rfl rfl rfl hb238 rfl rfl rfl rfl rfl rfl rfl ⟨rfl, trivial⟩ ?_
           obtain ⟨v162, hc241, h⟩ := bind_inv h
           refine oCallG (L_sameInts_w N v160 v161 v162 hc241) rfl rfl rfl rfl hb238 rfl rfl rfl rfl rfl rfl rfl ⟨(.inl ⟨rfl, rfl⟩), (.inl ⟨rfl, rfl⟩), trivial⟩ ?_
           refine oPick rfl rfl rfl rfl rfl hb238 rfl ?_
           refine oVal tt rfl rfl rfl rfl rfl trivial ?_
           refine vNil ?_
           change VC _ _ _ _
           refine vRet ?_
           change ∃ _, _
           cases h
           exact ⟨[], _, rfl, trivial, rfl, (.eq rfl), rfl⟩
          ·replace h := cnd_f hb238 h
           iterate 5 refine oNoT rfl rfl rfl rfl hb238 rfl rfl ?_
           refine oPickF rfl rfl rfl rfl rfl hb238 rfl ?_
           refine oVal tt rfl rfl rfl rfl rfl trivial ?_
           refine vNil ?_
           change VC _ _ _ _
           refine vRet ?_
           change ∃ _, _
           cases h
           exact ⟨[], _, rfl, trivial, rfl, (.eq rfl), rfl⟩
         ·replace h := cnd_f hb235 h
          iterate 5 refine oNoT rfl rfl rfl rfl hb235 rfl rfl ?_
          refine oPickF rfl rfl rfl rfl rfl hb235 rfl ?_
          refine oVal tt rfl rfl rfl rfl rfl trivial ?_
          iterate 5 refine oNoT rfl rfl rfl rfl rfl rfl rfl ?_
          refine oPickF rfl rfl rfl rfl rfl rfl rfl ?_
          refine oVal tt rfl rfl rfl rfl rfl trivial ?_
          refine vNil ?_
          change VC _ _ _ _
          refine vRet ?_
          change ∃ _, _
          cases h
          exact ⟨[], _, rfl, trivial, rfl, (.eq rfl), rfl⟩
        ·replace h := cnd_f hb232 h
         iterate 9 refine oNoT rfl rfl rfl rfl hb232 rfl rfl ?_
         refine oPickF rfl rfl rfl rfl rfl hb232 rfl ?_
         refine oVal tt rfl rfl rfl rfl rfl trivial ?_
         iterate 5 refine oNoT rfl rfl rfl rfl rfl rfl rfl ?_
         refine oPickF rfl rfl rfl rfl rfl rfl rfl ?_
         refine oVal tt rfl rfl rfl rfl rfl trivial ?_
         iterate 5 refine oNoT rfl rfl rfl rfl rfl rfl rfl ?_
         refine oPickF rfl rfl rfl rfl rfl rfl rfl ?_
         refine oVal tt rfl rfl rfl rfl rfl trivial ?_
         refine vNil ?_
         change VC _ _ _ _
         refine vRet ?_
         change ∃ _, _
         cases h
         exact ⟨[], _, rfl, trivial, rfl, (.eq rfl), rfl⟩
       ·replace h := cnd_f hb229 h
        iterate 9 refine oNoT rfl rfl rfl rfl hb229 rfl rfl ?_
        refine oPickF rfl rfl rfl rfl rfl hb229 rfl ?_
        refine oVal tt rfl rfl rfl rfl rfl trivial ?_
        iterate 9 refine oNoT rfl rfl rfl rfl rfl rfl rfl ?_
        refine oPickF rfl rfl rfl rfl rfl rfl rfl ?_
        refine oVal tt rfl rfl rfl rfl rfl trivial ?_
        iterate 5 refine oNoT rfl rfl rfl rfl rfl rfl rfl ?_
        refine oPickF rfl rfl rfl rfl rfl rfl rfl ?_
        refine oVal tt rfl rfl rfl rfl rfl trivial ?_
        iterate 5 refine oNoT rfl rfl rfl rfl rfl rfl rfl ?_
        refine oPickF rfl rfl rfl rfl rfl rfl rfl ?_
        refine oVal tt rfl rfl rfl rfl rfl trivial ?_
        refine vNil ?_
        change VC _ _ _ _
        refine vRet ?_
        change ∃ _, _
        cases h
        exact ⟨[], _, rfl, trivial, rfl, (.eq rfl), rfl⟩
      ·replace h := cnd_f hb226 h
       iterate 9 refine oNoT rfl rfl rfl rfl hb226 rfl rfl ?_
       refine oPickF rfl rfl rfl rfl rfl hb226 rfl ?_
       refine oVal tt rfl rfl rfl rfl rfl trivial ?_
       iterate 9 refine oNoT rfl rfl rfl rfl rfl rfl rfl ?_
       refine oPickF rfl rfl rfl rfl rfl rfl rfl ?_
       refine oVal tt rfl rfl rfl rfl rfl trivial ?_
       iterate 9 refine oNoT rfl rfl rfl rfl rfl rfl rfl ?_
       refine oPickF rfl rfl rfl rfl rfl rfl rfl ?_
       refine oVal tt rfl rfl rfl rfl rfl trivial ?_
       iterate 5 refine oNoT rfl rfl rfl rfl rfl rfl rfl ?_
       refine oPickF rfl rfl rfl rfl rfl rfl rfl ?_
       refine oVal tt rfl rfl rfl rfl rfl trivial ?_
       iterate 5 refine oNoT rfl rfl rfl rfl rfl rfl rfl ?_
       refine oPickF rfl rfl rfl rfl rfl rfl rfl ?_
       refine oVal tt rfl rfl rfl rfl rfl trivial ?_
       refine vNil ?_
       change VC _ _ _ _
       refine vRet ?_
       change ∃ _, _
       cases h
       exact ⟨[], _, rfl, trivial, rfl, (.eq rfl), rfl⟩
    ·replace h := cnd_f hb183 h
     iterate 3 refine cNoT rfl rfl rfl rfl hb183 rfl rfl ?_
     refine cPickF rfl (wNone rfl) rfl rfl rfl hb183 rfl ?_
     refine cVal tt rfl (wNone rfl) rfl rfl rfl trivial ?_
     iterate 12 refine cNoT rfl rfl rfl rfl rfl rfl rfl ?_
     iterate 22 refine cNoU rfl rfl rfl rfl rfl ?_
     refine cNoT rfl rfl rfl rfl rfl rfl rfl ?_
     refine cPickF rfl (wNone rfl) rfl rfl rfl rfl rfl ?_
     refine cNil ?_
     change VC _ _ _ _
     refine vCondF rfl rfl ?_
     refine vSkip ?_
     change VC _ _ _ _
     refine vSeq ?_
     refine vRegion ?_
     refine oVal tt rfl rfl rfl rfl rfl trivial ?_
     obtain ⟨v163, hc242, h⟩ := bind_inv h
     refine oCall (S_DrawMengerOf_w N code_0 v163 hc242) rfl rfl rfl rfl rfl rfl rfl rfl ⟨rfl, trivial⟩ ?_
     refine oVal tt rfl rfl rfl rfl rfl trivial ?_
     refine vNil ?_
     change VC _ _ _ _
     refine vSeq ?_
     refine vRegion ?_
     refine oVal tt rfl rfl rfl rfl rfl trivial ?_
     obtain ⟨v164, hc243, h⟩ := bind_inv h
     refine oCall (S_DrawHeronOf_w N code_0 v164 hc243) rfl rfl rfl rfl rfl rfl rfl rfl ⟨rfl, trivial⟩ ?_
     iterate 7 refine oVal tt rfl rfl rfl rfl rfl trivial ?_
     refine vNil ?_
     change VC _ _ _ _
     refine vSeq ?_
     refine vRegion ?_
     refine oVal tt rfl rfl rfl rfl rfl trivial ?_
     obtain ⟨v165, hc244, h⟩ := bind_inv h
     refine oCall (S_DrawIsTriangle_w N code_0 v165 hc244) rfl rfl rfl rfl rfl rfl rfl rfl ⟨rfl, trivial⟩ ?_
     iterate 7 refine oVal tt rfl rfl rfl rfl rfl trivial ?_
     refine vNil ?_
     change VC _ _ _ _
     refine vSeq ?_
     refine vRegion ?_
     refine oVal tt rfl rfl rfl rfl rfl trivial ?_
     obtain ⟨v166, hc245, h⟩ := bind_inv h
     refine oCall (S_DrawIsPlanar_w N code_0 v166 hc245) rfl rfl rfl rfl rfl rfl rfl rfl ⟨rfl, trivial⟩ ?_
     refine oVal tt rfl rfl rfl rfl rfl trivial ?_
     refine vNil ?_
     change VC _ _ _ _
     refine vSeq ?_
     refine vRegion ?_
     refine oVal tt rfl rfl rfl rfl rfl trivial ?_
     obtain ⟨v167, hc246, h⟩ := bind_inv h
     refine oCall (S_DrawLastSquares_w N code_0 v167 hc246) rfl rfl rfl rfl rfl rfl rfl rfl ⟨rfl, trivial⟩ ?_
     refine oVal tt rfl rfl rfl rfl rfl trivial ?_
     refine vNil ?_
     change VC _ _ _ _
     refine vSeq ?_
     refine vRegion ?_
     refine oVal tt rfl rfl rfl rfl rfl trivial ?_
     obtain ⟨v168, hc247, h⟩ := bind_inv h
     refine oCall (I_MengerOf_w N v163 v168 hc247) rfl rfl rfl rfl rfl rfl rfl rfl ⟨rfl, trivial⟩ ?_
     refine oVal tt rfl rfl rfl rfl rfl trivial ?_
     obtain ⟨v169, hc248, h⟩ := bind_inv h
     refine oCall (S_MengerOf_w N v163 v169 hc248) rfl rfl rfl rfl rfl rfl rfl rfl ⟨rfl, trivial⟩ ?_
     iterate 2 refine oVal tt rfl rfl rfl rfl rfl trivial ?_
     refine oSplit rfl rfl rfl (fun hb249 => ?_) (fun hb249 => ?_)
     ·replace h := cnd_t hb249 h
      iterate 3 refine oValG tt rfl rfl rfl rfl rfl hb249 rfl rfl rfl trivial ?_
      obtain ⟨v170, hc250, h⟩ := bind_inv h
      refine oCallG (I_HeronOf_w N v164.1 v164.2.1 v164.2.2 v170 hc250) rfl rfl rfl rfl hb249 rfl rfl rfl rfl rfl rfl rfl ⟨rfl, rfl, rfl, trivial⟩ ?_
      iterate 3 refine oValG tt rfl rfl rfl rfl rfl hb249 rfl rfl rfl trivial ?_
      obtain ⟨v171, hc251, h⟩ := bind_inv h
      refine oCallG (S_HeronOf_w N v164.1 v164.2.1 v164.2.2 v171 hc251) rfl rfl rfl rfl hb249 rfl rfl rfl rfl rfl rfl rfl ⟨rfl, rfl, rfl, trivial⟩ ?_
      refine oValG tt rfl rfl rfl rfl rfl hb249 rfl rfl rfl trivial ?_
      refine oPick rfl rfl rfl rfl rfl hb249 rfl ?_
      refine oVal tt rfl rfl rfl rfl rfl trivial ?_
      refine oSplit rfl rfl rfl (fun hb252 => ?_) (fun hb252 => ?_)
      ·replace h := cnd_t hb252 h
       iterate 3 refine oValG tt rfl rfl rfl rfl rfl hb252 rfl rfl rfl trivial ?_
       obtain ⟨v172, hc253, h⟩ := bind_inv h
       refine oCallG (I_HeronOf_w N v164.1 v164.2.1 v164.2.2 v172 hc253) rfl rfl rfl rfl hb252 rfl rfl rfl rfl rfl rfl rfl ⟨rfl, rfl, rfl, trivial⟩ ?_
       iterate 3 refine oValG tt rfl rfl rfl rfl rfl hb252 rfl rfl rfl trivial ?_
       obtain ⟨v173, hc254, h⟩ := bind_inv h
       refine oCallG (I_HeronOf_w N v164.2.2 v164.1 v164.2.1 v173 hc254) rfl rfl rfl rfl hb252 rfl rfl rfl rfl rfl rfl rfl ⟨rfl, rfl, rfl, trivial⟩ ?_
       refine oValG tt rfl rfl rfl rfl rfl hb252 rfl rfl rfl trivial ?_
       refine oPick rfl rfl rfl rfl rfl hb252 rfl ?_
       refine oVal tt rfl rfl rfl rfl rfl trivial ?_
       refine oSplit rfl rfl rfl (fun hb255 => ?_) (fun hb255 => ?_)
       ·replace h := cnd_t hb255 h
        iterate 3 refine oValG tt rfl rfl rfl rfl rfl hb255 rfl rfl rfl trivial ?_
        obtain ⟨v174, hc256, h⟩ := bind_inv h
        refine oCallG (I_IsTriangle_w N v165.1 v165.2.1 v165.2.2 v174 hc256) rfl rfl rfl rfl hb255 rfl rfl rfl rfl rfl rfl rfl ⟨rfl, rfl, rfl, trivial⟩ ?_
        iterate 3 refine oValG tt rfl rfl rfl rfl rfl hb255 rfl rfl rfl trivial ?_
        obtain ⟨v175, hc257, h⟩ := bind_inv h
        refine oCallG (S_IsTriangle_w N v165.1 v165.2.1 v165.2.2 v175 hc257) rfl rfl rfl rfl hb255 rfl rfl rfl rfl rfl rfl rfl ⟨rfl, rfl, rfl, trivial⟩ ?_
        refine oPure (wSome rfl rfl rfl rfl hb255) (pEqB Try.underlying4 rfl rfl rfl) rfl rfl ?_
        refine oPick rfl rfl rfl rfl rfl hb255 rfl ?_
        refine oVal tt rfl rfl rfl rfl rfl trivial ?_
        refine oSplit rfl rfl rfl (fun hb258 => ?_) (fun hb258 => ?_)
        ·replace h := cnd_t hb258 h
         refine oValG tt rfl rfl rfl rfl rfl hb258 rfl rfl rfl trivial ?_
         obtain ⟨v176, hc259, h⟩ := bind_inv h
         refine oCallG (I_IsPlanar_w N v166 v176 hc259) rfl rfl rfl rfl hb258 rfl rfl rfl rfl rfl rfl rfl ⟨(.inl ⟨rfl, rfl⟩), trivial⟩ ?_
         refine oValG tt rfl rfl rfl rfl rfl hb258 rfl rfl rfl trivial ?_
         obtain ⟨v177, hc260, h⟩ := bind_inv h
         refine oCallG (S_IsPlanar_w N v166 v177 hc260) rfl rfl rfl rfl hb258 rfl rfl rfl rfl rfl rfl rfl ⟨(.inl ⟨rfl, rfl⟩), trivial⟩ ?_
         refine oPure (wSome rfl rfl rfl rfl hb258) (pEqB Try.underlying4 rfl rfl rfl) rfl rfl ?_
         refine oPick rfl rfl rfl rfl rfl hb258 rfl ?_
         refine oVal tt rfl rfl rfl rfl rfl trivial ?_
         refine oSplit rfl rfl rfl (fun hb261 => ?_) (fun hb261 => ?_)
         ·replace h := cnd_t hb261 h
          refine oValG tt rfl rfl rfl rfl rfl hb261 rfl rfl rfl trivial ?_
          obtain ⟨v178, hc262, h⟩ := bind_inv h
          refine oCallG (I_LastSquares_w N v167 v178 hc262) rfl rfl rfl rfl hb261 rfl rfl rfl rfl rfl rfl rfl ⟨rfl, trivial⟩ ?_
          refine oValG tt rfl rfl rfl rfl rfl hb261 rfl rfl rfl trivial ?_
          obtain ⟨v179, hc263, h⟩ := bind_inv h
          refine oCallG (S_LastSquares_w N v167 v179 hc263) rfl rfl rfl rfl hb261 rfl rfl rfl rfl rfl rfl rfl ⟨rfl, trivial⟩ ?_
          obtain ⟨v180, hc264, h⟩ := bind_inv h
          refine oCallG (L_sameInts_w N v178 v179 v180 hc264) rfl rfl rfl rfl hb261 rfl rfl rfl rfl rfl rfl rfl ⟨(.inl ⟨rfl, rfl⟩), (.inl ⟨rfl, rfl⟩), trivial⟩ ?_
          refine oPick rfl rfl rfl rfl rfl hb261 rfl ?_
          refine oVal tt rfl rfl rfl rfl rfl trivial ?_
          refine vNil ?_
          change VC _ _ _ _
          refine vRet ?_
          change ∃ _, _
          cases h
          exact ⟨[], _, rfl, trivial, rfl, (.eq rfl), rfl⟩
         ·replace h := cnd_f hb261 h
          iterate 5 refine oNoT rfl rfl rfl rfl hb261 rfl rfl ?_
          refine oPickF rfl rfl rfl rfl rfl hb261 rfl ?_
          refine oVal tt rfl rfl rfl rfl rfl trivial ?_
          refine vNil ?_
          change VC _ _ _ _
          refine vRet ?_
          change ∃ _, _
          cases h
          exact ⟨[], _, rfl, trivial, rfl, (.eq rfl), rfl⟩
        ·replace h := cnd_f hb258 h
         iterate 5 refine oNoT rfl rfl rfl rfl hb258 rfl rfl ?_
         refine oPickF rfl rfl rfl rfl rfl hb258 rfl ?_
         refine oVal tt rfl rfl rfl rfl rfl trivial ?_
         iterate 5 refine oNoT rfl rfl rfl rfl rfl rfl rfl ?_
         refine oPickF rfl rfl rfl rfl rfl rfl rfl ?_
         refine oVal tt rfl rfl rfl rfl rfl trivial ?_
         refine vNil ?_
         change VC _ _ _ _
         refine vRet ?_
         change ∃ _, _
         cases h
         exact ⟨[], _, rfl, trivial, rfl, (.eq rfl), rfl⟩
       ·replace h := cnd_f hb255 h
        iterate 9 refine oNoT rfl rfl rfl rfl hb255 rfl rfl ?_
        refine oPickF rfl rfl rfl rfl rfl hb255 rfl ?_
        refine oVal tt rfl rfl rfl rfl rfl trivial ?_
        iterate 5 refine oNoT rfl rfl rfl rfl rfl rfl rfl ?_
        refine oPickF rfl rfl rfl rfl rfl rfl rfl ?_
        refine oVal tt rfl rfl rfl rfl rfl trivial ?_
        iterate 5 refine oNoT rfl rfl rfl rfl rfl rfl rfl ?_
        refine oPickF rfl rfl rfl rfl rfl rfl rfl ?_
        refine oVal tt rfl rfl rfl rfl rfl trivial ?_
        refine vNil ?_
        change VC _ _ _ _
        refine vRet ?_
        change ∃ _, _
        cases h
        exact ⟨[], _, rfl, trivial, rfl, (.eq rfl), rfl⟩
      ·replace h := cnd_f hb252 h
       iterate 9 refine oNoT rfl rfl rfl rfl hb252 rfl rfl ?_
       refine oPickF rfl rfl rfl rfl rfl hb252 rfl ?_
       refine oVal tt rfl rfl rfl rfl rfl trivial ?_
       iterate 9 refine oNoT rfl rfl rfl rfl rfl rfl rfl ?_
       refine oPickF rfl rfl rfl rfl rfl rfl rfl ?_
       refine oVal tt rfl rfl rfl rfl rfl trivial ?_
       iterate 5 refine oNoT rfl rfl rfl rfl rfl rfl rfl ?_
       refine oPickF rfl rfl rfl rfl rfl rfl rfl ?_
       refine oVal tt rfl rfl rfl rfl rfl trivial ?_
       iterate 5 refine oNoT rfl rfl rfl rfl rfl rfl rfl ?_
       refine oPickF rfl rfl rfl rfl rfl rfl rfl ?_
       refine oVal tt rfl rfl rfl rfl rfl trivial ?_
       refine vNil ?_
       change VC _ _ _ _
       refine vRet ?_
       change ∃ _, _
       cases h
       exact ⟨[], _, rfl, trivial, rfl, (.eq rfl), rfl⟩
     ·replace h := cnd_f hb249 h
      iterate 9 refine oNoT rfl rfl rfl rfl hb249 rfl rfl ?_
      refine oPickF rfl rfl rfl rfl rfl hb249 rfl ?_
      refine oVal tt rfl rfl rfl rfl rfl trivial ?_
      iterate 9 refine oNoT rfl rfl rfl rfl rfl rfl rfl ?_
      refine oPickF rfl rfl rfl rfl rfl rfl rfl ?_
      refine oVal tt rfl rfl rfl rfl rfl trivial ?_
      iterate 9 refine oNoT rfl rfl rfl rfl rfl rfl rfl ?_
      refine oPickF rfl rfl rfl rfl rfl rfl rfl ?_
      refine oVal tt rfl rfl rfl rfl rfl trivial ?_
      iterate 5 refine oNoT rfl rfl rfl rfl rfl rfl rfl ?_
      refine oPickF rfl rfl rfl rfl rfl rfl rfl ?_
      refine oVal tt rfl rfl rfl rfl rfl trivial ?_
      iterate 5 refine oNoT rfl rfl rfl rfl rfl rfl rfl ?_
      refine oPickF rfl rfl rfl rfl rfl rfl rfl ?_
      refine oVal tt rfl rfl rfl rfl rfl trivial ?_
      refine vNil ?_
      change VC _ _ _ _
      refine vRet ?_
      change ∃ _, _
      cases h
      exact ⟨[], _, rfl, trivial, rfl, (.eq rfl), rfl⟩
end Go.Proofs.Ytcljhpldfanhkaa
namespace Go.Proofs.Ytcljhpldfanhkaa
open Go.RowKit
variable {N : Nat}
theorem getD_in {α : Type} {l : List α} {i : Nat} {d : α} (h : i < l.length) : l.getD i d ∈ l := by
 rw [List.getD_eq_getElem?_getD, List.getElem?_eq_getElem h]; exact List.getElem_mem h
theorem put_dl (hN : 4000000 ≤ N) {g : Grf} {m : Int} {k : Nat} (h : GD m k g) (hk : k ≤ 999) {x : Int × Int} (hx : 0 ≤ x.1 ∧ x.1 < m ∧ 0 ≤ x.2 ∧ x.2 < m) : Ok (S_l2Put N g x) fun r => GD m (k + 1) r ∧ r.n = g.n ∧ 0 < r.bars.length := by
 have hl := h.len
 obtain ⟨L, h1, h2, h3⟩ := put0_s (N := N) hN (g := g) (by omega) x
 refine ⟨_, h1, ⟨by simp only; omega, fun e he => ?_⟩, rfl, by simp only; omega⟩
 rcases (h3 e).1 he with rfl | h4
 ·exact hx
 ·exact h.rg e h4
structure FD (n : Int) (k : Nat) (f : Frm) : Prop where
 pn : f.g.n = n
 pl : (f.places.length : Int) = n
 on : ∀ e ∈ f.places, onGrid e = true
 len : f.g.bars.length ≤ k
 sub : ∀ e ∈ f.g.bars, 0 ≤ e.1 ∧ e.1 < n ∧ 0 ≤ e.2 ∧ e.2 < n
theorem of_d (hN : 4000000 ≤ N) {c : Cur} (hc : CK c) {g : Grf} {k : Nat} (hk : k ≤ 999) (hn : 0 ≤ g.n ∧ g.n ≤ 64) (hg : GD g.n k g) : Ok (S_l10Of N c g) fun r => FD g.n k r.1 ∧ 0 ≤ r.2.1 := by
 unfold S_l10Of
 have hl := hg.len
 have bars : ∀ (ps : List (Int × Int)) (ci ch : Int), (ps.length : Int) = g.n → (∀ e ∈ ps, onGrid e = true) → 0 ≤ ci → ∀ (fuel i : Nat) (l : List (Int × Int)), i ≤ g.bars.length → g.bars.length < fuel + i → l.length ≤ i → (∀ e ∈ l, e ∈ g.bars) →
   Ok (S_l10Of_l1 N g ps (fun (l22 : List (Int × Int)) => some ((⟨⟨g.n, l22⟩, ps⟩ : Frm), ci, ch)) fuel (l, (i : Int))) fun r => FD g.n k r.1 ∧ 0 ≤ r.2.1 := by
  intro ps ci ch hp1 hp2 hci fuel
  induction fuel with
  | zero => intro i l h1 h2; omega
  | succ fuel ih =>
   intro i l h1 h2 h3 h4
   rw [S_l10Of_l1]
   have e2 : ((i : Int)).toNat = i := rfl
   rw [e2]
   refine ok_cnd (fun c1 => ?_) (fun c1 => ok_some ⟨⟨rfl, hp1, hp2, by simp only; omega, fun e he => hg.rg e (h4 e he)⟩, hci⟩)
   rw [decide_eq_true_eq] at c1
   have hin := getD_in (l := g.bars) (i := i) (d := (0, 0)) (by omega)
   obtain ⟨b1, b2, b3, b4⟩ := hg.rg _ hin
   have hx : ∀ e ∈ l ++ [((g.bars.getD i (0, 0)).1, (g.bars.getD i (0, 0)).2)], e ∈ g.bars := fun e he => by
    rcases List.mem_append.1 he with he | he
    ·exact h4 e he
    ·simp only [List.mem_singleton] at he; rw [he]; exact hin
   refine ok_grd ⟨by omega, by omega⟩ (ok_grd ⟨b1, by omega⟩ (ok_grd ⟨b3, by omega⟩ ?_))
   refine ok_cnd (fun c2 => ?_) (fun c2 => ok_grd ⟨by omega, by omega⟩ (ih (i + 1) l (by omega) (by omega) (by omega) h4))
   refine ok_cnd (fun c3 => ?_) (fun c3 => ?_)
   ·exact ok_grd (by omega) (ok_grd ⟨by omega, by omega⟩ (ih (i + 1) _ (by omega) (by omega) (by simp; omega) hx))
   ·have c3 : ¬ (i : Int) = 0 := by simpa using c3
    refine ok_grd ⟨by omega, by omega⟩ (ok_grd ⟨by omega, by omega⟩ ?_)
    refine ok_cnd (fun c4 => ?_) (fun c4 => ?_)
    ·exact ok_grd (by omega) (ok_grd ⟨by omega, by omega⟩ (ih (i + 1) _ (by omega) (by omega) (by simp; omega) hx))
    ·exact ok_grd ⟨by omega, by omega⟩ (ih (i + 1) l (by omega) (by omega) (by omega) h4)
 have key : ∀ (fuel i : Nat) (l : List (Int × Int)) (ci ch : Int), (i : Int) ≤ g.n → g.n < fuel + i → l.length = i → (∀ e ∈ l, onGrid e = true) → 0 ≤ ci →
   Ok (S_l10Of_l2 N c g (fun (x : (List (Int × Int)) × Int × Int) =>
   match x with
   | (l16, c17, c18) =>
    S_l10Of_l1 N g l16 (fun (l22 : List (Int × Int)) =>
       some ((⟨⟨g.n, l22⟩, l16⟩ : Frm), c17, c18)) N (([] : List (Int × Int)), (0 : Int))) fuel (l, (i : Int), ci, ch)) fun r => FD g.n k r.1 ∧ 0 ≤ r.2.1 := by
  intro fuel
  induction fuel with
  | zero => intro i l ci ch h1 h2; omega
  | succ fuel ih =>
   intro i l ci ch h1 h2 h3 h4 h5
   rw [S_l10Of_l2]
   refine ok_cnd (fun c1 => ?_) (fun c1 => ?_)
   ·rw [decide_eq_true_eq] at c1
    refine ok_bind (below_s (hc.at h5) 5) fun x hx => ok_bind (below_s (hc.at hx.cur) 5) fun y hy => ?_
    have x0 := hx.nn
    have x1 := hx.lt (by omega)
    have y0 := hy.nn
    have y1 := hy.lt (by omega)
    refine ok_grd (by omega) (ok_grd ⟨by omega, by omega⟩ (ih (i + 1) _ _ _ (by omega) (by omega) (by simp; omega) (fun e he => ?_) hy.cur))
    rcases List.mem_append.1 he with he | he
    ·exact h4 e he
    ·simp only [List.mem_singleton] at he; subst he
     simp [onGrid, inB]; omega
   ·rw [decide_eq_false_iff_not] at c1
    exact bars l ci ch (by omega) h4 h5 N 0 [] (by omega) (by omega) (by simp) (by simp)
 exact key N 0 [] _ _ (by omega) (by omega) rfl (by simp) hc.nn
theorem simple_d (hN : 4000000 ≤ N) {c : Cur} (hc : CK c) {n odd : Int} (hn : 0 ≤ n ∧ n ≤ 64) : Ok (S_l2Simple N c n odd) fun r => GD n 24 r.1 ∧ r.1.n = n ∧ 0 ≤ r.2.1 := by
 unfold S_l2Simple
 have inner : ∀ (a : Nat) {kk : (List (Int × Int)) × Int × Int → Option (Grf × Int × Int)}, (a : Int) < n → (∀ l ci ch, GD n 24 ⟨n, l⟩ → 0 ≤ ci → Ok (kk (l, ci, ch)) fun r => GD n 24 r.1 ∧ r.1.n = n ∧ 0 ≤ r.2.1) →
   ∀ (fuel b : Nat) (l : List (Int × Int)) (ci ch : Int), (b : Int) ≤ n → n < fuel + b → GD n 24 ⟨n, l⟩ → 0 ≤ ci → Ok (S_l2Simple_l2 N c n odd (a : Int) kk fuel (l, (b : Int), ci, ch)) fun r => GD n 24 r.1 ∧ r.1.n = n ∧ 0 ≤ r.2.1 := by
  intro a kk ha hk fuel
  induction fuel with
  | zero => intro b l ci ch h1 h2; omega
  | succ fuel ih =>
   intro b l ci ch h1 h2 h3 h4
   rw [S_l2Simple_l2]
   have hl := h3.len
   refine ok_cnd (fun c1 => ?_) (fun c1 => hk l ci ch h3 h4)
   rw [decide_eq_true_eq] at c1
   refine ok_bind (below_s (hc.at h4) 10) fun x hx => ?_
   refine ok_cnd (fun c2 => ?_) (fun c2 => ok_grd ⟨by omega, by omega⟩ (ih (b + 1) l _ _ (by omega) (by omega) h3 hx.cur))
   refine ok_cnd (fun c3 => ?_) (fun c3 => ok_grd ⟨by omega, by omega⟩ (ih (b + 1) l _ _ (by omega) (by omega) h3 hx.cur))
   rw [decide_eq_true_eq] at c3
   refine ok_grd (by omega) (ok_grd ⟨by omega, by omega⟩ (ih (b + 1) _ _ _ (by omega) (by omega) ⟨by simp; omega, fun e he => ?_⟩ hx.cur))
   rcases List.mem_append.1 he with he | he
   ·exact h3.rg e he
   ·simp only [List.mem_singleton] at he; subst he; simp only; omega
 have outer : ∀ (fuel a : Nat) (l : List (Int × Int)) (ci ch : Int), (a : Int) ≤ n → n < fuel + a → GD n 24 ⟨n, l⟩ → 0 ≤ ci → Ok (S_l2Simple_l1 N c n odd (fun (x : (List (Int × Int)) × Int × Int) =>
   match x with
   | (l88, c89, c90) =>
    some ((⟨n, l88⟩ : Grf), c89, c90)) fuel (l, (a : Int), ci, ch)) fun r => GD n 24 r.1 ∧ r.1.n = n ∧ 0 ≤ r.2.1 := by
  intro fuel
  induction fuel with
  | zero => intro a l ci ch h1 h2; omega
  | succ fuel ih =>
   intro a l ci ch h1 h2 h3 h4
   rw [S_l2Simple_l1]
   refine ok_cnd (fun c1 => ?_) (fun c1 => ok_some ⟨h3, rfl, h4⟩)
   rw [decide_eq_true_eq] at c1
   refine ok_grd ⟨by omega, by omega⟩ ?_
   rw [succ_cast]
   exact inner a c1 (fun l ci ch k1 k2 => ih (a + 1) l ci ch (by omega) (by omega) k1 k2) N (a + 1) l ci ch (by omega) (by omega) h3 h4
 exact outer N 0 [] _ _ (by omega) (by omega) ⟨by simp, by simp⟩ hc.nn
theorem third_d {c : Cur} (hc : CK c) {n w : Int} {x : Int × Int} (hn : 0 < n) (hw : 0 ≤ w ∧ w < n) : Ok (S_l6Third N c n x w) fun r => (0 ≤ r.1 ∧ r.1 < n) ∧ 0 ≤ r.2.1 := by
 unfold S_l6Third
 refine ok_bind (below_s hc n) fun v hv => ?_
 have v0 := hv.nn
 have v1 := hv.lt hn
 exact ok_cnd (fun _ => ok_some ⟨hw, hv.cur⟩) fun _ => ok_cnd (fun _ => ok_some ⟨hw, hv.cur⟩) fun _ => ok_some ⟨⟨v0, v1⟩, hv.cur⟩
theorem laman_d (hN : 4000000 ≤ N) {c : Cur} (hc : CK c) {n : Int} (hn : 0 ≤ n ∧ n ≤ 8) : Ok (S_l6Laman N c n) fun r => GD n 40 r.1 ∧ r.1.n = n ∧ 0 ≤ r.2.1 ∧ (2 ≤ n → 0 < r.1.bars.length) := by
 unfold S_l6Laman
 refine ok_cnd (fun c1 => ok_some ⟨⟨by simp, by simp⟩, rfl, hc.nn, fun h => by rw [decide_eq_true_eq] at c1; omega⟩) (fun c1 => ?_)
 rw [decide_eq_false_iff_not] at c1
 have key : ∀ (fuel : Nat) (l : List (Int × Int)) (v ci ch : Int), GD n (3 * v.toNat) ⟨n, l⟩ → 0 < l.length → 2 ≤ v → v ≤ n → 0 ≤ ci → 9 < fuel + v → Ok (S_l6Laman_l1 N c n (fun (x : (List (Int × Int)) × Int × Int × Int) =>
    match x with
    | (l58, c59, c60, c61) =>
     some ((⟨c61, l58⟩ : Grf), c59, c60)) fuel (l, v, ci, ch, n)) fun r => GD n 40 r.1 ∧ r.1.n = n ∧ 0 ≤ r.2.1 ∧ (2 ≤ n → 0 < r.1.bars.length) := by
  intro fuel
  induction fuel with
  | zero => intro l v ci ch h1 h2 h3 h4 h5 h6; omega
  | succ fuel ih =>
   intro l v ci ch hg hl hv2 hvn hci hf
   have hgl := hg.len
   rw [S_l6Laman_l1]
   refine ok_cnd (fun c1 => ?_) (fun c1 => ok_some ⟨⟨by simp only at hgl ⊢; omega, hg.rg⟩, rfl, hci, fun _ => hl⟩)
   rw [decide_eq_true_eq] at c1
   refine ok_bind (below_s (hc.at hci) v) fun x hx => ?_
   have x0 := hx.nn
   have x1 := hx.lt (by omega)
   refine ok_grd ⟨by omega, by omega⟩ (ok_grd ⟨by omega, by omega⟩ ?_)
   refine ok_bind (below_s (hc.at hx.cur) (v - 1)) fun y hy => ?_
   have y0 := hy.nn
   have y1 := hy.lt (by omega)
   refine ok_grd ⟨by omega, by omega⟩ (ok_grd (by omega) ?_)
   refine ok_bind (once_s (hc.at hy.cur) 2) fun o ho => ?_
   have tm : 0 ≤ Int.tmod (x.1 + 1 + y.1) v ∧ Int.tmod (x.1 + 1 + y.1) v < v := ⟨Int.tmod_nonneg v (by omega), Int.tmod_lt_of_pos _ (by omega)⟩
   have two : Ok ((S_l2Put N (⟨n, l⟩ : Grf) (x.1, v)).bind fun v115 =>
     (S_l2Put N v115 ((Int.tmod ((x.1 + (1 : Int)) + y.1) v), v)).bind fun v116 =>
     grd (Rg64 (v + (1 : Int))) <|
     S_l6Laman_l1 N c n (fun (x : (List (Int × Int)) × Int × Int × Int) =>
    match x with
    | (l58, c59, c60, c61) =>
     some ((⟨c61, l58⟩ : Grf), c59, c60)) fuel (v116.bars, (v + (1 : Int)), o.2.1, o.2.2, v116.n)) fun r => GD n 40 r.1 ∧ r.1.n = n ∧ 0 ≤ r.2.1 ∧ (2 ≤ n → 0 < r.1.bars.length) := by
    refine ok_bind (put_dl hN hg (by omega) ⟨x0, by omega, by omega, by omega⟩) fun g1 k1 => ?_
    refine ok_bind (put_dl hN k1.1 (by omega) ⟨tm.1, by omega, by omega, by omega⟩) fun g2 k2 => ?_
    have en : g2.n = n := by rw [k2.2.1, k1.2.1]
    refine ok_grd ⟨by omega, by omega⟩ ?_
    rw [en]
    exact ih _ _ _ _ ⟨by have := k2.1.len; simp only; omega, k2.1.rg⟩ k2.2.2 (by omega) (by omega) ho (by omega)
   refine ok_cnd (fun c2 => ?_) (fun c2 => two)
   refine ok_cnd (fun c3 => ?_) (fun c3 => two)
   rw [decide_eq_true_eq] at c3
   refine ok_bind (below_s (hc.at ho) (l.length : Int)) fun z hz => ?_
   have z0 := hz.nn
   have z1 := hz.lt (by omega)
   have hin := getD_in (l := l) (i := z.1.toNat) (d := (0, 0)) (by omega)
   refine ok_grd ⟨z0, z1⟩ ?_
   generalize he : l.getD z.1.toNat (0, 0) = e at hin
   obtain ⟨e1, e2, e3, e4⟩ := hg.rg e hin
   have loop : ∀ (fuel' : Nat) (w : Int), 0 ≤ w → w ≤ 2 → (w = 2 → (e.1 = 0 ∧ e.2 = 1) ∨ (e.1 = 1 ∧ e.2 = 0)) → (w = 1 → e.1 = 0 ∨ e.2 = 0) → 3 < fuel' + w → Ok (S_l6Laman_l2 N l z (fun (w107 : Int) =>
        (S_l6Third N (⟨c.b, z.2.1, z.2.2⟩ : Cur) v (e.1, e.2) w107).bind fun v108 =>
        (S_RemoveBar N (⟨n, l⟩ : Grf) z.1).bind fun v109 =>
        (S_l2Put N v109.1 (e.1, v)).bind fun v110 =>
        (S_l2Put N v110 (e.2, v)).bind fun v111 =>
        (S_l2Put N v111 (v108.1, v)).bind fun v112 =>
        grd (Rg64 (v + (1 : Int))) <|
        S_l6Laman_l1 N c n (fun (x : (List (Int × Int)) × Int × Int × Int) =>
    match x with
    | (l58, c59, c60, c61) =>
     some ((⟨c61, l58⟩ : Grf), c59, c60)) fuel (v112.bars, (v + (1 : Int)), v108.2.1, v108.2.2, v112.n)) fuel' w) fun r => GD n 40 r.1 ∧ r.1.n = n ∧ 0 ≤ r.2.1 ∧ (2 ≤ n → 0 < r.1.bars.length) := by
    intro fuel'
    induction fuel' with
    | zero => intro w h1 h2 h3 h4 h5; omega
    | succ fuel' ih' =>
     intro w h1 h2 h3 h4 h5
     rw [S_l6Laman_l2, he]
     refine ok_cnd (fun d1 => ?_) (fun d1 => ?_)
     ·have d1 : w = e.1 := by simpa using d1
      exact ok_grd ⟨by omega, by omega⟩ (ih' (w + 1) (by omega) (by omega) (by omega) (by omega) (by omega))
     refine ok_cnd (fun d2 => ?_) (fun d2 => ?_)
     ·have d2 : w = e.2 := by simpa using d2
      exact ok_grd ⟨by omega, by omega⟩ (ih' (w + 1) (by omega) (by omega) (by omega) (by omega) (by omega))
     refine ok_bind (third_d (hc.at hz.cur) (by omega) ⟨h1, by omega⟩) fun t ht => ?_
     refine ok_bind (remove_d hN hg (by omega) z.1) fun g0 k0 => ?_
     refine ok_bind (put_dl hN k0.1 (by omega) ⟨e1, e2, by omega, by omega⟩) fun g1 k1 => ?_
     refine ok_bind (put_dl hN k1.1 (by omega) ⟨e3, e4, by omega, by omega⟩) fun g2 k2 => ?_
     refine ok_bind (put_dl hN k2.1 (by omega) ⟨ht.1.1, by omega, by omega, by omega⟩) fun g3 k3 => ?_
     have en : g3.n = n := by rw [k3.2.1, k2.2.1, k1.2.1, k0.2]
     refine ok_grd ⟨by omega, by omega⟩ ?_
     rw [en]
     exact ih _ _ _ _ ⟨by have := k3.1.len; simp only; omega, k3.1.rg⟩ k3.2.2 (by omega) (by omega) ht.2 (by omega)
   exact loop N 0 (by omega) (by omega) (by omega) (by omega) (by omega)
 have hg0 : GD n 5 ⟨n, ([] : List (Int × Int))⟩ := ⟨by simp, by simp⟩
 refine ok_bind (put_dl hN hg0 (by omega) (x := (0, 1)) ⟨by simp, by simp only; omega, by simp, by simp only; omega⟩) fun g k => ?_
 rw [k.2.1]
 exact key N _ _ _ _ ⟨by have := k.1.len; simp only; omega, k.1.rg⟩ k.2.2 (by omega) (by omega) hc.nn (by omega)
theorem frame_d (hN : 4000000 ≤ N) {c : Cur} (hc : CK c) : Ok (S_l10Framework N c) fun r => (∃ n : Int, 2 ≤ n ∧ n ≤ 6 ∧ FD n 41 r.1) ∧ 0 ≤ r.2.1 := by
 unfold S_l10Framework
 refine ok_bind (below_s hc 3) fun v1 h1 => ?_
 have fin : ∀ {c : Cur} (hc : CK c) {g : Grf} {n : Int}, 2 ≤ n → n ≤ 6 → GD n 41 g → g.n = n → Ok ((S_l10Of N c (⟨g.n, g.bars⟩ : Grf)).bind fun v4 => some ((⟨⟨v4.1.g.n, v4.1.g.bars⟩, v4.1.places⟩ : Frm), v4.2.1, v4.2.2)) fun r => (∃ n : Int, 2 ≤ n ∧ n ≤ 6 ∧ FD n 41 r.1) ∧ 0 ≤ r.2.1 := by
  intro c hc g n h2 h6 hg hn
  subst hn
  refine ok_bind (of_d hN hc (k := 41) (by omega) (g := ⟨g.n, g.bars⟩) ⟨by simp only; omega, by simp only; omega⟩ hg) fun r hr => ok_some ⟨⟨g.n, h2, h6, hr.1⟩, hr.2⟩
 refine ok_cnd (fun c1 => ?_) (fun c1 => ?_)
 ·refine ok_bind (below_s (hc.at h1.cur) 5) fun x hx => ?_
  have x0 := hx.nn
  have x1 := hx.lt (by omega)
  refine ok_grd ⟨by omega, by omega⟩ ?_
  refine ok_bind (simple_d hN (hc.at hx.cur) ⟨by omega, by omega⟩) fun g hg => ?_
  exact fin (hc.at hg.2.2) (by omega) (by omega) ⟨by have := hg.1.len; omega, hg.1.rg⟩ hg.2.1
 refine ok_cnd (fun c1 => ?_) (fun c1 => ?_)
 ·refine ok_bind (below_s (hc.at h1.cur) 4) fun x hx => ?_
  have x0 := hx.nn
  have x1 := hx.lt (by omega)
  refine ok_grd ⟨by omega, by omega⟩ ?_
  refine ok_bind (laman_d hN (hc.at hx.cur) ⟨by omega, by omega⟩) fun g hg => ?_
  refine ok_bind (below_s (hc.at hg.2.2.1) _) fun y hy => ok_bind (below_s (hc.at hy.cur) _) fun z hz => ?_
  refine ok_bind (add_d hN hg.1 (by omega) (by rw [hg.2.1]; omega) y.1 z.1) fun g' hg' => ?_
  exact fin (hc.at hz.cur) (by omega) (by omega) hg'.1 (by rw [hg'.2, hg.2.1])
 ·refine ok_bind (below_s (hc.at h1.cur) 5) fun x hx => ?_
  have x0 := hx.nn
  have x1 := hx.lt (by omega)
  refine ok_grd ⟨by omega, by omega⟩ ?_
  refine ok_bind (laman_d hN (hc.at hx.cur) ⟨by omega, by omega⟩) fun g hg => ?_
  exact fin (hc.at hg.2.2.1) (by omega) (by omega) ⟨by have := hg.1.len; omega, hg.1.rg⟩ hg.2.1
theorem pickInt_d {c : Cur} (hc : CK c) {l : List Int} (hl : 0 < l.length) : Ok (S_l1PickInt N c l) fun r => r.1 ∈ l ∧ 0 ≤ r.2.2.1 := by
 unfold S_l1PickInt
 refine ok_bind (below_s hc _) fun v hv => ?_
 have v0 := hv.nn
 have v1 := hv.lt (by omega)
 exact ok_grd ⟨v0, v1⟩ (ok_some ⟨getD_in (by omega), hv.cur⟩)
theorem any10_d (hN : 4000000 ≤ N) {c : Cur} (hc : CK c) : Ok (S_l10Any N c) fun r => r.1.places.length ≤ 6 ∧ r.1.g.bars.length ≤ 41 ∧ 0 ≤ r.2.1 := by
 unfold S_l10Any
 refine ok_bind (frame_d hN hc) fun f hf => ?_
 obtain ⟨⟨n, n2, n6, hf⟩, hcur⟩ := hf
 have hp := hf.pl
 have hb := hf.len
 refine ok_bind (below_s (hc.at hcur) 14) fun v hv => ?_
 refine ok_cnd (fun c1 => ?_) (fun c1 => ?_)
 ·refine ok_bind (pickInt_d (hc.at hv.cur) (by simp)) fun x hx => ?_
  exact ok_grd ⟨by omega, by omega⟩ (ok_grd (by simp) (ok_some ⟨by simp; omega, hb, hx.2⟩))
 refine ok_cnd (fun c1 => ?_) (fun c1 => ?_)
 ·exact ok_grd ⟨by omega, by omega⟩ (ok_some ⟨by simp; omega, hb, hv.cur⟩)
 ·exact ok_some ⟨by simp only; omega, hb, hv.cur⟩
end Go.Proofs.Ytcljhpldfanhkaa
namespace Go.Proofs.Ytcljhpldfanhkaa
open Go.RowKit
variable {N : Nat}
def heronP (a b c : Int) : Int := (((2 : Int) * (((a * b) + (b * c)) + (c * a))) - (a * a)) - (b * b) - (c * c)
theorem heron_v (hN : 4000000 ≤ N) (a b c : Int) : I_HeronOf N a b c = some (cnd (allSq [a, b, c]) (heronP a b c) 0) := by
 unfold I_HeronOf
 rw [areSq_s hN (by simp), Option.bind_some]
 have e3 : ((([a, b, c] : List Int).length : Int) == 3) = true := rfl
 rw [e3, Bool.and_true]
 cases h : allSq [a, b, c] with
 | false => rfl
 | true =>
  rw [all3, Bool.and_eq_true, Bool.and_eq_true] at h
  obtain ⟨ha, hb, hc⟩ := h
  have ha := inB_true.1 ha
  have hb := inB_true.1 hb
  have hc := inB_true.1 hc
  have p1 := sq_bdq ha.1 ha.2 hb.1 hb.2
  have p2 := sq_bdq hb.1 hb.2 hc.1 hc.2
  have p3 := sq_bdq hc.1 hc.2 ha.1 ha.2
  have p4 := sq_bdq ha.1 ha.2 ha.1 ha.2
  have p5 := sq_bdq hb.1 hb.2 hb.1 hb.2
  have p6 := sq_bdq hc.1 hc.2 hc.1 hc.2
  unfold heronP
  generalize a * b = q1 at *
  generalize b * c = q2 at *
  generalize c * a = q3 at *
  generalize a * a = q4 at *
  generalize b * b = q5 at *
  generalize c * c = q6 at *
  rw [Bool.not_true, cnd_false]
  simp (disch := omega) only [grd_R]
  rfl
theorem heron_cyc (hN : 4000000 ≤ N) (a b c : Int) : I_HeronOf N c a b = I_HeronOf N a b c := by
 rw [heron_v hN, heron_v hN, all3, all3]
 have e1 : (inB c 0 200 && (inB a 0 200 && inB b 0 200)) = (inB a 0 200 && (inB b 0 200 && inB c 0 200)) := by
  cases inB a 0 200 <;> cases inB b 0 200 <;> cases inB c 0 200 <;> rfl
 have e2 : heronP c a b = heronP a b c := by unfold heronP; grind
 rw [e1, e2]
theorem sq_nn (x : Int) : 0 ≤ x * x := by
 rcases Int.le_total 0 x with h | h
 ·exact Int.mul_nonneg h h
 ·exact Int.mul_nonneg_of_nonpos_of_nonpos h h
def crossP (a b c : Int × Int) : Int := (a.1 - b.1) * (a.2 - c.2) - (a.2 - b.2) * (a.1 - c.1)
theorem heron_plane (a b c : Int × Int) : heronP (sq2 a b) (sq2 a c) (sq2 b c) = 4 * (crossP a b c * crossP a b c) := by
 unfold heronP sq2 crossP
 grind
theorem all3_on {a b c : Int × Int} (ha : onGrid a = true) (hb : onGrid b = true) (hc : onGrid c = true) : allSq [sq2 a b, sq2 a c, sq2 b c] = true := by
 have h1 := sq2_bd ha hb
 have h2 := sq2_bd ha hc
 have h3 := sq2_bd hb hc
 rw [all3, inB_true.2 (by omega), inB_true.2 (by omega), inB_true.2 (by omega)]; rfl
theorem tri_plane (hN : 4000000 ≤ N) {a b c : Int × Int} (ha : onGrid a = true) (hb : onGrid b = true) (hc : onGrid c = true) : I_IsTriangle N (sq2 a b) (sq2 a c) (sq2 b c) = some true := by
 unfold I_IsTriangle
 have hq := all3_on ha hb hc
 have := sq_nn (crossP a b c)
 rw [areSq_s hN (by simp), Option.bind_some, heron_v hN, hq]
 have e3 : ((([sq2 a b, sq2 a c, sq2 b c] : List Int).length : Int) == 3) = true := rfl
 rw [e3, heron_plane]
 show some (decide (4 * (crossP a b c * crossP a b c) ≥ 0)) = some true
 rw [decide_eq_true (by omega)]
theorem heron0_plane (hN : 4000000 ≤ N) {a b c : Int × Int} (ha : onGrid a = true) (hb : onGrid b = true) (hc : onGrid c = true) : ∃ v : Int, I_HeronOf N (sq2 a b) (sq2 a c) (sq2 b c) = some v ∧ S_AreCollinear N a b c = some (v == 0) := by
 refine ⟨4 * (crossP a b c * crossP a b c), by rw [heron_v hN, all3_on ha hb hc, heron_plane]; rfl, ?_⟩
 obtain ⟨a1, a2, a3, a4⟩ := onGrid_bd ha
 obtain ⟨b1, b2, b3, b4⟩ := onGrid_bd hb
 obtain ⟨c1, c2, c3, c4⟩ := onGrid_bd hc
 have bd : ∀ x y : Int, -4 ≤ x → x ≤ 4 → -4 ≤ y → y ≤ 4 → -16 ≤ x * y ∧ x * y ≤ 16 := fun x y h1 h2 h3 h4 => by
  have := mul_bd2 (A := 4) (B := 4) h1 h2 h3 h4
  omega
 have m1 := bd (b.1 - a.1) (c.2 - a.2) (by omega) (by omega) (by omega) (by omega)
 have m2 := bd (b.2 - a.2) (c.1 - a.1) (by omega) (by omega) (by omega) (by omega)
 unfold S_AreCollinear
 rw [l10On_e, l10On_e, l10On_e, ha, hb, hc, Option.bind_some, Option.bind_some, Option.bind_some, Bool.not_true, cnd_false, cnd_false, cnd_false, grd_pos ⟨by omega, by omega⟩, grd_pos ⟨by omega, by omega⟩, grd_pos ⟨by omega, by omega⟩, grd_pos ⟨by omega, by omega⟩, grd_pos ⟨by omega, by omega⟩, grd_pos ⟨by omega, by omega⟩]
 congr 1
 have e : crossP a b c = (b.1 - a.1) * (c.2 - a.2) - (b.2 - a.2) * (c.1 - a.1) := by unfold crossP; grind
 rw [e, Bool.eq_iff_iff, beq_iff_eq, beq_iff_eq]
 generalize (b.1 - a.1) * (c.2 - a.2) = x
 generalize (b.2 - a.2) * (c.1 - a.1) = y
 constructor
 ·intro h; rw [h, Int.sub_self]; rfl
 ·intro h
  have h2 : (x - y) * (x - y) = 0 := by omega
  rcases Int.mul_eq_zero.1 h2 with h | h <;> omega
theorem menger_plane (hN : 4000000 ≤ N) {a b c d : Int × Int} (ha : onGrid a = true) (hb : onGrid b = true) (hc : onGrid c = true) (hd : onGrid d = true) : allSq [sq2 a b, sq2 a c, sq2 a d, sq2 b c, sq2 b d, sq2 c d] = true ∧ I_MengerOf N [sq2 a b, sq2 a c, sq2 a d, sq2 b c, sq2 b d, sq2 c d] = some 0 := by
 have h1 := sq2_bd ha hb
 have h2 := sq2_bd ha hc
 have h3 := sq2_bd ha hd
 have h4 := sq2_bd hb hc
 have h5 := sq2_bd hb hd
 have h6 := sq2_bd hc hd
 have hq : allSq [sq2 a b, sq2 a c, sq2 a d, sq2 b c, sq2 b d, sq2 c d] = true := by
  unfold allSq
  have : (List.range ([sq2 a b, sq2 a c, sq2 a d, sq2 b c, sq2 b d, sq2 c d] : List Int).length) = [0, 1, 2, 3, 4, 5] := rfl
  rw [this]
  simp only [List.all_cons, List.all_nil, Bool.and_true, Bool.and_eq_true]
  refine ⟨?_, ?_, ?_, ?_, ?_, ?_⟩ <;> exact inB_true.2 ⟨by simp only [List.getD_cons_zero, List.getD_cons_succ]; omega, by simp only [List.getD_cons_zero, List.getD_cons_succ]; omega⟩
 refine ⟨hq, ?_⟩
 unfold I_MengerOf
 have e6 : ((([sq2 a b, sq2 a c, sq2 a d, sq2 b c, sq2 b d, sq2 c d] : List Int).length : Int) == 6) = true := rfl
 rw [areSq_s hN (by simp), hq, e6]
 have hsm : Smt 5 [[0, 1, 1, 1, 1], [1, 0, sq2 a b, sq2 a c, sq2 a d], [1, sq2 a b, 0, sq2 b c, sq2 b d], [1, sq2 a c, sq2 b c, 0, sq2 c d], [1, sq2 a d, sq2 b d, sq2 c d, 0]] := ⟨rfl, fun r hr => by
  simp only [List.mem_cons, List.mem_nil_iff, or_false] at hr
  rcases hr with rfl | rfl | rfl | rfl | rfl <;> refine ⟨rfl, fun x hx => ?_⟩ <;> simp only [List.mem_cons, List.mem_nil_iff, or_false] at hx <;> rcases hx with rfl | rfl | rfl | rfl | rfl <;> omega⟩
 have hv := (detV_s (N := N) 5 N _ (by omega) (by omega) (by omega) hsm).1
 have hv' : I_determinant N [[0, 1, 1, 1, 1], [1, 0, sq2 a b, sq2 a c, sq2 a d], [1, sq2 a b, 0, sq2 b c, sq2 b d], [1, sq2 a c, sq2 b c, 0, sq2 c d], [1, sq2 a d, sq2 b d, sq2 c d, 0]] = some (menP (sq2 a b) (sq2 a c) (sq2 a d) (sq2 b c) (sq2 b d) (sq2 c d)) := hv
 have z : menP (sq2 a b) (sq2 a c) (sq2 a d) (sq2 b c) (sq2 b d) (sq2 c d) = 0 := by
  have k1 : sq2 b c = sq2 a b + sq2 a c - 2 * ((a.1 - b.1) * (a.1 - c.1) + (a.2 - b.2) * (a.2 - c.2)) := by unfold sq2; grind
  have k2 : sq2 b d = sq2 a b + sq2 a d - 2 * ((a.1 - b.1) * (a.1 - d.1) + (a.2 - b.2) * (a.2 - d.2)) := by unfold sq2; grind
  have k3 : sq2 c d = sq2 a c + sq2 a d - 2 * ((a.1 - c.1) * (a.1 - d.1) + (a.2 - c.2) * (a.2 - d.2)) := by unfold sq2; grind
  rw [k1, k2, k3, menP_gram]
  have := gram0 (a.1 - b.1) (a.2 - b.2) (a.1 - c.1) (a.2 - c.2) (a.1 - d.1) (a.2 - d.2)
  have u1 : sq2 a b = (a.1 - b.1) * (a.1 - b.1) + (a.2 - b.2) * (a.2 - b.2) := rfl
  have u2 : sq2 a c = (a.1 - c.1) * (a.1 - c.1) + (a.2 - c.2) * (a.2 - c.2) := rfl
  have u3 : sq2 a d = (a.1 - d.1) * (a.1 - d.1) + (a.2 - d.2) * (a.2 - d.2) := rfl
  rw [u1, u2, u3, this]; rfl
 rw [z] at hv'
 have len : (([sq2 a b, sq2 a c, sq2 a d, sq2 b c, sq2 b d, sq2 c d] : List Int).length : Int) = 6 := rfl
 rw [Option.bind_some, Bool.and_true, Bool.not_true, cnd_false, len, grd_pos ⟨by omega, by omega⟩, grd_pos ⟨by omega, by omega⟩, grd_pos ⟨by omega, by omega⟩, grd_pos ⟨by omega, by omega⟩, grd_pos ⟨by omega, by omega⟩, grd_pos ⟨by omega, by omega⟩]
 exact (congrArg (fun o => Option.bind o fun v2 => some v2) hv').trans rfl
theorem planar_plane (hN : 4000000 ≤ N) {a b c d : Int × Int} (ha : onGrid a = true) (hb : onGrid b = true) (hc : onGrid c = true) (hd : onGrid d = true) : I_IsPlanar N [sq2 a b, sq2 a c, sq2 a d, sq2 b c, sq2 b d, sq2 c d] = some true := by
 obtain ⟨h1, h2⟩ := menger_plane hN ha hb hc hd
 unfold I_IsPlanar
 have e6 : ((([sq2 a b, sq2 a c, sq2 a d, sq2 b c, sq2 b d, sq2 c d] : List Int).length : Int) == 6) = true := rfl
 have len : (([sq2 a b, sq2 a c, sq2 a d, sq2 b c, sq2 b d, sq2 c d] : List Int).length : Int) = 6 := rfl
 rw [areSq_s hN (by simp), h1, e6, Option.bind_some, h2, Option.bind_some, Bool.and_true, cnd_true, cnd_eqt rfl, len, grd_pos ⟨by omega, by omega⟩, grd_pos ⟨by omega, by omega⟩, grd_pos ⟨by omega, by omega⟩]
 have t1 := tri_plane hN ha hb hc
 have t2 := tri_plane hN ha hb hd
 have t3 := tri_plane hN ha hc hd
 have t4 := tri_plane hN hb hc hd
 refine (congrArg (fun o => Option.bind o _) t1).trans ?_
 rw [Option.bind_some, cnd_true, grd_pos ⟨by omega, by omega⟩, grd_pos ⟨by omega, by omega⟩]
 refine (congrArg (fun o => Option.bind o _) t2).trans ?_
 rw [Option.bind_some, cnd_true, grd_pos ⟨by omega, by omega⟩]
 refine (congrArg (fun o => Option.bind o _) t3).trans ?_
 rw [Option.bind_some, cnd_true]
 exact (congrArg (fun o => Option.bind o _) t4).trans rfl
theorem last1_mem (hN : 4000000 ≤ N) {d : List Int} (h5 : d.length = 5) {x : Nat} (hx : x ≤ 200) (hpl : I_IsPlanar N (d ++ [(x : Int)]) = some true) : ∀ (fuel i : Nat) (l : List Int), i ≤ 201 → 201 < fuel + i → l.length ≤ i → (i ≤ x ∨ (x : Int) ∈ l) →
  ∃ l' : List Int, l'.length ≤ 201 ∧ (x : Int) ∈ l' ∧ I_LastSquares_l1 N d (fun x => some x) fuel (l, (i : Int)) = some l' := by
 intro fuel
 induction fuel with
 | zero => intro i l h1 h2; omega
 | succ fuel ih =>
  intro i l h1 h2 h3 h4
  rw [I_LastSquares_l1]
  by_cases hi : i ≤ 200
  ·obtain ⟨b, a1, a2⟩ := planar_x (N := N) hN (d := d ++ [(i : Int)]) (by simp; omega)
   rw [cnd_dt (by omega), copyI_s (by omega), Option.bind_some, grd_pos (by omega), a2, Option.bind_some]
   by_cases e : i = x
   ·subst e
    rw [hpl] at a2
    cases a2
    rw [cnd_true, grd_pos (by omega), grd_R (by omega) (by omega), succ_cast]
    exact ih (i + 1) _ (by omega) (by omega) (by simp; omega) (.inr (by simp))
   ·cases b with
    | true =>
     rw [cnd_true, grd_pos (by omega), grd_R (by omega) (by omega), succ_cast]
     exact ih (i + 1) _ (by omega) (by omega) (by simp; omega) (h4.imp (by omega) fun h => List.mem_append.2 (.inl h))
    | false =>
     rw [cnd_false, grd_R (by omega) (by omega), succ_cast]
     exact ih (i + 1) _ (by omega) (by omega) (by omega) (h4.imp (by omega) id)
  ·rw [cnd_df (by omega)]
   exact ⟨l, by omega, h4.resolve_left (by omega), rfl⟩
theorem last_plane (hN : 4000000 ≤ N) {a b c d : Int × Int} (ha : onGrid a = true) (hb : onGrid b = true) (hc : onGrid c = true) (hd : onGrid d = true) : ∃ l : List Int, l.length ≤ 201 ∧ sq2 c d ∈ l ∧ I_LastSquares N [sq2 a b, sq2 a c, sq2 a d, sq2 b c, sq2 b d] = some l := by
 obtain ⟨h1, h2⟩ := menger_plane hN ha hb hc hd
 have h6 := sq2_bd hc hd
 have hq : allSq [sq2 a b, sq2 a c, sq2 a d, sq2 b c, sq2 b d] = true := by
  unfold allSq at h1 ⊢
  rw [List.all_eq_true] at h1 ⊢
  intro i hi
  have hi := List.mem_range.1 hi
  have hi5 : i < 5 := hi
  have := h1 i (List.mem_range.2 (show i < 6 by omega))
  have hh : i = 0 ∨ i = 1 ∨ i = 2 ∨ i = 3 ∨ i = 4 := by omega
  rcases hh with rfl | rfl | rfl | rfl | rfl <;> exact this
 obtain ⟨x, hx⟩ := Int.eq_ofNat_of_zero_le h6.1
 have hpl := planar_plane hN ha hb hc hd
 obtain ⟨l, l1, l2, l3⟩ := last1_mem (N := N) hN (d := [sq2 a b, sq2 a c, sq2 a d, sq2 b c, sq2 b d]) rfl (x := x) (by omega) (by rw [← hx]; exact hpl) N 0 [] (by omega) (by omega) (by simp) (.inl (by omega))
 refine ⟨l, l1, by rw [hx]; exact l2, ?_⟩
 unfold I_LastSquares
 have e5 : ((([sq2 a b, sq2 a c, sq2 a d, sq2 b c, sq2 b d] : List Int).length : Int) == 5) = true := rfl
 rw [areSq_s hN (by simp), hq, e5]
 exact l3
theorem squares_d (hN : 4000000 ≤ N) {c : Cur} (hc : CK c) : Ok (S_l22Squares N c) fun r => r.1.length = 6 ∧ 0 ≤ r.2.1 := by
 unfold S_l22Squares
 refine ok_bind (of_d hN hc (g := ⟨4, []⟩) (k := 0) (by omega) ⟨by simp only; omega, by simp only; omega⟩ ⟨by simp, by simp⟩) fun f hf => ?_
 obtain ⟨hf, hcur⟩ := hf
 have hpl := hf.pl
 simp only at hpl
 have h4 : f.1.places.length = 4 := by omega
 obtain ⟨d, d1, d2, d3⟩ := squares_x (N := N) hN (p := f.1.places) (by omega)
 have hon : ∀ j, j < f.1.places.length → onGrid (atP f.1.places j) = true := fun j hj => hf.on _ (getD_in hj)
 have hd6 : d.length = 6 := by
  rcases d3 with ⟨_, rfl⟩ | rfl
  ·match hh : f.1.places, h4 with
   | [a, b, c, d], _ => rfl
  ·unfold S_SquaresOf at d1
   have := outS_on (N := N) hN (p := f.1.places) (by omega) hon N 0 [] (by omega) (by omega) (by simp)
   have e := d1.symm.trans this
   have e := Option.some.inj e
   match hh : f.1.places, h4, e with
   | [a, b, c, d], _, e => cases e
 rw [d1, Option.bind_some]
 refine ok_bind (once_s (hc.at hcur) 4) fun o ho => ?_
 refine ok_cnd (fun c1 => ?_) (fun c1 => ok_some ⟨hd6, ho⟩)
 refine ok_bind (below_s (hc.at ho) 6) fun x hx => ?_
 have x0 := hx.nn
 have x1 := hx.lt (by omega)
 refine ok_bind (pickInt_d (hc.at hx.cur) (by simp)) fun y hy => ?_
 exact ok_grd ⟨x0, by omega⟩ (ok_grd (by simp) (ok_some ⟨by simp; exact hd6, hy.2⟩))
theorem drawSquares_d (hN : 4000000 ≤ N) {code : List Int} (hb : Byt code) (hl : code.length ≤ 1048576) : Ok (S_DrawSquaresOf N code) fun p => p.length ≤ 6 := by
 unfold S_DrawSquaresOf
 exact ok_bind (new_s hN hb hl) fun c hc => ok_bind (any10_d hN hc.1) fun r hr => ok_some hr.1
theorem drawHeron_d (hN : 4000000 ≤ N) {code : List Int} (hb : Byt code) (hl : code.length ≤ 1048576) : Ok (S_DrawHeronOf N code) fun _ => True := by
 unfold S_DrawHeronOf
 refine ok_bind (new_s hN hb hl) fun c hc => ok_bind (squares_d hN hc.1) fun r hr => ?_
 have := hr.1
 exact ok_grd ⟨by omega, by omega⟩ (ok_grd ⟨by omega, by omega⟩ (ok_grd ⟨by omega, by omega⟩ (ok_some trivial)))
theorem drawTri_d (hN : 4000000 ≤ N) {code : List Int} (hb : Byt code) (hl : code.length ≤ 1048576) : Ok (S_DrawIsTriangle N code) fun _ => True := by
 unfold S_DrawIsTriangle
 refine ok_bind (new_s hN hb hl) fun c hc => ok_bind (squares_d hN hc.1) fun r hr => ?_
 have := hr.1
 exact ok_grd ⟨by omega, by omega⟩ (ok_grd ⟨by omega, by omega⟩ (ok_grd ⟨by omega, by omega⟩ (ok_some trivial)))
theorem drawMenger_d (hN : 4000000 ≤ N) {code : List Int} (hb : Byt code) (hl : code.length ≤ 1048576) : Ok (S_DrawMengerOf N code) fun d => d.length ≤ 6 := by
 unfold S_DrawMengerOf
 refine ok_bind (new_s hN hb hl) fun c hc => ok_bind (squares_d hN hc.1) fun r hr => ok_grd (by omega) ?_
 have := hr.1
 exact ok_cnd (fun _ => ok_grd ⟨by omega, by omega⟩ (ok_some (by simp; omega))) fun _ => ok_some (by omega)
theorem drawPlanar_d (hN : 4000000 ≤ N) {code : List Int} (hb : Byt code) (hl : code.length ≤ 1048576) : Ok (S_DrawIsPlanar N code) fun d => d.length ≤ 6 := by
 unfold S_DrawIsPlanar
 exact ok_bind (new_s hN hb hl) fun c hc => ok_bind (squares_d hN hc.1) fun r hr => ok_some (by rw [hr.1]; omega)
theorem drawLast_d (hN : 4000000 ≤ N) {code : List Int} (hb : Byt code) (hl : code.length ≤ 1048576) : Ok (S_DrawLastSquares N code) fun d => d.length ≤ 6 := by
 unfold S_DrawLastSquares
 refine ok_bind (new_s hN hb hl) fun c hc => ok_bind (squares_d hN hc.1) fun r hr => ?_
 have := hr.1
 exact ok_grd ⟨by omega, by omega⟩ (ok_some (by simp; omega))
end Go.Proofs.Ytcljhpldfanhkaa
namespace Go.Proofs.Ytcljhpldfanhkaa
variable {n : Nat} {N : Nat}
end Go.Proofs.Ytcljhpldfanhkaa
namespace Go.Proofs.Ytcljhpldfanhkaa
variable {n : Nat}
end Go.Proofs.Ytcljhpldfanhkaa
namespace Go.Proofs.Ytcljhpldfanhkaa
variable {n : Nat} {N : Nat}
end Go.Proofs.Ytcljhpldfanhkaa
namespace Go.Proofs.Ytcljhpldfanhkaa
variable {n : Nat}
end Go.Proofs.Ytcljhpldfanhkaa
namespace Go.Proofs.Ytcljhpldfanhkaa
variable {n : Nat} {N : Nat}
end Go.Proofs.Ytcljhpldfanhkaa
namespace Go.Proofs.Ytcljhpldfanhkaa
variable {n : Nat} {N : Nat}
end Go.Proofs.Ytcljhpldfanhkaa
namespace Go.Proofs.Ytcljhpldfanhkaa
variable {N : Nat}
end Go.Proofs.Ytcljhpldfanhkaa
namespace Go.Proofs.Ytcljhpldfanhkaa
open Go.RowKit
end Go.Proofs.Ytcljhpldfanhkaa
namespace Go.Proofs.Ytcljhpldfanhkaa
open Go.RowKit
end Go.Proofs.Ytcljhpldfanhkaa
namespace Go.Proofs.Ytcljhpldfanhkaa
open Go.RowKit
end Go.Proofs.Ytcljhpldfanhkaa
namespace Go.Proofs.Ytcljhpldfanhkaa
variable {N : Nat}
end Go.Proofs.Ytcljhpldfanhkaa
namespace Go.Proofs.Ytcljhpldfanhkaa
open Go.RowKit
variable {n : Nat} {N : Nat}
end Go.Proofs.Ytcljhpldfanhkaa
namespace Go.Proofs.Ytcljhpldfanhkaa
open Go.RowKit
variable {n : Nat} {N : Nat}
end Go.Proofs.Ytcljhpldfanhkaa
namespace Go.Proofs.Ytcljhpldfanhkaa
open Go.RowKit
variable {n : Nat} {N : Nat}
theorem has_s (hN : 4000000 ≤ N) {l : List Int} (hl : l.length ≤ 3000000) (x : Int) : L_has N l x = some (l.contains x) := by
 have key : ∀ (fuel i : Nat), i ≤ l.length → l.length < fuel + i → L_has_l1 N l x (fun (_ : Unit) => some false) fuel (i : Int) = some ((l.drop i).contains x) := by
  intro fuel
  induction fuel with
  | zero => intro i h1 h2; omega
  | succ fuel ih =>
   intro i h1 h2
   rw [L_has_l1]
   by_cases hi : i < l.length
   ·have e2 : ((i : Int)).toNat = i := rfl
    have ed : l.drop i = l.getD i 0 :: l.drop (i + 1) := by
     rw [List.drop_eq_getElem_cons hi]; simp [List.getD_eq_getElem?_getD, hi]
    rw [cnd_dt (by omega), grd_pos (by omega), e2, ed, List.contains_cons]
    by_cases e : l.getD i 0 = x
    ·rw [cnd_eqt e, e]; simp
    ·rw [cnd_eqf e, grd_R (by omega) (by omega), succ_cast, ih (i + 1) (by omega) (by omega)]
     have : (x == l.getD i 0) = false := by simpa using fun h => e h.symm
     rw [this, Bool.false_or]
   ·rw [cnd_df (by omega), List.drop_eq_nil_of_le (by omega)]; rfl
 have := key N 0 (by omega) (by omega)
 simpa [L_has] using this
theorem sameInts_s (hN : 4000000 ≤ N) {l : List Int} (hl : l.length ≤ 3000000) : L_sameInts N l l = some true := by
 have key : ∀ (fuel i : Nat), i ≤ l.length → l.length < fuel + i → L_sameInts_l1 N l l (fun (_ : Unit) => some true) fuel (i : Int) = some true := by
  intro fuel
  induction fuel with
  | zero => intro i h1 h2; omega
  | succ fuel ih =>
   intro i h1 h2
   rw [L_sameInts_l1]
   by_cases hi : i < l.length
   ·rw [cnd_dt (by omega), grd_pos (by omega), grd_pos (by omega), cnd_nef rfl, grd_R (by omega) (by omega), succ_cast, ih (i + 1) (by omega) (by omega)]
   ·rw [cnd_df (by omega)]
 unfold L_sameInts
 rw [cnd_nef rfl]
 exact key N 0 (by omega) (by omega)
end Go.Proofs.Ytcljhpldfanhkaa
namespace Go.Proofs.Ytcljhpldfanhkaa
open Go.ChangeShapes Go.WideShapes Go.ChangeAt Go.RowKit Go.Deep
section
variable {H : Type} {enc : TypeId × Value → H} {P : Program} {w : World} {spare : Nat → Bool} {held : Bool} {fuel : Nat} {cs : List Value} {x : DataW H × List MemPlace}
theorem open_bytesD {t e : TypeId} (ht : P.underlying t = some (.slice e)) (he : P.underlying e = some (.int .u8)) (hc : P.cellsOf e = 1) (h : DataW.trod enc P w 0 spare held fuel t cs = some x) :
  ∃ v l, cs = [v] ∧ VR M0 R0 w (.ro false (.bytes l)) v ∧ ∀ x ∈ l, 0 ≤ x ∧ x < 256 := by
 obtain ⟨v, rfl, hcap⟩ := trod_cap ht h
 rcases open_slice1 ht hc h with ⟨h0, _⟩ | ⟨a, len, cap, m, n, V, D, Pl, h0, hb, hl, hm, hmm, rfl, hx⟩
 ·simp at h0; subst h0
  exact ⟨_, [], rfl, .ro false (.bytes []) _ 0 0 0 (fun _ _ => undef) (Nat.zero_le _) (Nat.le_refl _) (fun h => absurd h (by simp [Sq.len])) (fun i j d hi => absurd hi (by simp [Sq.len])) (fun i j d hi => absurd hi (by simp [Sq.len])), by simp⟩
 ·simp at h0; subst h0
  have hlm : len ≤ m := by rw [hmm]; split <;> omega
  have hcell : ∀ i, i < len → ∃ z : Int, w.cell? (a.add i) = some (.int .u8 z) ∧ 0 ≤ z ∧ z < 256 := fun i hi => by
   obtain ⟨h1, h2⟩ := hx i (by omega)
   obtain ⟨z, hz, _, hw⟩ := DataW.trod_int he h2
   simp at hz
   simp [Lit.wf, IntKind.min, IntKind.max, IntKind.signed, IntKind.bits] at hw
   exact ⟨z, by rw [h1, hz], by omega⟩
  obtain ⟨f, hf⟩ := choose_lt hcell
  have hlen : ((List.range len).map f).length = len := by simp
  refine ⟨_, (List.range len).map f, rfl, ?_, fun x hx' => ?_⟩
  ·by_cases h0 : 0 < len
   ·have c0 := (hf 0 h0).1
    have hs := cell?_spot c0
    have ha : a = ⟨a.block, a.off, none⟩ := by
     have : (a.add 0) = a := by simp [Addr.add]
     rw [this] at hs; cases a; simp_all
    have hlt : a.block < w.heap.size := by have := cell?_lt c0; rwa [add_block] at this
    have hcl : ∀ i, i < len → w.cell? ⟨a.block, a.off + i, none⟩ = some (.int .u8 (f i)) := fun i hi => by
     have := (hf i hi).1
     rw [ha, Addr.add_lit] at this
     exact this
    have := VR.ro (M := M0) (A := R0) (w := w) false (.bytes ((List.range len).map f)) (some a) cap a.block a.off (fun i _ => .int .u8 (f i)) (by simp only [Sq.len, hlen]; omega) (by simp only [Sq.len, hlen]; exact hl) (fun _ => ⟨by rw [← ha], hlt, trivial⟩) (fun i j d hi hd => by
      simp only [Sq.len, hlen] at hi
      rcases j with _ | j <;> simp [Sq.elem] at hd
      simp only [Sq.sz, Nat.mul_one, Nat.add_zero]
      exact hcl i hi) (fun i j d hi hd => by
      simp only [Sq.len, hlen] at hi
      rcases j with _ | j <;> simp [Sq.elem, hi] at hd
      subst hd
      exact .val _ rfl)
    simpa only [Sq.len, hlen] using this
   ·have := VR.ro (M := M0) (A := R0) (w := w) false (.bytes ((List.range len).map f)) (some a) cap 0 0 (fun _ _ => undef) (by simp only [Sq.len, hlen]; omega) (by simp only [Sq.len, hlen]; exact hl) (fun h => absurd h (by simp only [Sq.len, hlen]; exact h0)) (fun i j d hi => absurd hi (by simp only [Sq.len, hlen]; omega)) (fun i j d hi => absurd hi (by simp only [Sq.len, hlen]; omega))
    simpa only [Sq.len, hlen] using this
  ·obtain ⟨i, hi, rfl⟩ := List.mem_map.1 hx'
   exact (hf i (by simpa using hi)).2
end
end Go.Proofs.Ytcljhpldfanhkaa
