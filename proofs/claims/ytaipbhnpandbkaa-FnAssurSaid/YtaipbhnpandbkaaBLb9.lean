/- Texts that the proof needs, put together: G121 En Va. -/
import Derived.Test.YtaipbhnpandbkaaBLb2
import Derived.Test.YtaipbhnpandbkaaBLb3
import Derived.Test.YtaipbhnpandbkaaBLb4
import Derived.Test.YtaipbhnpandbkaaBLb5
import Derived.Test.YtaipbhnpandbkaaBLb6
import Derived.Test.YtaipbhnpandbkaaBLb7
import Derived.Test.YtaipbhnpandbkaaBLb8
set_option maxRecDepth 20000
set_option maxHeartbeats 1600000
set_option linter.unusedVariables false
set_option linter.unusedSimpArgs false
namespace Go.Proofs.Ytaipbhnpandbkaa
section
open Go.RowKit
def Hb (N:Nat) (a_0:List (List Int)) (b_1:List (List Int)) (k:Unit→Option (Bool)):Nat→Int→Option (Bool)
 | 0,_=>none
 | n+1,i7=>
  cnd (decide (i7<(a_0.length:Int))) (
   grd (0≤i7∧i7<(a_0.length:Int)) <|
   grd (0≤i7∧i7<(b_1.length:Int)) <|
   (Jw N (a_0.getD ((i7).toNat) []) (b_1.getD ((i7).toNat) [])).bind fun v9=>
   cnd (!v9) (
    some false) (
    grd (Bc (i7+(1:Int))) <|
    Hb N a_0 b_1 k n (i7+(1:Int)))) (
   k ())
def Jx (N:Nat) (a_0:List (List Int)) (b_1:List (List Int)):Option (Bool):=
 cnd ((a_0.length:Int) != (b_1.length:Int)) (
  some false) (
  Hb N a_0 b_1 (fun (_ : Unit) =>
     some true) N (0:Int))
theorem Qd (N:Nat) (a_0:List (List Int)) (b_1:List (List Int)) (r:Bool) (h:Jx N a_0 b_1=some r):PCall Try.prog 14 [.ro false (.intss a_0),.ro false (.intss b_1)] [] (.bool r):=by
 unfold Jx at h;refine Aj (TT:=TT) tt Try.func14 O O Try.ntmps14 (congrArg Array.toList Try.results14) O O fun w0=>(Ai (Ab (Aa O (Ah (Ai (Ai (Ab ?_)))))));iterate 5 refine Aa O ?_
 refine Ah (Au O (fun hb1=>?_) (fun hb1=>?_))
 ·replace h:=Ak hb1 h;refine Ai (Ab (Aa O (Ah (Az ?_))));show ∃ _,_;cases h;exact ⟨[],_,O,Y,O,.eq O,O⟩
 replace h:=Al hb1 h;refine As (Ai (Ai (Ab (Aa O (Ah (Cr (F:=fun k=>Hb N a_0 b_1 k) h (α:=Unit) (J:=fun (_:Unit)=>(⟨[],[],[]⟩:PS)) ?_ ?_))))))
 ·rintro ⟨⟩ h;show VC _ _ _ (⟨[],[],[]⟩:PS);refine Ai (Ab (Aa O (Ah (Az ?_))));show ∃ _,_;cases h;exact ⟨[],_,O,Y,O,.eq O,O⟩
 intro k h;refine Aq (Bd (α:=Int) (fun (i7:Int)=>(⟨[(0,.ro false (.intss a_0)),(1,.ro false (.intss b_1)),(5,.int i7)],[],[]⟩:PS)) (Hb N a_0 b_1 k) h (En.of ⟨O,O,O,Y⟩ trivial trivial) (fun _=>O) ?_);rintro n i7 h;rw [Hb] at h;show VC _ _ _ (⟨[(0,.ro false (.intss a_0)),(1,.ro false (.intss b_1)),(5,.int i7)],[],[]⟩:PS);refine Ai (Ai (Ab ?_));iterate 4 refine Aa O ?_
 refine Ah (Au O (fun hb2=>?_) (fun hb2=>?_))
 ·replace h:=Ak hb2 h;refine As (Ai (Aq (Ai (Bs (by kernel_rfl) (by kernel_rfl) ?_))));iterate 2 refine Ax tt O (Ad O) O O O Y ?_
  obtain ⟨hg3,h⟩:=Ac h;refine Ax tt O (Ad O) O O O hg3 ?_;iterate 3 refine Ax tt O (Ad O) O O O Y ?_
  obtain ⟨hg4,h⟩:=Ac h;refine Ax tt O (Ad O) O O O hg4 (Ax tt O (Ad O) O O O Y ?_);obtain ⟨v9,hc5,h⟩:=Ag h;refine Hp (Pp N (a_0.getD ((i7).toNat) []) (b_1.getD ((i7).toNat) []) v9 hc5) O (Ad O) O O O O O O ⟨O,O,Y⟩ (Ax tt O (Ad O) O O O Y (Hq (Au O (fun hb6=>?_) (fun hb6=>?_))))
  ·replace h:=Ak hb6 h;refine Ai (Ab (Aa O (Ah (Az ?_))));show ∃ _,_;cases h;exact ⟨[],_,O,Y,O,.eq O,O⟩
  replace h:=Al hb6 h;refine As (Ab (Aa O ?_));obtain ⟨hg7,h⟩:=Ac h;refine Ae tt O hg7 (Aa O (Ah ?_));show ∃ _,_;exact ⟨(i7+(1:Int)),(En.of ⟨O,O,O,Y⟩ trivial trivial),h⟩
 replace h:=Al hb2 h;refine Bn ?_;show ∃ _,_;exact ⟨(),(En.of trivial trivial trivial),h⟩
def Gs (N:Nat) (code_0:List Int):Option (Pin×(List Int)):=
 (Tr N code_0).bind fun v1=>
 (Qu N v1).bind fun v2=>
 (Dy N v2.1).bind fun v3=>
 cnd (decide ((v3.1.length:Int) > (0:Int))) (
  (Su N (⟨v1.b,v2.2.1,v2.2.2⟩:Cur) (4:Int)).bind fun v4=>
  cnd v4.1 (
   (Cb N (⟨v1.b,v4.2.1,v4.2.2⟩:Cur) (5:Int)).bind fun v5=>
   grd (0≤(0:Int)∧(0:Int)<(v3.1.length:Int)) <|
   grd (v3.1.length=(v3.1.set ((0:Int).toNat) v5.1).length) <|
   some ((⟨⟨v2.1.g.n,v2.1.g.bars⟩,v2.1.ground⟩:Pin),(v3.1.set ((0:Int).toNat) v5.1))) (
   some ((⟨⟨v2.1.g.n,v2.1.g.bars⟩,v2.1.ground⟩:Pin),v3.1))) (
  some ((⟨⟨v2.1.g.n,v2.1.g.bars⟩,v2.1.ground⟩:Pin),v3.1))
theorem Qm (N:Nat) (code_0:List Int) (r:Pin×(List Int)) (h:Gs N code_0=some r):PCall Try.prog 21 [.ro false (.bytes code_0)] [(52,.pairs r.1.g.bars),(3,.ints r.1.ground),(3,.ints r.2)] (.tup [.agg [.int r.1.g.n,.row 0 0 r.1.g.bars.length,.row 1 0 r.1.ground.length],.row 2 0 r.2.length]):=by
 unfold Gs at h;refine Aj (TT:=TT) tt Try.func21 O O Try.ntmps21 (congrArg Array.toList Try.results21) O O fun w0=>(Ai (Ab (Bw tt O O O O O O O O O (Aa O (Ah (Ai (Ab (Aa O ?_))))))));obtain ⟨v1,hc1,h⟩:=Ag h;refine oCallB (Aae N code_0 v1 hc1) O O O O O ⟨O,O,Y⟩ (Aa O (Ah (Ai (Ab (Aa O (vEnO (En.zero 9503 52 (.pairs []) O O) (vEnO (En.zero 9504 3 (.ints []) O O) ?_)))))));obtain ⟨v2,hc2,h⟩:=Ag h;refine Fv (Xk N v1 v2 hc2) [9503,9504] [9] [1110,1111] O O O O O O ⟨O,O,Y⟩ ⟨O,Y⟩ ⟨⟨O,O⟩,Y⟩ (Bw tt O O O O O O O O O (Ar tt O O O O O O O O O O O ⟨Y,Y,Y,Y⟩ (Ah (Ai (Ab (Aa O ?_))))));obtain ⟨v3,hc3,h⟩:=Ag h;refine Ba (Lq N v2.1 v3 hc3) O O O O O O O O ⟨⟨O,(.inl ⟨O,O⟩),(.inl ⟨O,O⟩),Y⟩,Y⟩ ?_;iterate 5 refine Aa O ?_
 refine Ah (Ai (Ai (Ab ?_)));iterate 4 refine Aa O ?_
 refine Bu O O O (fun hb4=>?_) (fun hb4=>?_)
 ·replace h:=Ak hb4 h;refine Bt tt O O O O O hb4 O O O Y ?_;obtain ⟨v4,hc5,h⟩:=Ag h;refine oMCallG (Abq N (⟨v1.b,v2.2.1,v2.2.2⟩:Cur) (4:Int) v4 hc5) [] [9] [] O O O O hb4 O O O O O Y ⟨O,Y⟩ ⟨⟨O,O⟩,⟨O,O⟩,Y⟩ (Cf O O O O O hb4 O (Ah (Au O (fun hb6=>?_) (fun hb6=>?_))))
  ·replace h:=Ak hb6 h;refine Ab (Aa O (Aa O ?_));obtain ⟨v5,hc7,h⟩:=Ag h;refine Fv (Bv N (⟨v1.b,v4.2.1,v4.2.2⟩:Cur) (5:Int) v5 hc7) [] [9] [] O O O O O O Y ⟨O,Y⟩ ⟨⟨O,O⟩,⟨O,O⟩,Y⟩ ?_;obtain ⟨hg8,h⟩:=Ac h;refine Ae tt O hg8 (Ar tt O O O O O O O O O O ⟨_,_,O,hg8.1,hg8.2⟩ ⟨hg8,Y⟩ (Ah (Ai (Ab (Aa O (Aa O (Ar tt O O O O O O O O O O O ⟨Y,Y,Y,Y⟩ (Aa O (Ah ?_)))))))));show VC ..;obtain ⟨hg9,h⟩:=Ac h;refine Az ?_;show ∃ _,_;cases h;exact ⟨[1110,1111,1140],_,O,⟨O,O,O,Y⟩,O,(.eq (by simp only [hg9]; rfl)),O⟩
  replace h:=Al hb6 h;refine As (Ai (Ab (Aa O (Aa O (Ar tt O O O O O O O O O O O ⟨Y,Y,Y,Y⟩ (Aa O (Ah (Az ?_))))))));show ∃ _,_;cases h;exact ⟨[1110,1111,1140],_,O,⟨O,O,O,Y⟩,O,.eq O,O⟩
 replace h:=Al hb4 h;iterate 2 refine Sw O O O O hb4 O O ?_
 refine Bp O O O O O hb4 O (Ah (Gf O O (As (Ai (Ab (Aa O (Aa O (Ar tt O O O O O O O O O O O ⟨Y,Y,Y,Y⟩ (Aa O ?_)))))))));refine Ah (Az ?_);show ∃ _,_;cases h;exact ⟨[1110,1111,1140],_,O,⟨O,O,O,Y⟩,O,.eq O,O⟩
def Gl (N:Nat) (code_0:List Int):Option (Pin×Int):=
 (Tr N code_0).bind fun v1=>
 (Qu N v1).bind fun v2=>
 (Cb N (⟨v1.b,v2.2.1,v2.2.2⟩:Cur) (9:Int)).bind fun v3=>
 grd (Bc (v3.1-(1:Int))) <|
 some ((⟨⟨v2.1.g.n,v2.1.g.bars⟩,v2.1.ground⟩:Pin),(v3.1-(1:Int)))
theorem Qp (N:Nat) (code_0:List Int) (r:Pin×Int) (h:Gl N code_0=some r):PCall Try.prog 22 [.ro false (.bytes code_0)] [(52,.pairs r.1.g.bars),(3,.ints r.1.ground)] (.tup [.agg [.int r.1.g.n,.row 0 0 r.1.g.bars.length,.row 1 0 r.1.ground.length],.int r.2]):=by
 unfold Gl at h;refine Aj (TT:=TT) tt Try.func22 O O Try.ntmps22 (congrArg Array.toList Try.results22) O O fun w0=>(Ai (Ab (Bw tt O O O O O O O O O (Aa O (Ah (Ai (Ab (Aa O ?_))))))));obtain ⟨v1,hc1,h⟩:=Ag h;refine oCallB (Aae N code_0 v1 hc1) O O O O O ⟨O,O,Y⟩ (Aa O (Ah (Ai (Ab (Aa O (vEnO (En.zero 9503 52 (.pairs []) O O) (vEnO (En.zero 9504 3 (.ints []) O O) ?_)))))));obtain ⟨v2,hc2,h⟩:=Ag h;refine Fv (Xk N v1 v2 hc2) [9503,9504] [7] [1090,1091] O O O O O O ⟨O,O,Y⟩ ⟨O,Y⟩ ⟨⟨O,O⟩,Y⟩ (Bw tt O O O O O O O O O (Ar tt O O O O O O O O O O O ⟨Y,Y,Y,Y⟩ (Ah (Ai (Bi 5 [2,1020000007,1040000002] [0,0,2,6,7,31] (by kernel_rfl) (by kernel_rfl) (by kernel_rfl) (by kernel_rfl) (by kernel_rfl) O (by rfl) ?_)))));iterate 2 refine Br tt O (Ad O) O O O O O Y ?_
 obtain ⟨v3,hc3,h⟩:=Ag h;refine nMCall (rids:=[]) (bids:=[]) (pids:=[]) (Ad rfl) (Bv N (⟨v1.b,v2.2.1,v2.2.2⟩:Cur) (9:Int) v3 hc3) [] [7] [] rfl rfl rfl rfl rfl (by first | rfl | kernel_rfl) rfl rfl rfl rfl rfl (by first | rfl | kernel_rfl)  trivial ⟨rfl,Y⟩ ⟨⟨rfl,rfl⟩,⟨rfl,rfl⟩,Y⟩ ?_;obtain ⟨hg4,h⟩:=Ac h;refine Br tt O (Ad O) O O O O O hg4 (nStoreB tt (Ad O) O O O O O O O O O O O O (Pm ?_));show VO _ _ _ _ _;refine Aa O (Ah (Az ?_));show ∃ _,_;cases h;exact ⟨[1090,1091],_,O,⟨O,O,Y⟩,O,.eq O,O⟩
def Gw (N:Nat) (v8:(List (List Int))×Bool) (l260:List Int) (i261:Int) (v278:List Int) (k:Unit→Option (Bool)):Nat→Int→Option (Bool)
 | 0,_=>none
 | n+1,k289=>
  cnd (decide (k289<(v278.length:Int))) (
   grd (0≤k289∧k289<(v278.length:Int)) <|
   (L_has N l260 (v278.getD ((k289).toNat) 0)).bind fun v292=>
   cnd (!v292) (
    (L_has N (v8.1.getD ((i261).toNat) []) (v278.getD ((k289).toNat) 0)).bind fun v293=>
    cnd (!v293) (
     some false) (
     grd (Bc (k289+(1:Int))) <|
     Gw N v8 l260 i261 v278 k n (k289+(1:Int)))) (
    grd (Bc (k289+(1:Int))) <|
    Gw N v8 l260 i261 v278 k n (k289+(1:Int)))) (
   k ())
def Hx (N:Nat) (v2:Pin) (v8:(List (List Int))×Bool) (k:(List Int)→Option (Bool)):Nat→((List Int)×Int)→Option (Bool)
 | 0,_=>none
 | n+1,(l260,i261)=>
  cnd (decide (i261<(v8.1.length:Int))) (
   grd (0≤i261∧i261<(v8.1.length:Int)) <|
   grd (0≤(0:Int)∧(0:Int)<((v8.1.getD ((i261).toNat) []).length:Int)) <|
   (Es N v2 ((v8.1.getD ((i261).toNat) []).getD ((0:Int).toNat) 0)).bind fun v278=>
   Gw N v8 l260 i261 v278 (fun (_ : Unit) =>
      grd (l260.length+(v8.1.getD ((i261).toNat) []).length≤4294967296) <|
      grd (Bc (i261+(1:Int))) <|
      Hx N v2 v8 k n ((l260++(v8.1.getD ((i261).toNat) [])),(i261+(1:Int)))) N (0:Int)) (
   k l260)
def Kc (N:Nat) (v8:(List (List Int))×Bool) (l543:List Int) (i544:Int) (v561:List Int) (k:Unit→Option (Bool)):Nat→Int→Option (Bool)
 | 0,_=>none
 | n+1,k572=>
  cnd (decide (k572<(v561.length:Int))) (
   grd (0≤k572∧k572<(v561.length:Int)) <|
   (L_has N l543 (v561.getD ((k572).toNat) 0)).bind fun v575=>
   cnd (!v575) (
    (L_has N (v8.1.getD ((i544).toNat) []) (v561.getD ((k572).toNat) 0)).bind fun v576=>
    cnd (!v576) (
     some false) (
     grd (Bc (k572+(1:Int))) <|
     Kc N v8 l543 i544 v561 k n (k572+(1:Int)))) (
    grd (Bc (k572+(1:Int))) <|
    Kc N v8 l543 i544 v561 k n (k572+(1:Int)))) (
   k ())
def Lu (N:Nat) (v2:Pin) (v8:(List (List Int))×Bool) (k:(List Int)→Option (Bool)):Nat→((List Int)×Int)→Option (Bool)
 | 0,_=>none
 | n+1,(l543,i544)=>
  cnd (decide (i544<(v8.1.length:Int))) (
   grd (0≤i544∧i544<(v8.1.length:Int)) <|
   grd (0≤(0:Int)∧(0:Int)<((v8.1.getD ((i544).toNat) []).length:Int)) <|
   (Es N v2 ((v8.1.getD ((i544).toNat) []).getD ((0:Int).toNat) 0)).bind fun v561=>
   Kc N v8 l543 i544 v561 (fun (_ : Unit) =>
      grd (l543.length+(v8.1.getD ((i544).toNat) []).length≤4294967296) <|
      grd (Bc (i544+(1:Int))) <|
      Lu N v2 v8 k n ((l543++(v8.1.getD ((i544).toNat) [])),(i544+(1:Int)))) N (0:Int)) (
   k l543)
def Wx (N:Nat) (code_0:List Int):Option (Bool):=
 (L_big N code_0).bind fun v1=>
 cnd v1 (
  some true) (
  (Gn N code_0).bind fun v2=>
  (Do N v2).bind fun v3=>
  (Dy N v2).bind fun v4=>
  (Fo N v2).bind fun v5=>
  (Fn N v2).bind fun v6=>
  (Ht N v2).bind fun v7=>
  (Hy N v2).bind fun v8=>
  cnd (v3.2 != v4.2) (
   some false) (
   (Jw N v3.1 v4.1).bind fun v9=>
   cnd (!v9) (
    some false) (
    cnd v3.2 (
     (Fx N v2 v4.1).bind fun v10=>
     cnd (!v10) (
      some false) (
      cnd (v5.2 != v6.2) (
       some false) (
       (Jx N v5.1 v6.1).bind fun v11=>
       cnd (!v11) (
        some false) (
        cnd (v7.2 != v8.2) (
         some false) (
         (Jx N v7.1 v8.1).bind fun v12=>
         cnd (!v12) (
          some false) (
          (Bo N v2).bind fun v13=>
          cnd (v3.2 != v13) (
           some false) (
           cnd (v5.2 != v3.2) (
            some false) (
            (Hi N v2).bind fun v14=>
            (Hg N v2).bind fun v15=>
            cnd (v14 != v15) (
             some false) (
             jn (fun (_ : Unit) =>
                (Gs N code_0).bind fun v151=>
                (Gl N code_0).bind fun v152=>
                (Fx N v151.1 v151.2).bind fun v153=>
                (Kx N v151.1 v151.2).bind fun v154=>
                cnd (v153==v154) (
                 (Es N v152.1 v152.2).bind fun v155=>
                 (Lb N v152.1 v152.2).bind fun v156=>
                 (Jw N v155 v156).bind fun v157=>
                 some v157) (
                 some false)) fun k158=>
              cnd v5.2 (
               cnd ((v8.1.length:Int) != (v6.1.length:Int)) (
                some false) (
                Hx N v2 v8 (fun (l225 : List Int) =>
                   (Dv N v2).bind fun v226=>
                   cnd ((l225.length:Int) != (v226.length:Int)) (
                    some false) (
                    k158 ())) N (([]:List Int),(0:Int)))) (
               k158 ())))))))))) (
     cnd (v5.2 != v6.2) (
      some false) (
      (Jx N v5.1 v6.1).bind fun v294=>
      cnd (!v294) (
       some false) (
       cnd (v7.2 != v8.2) (
        some false) (
        (Jx N v7.1 v8.1).bind fun v295=>
        cnd (!v295) (
         some false) (
         (Bo N v2).bind fun v296=>
         cnd (v3.2 != v296) (
          some false) (
          cnd (v5.2 != v3.2) (
           some false) (
           (Hi N v2).bind fun v297=>
           (Hg N v2).bind fun v298=>
           cnd (v297 != v298) (
            some false) (
            jn (fun (_ : Unit) =>
               (Gs N code_0).bind fun v434=>
               (Gl N code_0).bind fun v435=>
               (Fx N v434.1 v434.2).bind fun v436=>
               (Kx N v434.1 v434.2).bind fun v437=>
               cnd (v436==v437) (
                (Es N v435.1 v435.2).bind fun v438=>
                (Lb N v435.1 v435.2).bind fun v439=>
                (Jw N v438 v439).bind fun v440=>
                some v440) (
                some false)) fun k441=>
             cnd v5.2 (
              cnd ((v8.1.length:Int) != (v6.1.length:Int)) (
               some false) (
               Lu N v2 v8 (fun (l508 : List Int) =>
                  (Dv N v2).bind fun v509=>
                  cnd ((l508.length:Int) != (v509.length:Int)) (
                   some false) (
                   k441 ())) N (([]:List Int),(0:Int)))) (
              k441 ()))))))))))))
theorem L_FnAssur_w (N:Nat) (code_0:List Int) (r:Bool) (h:Wx N code_0=some r):PCall Try.prog 3 [.ro false (.bytes code_0)] [] (.bool r):=by
 unfold Wx at h;refine Aj (TT:=TT) tt Try.func3 O O Try.ntmps3 (congrArg Array.toList Try.results3) O O fun w0=>(Ai (Ab (Aa O (Ah (Ai (Ai (Ab (Aa O ?_))))))));obtain ⟨v1,hc1,h⟩:=Ag h;refine Ba (L_big_w N code_0 v1 hc1) O O O O O O O O ⟨O,Y⟩ (Ah (Au O (fun hb2=>?_) (fun hb2=>?_)))
 ·replace h:=Ak hb2 h;refine Ai (Ab (Aa O (Ah (Az ?_))));show ∃ _,_;cases h;exact ⟨[],_,O,Y,O,.eq O,O⟩
 replace h:=Al hb2 h;refine As (Ai (Ab (Aa O ?_)));obtain ⟨v2,hc3,h⟩:=Ag h;refine Ba (Tk N code_0 v2 hc3) O O O O O O O O ⟨O,Y⟩ (Bw tt O O O O O O O O O (Ar tt O O O O O O O O O O O ⟨Y,Y,Y,Y⟩ (Ah (Ai (Ab (Aa O ?_))))));obtain ⟨v3,hc4,h⟩:=Ag h;refine Ba (Xs N v2 v3 hc4) O O O O O O O O ⟨⟨O,(.inl ⟨O,O⟩),(.inl ⟨O,O⟩),Y⟩,Y⟩ ?_;iterate 5 refine Aa O ?_
 refine Ah (Ai (Ab (Aa O ?_)));obtain ⟨v4,hc5,h⟩:=Ag h;refine Ba (Lq N v2 v4 hc5) O O O O O O O O ⟨⟨O,(.inl ⟨O,O⟩),(.inl ⟨O,O⟩),Y⟩,Y⟩ ?_;iterate 5 refine Aa O ?_
 refine Ah (Ai (Ab (Aa O ?_)));obtain ⟨v5,hc6,h⟩:=Ag h;refine Aa9 10 (Mn N v2 v5 hc6) O O O O O O O O O O O (fun _ h=>by cases h) ⟨⟨O,(.inl ⟨O,O⟩),(.inl ⟨O,O⟩),Y⟩,Y⟩ ?_;iterate 5 refine Aa O ?_
 refine Ah (Ai (Ab (Aa O ?_)));obtain ⟨v6,hc7,h⟩:=Ag h;refine Ba (Pk N v2 v6 hc7) O O O O O O O O ⟨⟨O,(.inl ⟨O,O⟩),(.inl ⟨O,O⟩),Y⟩,Y⟩ ?_;iterate 5 refine Aa O ?_
 refine Ah (Ai (Ab (Aa O ?_)));obtain ⟨v7,hc8,h⟩:=Ag h;refine Aa9 11 (Xb N v2 v7 hc8) O O O O O O O O O O O (fun _ h=>by cases h) ⟨⟨O,(.inl ⟨O,O⟩),(.inl ⟨O,O⟩),Y⟩,Y⟩ ?_;iterate 5 refine Aa O ?_
 refine Ah (Ai (Ab (Aa O ?_)));obtain ⟨v8,hc9,h⟩:=Ag h;refine Ba (Xf N v2 v8 hc9) O O O O O O O O ⟨⟨O,(.inl ⟨O,O⟩),(.inl ⟨O,O⟩),Y⟩,Y⟩ ?_;iterate 5 refine Aa O ?_
 refine Ah (Ai (Ai (Bs (by kernel_rfl) (by kernel_rfl) ?_)));iterate 2 refine Ax tt O (Ad O) O O O Y ?_
 refine Rq (Ad O) (pNeB Try.underlying4 O O O) O O (Ax tt O (Ad O) O O O Y (Dj O O O (fun hb10=>?_) (fun hb10=>?_)))
 ·replace h:=Ak hb10 h;iterate 4 refine Ex O O O O hb10 O O ?_
  refine Ay O (Ad O) O O O hb10 O (Ax tt O (Ad O) O O O Y ?_);iterate 2 refine Ex O O O O O O O ?_
  iterate 4 refine cNoU O O O O O ?_
  refine Ex O O O O O O O (Ay O (Ad O) O O O O O (Ax tt O (Ad O) O O O Y ?_));iterate 3 refine Ex O O O O O O O ?_
  refine Ay O (Ad O) O O O O O (Ax tt O (Ad O) O O O Y ?_);iterate 4 refine Ex O O O O O O O ?_
  refine Ay O (Ad O) O O O O O (Ax tt O (Ad O) O O O Y ?_);iterate 3 refine Ex O O O O O O O ?_
  refine Ay O (Ad O) O O O O O (Ax tt O (Ad O) O O O Y ?_);iterate 4 refine Ex O O O O O O O ?_
  refine Ay O (Ad O) O O O O O (Ax tt O (Ad O) O O O Y ?_);iterate 4 refine Ex O O O O O O O ?_
  refine Ay O (Ad O) O O O O O (Ax tt O (Ad O) O O O Y ?_);iterate 3 refine Ex O O O O O O O ?_
  refine Ay O (Ad O) O O O O O (Ax tt O (Ad O) O O O Y ?_);iterate 5 refine Ex O O O O O O O ?_
  refine Ay O (Ad O) O O O O O (Hq (Ce O O (Ai (Ab (Aa O (Ah (Az ?_)))))));show ∃ _,_;cases h;exact ⟨[],_,O,Y,O,.eq O,O⟩
 replace h:=Al hb10 h;iterate 2 refine Ax tt O (Av O O O O hb10) O O O Y ?_
 obtain ⟨v9,hc11,h⟩:=Ag h;refine Hp (Pp N v3.1 v4.1 v9 hc11) O (Av O O O O hb10) O O O O O O ⟨(.inl ⟨O,O⟩),(.inl ⟨O,O⟩),Y⟩ (Ax tt O (Av O O O O hb10) O O O Y (Ct O (Ad O) O O O hb10 O (Ax tt O (Ad O) O O O Y (Dj O O O (fun hb12=>?_) (fun hb12=>?_)))))
 ·replace h:=Ak hb12 h;iterate 2 refine Ex O O O O hb12 O O ?_
  iterate 4 refine cNoU O O O O O ?_
  refine Ex O O O O hb12 O O (Ay O (Ad O) O O O hb12 O (Ax tt O (Ad O) O O O Y ?_));iterate 3 refine Ex O O O O O O O ?_
  refine Ay O (Ad O) O O O O O (Ax tt O (Ad O) O O O Y ?_);iterate 4 refine Ex O O O O O O O ?_
  refine Ay O (Ad O) O O O O O (Ax tt O (Ad O) O O O Y ?_);iterate 3 refine Ex O O O O O O O ?_
  refine Ay O (Ad O) O O O O O (Ax tt O (Ad O) O O O Y ?_);iterate 4 refine Ex O O O O O O O ?_
  refine Ay O (Ad O) O O O O O (Ax tt O (Ad O) O O O Y ?_);iterate 4 refine Ex O O O O O O O ?_
  refine Ay O (Ad O) O O O O O (Ax tt O (Ad O) O O O Y ?_);iterate 3 refine Ex O O O O O O O ?_
  refine Ay O (Ad O) O O O O O (Ax tt O (Ad O) O O O Y ?_);iterate 5 refine Ex O O O O O O O ?_
  refine Ay O (Ad O) O O O O O (Hq (Ce O O (Ai (Ab (Aa O (Ah (Az ?_)))))));show ∃ _,_;cases h;exact ⟨[],_,O,Y,O,.eq O,O⟩
 replace h:=Al hb12 h;iterate 2 refine Ax tt O (Av O O O O hb12) O O O Y ?_
 refine Dj O O O (fun hb13=>?_) (fun hb13=>?_)
 ·replace h:=Ak hb13 h;iterate 2 refine Ax tt O (Av O O O O hb13) O O O Y ?_
  obtain ⟨v10,hc14,h⟩:=Ag h;refine Hp (Ri N v2 v4.1 v10 hc14) O (Av O O O O hb13) O O O O O O ⟨⟨O,(.inl ⟨O,O⟩),(.inl ⟨O,O⟩),Y⟩,(.inl ⟨O,O⟩),Y⟩ (Ax tt O (Av O O O O hb13) O O O Y (Ay O (Av O O O O hb12) O O O hb13 O (Ct O (Ad O) O O O hb12 O (Ax tt O (Ad O) O O O Y (Dj O O O (fun hb15=>?_) (fun hb15=>?_))))))
  ·replace h:=Ak hb15 h;iterate 3 refine Ex O O O O hb15 O O ?_
   refine Ay O (Ad O) O O O hb15 O (Ax tt O (Ad O) O O O Y ?_);iterate 4 refine Ex O O O O O O O ?_
   refine Ay O (Ad O) O O O O O (Ax tt O (Ad O) O O O Y ?_);iterate 3 refine Ex O O O O O O O ?_
   refine Ay O (Ad O) O O O O O (Ax tt O (Ad O) O O O Y ?_);iterate 4 refine Ex O O O O O O O ?_
   refine Ay O (Ad O) O O O O O (Ax tt O (Ad O) O O O Y ?_);iterate 4 refine Ex O O O O O O O ?_
   refine Ay O (Ad O) O O O O O (Ax tt O (Ad O) O O O Y ?_);iterate 3 refine Ex O O O O O O O ?_
   refine Ay O (Ad O) O O O O O (Ax tt O (Ad O) O O O Y ?_);iterate 5 refine Ex O O O O O O O ?_
   refine Ay O (Ad O) O O O O O (Hq (Ce O O (Ai (Ab (Aa O (Ah (Az ?_)))))));show ∃ _,_;cases h;exact ⟨[],_,O,Y,O,.eq O,O⟩
  replace h:=Al hb15 h;iterate 2 refine Ax tt O (Av O O O O hb15) O O O Y ?_
  refine Rq (Av O O O O hb15) (pNeB Try.underlying4 O O O) O O (Ct O (Ad O) O O O hb15 O (Ax tt O (Ad O) O O O Y (Dj O O O (fun hb16=>?_) (fun hb16=>?_))))
  ·replace h:=Ak hb16 h;iterate 4 refine Ex O O O O hb16 O O ?_
   refine Ay O (Ad O) O O O hb16 O (Ax tt O (Ad O) O O O Y ?_);iterate 3 refine Ex O O O O O O O ?_
   refine Ay O (Ad O) O O O O O (Ax tt O (Ad O) O O O Y ?_);iterate 4 refine Ex O O O O O O O ?_
   refine Ay O (Ad O) O O O O O (Ax tt O (Ad O) O O O Y ?_);iterate 4 refine Ex O O O O O O O ?_
   refine Ay O (Ad O) O O O O O (Ax tt O (Ad O) O O O Y ?_);iterate 3 refine Ex O O O O O O O ?_
   refine Ay O (Ad O) O O O O O (Ax tt O (Ad O) O O O Y ?_);iterate 5 refine Ex O O O O O O O ?_
   refine Ay O (Ad O) O O O O O (Hq (Ce O O (Ai (Ab (Aa O (Ah (Az ?_)))))));show ∃ _,_;cases h;exact ⟨[],_,O,Y,O,.eq O,O⟩
  replace h:=Al hb16 h;iterate 2 refine Ax tt O (Av O O O O hb16) O O O Y ?_
  obtain ⟨v11,hc17,h⟩:=Ag h;refine Hp (Qd N v5.1 v6.1 v11 hc17) O (Av O O O O hb16) O O O O O O ⟨(.inr (.inr ⟨10,_,by decide,O,O,O,O⟩)),(.inl ⟨O,O⟩),Y⟩ (Ax tt O (Av O O O O hb16) O O O Y (Ct O (Ad O) O O O hb16 O (Ax tt O (Ad O) O O O Y (Dj O O O (fun hb18=>?_) (fun hb18=>?_)))))
  ·replace h:=Ak hb18 h;iterate 3 refine Ex O O O O hb18 O O ?_
   refine Ay O (Ad O) O O O hb18 O (Ax tt O (Ad O) O O O Y ?_);iterate 4 refine Ex O O O O O O O ?_
   refine Ay O (Ad O) O O O O O (Ax tt O (Ad O) O O O Y ?_);iterate 4 refine Ex O O O O O O O ?_
   refine Ay O (Ad O) O O O O O (Ax tt O (Ad O) O O O Y ?_);iterate 3 refine Ex O O O O O O O ?_
   refine Ay O (Ad O) O O O O O (Ax tt O (Ad O) O O O Y ?_);iterate 5 refine Ex O O O O O O O ?_
   refine Ay O (Ad O) O O O O O (Hq (Ce O O (Ai (Ab (Aa O (Ah (Az ?_)))))));show ∃ _,_;cases h;exact ⟨[],_,O,Y,O,.eq O,O⟩
  replace h:=Al hb18 h;iterate 2 refine Ax tt O (Av O O O O hb18) O O O Y ?_
  refine Rq (Av O O O O hb18) (pNeB Try.underlying4 O O O) O O (Ct O (Ad O) O O O hb18 O (Ax tt O (Ad O) O O O Y (Dj O O O (fun hb19=>?_) (fun hb19=>?_))))
  ·replace h:=Ak hb19 h;iterate 4 refine Ex O O O O hb19 O O ?_
   refine Ay O (Ad O) O O O hb19 O (Ax tt O (Ad O) O O O Y ?_);iterate 4 refine Ex O O O O O O O ?_
   refine Ay O (Ad O) O O O O O (Ax tt O (Ad O) O O O Y ?_);iterate 3 refine Ex O O O O O O O ?_
   refine Ay O (Ad O) O O O O O (Ax tt O (Ad O) O O O Y ?_);iterate 5 refine Ex O O O O O O O ?_
   refine Ay O (Ad O) O O O O O (Hq (Ce O O (Ai (Ab (Aa O (Ah (Az ?_)))))));show ∃ _,_;cases h;exact ⟨[],_,O,Y,O,.eq O,O⟩
  replace h:=Al hb19 h;iterate 2 refine Ax tt O (Av O O O O hb19) O O O Y ?_
  obtain ⟨v12,hc20,h⟩:=Ag h;refine Hp (Qd N v7.1 v8.1 v12 hc20) O (Av O O O O hb19) O O O O O O ⟨(.inr (.inr ⟨11,_,by decide,O,O,O,O⟩)),(.inl ⟨O,O⟩),Y⟩ (Ax tt O (Av O O O O hb19) O O O Y (Ct O (Ad O) O O O hb19 O (Ax tt O (Ad O) O O O Y (Dj O O O (fun hb21=>?_) (fun hb21=>?_)))))
  ·replace h:=Ak hb21 h;iterate 4 refine Ex O O O O hb21 O O ?_
   refine Ay O (Ad O) O O O hb21 O (Ax tt O (Ad O) O O O Y ?_);iterate 3 refine Ex O O O O O O O ?_
   refine Ay O (Ad O) O O O O O (Ax tt O (Ad O) O O O Y ?_);iterate 5 refine Ex O O O O O O O ?_
   refine Ay O (Ad O) O O O O O (Hq (Ce O O (Ai (Ab (Aa O (Ah (Az ?_)))))));show ∃ _,_;cases h;exact ⟨[],_,O,Y,O,.eq O,O⟩
  replace h:=Al hb21 h;iterate 2 refine Ax tt O (Av O O O O hb21) O O O Y ?_
  obtain ⟨v13,hc22,h⟩:=Ag h;refine Hp (Pb N v2 v13 hc22) O (Av O O O O hb21) O O O O O O ⟨⟨O,(.inl ⟨O,O⟩),(.inl ⟨O,O⟩),Y⟩,Y⟩ (Rq (Av O O O O hb21) (pNeB Try.underlying4 O O O) O O (Ct O (Ad O) O O O hb21 O (Ax tt O (Ad O) O O O Y (Dj O O O (fun hb23=>?_) (fun hb23=>?_)))))
  ·replace h:=Ak hb23 h;iterate 3 refine Ex O O O O hb23 O O ?_
   refine Ay O (Ad O) O O O hb23 O (Ax tt O (Ad O) O O O Y ?_);iterate 5 refine Ex O O O O O O O ?_
   refine Ay O (Ad O) O O O O O (Hq (Ce O O (Ai (Ab (Aa O (Ah (Az ?_)))))));show ∃ _,_;cases h;exact ⟨[],_,O,Y,O,.eq O,O⟩
  replace h:=Al hb23 h;iterate 2 refine Ax tt O (Av O O O O hb23) O O O Y ?_
  refine Rq (Av O O O O hb23) (pNeB Try.underlying4 O O O) O O (Ct O (Ad O) O O O hb23 O (Ax tt O (Ad O) O O O Y (Dj O O O (fun hb24=>?_) (fun hb24=>?_))))
  ·replace h:=Ak hb24 h;iterate 5 refine Ex O O O O hb24 O O ?_
   refine Ay O (Ad O) O O O hb24 O (Hq (Ce O O (Ai (Ab (Aa O (Ah (Az ?_)))))));show ∃ _,_;cases h;exact ⟨[],_,O,Y,O,.eq O,O⟩
  replace h:=Al hb24 h;refine Ax tt O (Av O O O O hb24) O O O Y ?_;obtain ⟨v14,hc25,h⟩:=Ag h;refine Hp (Rm N v2 v14 hc25) O (Av O O O O hb24) O O O O O O ⟨⟨O,(.inl ⟨O,O⟩),(.inl ⟨O,O⟩),Y⟩,Y⟩ (Ax tt O (Av O O O O hb24) O O O Y ?_);obtain ⟨v15,hc26,h⟩:=Ag h;refine Hp (Rn N v2 v15 hc26) O (Av O O O O hb24) O O O O O O ⟨⟨O,(.inl ⟨O,O⟩),(.inl ⟨O,O⟩),Y⟩,Y⟩ (Rq (Av O O O O hb24) (pNeB Try.underlying4 O O O) O O (Ct O (Ad O) O O O hb24 O (Hq (Au O (fun hb27=>?_) (fun hb27=>?_)))))
  ·replace h:=Ak hb27 h;refine Ai (Ab (Aa O (Ah (Az ?_))));show ∃ _,_;cases h;exact ⟨[],_,O,Y,O,.eq O,O⟩
  replace h:=Al hb27 h;refine As (Ai (Ai (Ab (Aa O (Ah (vJoinN h (α:=Unit) (J:=fun (_:Unit)=>(⟨[(0,.ro false (.bytes code_0))],[],[]⟩:PS)) ?_ ?_))))))
  ·rintro ⟨⟩ h;show VC _ _ _ (⟨[(0,.ro false (.bytes code_0))],[],[]⟩:PS);refine Ai (Ab (Aa O ?_));obtain ⟨v151,hc28,h⟩:=Ag h;refine Ba (Qm N code_0 v151 hc28) O O O O O O O O ⟨O,Y⟩ (Aa O (Aa O (Aa O (Bw tt O O O O O O O O O (Ar tt O O O O O O O O O O O ⟨Y,Y,Y,Y⟩ (Aa O (Ah (Ai (Ab ?_)))))))));refine Aa O ?_;obtain ⟨v152,hc29,h⟩:=Ag h;refine Ba (Qp N code_0 v152 hc29) O O O O O O O O ⟨O,Y⟩ (Aa O (Aa O (Aa O (Bw tt O O O O O O O O O (Ar tt O O O O O O O O O O O ⟨Y,Y,Y,Y⟩ (Aa O (Ah (Ai (Bi 13 [10] [0,0,3,0,0,31,63,127,255,255,1023,255,255,8191,16383,32767,65535] (by kernel_rfl) (by kernel_rfl) (by kernel_rfl) (by kernel_rfl) (by kernel_rfl) O (by rfl) ?_)))))))));iterate 2 refine Br tt O (Ad O) O O O O O Y ?_
   obtain ⟨v153,hc30,h⟩:=Ag h;refine Aax (Ri N v151.1 v151.2 v153 hc30) O (Ad O) O O O O O O O O ⟨⟨O,(.inl ⟨O,O⟩),(.inl ⟨O,O⟩),Y⟩,(.inl ⟨O,O⟩),Y⟩ ?_;iterate 2 refine Br tt O (Ad O) O O O O O Y ?_
   obtain ⟨v154,hc31,h⟩:=Ag h;refine Aax (Vt N v151.1 v151.2 v154 hc31) O (Ad O) O O O O O O O O ⟨⟨O,(.inl ⟨O,O⟩),(.inl ⟨O,O⟩),Y⟩,(.inl ⟨O,O⟩),Y⟩ (nPure (Ad O) (pEqB Try.underlying4 O O O) O O O O (Br tt O (Ad O) O O O O O Y (nSplit O O O (fun hb32=>?_) (fun hb32=>?_))))
   ·replace h:=Ak hb32 h;iterate 2 refine Br tt O (Av O O O O hb32) O O O O O Y ?_
    obtain ⟨v155,hc33,h⟩:=Ag h;refine Lk (Kn N v152.1 v152.2 v155 hc33) rfl (Av rfl rfl rfl rfl hb32) rfl rfl rfl rfl rfl rfl (by first | rfl | kernel_rfl | (simp [nrL,nm,Fc,nmT,Gu]; done)) rfl (by first | rfl | kernel_rfl | (simp [Kr,nrL,nm,Fc,nmT,Gu,hid,Gk,Dh,Ca]; done) | (simp [Kr,nrL,nm,Fc,nmT,Gu,hid,Gk,Dh,Ca]; decide)) ⟨⟨rfl,(.inl ⟨rfl,rfl⟩),(.inl ⟨rfl,rfl⟩),Y⟩,rfl,Y⟩ ?_;iterate 2 refine Br tt O (Av O O O O hb32) O O O O O Y ?_
    refine Pm ?_;show VO _ _ _ _ _;obtain ⟨v156,hc34,h⟩:=Ag h;refine Ll (Wm N v152.1 v152.2 v156 hc34) O O O O hb32 O O O O O O O ⟨⟨O,(.inl ⟨O,O⟩),(.inl ⟨O,O⟩),Y⟩,O,Y⟩ ?_;obtain ⟨v157,hc35,h⟩:=Ag h;refine Ll (Pp N v155 v156 v157 hc35) O O O O hb32 O O O O O O O ⟨(.inl ⟨O,O⟩),(.inl ⟨O,O⟩),Y⟩ (Cf O O O O O hb32 O (Aa O (Ah (Az ?_))));show ∃ _,_;cases h;exact ⟨[],_,O,Y,O,.eq O,O⟩
   replace h:=Al hb32 h;iterate 5 refine nNoT O O O O hb32 O O ?_
   refine Pm ?_;show VO _ _ _ _ _;iterate 2 refine Sw O O O O hb32 O O ?_
   refine Bp O O O O O hb32 O (Aa O (Ah (Az ?_)));show ∃ _,_;cases h;exact ⟨[],_,O,Y,O,.eq O,O⟩
  intro k158 h;refine Au O (fun hb36=>?_) (fun hb36=>?_)
  ·replace h:=Ak hb36 h;refine Ai (Ab (Gt tt (Ad O) O O O O (Aa O (Ah (Ai (Ai (Ab ?_)))))));iterate 5 refine Aa O ?_
   refine Ah (Au O (fun hb37=>?_) (fun hb37=>?_))
   ·replace h:=Ak hb37 h;refine Ai (Ab (Aa O (Ah (Az ?_))));show ∃ _,_;cases h;exact ⟨[],_,O,Y,O,.eq O,O⟩
   replace h:=Al hb37 h;refine As (Ai (Ai (Ab (Aa O (Ah (Cr (F:=fun k=>Hx N v2 v8 k) h (α:=List Int) (J:=fun (l225:List Int)=>(⟨[(0,.ro false (.bytes code_0)),(3,.ptr 3 0),(16,.row 167 0 l225.length)],[(167,some (3,.ints l225)),(1270,some (52,.pairs v2.g.bars)),(1271,some (3,.ints v2.ground))],[(3,some [.int v2.g.n,.row 1270 0 v2.g.bars.length,.row 1271 0 v2.ground.length])]⟩:PS)) ?_ ?_))))))
   ·rintro l225 h;show VC _ _ _ (⟨[(0,.ro false (.bytes code_0)),(3,.ptr 3 0),(16,.row 167 0 l225.length)],[(167,some (3,.ints l225)),(1270,some (52,.pairs v2.g.bars)),(1271,some (3,.ints v2.ground))],[(3,some [.int v2.g.n,.row 1270 0 v2.g.bars.length,.row 1271 0 v2.ground.length])]⟩:PS);refine Ai (Ab (Aa O (Aa O (Aa O ?_))));obtain ⟨v226,hc38,h⟩:=Ag h;refine Ba (Gr N v2 v226 hc38) O O O O O O O O ⟨⟨O,(.inl ⟨O,O⟩),(.inl ⟨O,O⟩),Y⟩,Y⟩ (Aa O (Aa O (Ah (Au O (fun hb39=>?_) (fun hb39=>?_)))))
    ·replace h:=Ak hb39 h;refine Ai (Ab (Aa O (Ah (Az ?_))));show ∃ _,_;cases h;exact ⟨[],_,O,Y,O,.eq O,O⟩
    replace h:=Al hb39 h;refine As ?_;show ∃ _,_;exact ⟨(),(En.of ⟨O,Y⟩ trivial trivial),h⟩
   intro k h;refine Aq (Lc 16 167 3 (.ints []) rfl rfl rfl rfl (Bd (α:=(List Int)×Int) (fun | (l260,i261)=>(⟨[(0,.ro false (.bytes code_0)),(3,.ptr 3 0),(14,.row 1550 0 v8.1.length),(16,.row 167 0 l260.length),(17,.int i261)],[(1550,some (27,.intss v8.1)),(167,some (3,.ints l260)),(1270,some (52,.pairs v2.g.bars)),(1271,some (3,.ints v2.ground))],[(3,some [.int v2.g.n,.row 1270 0 v2.g.bars.length,.row 1271 0 v2.ground.length])]⟩:PS)) (Hx N v2 v8 k) h (En.of ⟨rfl,rfl,rfl,rfl,rfl,Y⟩ ⟨rfl,rfl,rfl,rfl,Y⟩ ⟨rfl,Y⟩) (fun _=>rfl) ?_));rintro n ⟨l260,i261⟩ h;rw [Hx] at h;show VC _ _ _ (⟨[(0,.ro false (.bytes code_0)),(3,.ptr 3 0),(14,.row 1550 0 v8.1.length),(16,.row 167 0 l260.length),(17,.int i261)],[(1550,some (27,.intss v8.1)),(167,some (3,.ints l260)),(1270,some (52,.pairs v2.g.bars)),(1271,some (3,.ints v2.ground))],[(3,some [.int v2.g.n,.row 1270 0 v2.g.bars.length,.row 1271 0 v2.ground.length])]⟩:PS);refine Ai (Ai (Ab ?_));iterate 4 refine Aa O ?_
   refine Ah (Au O (fun hb40=>?_) (fun hb40=>?_))
   ·replace h:=Ak hb40 h;refine As (Ai (Aq (Ai (Bi 7 [] [0,0,0,6,14,30,62,127,255] (by kernel_rfl) (by kernel_rfl) (by kernel_rfl) (by kernel_rfl) (by kernel_rfl) O (by rfl) ?_))));iterate 3 refine Br tt O (Ad O) O O O O O Y ?_
    obtain ⟨hg41,h⟩:=Ac h;iterate 2 refine Br tt O (Ad O) O O O O O hg41 ?_
    obtain ⟨hg42,h⟩:=Ac h;refine Br tt O (Ad O) O O O O O hg42 (Br tt O (Ad O) O O O O O Y (Pm ?_));show VO _ _ _ _ _;obtain ⟨v278,hc43,h⟩:=Ag h;refine Ba (Kn N v2 ((v8.1.getD ((i261).toNat) []).getD ((0:Int).toNat) 0) v278 hc43) O O O O O O O O ⟨⟨O,(.inl ⟨O,O⟩),(.inl ⟨O,O⟩),Y⟩,O,Y⟩ (Aa O (Ah (Ai (Ai (Ab (Aa O (Ah (Cr (F:=fun k=>Gw N v8 l260 i261 v278 k) h (α:=Unit) (J:=fun (_:Unit)=>(⟨[(0,.ro false (.bytes code_0)),(3,.ptr 3 0),(14,.row 1550 0 v8.1.length),(16,.row 167 0 l260.length),(17,.int i261)],[(1550,some (27,.intss v8.1)),(167,some (3,.ints l260)),(1270,some (52,.pairs v2.g.bars)),(1271,some (3,.ints v2.ground))],[(3,some [.int v2.g.n,.row 1270 0 v2.g.bars.length,.row 1271 0 v2.ground.length])]⟩:PS)) ?_ ?_))))))))
    ·rintro ⟨⟩ h;show VC _ _ _ (⟨[(0,.ro false (.bytes code_0)),(3,.ptr 3 0),(14,.row 1550 0 v8.1.length),(16,.row 167 0 l260.length),(17,.int i261)],[(1550,some (27,.intss v8.1)),(167,some (3,.ints l260)),(1270,some (52,.pairs v2.g.bars)),(1271,some (3,.ints v2.ground))],[(3,some [.int v2.g.n,.row 1270 0 v2.g.bars.length,.row 1271 0 v2.ground.length])]⟩:PS);refine Ab (Aa O (Aa O (Aa O (Ae tt O hg41 (Ae tt O hg41 ?_)))));obtain ⟨hg44,h⟩:=Ac h;refine Da tt O O O O O O O O O O O O O O O O Y hg44 (Aa O (Ah (Ab (Aa O ?_))));obtain ⟨hg45,h⟩:=Ac h;refine Ae tt O hg45 (Aa O (Ah ?_));show ∃ _,_;exact ⟨((l260++(v8.1.getD ((i261).toNat) [])),(i261+(1:Int))),(En.of ⟨O,O,O,O,O,Y⟩ ⟨O,O,O,O,Y⟩ ⟨O,Y⟩),h⟩
    intro k h;refine Aq (Bd (α:=Int) (fun (k289:Int)=>(⟨[(0,.ro false (.bytes code_0)),(3,.ptr 3 0),(14,.row 1550 0 v8.1.length),(16,.row 167 0 l260.length),(17,.int i261),(18,.row 2360 0 v278.length),(19,.int k289)],[(1550,some (27,.intss v8.1)),(167,some (3,.ints l260)),(2360,some (3,.ints v278)),(1270,some (52,.pairs v2.g.bars)),(1271,some (3,.ints v2.ground))],[(3,some [.int v2.g.n,.row 1270 0 v2.g.bars.length,.row 1271 0 v2.ground.length])]⟩:PS)) (Gw N v8 l260 i261 v278 k) h (En.of ⟨O,O,O,O,O,O,O,Y⟩ ⟨O,O,O,O,O,Y⟩ ⟨O,Y⟩) (fun _=>O) ?_);rintro n k289 h;rw [Gw] at h;show VC _ _ _ (⟨[(0,.ro false (.bytes code_0)),(3,.ptr 3 0),(14,.row 1550 0 v8.1.length),(16,.row 167 0 l260.length),(17,.int i261),(18,.row 2360 0 v278.length),(19,.int k289)],[(1550,some (27,.intss v8.1)),(167,some (3,.ints l260)),(2360,some (3,.ints v278)),(1270,some (52,.pairs v2.g.bars)),(1271,some (3,.ints v2.ground))],[(3,some [.int v2.g.n,.row 1270 0 v2.g.bars.length,.row 1271 0 v2.ground.length])]⟩:PS);refine Ai (Ai (Ab ?_));iterate 4 refine Aa O ?_
    refine Ah (Au O (fun hb46=>?_) (fun hb46=>?_))
    ·replace h:=Ak hb46 h;refine As (Ai (Aq (Ai (Bs (by kernel_rfl) (by kernel_rfl) ?_))));iterate 3 refine Ax tt O (Ad O) O O O Y ?_
     obtain ⟨hg47,h⟩:=Ac h;iterate 2 refine Ax tt O (Ad O) O O O hg47 ?_
     obtain ⟨v292,hc48,h⟩:=Ag h;refine Hp (L_has_w N l260 (v278.getD ((k289).toNat) 0) v292 hc48) O (Ad O) O O O O O O ⟨(.inl ⟨O,O⟩),O,Y⟩ ?_;iterate 2 refine Ax tt O (Ad O) O O O Y ?_
     refine Dj O O O (fun hb49=>?_) (fun hb49=>?_)
     ·replace h:=Ak hb49 h;iterate 2 refine Ax tt O (Av O O O O hb49) O O O Y ?_
      iterate 2 refine Ax tt O (Av O O O O hb49) O O O hg41 ?_
      iterate 2 refine Ax tt O (Av O O O O hb49) O O O Y ?_
      iterate 2 refine Ax tt O (Av O O O O hb49) O O O hg47 ?_
      obtain ⟨v293,hc50,h⟩:=Ag h;refine Hp (L_has_w N (v8.1.getD ((i261).toNat) []) (v278.getD ((k289).toNat) 0) v293 hc50) O (Av O O O O hb49) O O O O O O ⟨O,O,Y⟩ (Ax tt O (Av O O O O hb49) O O O Y (Ay O (Ad O) O O O hb49 O (Hq (Au O (fun hb51=>?_) (fun hb51=>?_)))))
      ·replace h:=Ak hb51 h;refine Ai (Ab (Aa O (Ah (Az ?_))));show ∃ _,_;cases h;exact ⟨[],_,O,Y,O,.eq O,O⟩
      replace h:=Al hb51 h;refine As (Ab (Aa O ?_));obtain ⟨hg52,h⟩:=Ac h;refine Ae tt O hg52 (Aa O (Ah ?_));show ∃ _,_;exact ⟨(k289+(1:Int)),(En.of ⟨O,O,O,O,O,O,O,Y⟩ ⟨O,O,O,O,O,Y⟩ ⟨O,Y⟩),h⟩
     replace h:=Al hb49 h;iterate 10 refine cNoT O O O O hb49 O O ?_
     refine Ct O (Ad O) O O O hb49 O (Hq (Gf O O (As (Ab (Aa O ?_)))));obtain ⟨hg53,h⟩:=Ac h;refine Ae tt O hg53 (Aa O (Ah ?_));show ∃ _,_;exact ⟨(k289+(1:Int)),(En.of ⟨O,O,O,O,O,O,O,Y⟩ ⟨O,O,O,O,O,Y⟩ ⟨O,Y⟩),h⟩
    replace h:=Al hb46 h;refine Bn ?_;show ∃ _,_;exact ⟨(),(En.of ⟨O,O,O,O,O,Y⟩ ⟨O,O,O,O,Y⟩ ⟨O,Y⟩),h⟩
   replace h:=Al hb40 h;refine Bn ?_;show ∃ _,_;exact ⟨l260,(En.of ⟨O,O,O,Y⟩ ⟨O,O,O,Y⟩ ⟨O,Y⟩),h⟩
  replace h:=Al hb36 h;refine As ?_;show ∃ _,_;exact ⟨(),(En.of ⟨O,Y⟩ trivial trivial),h⟩
 replace h:=Al hb13 h;iterate 4 refine cNoT O O O O hb13 O O ?_
 refine Ct O (Av O O O O hb12) O O O hb13 O (Ct O (Ad O) O O O hb12 O (Ax tt O (Ad O) O O O Y ?_));iterate 2 refine Ax tt O (Av O O O O O) O O O Y ?_
 refine Rq (Av O O O O O) (pNeB Try.underlying4 O O O) O O (Ct O (Ad O) O O O O O (Ax tt O (Ad O) O O O Y (Dj O O O (fun hb54=>?_) (fun hb54=>?_))))
 ·replace h:=Ak hb54 h;iterate 4 refine Ex O O O O hb54 O O ?_
  refine Ay O (Ad O) O O O hb54 O (Ax tt O (Ad O) O O O Y ?_);iterate 3 refine Ex O O O O O O O ?_
  refine Ay O (Ad O) O O O O O (Ax tt O (Ad O) O O O Y ?_);iterate 4 refine Ex O O O O O O O ?_
  refine Ay O (Ad O) O O O O O (Ax tt O (Ad O) O O O Y ?_);iterate 4 refine Ex O O O O O O O ?_
  refine Ay O (Ad O) O O O O O (Ax tt O (Ad O) O O O Y ?_);iterate 3 refine Ex O O O O O O O ?_
  refine Ay O (Ad O) O O O O O (Ax tt O (Ad O) O O O Y ?_);iterate 5 refine Ex O O O O O O O ?_
  refine Ay O (Ad O) O O O O O (Hq (Ce O O (Ai (Ab (Aa O (Ah (Az ?_)))))));show ∃ _,_;cases h;exact ⟨[],_,O,Y,O,.eq O,O⟩
 replace h:=Al hb54 h;iterate 2 refine Ax tt O (Av O O O O hb54) O O O Y ?_
 obtain ⟨v294,hc55,h⟩:=Ag h;refine Hp (Qd N v5.1 v6.1 v294 hc55) O (Av O O O O hb54) O O O O O O ⟨(.inr (.inr ⟨10,_,by decide,O,O,O,O⟩)),(.inl ⟨O,O⟩),Y⟩ (Ax tt O (Av O O O O hb54) O O O Y (Ct O (Ad O) O O O hb54 O (Ax tt O (Ad O) O O O Y (Dj O O O (fun hb56=>?_) (fun hb56=>?_)))))
 ·replace h:=Ak hb56 h;iterate 3 refine Ex O O O O hb56 O O ?_
  refine Ay O (Ad O) O O O hb56 O (Ax tt O (Ad O) O O O Y ?_);iterate 4 refine Ex O O O O O O O ?_
  refine Ay O (Ad O) O O O O O (Ax tt O (Ad O) O O O Y ?_);iterate 4 refine Ex O O O O O O O ?_
  refine Ay O (Ad O) O O O O O (Ax tt O (Ad O) O O O Y ?_);iterate 3 refine Ex O O O O O O O ?_
  refine Ay O (Ad O) O O O O O (Ax tt O (Ad O) O O O Y ?_);iterate 5 refine Ex O O O O O O O ?_
  refine Ay O (Ad O) O O O O O (Hq (Ce O O (Ai (Ab (Aa O (Ah (Az ?_)))))));show ∃ _,_;cases h;exact ⟨[],_,O,Y,O,.eq O,O⟩
 replace h:=Al hb56 h;iterate 2 refine Ax tt O (Av O O O O hb56) O O O Y ?_
 refine Rq (Av O O O O hb56) (pNeB Try.underlying4 O O O) O O (Ct O (Ad O) O O O hb56 O (Ax tt O (Ad O) O O O Y (Dj O O O (fun hb57=>?_) (fun hb57=>?_))))
 ·replace h:=Ak hb57 h;iterate 4 refine Ex O O O O hb57 O O ?_
  refine Ay O (Ad O) O O O hb57 O (Ax tt O (Ad O) O O O Y ?_);iterate 4 refine Ex O O O O O O O ?_
  refine Ay O (Ad O) O O O O O (Ax tt O (Ad O) O O O Y ?_);iterate 3 refine Ex O O O O O O O ?_
  refine Ay O (Ad O) O O O O O (Ax tt O (Ad O) O O O Y ?_);iterate 5 refine Ex O O O O O O O ?_
  refine Ay O (Ad O) O O O O O (Hq (Ce O O (Ai (Ab (Aa O (Ah (Az ?_)))))));show ∃ _,_;cases h;exact ⟨[],_,O,Y,O,.eq O,O⟩
 replace h:=Al hb57 h;iterate 2 refine Ax tt O (Av O O O O hb57) O O O Y ?_
 obtain ⟨v295,hc58,h⟩:=Ag h;refine Hp (Qd N v7.1 v8.1 v295 hc58) O (Av O O O O hb57) O O O O O O ⟨(.inr (.inr ⟨11,_,by decide,O,O,O,O⟩)),(.inl ⟨O,O⟩),Y⟩ (Ax tt O (Av O O O O hb57) O O O Y (Ct O (Ad O) O O O hb57 O (Ax tt O (Ad O) O O O Y (Dj O O O (fun hb59=>?_) (fun hb59=>?_)))))
 ·replace h:=Ak hb59 h;iterate 4 refine Ex O O O O hb59 O O ?_
  refine Ay O (Ad O) O O O hb59 O (Ax tt O (Ad O) O O O Y ?_);iterate 3 refine Ex O O O O O O O ?_
  refine Ay O (Ad O) O O O O O (Ax tt O (Ad O) O O O Y ?_);iterate 5 refine Ex O O O O O O O ?_
  refine Ay O (Ad O) O O O O O (Hq (Ce O O (Ai (Ab (Aa O (Ah (Az ?_)))))));show ∃ _,_;cases h;exact ⟨[],_,O,Y,O,.eq O,O⟩
 replace h:=Al hb59 h;iterate 2 refine Ax tt O (Av O O O O hb59) O O O Y ?_
 obtain ⟨v296,hc60,h⟩:=Ag h;refine Hp (Pb N v2 v296 hc60) O (Av O O O O hb59) O O O O O O ⟨⟨O,(.inl ⟨O,O⟩),(.inl ⟨O,O⟩),Y⟩,Y⟩ (Rq (Av O O O O hb59) (pNeB Try.underlying4 O O O) O O (Ct O (Ad O) O O O hb59 O (Ax tt O (Ad O) O O O Y (Dj O O O (fun hb61=>?_) (fun hb61=>?_)))))
 ·replace h:=Ak hb61 h;iterate 3 refine Ex O O O O hb61 O O ?_
  refine Ay O (Ad O) O O O hb61 O (Ax tt O (Ad O) O O O Y ?_);iterate 5 refine Ex O O O O O O O ?_
  refine Ay O (Ad O) O O O O O (Hq (Ce O O (Ai (Ab (Aa O (Ah (Az ?_)))))));show ∃ _,_;cases h;exact ⟨[],_,O,Y,O,.eq O,O⟩
 replace h:=Al hb61 h;iterate 2 refine Ax tt O (Av O O O O hb61) O O O Y ?_
 refine Rq (Av O O O O hb61) (pNeB Try.underlying4 O O O) O O (Ct O (Ad O) O O O hb61 O (Ax tt O (Ad O) O O O Y (Dj O O O (fun hb62=>?_) (fun hb62=>?_))))
 ·replace h:=Ak hb62 h;iterate 5 refine Ex O O O O hb62 O O ?_
  refine Ay O (Ad O) O O O hb62 O (Hq (Ce O O (Ai (Ab (Aa O (Ah (Az ?_)))))));show ∃ _,_;cases h;exact ⟨[],_,O,Y,O,.eq O,O⟩
 replace h:=Al hb62 h;refine Ax tt O (Av O O O O hb62) O O O Y ?_;obtain ⟨v297,hc63,h⟩:=Ag h;refine Hp (Rm N v2 v297 hc63) O (Av O O O O hb62) O O O O O O ⟨⟨O,(.inl ⟨O,O⟩),(.inl ⟨O,O⟩),Y⟩,Y⟩ (Ax tt O (Av O O O O hb62) O O O Y ?_);obtain ⟨v298,hc64,h⟩:=Ag h;refine Hp (Rn N v2 v298 hc64) O (Av O O O O hb62) O O O O O O ⟨⟨O,(.inl ⟨O,O⟩),(.inl ⟨O,O⟩),Y⟩,Y⟩ (Rq (Av O O O O hb62) (pNeB Try.underlying4 O O O) O O (Ct O (Ad O) O O O hb62 O (Hq (Au O (fun hb65=>?_) (fun hb65=>?_)))))
 ·replace h:=Ak hb65 h;refine Ai (Ab (Aa O (Ah (Az ?_))));show ∃ _,_;cases h;exact ⟨[],_,O,Y,O,.eq O,O⟩
 replace h:=Al hb65 h;refine As (Ai (Ai (Ab (Aa O (Ah (vJoinN h (α:=Unit) (J:=fun (_:Unit)=>(⟨[(0,.ro false (.bytes code_0))],[],[]⟩:PS)) ?_ ?_))))))
 ·rintro ⟨⟩ h;show VC _ _ _ (⟨[(0,.ro false (.bytes code_0))],[],[]⟩:PS);refine Ai (Ab (Aa O ?_));obtain ⟨v434,hc66,h⟩:=Ag h;refine Ba (Qm N code_0 v434 hc66) O O O O O O O O ⟨O,Y⟩ (Aa O (Aa O (Aa O (Bw tt O O O O O O O O O (Ar tt O O O O O O O O O O O ⟨Y,Y,Y,Y⟩ (Aa O (Ah (Ai (Ab ?_)))))))));refine Aa O ?_;obtain ⟨v435,hc67,h⟩:=Ag h;refine Ba (Qp N code_0 v435 hc67) O O O O O O O O ⟨O,Y⟩ (Aa O (Aa O (Aa O (Bw tt O O O O O O O O O (Ar tt O O O O O O O O O O O ⟨Y,Y,Y,Y⟩ (Aa O (Ah (Ai (Bi 13 [10] [0,0,3,0,0,31,63,127,255,255,1023,255,255,8191,16383,32767,65535] (by kernel_rfl) (by kernel_rfl) (by kernel_rfl) (by kernel_rfl) (by kernel_rfl) O (by rfl) ?_)))))))));iterate 2 refine Br tt O (Ad O) O O O O O Y ?_
  obtain ⟨v436,hc68,h⟩:=Ag h;refine Aax (Ri N v434.1 v434.2 v436 hc68) O (Ad O) O O O O O O O O ⟨⟨O,(.inl ⟨O,O⟩),(.inl ⟨O,O⟩),Y⟩,(.inl ⟨O,O⟩),Y⟩ ?_;iterate 2 refine Br tt O (Ad O) O O O O O Y ?_
  obtain ⟨v437,hc69,h⟩:=Ag h;refine Aax (Vt N v434.1 v434.2 v437 hc69) O (Ad O) O O O O O O O O ⟨⟨O,(.inl ⟨O,O⟩),(.inl ⟨O,O⟩),Y⟩,(.inl ⟨O,O⟩),Y⟩ (nPure (Ad O) (pEqB Try.underlying4 O O O) O O O O (Br tt O (Ad O) O O O O O Y (nSplit O O O (fun hb70=>?_) (fun hb70=>?_))))
  ·replace h:=Ak hb70 h;iterate 2 refine Br tt O (Av O O O O hb70) O O O O O Y ?_
   obtain ⟨v438,hc71,h⟩:=Ag h;refine Lk (Kn N v435.1 v435.2 v438 hc71) rfl (Av rfl rfl rfl rfl hb70) rfl rfl rfl rfl rfl rfl (by first | rfl | kernel_rfl | (simp [nrL,nm,Fc,nmT,Gu]; done)) rfl (by first | rfl | kernel_rfl | (simp [Kr,nrL,nm,Fc,nmT,Gu,hid,Gk,Dh,Ca]; done) | (simp [Kr,nrL,nm,Fc,nmT,Gu,hid,Gk,Dh,Ca]; decide)) ⟨⟨rfl,(.inl ⟨rfl,rfl⟩),(.inl ⟨rfl,rfl⟩),Y⟩,rfl,Y⟩ ?_;iterate 2 refine Br tt O (Av O O O O hb70) O O O O O Y ?_
   refine Pm ?_;show VO _ _ _ _ _;obtain ⟨v439,hc72,h⟩:=Ag h;refine Ll (Wm N v435.1 v435.2 v439 hc72) O O O O hb70 O O O O O O O ⟨⟨O,(.inl ⟨O,O⟩),(.inl ⟨O,O⟩),Y⟩,O,Y⟩ ?_;obtain ⟨v440,hc73,h⟩:=Ag h;refine Ll (Pp N v438 v439 v440 hc73) O O O O hb70 O O O O O O O ⟨(.inl ⟨O,O⟩),(.inl ⟨O,O⟩),Y⟩ (Cf O O O O O hb70 O (Aa O (Ah (Az ?_))));show ∃ _,_;cases h;exact ⟨[],_,O,Y,O,.eq O,O⟩
  replace h:=Al hb70 h;iterate 5 refine nNoT O O O O hb70 O O ?_
  refine Pm ?_;show VO _ _ _ _ _;iterate 2 refine Sw O O O O hb70 O O ?_
  refine Bp O O O O O hb70 O (Aa O (Ah (Az ?_)));show ∃ _,_;cases h;exact ⟨[],_,O,Y,O,.eq O,O⟩
 intro k441 h;refine Au O (fun hb74=>?_) (fun hb74=>?_)
 ·replace h:=Ak hb74 h;refine Ai (Ab (Gt tt (Ad O) O O O O (Aa O (Ah (Ai (Ai (Ab ?_)))))));iterate 5 refine Aa O ?_
  refine Ah (Au O (fun hb75=>?_) (fun hb75=>?_))
  ·replace h:=Ak hb75 h;refine Ai (Ab (Aa O (Ah (Az ?_))));show ∃ _,_;cases h;exact ⟨[],_,O,Y,O,.eq O,O⟩
  replace h:=Al hb75 h;refine As (Ai (Ai (Ab (Aa O (Ah (Cr (F:=fun k=>Lu N v2 v8 k) h (α:=List Int) (J:=fun (l508:List Int)=>(⟨[(0,.ro false (.bytes code_0)),(3,.ptr 3 0),(16,.row 167 0 l508.length)],[(167,some (3,.ints l508)),(1270,some (52,.pairs v2.g.bars)),(1271,some (3,.ints v2.ground))],[(3,some [.int v2.g.n,.row 1270 0 v2.g.bars.length,.row 1271 0 v2.ground.length])]⟩:PS)) ?_ ?_))))))
  ·rintro l508 h;show VC _ _ _ (⟨[(0,.ro false (.bytes code_0)),(3,.ptr 3 0),(16,.row 167 0 l508.length)],[(167,some (3,.ints l508)),(1270,some (52,.pairs v2.g.bars)),(1271,some (3,.ints v2.ground))],[(3,some [.int v2.g.n,.row 1270 0 v2.g.bars.length,.row 1271 0 v2.ground.length])]⟩:PS);refine Ai (Ab (Aa O (Aa O (Aa O ?_))));obtain ⟨v509,hc76,h⟩:=Ag h;refine Ba (Gr N v2 v509 hc76) O O O O O O O O ⟨⟨O,(.inl ⟨O,O⟩),(.inl ⟨O,O⟩),Y⟩,Y⟩ (Aa O (Aa O (Ah (Au O (fun hb77=>?_) (fun hb77=>?_)))))
   ·replace h:=Ak hb77 h;refine Ai (Ab (Aa O (Ah (Az ?_))));show ∃ _,_;cases h;exact ⟨[],_,O,Y,O,.eq O,O⟩
   replace h:=Al hb77 h;refine As ?_;show ∃ _,_;exact ⟨(),(En.of ⟨O,Y⟩ trivial trivial),h⟩
  intro k h;refine Aq (Lc 16 167 3 (.ints []) rfl rfl rfl rfl (Bd (α:=(List Int)×Int) (fun | (l543,i544)=>(⟨[(0,.ro false (.bytes code_0)),(3,.ptr 3 0),(14,.row 1550 0 v8.1.length),(16,.row 167 0 l543.length),(17,.int i544)],[(1550,some (27,.intss v8.1)),(167,some (3,.ints l543)),(1270,some (52,.pairs v2.g.bars)),(1271,some (3,.ints v2.ground))],[(3,some [.int v2.g.n,.row 1270 0 v2.g.bars.length,.row 1271 0 v2.ground.length])]⟩:PS)) (Lu N v2 v8 k) h (En.of ⟨rfl,rfl,rfl,rfl,rfl,Y⟩ ⟨rfl,rfl,rfl,rfl,Y⟩ ⟨rfl,Y⟩) (fun _=>rfl) ?_));rintro n ⟨l543,i544⟩ h;rw [Lu] at h;show VC _ _ _ (⟨[(0,.ro false (.bytes code_0)),(3,.ptr 3 0),(14,.row 1550 0 v8.1.length),(16,.row 167 0 l543.length),(17,.int i544)],[(1550,some (27,.intss v8.1)),(167,some (3,.ints l543)),(1270,some (52,.pairs v2.g.bars)),(1271,some (3,.ints v2.ground))],[(3,some [.int v2.g.n,.row 1270 0 v2.g.bars.length,.row 1271 0 v2.ground.length])]⟩:PS);refine Ai (Ai (Ab ?_));iterate 4 refine Aa O ?_
  refine Ah (Au O (fun hb78=>?_) (fun hb78=>?_))
  ·replace h:=Ak hb78 h;refine As (Ai (Aq (Ai (Bi 7 [] [0,0,0,6,14,30,62,127,255] (by kernel_rfl) (by kernel_rfl) (by kernel_rfl) (by kernel_rfl) (by kernel_rfl) O (by rfl) ?_))));iterate 3 refine Br tt O (Ad O) O O O O O Y ?_
   obtain ⟨hg79,h⟩:=Ac h;iterate 2 refine Br tt O (Ad O) O O O O O hg79 ?_
   obtain ⟨hg80,h⟩:=Ac h;refine Br tt O (Ad O) O O O O O hg80 (Br tt O (Ad O) O O O O O Y (Pm ?_));show VO _ _ _ _ _;obtain ⟨v561,hc81,h⟩:=Ag h;refine Ba (Kn N v2 ((v8.1.getD ((i544).toNat) []).getD ((0:Int).toNat) 0) v561 hc81) O O O O O O O O ⟨⟨O,(.inl ⟨O,O⟩),(.inl ⟨O,O⟩),Y⟩,O,Y⟩ (Aa O (Ah (Ai (Ai (Ab (Aa O (Ah (Cr (F:=fun k=>Kc N v8 l543 i544 v561 k) h (α:=Unit) (J:=fun (_:Unit)=>(⟨[(0,.ro false (.bytes code_0)),(3,.ptr 3 0),(14,.row 1550 0 v8.1.length),(16,.row 167 0 l543.length),(17,.int i544)],[(1550,some (27,.intss v8.1)),(167,some (3,.ints l543)),(1270,some (52,.pairs v2.g.bars)),(1271,some (3,.ints v2.ground))],[(3,some [.int v2.g.n,.row 1270 0 v2.g.bars.length,.row 1271 0 v2.ground.length])]⟩:PS)) ?_ ?_))))))))
   ·rintro ⟨⟩ h;show VC _ _ _ (⟨[(0,.ro false (.bytes code_0)),(3,.ptr 3 0),(14,.row 1550 0 v8.1.length),(16,.row 167 0 l543.length),(17,.int i544)],[(1550,some (27,.intss v8.1)),(167,some (3,.ints l543)),(1270,some (52,.pairs v2.g.bars)),(1271,some (3,.ints v2.ground))],[(3,some [.int v2.g.n,.row 1270 0 v2.g.bars.length,.row 1271 0 v2.ground.length])]⟩:PS);refine Ab (Aa O (Aa O (Aa O (Ae tt O hg79 (Ae tt O hg79 ?_)))));obtain ⟨hg82,h⟩:=Ac h;refine Da tt O O O O O O O O O O O O O O O O Y hg82 (Aa O (Ah (Ab (Aa O ?_))));obtain ⟨hg83,h⟩:=Ac h;refine Ae tt O hg83 (Aa O (Ah ?_));show ∃ _,_;exact ⟨((l543++(v8.1.getD ((i544).toNat) [])),(i544+(1:Int))),(En.of ⟨O,O,O,O,O,Y⟩ ⟨O,O,O,O,Y⟩ ⟨O,Y⟩),h⟩
   intro k h;refine Aq (Bd (α:=Int) (fun (k572:Int)=>(⟨[(0,.ro false (.bytes code_0)),(3,.ptr 3 0),(14,.row 1550 0 v8.1.length),(16,.row 167 0 l543.length),(17,.int i544),(18,.row 2360 0 v561.length),(19,.int k572)],[(1550,some (27,.intss v8.1)),(167,some (3,.ints l543)),(2360,some (3,.ints v561)),(1270,some (52,.pairs v2.g.bars)),(1271,some (3,.ints v2.ground))],[(3,some [.int v2.g.n,.row 1270 0 v2.g.bars.length,.row 1271 0 v2.ground.length])]⟩:PS)) (Kc N v8 l543 i544 v561 k) h (En.of ⟨O,O,O,O,O,O,O,Y⟩ ⟨O,O,O,O,O,Y⟩ ⟨O,Y⟩) (fun _=>O) ?_);rintro n k572 h;rw [Kc] at h;show VC _ _ _ (⟨[(0,.ro false (.bytes code_0)),(3,.ptr 3 0),(14,.row 1550 0 v8.1.length),(16,.row 167 0 l543.length),(17,.int i544),(18,.row 2360 0 v561.length),(19,.int k572)],[(1550,some (27,.intss v8.1)),(167,some (3,.ints l543)),(2360,some (3,.ints v561)),(1270,some (52,.pairs v2.g.bars)),(1271,some (3,.ints v2.ground))],[(3,some [.int v2.g.n,.row 1270 0 v2.g.bars.length,.row 1271 0 v2.ground.length])]⟩:PS);refine Ai (Ai (Ab ?_));iterate 4 refine Aa O ?_
   refine Ah (Au O (fun hb84=>?_) (fun hb84=>?_))
   ·replace h:=Ak hb84 h;refine As (Ai (Aq (Ai (Bs (by kernel_rfl) (by kernel_rfl) ?_))));iterate 3 refine Ax tt O (Ad O) O O O Y ?_
    obtain ⟨hg85,h⟩:=Ac h;iterate 2 refine Ax tt O (Ad O) O O O hg85 ?_
    obtain ⟨v575,hc86,h⟩:=Ag h;refine Hp (L_has_w N l543 (v561.getD ((k572).toNat) 0) v575 hc86) O (Ad O) O O O O O O ⟨(.inl ⟨O,O⟩),O,Y⟩ ?_;iterate 2 refine Ax tt O (Ad O) O O O Y ?_
    refine Dj O O O (fun hb87=>?_) (fun hb87=>?_)
    ·replace h:=Ak hb87 h;iterate 2 refine Ax tt O (Av O O O O hb87) O O O Y ?_
     iterate 2 refine Ax tt O (Av O O O O hb87) O O O hg79 ?_
     iterate 2 refine Ax tt O (Av O O O O hb87) O O O Y ?_
     iterate 2 refine Ax tt O (Av O O O O hb87) O O O hg85 ?_
     obtain ⟨v576,hc88,h⟩:=Ag h;refine Hp (L_has_w N (v8.1.getD ((i544).toNat) []) (v561.getD ((k572).toNat) 0) v576 hc88) O (Av O O O O hb87) O O O O O O ⟨O,O,Y⟩ (Ax tt O (Av O O O O hb87) O O O Y (Ay O (Ad O) O O O hb87 O (Hq (Au O (fun hb89=>?_) (fun hb89=>?_)))))
     ·replace h:=Ak hb89 h;refine Ai (Ab (Aa O (Ah (Az ?_))));show ∃ _,_;cases h;exact ⟨[],_,O,Y,O,.eq O,O⟩
     replace h:=Al hb89 h;refine As (Ab (Aa O ?_));obtain ⟨hg90,h⟩:=Ac h;refine Ae tt O hg90 (Aa O (Ah ?_));show ∃ _,_;exact ⟨(k572+(1:Int)),(En.of ⟨O,O,O,O,O,O,O,Y⟩ ⟨O,O,O,O,O,Y⟩ ⟨O,Y⟩),h⟩
    replace h:=Al hb87 h;iterate 10 refine cNoT O O O O hb87 O O ?_
    refine Ct O (Ad O) O O O hb87 O (Hq (Gf O O (As (Ab (Aa O ?_)))));obtain ⟨hg91,h⟩:=Ac h;refine Ae tt O hg91 (Aa O (Ah ?_));show ∃ _,_;exact ⟨(k572+(1:Int)),(En.of ⟨O,O,O,O,O,O,O,Y⟩ ⟨O,O,O,O,O,Y⟩ ⟨O,Y⟩),h⟩
   replace h:=Al hb84 h;refine Bn ?_;show ∃ _,_;exact ⟨(),(En.of ⟨O,O,O,O,O,Y⟩ ⟨O,O,O,O,Y⟩ ⟨O,Y⟩),h⟩
  replace h:=Al hb78 h;refine Bn ?_;show ∃ _,_;exact ⟨l543,(En.of ⟨O,O,O,Y⟩ ⟨O,O,O,Y⟩ ⟨O,Y⟩),h⟩
 replace h:=Al hb74 h;refine As ?_;show ∃ _,_;exact ⟨(),(En.of ⟨O,Y⟩ trivial trivial),h⟩
end
section
open Go.RowKit
variable {N:Nat}
theorem getD_inL {α:Type} {l:List α} {i:Nat} {d:α} (h:i<l.length):l.getD i d∈l:=by
 rw [List.getD_eq_getElem?_getD,List.getElem?_eq_getElem h]; exact List.getElem_mem h
theorem Abg (hN:4000000≤N) {l:List (List Int)} (hl:l.length≤3000000) (h:∀ x∈l,x.length≤3000000):Jx N l l=some true:=by
 have key:∀ (fuel i:Nat),i≤l.length→l.length<fuel+i→Hb N l l (fun (_:Unit)=>some true) fuel (i:Int)=some true:=by
  intro fuel
  induction fuel with
  | zero=>intro i h1 h2; omega
  | succ fuel ih=>
   intro i h1 h2;rw [Hb];by_cases hi:i<l.length
   ·have e2:((i:Int)).toNat=i:=rfl;rw [Dk (by omega),Ao (by omega),Ao (by omega),e2,Xi hN (h _ (getD_inL hi)),Option.bind_some,Bool.not_true,cnd_false,Cy (by omega) (by omega),Am,ih (i+1) (by omega) (by omega)]
   rw [Dx (by omega)]
 unfold Jx;rw [Fy rfl];exact key N 0 (by omega) (by omega)
end
section
open Go.ChangeShapes Go.WideShapes Go.ChangeAt Go.RowKit Go.Deep
section
variable {H:Type} {enc:TypeId×Value→H} {P:Program} {w:World} {spare:Nat→Bool} {held:Bool} {fuel:Nat} {cs:List Value} {x:DataW H×List MemPlace}
theorem open_bytesD {t e:TypeId} (ht:P.underlying t=some (.slice e)) (he:P.underlying e=some (.int .u8)) (hc:P.cellsOf e=1) (h:DataW.trod enc P w 0 spare held fuel t cs=some x) :
  ∃ v l,cs=[v]∧VR M0 R0 w (.ro false (.bytes l)) v∧∀ x∈l,0≤x∧x<256:=by
 obtain ⟨v,rfl,hcap⟩:=trod_cap ht h;rcases open_slice1 ht hc h with ⟨h0,_⟩ | ⟨a,len,cap,m,n,V,D,Pl,h0,hb,hl,hm,hmm,rfl,hx⟩
 ·simp at h0; subst h0;exact ⟨_,[],O,.ro false (.bytes []) _ 0 0 0 (fun _ _=>undef) (Nat.zero_le _) (Nat.le_refl _) (fun h=>absurd h (by simp [Sq.len])) (fun i j d hi=>absurd hi (by simp [Sq.len])) (fun i j d hi=>absurd hi (by simp [Sq.len])),by simp⟩
 simp at h0; subst h0;have hlm:len≤m:=by rw [hmm]; split <;> omega
 have hcell:∀ i,i<len→∃ z:Int,w.cell? (a.add i)=some (.int .u8 z)∧0≤z∧z<256:=fun i hi=>by
  obtain ⟨h1,h2⟩:=hx i (by omega);obtain ⟨z,hz,_,hw⟩:=DataW.trod_int he h2;simp at hz;simp [Lit.wf,IntKind.min,IntKind.max,IntKind.signed,IntKind.bits] at hw;exact ⟨z,by rw [h1,hz],by omega⟩
 obtain ⟨f,hf⟩:=choose_lt hcell;have hlen:((List.range len).map f).length=len:=by simp
 refine ⟨_,(List.range len).map f,O,?_,fun x hx'=>?_⟩
 ·by_cases h0:0<len
  ·have c0:=(hf 0 h0).1;have hs:=cell?_spot c0
   have ha:a=⟨a.block,a.off,none⟩:=by
    have:(a.add 0)=a:=by simp [Addr.add]
    rw [this] at hs; cases a; simp_all
   have hlt:a.block<w.heap.size:=by have:=cell?_lt c0; rwa [add_block] at this
   have hcl:∀ i,i<len→w.cell? ⟨a.block,a.off+i,none⟩=some (.int .u8 (f i)):=fun i hi=>by
    have:=(hf i hi).1;rw [ha,Addr.add_lit] at this;exact this
   have:=VR.ro (M:=M0) (A:=R0) (w:=w) false (.bytes ((List.range len).map f)) (some a) cap a.block a.off (fun i _=>.int .u8 (f i)) (by simp only [Sq.len,hlen]; omega) (by simp only [Sq.len,hlen]; exact hl) (fun _=>⟨by rw [←ha],hlt,Y⟩) (fun i j d hi hd=>by
     simp only [Sq.len,hlen] at hi;rcases j with _ | j <;> simp [Sq.elem] at hd;simp only [Sq.sz,Nat.mul_one,Nat.add_zero]
     exact hcl i hi) (fun i j d hi hd=>by
     simp only [Sq.len,hlen] at hi;rcases j with _ | j <;> simp [Sq.elem,hi] at hd;subst hd
     exact .val _ O)
   simpa only [Sq.len,hlen] using this
  have:=VR.ro (M:=M0) (A:=R0) (w:=w) false (.bytes ((List.range len).map f)) (some a) cap 0 0 (fun _ _=>undef) (by simp only [Sq.len,hlen]; omega) (by simp only [Sq.len,hlen]; exact hl) (fun h=>absurd h (by simp only [Sq.len,hlen]; exact h0)) (fun i j d hi=>absurd hi (by simp only [Sq.len,hlen]; omega)) (fun i j d hi=>absurd hi (by simp only [Sq.len,hlen]; omega));simpa only [Sq.len,hlen] using this
 obtain ⟨i,hi,rfl⟩:=List.mem_map.1 hx';exact (hf i (by simpa using hi)).2
end
end
end Go.Proofs.Ytaipbhnpandbkaa
