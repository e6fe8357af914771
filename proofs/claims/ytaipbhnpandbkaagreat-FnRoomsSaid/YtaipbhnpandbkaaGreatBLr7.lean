/- Texts that the proof needs, put together: G119 Shc G120 Da Pp Pq Pr Pw Ps G73 G75 G76 Qs Db G81 G83 G115 G121 G122 M22 G58 G60 G62 G123 G41 G44 G48 G124 G127 Ee Ek Pt Pv Px Qa Ea Eb Ec En SoB G99 G101 G74 G77 G78 G105 G106 G108 G110 G129 G130. -/
import Derived.WalkKit
import Derived.Shelf.SlSortCmp.NoneTotal
import Derived.Ground.SlsfProg
import Derived.Test.YtaipbhnpandbkaaGreatBLr3
import Derived.Test.YtaipbhnpandbkaaGreatBLr4
import Derived.Test.YtaipbhnpandbkaaGreatBLr5
import Derived.Test.YtaipbhnpandbkaaGreatBLr6
set_option maxRecDepth 20000
set_option maxHeartbeats 1600000
set_option linter.unusedVariables false
set_option linter.unusedSimpArgs false
namespace Go.Proofs.YtaipbhnpandbkaaGreat
section
open Go.RowKit
def L_big (N:Nat) (code_0:List Int):Option (Bool):=
 some (decide ((code_0.length:Int) > (1048576:Int)))
theorem L_big_w (N:Nat) (code_0:List Int) (r:Bool) (h:L_big N code_0=some r):PCall Tryz.prog 5 [.ro false (.bytes code_0)] [] (.bool r):=by
 unfold L_big at h;refine Ak (TT:=TT) tt Tryz.func5 O O Tryz.ntmps5 (congrArg Array.toList Tryz.results5) O O fun w0=>(Ah (Ab (Aa O (Af (Ah (Ab ?_))))));iterate 4 refine Aa O ?_
 refine Af (Ay ?_);show ∃ _,_;cases h;exact ⟨[],_,O,Y,O,.eq O,O⟩
def Ks (N:Nat) (c_0:Cur):Option (Int×Int×Int):=
 cnd (decide (c_0.i<(c_0.b.length:Int))) (
  grd (0≤c_0.i∧c_0.i<(c_0.b.length:Int)) <|
  grd (0≤(c_0.b.getD ((c_0.i).toNat) 0)∧(c_0.b.getD ((c_0.i).toNat) 0)<256) <|
  some ((andI (w64 ((andI (xorI (shrI (w64 ((w64 (c_0.h*(6364136223846793005:Int)))+(1442695040888963407:Int))) 33) (shrI (w64 ((w64 (c_0.h*(6364136223846793005:Int)))+(1442695040888963407:Int))) 45)) (255:Int))+(c_0.b.getD ((c_0.i).toNat) 0))) (255:Int)),(w64 (c_0.i+(1:Int))),(w64 ((w64 (c_0.h*(6364136223846793005:Int)))+(1442695040888963407:Int))))) (
  some ((andI (xorI (shrI (w64 ((w64 (c_0.h*(6364136223846793005:Int)))+(1442695040888963407:Int))) 33) (shrI (w64 ((w64 (c_0.h*(6364136223846793005:Int)))+(1442695040888963407:Int))) 45)) (255:Int)),c_0.i,(w64 ((w64 (c_0.h*(6364136223846793005:Int)))+(1442695040888963407:Int)))))
theorem Me (N:Nat) (c_0:Cur) (r:Int×Int×Int) (h:Ks N c_0=some r):MCall Tryz.prog 108 [.ptr 1000000 0] [] [1000000] [] [] [[.ro false (.bytes c_0.b),.int c_0.i,.int c_0.h]] [[.ro false (.bytes c_0.b),.int r.2.1,.int r.2.2]] (.int r.1):=by
 unfold Ks at h;refine Cy (TT:=TT) tt Tryz.func108 O O Tryz.ntmps108 (congrArg Array.toList Tryz.results108) O O O O O fun w0 O0=>(Ah (Ab (Aa O (Af (Ah (Ab ?_))))));iterate 5 refine Aa O ?_
 refine Gb (Ag O) (pMulW O O O) O O (Gb (Ag O) (pAddW O O O) O O (Aa O (Aa O (As tt O O O O O O O O O O O ⟨Y,Y⟩ (Af (Ah (Bt (by kernel_rfl) (by kernel_rfl) ?_)))))));iterate 4 refine Bb tt O (Ag O) O O O Y ?_
 refine Pb (Ag O) (pShrU O O O (by decide)) O O ?_;iterate 4 refine Bb tt O (Ag O) O O O Y ?_
 refine Pb (Ag O) (pShrU O O O (by decide)) O O (Pb (Ag O) (pXor O O O) O O ?_);iterate 2 refine Bb tt O (Ag O) O O O Y ?_
 refine Km (Ah (Ah (Bt (by kernel_rfl) (by kernel_rfl) ?_)));iterate 10 refine Bb tt O (Ag O) O O O Y ?_
 refine Km (At O (fun hb1=>?_) (fun hb1=>?_))
 ·replace h:=Ai hb1 h;refine Ah (Bt (by kernel_rfl) (by kernel_rfl) ?_);iterate 9 refine Bb tt O (Ag O) O O O Y ?_
  obtain ⟨hg2,h⟩:=Ac h;refine Bb tt O (Ag O) O O O hg2 (Bb tt O (Ag O) O O O Y ?_);obtain ⟨hg3,h⟩:=Ac h;refine Pb (Ag O) (pConvI Tryz.underlying5 Tryz.underlying3 O O hg3) O O (Pb (Ag O) (pAddW O O O) O O ?_);iterate 2 refine Bb tt O (Ag O) O O O Y ?_
  refine Km (Ab ?_);iterate 5 refine Aa O ?_
  refine Gb (Ag O) (pAddW O O O) O O (Aa O (Aa O (As tt O O O O O O O O O O O ⟨Y,Y⟩ (Af (Ah (Ab (Aa O (Aa O (Af ?_)))))))));refine Ay ?_;show ∃ _,_;cases h;exact ⟨[],O,Y,⟨O,Y⟩,O⟩
 replace h:=Aj hb1 h;refine Ar (Ah (Ab (Aa O (Aa O (Af (Ay ?_))))));show ∃ _,_;cases h;exact ⟨[],O,Y,⟨O,Y⟩,O⟩
def Bk (N:Nat) (c_0:Cur) (n_1:Int):Option (Int×Int×Int):=
 cnd (decide (n_1≤(0:Int))) (
  some ((0:Int),c_0.i,c_0.h)) (
  cnd (decide (n_1≤(256:Int))) (
   (Ks N c_0).bind fun v1=>
   grd (n_1≠0) <|
   some ((Int.tmod v1.1 n_1),v1.2.1,v1.2.2)) (
   (Ks N c_0).bind fun v2=>
   (Ks N (⟨c_0.b,v2.2.1,v2.2.2⟩:Cur)).bind fun v3=>
   (Ks N (⟨c_0.b,v3.2.1,v3.2.2⟩:Cur)).bind fun v4=>
   (Ks N (⟨c_0.b,v4.2.1,v4.2.2⟩:Cur)).bind fun v5=>
   grd (Bg (v2.1*(16777216:Int))) <|
   grd (Bg (v3.1*(65536:Int))) <|
   grd (Bg ((v2.1*(16777216:Int))+(v3.1*(65536:Int)))) <|
   grd (Bg (v4.1*(256:Int))) <|
   grd (Bg (((v2.1*(16777216:Int))+(v3.1*(65536:Int)))+(v4.1*(256:Int)))) <|
   grd (Bg ((((v2.1*(16777216:Int))+(v3.1*(65536:Int)))+(v4.1*(256:Int)))+v5.1)) <|
   grd (n_1≠0) <|
   some ((Int.tmod ((((v2.1*(16777216:Int))+(v3.1*(65536:Int)))+(v4.1*(256:Int)))+v5.1) n_1),v5.2.1,v5.2.2)))
theorem Bc (N:Nat) (c_0:Cur) (n_1:Int) (r:Int×Int×Int) (h:Bk N c_0 n_1=some r):MCall Tryz.prog 67 [.ptr 1000000 0,.int n_1] [] [1000000] [] [] [[.ro false (.bytes c_0.b),.int c_0.i,.int c_0.h]] [[.ro false (.bytes c_0.b),.int r.2.1,.int r.2.2]] (.int r.1):=by
 unfold Bk at h;refine Cy (TT:=TT) tt Tryz.func67 O O Tryz.ntmps67 (congrArg Array.toList Tryz.results67) O O O O O fun w0 O0=>(Ah (Ab (Aa O (Af (Ah (Ah (Ab (Aa O (Aa O ?_)))))))));refine Af (At O (fun hb1=>?_) (fun hb1=>?_))
 ·replace h:=Ai hb1 h;refine Ah (Ab (Aa O (Af (Ay ?_))));show ∃ _,_;cases h;exact ⟨[],O,Y,⟨O,Y⟩,O⟩
 replace h:=Aj hb1 h;refine Ar (Ah (Ah (Ab (Aa O (Aa O (Af (At O (fun hb2=>?_) (fun hb2=>?_))))))))
 ·replace h:=Ai hb2 h;refine Ah (Ab (Aa O ?_));obtain ⟨v1,hc3,h⟩:=Ad h;refine Bs (Me N c_0 v1 hc3) [] [1000000] [] O O O O O O Y ⟨O,Y⟩ ⟨⟨O,O⟩,Y⟩ (Aa O ?_);obtain ⟨hg4,h⟩:=Ac h;refine Ae tt O hg4 (Aa O (Af (Ay ?_)));show ∃ _,_;cases h;exact ⟨[],O,Y,⟨O,Y⟩,O⟩
 replace h:=Aj hb2 h;refine Ar (Ah (Ab (Aa O ?_)));obtain ⟨v2,hc5,h⟩:=Ad h;refine Bs (Me N c_0 v2 hc5) [] [1000000] [] O O O O O O Y ⟨O,Y⟩ ⟨⟨O,O⟩,Y⟩ (Aa O (Af (Ah (Ab (Aa O ?_)))));obtain ⟨v3,hc6,h⟩:=Ad h;refine Bs (Me N (⟨c_0.b,v2.2.1,v2.2.2⟩:Cur) v3 hc6) [] [1000000] [] O O O O O O Y ⟨O,Y⟩ ⟨⟨O,O⟩,Y⟩ (Aa O (Af (Ah (Ab (Aa O ?_)))));obtain ⟨v4,hc7,h⟩:=Ad h;refine Bs (Me N (⟨c_0.b,v3.2.1,v3.2.2⟩:Cur) v4 hc7) [] [1000000] [] O O O O O O Y ⟨O,Y⟩ ⟨⟨O,O⟩,Y⟩ (Aa O (Af (Ah (Ab (Aa O ?_)))));obtain ⟨v5,hc8,h⟩:=Ad h;refine Bs (Me N (⟨c_0.b,v4.2.1,v4.2.2⟩:Cur) v5 hc8) [] [1000000] [] O O O O O O Y ⟨O,Y⟩ ⟨⟨O,O⟩,Y⟩ (Aa O (Af (Ah (Ab (Aa O ?_)))));obtain ⟨hg9,h⟩:=Ac h;refine Ae tt O hg9 (Aa O ?_);obtain ⟨hg10,h⟩:=Ac h;refine Ae tt O hg10 ?_;obtain ⟨hg11,h⟩:=Ac h;refine Ae tt O hg11 (Aa O ?_);obtain ⟨hg12,h⟩:=Ac h;refine Ae tt O hg12 ?_;obtain ⟨hg13,h⟩:=Ac h;refine Ae tt O hg13 (Aa O ?_);obtain ⟨hg14,h⟩:=Ac h;refine Ae tt O hg14 (Aa O ?_);obtain ⟨hg15,h⟩:=Ac h;refine Ae tt O hg15 (Aa O (Af (Ay ?_)));show ∃ _,_;cases h;exact ⟨[],O,Y,⟨O,Y⟩,O⟩
def Sb (N:Nat) (c_0:Cur) (n_1:Int):Option (Bool×Int×Int):=
 (Bk N c_0 n_1).bind fun v1=>
 some ((v1.1==(0:Int)),v1.2.1,v1.2.2)
theorem S_l1Once_w (N:Nat) (c_0:Cur) (n_1:Int) (r:Bool×Int×Int) (h:Sb N c_0 n_1=some r):MCall Tryz.prog 97 [.ptr 1000000 0,.int n_1] [] [1000000] [] [] [[.ro false (.bytes c_0.b),.int c_0.i,.int c_0.h]] [[.ro false (.bytes c_0.b),.int r.2.1,.int r.2.2]] (.bool r.1):=by
 unfold Sb at h;refine Cy (TT:=TT) tt Tryz.func97 O O Tryz.ntmps97 (congrArg Array.toList Tryz.results97) O O O O O fun w0 O0=>(Ah (Ab (Aa O (Af (Ah (Ab (Aa O (Aa O ?_))))))));obtain ⟨v1,hc1,h⟩:=Ad h;refine Bs (Bc N c_0 n_1 v1 hc1) [] [1000000] [] O O O O O O Y ⟨O,Y⟩ ⟨⟨O,O⟩,⟨O,O⟩,Y⟩ (Aa O (Aa O (Af (Ay ?_))));show ∃ _,_;cases h;exact ⟨[],O,Y,⟨O,Y⟩,O⟩
def Ti (N:Nat) (g_0:Grf) (a_1:Int) (b_2:Int):Option (Grf×Bool):=
 (La N g_0).bind fun v1=>
 cnd (!v1) (
  (Ey N g_0).bind fun v2=>
  some ((⟨v2.n,v2.bars⟩:Grf),false)) (
  cnd (decide (a_1<(0:Int))) (
   (Ey N g_0).bind fun v3=>
   some ((⟨v3.n,v3.bars⟩:Grf),false)) (
   cnd (decide (b_2<(0:Int))) (
    (Ey N g_0).bind fun v4=>
    some ((⟨v4.n,v4.bars⟩:Grf),false)) (
    cnd (decide (a_1≥g_0.n)) (
     (Ey N g_0).bind fun v5=>
     some ((⟨v5.n,v5.bars⟩:Grf),false)) (
     cnd (decide (b_2≥g_0.n)) (
      (Ey N g_0).bind fun v6=>
      some ((⟨v6.n,v6.bars⟩:Grf),false)) (
      cnd (a_1==b_2) (
       (Ey N g_0).bind fun v7=>
       some ((⟨v7.n,v7.bars⟩:Grf),false)) (
       cnd (decide ((g_0.bars.length:Int)≥(24:Int))) (
        (Ey N g_0).bind fun v8=>
        some ((⟨v8.n,v8.bars⟩:Grf),false)) (
        (Fl N g_0 ((min a_1 b_2),(max a_1 b_2))).bind fun v9=>
        some ((⟨v9.n,v9.bars⟩:Grf),true))))))))
theorem S_AddBar_w (N:Nat) (g_0:Grf) (a_1:Int) (b_2:Int) (r:Grf×Bool) (h:Ti N g_0 a_1 b_2=some r):PCall Tryz.prog 129 [gD g_0,.int a_1,.int b_2] [(42,.pairs r.1.bars)] (.tup [.agg [.int r.1.n,.row 0 0 r.1.bars.length],.bool r.2]):=by
 unfold Ti at h;refine Ak (TT:=TT) tt Tryz.func129 O O Tryz.ntmps129 (congrArg Array.toList Tryz.results129) O O fun w0=>(Ah (Ab (Lw O O O O O O O O O (Bq tt O O O O O O O O O (Aa O (Af (Ah (Ah (Ab ?_)))))))));refine Aa O ?_;obtain ⟨v1,hc1,h⟩:=Ad h;refine Bn (Rn N g_0 v1 hc1) O O O O O O O O ⟨⟨O,O,Y⟩,Y⟩ (Aa O (Aa O (Bi O O O (fun hb2=>?_) (fun hb2=>?_))))
 ·replace h:=Ai hb2 h;iterate 2 refine Fd O O O O hb2 O O ?_
  refine Bd O O O O O hb2 O (Aa O ?_);iterate 2 refine Fd O O O O O O O ?_
  refine Bd O O O O O O O (Aa O ?_);iterate 4 refine Fd O O O O O O O ?_
  refine Bd O O O O O O O (Aa O ?_);iterate 4 refine Fd O O O O O O O ?_
  refine Bd O O O O O O O (Aa O ?_);iterate 3 refine Fd O O O O O O O ?_
  refine Bd O O O O O O O (Aa O ?_);iterate 4 refine Fd O O O O O O O ?_
  refine Bd O O O O O O O (Af (Bo O O (Ah (Ab (Aa O ?_)))));obtain ⟨v2,hc3,h⟩:=Ad h;refine Bn (Ga N g_0 v2 hc3) O O O O O O O O ⟨⟨O,O,Y⟩,Y⟩ (As tt O O O O O O O O O O O ⟨Y,Y,Y⟩ (Aa O (Af (Ay ?_))));show ∃ _,_;cases h;exact ⟨[1430],_,O,⟨O,Y⟩,O,.eq O,O⟩
 replace h:=Aj hb2 h;iterate 2 refine Bj tt O O O O O hb2 O O O Y ?_
 refine Az O O O O O hb2 O (Aa O (Bi O O O (fun hb4=>?_) (fun hb4=>?_)))
 ·replace h:=Ai hb4 h;iterate 2 refine Fd O O O O hb4 O O ?_
  refine Bd O O O O O hb4 O (Aa O ?_);iterate 4 refine Fd O O O O O O O ?_
  refine Bd O O O O O O O (Aa O ?_);iterate 4 refine Fd O O O O O O O ?_
  refine Bd O O O O O O O (Aa O ?_);iterate 3 refine Fd O O O O O O O ?_
  refine Bd O O O O O O O (Aa O ?_);iterate 4 refine Fd O O O O O O O ?_
  refine Bd O O O O O O O (Af (Bo O O (Ah (Ab (Aa O ?_)))));obtain ⟨v3,hc5,h⟩:=Ad h;refine Bn (Ga N g_0 v3 hc5) O O O O O O O O ⟨⟨O,O,Y⟩,Y⟩ (As tt O O O O O O O O O O O ⟨Y,Y,Y⟩ (Aa O (Af (Ay ?_))));show ∃ _,_;cases h;exact ⟨[1430],_,O,⟨O,Y⟩,O,.eq O,O⟩
 replace h:=Aj hb4 h;iterate 2 refine Bj tt O O O O O hb4 O O O Y ?_
 refine Az O O O O O hb4 O (Aa O (Bi O O O (fun hb6=>?_) (fun hb6=>?_)))
 ·replace h:=Ai hb6 h;iterate 4 refine Fd O O O O hb6 O O ?_
  refine Bd O O O O O hb6 O (Aa O ?_);iterate 4 refine Fd O O O O O O O ?_
  refine Bd O O O O O O O (Aa O ?_);iterate 3 refine Fd O O O O O O O ?_
  refine Bd O O O O O O O (Aa O ?_);iterate 4 refine Fd O O O O O O O ?_
  refine Bd O O O O O O O (Af (Bo O O (Ah (Ab (Aa O ?_)))));obtain ⟨v4,hc7,h⟩:=Ad h;refine Bn (Ga N g_0 v4 hc7) O O O O O O O O ⟨⟨O,O,Y⟩,Y⟩ (As tt O O O O O O O O O O O ⟨Y,Y,Y⟩ (Aa O (Af (Ay ?_))));show ∃ _,_;cases h;exact ⟨[1430],_,O,⟨O,Y⟩,O,.eq O,O⟩
 replace h:=Aj hb6 h;iterate 4 refine Bj tt O O O O O hb6 O O O Y ?_
 refine Az O O O O O hb6 O (Aa O (Bi O O O (fun hb8=>?_) (fun hb8=>?_)))
 ·replace h:=Ai hb8 h;iterate 4 refine Fd O O O O hb8 O O ?_
  refine Bd O O O O O hb8 O (Aa O ?_);iterate 3 refine Fd O O O O O O O ?_
  refine Bd O O O O O O O (Aa O ?_);iterate 4 refine Fd O O O O O O O ?_
  refine Bd O O O O O O O (Af (Bo O O (Ah (Ab (Aa O ?_)))));obtain ⟨v5,hc9,h⟩:=Ad h;refine Bn (Ga N g_0 v5 hc9) O O O O O O O O ⟨⟨O,O,Y⟩,Y⟩ (As tt O O O O O O O O O O O ⟨Y,Y,Y⟩ (Aa O (Af (Ay ?_))));show ∃ _,_;cases h;exact ⟨[1430],_,O,⟨O,Y⟩,O,.eq O,O⟩
 replace h:=Aj hb8 h;iterate 4 refine Bj tt O O O O O hb8 O O O Y ?_
 refine Az O O O O O hb8 O (Aa O (Bi O O O (fun hb10=>?_) (fun hb10=>?_)))
 ·replace h:=Ai hb10 h;iterate 3 refine Fd O O O O hb10 O O ?_
  refine Bd O O O O O hb10 O (Aa O ?_);iterate 4 refine Fd O O O O O O O ?_
  refine Bd O O O O O O O (Af (Bo O O (Ah (Ab (Aa O ?_)))));obtain ⟨v6,hc11,h⟩:=Ad h;refine Bn (Ga N g_0 v6 hc11) O O O O O O O O ⟨⟨O,O,Y⟩,Y⟩ (As tt O O O O O O O O O O O ⟨Y,Y,Y⟩ (Aa O (Af (Ay ?_))));show ∃ _,_;cases h;exact ⟨[1430],_,O,⟨O,Y⟩,O,.eq O,O⟩
 replace h:=Aj hb10 h;iterate 3 refine Bj tt O O O O O hb10 O O O Y ?_
 refine Az O O O O O hb10 O (Aa O (Bi O O O (fun hb12=>?_) (fun hb12=>?_)))
 ·replace h:=Ai hb12 h;iterate 4 refine Fd O O O O hb12 O O ?_
  refine Bd O O O O O hb12 O (Af (Bo O O (Ah (Ab (Aa O ?_)))));obtain ⟨v7,hc13,h⟩:=Ad h;refine Bn (Ga N g_0 v7 hc13) O O O O O O O O ⟨⟨O,O,Y⟩,Y⟩ (As tt O O O O O O O O O O O ⟨Y,Y,Y⟩ (Aa O (Af (Ay ?_))));show ∃ _,_;cases h;exact ⟨[1430],_,O,⟨O,Y⟩,O,.eq O,O⟩
 replace h:=Aj hb12 h;iterate 4 refine Bj tt O O O O O hb12 O O O Y ?_
 refine Az O O O O O hb12 O (Af (At O (fun hb14=>?_) (fun hb14=>?_)))
 ·replace h:=Ai hb14 h;refine Ah (Ab (Aa O ?_));obtain ⟨v8,hc15,h⟩:=Ad h;refine Bn (Ga N g_0 v8 hc15) O O O O O O O O ⟨⟨O,O,Y⟩,Y⟩ (As tt O O O O O O O O O O O ⟨Y,Y,Y⟩ (Aa O (Af (Ay ?_))));show ∃ _,_;cases h;exact ⟨[1430],_,O,⟨O,Y⟩,O,.eq O,O⟩
 replace h:=Aj hb14 h;refine Ar (Ah (Ab ?_));iterate 7 refine Aa O ?_
 refine Gb (Ag O) (Ds Db O O) O O ?_;obtain ⟨v9,hc16,h⟩:=Ad h;refine Bn (Hz N g_0 ((min a_1 b_2),(max a_1 b_2)) v9 hc16) O O O O O O O O ⟨⟨O,O,Y⟩,⟨O,O,Y⟩,Y⟩ (As tt O O O O O O O O O O O ⟨Y,Y,Y⟩ (Aa O (Af (Ay ?_))));show ∃ _,_;cases h;exact ⟨[1520],_,O,⟨O,Y⟩,O,.eq O,O⟩
end
section
open Go.RowKit
theorem Kk:BuildOK Tryz.prog 49 [(0,3),(3,1)] [.int .i64 0,.slice none 0 0,.slice none 0 0,.slice none 0 0]:=bld (by kernel_rfl) (by kernel_rfl)
theorem Zh:BuildOK Tryz.prog 112 [(0,1),(1,1),(2,1)] [.slice none 0 0,.int .i64 0,.int .i64 0]:=bld (by kernel_rfl) (by kernel_rfl)
end
section
open Go.RowKit
def Jp (N:Nat) (code_0:List Int) (k:Int→Option (Cur)):Nat→(Int×Int)→Option (Cur)
 | 0,_=>none
 | n+1,(h5,i6)=>
  cnd (decide (i6<(code_0.length:Int))) (
   cnd (decide (i6<(4000:Int))) (
    grd (Bg (h5*(131:Int))) <|
    grd (0≤i6∧i6<(code_0.length:Int)) <|
    grd (0≤(code_0.getD ((i6).toNat) 0)∧(code_0.getD ((i6).toNat) 0)<256) <|
    grd (Bg ((h5*(131:Int))+(code_0.getD ((i6).toNat) 0))) <|
    grd (Bg (((h5*(131:Int))+(code_0.getD ((i6).toNat) 0))+(7:Int))) <|
    grd (Bg (i6+(1:Int))) <|
    Jp N code_0 k n ((andI (((h5*(131:Int))+(code_0.getD ((i6).toNat) 0))+(7:Int)) (1073741823:Int)),(i6+(1:Int)))) (
    k h5)) (
   k h5)
def Qc (N:Nat) (code_0:List Int):Option (Cur):=
 grd (Bg ((10101:Int)+(code_0.length:Int))) <|
 Jp N code_0 (fun (h3 : Int) =>
    some (⟨code_0,(0:Int),h3⟩:Cur)) N (((10101:Int)+(code_0.length:Int)),(0:Int))
theorem Sn (N:Nat) (code_0:List Int) (r:Cur) (h:Qc N code_0=some r):PCallB Tryz.prog 65 [.ro false (.bytes code_0)] [.ro false (.bytes r.b),.int r.i,.int r.h]:=by
 unfold Qc at h;refine pcallB_intro (TT:=TT) tt Tryz.func65 O O Tryz.ntmps65 (congrArg Array.toList Tryz.results65) O O O fun w0 O0=>(Ah (Ab (Aa O (Af (Ah (Ab (Aa O (Aa O ?_))))))));obtain ⟨hg1,h⟩:=Ac h;refine Ae tt O hg1 (Aa O (Af (Ah (Ah (Ab (Aa O (Af (Cb (F:=fun k=>Jp N code_0 k) h (α:=Int) (J:=fun (h3:Int)=>(⟨[(0,.ro false (.bytes code_0)),(3,.int h3)],[],[]⟩:PS)) ?_ ?_))))))))
 ·rintro h3 h;show VC _ _ _ (⟨[(0,.ro false (.bytes code_0)),(3,.int h3)],[],[]⟩:PS);refine Ah (Ab (Aa O (Aa O (Gb (Ag O) (Ds Zh O O) O O (Lw O O O O O O O O O (Aa O (Af (Ay ?_))))))));show ∃ _,_;cases h;exact ⟨31,O,O,O⟩
 intro k h;refine Aq (Bh (α:=Int×Int) (fun | (h5,i6)=>(⟨[(0,.ro false (.bytes code_0)),(3,.int h5),(4,.int i6)],[],[]⟩:PS)) (Jp N code_0 k) h (En.of ⟨rfl,rfl,rfl,Y⟩ trivial trivial) (fun _=>rfl) ?_);rintro n ⟨h5,i6⟩ h;rw [Jp] at h;show VC _ _ _ (⟨[(0,.ro false (.bytes code_0)),(3,.int h5),(4,.int i6)],[],[]⟩:PS);refine Ah (Ah (Ab ?_));iterate 5 refine Aa O ?_
 refine Bi O O O (fun hb2=>?_) (fun hb2=>?_)
 ·replace h:=Ai hb2 h;iterate 2 refine Bj tt O O O O O hb2 O O O Y ?_
  refine Bd O O O O O hb2 O (Af (At O (fun hb3=>?_) (fun hb3=>?_)))
  ·replace h:=Ai hb3 h;refine Ar (Ah (Aq (Ab (Aa O ?_))));obtain ⟨hg4,h⟩:=Ac h;refine Ae tt O hg4 (Aa O (Aa O ?_));obtain ⟨hg5,h⟩:=Ac h;refine Ae tt O hg5 (Aa O ?_);obtain ⟨hg6,h⟩:=Ac h;refine Gb (Ag O) (pConvI Tryz.underlying5 Tryz.underlying3 O O hg6) O O ?_;obtain ⟨hg7,h⟩:=Ac h;refine Ae tt O hg7 ?_;obtain ⟨hg8,h⟩:=Ac h;refine Ae tt O hg8 (Aa O (Aa O (Af (Ab (Aa O ?_)))));obtain ⟨hg9,h⟩:=Ac h;refine Ae tt O hg9 (Aa O (Af ?_));show ∃ _,_;exact ⟨((andI (((h5*(131:Int))+(code_0.getD ((i6).toNat) 0))+(7:Int)) (1073741823:Int)),(i6+(1:Int))),(En.of ⟨O,O,O,Y⟩ trivial trivial),h⟩
  replace h:=Aj hb3 h;refine Br ?_;show ∃ _,_;exact ⟨h5,(En.of ⟨O,O,Y⟩ trivial trivial),h⟩
 replace h:=Aj hb2 h;iterate 2 refine Qv O O O O hb2 O O ?_
 refine Az O O O O O hb2 O (Af (Gx O O (Br ?_)));show ∃ _,_;exact ⟨h5,(En.of ⟨O,O,Y⟩ trivial trivial),h⟩
def Wu (N:Nat) (l_0:List Int) (x_1:Int) (k:Unit→Option (Bool)):Nat→Int→Option (Bool)
 | 0,_=>none
 | n+1,i3=>
  cnd (decide (i3<(l_0.length:Int))) (
   grd (0≤i3∧i3<(l_0.length:Int)) <|
   cnd ((l_0.getD ((i3).toNat) 0)==x_1) (
    some true) (
    grd (Bg (i3+(1:Int))) <|
    Wu N l_0 x_1 k n (i3+(1:Int)))) (
   k ())
def L_has (N:Nat) (l_0:List Int) (x_1:Int):Option (Bool):=
 Wu N l_0 x_1 (fun (_ : Unit) =>
    some false) N (0:Int)
def Fo (N:Nat) (a_0:List Int) (b_1:List Int) (k:Unit→Option (Bool)):Nat→Int→Option (Bool)
 | 0,_=>none
 | n+1,i3=>
  cnd (decide (i3<(a_0.length:Int))) (
   grd (0≤i3∧i3<(a_0.length:Int)) <|
   grd (0≤i3∧i3<(b_1.length:Int)) <|
   cnd ((a_0.getD ((i3).toNat) 0) != (b_1.getD ((i3).toNat) 0)) (
    some false) (
    grd (Bg (i3+(1:Int))) <|
    Fo N a_0 b_1 k n (i3+(1:Int)))) (
   k ())
def Jt (N:Nat) (a_0:List Int) (b_1:List Int):Option (Bool):=
 cnd ((a_0.length:Int) != (b_1.length:Int)) (
  some false) (
  Fo N a_0 b_1 (fun (_ : Unit) =>
     some true) N (0:Int))
theorem Pt (N:Nat) (a_0:List Int) (b_1:List Int) (r:Bool) (h:Jt N a_0 b_1=some r):PCall Tryz.prog 9 [.ro false (.ints a_0),.ro false (.ints b_1)] [] (.bool r):=by
 unfold Jt at h;refine Ak (TT:=TT) tt Tryz.func9 O O Tryz.ntmps9 (congrArg Array.toList Tryz.results9) O O fun w0=>(Ah (Ab (Aa O (Af (Ah (Ah (Ab ?_)))))));iterate 5 refine Aa O ?_
 refine Af (At O (fun hb1=>?_) (fun hb1=>?_))
 ·replace h:=Ai hb1 h;refine Ah (Ab (Aa O (Af (Ay ?_))));show ∃ _,_;cases h;exact ⟨[],_,O,Y,O,.eq O,O⟩
 replace h:=Aj hb1 h;refine Ar (Ah (Ah (Ab (Aa O (Af (Cb (F:=fun k=>Fo N a_0 b_1 k) h (α:=Unit) (J:=fun (_:Unit)=>(⟨[],[],[]⟩:PS)) ?_ ?_))))))
 ·rintro ⟨⟩ h;show VC _ _ _ (⟨[],[],[]⟩:PS);refine Ah (Ab (Aa O (Af (Ay ?_))));show ∃ _,_;cases h;exact ⟨[],_,O,Y,O,.eq O,O⟩
 intro k h;refine Aq (Bh (α:=Int) (fun (i3:Int)=>(⟨[(0,.ro false (.ints a_0)),(1,.ro false (.ints b_1)),(5,.int i3)],[],[]⟩:PS)) (Fo N a_0 b_1 k) h (En.of ⟨O,O,O,Y⟩ trivial trivial) (fun _=>O) ?_);rintro n i3 h;rw [Fo] at h;show VC _ _ _ (⟨[(0,.ro false (.ints a_0)),(1,.ro false (.ints b_1)),(5,.int i3)],[],[]⟩:PS);refine Ah (Ah (Ab ?_));iterate 4 refine Aa O ?_
 refine Af (At O (fun hb2=>?_) (fun hb2=>?_))
 ·replace h:=Ai hb2 h;refine Ar (Ah (Aq (Ah (Bt (by kernel_rfl) (by kernel_rfl) ?_))));iterate 2 refine Bb tt O (Ag O) O O O Y ?_
  obtain ⟨hg3,h⟩:=Ac h;refine Bb tt O (Ag O) O O O hg3 ?_;iterate 3 refine Bb tt O (Ag O) O O O Y ?_
  obtain ⟨hg4,h⟩:=Ac h;refine Bb tt O (Ag O) O O O hg4 ?_;iterate 2 refine Bb tt O (Ag O) O O O Y ?_
  refine Km (At O (fun hb5=>?_) (fun hb5=>?_))
  ·replace h:=Ai hb5 h;refine Ah (Ab (Aa O (Af (Ay ?_))));show ∃ _,_;cases h;exact ⟨[],_,O,Y,O,.eq O,O⟩
  replace h:=Aj hb5 h;refine Ar (Ab (Aa O ?_));obtain ⟨hg6,h⟩:=Ac h;refine Ae tt O hg6 (Aa O (Af ?_));show ∃ _,_;exact ⟨(i3+(1:Int)),(En.of ⟨O,O,O,Y⟩ trivial trivial),h⟩
 replace h:=Aj hb2 h;refine Br ?_;show ∃ _,_;exact ⟨(),(En.of trivial trivial trivial),h⟩
end
section
open Go.RowKit
def Ok {α:Type} (o:Option α) (P:α→Prop):Prop:=∃ r,o=some r∧P r
section
variable {α β:Type} {P Q:α→Prop}
theorem Bx {r:α} (h:P r):Ok (some r) P:=⟨r,rfl,h⟩
theorem Ax {o:Option β} {R:β→Prop} {f:β→Option α} (h:Ok o R) (hf:∀ r,R r→Ok (f r) P):Ok (o.bind f) P:=by
 obtain ⟨r,rfl,hr⟩:=h;exact hf r hr
theorem Ba {p:Prop} [Decidable p] {o:Option α} (hp:p) (h:Ok o P):Ok (grd p o) P:=by rw [Am hp]; exact h
theorem Cl {b:Bool} {x y:Option α} (h1:b=true→Ok x P) (h2:b=false→Ok y P):Ok (cnd b x y) P:=by
 cases b with
 | true=>exact h1 rfl
 | false=>exact h2 rfl
end
def Byt (l:List Int):Prop:=∀ i:Nat,i<l.length→0≤l.getD i 0∧l.getD i 0<256
structure CK (c:Cur):Prop where
 byt:Byt c.b
 len:c.b.length≤1048576
 nn:0≤c.i
theorem and_low {x:Int} {m:Nat} (hm:m<4611686018427387904):0≤andI x (m:Int)∧andI x (m:Int)≤m:=by
 unfold andI;have e:(BitVec.ofInt 64 (m:Int)).toNat=m:=by rw [BitVec.toNat_ofInt]; omega
 rw [BitVec.toNat_and,e];have h:(BitVec.ofInt 64 x).toNat &&& m≤m:=Nat.and_le_right;rw [show IntKind.i64.wrap (((BitVec.ofInt 64 x).toNat &&& m:Nat):Int)=(((BitVec.ofInt 64 x).toNat &&& m:Nat):Int) from w64_id (by omega) (by omega)];omega
theorem and_255 (x:Int):0≤andI x (255:Int)∧andI x (255:Int)<256:=by
 have:=and_low (x:=x) (m:=255) (by omega);have e:((255:Nat):Int)=(255:Int):=rfl;rw [e] at this;omega
variable {N:Nat}
theorem byte_s {c:Cur} (h:CK c):Ok (Ks N c) fun r=>0≤r.1∧r.1<256∧0≤r.2.1:=by
 unfold Ks;have hl:=h.len;have hn:=h.nn;refine Cl (fun hb=>?_) (fun hb=>?_)
 ·rw [decide_eq_true_eq] at hb;have hy:=h.byt c.i.toNat (by omega);refine Ba ⟨hn,hb⟩ (Ba hy (Bx ?_));have:=and_255 (w64 ((andI (xorI (shrI (w64 ((w64 (c.h*(6364136223846793005:Int)))+(1442695040888963407:Int))) 33) (shrI (w64 ((w64 (c.h*(6364136223846793005:Int)))+(1442695040888963407:Int))) 45)) (255:Int))+(c.b.getD ((c.i).toNat) 0)));refine ⟨this.1,this.2,?_⟩;show 0≤w64 (c.i+1);rw [show w64 (c.i+1)=c.i+1 from w64_id (by omega) (by omega)];omega
 refine Bx ?_;have:=and_255 (xorI (shrI (w64 ((w64 (c.h*(6364136223846793005:Int)))+(1442695040888963407:Int))) 33) (shrI (w64 ((w64 (c.h*(6364136223846793005:Int)))+(1442695040888963407:Int))) 45));exact ⟨this.1,this.2,hn⟩
structure Bel (n:Int) (r:Int×Int×Int):Prop where
 nn:0≤r.1
 lt:0<n→r.1<n
 zero:n≤0→r.1=0
 cur:0≤r.2.1
theorem Di {c:Cur} (h:CK c) (n:Int):Ok (Bk N c n) (Bel n):=by
 unfold Bk;refine Cl (fun hb=>?_) (fun hb=>?_)
 ·rw [decide_eq_true_eq] at hb;exact Bx ⟨by omega,by omega,by intro; rfl,h.nn⟩
 rw [decide_eq_false_iff_not] at hb;refine Cl (fun hb2=>?_) (fun hb2=>?_)
 ·refine Ax (byte_s h) fun v hv=>?_;obtain ⟨h1,h2,h3⟩:=hv;refine Ba (by omega) (Bx ?_);have e1:=Int.tmod_nonneg n h1;have e2:=Int.tmod_lt_of_pos v.1 (show 0<n by omega);exact ⟨e1,fun _=>e2,by omega,h3⟩
 refine Ax (byte_s h) fun v2 h2=>(Ax (byte_s ⟨h.byt,h.len,h2.2.2⟩) fun v3 h3=>(Ax (byte_s ⟨h.byt,h.len,h3.2.2⟩) fun v4 h4=>(Ax (byte_s ⟨h.byt,h.len,h4.2.2⟩) fun v5 h5=>?_)));obtain ⟨a2,b2,_⟩:=h2;obtain ⟨a3,b3,_⟩:=h3;obtain ⟨a4,b4,_⟩:=h4;obtain ⟨a5,b5,c5⟩:=h5;refine Ba ⟨by omega,by omega⟩ (Ba ⟨by omega,by omega⟩ (Ba ⟨by omega,by omega⟩ (Ba ⟨by omega,by omega⟩ (Ba ⟨by omega,by omega⟩ (Ba ⟨by omega,by omega⟩ (Ba (by omega) (Bx ?_)))))));have e1:=Int.tmod_nonneg (a:=(((v2.1*(16777216:Int))+(v3.1*(65536:Int)))+(v4.1*(256:Int)))+v5.1) n (by omega);have e2:=Int.tmod_lt_of_pos ((((v2.1*(16777216:Int))+(v3.1*(65536:Int)))+(v4.1*(256:Int)))+v5.1) (show 0<n by omega);exact ⟨e1,fun _=>e2,by omega,c5⟩
theorem once_s {c:Cur} (h:CK c) (n:Int):Ok (Sb N c n) fun r=>0≤r.2.1:=by
 unfold Sb;exact Ax (Di h n) fun v hv=>Bx hv.cur
theorem new_s (hN:4000000≤N) {l:List Int} (hb:Byt l) (hl:l.length≤1048576):Ok (Qc N l) fun r=>CK r∧r.b=l:=by
 unfold Qc;refine Ba ⟨by omega,by omega⟩ ?_
 have key:∀ (fuel i:Nat) (h:Int),0≤h→h≤1073741823→i≤4000→4001<fuel+i→Ok (Jp N l (fun h3=>some (⟨l,(0:Int),h3⟩:Cur)) fuel (h,(i:Int))) fun r=>CK r∧r.b=l:=by
  intro fuel
  induction fuel with
  | zero=>intro i h h1 h2 h4 h3; omega
  | succ fuel ih=>
   intro i h h1 h2 h4 h3;rw [Jp];refine Cl (fun c1=>?_) (fun c1=>Bx ⟨⟨hb,hl,by simp⟩,O⟩);refine Cl (fun c2=>?_) (fun c2=>Bx ⟨⟨hb,hl,by simp⟩,O⟩);rw [decide_eq_true_eq] at c1 c2;have hy:=hb i (by omega);have hi:((i:Int)).toNat=i:=rfl;rw [hi];refine Ba ⟨by omega,by omega⟩ (Ba ⟨by omega,c1⟩ (Ba hy (Ba ⟨by omega,by omega⟩ (Ba ⟨by omega,by omega⟩ (Ba ⟨by omega,by omega⟩ ?_)))));have ha:=and_low (x:=h*(131:Int)+l.getD i 0+(7:Int)) (m:=1073741823) (by omega);have e:((1073741823:Nat):Int)=(1073741823:Int):=rfl;rw [e] at ha;exact ih (i+1) _ ha.1 ha.2 (by omega) (by omega)
 exact key N 0 _ (by omega) (by omega) (by omega) (by omega)
theorem CK.at {c:Cur} (h:CK c) {i x:Int} (hi:0≤i):CK ⟨c.b,i,x⟩:=⟨h.byt,h.len,hi⟩
end
section
variable {n:Nat} {f T:List Int} {a b:Int}
abbrev brI (bars:List (Int×Int)) (i:Int):Int×Int:=bars.getD i.toNat (0,0)
structure PG (n:Nat) (bars:List (Int×Int)) (p:Pbl):Prop where
 inv:PInv n (p.placed.map (brI bars)) p.free p.tails
 pl:∀ i∈p.placed,0≤i∧i<(bars.length:Int)
section
variable {g:Grf} {p:Pbl} {N:Nat} (hN:4000000≤N) (hn:n≤1000) (hg:g.n=n) (hp:PG n g.bars p)
end
section
variable {g:Grf} {N:Nat} (hN:4000000≤N) (hn:n≤1000) (hg:g.n=n)
end
end
section
variable {n:Nat} {N:Nat}
variable {g:Grf} (hN:4000000≤N) (hn:n≤1000) (hg:g.n=n)
end
section
variable {n:Nat} {a b:Int} {N:Nat}
section
variable {bars:List (Int×Int)} {p:Pbl} (hN:4000000≤N) (hn:n≤1000) (hp:PG n bars p)
end
section
variable {bars:List (Int×Int)} (hN:4000000≤N) (hn:n≤1000)
end
end
section
variable {n:Nat} {N:Nat}
end
section
variable {n:Nat} {N:Nat}
theorem put0_s (hN:4000000≤N) {g:Grf} (hl:g.bars.length≤1000) (x:Int×Int):∃ L,Fl N g x=some ⟨g.n,L⟩∧L.length=g.bars.length+1∧∀ e,e∈L↔e=x∨e∈g.bars:=by
 have key:∀ {kk:(List (Int×Int)×Bool)→Option Grf} (fuel i:Nat) (l:List (Int×Int)) (pl:Bool),i≤g.bars.length→g.bars.length<fuel+i→l.length=i+(if pl=true then 1 else 0)→(pl=true→x∈l)→(∀ e,(e=x∨e∈l)↔(e=x∨e∈g.bars.take i)) →
   ∃ l' pl',Gs N g x kk fuel (l,pl,(i:Int))=kk (l',pl')∧l'.length=g.bars.length+(if pl'=true then 1 else 0)∧(pl'=true→x∈l')∧∀ e,(e=x∨e∈l')↔(e=x∨e∈g.bars):=by
  intro kk fuel
  induction fuel with
  | zero=>intro i l pl h1 h2; omega
  | succ fuel ih=>
   intro i l pl h1 h2 h3 h4 h5;rw [Gs];have hlb:l.length≤1001:=by rw [h3]; split <;> omega
   by_cases hi:i<g.bars.length
   ·have htk:∀ e,e∈g.bars.take (i+1)↔e∈g.bars.take i∨e=g.bars.getD i (0,0):=by
     intro e;have hd:g.bars.getD i (0,0)=g.bars[i]:=by simp [List.getD_eq_getElem?_getD,List.getElem?_eq_getElem hi]
     rw [List.take_add_one,List.getElem?_eq_getElem hi,List.mem_append,hd];simp only [Option.toList_some,List.mem_singleton]
    have step:∀ l2:List (Int×Int),(∀ e,(e=x∨e∈l2)↔(e=x∨e∈l∨e=g.bars.getD i (0,0)))→∀ e,(e=x∨e∈l2)↔(e=x∨e∈g.bars.take (i+1)):=by
     intro l2 h e;rw [h e,htk e];have:=h5 e;constructor
     ·rintro (h | h | h)
      ·exact .inl h
      ·rcases this.1 (.inr h) with h | h
       ·exact .inl h
       exact .inr (.inl h)
      exact .inr (.inr h)
     rintro (h | h | h)
     ·exact .inl h
     ·rcases this.2 (.inr h) with h | h
      ·exact .inl h
      exact .inr (.inl h)
     exact .inr (.inr h)
    cases pl with
    | true=>
     simp only [if_true] at h3;obtain ⟨l',pl',k1,k2⟩:=ih (i+1) (l++[g.bars.getD i (0,0)]) true (by omega) (by omega) (by simp; omega) (fun _=>by simp [h4 rfl]) (step _ fun e=>by simp);refine ⟨l',pl',?_,k2⟩;simp (disch:=omega) only [pst,Bool.not_true,Al];exact k1
    | false=>
     simp only [Bool.false_eq_true,if_false] at h3
     cases hb:Rf (g.bars.getD i (0,0)) x with
     | false=>
      obtain ⟨l',pl',k1,k2⟩:=ih (i+1) (l++[x]++[g.bars.getD i (0,0)]) true (by omega) (by omega) (by simp; omega) (fun _=>by simp) (step _ fun e=>by simp; grind);refine ⟨l',pl',?_,k2⟩;simp (disch:=omega) only [pst,Bool.not_false,Tf,hb,List.length_append,Al];exact k1
     | true=>
      obtain ⟨l',pl',k1,k2⟩:=ih (i+1) (l++[g.bars.getD i (0,0)]) false (by omega) (by omega) (by simp; omega) (fun h=>by cases h) (step _ fun e=>by simp);refine ⟨l',pl',?_,k2⟩;simp (disch:=omega) only [pst,Bool.not_false,Bool.not_true,Tf,hb,Al];exact k1
   have e:i=g.bars.length:=by omega
   subst e;refine ⟨l,pl,?_,h3,h4,by simpa using h5⟩;simp (disch:=omega) only [pst]
 obtain ⟨l',pl',k1,k2,k3,k4⟩:=key (kk:=fun (x_:(List (Int×Int))×Bool)=>
   match x_ with
   | (l10,placed11)=>
    cnd (!placed11) (
     grd (l10.length+1≤4294967296) <|
     some (⟨g.n,(l10++([(x.1,x.2)]:List (Int×Int)))⟩:Grf)) (
     some (⟨g.n,l10⟩:Grf))) N 0 [] false (by omega) (by omega) (by simp) (fun h=>by cases h) (fun e=>by simp)
 rw [show ((0:Nat):Int)=0 from rfl] at k1
 cases pl' with
 | true=>
  refine ⟨l',k1,by simpa using k2,fun e=>?_⟩;rw [←k4 e];constructor
  ·exact .inr
  rintro (rfl | h)
  ·exact k3 O
  exact h
 | false=>
  simp only [Bool.false_eq_true,if_false] at k2;refine ⟨l'++[x],?_,by simp; omega,fun e=>?_⟩
  ·refine Eq.trans k1 ?_;simp (disch:=omega) only [pst,Bool.not_false]
  rw [←k4 e]; simp; grind
end
section
open Go.RowKit
end
section
open Go.RowKit
end
section
open Go.RowKit
end
section
variable {N:Nat}
def bitB (m:Int) (j:Nat):Bool:=andI (shrI m (j:Int)) (1:Int)==(1:Int)
def setU (m:Int) (k:Nat):List Int:=((List.range k).filter (bitB m)).map fun (j:Nat)=>(j:Int)
theorem setU_succ (m:Int) (k:Nat):setU m (k+1)=cnd (bitB m k) (setU m k++[(k:Int)]) (setU m k):=by
 unfold setU;rw [List.range_succ,List.filter_append,List.map_append];cases h:bitB m k <;> simp [h,cnd]
theorem setU_len (m:Int) (k:Nat):(setU m k).length≤k:=by
 unfold setU;rw [List.length_map];exact Nat.le_trans (List.length_filter_le _ _) (by simp)
theorem setS_s (hN:4000000≤N) {n m:Int} (hn:n≤1000):Ql N n m=some (setU m n.toNat):=by
 unfold Ql;refine Eq.trans ?_ (fold (N:=N) (len:=n.toNat) (σ:=List Int) (st:=fun i=>setU m i) (F:=fun f s=>Ek N n m (fun l3=>some l3) f (s.1,s.2)) (fin:=some (setU m n.toNat)) (by omega) (fun f i hi=>?_) fun f=>?_)
 ·simp [setU]
 ·show Ek N n m _ (f+1) (setU m i,(i:Int))=Ek N n m _ f (setU m (i+1),((i+1:Nat):Int));have hl:=setU_len m i;rw [Ek,Av (by omega),Am (by omega),setU_succ];show cnd (bitB m i) _ _=_
  cases bitB m i with
  | true=>rw [cnd_true,cnd_true,Am (by omega),Ci (by omega) (by omega),Al]
  | false=>rw [cnd_false,cnd_false,Ci (by omega) (by omega),Al]
 show Ek N n m _ (f+1) (setU m n.toNat,((n.toNat:Nat):Int))=_;rw [Ek,Au (by omega)]
end
section
open Go.RowKit
variable {N:Nat}
theorem l2CopyD {g:Grf} (h:g.bars.length≤3000000):Ey N g=some g:=by
 unfold Ey;rw [Am (by omega)]; rfl
structure GD (m:Int) (k:Nat) (g:Grf):Prop where
 len:g.bars.length≤k
 rg:∀ e∈g.bars,0≤e.1∧e.1<m∧0≤e.2∧e.2<m
theorem put_d (hN:4000000≤N) {g:Grf} {m:Int} {k:Nat} (h:GD m k g) (hk:k≤999) {x:Int×Int} (hx:0≤x.1∧x.1<m∧0≤x.2∧x.2<m):Ok (Fl N g x) fun r=>GD m (k+1) r∧r.n=g.n:=by
 have hl:=h.len;obtain ⟨L,h1,h2,h3⟩:=put0_s (N:=N) hN (g:=g) (by omega) x;refine ⟨_,h1,⟨by simp only; omega,fun e he=>?_⟩,O⟩;rcases (h3 e).1 he with rfl | h4
 ·exact hx
 exact h.rg e h4
theorem remove_d (hN:4000000≤N) {g:Grf} {m:Int} {k:Nat} (h:GD m k g) (hk:k≤999) (i:Int):Ok (Hl N g i) fun r=>GD m k r.1∧r.1.n=g.n:=by
 have hl:=h.len;unfold Hl;rw [Tz N hN,Option.bind_some]
 have cp:∀ b:Bool,Ok ((Ey N g).bind fun v=>some ((⟨v.n,v.bars⟩:Grf),b)) fun r=>GD m k r.1∧r.1.n=g.n:=fun b=>by
  rw [l2CopyD (by omega)]; exact Bx ⟨h,rfl⟩
 refine Cl (fun _=>cp _) fun _=>Cl (fun _=>cp _) fun a1=>Cl (fun _=>cp _) fun a2=>?_;rw [decide_eq_false_iff_not] at a1 a2;have t1:=List.length_take_le i.toNat g.bars
 have hlen:(((([]:List (Int×Int))++((g.bars.take (i.toNat)).drop 0))++((g.bars.take g.bars.length).drop (((i+(1:Int))).toNat)))).length+1=g.bars.length:=by
  simp only [List.nil_append,List.drop_zero,List.take_length,List.length_append,List.length_take,List.length_drop]; omega
 refine Ba ⟨by omega,by omega⟩ (Ba (by simp only [List.length_drop]; omega) (Ba ⟨by omega,by omega⟩ (Ba ⟨by omega,by omega⟩ (Ba ?_ (Bx ⟨⟨?_,?_⟩,O⟩)))))
 ·rw [←List.length_append]; omega
 ·simp only; omega
 intro e he;refine h.rg e ?_;simp only [List.nil_append,List.drop_zero,List.take_length,List.mem_append] at he;rcases he with he | he
 ·exact List.mem_of_mem_take he
 exact List.mem_of_mem_drop he
theorem add_d (hN:4000000≤N) {g:Grf} {m:Int} {k:Nat} (h:GD m k g) (hk:k≤999) (hm:g.n≤m) (a b:Int):Ok (Ti N g a b) fun r=>GD m (k+1) r.1∧r.1.n=g.n:=by
 have hl:=h.len;unfold Ti;rw [Tz N hN,Option.bind_some]
 have cp:∀ b:Bool,Ok ((Ey N g).bind fun v=>some ((⟨v.n,v.bars⟩:Grf),b)) fun r=>GD m (k+1) r.1∧r.1.n=g.n:=fun b=>by
  rw [l2CopyD (by omega)]; exact Bx ⟨⟨by simp only; omega,h.rg⟩,rfl⟩
 refine Cl (fun _=>cp _) fun _=>Cl (fun _=>cp _) fun a1=>Cl (fun _=>cp _) fun a2=>Cl (fun _=>cp _) fun a3=>Cl (fun _=>cp _) fun a4=>Cl (fun _=>cp _) fun _=>Cl (fun _=>cp _) fun _=>?_;rw [decide_eq_false_iff_not] at a1 a2 a3 a4;refine Ax (put_d hN h hk (x:=(min a b,max a b)) ⟨by simp only; omega,by simp only; omega,by simp only; omega,by simp only; omega⟩) fun r hr=>Bx hr
end
section
open Go.RowKit Go.Deep
end
section
open Go.RowKit Go.Deep
end
section
open Go.RowKit Go.Deep
end
section
open Go.RowKit
def Fp (N:Nat) (a_0:List (List Int)) (b_1:List (List Int)) (k:Unit→Option (Bool)):Nat→Int→Option (Bool)
 | 0,_=>none
 | n+1,i7=>
  cnd (decide (i7<(a_0.length:Int))) (
   grd (0≤i7∧i7<(a_0.length:Int)) <|
   grd (0≤i7∧i7<(b_1.length:Int)) <|
   (Jt N (a_0.getD ((i7).toNat) []) (b_1.getD ((i7).toNat) [])).bind fun v9=>
   cnd (!v9) (
    some false) (
    grd (Bg (i7+(1:Int))) <|
    Fp N a_0 b_1 k n (i7+(1:Int)))) (
   k ())
def Ly (N:Nat) (a_0:List (List Int)) (b_1:List (List Int)):Option (Bool):=
 cnd ((a_0.length:Int) != (b_1.length:Int)) (
  some false) (
  Fp N a_0 b_1 (fun (_ : Unit) =>
     some true) N (0:Int))
theorem L_sameSets_w (N:Nat) (a_0:List (List Int)) (b_1:List (List Int)) (r:Bool) (h:Ly N a_0 b_1=some r):PCall Tryz.prog 21 [.ro false (.intss a_0),.ro false (.intss b_1)] [] (.bool r):=by
 unfold Ly at h;refine Ak (TT:=TT) tt Tryz.func21 O O Tryz.ntmps21 (congrArg Array.toList Tryz.results21) O O fun w0=>(Ah (Ab (Aa O (Af (Ah (Ah (Ab ?_)))))));iterate 5 refine Aa O ?_
 refine Af (At O (fun hb1=>?_) (fun hb1=>?_))
 ·replace h:=Ai hb1 h;refine Ah (Ab (Aa O (Af (Ay ?_))));show ∃ _,_;cases h;exact ⟨[],_,O,Y,O,.eq O,O⟩
 replace h:=Aj hb1 h;refine Ar (Ah (Ah (Ab (Aa O (Af (Cb (F:=fun k=>Fp N a_0 b_1 k) h (α:=Unit) (J:=fun (_:Unit)=>(⟨[],[],[]⟩:PS)) ?_ ?_))))))
 ·rintro ⟨⟩ h;show VC _ _ _ (⟨[],[],[]⟩:PS);refine Ah (Ab (Aa O (Af (Ay ?_))));show ∃ _,_;cases h;exact ⟨[],_,O,Y,O,.eq O,O⟩
 intro k h;refine Aq (Bh (α:=Int) (fun (i7:Int)=>(⟨[(0,.ro false (.intss a_0)),(1,.ro false (.intss b_1)),(5,.int i7)],[],[]⟩:PS)) (Fp N a_0 b_1 k) h (En.of ⟨O,O,O,Y⟩ trivial trivial) (fun _=>O) ?_);rintro n i7 h;rw [Fp] at h;show VC _ _ _ (⟨[(0,.ro false (.intss a_0)),(1,.ro false (.intss b_1)),(5,.int i7)],[],[]⟩:PS);refine Ah (Ah (Ab ?_));iterate 4 refine Aa O ?_
 refine Af (At O (fun hb2=>?_) (fun hb2=>?_))
 ·replace h:=Ai hb2 h;refine Ar (Ah (Aq (Ah (Bt (by kernel_rfl) (by kernel_rfl) ?_))));iterate 2 refine Bb tt O (Ag O) O O O Y ?_
  obtain ⟨hg3,h⟩:=Ac h;refine Bb tt O (Ag O) O O O hg3 ?_;iterate 3 refine Bb tt O (Ag O) O O O Y ?_
  obtain ⟨hg4,h⟩:=Ac h;refine Bb tt O (Ag O) O O O hg4 (Bb tt O (Ag O) O O O Y ?_);obtain ⟨v9,hc5,h⟩:=Ad h;refine Ta (Pt N (a_0.getD ((i7).toNat) []) (b_1.getD ((i7).toNat) []) v9 hc5) O (Ag O) O O O O O O ⟨O,O,Y⟩ (Bb tt O (Ag O) O O O Y (Km (At O (fun hb6=>?_) (fun hb6=>?_))))
  ·replace h:=Ai hb6 h;refine Ah (Ab (Aa O (Af (Ay ?_))));show ∃ _,_;cases h;exact ⟨[],_,O,Y,O,.eq O,O⟩
  replace h:=Aj hb6 h;refine Ar (Ab (Aa O ?_));obtain ⟨hg7,h⟩:=Ac h;refine Ae tt O hg7 (Aa O (Af ?_));show ∃ _,_;exact ⟨(i7+(1:Int)),(En.of ⟨O,O,O,Y⟩ trivial trivial),h⟩
 replace h:=Aj hb2 h;refine Br ?_;show ∃ _,_;exact ⟨(),(En.of trivial trivial trivial),h⟩
def Ez (N:Nat) (g_1:Grf) (l16:List (Int×Int)) (k:(List (Int×Int))→Option (Frm×Int×Int)):Nat→((List (Int×Int))×Int)→Option (Frm×Int×Int)
 | 0,_=>none
 | n+1,(l25,i26)=>
  cnd (decide (i26<(g_1.bars.length:Int))) (
   grd (0≤i26∧i26<(g_1.bars.length:Int)) <|
   grd (0≤((g_1.bars.getD ((i26).toNat) (0,0)).1)∧((g_1.bars.getD ((i26).toNat) (0,0)).1)<(l16.length:Int)) <|
   grd (0≤((g_1.bars.getD ((i26).toNat) (0,0)).2)∧((g_1.bars.getD ((i26).toNat) (0,0)).2)<(l16.length:Int)) <|
   cnd (!(((l16.getD (((g_1.bars.getD ((i26).toNat) (0,0)).1).toNat) (0,0)).1==(l16.getD (((g_1.bars.getD ((i26).toNat) (0,0)).2).toNat) (0,0)).1)&&((l16.getD (((g_1.bars.getD ((i26).toNat) (0,0)).1).toNat) (0,0)).2==(l16.getD (((g_1.bars.getD ((i26).toNat) (0,0)).2).toNat) (0,0)).2))) (
    cnd (i26==(0:Int)) (
     grd (l25.length+1≤4294967296) <|
     grd (Bg (i26+(1:Int))) <|
     Ez N g_1 l16 k n ((l25++([((g_1.bars.getD ((i26).toNat) (0,0)).1,(g_1.bars.getD ((i26).toNat) (0,0)).2)]:List (Int×Int))),(i26+(1:Int)))) (
     grd (Bg (i26-(1:Int))) <|
     grd (0≤(i26-(1:Int))∧(i26-(1:Int))<(g_1.bars.length:Int)) <|
     cnd (!(((g_1.bars.getD (((i26-(1:Int))).toNat) (0,0)).1==(g_1.bars.getD ((i26).toNat) (0,0)).1)&&((g_1.bars.getD (((i26-(1:Int))).toNat) (0,0)).2==(g_1.bars.getD ((i26).toNat) (0,0)).2))) (
      grd (l25.length+1≤4294967296) <|
      grd (Bg (i26+(1:Int))) <|
      Ez N g_1 l16 k n ((l25++([((g_1.bars.getD ((i26).toNat) (0,0)).1,(g_1.bars.getD ((i26).toNat) (0,0)).2)]:List (Int×Int))),(i26+(1:Int)))) (
      grd (Bg (i26+(1:Int))) <|
      Ez N g_1 l16 k n (l25,(i26+(1:Int)))))) (
    grd (Bg (i26+(1:Int))) <|
    Ez N g_1 l16 k n (l25,(i26+(1:Int))))) (
   k l25)
def Jm (N:Nat) (c_0:Cur) (g_1:Grf) (k:((List (Int×Int))×Int×Int)→Option (Frm×Int×Int)):Nat→((List (Int×Int))×Int×Int×Int)→Option (Frm×Int×Int)
 | 0,_=>none
 | n+1,(l35,i36,c37,c38)=>
  cnd (decide (i36<g_1.n)) (
   (Bk N (⟨c_0.b,c37,c38⟩:Cur) (5:Int)).bind fun v41=>
   (Bk N (⟨c_0.b,v41.2.1,v41.2.2⟩:Cur) (5:Int)).bind fun v42=>
   grd (l35.length+1≤4294967296) <|
   grd (Bg (i36+(1:Int))) <|
   Jm N c_0 g_1 k n ((l35++([(v41.1,v42.1)]:List (Int×Int))),(i36+(1:Int)),v42.2.1,v42.2.2)) (
   k (l35,c37,c38))
def Lf (N:Nat) (c_0:Cur) (g_1:Grf):Option (Frm×Int×Int):=
 Jm N c_0 g_1 (fun (x:(List (Int×Int))×Int×Int)=>
   match x with
   | (l16,c17,c18)=>
    Ez N g_1 l16 (fun (l22 : List (Int × Int)) =>
       some ((⟨⟨g_1.n,l22⟩,l16⟩:Frm),c17,c18)) N (([]:List (Int×Int)),(0:Int))) N (([]:List (Int×Int)),(0:Int),c_0.i,c_0.h)
theorem Qm (N:Nat) (c_0:Cur) (g_1:Grf) (r:Frm×Int×Int) (h:Lf N c_0 g_1=some r):MCall Tryz.prog 121 [.ptr 1000000 0,gD g_1] [900101,900102] [1000000] [(42,.pairs []),(95,.pairs [])] [(42,.pairs r.1.g.bars),(95,.pairs r.1.places)] [[.ro false (.bytes c_0.b),.int c_0.i,.int c_0.h]] [[.ro false (.bytes c_0.b),.int r.2.1,.int r.2.2]] (.agg [.int r.1.g.n,.row 900101 0 r.1.g.bars.length,.row 900102 0 r.1.places.length]):=by
 unfold Lf at h;refine Cy (TT:=TT) tt Tryz.func121 O O Tryz.ntmps121 (congrArg Array.toList Tryz.results121) O O O O O fun w0 O0=>(Ah (Ab (Lw O O O O O O O O O (Bq tt O O O O O O O O O (Af (Ah (Ab (Aa O (Aa O ?_)))))))));refine Cj tt (Ag O) O O O O (Gb (Ag O) (Ds Eu O O) O O (Gb (Ag O) (Ds Em O O) O O (Bq tt O O O O O O O O O (As tt O O O O O O O O O O O ⟨Y,Y,Y,Y⟩ (Af (Ah (Ah (Ab (Aa O ?_)))))))));refine Af (Cb (F:=fun k=>Jm N c_0 g_1 k) h (α:=(List (Int×Int))×Int×Int) (J:=fun | (l16,c17,c18)=>(⟨[(3,.ptr 3 0),(4,.ptr 4 0),(5,.ptr 5 0)],[(30,some (95,.pairs l16))],[(1000000,some [.ro false (.bytes c_0.b),.int c17,.int c18]),(3,some [.int g_1.n,.ro false (.pairs g_1.bars)]),(4,some [.int (0:Int),.nil,.nil]),(5,some [.int g_1.n,.nil,.row 30 0 l16.length])]⟩:PS)) ?_ ?_)
 ·rintro ⟨l16,c17,c18⟩ h;show VC _ _ _ (⟨[(3,.ptr 3 0),(4,.ptr 4 0),(5,.ptr 5 0)],[(30,some (95,.pairs l16))],[(1000000,some [.ro false (.bytes c_0.b),.int c17,.int c18]),(3,some [.int g_1.n,.ro false (.pairs g_1.bars)]),(4,some [.int (0:Int),.nil,.nil]),(5,some [.int g_1.n,.nil,.row 30 0 l16.length])]⟩:PS);refine Ah (Ah (Ab (Aa O (Af (Cb (F:=fun k=>Ez N g_1 l16 k) h (α:=List (Int×Int)) (J:=fun (l22:List (Int×Int))=>(⟨[(4,.ptr 4 0),(5,.ptr 5 0)],[(76,some (42,.pairs l22)),(30,some (95,.pairs l16))],[(1000000,some [.ro false (.bytes c_0.b),.int c17,.int c18]),(4,some [.int (0:Int),.nil,.nil]),(5,some [.int g_1.n,.row 76 0 l22.length,.row 30 0 l16.length])]⟩:PS)) ?_ ?_)))))
  ·rintro l22 h;show VC _ _ _ (⟨[(4,.ptr 4 0),(5,.ptr 5 0)],[(76,some (42,.pairs l22)),(30,some (95,.pairs l16))],[(1000000,some [.ro false (.bytes c_0.b),.int c17,.int c18]),(4,some [.int (0:Int),.nil,.nil]),(5,some [.int g_1.n,.row 76 0 l22.length,.row 30 0 l16.length])]⟩:PS);refine Ah (Ab (Aa O (As tt O O O O O O O O O O O ⟨Y,Y,Y,Y⟩ (Af (Ay ?_)))));show ∃ _,_;cases h;exact ⟨[76,30],O,⟨O,O,Y⟩,⟨O,Y⟩,O⟩
  intro k h;refine Aq (vNilB 5 1 76 42 (.pairs []) rfl rfl rfl rfl rfl (Bh (α:=(List (Int×Int))×Int) (fun | (l25,i26)=>(⟨[(3,.ptr 3 0),(4,.ptr 4 0),(5,.ptr 5 0),(8,.int i26)],[(76,some (42,.pairs l25)),(30,some (95,.pairs l16))],[(1000000,some [.ro false (.bytes c_0.b),.int c17,.int c18]),(3,some [.int g_1.n,.ro false (.pairs g_1.bars)]),(4,some [.int (0:Int),.nil,.nil]),(5,some [.int g_1.n,.row 76 0 l25.length,.row 30 0 l16.length])]⟩:PS)) (Ez N g_1 l16 k) h (En.of ⟨rfl,rfl,rfl,rfl,Y⟩ ⟨rfl,rfl,Y⟩ ⟨rfl,rfl,rfl,rfl,Y⟩) (fun _=>rfl) ?_));rintro n ⟨l25,i26⟩ h;rw [Ez] at h;show VC _ _ _ (⟨[(3,.ptr 3 0),(4,.ptr 4 0),(5,.ptr 5 0),(8,.int i26)],[(76,some (42,.pairs l25)),(30,some (95,.pairs l16))],[(1000000,some [.ro false (.bytes c_0.b),.int c17,.int c18]),(3,some [.int g_1.n,.ro false (.pairs g_1.bars)]),(4,some [.int (0:Int),.nil,.nil]),(5,some [.int g_1.n,.row 76 0 l25.length,.row 30 0 l16.length])]⟩:PS);refine Ah (Ah (Ab ?_));iterate 5 refine Aa O ?_
  refine Af (At O (fun hb1=>?_) (fun hb1=>?_))
  ·replace h:=Ai hb1 h;refine Ar (Ah (Aq (Ah (Ab (Aa O (Aa O (Aa O ?_)))))));obtain ⟨hg2,h⟩:=Ac h;refine Ae tt O hg2 (Aa O (Bq tt O O O O O O O O O (As tt O O O O O O O O O O O ⟨Y,Y,Y⟩ (Af (Ah (Bt (by kernel_rfl) (by kernel_rfl) ?_))))));iterate 4 refine Bb tt O (Ag O) O O O Y ?_
   obtain ⟨hg3,h⟩:=Ac h;iterate 2 refine Bb tt O (Ag O) O O O hg3 ?_
   iterate 4 refine Bb tt O (Ag O) O O O Y ?_
   obtain ⟨hg4,h⟩:=Ac h;iterate 2 refine Bb tt O (Ag O) O O O hg4 ?_
   refine Pb (Ag O) (pNeP Cd O O O) O O (Bb tt O (Ag O) O O O Y (Gg O O O (fun hb5=>?_) (fun hb5=>?_)))
   ·replace h:=Ai hb5 h;iterate 3 refine Bb tt O (Aw O O O O hb5) O O O Y ?_
    refine Gg O O O (fun hb6=>?_) (fun hb6=>?_)
    ·replace h:=Ai hb6 h;iterate 8 refine Sy O O O O hb6 O O ?_
     refine Eh O (Aw O O O O hb5) O O O hb6 O (Eh O (Ag O) O O O hb5 O (Km (Bo O O (Ab ?_))));iterate 4 refine Aa O ?_
     refine Dr tt O O O O O O O O O O O ?_;obtain ⟨hg7,h⟩:=Ac h;refine Cn tt O O O O O O O O O O O O O O O O (Nat.le_of_eq (Nat.zero_add _)) hg7 (Aa O (Aa O (As tt O O O O O O O O O O O ⟨Y,Y⟩ (Af (Ab (Aa O ?_))))));obtain ⟨hg8,h⟩:=Ac h;refine Ae tt O hg8 (Aa O (Af ?_));show ∃ _,_;exact ⟨((l25++([((g_1.bars.getD ((i26).toNat) (0,0)).1,(g_1.bars.getD ((i26).toNat) (0,0)).2)]:List (Int×Int))),(i26+(1:Int))),(En.of ⟨O,O,O,O,Y⟩ ⟨O,O,Y⟩ ⟨O,O,O,O,Y⟩),h⟩
    replace h:=Aj hb6 h;iterate 3 refine Bb tt O (Aw O O O O hb6) O O O Y ?_
    obtain ⟨hg9,h⟩:=Ac h;refine Bb tt O (Aw O O O O hb6) O O O hg9 ?_;obtain ⟨hg10,h⟩:=Ac h;refine Bb tt O (Aw O O O O hb6) O O O hg10 ?_;iterate 2 refine Bb tt O (Aw O O O O hb6) O O O Y ?_
    refine Pb (Aw O O O O hb6) (pNeP Lp O O O) O O (Eo O (Aw O O O O hb5) O O O hb6 O (Eh O (Ag O) O O O hb5 O (Km (At O (fun hb11=>?_) (fun hb11=>?_)))))
    ·replace h:=Ai hb11 h;refine Ab ?_;iterate 4 refine Aa O ?_
     refine Dr tt O O O O O O O O O O O ?_;obtain ⟨hg12,h⟩:=Ac h;refine Cn tt O O O O O O O O O O O O O O O O (Nat.le_of_eq (Nat.zero_add _)) hg12 (Aa O (Aa O (As tt O O O O O O O O O O O ⟨Y,Y⟩ (Af (Ab (Aa O ?_))))));obtain ⟨hg13,h⟩:=Ac h;refine Ae tt O hg13 (Aa O (Af ?_));show ∃ _,_;exact ⟨((l25++([((g_1.bars.getD ((i26).toNat) (0,0)).1,(g_1.bars.getD ((i26).toNat) (0,0)).2)]:List (Int×Int))),(i26+(1:Int))),(En.of ⟨O,O,O,O,Y⟩ ⟨O,O,Y⟩ ⟨O,O,O,O,Y⟩),h⟩
    replace h:=Aj hb11 h;refine Ar (Ab (Aa O ?_));obtain ⟨hg14,h⟩:=Ac h;refine Ae tt O hg14 (Aa O (Af ?_));show ∃ _,_;exact ⟨(l25,(i26+(1:Int))),(En.of ⟨O,O,O,O,Y⟩ ⟨O,O,Y⟩ ⟨O,O,O,O,Y⟩),h⟩
   replace h:=Aj hb5 h;iterate 3 refine cNoT O O O O hb5 O O ?_
   iterate 8 refine cNoU O O O O O ?_
   refine cNoT O O O O hb5 O O (Eo O (Ag O) O O O hb5 O (Km (Gx O O (Ar (Ab (Aa O ?_))))));obtain ⟨hg15,h⟩:=Ac h;refine Ae tt O hg15 (Aa O (Af ?_));show ∃ _,_;exact ⟨(l25,(i26+(1:Int))),(En.of ⟨O,O,O,O,Y⟩ ⟨O,O,Y⟩ ⟨O,O,O,O,Y⟩),h⟩
  replace h:=Aj hb1 h;refine Br ?_;show ∃ _,_;exact ⟨l25,(En.of ⟨O,O,Y⟩ ⟨O,O,Y⟩ ⟨O,O,O,Y⟩),h⟩
 intro k h;refine Aq (vNilB 5 2 30 95 (.pairs []) rfl rfl rfl rfl rfl (Bh (α:=(List (Int×Int))×Int×Int×Int) (fun | (l35,i36,c37,c38)=>(⟨[(0,.ptr 1000000 0),(3,.ptr 3 0),(4,.ptr 4 0),(5,.ptr 5 0),(6,.int i36)],[(30,some (95,.pairs l35))],[(1000000,some [.ro false (.bytes c_0.b),.int c37,.int c38]),(3,some [.int g_1.n,.ro false (.pairs g_1.bars)]),(4,some [.int (0:Int),.nil,.nil]),(5,some [.int g_1.n,.nil,.row 30 0 l35.length])]⟩:PS)) (Jm N c_0 g_1 k) h (En.of ⟨rfl,rfl,rfl,rfl,rfl,Y⟩ ⟨rfl,Y⟩ ⟨rfl,rfl,rfl,rfl,Y⟩) (fun _=>rfl) ?_));rintro n ⟨l35,i36,c37,c38⟩ h;rw [Jm] at h;show VC _ _ _ (⟨[(0,.ptr 1000000 0),(3,.ptr 3 0),(4,.ptr 4 0),(5,.ptr 5 0),(6,.int i36)],[(30,some (95,.pairs l35))],[(1000000,some [.ro false (.bytes c_0.b),.int c37,.int c38]),(3,some [.int g_1.n,.ro false (.pairs g_1.bars)]),(4,some [.int (0:Int),.nil,.nil]),(5,some [.int g_1.n,.nil,.row 30 0 l35.length])]⟩:PS);refine Ah (Ah (Ab ?_));iterate 4 refine Aa O ?_
 refine Af (At O (fun hb16=>?_) (fun hb16=>?_))
 ·replace h:=Ai hb16 h;refine Ar (Ah (Aq (Ah (Ab (Aa O ?_)))));obtain ⟨v41,hc17,h⟩:=Ad h;refine Bs (Bc N (⟨c_0.b,c37,c38⟩:Cur) (5:Int) v41 hc17) [] [1000000] [] O O O O O O Y ⟨O,Y⟩ ⟨⟨O,O⟩,⟨O,O⟩,Y⟩ (Aa O (Af (Df 7 [4,6,1041000000] [0,1,0,0,8,28,60,127,255,511] (by kernel_rfl) (by kernel_rfl) (by kernel_rfl) (by kernel_rfl) (by kernel_rfl) O (by rfl) ?_)));iterate 4 refine Ei tt O (Ag O) O O O O O Y ?_
  obtain ⟨v42,hc18,h⟩:=Ad h;refine nMCall (rids:=[]) (bids:=[]) (pids:=[]) (Ag rfl) (Bc N (⟨c_0.b,v41.2.1,v41.2.2⟩:Cur) (5:Int) v42 hc18) [] [1000000] [] rfl rfl rfl rfl rfl (by first | rfl | kernel_rfl) rfl rfl rfl rfl rfl (by first | rfl | kernel_rfl)  trivial ⟨rfl,Y⟩ ⟨⟨rfl,rfl⟩,⟨rfl,rfl⟩,Y⟩ (nPure (Ag rfl) (Ds Fz rfl rfl) rfl rfl rfl rfl (nBuild tt (Ag rfl) rfl rfl rfl rfl rfl rfl rfl rfl rfl rfl rfl rfl (Tp ?_)));show VO _ _ _ _ _;obtain ⟨hg19,h⟩:=Ac h;refine Cn tt O O O O O O O O O O O O O O O O (Nat.le_of_eq (Nat.zero_add _)) hg19 (Aa O (As tt O O O O O O O O O O O ⟨Y,Y⟩ (Af (Ab (Aa O ?_)))));obtain ⟨hg20,h⟩:=Ac h;refine Ae tt O hg20 (Aa O (Af ?_));show ∃ _,_;exact ⟨((l35++([(v41.1,v42.1)]:List (Int×Int))),(i36+(1:Int)),v42.2.1,v42.2.2),(En.of ⟨O,O,O,O,O,Y⟩ ⟨O,Y⟩ ⟨O,O,O,O,Y⟩),h⟩
 replace h:=Aj hb16 h;refine Br ?_;show ∃ _,_;exact ⟨(l35,c37,c38),(En.of ⟨O,O,O,Y⟩ ⟨O,Y⟩ ⟨O,O,O,O,Y⟩),h⟩
def Dw (N:Nat) (c_0:Cur) (n_1:Int) (odd_2:Int) (a140:Int) (k:((List (Int×Int))×Int×Int)→Option (Grf×Int×Int)):Nat→((List (Int×Int))×Int×Int×Int)→Option (Grf×Int×Int)
 | 0,_=>none
 | n+1,(l173,b174,c175,c176)=>
  cnd (decide (b174<n_1)) (
   (Bk N (⟨c_0.b,c175,c176⟩:Cur) (10:Int)).bind fun v178=>
   cnd (decide (v178.1<odd_2)) (
    cnd (decide ((l173.length:Int)<(24:Int))) (
     grd (l173.length+1≤4294967296) <|
     grd (Bg (b174+(1:Int))) <|
     Dw N c_0 n_1 odd_2 a140 k n ((l173++([(a140,b174)]:List (Int×Int))),(b174+(1:Int)),v178.2.1,v178.2.2)) (
     grd (Bg (b174+(1:Int))) <|
     Dw N c_0 n_1 odd_2 a140 k n (l173,(b174+(1:Int)),v178.2.1,v178.2.2))) (
    grd (Bg (b174+(1:Int))) <|
    Dw N c_0 n_1 odd_2 a140 k n (l173,(b174+(1:Int)),v178.2.1,v178.2.2))) (
   k (l173,c175,c176))
def Fk (N:Nat) (c_0:Cur) (n_1:Int) (odd_2:Int) (k:((List (Int×Int))×Int×Int)→Option (Grf×Int×Int)):Nat→((List (Int×Int))×Int×Int×Int)→Option (Grf×Int×Int)
 | 0,_=>none
 | n+1,(l139,a140,c141,c142)=>
  cnd (decide (a140<n_1)) (
   grd (Bg (a140+(1:Int))) <|
   Dw N c_0 n_1 odd_2 a140 (fun (x:(List (Int×Int))×Int×Int)=>
     match x with
     | (l168,c169,c170)=>
      Fk N c_0 n_1 odd_2 k n (l168,(a140+(1:Int)),c169,c170)) N (l139,(a140+(1:Int)),c141,c142)) (
   k (l139,c141,c142))
def Md (N:Nat) (c_0:Cur) (n_1:Int) (odd_2:Int):Option (Grf×Int×Int):=
 Fk N c_0 n_1 odd_2 (fun (x:(List (Int×Int))×Int×Int)=>
   match x with
   | (l88,c89,c90)=>
    some ((⟨n_1,l88⟩:Grf),c89,c90)) N (([]:List (Int×Int)),(0:Int),c_0.i,c_0.h)
theorem S_l2Simple_w (N:Nat) (c_0:Cur) (n_1:Int) (odd_2:Int) (r:Grf×Int×Int) (h:Md N c_0 n_1 odd_2=some r):MCall Tryz.prog 66 [.ptr 1000000 0,.int n_1,.int odd_2] [900101] [1000000] [(42,.pairs [])] [(42,.pairs r.1.bars)] [[.ro false (.bytes c_0.b),.int c_0.i,.int c_0.h]] [[.ro false (.bytes c_0.b),.int r.2.1,.int r.2.2]] (.agg [.int r.1.n,.row 900101 0 r.1.bars.length]):=by
 unfold Md at h;refine Cy (TT:=TT) tt Tryz.func66 O O Tryz.ntmps66 (congrArg Array.toList Tryz.results66) O O O O O fun w0 O0=>(Ah (Ab (Bq tt O O O O O O O O O (Af (Ah (Ab (Aa O (Cj tt (Ag O) O O O O (Gb (Ag O) (Ds Eu O O) O O ?_)))))))));refine Bq tt rfl rfl rfl rfl rfl rfl rfl rfl rfl (As tt rfl rfl rfl rfl rfl rfl rfl rfl rfl rfl rfl ⟨Y,Y,Y⟩ (Af (Ah (Ah (Ab (Aa rfl (Af (Cb (F:=fun k=>Fk N c_0 n_1 odd_2 k) h (α:=(List (Int×Int))×Int×Int) (J:=fun | (l88,c89,c90)=>(⟨[(6,.ptr 6 0),(7,.ptr 7 0)],[(41,some (42,.pairs l88))],[(1000000,some [.ro false (.bytes c_0.b),.int c89,.int c90]),(6,some [.int (0:Int),.nil]),(7,some [.int n_1,.row 41 0 l88.length])]⟩:PS)) ?_ ?_))))))))
 ·rintro ⟨l88,c89,c90⟩ h;show VC _ _ _ (⟨[(6,.ptr 6 0),(7,.ptr 7 0)],[(41,some (42,.pairs l88))],[(1000000,some [.ro false (.bytes c_0.b),.int c89,.int c90]),(6,some [.int (0:Int),.nil]),(7,some [.int n_1,.row 41 0 l88.length])]⟩:PS);refine Ah (Ab (Aa O (As tt O O O O O O O O O O O ⟨Y,Y,Y⟩ (Af (Ay ?_)))));show ∃ _,_;cases h;exact ⟨[41],O,⟨O,Y⟩,⟨O,Y⟩,O⟩
 intro k h;refine Aq (vNilB 7 1 41 42 (.pairs []) rfl rfl rfl rfl rfl (Bh (α:=(List (Int×Int))×Int×Int×Int) (fun | (l139,a140,c141,c142)=>(⟨[(0,.ptr 1000000 0),(1,.int n_1),(2,.int odd_2),(6,.ptr 6 0),(7,.ptr 7 0),(8,.int a140)],[(41,some (42,.pairs l139))],[(1000000,some [.ro false (.bytes c_0.b),.int c141,.int c142]),(6,some [.int (0:Int),.nil]),(7,some [.int n_1,.row 41 0 l139.length])]⟩:PS)) (Fk N c_0 n_1 odd_2 k) h (En.of ⟨rfl,rfl,rfl,rfl,rfl,rfl,Y⟩ ⟨rfl,Y⟩ ⟨rfl,rfl,rfl,Y⟩) (fun _=>rfl) ?_));rintro n ⟨l139,a140,c141,c142⟩ h;rw [Fk] at h;show VC _ _ _ (⟨[(0,.ptr 1000000 0),(1,.int n_1),(2,.int odd_2),(6,.ptr 6 0),(7,.ptr 7 0),(8,.int a140)],[(41,some (42,.pairs l139))],[(1000000,some [.ro false (.bytes c_0.b),.int c141,.int c142]),(6,some [.int (0:Int),.nil]),(7,some [.int n_1,.row 41 0 l139.length])]⟩:PS);refine Ah (Ah (Ab (Aa O (Aa O (Aa O (Af (At O (fun hb1=>?_) (fun hb1=>?_))))))))
 ·replace h:=Ai hb1 h;refine Ar (Ah (Aq (Ah (Ab (Aa O ?_)))));obtain ⟨hg2,h⟩:=Ac h;refine Ae tt rfl hg2 (Aa rfl (Af (Cb (F:=fun k=>Dw N c_0 n_1 odd_2 a140 k) h (α:=(List (Int×Int))×Int×Int) (J:=fun | (l168,c169,c170)=>(⟨[(0,.ptr 1000000 0),(1,.int n_1),(2,.int odd_2),(6,.ptr 6 0),(7,.ptr 7 0),(8,.int a140)],[(41,some (42,.pairs l168))],[(1000000,some [.ro false (.bytes c_0.b),.int c169,.int c170]),(6,some [.int (0:Int),.nil]),(7,some [.int n_1,.row 41 0 l168.length])]⟩:PS)) ?_ ?_)))
  ·rintro ⟨l168,c169,c170⟩ h;show VC _ _ _ (⟨[(0,.ptr 1000000 0),(1,.int n_1),(2,.int odd_2),(6,.ptr 6 0),(7,.ptr 7 0),(8,.int a140)],[(41,some (42,.pairs l168))],[(1000000,some [.ro false (.bytes c_0.b),.int c169,.int c170]),(6,some [.int (0:Int),.nil]),(7,some [.int n_1,.row 41 0 l168.length])]⟩:PS);refine Ab (Aa O (Ae tt O hg2 (Aa O (Af ?_))));show ∃ _,_;exact ⟨(l168,(a140+(1:Int)),c169,c170),(En.of ⟨O,O,O,O,O,O,Y⟩ ⟨O,Y⟩ ⟨O,O,O,Y⟩),h⟩
  intro k h;refine Aq (Bh (α:=(List (Int×Int))×Int×Int×Int) (fun | (l173,b174,c175,c176)=>(⟨[(0,.ptr 1000000 0),(1,.int n_1),(2,.int odd_2),(6,.ptr 6 0),(7,.ptr 7 0),(8,.int a140),(9,.int b174)],[(41,some (42,.pairs l173))],[(1000000,some [.ro false (.bytes c_0.b),.int c175,.int c176]),(6,some [.int (0:Int),.nil]),(7,some [.int n_1,.row 41 0 l173.length])]⟩:PS)) (Dw N c_0 n_1 odd_2 a140 k) h (En.of ⟨rfl,rfl,rfl,rfl,rfl,rfl,rfl,Y⟩ ⟨rfl,Y⟩ ⟨rfl,rfl,rfl,Y⟩) (fun _=>rfl) ?_);rintro n ⟨l173,b174,c175,c176⟩ h;rw [Dw] at h;show VC _ _ _ (⟨[(0,.ptr 1000000 0),(1,.int n_1),(2,.int odd_2),(6,.ptr 6 0),(7,.ptr 7 0),(8,.int a140),(9,.int b174)],[(41,some (42,.pairs l173))],[(1000000,some [.ro false (.bytes c_0.b),.int c175,.int c176]),(6,some [.int (0:Int),.nil]),(7,some [.int n_1,.row 41 0 l173.length])]⟩:PS);refine Ah (Ah (Ab (Aa O (Aa O (Aa O (Af (At O (fun hb3=>?_) (fun hb3=>?_))))))))
  ·replace h:=Ai hb3 h;refine Ar (Ah (Aq (Ah (Ab (Aa O ?_)))));obtain ⟨v178,hc4,h⟩:=Ad h;refine Bs (Bc N (⟨c_0.b,c175,c176⟩:Cur) (10:Int) v178 hc4) [] [1000000] [] O O O O O O Y ⟨O,Y⟩ ⟨⟨O,O⟩,⟨O,O⟩,Y⟩ (Aa O (Aa O (Aa O (Bi O O O (fun hb5=>?_) (fun hb5=>?_)))))
   ·replace h:=Ai hb5 h;iterate 4 refine Bj tt O O O O O hb5 O O O Y ?_
    refine Bd O O O O O hb5 O (Af (At O (fun hb6=>?_) (fun hb6=>?_)))
    ·replace h:=Ai hb6 h;refine Ab ?_;iterate 4 refine Aa O ?_
     refine Gb (Ag O) (Ds Db O O) O O (Dr tt O O O O O O O O O O O ?_);obtain ⟨hg7,h⟩:=Ac h;refine Cn tt O O O O O O O O O O O O O O O O (Nat.le_of_eq (Nat.zero_add _)) hg7 (Aa O (As tt O O O O O O O O O O O ⟨Y,Y⟩ (Af (Ab (Aa O ?_)))));obtain ⟨hg8,h⟩:=Ac h;refine Ae tt O hg8 (Aa O (Af ?_));show ∃ _,_;exact ⟨((l173++([(a140,b174)]:List (Int×Int))),(b174+(1:Int)),v178.2.1,v178.2.2),(En.of ⟨O,O,O,O,O,O,O,Y⟩ ⟨O,Y⟩ ⟨O,O,O,Y⟩),h⟩
    replace h:=Aj hb6 h;refine Ar (Ab (Aa O ?_));obtain ⟨hg9,h⟩:=Ac h;refine Ae tt O hg9 (Aa O (Af ?_));show ∃ _,_;exact ⟨(l173,(b174+(1:Int)),v178.2.1,v178.2.2),(En.of ⟨O,O,O,O,O,O,O,Y⟩ ⟨O,Y⟩ ⟨O,O,O,Y⟩),h⟩
   replace h:=Aj hb5 h;iterate 4 refine Qv O O O O hb5 O O ?_
   refine Az O O O O O hb5 O (Af (Gx O O (Ar (Ab (Aa O ?_)))));obtain ⟨hg10,h⟩:=Ac h;refine Ae tt O hg10 (Aa O (Af ?_));show ∃ _,_;exact ⟨(l173,(b174+(1:Int)),v178.2.1,v178.2.2),(En.of ⟨O,O,O,O,O,O,O,Y⟩ ⟨O,Y⟩ ⟨O,O,O,Y⟩),h⟩
  replace h:=Aj hb3 h;refine Br ?_;show ∃ _,_;exact ⟨(l173,c175,c176),(En.of ⟨O,O,O,O,O,O,Y⟩ ⟨O,Y⟩ ⟨O,O,O,Y⟩),h⟩
 replace h:=Aj hb1 h;refine Br ?_;show ∃ _,_;exact ⟨(l139,c141,c142),(En.of ⟨O,O,Y⟩ ⟨O,Y⟩ ⟨O,O,O,Y⟩),h⟩
end
section
open Go.RowKit
def Mh (N:Nat) (c_0:Cur) (n_1:Int) (x_2:Int×Int) (other_3:Int):Option (Int×Int×Int):=
 (Bk N c_0 n_1).bind fun v1=>
 cnd (v1.1==x_2.1) (
  some (other_3,v1.2.1,v1.2.2)) (
  cnd (v1.1==x_2.2) (
   some (other_3,v1.2.1,v1.2.2)) (
   some (v1.1,v1.2.1,v1.2.2)))
theorem S_l6Third_w (N:Nat) (c_0:Cur) (n_1:Int) (x_2:Int×Int) (other_3:Int) (r:Int×Int×Int) (h:Mh N c_0 n_1 x_2 other_3=some r):MCall Tryz.prog 151 [.ptr 1000000 0,.int n_1,.agg [.int x_2.1,.int x_2.2],.int other_3] [] [1000000] [] [] [[.ro false (.bytes c_0.b),.int c_0.i,.int c_0.h]] [[.ro false (.bytes c_0.b),.int r.2.1,.int r.2.2]] (.int r.1):=by
 unfold Mh at h;refine Cy (TT:=TT) tt Tryz.func151 O O Tryz.ntmps151 (congrArg Array.toList Tryz.results151) O O O O O fun w0 O0=>(Ah (Ab (Lw O O O O O O O O O (Aa O (Af (Ah (Ab (Aa O (Aa O ?_)))))))));obtain ⟨v1,hc1,h⟩:=Ad h;refine Bs (Bc N c_0 n_1 v1 hc1) [] [1000000] [] O O O O O O Y ⟨O,Y⟩ ⟨⟨O,O⟩,⟨O,O⟩,Y⟩ (Aa O (Af (Ah (Ah (Ab ?_)))));iterate 5 refine Aa O ?_
 refine Bi O O O (fun hb2=>?_) (fun hb2=>?_)
 ·replace h:=Ai hb2 h;iterate 4 refine Fd O O O O hb2 O O ?_
  refine Bd O O O O O hb2 O (Af (Bo O O (Ah (Ab (Aa O (Aa O (Af (Ay ?_))))))));show ∃ _,_;cases h;exact ⟨[],O,Y,⟨O,Y⟩,O⟩
 replace h:=Aj hb2 h;iterate 4 refine Bj tt O O O O O hb2 O O O Y ?_
 refine Az O O O O O hb2 O (Af (At O (fun hb3=>?_) (fun hb3=>?_)))
 ·replace h:=Ai hb3 h;refine Ah (Ab (Aa O (Aa O (Af (Ay ?_)))));show ∃ _,_;cases h;exact ⟨[],O,Y,⟨O,Y⟩,O⟩
 replace h:=Aj hb3 h;refine Ar (Ah (Ab (Aa O (Aa O (Af (Ay ?_))))));show ∃ _,_;cases h;exact ⟨[],O,Y,⟨O,Y⟩,O⟩
def Fh (N:Nat) (l80:List (Int×Int)) (v105:Int×Int×Int) (k:Int→Option (Grf×Int×Int)):Nat→Int→Option (Grf×Int×Int)
 | 0,_=>none
 | n+1,w114=>
  cnd (w114==((l80.getD ((v105.1).toNat) (0,0)).1)) (
   grd (Bg (w114+(1:Int))) <|
   Fh N l80 v105 k n (w114+(1:Int))) (
   cnd (w114==((l80.getD ((v105.1).toNat) (0,0)).2)) (
    grd (Bg (w114+(1:Int))) <|
    Fh N l80 v105 k n (w114+(1:Int))) (
    k w114))
def Da (N:Nat) (c_0:Cur) (n_1:Int) (k:((List (Int×Int))×Int×Int×Int)→Option (Grf×Int×Int)):Nat→((List (Int×Int))×Int×Int×Int×Int)→Option (Grf×Int×Int)
 | 0,_=>none
 | n+1,(l80,v81,c82,c83,c84)=>
  cnd (decide (v81<n_1)) (
   (Bk N (⟨c_0.b,c82,c83⟩:Cur) v81).bind fun v102=>
   grd (Bg (v102.1+(1:Int))) <|
   grd (Bg (v81-(1:Int))) <|
   (Bk N (⟨c_0.b,v102.2.1,v102.2.2⟩:Cur) (v81-(1:Int))).bind fun v103=>
   grd (Bg ((v102.1+(1:Int))+v103.1)) <|
   grd (v81≠0) <|
   (Sb N (⟨c_0.b,v103.2.1,v103.2.2⟩:Cur) (2:Int)).bind fun v104=>
   cnd v104.1 (
    cnd (decide (v81 > (2:Int))) (
     (Bk N (⟨c_0.b,v104.2.1,v104.2.2⟩:Cur) (l80.length:Int)).bind fun v105=>
     grd (0≤v105.1∧v105.1<(l80.length:Int)) <|
     Fh N l80 v105 (fun (w107 : Int) =>
        (Mh N (⟨c_0.b,v105.2.1,v105.2.2⟩:Cur) v81 ((l80.getD ((v105.1).toNat) (0,0)).1,(l80.getD ((v105.1).toNat) (0,0)).2) w107).bind fun v108=>
        (Hl N (⟨c84,l80⟩:Grf) v105.1).bind fun v109=>
        (Fl N v109.1 ((l80.getD ((v105.1).toNat) (0,0)).1,v81)).bind fun v110=>
        (Fl N v110 ((l80.getD ((v105.1).toNat) (0,0)).2,v81)).bind fun v111=>
        (Fl N v111 (v108.1,v81)).bind fun v112=>
        grd (Bg (v81+(1:Int))) <|
        Da N c_0 n_1 k n (v112.bars,(v81+(1:Int)),v108.2.1,v108.2.2,v112.n)) N (0:Int)) (
     (Fl N (⟨c84,l80⟩:Grf) (v102.1,v81)).bind fun v115=>
     (Fl N v115 ((Int.tmod ((v102.1+(1:Int))+v103.1) v81),v81)).bind fun v116=>
     grd (Bg (v81+(1:Int))) <|
     Da N c_0 n_1 k n (v116.bars,(v81+(1:Int)),v104.2.1,v104.2.2,v116.n))) (
    (Fl N (⟨c84,l80⟩:Grf) (v102.1,v81)).bind fun v117=>
    (Fl N v117 ((Int.tmod ((v102.1+(1:Int))+v103.1) v81),v81)).bind fun v118=>
    grd (Bg (v81+(1:Int))) <|
    Da N c_0 n_1 k n (v118.bars,(v81+(1:Int)),v104.2.1,v104.2.2,v118.n))) (
   k (l80,c82,c83,c84))
def Kd (N:Nat) (c_0:Cur) (n_1:Int):Option (Grf×Int×Int):=
 cnd (decide (n_1<(2:Int))) (
  some ((⟨n_1,([]:List (Int×Int))⟩:Grf),c_0.i,c_0.h)) (
  (Fl N (⟨n_1,([]:List (Int×Int))⟩:Grf) ((0:Int),(1:Int))).bind fun v1=>
  Da N c_0 n_1 (fun (x:(List (Int×Int))×Int×Int×Int)=>
    match x with
    | (l58,c59,c60,c61)=>
     some ((⟨c61,l58⟩:Grf),c59,c60)) N (v1.bars,(2:Int),c_0.i,c_0.h,v1.n))
theorem Pd (N:Nat) (c_0:Cur) (n_1:Int) (r:Grf×Int×Int) (h:Kd N c_0 n_1=some r):MCall Tryz.prog 120 [.ptr 1000000 0,.int n_1] [900101] [1000000] [(42,.pairs [])] [(42,.pairs r.1.bars)] [[.ro false (.bytes c_0.b),.int c_0.i,.int c_0.h]] [[.ro false (.bytes c_0.b),.int r.2.1,.int r.2.2]] (.agg [.int r.1.n,.row 900101 0 r.1.bars.length]):=by
 unfold Kd at h;refine Cy (TT:=TT) tt Tryz.func120 O O Tryz.ntmps120 (congrArg Array.toList Tryz.results120) O O O O O fun w0 O0=>(Ah (Ab (Bq tt O O O O O O O O O (Af (Ah (Ab (Aa O (Cj tt (Ag O) O O O O (Gb (Ag O) (Ds Eu O O) O O ?_)))))))));refine Bq tt O O O O O O O O O (As tt O O O O O O O O O O O ⟨Y,Y,Y⟩ (Af (Ah (Ah (Ab (Aa O (Aa O (Af (At O (fun hb1=>?_) (fun hb1=>?_))))))))))
 ·replace h:=Ai hb1 h;refine Ah (Ab (Aa O (As tt O O O O O O O O O O O ⟨Y,Y,Y⟩ (Af (vNilB 4 1 9001 42 (.pairs []) O O O O O (Ay ?_))))));show ∃ _,_;cases h;exact ⟨[9001],O,⟨O,Y⟩,⟨O,Y⟩,O⟩
 replace h:=Aj hb1 h;refine Ar (Ah (Ab (Aa O (Gb (Ag O) (Ds Db O O) O O ?_))));obtain ⟨v1,hc2,h⟩:=Ad h;refine Bn (Hz N (⟨n_1,([]:List (Int×Int))⟩:Grf) ((0:Int),(1:Int)) v1 hc2) rfl rfl rfl rfl rfl rfl rfl rfl ⟨⟨rfl,rfl,Y⟩,⟨rfl,rfl,Y⟩,Y⟩ (As tt rfl rfl rfl rfl rfl rfl rfl rfl rfl rfl rfl ⟨Y,Y,Y⟩ (Af (Ah (Ah (Ab (Aa rfl (Af (Cb (F:=fun k=>Da N c_0 n_1 k) h (α:=(List (Int×Int))×Int×Int×Int) (J:=fun | (l58,c59,c60,c61)=>(⟨[(4,.ptr 4 0),(5,.ptr 5 0)],[(1200,some (42,.pairs l58))],[(1000000,some [.ro false (.bytes c_0.b),.int c59,.int c60]),(4,some [.int (0:Int),.nil]),(5,some [.int c61,.row 1200 0 l58.length])]⟩:PS)) ?_ ?_))))))))
 ·rintro ⟨l58,c59,c60,c61⟩ h;show VC _ _ _ (⟨[(4,.ptr 4 0),(5,.ptr 5 0)],[(1200,some (42,.pairs l58))],[(1000000,some [.ro false (.bytes c_0.b),.int c59,.int c60]),(4,some [.int (0:Int),.nil]),(5,some [.int c61,.row 1200 0 l58.length])]⟩:PS);refine Ah (Ab (Aa O (As tt O O O O O O O O O O O ⟨Y,Y,Y⟩ (Af (Ay ?_)))));show ∃ _,_;cases h;exact ⟨[1200],O,⟨O,Y⟩,⟨O,Y⟩,O⟩
 intro k h;refine Aq (Bh (α:=(List (Int×Int))×Int×Int×Int×Int) (fun | (l80,v81,c82,c83,c84)=>(⟨[(0,.ptr 1000000 0),(1,.int n_1),(4,.ptr 4 0),(5,.ptr 5 0),(6,.int v81)],[(1200,some (42,.pairs l80))],[(1000000,some [.ro false (.bytes c_0.b),.int c82,.int c83]),(4,some [.int (0:Int),.nil]),(5,some [.int c84,.row 1200 0 l80.length])]⟩:PS)) (Da N c_0 n_1 k) h (En.of ⟨rfl,rfl,rfl,rfl,rfl,Y⟩ ⟨rfl,Y⟩ ⟨rfl,rfl,rfl,Y⟩) (fun _=>rfl) ?_);rintro n ⟨l80,v81,c82,c83,c84⟩ h;rw [Da] at h;show VC _ _ _ (⟨[(0,.ptr 1000000 0),(1,.int n_1),(4,.ptr 4 0),(5,.ptr 5 0),(6,.int v81)],[(1200,some (42,.pairs l80))],[(1000000,some [.ro false (.bytes c_0.b),.int c82,.int c83]),(4,some [.int (0:Int),.nil]),(5,some [.int c84,.row 1200 0 l80.length])]⟩:PS);refine Ah (Ah (Ab (Aa O (Aa O (Aa O (Af (At O (fun hb3=>?_) (fun hb3=>?_))))))))
 ·replace h:=Ai hb3 h;refine Ar (Ah (Aq (Ah (Ab (Aa O (Aa O ?_))))));obtain ⟨v102,hc4,h⟩:=Ad h;refine Bs (Bc N (⟨c_0.b,c82,c83⟩:Cur) v81 v102 hc4) [] [1000000] [] O O O O O O Y ⟨O,Y⟩ ⟨⟨O,O⟩,⟨O,O⟩,Y⟩ (Aa O (Af (Ah (Ab (Aa O ?_)))));obtain ⟨hg5,h⟩:=Ac h;refine Ae tt O hg5 (Aa O (Aa O ?_));obtain ⟨hg6,h⟩:=Ac h;refine Ae tt O hg6 ?_;obtain ⟨v103,hc7,h⟩:=Ad h;refine Bs (Bc N (⟨c_0.b,v102.2.1,v102.2.2⟩:Cur) (v81-(1:Int)) v103 hc7) [] [1000000] [] O O O O O O Y ⟨O,Y⟩ ⟨⟨O,O⟩,⟨O,O⟩,Y⟩ ?_;obtain ⟨hg8,h⟩:=Ac h;refine Ae tt O hg8 (Aa O ?_);obtain ⟨hg9,h⟩:=Ac h;refine Ae tt O hg9 (Aa O (Af (Ah (Ab (Aa O ?_)))));obtain ⟨v104,hc10,h⟩:=Ad h;refine Bs (S_l1Once_w N (⟨c_0.b,v103.2.1,v103.2.2⟩:Cur) (2:Int) v104 hc10) [] [1000000] [] O O O O O O Y ⟨O,Y⟩ ⟨⟨O,O⟩,⟨O,O⟩,Y⟩ (Aa O (Bi O O O (fun hb11=>?_) (fun hb11=>?_)))
  ·replace h:=Ai hb11 h;iterate 2 refine Bj tt O O O O O hb11 O O O Y ?_
   refine Bd O O O O O hb11 O (Af (At O (fun hb12=>?_) (fun hb12=>?_)))
   ·replace h:=Ai hb12 h;refine Ah (Ab ?_);iterate 4 refine Aa O ?_
    obtain ⟨v105,hc13,h⟩:=Ad h;refine Bs (Bc N (⟨c_0.b,v104.2.1,v104.2.2⟩:Cur) (l80.length:Int) v105 hc13) [] [1000000] [] O O O O O O Y ⟨O,Y⟩ ⟨⟨O,O⟩,⟨O,O⟩,Y⟩ (Aa O (Af (Ah (Ab (Aa O (Aa O (Aa O ?_)))))));obtain ⟨hg14,h⟩:=Ac h;refine Ae tt O hg14 (Ae tt O hg14 (Bq tt O O O O O O O O O (As tt O O O O O O O O O O O ⟨Y,Y,Y⟩ (Af (Ah (Ab (Aa O (Af (Ah ?_)))))))));refine Cb (F:=fun k=>Fh N l80 v105 k) h (α:=Int) (J:=fun (w107:Int)=>(⟨[(0,.ptr 1000000 0),(1,.int n_1),(4,.ptr 4 0),(5,.ptr 5 0),(6,.int v81),(9,.int v105.1),(10,.ptr 10 0),(11,.int w107)],[(1200,some (42,.pairs l80))],[(1000000,some [.ro false (.bytes c_0.b),.int v105.2.1,.int v105.2.2]),(4,some [.int (0:Int),.nil]),(5,some [.int c84,.row 1200 0 l80.length]),(10,some [.int ((l80.getD ((v105.1).toNat) (0,0)).1),.int ((l80.getD ((v105.1).toNat) (0,0)).2)])]⟩:PS)) ?_ ?_
    ·rintro w107 h;show VC _ _ _ (⟨[(0,.ptr 1000000 0),(1,.int n_1),(4,.ptr 4 0),(5,.ptr 5 0),(6,.int v81),(9,.int v105.1),(10,.ptr 10 0),(11,.int w107)],[(1200,some (42,.pairs l80))],[(1000000,some [.ro false (.bytes c_0.b),.int v105.2.1,.int v105.2.2]),(4,some [.int (0:Int),.nil]),(5,some [.int c84,.row 1200 0 l80.length]),(10,some [.int ((l80.getD ((v105.1).toNat) (0,0)).1),.int ((l80.getD ((v105.1).toNat) (0,0)).2)])]⟩:PS);refine Ah (Ab ?_);iterate 4 refine Aa O ?_
     obtain ⟨v108,hc15,h⟩:=Ad h;refine Bs (S_l6Third_w N (⟨c_0.b,v105.2.1,v105.2.2⟩:Cur) v81 ((l80.getD ((v105.1).toNat) (0,0)).1,(l80.getD ((v105.1).toNat) (0,0)).2) w107 v108 hc15) [] [1000000] [] O O O O O O Y ⟨O,Y⟩ ⟨⟨O,O⟩,⟨O,O⟩,⟨⟨O,O⟩,⟨O,O⟩,Y⟩,⟨O,O⟩,Y⟩ (Aa O (Af (Ah (Ab (Aa O (Aa O ?_))))));obtain ⟨v109,hc16,h⟩:=Ad h;refine Bn (Rz N (⟨c84,l80⟩:Grf) v105.1 v109 hc16) O O O O O O O O ⟨⟨O,(.inl ⟨O,O⟩),Y⟩,O,Y⟩ (Aa O (Aa O (Aa O (As tt O O O O O O O O O O O ⟨Y,Y,Y⟩ (Af (Df 14 [5,10] [0,0,2,0,14,31,0,64,0,448,1023,0,0,6144,16383,32767] (by kernel_rfl) (by kernel_rfl) (by kernel_rfl) (by kernel_rfl) (by kernel_rfl) O (by rfl) ?_))))));iterate 4 refine Ei tt O (Ag O) O O O O O Y ?_
     refine nPure (Ag O) (Ds Db O O) O O O O ?_;obtain ⟨v110,hc17,h⟩:=Ad h;refine Qh (Hz N v109.1 ((l80.getD ((v105.1).toNat) (0,0)).1,v81) v110 hc17) rfl (Ag rfl) rfl rfl rfl rfl rfl rfl (by first | rfl | kernel_rfl | (simp [nrL,nm,Gq,nmT,Hg]; done)) rfl (by first | rfl | kernel_rfl | (simp [Lt,nrL,nm,Gq,nmT,Hg,hid,Gm,Ed,Cc]; done) | (simp [Lt,nrL,nm,Gq,nmT,Hg,hid,Gm,Ed,Cc]; decide)) ⟨⟨rfl,(.inl ⟨rfl,rfl⟩),Y⟩,⟨rfl,rfl,Y⟩,Y⟩ ?_;iterate 3 refine Ei tt O (Ag O) O O O O O Y ?_
     refine nPure (Ag O) (Ds Db O O) O O O O ?_;obtain ⟨v111,hc18,h⟩:=Ad h;refine Qh (Hz N v110 ((l80.getD ((v105.1).toNat) (0,0)).2,v81) v111 hc18) rfl (Ag rfl) rfl rfl rfl rfl rfl rfl (by first | rfl | kernel_rfl | (simp [nrL,nm,Gq,nmT,Hg]; done)) rfl (by first | rfl | kernel_rfl | (simp [Lt,nrL,nm,Gq,nmT,Hg,hid,Gm,Ed,Cc]; done) | (simp [Lt,nrL,nm,Gq,nmT,Hg,hid,Gm,Ed,Cc]; decide)) ⟨⟨rfl,(.inl ⟨rfl,rfl⟩),Y⟩,⟨rfl,rfl,Y⟩,Y⟩ ?_;iterate 2 refine Ei tt O (Ag O) O O O O O Y ?_
     refine nPure (Ag O) (Ds Db O O) O O O O (Tp ?_);show VO _ _ _ _ _;obtain ⟨v112,hc19,h⟩:=Ad h;refine Bn (Hz N v111 (v108.1,v81) v112 hc19) O O O O O O O O ⟨⟨O,(.inl ⟨O,O⟩),Y⟩,⟨O,O,Y⟩,Y⟩ (As tt O O O O O O O O O O O ⟨Y,Y,Y⟩ (Af (Ab (Aa O ?_))));obtain ⟨hg20,h⟩:=Ac h;refine Ae tt O hg20 (Aa O (Af ?_));show ∃ _,_;exact ⟨(v112.bars,(v81+(1:Int)),v108.2.1,v108.2.2,v112.n),(En.ren [1200] [1910] O ⟨.inr O,.inr O,.inr O,.inr O,.inr O,Y⟩ ⟨.inr O,Y⟩ ⟨.inr ⟨_,_,O,O,⟨.inr O,.inr O,.inr O,Y⟩⟩,.inr ⟨_,_,O,O,⟨.inr O,.inr O,Y⟩⟩,.inr ⟨_,_,O,O,⟨.inr O,.inr O,Y⟩⟩,Y⟩),h⟩
    intro k h;refine Aq (Bh (α:=Int) (fun (w114:Int)=>(⟨[(0,.ptr 1000000 0),(1,.int n_1),(4,.ptr 4 0),(5,.ptr 5 0),(6,.int v81),(9,.int v105.1),(10,.ptr 10 0),(11,.int w114)],[(1200,some (42,.pairs l80))],[(1000000,some [.ro false (.bytes c_0.b),.int v105.2.1,.int v105.2.2]),(4,some [.int (0:Int),.nil]),(5,some [.int c84,.row 1200 0 l80.length]),(10,some [.int ((l80.getD ((v105.1).toNat) (0,0)).1),.int ((l80.getD ((v105.1).toNat) (0,0)).2)])]⟩:PS)) (Fh N l80 v105 k) h (En.of ⟨O,O,O,O,O,O,O,O,Y⟩ ⟨O,Y⟩ ⟨O,O,O,O,Y⟩) (fun _=>O) ?_);rintro n w114 h;rw [Fh] at h;show VC _ _ _ (⟨[(0,.ptr 1000000 0),(1,.int n_1),(4,.ptr 4 0),(5,.ptr 5 0),(6,.int v81),(9,.int v105.1),(10,.ptr 10 0),(11,.int w114)],[(1200,some (42,.pairs l80))],[(1000000,some [.ro false (.bytes c_0.b),.int v105.2.1,.int v105.2.2]),(4,some [.int (0:Int),.nil]),(5,some [.int c84,.row 1200 0 l80.length]),(10,some [.int ((l80.getD ((v105.1).toNat) (0,0)).1),.int ((l80.getD ((v105.1).toNat) (0,0)).2)])]⟩:PS);refine Ah (Ah (Ab ?_));iterate 5 refine Aa O ?_
    refine Bi O O O (fun hb21=>?_) (fun hb21=>?_)
    ·replace h:=Ai hb21 h;iterate 4 refine Fd O O O O hb21 O O ?_
     refine Bd O O O O O hb21 O (Af (Bo O O (Ar (Aq (Ab (Aa O ?_))))));obtain ⟨hg22,h⟩:=Ac h;refine Ae tt O hg22 (Aa O (Af ?_));show ∃ _,_;exact ⟨(w114+(1:Int)),(En.of ⟨O,O,O,O,O,O,O,O,Y⟩ ⟨O,Y⟩ ⟨O,O,O,O,Y⟩),h⟩
    replace h:=Aj hb21 h;iterate 4 refine Bj tt O O O O O hb21 O O O Y ?_
    refine Az O O O O O hb21 O (Af (At O (fun hb23=>?_) (fun hb23=>?_)))
    ·replace h:=Ai hb23 h;refine Ar (Aq (Ab (Aa O ?_)));obtain ⟨hg24,h⟩:=Ac h;refine Ae tt O hg24 (Aa O (Af ?_));show ∃ _,_;exact ⟨(w114+(1:Int)),(En.of ⟨O,O,O,O,O,O,O,O,Y⟩ ⟨O,Y⟩ ⟨O,O,O,O,Y⟩),h⟩
    replace h:=Aj hb23 h;refine Br ?_;show ∃ _,_;exact ⟨w114,(En.of ⟨O,O,O,O,O,O,O,O,Y⟩ ⟨O,Y⟩ ⟨O,O,O,O,Y⟩),h⟩
   replace h:=Aj hb12 h;refine Ab (Aa O (Aa O (Aa O (Gb (Ag O) (Ds Db O O) O O ?_))));obtain ⟨v115,hc25,h⟩:=Ad h;refine Bn (Hz N (⟨c84,l80⟩:Grf) (v102.1,v81) v115 hc25) O O O O O O O O ⟨⟨O,(.inl ⟨O,O⟩),Y⟩,⟨O,O,Y⟩,Y⟩ (Aa O (Aa O (Gb (Ag O) (Ds Db O O) O O ?_)));obtain ⟨v116,hc26,h⟩:=Ad h;refine Bn (Hz N v115 ((Int.tmod ((v102.1+(1:Int))+v103.1) v81),v81) v116 hc26) O O O O O O O O ⟨⟨O,(.inl ⟨O,O⟩),Y⟩,⟨O,O,Y⟩,Y⟩ (As tt O O O O O O O O O O O ⟨Y,Y,Y⟩ (Af (Ab (Aa O ?_))));obtain ⟨hg27,h⟩:=Ac h;refine Ae tt O hg27 (Aa O (Af ?_));show ∃ _,_;exact ⟨(v116.bars,(v81+(1:Int)),v104.2.1,v104.2.2,v116.n),(En.ren [1200] [2000] O ⟨.inr O,.inr O,.inr O,.inr O,.inr O,Y⟩ ⟨.inr O,Y⟩ ⟨.inr ⟨_,_,O,O,⟨.inr O,.inr O,.inr O,Y⟩⟩,.inr ⟨_,_,O,O,⟨.inr O,.inr O,Y⟩⟩,.inr ⟨_,_,O,O,⟨.inr O,.inr O,Y⟩⟩,Y⟩),h⟩
  replace h:=Aj hb11 h;iterate 2 refine Qv O O O O hb11 O O ?_
  refine Az O O O O O hb11 O (Af (Gx O O (Ab (Aa O (Aa O (Aa O (Gb (Ag O) (Ds Db O O) O O ?_)))))));obtain ⟨v117,hc28,h⟩:=Ad h;refine Bn (Hz N (⟨c84,l80⟩:Grf) (v102.1,v81) v117 hc28) O O O O O O O O ⟨⟨O,(.inl ⟨O,O⟩),Y⟩,⟨O,O,Y⟩,Y⟩ (Aa O (Aa O (Gb (Ag O) (Ds Db O O) O O ?_)));obtain ⟨v118,hc29,h⟩:=Ad h;refine Bn (Hz N v117 ((Int.tmod ((v102.1+(1:Int))+v103.1) v81),v81) v118 hc29) O O O O O O O O ⟨⟨O,(.inl ⟨O,O⟩),Y⟩,⟨O,O,Y⟩,Y⟩ (As tt O O O O O O O O O O O ⟨Y,Y,Y⟩ (Af (Ab (Aa O ?_))));obtain ⟨hg30,h⟩:=Ac h;refine Ae tt O hg30 (Aa O (Af ?_));show ∃ _,_;exact ⟨(v118.bars,(v81+(1:Int)),v104.2.1,v104.2.2,v118.n),(En.ren [1200] [2000] O ⟨.inr O,.inr O,.inr O,.inr O,.inr O,Y⟩ ⟨.inr O,Y⟩ ⟨.inr ⟨_,_,O,O,⟨.inr O,.inr O,.inr O,Y⟩⟩,.inr ⟨_,_,O,O,⟨.inr O,.inr O,Y⟩⟩,.inr ⟨_,_,O,O,⟨.inr O,.inr O,Y⟩⟩,Y⟩),h⟩
 replace h:=Aj hb3 h;refine Br ?_;show ∃ _,_;exact ⟨(l80,c82,c83,c84),(En.of ⟨O,O,Y⟩ ⟨O,Y⟩ ⟨O,O,O,Y⟩),h⟩
def Ha (N:Nat) (c_0:Cur):Option (Frm×Int×Int):=
 (Bk N c_0 (3:Int)).bind fun v1=>
 cnd (v1.1==(0:Int)) (
  (Bk N (⟨c_0.b,v1.2.1,v1.2.2⟩:Cur) (5:Int)).bind fun v2=>
  grd (Bg ((2:Int)+v2.1)) <|
  (Md N (⟨c_0.b,v2.2.1,v2.2.2⟩:Cur) ((2:Int)+v2.1) (7:Int)).bind fun v3=>
  (Lf N (⟨c_0.b,v3.2.1,v3.2.2⟩:Cur) (⟨v3.1.n,v3.1.bars⟩:Grf)).bind fun v4=>
  some ((⟨⟨v4.1.g.n,v4.1.g.bars⟩,v4.1.places⟩:Frm),v4.2.1,v4.2.2)) (
  cnd (v1.1==(1:Int)) (
   (Bk N (⟨c_0.b,v1.2.1,v1.2.2⟩:Cur) (4:Int)).bind fun v5=>
   grd (Bg ((2:Int)+v5.1)) <|
   (Kd N (⟨c_0.b,v5.2.1,v5.2.2⟩:Cur) ((2:Int)+v5.1)).bind fun v6=>
   (Bk N (⟨c_0.b,v6.2.1,v6.2.2⟩:Cur) ((2:Int)+v5.1)).bind fun v7=>
   (Bk N (⟨c_0.b,v7.2.1,v7.2.2⟩:Cur) ((2:Int)+v5.1)).bind fun v8=>
   (Ti N v6.1 v7.1 v8.1).bind fun v9=>
   (Lf N (⟨c_0.b,v8.2.1,v8.2.2⟩:Cur) (⟨v9.1.n,v9.1.bars⟩:Grf)).bind fun v10=>
   some ((⟨⟨v10.1.g.n,v10.1.g.bars⟩,v10.1.places⟩:Frm),v10.2.1,v10.2.2)) (
   (Bk N (⟨c_0.b,v1.2.1,v1.2.2⟩:Cur) (5:Int)).bind fun v11=>
   grd (Bg ((2:Int)+v11.1)) <|
   (Kd N (⟨c_0.b,v11.2.1,v11.2.2⟩:Cur) ((2:Int)+v11.1)).bind fun v12=>
   (Lf N (⟨c_0.b,v12.2.1,v12.2.2⟩:Cur) (⟨v12.1.n,v12.1.bars⟩:Grf)).bind fun v13=>
   some ((⟨⟨v13.1.g.n,v13.1.g.bars⟩,v13.1.places⟩:Frm),v13.2.1,v13.2.2)))
theorem Wj (N:Nat) (c_0:Cur) (r:Frm×Int×Int) (h:Ha N c_0=some r):MCall Tryz.prog 123 [.ptr 1000000 0] [900101,900102] [1000000] [(42,.pairs []),(95,.pairs [])] [(42,.pairs r.1.g.bars),(95,.pairs r.1.places)] [[.ro false (.bytes c_0.b),.int c_0.i,.int c_0.h]] [[.ro false (.bytes c_0.b),.int r.2.1,.int r.2.2]] (.agg [.int r.1.g.n,.row 900101 0 r.1.g.bars.length,.row 900102 0 r.1.places.length]):=by
 unfold Ha at h;refine Cy (TT:=TT) tt Tryz.func123 O O Tryz.ntmps123 (congrArg Array.toList Tryz.results123) O O O O O fun w0 O0=>(Ah (Ab (Bq tt O O O O O O O O O (Af (Ah (Ah (Ab (Aa O ?_))))))));obtain ⟨v1,hc1,h⟩:=Ad h;refine Bs (Bc N c_0 (3:Int) v1 hc1) [] [1000000] [] O O O O O O Y ⟨O,Y⟩ ⟨⟨O,O⟩,⟨O,O⟩,Y⟩ (Af (Aq (Ah (Ab (Aa O (Aa O (Af (At O (fun hb2=>?_) (fun hb2=>?_)))))))))
 ·replace h:=Ai hb2 h;refine Ah (Ab (Aa O ?_));obtain ⟨v2,hc3,h⟩:=Ad h;refine Bs (Bc N (⟨c_0.b,v1.2.1,v1.2.2⟩:Cur) (5:Int) v2 hc3) [] [1000000] [] O O O O O O Y ⟨O,Y⟩ ⟨⟨O,O⟩,⟨O,O⟩,Y⟩ ?_;obtain ⟨hg4,h⟩:=Ac h;refine Ae tt O hg4 (Aa O (Af (Ah (Ab (Aa O (Aa O (Kn (En.zero 9510 42 (.pairs []) O O) ?_)))))));obtain ⟨v3,hc5,h⟩:=Ad h;refine Bs (S_l2Simple_w N (⟨c_0.b,v2.2.1,v2.2.2⟩:Cur) ((2:Int)+v2.1) (7:Int) v3 hc5) [9510] [1000000] [1200] O O O O O O ⟨O,Y⟩ ⟨O,Y⟩ ⟨⟨O,O⟩,⟨O,O⟩,⟨O,O⟩,Y⟩ (Bq tt O O O O O O O O O (As tt O O O O O O O O O O O ⟨Y,Y,Y⟩ (Af (Ah (Ab (Aa O (Aa O (Tg 22 1 O O O O O (Kn (En.zero 9511 42 (.pairs []) O O) ?_)))))))));refine Kn (En.zero 9512 95 (.pairs []) O O) ?_;obtain ⟨v4,hc6,h⟩:=Ad h;refine Bs (Qm N (⟨c_0.b,v3.2.1,v3.2.2⟩:Cur) (⟨v3.1.n,v3.1.bars⟩:Grf) v4 hc6) [9511,9512] [1000000] [1230,1231] O O O O O O ⟨O,O,Y⟩ ⟨O,Y⟩ ⟨⟨O,O⟩,⟨⟨O,O⟩,(.inr (.inl ⟨O,O⟩)),Y⟩,Y⟩ (As tt O O O O O O O O O O O ⟨Y,Y,Y,Y⟩ (Af (Ay ?_)));show ∃ _,_;cases h;exact ⟨[1230,1231],O,⟨O,O,Y⟩,⟨O,Y⟩,O⟩
 replace h:=Aj hb2 h;refine Ah (Ab (Aa O (Aa O (Af (At O (fun hb7=>?_) (fun hb7=>?_))))))
 ·replace h:=Ai hb7 h;refine Ah (Ab (Aa O ?_));obtain ⟨v5,hc8,h⟩:=Ad h;refine Bs (Bc N (⟨c_0.b,v1.2.1,v1.2.2⟩:Cur) (4:Int) v5 hc8) [] [1000000] [] O O O O O O Y ⟨O,Y⟩ ⟨⟨O,O⟩,⟨O,O⟩,Y⟩ ?_;obtain ⟨hg9,h⟩:=Ac h;refine Ae tt O hg9 (Aa O (Af (Ah (Ab (Aa O (Aa O (Kn (En.zero 9513 42 (.pairs []) O O) ?_)))))));obtain ⟨v6,hc10,h⟩:=Ad h;refine Bs (Pd N (⟨c_0.b,v5.2.1,v5.2.2⟩:Cur) ((2:Int)+v5.1) v6 hc10) [9513] [1000000] [1310] O O O O O O ⟨O,Y⟩ ⟨O,Y⟩ ⟨⟨O,O⟩,⟨O,O⟩,Y⟩ (Bq tt O O O O O O O O O (As tt O O O O O O O O O O O ⟨Y,Y,Y⟩ (Af (Ah (Ab (Aa O (Aa O ?_)))))));obtain ⟨v7,hc11,h⟩:=Ad h;refine Bs (Bc N (⟨c_0.b,v6.2.1,v6.2.2⟩:Cur) ((2:Int)+v5.1) v7 hc11) [] [1000000] [] O O O O O O Y ⟨O,Y⟩ ⟨⟨O,O⟩,⟨O,O⟩,Y⟩ (Aa O (Af (Ah (Ab (Aa O (Aa O ?_))))));obtain ⟨v8,hc12,h⟩:=Ad h;refine Bs (Bc N (⟨c_0.b,v7.2.1,v7.2.2⟩:Cur) ((2:Int)+v5.1) v8 hc12) [] [1000000] [] O O O O O O Y ⟨O,Y⟩ ⟨⟨O,O⟩,⟨O,O⟩,Y⟩ (Aa O (Af (Ah (Ab (Aa O (Aa O (Aa O ?_)))))));obtain ⟨v9,hc13,h⟩:=Ad h;refine Bn (S_AddBar_w N v6.1 v7.1 v8.1 v9 hc13) O O O O O O O O ⟨⟨O,(.inl ⟨O,O⟩),Y⟩,O,O,Y⟩ (Aa O (Aa O (Aa O (As tt O O O O O O O O O O O ⟨Y,Y,Y⟩ (Af (Ah (Ab (Aa O (Aa O ?_)))))))));refine Tg 46 1 O O O O O (Kn (En.zero 9514 42 (.pairs []) O O) (Kn (En.zero 9515 95 (.pairs []) O O) ?_));obtain ⟨v10,hc14,h⟩:=Ad h;refine Bs (Qm N (⟨c_0.b,v8.2.1,v8.2.2⟩:Cur) (⟨v9.1.n,v9.1.bars⟩:Grf) v10 hc14) [9514,9515] [1000000] [1470,1471] O O O O O O ⟨O,O,Y⟩ ⟨O,Y⟩ ⟨⟨O,O⟩,⟨⟨O,O⟩,(.inr (.inl ⟨O,O⟩)),Y⟩,Y⟩ (As tt O O O O O O O O O O O ⟨Y,Y,Y,Y⟩ (Af (Ay ?_)));show ∃ _,_;cases h;exact ⟨[1470,1471],O,⟨O,O,Y⟩,⟨O,Y⟩,O⟩
 replace h:=Aj hb7 h;refine Ar (Ah (Ab (Aa O ?_)));obtain ⟨v11,hc15,h⟩:=Ad h;refine Bs (Bc N (⟨c_0.b,v1.2.1,v1.2.2⟩:Cur) (5:Int) v11 hc15) [] [1000000] [] O O O O O O Y ⟨O,Y⟩ ⟨⟨O,O⟩,⟨O,O⟩,Y⟩ ?_;obtain ⟨hg16,h⟩:=Ac h;refine Ae tt O hg16 (Aa O (Af (Ah (Ab (Aa O (Aa O (Kn (En.zero 9516 42 (.pairs []) O O) ?_)))))));obtain ⟨v12,hc17,h⟩:=Ad h;refine Bs (Pd N (⟨c_0.b,v11.2.1,v11.2.2⟩:Cur) ((2:Int)+v11.1) v12 hc17) [9516] [1000000] [1530] O O O O O O ⟨O,Y⟩ ⟨O,Y⟩ ⟨⟨O,O⟩,⟨O,O⟩,Y⟩ (Bq tt O O O O O O O O O (As tt O O O O O O O O O O O ⟨Y,Y,Y⟩ (Af (Ah (Ab (Aa O (Aa O (Tg 55 1 O O O O O (Kn (En.zero 9517 42 (.pairs []) O O) ?_)))))))));refine Kn (En.zero 9518 95 (.pairs []) O O) ?_;obtain ⟨v13,hc18,h⟩:=Ad h;refine Bs (Qm N (⟨c_0.b,v12.2.1,v12.2.2⟩:Cur) (⟨v12.1.n,v12.1.bars⟩:Grf) v13 hc18) [9517,9518] [1000000] [1560,1561] O O O O O O ⟨O,O,Y⟩ ⟨O,Y⟩ ⟨⟨O,O⟩,⟨⟨O,O⟩,(.inr (.inl ⟨O,O⟩)),Y⟩,Y⟩ (As tt O O O O O O O O O O O ⟨Y,Y,Y,Y⟩ (Af (Ay ?_)));show ∃ _,_;cases h;exact ⟨[1560,1561],O,⟨O,O,Y⟩,⟨O,Y⟩,O⟩
def Lg (N:Nat) (c_0:Cur) (list_1:List Int):Option (Int×(List Int)×Int×Int):=
 (Bk N c_0 (list_1.length:Int)).bind fun v1=>
 grd (0≤v1.1∧v1.1<(list_1.length:Int)) <|
 some ((list_1.getD ((v1.1).toNat) 0),list_1,v1.2.1,v1.2.2)
theorem S_l1PickInt_w (N:Nat) (c_0:Cur) (list_1:List Int) (r:Int×(List Int)×Int×Int) (h:Lg N c_0 list_1=some r):MCall Tryz.prog 124 [.ptr 1000000 0,.row 1000010 0 list_1.length] [1000010] [1000000] [(3,.ints list_1)] [(3,.ints r.2.1)] [[.ro false (.bytes c_0.b),.int c_0.i,.int c_0.h]] [[.ro false (.bytes c_0.b),.int r.2.2.1,.int r.2.2.2]] (.int r.1):=by
 unfold Lg at h;refine Cy (TT:=TT) tt Tryz.func124 O O Tryz.ntmps124 (congrArg Array.toList Tryz.results124) O O O O O fun w0 O0=>(Ah (Ab (Aa O (Af (Ah (Ab ?_))))));iterate 4 refine Aa O ?_
 obtain ⟨v1,hc1,h⟩:=Ad h;refine Bs (Bc N c_0 (list_1.length:Int) v1 hc1) [] [1000000] [] O O O O O O Y ⟨O,Y⟩ ⟨⟨O,O⟩,⟨O,O⟩,Y⟩ ?_;obtain ⟨hg2,h⟩:=Ac h;refine Ae tt O hg2 (Ae tt O hg2 (Aa O (Af (Ay ?_))));show ∃ _,_;cases h;exact ⟨[1000010],O,⟨O,Y⟩,⟨O,Y⟩,O⟩
end
section
open Go.RowKit Go.Deep
theorem Rel.freeze1 {w0:World} {O0:Hd} {n:Nat} {M:Mp} {s:PS} {a:Act} {w:World} (h:Rel w0 O0 n M s a w) {r:Nat} {e:TypeId} {q:Sq} (hF:Fe r=true) (hr:s.r r=some (e,q)) :
  ∃ M',Rel w0 O0 n M' ((s.kill r).setR r none) a w∧(∀ b,M'.β b=M.β b)∧(∀ v,VR M (Ow (Fs w0 O0) M) w (.row r 0 q.len) v→VR M' (Ow (Fs w0 O0) M') w (.ro true q) v)∧∀ d v,VR M (Ow (Fs w0 O0) M) w d v→VR M' (Ow (Fs w0 O0) M') w (klS r d) v:=by
 let M':Mp:=⟨M.β,fun y=>if y=r then none else M.γ y⟩
 have hown:∀ k,M'.owned k→M.owned k:=by
  rintro k (⟨b,hb⟩ | ⟨y,c,z,hy⟩)
  ·exact .inl ⟨b,hb⟩
  simp only [M'] at hy;split at hy
  ·cases hy
  exact .inr ⟨y,c,z,hy⟩
 have hA:∀ f b,b<w.heap.size→Ow (Fs w0 O0) M f b→Ow (Fs w0 O0) M' f b∧b<w.heap.size∧w.heap[b]? = w.heap[b]?:=fun f b h1 h2=>⟨⟨fun h3=>h2.1 (hown b h3),h2.2⟩,h1,rfl⟩;have hγ:∀ y z,y≠r→M'.γ y=some z→M.γ y=some z:=fun y z h1 h2=>by simpa [M',h1] using h2
 have hβ:∀ b k,M'.β b=some k→M.β b=some k:=fun _ _ h=>h
 have hbig:∀ x y,BIG≤x→M'.γ x=some y→M.γ x=some y:=fun x y hx h1=>by
  simp only [M'] at h1;split at h1
  ·cases h1
  exact h1
 have hv:∀ v,VR M (Ow (Fs w0 O0) M) w (.row r 0 q.len) v→VR M' (Ow (Fs w0 O0) M') w (.ro true q) v:=by
  intro v h0
  cases h0 with
  | row _ _ _ _ g1 g2=>
   rcases h.row r e q hr with ⟨hg,h0⟩ | ⟨g,cap,cur,hg,hh,hl,hmx,hcs,hc⟩
   ·have:=g2 _ hg;simp only [Ri] at this;obtain ⟨⟨ao0,rfl⟩,_,_⟩:=this;have:=VR.ro (M:=M') (A:=Ow (Fs w0 O0) M') (w:=w) true q ao0 0 0 0 (fun _ _=>undef) (by omega) (by omega) (by omega) (by intro i j d hi; omega) (by intro i j d hi; omega)
    rwa [h0] at this
   have:=g2 _ hg;simp only [Ri] at this;obtain ⟨h1,ao,h2,h3⟩:=this;have h4:=h3 (.inr trivial);rw [Nat.zero_mul] at h4;subst h2;refine .ro true q ao _ g 0 (fun i j=>cur.getD (i*q.sz+j) undef) (by omega) (by omega) (fun _=>⟨h4,(Array.getElem?_eq_some_iff.1 hh).1,?_,?_⟩) (fun i j d hi hd=>?_) (fun i j d hi hd=>(VR.relem (fun d' hd'=>hc i j d' hi hd') hd).elem_any hd hA)
   ·rintro (⟨b,hb⟩ | ⟨y,c,z,hy⟩)
    ·exact h.inj3 _ _ _ _ _ hb hg
    simp only [M'] at hy;split at hy
    ·cases hy
    rename_i hyr; exact hyr (h.inj2 _ _ _ _ _ _ _ hy hg)
   ·exact (h.low _ (.inr ⟨r,_,_,hg⟩)).imp_right (O0.sub _ _)
   have hj:j<q.sz:=by rw [←Sq.elem_len true q i]; exact (List.getElem?_eq_some_iff.1 hd).1
   have hlt:i*q.sz+j<cur.size:=by
    rw [hcs];have h4:(i+1)*q.sz≤cap*q.sz:=Nat.mul_le_mul_right _ (by omega);rw [Nat.add_mul,Nat.one_mul] at h4; omega
   rw [Nat.zero_add,cell_of_row w g _ cur e (0,0) hh];simp [hlt]
 refine ⟨M',⟨h.fr,h.dfr,h.sz,fun x=>?_,fun b cs hb=>?_,fun b hb=>?_,fun y e' p hy=>?_,fun y hy=>?_,fun k hk=>h.low k (hown k hk),h.inj1,fun y y' k c z c' z' h1 h2=>?_,fun b y k c z h1 h2=>?_,h.nle,h.fxb,fun y u u' h1 h2=>?_⟩,fun _=>O,hv,fun d v hd=>VR.klS hA hγ hβ hd⟩
 ·have:((s.kill r).setR r none).t x=kl r (s.t x):=PS.t_kill s r x;rw [this]; exact VR.kl hA hγ hβ (h.tmp x)
 ·have hb':(s.kill r).b b=some cs:=hb;rw [PS.b_kill] at hb';obtain ⟨cs0,h0,rfl⟩:=Option.map_eq_some_iff.1 hb';obtain ⟨k,cur,e2,a1,a2,a3,a4⟩:=h.box b cs0 h0;refine ⟨k,cur,e2,a1,a2,by simpa using a3,fun j d hd=>?_⟩;rw [List.getElem?_map] at hd;obtain ⟨d0,h1,rfl⟩:=Option.map_eq_some_iff.1 hd;exact VR.klS hA hγ hβ (a4 j d0 h1)
 ·have hb':(s.kill r).b b=none:=hb;rw [PS.b_kill] at hb';exact h.boxn b (by simpa using hb')
 ·have hy:((s.kill r).setR r none).r y=some (e',p):=hy;rw [PS.r_setR _ _ _ _ hF] at hy;by_cases hyr:r=y
  ·rw [if_pos hyr] at hy; cases hy
  rw [if_neg hyr] at hy;rcases h.row y e' p hy with ⟨h1,h2⟩ | ⟨g,cap,cur,h1,h2,h3,h4,h5,h6⟩
  ·exact .inl ⟨by simp [M',Ne.symm hyr,h1],h2⟩
  exact .inr ⟨g,cap,cur,by simp [M',Ne.symm hyr,h1],h2,h3,h4,h5,fun i j d hi' hd=>(h6 i j d hi' hd).relem_any hd hA hbig⟩
 ·have hy:((s.kill r).setR r none).r y=none:=hy;rw [PS.r_setR _ _ _ _ hF] at hy;by_cases hyr:r=y
  ·simp [M',hyr]
  rw [if_neg hyr] at hy;simpa [M',Ne.symm hyr] using h.rown y hy
 ·simp only [M'] at h1 h2;split at h1 <;> split at h2 <;> first | (cases h1; done) | (cases h2; done) | exact h.inj2 _ _ _ _ _ _ _ h1 h2
 ·simp only [M'] at h2;split at h2
  ·cases h2
  exact h.inj3 _ _ _ _ _ h1 h2
 simp only [M'] at h2;split at h2
 ·cases h2
 exact h.fxr y u u' h1 h2
section
variable {C:Cx} {ops:Array Oper} {K:PS→Prop} {l:List Oper} {s s':PS} {TT:List (Nat×Ty)} {tm:List (Nat×D)} {rw':List (Nat×Option (TypeId×Sq))} {bx:List (Nat×Option (List D))}
theorem En.freezeB (b i:Nat) {r m:Nat} {e:TypeId} {q:Sq} {cs:List D} (hb:(PS.b ⟨tm,rw',bx⟩ b)=some cs) (hi:cs[i]? = some (.row r 0 m)) (hr:(PS.r ⟨tm,rw',bx⟩ r)=some (e,q)) (hnf:nf ⟨(PS.kill ⟨tm,rw',bx⟩ r).tmp,(r,none)::rw',(b,some ((cs.map (klS r)).set i (.ro true q)))::(PS.kill ⟨tm,rw',bx⟩ r).box⟩=some s') (hm:m=q.len) (hF:Fe r=true:=by rfl):En C ⟨tm,rw',bx⟩ s':=⟨fun M a w hr'=>by
 subst hm;rw [nf_ok hnf];obtain ⟨M',h1,h0,h2,h3⟩:=hr'.freeze1 hF hr;refine ⟨M',h1.fr,h1.dfr,h1.sz,h1.tmp,fun x ds hx=>?_,fun x hx=>?_,h1.row,h1.rown,h1.low,h1.inj1,h1.inj2,h1.inj3,h1.nle,h1.fxb,h1.fxr⟩
 ·by_cases hxb:b=x
  ·subst hxb;simp [PS.b,Ao] at hx;subst hx;obtain ⟨k,cur,e',g1,g2,g3,g4⟩:=hr'.box b cs hb;refine ⟨k,cur,e',by rw [h0,g1],g2,by simpa using g3,fun j d hj=>?_⟩;rw [List.getElem?_set] at hj;by_cases hij:i=j
   ·subst hij;have hlt:=(List.getElem?_eq_some_iff.1 hi).1;rw [if_pos rfl,if_pos (by simpa using hlt)] at hj;cases hj;exact h2 _ (g4 i _ hi)
   rw [if_neg hij,List.getElem?_map] at hj;obtain ⟨d0,hd0,rfl⟩:=Option.map_eq_some_iff.1 hj;exact h3 _ _ (g4 j d0 hd0)
  exact h1.box x ds (by simpa [PS.b,PS.setR,Ap hxb] using hx)
 by_cases hxb:b=x
 ·subst hxb; simp [PS.b,Ao] at hx
 exact h1.boxn x (by simpa [PS.b,PS.setR,Ap hxb] using hx)⟩
end
end
section
open Go.RowKit
end
section
open Go.RowKit
end
section
open Go.RowKit
end
section
open Go.RowKit
end
section
open Go.RowKit
end
section
open Go.RowKit
end
section
open Go.RowKit
end
section
open Go.RowKit
def Hm (N:Nat) (c_0:Cur):Option (Lnk×Int×Int):=
 (Bk N c_0 (3:Int)).bind fun v1=>
 grd (Bg ((2:Int)+v1.1)) <|
 (Bk N (⟨c_0.b,v1.2.1,v1.2.2⟩:Cur) (3:Int)).bind fun v2=>
 cnd (v2.1==(0:Int)) (
  (Kd N (⟨c_0.b,v2.2.1,v2.2.2⟩:Cur) ((2:Int)+v1.1)).bind fun v3=>
  (Lf N (⟨c_0.b,v3.2.1,v3.2.2⟩:Cur) (⟨v3.1.n,v3.1.bars⟩:Grf)).bind fun v4=>
  grd (Bg (((2:Int)+v1.1)-(1:Int))) <|
  grd (Bg (((2:Int)+v1.1)-(min (2:Int) (((2:Int)+v1.1)-(1:Int))))) <|
  grd (0≤(((2:Int)+v1.1)-(min (2:Int) (((2:Int)+v1.1)-(1:Int))))∧(((2:Int)+v1.1)-(min (2:Int) (((2:Int)+v1.1)-(1:Int))))<64∧Bg ((1:Int)*2 ^ (((((2:Int)+v1.1)-(min (2:Int) (((2:Int)+v1.1)-(1:Int))))).toNat))) <|
  grd (Bg (((1:Int)*2 ^ (((((2:Int)+v1.1)-(min (2:Int) (((2:Int)+v1.1)-(1:Int))))).toNat))-(1:Int))) <|
  (Ql N ((2:Int)+v1.1) (((1:Int)*2 ^ (((((2:Int)+v1.1)-(min (2:Int) (((2:Int)+v1.1)-(1:Int))))).toNat))-(1:Int))).bind fun v5=>
  some ((⟨⟨⟨v4.1.g.n,v4.1.g.bars⟩,v4.1.places⟩,v5⟩:Lnk),v4.2.1,v4.2.2)) (
  cnd (v2.1==(1:Int)) (
   (Kd N (⟨c_0.b,v2.2.1,v2.2.2⟩:Cur) ((2:Int)+v1.1)).bind fun v6=>
   (Bk N (⟨c_0.b,v6.2.1,v6.2.2⟩:Cur) (v6.1.bars.length:Int)).bind fun v7=>
   (Hl N v6.1 v7.1).bind fun v8=>
   (Lf N (⟨c_0.b,v7.2.1,v7.2.2⟩:Cur) (⟨v8.1.n,v8.1.bars⟩:Grf)).bind fun v9=>
   grd (Bg (((2:Int)+v1.1)-(1:Int))) <|
   grd (Bg (((2:Int)+v1.1)-(min (2:Int) (((2:Int)+v1.1)-(1:Int))))) <|
   grd (0≤(((2:Int)+v1.1)-(min (2:Int) (((2:Int)+v1.1)-(1:Int))))∧(((2:Int)+v1.1)-(min (2:Int) (((2:Int)+v1.1)-(1:Int))))<64∧Bg ((1:Int)*2 ^ (((((2:Int)+v1.1)-(min (2:Int) (((2:Int)+v1.1)-(1:Int))))).toNat))) <|
   grd (Bg (((1:Int)*2 ^ (((((2:Int)+v1.1)-(min (2:Int) (((2:Int)+v1.1)-(1:Int))))).toNat))-(1:Int))) <|
   (Ql N ((2:Int)+v1.1) (((1:Int)*2 ^ (((((2:Int)+v1.1)-(min (2:Int) (((2:Int)+v1.1)-(1:Int))))).toNat))-(1:Int))).bind fun v10=>
   some ((⟨⟨⟨v9.1.g.n,v9.1.g.bars⟩,v9.1.places⟩,v10⟩:Lnk),v9.2.1,v9.2.2)) (
   grd (Bg ((4:Int)-(1:Int))) <|
   grd (Bg ((4:Int)-(min (2:Int) ((4:Int)-(1:Int))))) <|
   grd (0≤((4:Int)-(min (2:Int) ((4:Int)-(1:Int))))∧((4:Int)-(min (2:Int) ((4:Int)-(1:Int))))<64∧Bg ((1:Int)*2 ^ ((((4:Int)-(min (2:Int) ((4:Int)-(1:Int))))).toNat))) <|
   grd (Bg (((1:Int)*2 ^ ((((4:Int)-(min (2:Int) ((4:Int)-(1:Int))))).toNat))-(1:Int))) <|
   (Ql N (4:Int) (((1:Int)*2 ^ ((((4:Int)-(min (2:Int) ((4:Int)-(1:Int))))).toNat))-(1:Int))).bind fun v11=>
   some ((⟨⟨⟨(4:Int),([((0:Int),(2:Int)),((1:Int),(3:Int)),((2:Int),(3:Int))]:List (Int×Int))⟩,([((1:Int),(1:Int)),((3:Int),(1:Int)),((1:Int),(2:Int)),((3:Int),(2:Int))]:List (Int×Int))⟩,v11⟩:Lnk),v2.2.1,v2.2.2)))
theorem Rc (N:Nat) (c_0:Cur) (r:Lnk×Int×Int) (h:Hm N c_0=some r):MCall Tryz.prog 88 [.ptr 1000000 0] [900101,900102,900103] [1000000] [(42,.pairs []),(95,.pairs []),(3,.ints [])] [(42,.pairs r.1.f.g.bars),(95,.pairs r.1.f.places),(3,.ints r.1.ground)] [[.ro false (.bytes c_0.b),.int c_0.i,.int c_0.h]] [[.ro false (.bytes c_0.b),.int r.2.1,.int r.2.2]] (.agg [.int r.1.f.g.n,.row 900101 0 r.1.f.g.bars.length,.row 900102 0 r.1.f.places.length,.row 900103 0 r.1.ground.length]):=by
 unfold Hm at h;refine Cy (TT:=TT) tt Tryz.func88 O O Tryz.ntmps88 (congrArg Array.toList Tryz.results88) O O O O O fun w0 O0=>(Ah (Ab (Bq tt O O O O O O O O O (Af (Ah (Ab (Aa O ?_)))))));obtain ⟨v1,hc1,h⟩:=Ad h;refine Bs (Bc N c_0 (3:Int) v1 hc1) [] [1000000] [] O O O O O O Y ⟨O,Y⟩ ⟨⟨O,O⟩,⟨O,O⟩,Y⟩ ?_;obtain ⟨hg2,h⟩:=Ac h;refine Ae tt O hg2 (Aa O (Af (Ah (Ab (Gb (Ag O) (Ds Em O O) O O (Bq tt O O O O O O O O O (As tt O O O O O O O O O O O ⟨Y,Y,Y,Y⟩ (Af (Ah ?_)))))))));refine Ah (Ab (Aa O ?_));obtain ⟨v2,hc3,h⟩:=Ad h;refine Bs (Bc N (⟨c_0.b,v1.2.1,v1.2.2⟩:Cur) (3:Int) v2 hc3) [] [1000000] [] O O O O O O Y ⟨O,Y⟩ ⟨⟨O,O⟩,⟨O,O⟩,Y⟩ (Af (Aq (Ah (Ab (Aa O (Aa O (Af (At O (fun hb4=>?_) (fun hb4=>?_)))))))))
 ·replace h:=Ai hb4 h;refine Ah (Ab (Aa O (Aa O (Kn (En.zero 9507 42 (.pairs []) O O) ?_))));obtain ⟨v3,hc5,h⟩:=Ad h;refine Bs (Pd N (⟨c_0.b,v2.2.1,v2.2.2⟩:Cur) ((2:Int)+v1.1) v3 hc5) [9507] [1000000] [1300] O O O O O O ⟨O,Y⟩ ⟨O,Y⟩ ⟨⟨O,O⟩,⟨O,O⟩,Y⟩ (Bq tt O O O O O O O O O (As tt O O O O O O O O O O O ⟨Y,Y,Y⟩ (Af (Ab (Aa O (Aa O (Tg 32 1 O O O O O (Kn (En.zero 9508 42 (.pairs []) O O) (Kn (En.zero 9509 95 (.pairs []) O O) ?_)))))))));obtain ⟨v4,hc6,h⟩:=Ad h;refine Bs (Qm N (⟨c_0.b,v3.2.1,v3.2.2⟩:Cur) (⟨v3.1.n,v3.1.bars⟩:Grf) v4 hc6) [9508,9509] [1000000] [1330,1331] O O O O O O ⟨O,O,Y⟩ ⟨O,Y⟩ ⟨⟨O,O⟩,⟨⟨O,O⟩,(.inr (.inl ⟨O,O⟩)),Y⟩,Y⟩ (As tt O O O O O O O O O O O ⟨Y,Y,Y,Y⟩ (Af (Ah (Df 10 [9] [0,0,0,0,8,24,60,124,252,510,1023,2047] (by kernel_rfl) (by kernel_rfl) (by kernel_rfl) (by kernel_rfl) (by kernel_rfl) O (by rfl) ?_))));iterate 4 refine Ei tt O (Ag O) O O O O O Y ?_
  obtain ⟨hg7,h⟩:=Ac h;refine Ei tt O (Ag O) O O O O O hg7 (Ei tt O (Ag O) O O O O O Y ?_);obtain ⟨hg8,h⟩:=Ac h;refine Ei tt O (Ag O) O O O O O hg8 ?_;obtain ⟨hg9,h⟩:=Ac h;refine Ei tt O (Ag O) O O O O O hg9 ?_;obtain ⟨hg10,h⟩:=Ac h;refine Ei tt O (Ag O) O O O O O hg10 ?_;obtain ⟨v5,hc11,h⟩:=Ad h;refine Qh (Yh N ((2:Int)+v1.1) (((1:Int)*2 ^ (((((2:Int)+v1.1)-(min (2:Int) (((2:Int)+v1.1)-(1:Int))))).toNat))-(1:Int)) v5 hc11) rfl (Ag rfl) rfl rfl rfl rfl rfl rfl (by first | rfl | kernel_rfl | (simp [nrL,nm,Gq,nmT,Hg]; done)) rfl (by first | rfl | kernel_rfl | (simp [Lt,nrL,nm,Gq,nmT,Hg,hid,Gm,Ed,Cc]; done) | (simp [Lt,nrL,nm,Gq,nmT,Hg,hid,Gm,Ed,Cc]; decide)) ⟨rfl,rfl,Y⟩ (Tp ?_);show VO _ _ _ _ _;refine Gb (Ag O) (Ds Kk O O) O O (As tt O O O O O O O O O O O ⟨Y,Y,Y,Y,Y⟩ (Af (Ay ?_)));show ∃ _,_;cases h;exact ⟨[1330,1331,1610],O,⟨O,O,O,Y⟩,⟨O,Y⟩,O⟩
 replace h:=Aj hb4 h;refine Ah (Ab (Aa O (Aa O (Af (At O (fun hb12=>?_) (fun hb12=>?_))))))
 ·replace h:=Ai hb12 h;refine Ah (Ab (Aa O (Aa O (Kn (En.zero 9510 42 (.pairs []) O O) ?_))));obtain ⟨v6,hc13,h⟩:=Ad h;refine Bs (Pd N (⟨c_0.b,v2.2.1,v2.2.2⟩:Cur) ((2:Int)+v1.1) v6 hc13) [9510] [1000000] [1380] O O O O O O ⟨O,Y⟩ ⟨O,Y⟩ ⟨⟨O,O⟩,⟨O,O⟩,Y⟩ (Bq tt O O O O O O O O O (As tt O O O O O O O O O O O ⟨Y,Y,Y⟩ (Af (Ah (Df 12 [5,6,10,1051000000,1110000007] [0,0,0,4,12,30,63,127,255,255,0,1535,4095] (by kernel_rfl) (by kernel_rfl) (by kernel_rfl) (by kernel_rfl) (by kernel_rfl) O (by rfl) ?_)))));iterate 5 refine Ei tt O (Ag O) O O O O O Y ?_
  obtain ⟨v7,hc14,h⟩:=Ad h;refine nMCall (rids:=[]) (bids:=[]) (pids:=[]) (Ag rfl) (Bc N (⟨c_0.b,v6.2.1,v6.2.2⟩:Cur) (v6.1.bars.length:Int) v7 hc14) [] [1000000] [] rfl rfl rfl rfl rfl (by first | rfl | kernel_rfl) rfl rfl rfl rfl rfl (by first | rfl | kernel_rfl)  trivial ⟨rfl,Y⟩ ⟨⟨rfl,rfl⟩,⟨rfl,rfl⟩,Y⟩ ?_;obtain ⟨v8,hc15,h⟩:=Ad h;refine Qh (Rz N v6.1 v7.1 v8 hc15) rfl (Ag rfl) rfl rfl rfl rfl rfl rfl (by first | rfl | kernel_rfl | (simp [nrL,nm,Gq,nmT,Hg]; done)) rfl (by first | rfl | kernel_rfl | (simp [Lt,nrL,nm,Gq,nmT,Hg,hid,Gm,Ed,Cc]; done) | (simp [Lt,nrL,nm,Gq,nmT,Hg,hid,Gm,Ed,Cc]; decide)) ⟨⟨rfl,(.inl ⟨rfl,rfl⟩),Y⟩,rfl,Y⟩ ?_;iterate 3 refine Ei tt O (Ag O) O O O O O Y ?_
  refine nAlloc tt (Ag O) O O O O O O O O O O (nStoreB tt (Ag O) O O O O O O O O O O O O (Tp ?_));show VO _ _ _ _ _;refine Aa O (Af (Ab (Aa O (Aa O (Tg 50 1 O O O O O (Kn (En.zero 9511 42 (.pairs []) O O) (Kn (En.zero 9512 95 (.pairs []) O O) ?_)))))));obtain ⟨v9,hc16,h⟩:=Ad h;refine Bs (Qm N (⟨c_0.b,v7.2.1,v7.2.2⟩:Cur) (⟨v8.1.n,v8.1.bars⟩:Grf) v9 hc16) [9511,9512] [1000000] [1510,1511] O O O O O O ⟨O,O,Y⟩ ⟨O,Y⟩ ⟨⟨O,O⟩,⟨⟨O,O⟩,(.inr (.inl ⟨O,O⟩)),Y⟩,Y⟩ (As tt O O O O O O O O O O O ⟨Y,Y,Y,Y⟩ (Af (Ah (Df 10 [9] [0,0,0,0,8,24,60,124,252,510,1023,2047] (by kernel_rfl) (by kernel_rfl) (by kernel_rfl) (by kernel_rfl) (by kernel_rfl) O (by rfl) ?_))));iterate 4 refine Ei tt O (Ag O) O O O O O Y ?_
  obtain ⟨hg17,h⟩:=Ac h;refine Ei tt O (Ag O) O O O O O hg17 (Ei tt O (Ag O) O O O O O Y ?_);obtain ⟨hg18,h⟩:=Ac h;refine Ei tt O (Ag O) O O O O O hg18 ?_;obtain ⟨hg19,h⟩:=Ac h;refine Ei tt O (Ag O) O O O O O hg19 ?_;obtain ⟨hg20,h⟩:=Ac h;refine Ei tt O (Ag O) O O O O O hg20 ?_;obtain ⟨v10,hc21,h⟩:=Ad h;refine Qh (Yh N ((2:Int)+v1.1) (((1:Int)*2 ^ (((((2:Int)+v1.1)-(min (2:Int) (((2:Int)+v1.1)-(1:Int))))).toNat))-(1:Int)) v10 hc21) rfl (Ag rfl) rfl rfl rfl rfl rfl rfl (by first | rfl | kernel_rfl | (simp [nrL,nm,Gq,nmT,Hg]; done)) rfl (by first | rfl | kernel_rfl | (simp [Lt,nrL,nm,Gq,nmT,Hg,hid,Gm,Ed,Cc]; done) | (simp [Lt,nrL,nm,Gq,nmT,Hg,hid,Gm,Ed,Cc]; decide)) ⟨rfl,rfl,Y⟩ (Tp ?_);show VO _ _ _ _ _;refine Gb (Ag O) (Ds Kk O O) O O (As tt O O O O O O O O O O O ⟨Y,Y,Y,Y,Y⟩ (Af (Ay ?_)));show ∃ _,_;cases h;exact ⟨[1510,1511,1610],O,⟨O,O,O,Y⟩,⟨O,Y⟩,O⟩
 replace h:=Aj hb12 h;refine Ah (Ab (Aa O (Af (Ab ?_))));iterate 3 refine Gb (Ag O) (Ds Db O O) O O ?_
 refine Dr tt O O O O O O O O O O O (Gb (Ag O) (Ds Eu O O) O O ?_);iterate 4 refine Gb (Ag O) (Ds Fz O O) O O ?_
 refine Dr tt O O O O O O O O O O O (Gb (Ag O) (Ds Em O O) O O (As tt O O O O O O O O O O O ⟨Y,Y,Y,Y⟩ (Af (Ah (Df 10 [9] [0,0,0,0,8,24,60,124,252,510,1023,2047] (by kernel_rfl) (by kernel_rfl) (by kernel_rfl) (by kernel_rfl) (by kernel_rfl) O (by rfl) ?_)))));iterate 4 refine Ei tt O (Ag O) O O O O O Y ?_
 obtain ⟨hg22,h⟩:=Ac h;refine Ei tt O (Ag O) O O O O O hg22 (Ei tt O (Ag O) O O O O O Y ?_);obtain ⟨hg23,h⟩:=Ac h;refine Ei tt O (Ag O) O O O O O hg23 ?_;obtain ⟨hg24,h⟩:=Ac h;refine Ei tt O (Ag O) O O O O O hg24 ?_;obtain ⟨hg25,h⟩:=Ac h;refine Ei tt O (Ag O) O O O O O hg25 ?_;obtain ⟨v11,hc26,h⟩:=Ad h;refine Qh (Yh N (4:Int) (((1:Int)*2 ^ ((((4:Int)-(min (2:Int) ((4:Int)-(1:Int))))).toNat))-(1:Int)) v11 hc26) rfl (Ag rfl) rfl rfl rfl rfl rfl rfl (by first | rfl | kernel_rfl | (simp [nrL,nm,Gq,nmT,Hg]; done)) rfl (by first | rfl | kernel_rfl | (simp [Lt,nrL,nm,Gq,nmT,Hg,hid,Gm,Ed,Cc]; done) | (simp [Lt,nrL,nm,Gq,nmT,Hg,hid,Gm,Ed,Cc]; decide)) ⟨rfl,rfl,Y⟩ (Tp ?_);show VO _ _ _ _ _;refine Gb (Ag O) (Ds Kk O O) O O (As tt O O O O O O O O O O O ⟨Y,Y,Y,Y,Y⟩ (Af (Ay ?_)));show ∃ _,_;cases h;exact ⟨[18,24,1610],O,⟨O,O,O,Y⟩,⟨O,Y⟩,O⟩
def Mz (N:Nat) (c_0:Cur):Option (Lnk×Int×Int):=
 (Hm N c_0).bind fun v1=>
 (Bk N (⟨c_0.b,v1.2.1,v1.2.2⟩:Cur) (14:Int)).bind fun v2=>
 cnd (v2.1==(0:Int)) (
  some ((⟨⟨⟨v1.1.f.g.n,v1.1.f.g.bars⟩,v1.1.f.places⟩,([]:List Int)⟩:Lnk),v2.2.1,v2.2.2)) (
  cnd (v2.1==(1:Int)) (
   grd (v1.1.ground.length+1≤4294967296) <|
   some ((⟨⟨⟨v1.1.f.g.n,v1.1.f.g.bars⟩,v1.1.f.places⟩,(v1.1.ground++([(0:Int)]:List Int))⟩:Lnk),v2.2.1,v2.2.2)) (
   some ((⟨⟨⟨v1.1.f.g.n,v1.1.f.g.bars⟩,v1.1.f.places⟩,v1.1.ground⟩:Lnk),v2.2.1,v2.2.2)))
theorem Vt (N:Nat) (c_0:Cur) (r:Lnk×Int×Int) (h:Mz N c_0=some r):MCall Tryz.prog 73 [.ptr 1000000 0] [900101,900102,900103] [1000000] [(42,.pairs []),(95,.pairs []),(3,.ints [])] [(42,.pairs r.1.f.g.bars),(95,.pairs r.1.f.places),(3,.ints r.1.ground)] [[.ro false (.bytes c_0.b),.int c_0.i,.int c_0.h]] [[.ro false (.bytes c_0.b),.int r.2.1,.int r.2.2]] (.agg [.int r.1.f.g.n,.row 900101 0 r.1.f.g.bars.length,.row 900102 0 r.1.f.places.length,.row 900103 0 r.1.ground.length]):=by
 unfold Mz at h;refine Cy (TT:=TT) tt Tryz.func73 O O Tryz.ntmps73 (congrArg Array.toList Tryz.results73) O O O O O fun w0 O0=>(Ah (Ab (Bq tt O O O O O O O O O (Af (Ah (Ab (Aa O (Kn (En.zero 9504 42 (.pairs []) O O) (Kn (En.zero 9505 95 (.pairs []) O O) ?_)))))))));refine Kn (En.zero 9506 3 (.ints []) O O) ?_;obtain ⟨v1,hc1,h⟩:=Ad h;refine Bs (Rc N c_0 v1 hc1) [9504,9505,9506] [1000000] [1050,1051,1052] O O O O O O ⟨O,O,O,Y⟩ ⟨O,Y⟩ ⟨⟨O,O⟩,Y⟩ (Bq tt O O O O O O O O O (As tt O O O O O O O O O O O ⟨Y,Y,Y,Y,Y⟩ (Af (Ah (Ah (Ab (Aa O ?_)))))));obtain ⟨v2,hc2,h⟩:=Ad h;refine Bs (Bc N (⟨c_0.b,v1.2.1,v1.2.2⟩:Cur) (14:Int) v2 hc2) [] [1000000] [] O O O O O O Y ⟨O,Y⟩ ⟨⟨O,O⟩,⟨O,O⟩,Y⟩ (Af (Aq (Ah (Ab (Aa O (Aa O (Af (At O (fun hb3=>?_) (fun hb3=>?_)))))))))
 ·replace h:=Ai hb3 h;refine Ab (Cj tt (Ag O) O O O O (Aa O (As tt O O O O O O O O O O O ⟨Y,Y⟩ (Af (Ah (Ab (Aa O (As tt O O O O O O O O O O O ⟨Y,Y,Y,Y,Y⟩ (Af ?_)))))))));refine vNilB 2 3 9001 3 (.ints []) O O O O O (Ay ?_);show ∃ _,_;cases h;exact ⟨[1050,1051,9001],O,⟨O,O,O,Y⟩,⟨O,Y⟩,O⟩
 replace h:=Aj hb3 h;refine Ah (Ab (Aa O (Aa O (Af (At O (fun hb4=>?_) (fun hb4=>?_))))))
 ·replace h:=Ai hb4 h;refine Ab (Aa O (Aa O (Dr tt O O O O O O O O O O O ?_)));obtain ⟨hg5,h⟩:=Ac h;refine Cn tt O O O O O O O O O O O O O O O O (Nat.le_of_eq (Nat.zero_add _)) hg5 (Aa O (As tt O O O O O O O O O O O ⟨Y,Y⟩ (Af (Ah (Ab (Aa O (As tt O O O O O O O O O O O ⟨Y,Y,Y,Y,Y⟩ (Af (Ay ?_)))))))));show ∃ _,_;cases h;exact ⟨[1050,1051,1052],O,⟨O,O,O,Y⟩,⟨O,Y⟩,O⟩
 replace h:=Aj hb4 h;refine Ar (Ah (Ab (Aa O (As tt O O O O O O O O O O O ⟨Y,Y,Y,Y,Y⟩ (Af (Ay ?_))))));show ∃ _,_;cases h;exact ⟨[1050,1051,1052],O,⟨O,O,O,Y⟩,⟨O,Y⟩,O⟩
def Eg (N:Nat) (a_0:List (Int×Int)) (b_1:List (Int×Int)) (k:Unit→Option (Bool)):Nat→Int→Option (Bool)
 | 0,_=>none
 | n+1,i3=>
  cnd (decide (i3<(a_0.length:Int))) (
   grd (0≤i3∧i3<(a_0.length:Int)) <|
   grd (0≤i3∧i3<(b_1.length:Int)) <|
   cnd (!(((a_0.getD ((i3).toNat) (0,0)).1==(b_1.getD ((i3).toNat) (0,0)).1)&&((a_0.getD ((i3).toNat) (0,0)).2==(b_1.getD ((i3).toNat) (0,0)).2))) (
    some false) (
    grd (Bg (i3+(1:Int))) <|
    Eg N a_0 b_1 k n (i3+(1:Int)))) (
   k ())
def Ka (N:Nat) (a_0:List (Int×Int)) (b_1:List (Int×Int)):Option (Bool):=
 cnd ((a_0.length:Int) != (b_1.length:Int)) (
  some false) (
  Eg N a_0 b_1 (fun (_ : Unit) =>
     some true) N (0:Int))
theorem Zb (N:Nat) (a_0:List (Int×Int)) (b_1:List (Int×Int)) (r:Bool) (h:Ka N a_0 b_1=some r):PCall Tryz.prog 39 [.ro false (.pairs a_0),.ro false (.pairs b_1)] [] (.bool r):=by
 unfold Ka at h;refine Ak (TT:=TT) tt Tryz.func39 O O Tryz.ntmps39 (congrArg Array.toList Tryz.results39) O O fun w0=>(Ah (Ab (Aa O (Af (Ah (Ah (Ab ?_)))))));iterate 5 refine Aa O ?_
 refine Af (At O (fun hb1=>?_) (fun hb1=>?_))
 ·replace h:=Ai hb1 h;refine Ah (Ab (Aa O (Af (Ay ?_))));show ∃ _,_;cases h;exact ⟨[],_,O,Y,O,.eq O,O⟩
 replace h:=Aj hb1 h;refine Ar (Ah (Ah (Ab (Aa O (Af (Cb (F:=fun k=>Eg N a_0 b_1 k) h (α:=Unit) (J:=fun (_:Unit)=>(⟨[],[],[]⟩:PS)) ?_ ?_))))))
 ·rintro ⟨⟩ h;show VC _ _ _ (⟨[],[],[]⟩:PS);refine Ah (Ab (Aa O (Af (Ay ?_))));show ∃ _,_;cases h;exact ⟨[],_,O,Y,O,.eq O,O⟩
 intro k h;refine Aq (Bh (α:=Int) (fun (i3:Int)=>(⟨[(0,.ro false (.pairs a_0)),(1,.ro false (.pairs b_1)),(5,.int i3)],[],[]⟩:PS)) (Eg N a_0 b_1 k) h (En.of ⟨O,O,O,Y⟩ trivial trivial) (fun _=>O) ?_);rintro n i3 h;rw [Eg] at h;show VC _ _ _ (⟨[(0,.ro false (.pairs a_0)),(1,.ro false (.pairs b_1)),(5,.int i3)],[],[]⟩:PS);refine Ah (Ah (Ab ?_));iterate 4 refine Aa O ?_
 refine Af (At O (fun hb2=>?_) (fun hb2=>?_))
 ·replace h:=Ai hb2 h;refine Ar (Ah (Aq (Ah (Bt (by kernel_rfl) (by kernel_rfl) ?_))));iterate 2 refine Bb tt O (Ag O) O O O Y ?_
  obtain ⟨hg3,h⟩:=Ac h;refine Bb tt O (Ag O) O O O hg3 ?_;iterate 3 refine Bb tt O (Ag O) O O O Y ?_
  obtain ⟨hg4,h⟩:=Ac h;refine Bb tt O (Ag O) O O O hg4 (Bb tt O (Ag O) O O O Y (Pb (Ag O) (pNeP Cd O O O) O O (Km (At O (fun hb5=>?_) (fun hb5=>?_)))))
  ·replace h:=Ai hb5 h;refine Ah (Ab (Aa O (Af (Ay ?_))));show ∃ _,_;cases h;exact ⟨[],_,O,Y,O,.eq O,O⟩
  replace h:=Aj hb5 h;refine Ar (Ab (Aa O ?_));obtain ⟨hg6,h⟩:=Ac h;refine Ae tt O hg6 (Aa O (Af ?_));show ∃ _,_;exact ⟨(i3+(1:Int)),(En.of ⟨O,O,O,Y⟩ trivial trivial),h⟩
 replace h:=Aj hb2 h;refine Br ?_;show ∃ _,_;exact ⟨(),(En.of trivial trivial trivial),h⟩
end
section
open Go.RowKit
def Tb (N:Nat) (c_0:Cur):Option (Frm×Int×Int):=
 (Ha N c_0).bind fun v1=>
 (Bk N (⟨c_0.b,v1.2.1,v1.2.2⟩:Cur) (14:Int)).bind fun v2=>
 cnd (v2.1==(0:Int)) (
  (Lg N (⟨c_0.b,v2.2.1,v2.2.2⟩:Cur) ([(-1:Int),(5:Int),(9:Int)]:List Int)).bind fun v3=>
  grd (0≤(0:Int)∧(0:Int)<(v1.1.places.length:Int)) <|
  grd (v1.1.places.length=(v1.1.places.set ((0:Int).toNat) (v3.1,(v1.1.places.getD ((0:Int).toNat) (0,0)).2)).length) <|
  some ((⟨⟨v1.1.g.n,v1.1.g.bars⟩,(v1.1.places.set ((0:Int).toNat) (v3.1,(v1.1.places.getD ((0:Int).toNat) (0,0)).2))⟩:Frm),v3.2.2.1,v3.2.2.2)) (
  cnd (v2.1==(1:Int)) (
   grd (0≤(1:Int)∧(1:Int)≤(v1.1.places.length:Int)) <|
   some ((⟨⟨v1.1.g.n,v1.1.g.bars⟩,((v1.1.places.take v1.1.places.length).drop ((1:Int).toNat))⟩:Frm),v2.2.1,v2.2.2)) (
   some ((⟨⟨v1.1.g.n,v1.1.g.bars⟩,v1.1.places⟩:Frm),v2.2.1,v2.2.2)))
theorem S_l10Any_w (N:Nat) (c_0:Cur) (r:Frm×Int×Int) (h:Tb N c_0=some r):MCall Tryz.prog 89 [.ptr 1000000 0] [900101] [1000000] [(42,.pairs [])] [(42,.pairs r.1.g.bars)] [[.ro false (.bytes c_0.b),.int c_0.i,.int c_0.h]] [[.ro false (.bytes c_0.b),.int r.2.1,.int r.2.2]] (.agg [.int r.1.g.n,.row 900101 0 r.1.g.bars.length,.ro true (.pairs r.1.places)]):=by
 unfold Tb at h;refine Cy (TT:=TT) tt Tryz.func89 O O Tryz.ntmps89 (congrArg Array.toList Tryz.results89) O O O O O fun w0 O0=>(Ah (Ab (Bq tt O O O O O O O O O (Af (Ah (Ab (Aa O (Kn (En.zero 9503 42 (.pairs []) O O) (Kn (En.zero 9504 95 (.pairs []) O O) ?_)))))))));obtain ⟨v1,hc1,h⟩:=Ad h;refine Bs (Wj N c_0 v1 hc1) [9503,9504] [1000000] [1050,1051] O O O O O O ⟨O,O,Y⟩ ⟨O,Y⟩ ⟨⟨O,O⟩,Y⟩ (Bq tt O O O O O O O O O (As tt O O O O O O O O O O O ⟨Y,Y,Y,Y⟩ (Af (Ah (Ah (Ab (Aa O ?_)))))));obtain ⟨v2,hc2,h⟩:=Ad h;refine Bs (Bc N (⟨c_0.b,v1.2.1,v1.2.2⟩:Cur) (14:Int) v2 hc2) [] [1000000] [] O O O O O O Y ⟨O,Y⟩ ⟨⟨O,O⟩,⟨O,O⟩,Y⟩ (Af (Aq (Ah (Ab (Aa O (Aa O (Af (At O (fun hb3=>?_) (fun hb3=>?_)))))))))
 ·replace h:=Ai hb3 h;refine Df 5 [3,4,1040000013,1041000000] [0,1,0,0,12,31,63,127] (by kernel_rfl) (by kernel_rfl) (by kernel_rfl) (by kernel_rfl) (by kernel_rfl) O (by rfl) ?_;iterate 3 refine Ei tt O (Ag O) O O O O O Y ?_
  refine nBuild tt (Ag O) O O O O O O O O O O O O ?_;obtain ⟨v3,hc4,h⟩:=Ad h;refine nMCall (rids:=[]) (bids:=[]) (pids:=[]) (Ag rfl) (S_l1PickInt_w N (⟨c_0.b,v2.2.1,v2.2.2⟩:Cur) ([(-1:Int),(5:Int),(9:Int)]:List Int) v3 hc4) [13] [1000000] [13] rfl rfl rfl rfl rfl (by first | rfl | kernel_rfl) rfl rfl rfl rfl rfl (by first | rfl | kernel_rfl)  ⟨rfl,Y⟩ ⟨rfl,Y⟩ ⟨⟨rfl,rfl⟩,⟨rfl,rfl⟩,Y⟩ (Tp ?_);show VO _ _ _ _ _;obtain ⟨hg5,h⟩:=Ac h;refine Ae tt O hg5 (Ae tt O hg5 (As tt O O O O O O O O O O ⟨_,_,O,hg5.1,hg5.2⟩ ⟨hg5,Y⟩ (Af (Ah (Ab (Aa O (As tt O O O O O O O O O O O ⟨Y,Y,Y,Y⟩ (Af ?_))))))));show VC ..;obtain ⟨hg6,h⟩:=Ac h;refine vEn (En.freezeB 2 2 O O O O hg6) (Ay ?_);show ∃ _,_;cases h;exact ⟨[1050],O,⟨O,Y⟩,⟨O,Y⟩,O⟩
 replace h:=Aj hb3 h;refine Ah (Ab (Aa O (Aa O (Af (At O (fun hb7=>?_) (fun hb7=>?_))))))
 ·replace h:=Ai hb7 h;refine Ab (Aa O (Aa O (oFreeze (t:=20) O O O O ?_)));obtain ⟨hg8,h⟩:=Ac h;refine Ae tt O hg8 (Aa O (As tt O O O O O O O O O O O ⟨Y,Y⟩ (Af (Ah (Ab (Aa O (As tt O O O O O O O O O O O ⟨Y,Y,Y,Y⟩ (Af (Ay ?_)))))))));show ∃ _,_;cases h;exact ⟨[1050],O,⟨O,Y⟩,⟨O,Y⟩,O⟩
 replace h:=Aj hb7 h;refine Ar (Ah (Ab (Aa O (As tt O O O O O O O O O O O ⟨Y,Y,Y,Y⟩ (Af (vEn (En.freezeB 2 2 O O O O O) (Ay ?_)))))));show ∃ _,_;cases h;exact ⟨[1050],O,⟨O,Y⟩,⟨O,Y⟩,O⟩
end
section
open Go.RowKit
variable {N:Nat}
theorem Rp {α:Type} {l:List α} {i:Nat} {d:α} (h:i<l.length):l.getD i d∈l:=by
 rw [List.getD_eq_getElem?_getD,List.getElem?_eq_getElem h]; exact List.getElem_mem h
theorem Zv (hN:4000000≤N) {g:Grf} {m:Int} {k:Nat} (h:GD m k g) (hk:k≤999) {x:Int×Int} (hx:0≤x.1∧x.1<m∧0≤x.2∧x.2<m):Ok (Fl N g x) fun r=>GD m (k+1) r∧r.n=g.n∧0<r.bars.length:=by
 have hl:=h.len;obtain ⟨L,h1,h2,h3⟩:=put0_s (N:=N) hN (g:=g) (by omega) x;refine ⟨_,h1,⟨by simp only; omega,fun e he=>?_⟩,O,by simp only; omega⟩;rcases (h3 e).1 he with rfl | h4
 ·exact hx
 exact h.rg e h4
structure FD (n:Int) (k:Nat) (f:Frm):Prop where
 pn:f.g.n=n
 pl:(f.places.length:Int)=n
 on:∀ e∈f.places,Fc e=true
 len:f.g.bars.length≤k
 sub:∀ e∈f.g.bars,0≤e.1∧e.1<n∧0≤e.2∧e.2<n
theorem of_d (hN:4000000≤N) {c:Cur} (hc:CK c) {g:Grf} {k:Nat} (hk:k≤999) (hn:0≤g.n∧g.n≤64) (hg:GD g.n k g):Ok (Lf N c g) fun r=>FD g.n k r.1∧0≤r.2.1:=by
 unfold Lf;have hl:=hg.len
 have bars:∀ (ps:List (Int×Int)) (ci ch:Int),(ps.length:Int)=g.n→(∀ e∈ps,Fc e=true)→0≤ci→∀ (fuel i:Nat) (l:List (Int×Int)),i≤g.bars.length→g.bars.length<fuel+i→l.length≤i→(∀ e∈l,e∈g.bars) →
   Ok (Ez N g ps (fun (l22:List (Int×Int))=>some ((⟨⟨g.n,l22⟩,ps⟩:Frm),ci,ch)) fuel (l,(i:Int))) fun r=>FD g.n k r.1∧0≤r.2.1:=by
  intro ps ci ch hp1 hp2 hci fuel
  induction fuel with
  | zero=>intro i l h1 h2; omega
  | succ fuel ih=>
   intro i l h1 h2 h3 h4;rw [Ez];have e2:((i:Int)).toNat=i:=rfl;rw [e2];refine Cl (fun c1=>?_) (fun c1=>Bx ⟨⟨O,hp1,hp2,by simp only; omega,fun e he=>hg.rg e (h4 e he)⟩,hci⟩);rw [decide_eq_true_eq] at c1;have hin:=Rp (l:=g.bars) (i:=i) (d:=(0,0)) (by omega);obtain ⟨b1,b2,b3,b4⟩:=hg.rg _ hin
   have hx:∀ e∈l++[((g.bars.getD i (0,0)).1,(g.bars.getD i (0,0)).2)],e∈g.bars:=fun e he=>by
    rcases List.mem_append.1 he with he | he
    ·exact h4 e he
    simp only [List.mem_singleton] at he; rw [he]; exact hin
   refine Ba ⟨by omega,by omega⟩ (Ba ⟨b1,by omega⟩ (Ba ⟨b3,by omega⟩ (Cl (fun c2=>?_) (fun c2=>Ba ⟨by omega,by omega⟩ (ih (i+1) l (by omega) (by omega) (by omega) h4)))));refine Cl (fun c3=>?_) (fun c3=>?_)
   ·exact Ba (by omega) (Ba ⟨by omega,by omega⟩ (ih (i+1) _ (by omega) (by omega) (by simp; omega) hx))
   have c3:¬ (i:Int)=0:=by simpa using c3
   refine Ba ⟨by omega,by omega⟩ (Ba ⟨by omega,by omega⟩ (Cl (fun c4=>?_) (fun c4=>?_)))
   ·exact Ba (by omega) (Ba ⟨by omega,by omega⟩ (ih (i+1) _ (by omega) (by omega) (by simp; omega) hx))
   exact Ba ⟨by omega,by omega⟩ (ih (i+1) l (by omega) (by omega) (by omega) h4)
 have key:∀ (fuel i:Nat) (l:List (Int×Int)) (ci ch:Int),(i:Int)≤g.n→g.n<fuel+i→l.length=i→(∀ e∈l,Fc e=true)→0≤ci →
   Ok (Jm N c g (fun (x:(List (Int×Int))×Int×Int)=>
   match x with
   | (l16,c17,c18)=>
    Ez N g l16 (fun (l22 : List (Int × Int)) =>
       some ((⟨⟨g.n,l22⟩,l16⟩:Frm),c17,c18)) N (([]:List (Int×Int)),(0:Int))) fuel (l,(i:Int),ci,ch)) fun r=>FD g.n k r.1∧0≤r.2.1:=by
  intro fuel
  induction fuel with
  | zero=>intro i l ci ch h1 h2; omega
  | succ fuel ih=>
   intro i l ci ch h1 h2 h3 h4 h5;rw [Jm];refine Cl (fun c1=>?_) (fun c1=>?_)
   ·rw [decide_eq_true_eq] at c1;refine Ax (Di (hc.at h5) 5) fun x hx=>Ax (Di (hc.at hx.cur) 5) fun y hy=>?_;have x0:=hx.nn;have x1:=hx.lt (by omega);have y0:=hy.nn;have y1:=hy.lt (by omega);refine Ba (by omega) (Ba ⟨by omega,by omega⟩ (ih (i+1) _ _ _ (by omega) (by omega) (by simp; omega) (fun e he=>?_) hy.cur));rcases List.mem_append.1 he with he | he
    ·exact h4 e he
    simp only [List.mem_singleton] at he; subst he;simp [Fc,inB]; omega
   rw [decide_eq_false_iff_not] at c1;exact bars l ci ch (by omega) h4 h5 N 0 [] (by omega) (by omega) (by simp) (by simp)
 exact key N 0 [] _ _ (by omega) (by omega) O (by simp) hc.nn
theorem simple_d (hN:4000000≤N) {c:Cur} (hc:CK c) {n odd:Int} (hn:0≤n∧n≤64):Ok (Md N c n odd) fun r=>GD n 24 r.1∧r.1.n=n∧0≤r.2.1:=by
 unfold Md
 have inner:∀ (a:Nat) {kk:(List (Int×Int))×Int×Int→Option (Grf×Int×Int)},(a:Int)<n→(∀ l ci ch,GD n 24 ⟨n,l⟩→0≤ci→Ok (kk (l,ci,ch)) fun r=>GD n 24 r.1∧r.1.n=n∧0≤r.2.1) →
   ∀ (fuel b:Nat) (l:List (Int×Int)) (ci ch:Int),(b:Int)≤n→n<fuel+b→GD n 24 ⟨n,l⟩→0≤ci→Ok (Dw N c n odd (a:Int) kk fuel (l,(b:Int),ci,ch)) fun r=>GD n 24 r.1∧r.1.n=n∧0≤r.2.1:=by
  intro a kk ha hk fuel
  induction fuel with
  | zero=>intro b l ci ch h1 h2; omega
  | succ fuel ih=>
   intro b l ci ch h1 h2 h3 h4;rw [Dw];have hl:=h3.len;refine Cl (fun c1=>?_) (fun c1=>hk l ci ch h3 h4);rw [decide_eq_true_eq] at c1;refine Ax (Di (hc.at h4) 10) fun x hx=>(Cl (fun c2=>?_) (fun c2=>Ba ⟨by omega,by omega⟩ (ih (b+1) l _ _ (by omega) (by omega) h3 hx.cur)));refine Cl (fun c3=>?_) (fun c3=>Ba ⟨by omega,by omega⟩ (ih (b+1) l _ _ (by omega) (by omega) h3 hx.cur));rw [decide_eq_true_eq] at c3;refine Ba (by omega) (Ba ⟨by omega,by omega⟩ (ih (b+1) _ _ _ (by omega) (by omega) ⟨by simp; omega,fun e he=>?_⟩ hx.cur));rcases List.mem_append.1 he with he | he
   ·exact h3.rg e he
   simp only [List.mem_singleton] at he; subst he; simp only; omega
 have outer:∀ (fuel a:Nat) (l:List (Int×Int)) (ci ch:Int),(a:Int)≤n→n<fuel+a→GD n 24 ⟨n,l⟩→0≤ci→Ok (Fk N c n odd (fun (x:(List (Int×Int))×Int×Int)=>
   match x with
   | (l88,c89,c90)=>
    some ((⟨n,l88⟩:Grf),c89,c90)) fuel (l,(a:Int),ci,ch)) fun r=>GD n 24 r.1∧r.1.n=n∧0≤r.2.1:=by
  intro fuel
  induction fuel with
  | zero=>intro a l ci ch h1 h2; omega
  | succ fuel ih=>
   intro a l ci ch h1 h2 h3 h4;rw [Fk];refine Cl (fun c1=>?_) (fun c1=>Bx ⟨h3,O,h4⟩);rw [decide_eq_true_eq] at c1;refine Ba ⟨by omega,by omega⟩ ?_;rw [Al];exact inner a c1 (fun l ci ch k1 k2=>ih (a+1) l ci ch (by omega) (by omega) k1 k2) N (a+1) l ci ch (by omega) (by omega) h3 h4
 exact outer N 0 [] _ _ (by omega) (by omega) ⟨by simp,by simp⟩ hc.nn
theorem third_d {c:Cur} (hc:CK c) {n w:Int} {x:Int×Int} (hn:0<n) (hw:0≤w∧w<n):Ok (Mh N c n x w) fun r=>(0≤r.1∧r.1<n)∧0≤r.2.1:=by
 unfold Mh;refine Ax (Di hc n) fun v hv=>?_;have v0:=hv.nn;have v1:=hv.lt hn;exact Cl (fun _=>Bx ⟨hw,hv.cur⟩) fun _=>Cl (fun _=>Bx ⟨hw,hv.cur⟩) fun _=>Bx ⟨⟨v0,v1⟩,hv.cur⟩
theorem laman_d (hN:4000000≤N) {c:Cur} (hc:CK c) {n:Int} (hn:0≤n∧n≤8):Ok (Kd N c n) fun r=>GD n 40 r.1∧r.1.n=n∧0≤r.2.1∧(2≤n→0<r.1.bars.length):=by
 unfold Kd;refine Cl (fun c1=>Bx ⟨⟨by simp,by simp⟩,O,hc.nn,fun h=>by rw [decide_eq_true_eq] at c1; omega⟩) (fun c1=>?_);rw [decide_eq_false_iff_not] at c1
 have key : ∀ (fuel : Nat) (l : List (Int × Int)) (v ci ch : Int), GD n (3 * v.toNat) ⟨n, l⟩ → 0 < l.length → 2 ≤ v → v ≤ n → 0 ≤ ci → 9 < fuel + v → Ok (Da N c n (fun (x : (List (Int × Int)) × Int × Int × Int) =>
    match x with
    | (l58,c59,c60,c61)=>
     some ((⟨c61,l58⟩:Grf),c59,c60)) fuel (l,v,ci,ch,n)) fun r=>GD n 40 r.1∧r.1.n=n∧0≤r.2.1∧(2≤n→0<r.1.bars.length):=by
  intro fuel
  induction fuel with
  | zero=>intro l v ci ch h1 h2 h3 h4 h5 h6; omega
  | succ fuel ih=>
   intro l v ci ch hg hl hv2 hvn hci hf;have hgl:=hg.len;rw [Da];refine Cl (fun c1=>?_) (fun c1=>Bx ⟨⟨by simp only at hgl ⊢; omega,hg.rg⟩,O,hci,fun _=>hl⟩);rw [decide_eq_true_eq] at c1;refine Ax (Di (hc.at hci) v) fun x hx=>?_;have x0:=hx.nn;have x1:=hx.lt (by omega);refine Ba ⟨by omega,by omega⟩ (Ba ⟨by omega,by omega⟩ (Ax (Di (hc.at hx.cur) (v-1)) fun y hy=>?_));have y0:=hy.nn;have y1:=hy.lt (by omega);refine Ba ⟨by omega,by omega⟩ (Ba (by omega) (Ax (once_s (hc.at hy.cur) 2) fun o ho=>?_));have tm:0≤Int.tmod (x.1+1+y.1) v∧Int.tmod (x.1+1+y.1) v<v:=⟨Int.tmod_nonneg v (by omega),Int.tmod_lt_of_pos _ (by omega)⟩
   have two:Ok ((Fl N (⟨n,l⟩:Grf) (x.1,v)).bind fun v115=>
     (Fl N v115 ((Int.tmod ((x.1+(1:Int))+y.1) v),v)).bind fun v116=>
     grd (Bg (v+(1:Int))) <|
     Da N c n (fun (x:(List (Int×Int))×Int×Int×Int)=>
    match x with
    | (l58,c59,c60,c61)=>
     some ((⟨c61,l58⟩:Grf),c59,c60)) fuel (v116.bars,(v+(1:Int)),o.2.1,o.2.2,v116.n)) fun r=>GD n 40 r.1∧r.1.n=n∧0≤r.2.1∧(2≤n→0<r.1.bars.length):=by
    refine Ax (Zv hN hg (by omega) ⟨x0,by omega,by omega,by omega⟩) fun g1 k1=>(Ax (Zv hN k1.1 (by omega) ⟨tm.1,by omega,by omega,by omega⟩) fun g2 k2=>?_);have en:g2.n=n:=by rw [k2.2.1,k1.2.1]
    refine Ba ⟨by omega,by omega⟩ ?_;rw [en];exact ih _ _ _ _ ⟨by have:=k2.1.len; simp only; omega,k2.1.rg⟩ k2.2.2 (by omega) (by omega) ho (by omega)
   refine Cl (fun c2=>?_) (fun c2=>two);refine Cl (fun c3=>?_) (fun c3=>two);rw [decide_eq_true_eq] at c3;refine Ax (Di (hc.at ho) (l.length:Int)) fun z hz=>?_;have z0:=hz.nn;have z1:=hz.lt (by omega);have hin:=Rp (l:=l) (i:=z.1.toNat) (d:=(0,0)) (by omega);refine Ba ⟨z0,z1⟩ ?_;generalize he:l.getD z.1.toNat (0,0)=e at hin;obtain ⟨e1,e2,e3,e4⟩:=hg.rg e hin
   have loop : ∀ (fuel' : Nat) (w : Int), 0 ≤ w → w ≤ 2 → (w = 2 → (e.1 = 0 ∧ e.2 = 1) ∨ (e.1 = 1 ∧ e.2 = 0)) → (w = 1 → e.1 = 0 ∨ e.2 = 0) → 3 < fuel' + w → Ok (Fh N l z (fun (w107 : Int) =>
        (Mh N (⟨c.b,z.2.1,z.2.2⟩:Cur) v (e.1,e.2) w107).bind fun v108=>
        (Hl N (⟨n,l⟩:Grf) z.1).bind fun v109=>
        (Fl N v109.1 (e.1,v)).bind fun v110=>
        (Fl N v110 (e.2,v)).bind fun v111=>
        (Fl N v111 (v108.1,v)).bind fun v112=>
        grd (Bg (v+(1:Int))) <|
        Da N c n (fun (x:(List (Int×Int))×Int×Int×Int)=>
    match x with
    | (l58,c59,c60,c61)=>
     some ((⟨c61,l58⟩:Grf),c59,c60)) fuel (v112.bars,(v+(1:Int)),v108.2.1,v108.2.2,v112.n)) fuel' w) fun r=>GD n 40 r.1∧r.1.n=n∧0≤r.2.1∧(2≤n→0<r.1.bars.length):=by
    intro fuel'
    induction fuel' with
    | zero=>intro w h1 h2 h3 h4 h5; omega
    | succ fuel' ih'=>
     intro w h1 h2 h3 h4 h5;rw [Fh,he];refine Cl (fun d1=>?_) (fun d1=>?_)
     ·have d1:w=e.1:=by simpa using d1
      exact Ba ⟨by omega,by omega⟩ (ih' (w+1) (by omega) (by omega) (by omega) (by omega) (by omega))
     refine Cl (fun d2=>?_) (fun d2=>?_)
     ·have d2:w=e.2:=by simpa using d2
      exact Ba ⟨by omega,by omega⟩ (ih' (w+1) (by omega) (by omega) (by omega) (by omega) (by omega))
     refine Ax (third_d (hc.at hz.cur) (by omega) ⟨h1,by omega⟩) fun t ht=>(Ax (remove_d hN hg (by omega) z.1) fun g0 k0=>(Ax (Zv hN k0.1 (by omega) ⟨e1,e2,by omega,by omega⟩) fun g1 k1=>(Ax (Zv hN k1.1 (by omega) ⟨e3,e4,by omega,by omega⟩) fun g2 k2=>(Ax (Zv hN k2.1 (by omega) ⟨ht.1.1,by omega,by omega,by omega⟩) fun g3 k3=>?_))));have en:g3.n=n:=by rw [k3.2.1,k2.2.1,k1.2.1,k0.2]
     refine Ba ⟨by omega,by omega⟩ ?_;rw [en];exact ih _ _ _ _ ⟨by have:=k3.1.len; simp only; omega,k3.1.rg⟩ k3.2.2 (by omega) (by omega) ht.2 (by omega)
   exact loop N 0 (by omega) (by omega) (by omega) (by omega) (by omega)
 have hg0:GD n 5 ⟨n,([]:List (Int×Int))⟩:=⟨by simp,by simp⟩;refine Ax (Zv hN hg0 (by omega) (x:=(0,1)) ⟨by simp,by simp only; omega,by simp,by simp only; omega⟩) fun g k=>?_;rw [k.2.1];exact key N _ _ _ _ ⟨by have:=k.1.len; simp only; omega,k.1.rg⟩ k.2.2 (by omega) (by omega) hc.nn (by omega)
theorem frame_d (hN:4000000≤N) {c:Cur} (hc:CK c):Ok (Ha N c) fun r=>(∃ n:Int,2≤n∧n≤6∧FD n 41 r.1)∧0≤r.2.1:=by
 unfold Ha;refine Ax (Di hc 3) fun v1 h1=>?_
 have fin:∀ {c:Cur} (hc:CK c) {g:Grf} {n:Int},2≤n→n≤6→GD n 41 g→g.n=n→Ok ((Lf N c (⟨g.n,g.bars⟩:Grf)).bind fun v4=>some ((⟨⟨v4.1.g.n,v4.1.g.bars⟩,v4.1.places⟩:Frm),v4.2.1,v4.2.2)) fun r=>(∃ n:Int,2≤n∧n≤6∧FD n 41 r.1)∧0≤r.2.1:=by
  intro c hc g n h2 h6 hg hn;subst hn;refine Ax (of_d hN hc (k:=41) (by omega) (g:=⟨g.n,g.bars⟩) ⟨by simp only; omega,by simp only; omega⟩ hg) fun r hr=>Bx ⟨⟨g.n,h2,h6,hr.1⟩,hr.2⟩
 refine Cl (fun c1=>?_) (fun c1=>?_)
 ·refine Ax (Di (hc.at h1.cur) 5) fun x hx=>?_;have x0:=hx.nn;have x1:=hx.lt (by omega);refine Ba ⟨by omega,by omega⟩ (Ax (simple_d hN (hc.at hx.cur) ⟨by omega,by omega⟩) fun g hg=>?_);exact fin (hc.at hg.2.2) (by omega) (by omega) ⟨by have:=hg.1.len; omega,hg.1.rg⟩ hg.2.1
 refine Cl (fun c1=>?_) (fun c1=>?_)
 ·refine Ax (Di (hc.at h1.cur) 4) fun x hx=>?_;have x0:=hx.nn;have x1:=hx.lt (by omega);refine Ba ⟨by omega,by omega⟩ (Ax (laman_d hN (hc.at hx.cur) ⟨by omega,by omega⟩) fun g hg=>(Ax (Di (hc.at hg.2.2.1) _) fun y hy=>Ax (Di (hc.at hy.cur) _) fun z hz=>(Ax (add_d hN hg.1 (by omega) (by rw [hg.2.1]; omega) y.1 z.1) fun g' hg'=>?_)));exact fin (hc.at hz.cur) (by omega) (by omega) hg'.1 (by rw [hg'.2,hg.2.1])
 refine Ax (Di (hc.at h1.cur) 5) fun x hx=>?_;have x0:=hx.nn;have x1:=hx.lt (by omega);refine Ba ⟨by omega,by omega⟩ (Ax (laman_d hN (hc.at hx.cur) ⟨by omega,by omega⟩) fun g hg=>?_);exact fin (hc.at hg.2.2.1) (by omega) (by omega) ⟨by have:=hg.1.len; omega,hg.1.rg⟩ hg.2.1
theorem pickInt_d {c:Cur} (hc:CK c) {l:List Int} (hl:0<l.length):Ok (Lg N c l) fun r=>r.1∈l∧0≤r.2.2.1:=by
 unfold Lg;refine Ax (Di hc _) fun v hv=>?_;have v0:=hv.nn;have v1:=hv.lt (by omega);exact Ba ⟨v0,v1⟩ (Bx ⟨Rp (by omega),hv.cur⟩)
theorem any10_d (hN:4000000≤N) {c:Cur} (hc:CK c):Ok (Tb N c) fun r=>r.1.places.length≤6∧r.1.g.bars.length≤41∧0≤r.2.1:=by
 unfold Tb;refine Ax (frame_d hN hc) fun f hf=>?_;obtain ⟨⟨n,n2,n6,hf⟩,hcur⟩:=hf;have hp:=hf.pl;have hb:=hf.len;refine Ax (Di (hc.at hcur) 14) fun v hv=>(Cl (fun c1=>?_) (fun c1=>?_))
 ·refine Ax (pickInt_d (hc.at hv.cur) (by simp)) fun x hx=>?_;exact Ba ⟨by omega,by omega⟩ (Ba (by simp) (Bx ⟨by simp; omega,hb,hx.2⟩))
 refine Cl (fun c1=>?_) (fun c1=>?_)
 ·exact Ba ⟨by omega,by omega⟩ (Bx ⟨by simp; omega,hb,hv.cur⟩)
 exact Bx ⟨by simp only; omega,hb,hv.cur⟩
end
section
open Go.RowKit
variable {N:Nat}
structure LD (l:Lnk):Prop where
 pl:l.f.places.length≤8
 bl:l.f.g.bars.length≤50
 gl:l.ground.length≤8
theorem link_d (hN:4000000≤N) {c:Cur} (hc:CK c):Ok (Hm N c) fun r=>(r.1.f.places.length≤4∧r.1.f.g.bars.length≤41∧r.1.ground.length≤4)∧0≤r.2.1:=by
 unfold Hm;refine Ax (Di hc 3) fun v1 h1=>?_;have b0:=h1.nn;have b1:=h1.lt (by omega);refine Ba ⟨by omega,by omega⟩ (Ax (Di (hc.at h1.cur) 3) fun v2 h2=>?_)
 have pw:∀ x:Int,0≤x→x≤4→0≤(2:Int) ^ x.toNat∧(2:Int) ^ x.toNat≤16:=fun x h1 h2=>by
  have:x.toNat=0∨x.toNat=1∨x.toNat=2∨x.toNat=3∨x.toNat=4:=by omega
  rcases this with e | e | e | e | e <;> rw [e] <;> decide
 have tail:∀ {g:Grf} {c:Cur} (hc:CK c),GD (2+v1.1) 40 g→g.n=2+v1.1→Ok ((Lf N c (⟨g.n,g.bars⟩:Grf)).bind fun v4=>
  grd (Bg (((2:Int)+v1.1)-(1:Int))) <|
  grd (Bg (((2:Int)+v1.1)-(min (2:Int) (((2:Int)+v1.1)-(1:Int))))) <|
  grd (0≤(((2:Int)+v1.1)-(min (2:Int) (((2:Int)+v1.1)-(1:Int))))∧(((2:Int)+v1.1)-(min (2:Int) (((2:Int)+v1.1)-(1:Int))))<64∧Bg ((1:Int)*2 ^ (((((2:Int)+v1.1)-(min (2:Int) (((2:Int)+v1.1)-(1:Int))))).toNat))) <|
  grd (Bg (((1:Int)*2 ^ (((((2:Int)+v1.1)-(min (2:Int) (((2:Int)+v1.1)-(1:Int))))).toNat))-(1:Int))) <|
  (Ql N ((2:Int)+v1.1) (((1:Int)*2 ^ (((((2:Int)+v1.1)-(min (2:Int) (((2:Int)+v1.1)-(1:Int))))).toNat))-(1:Int))).bind fun v5=>
  some ((⟨⟨⟨v4.1.g.n,v4.1.g.bars⟩,v4.1.places⟩,v5⟩:Lnk),v4.2.1,v4.2.2)) fun r=>(r.1.f.places.length≤4∧r.1.f.g.bars.length≤41∧r.1.ground.length≤4)∧0≤r.2.1:=by
  intro g c hc hg hgn;refine Ax (of_d hN hc (g:=⟨g.n,g.bars⟩) (k:=40) (by omega) ⟨by simp only; omega,by simp only; omega⟩ (by rw [show g.n=2+v1.1 from hgn]; exact ⟨hg.len,hg.rg⟩)) fun f hf=>?_;obtain ⟨hf,hcur⟩:=hf;have hp:=hf.pl;have hb:=hf.len;simp only at hp;have q:=pw (((2:Int)+v1.1)-(min (2:Int) (((2:Int)+v1.1)-(1:Int)))) (by omega) (by omega);refine Ba ⟨by omega,by omega⟩ (Ba ⟨by omega,by omega⟩ (Ba ⟨by omega,by omega,⟨by omega,by omega⟩⟩ (Ba ⟨by omega,by omega⟩ ?_)));rw [setS_s hN (by omega),Option.bind_some];refine Bx ⟨⟨by simp only; omega,by simp only; omega,?_⟩,hcur⟩;have:=setU_len ((1:Int)*2 ^ (((((2:Int)+v1.1)-(min (2:Int) (((2:Int)+v1.1)-(1:Int))))).toNat)-(1:Int)) ((2:Int)+v1.1).toNat;simp only; omega
 refine Cl (fun c1=>?_) (fun c1=>?_)
 ·refine Ax (laman_d hN (hc.at h2.cur) ⟨by omega,by omega⟩) fun g hg=>?_;exact tail (hc.at hg.2.2.1) hg.1 hg.2.1
 refine Cl (fun c1=>?_) (fun c1=>?_)
 ·refine Ax (laman_d hN (hc.at h2.cur) ⟨by omega,by omega⟩) fun g hg=>?_;refine Ax (Di (hc.at hg.2.2.1) _) fun x hx=>(Ax (remove_d hN hg.1 (by omega) x.1) fun g' hg'=>?_);exact tail (hc.at hx.cur) hg'.1 (by rw [hg'.2]; exact hg.2.1)
 refine Ba ⟨by omega,by omega⟩ (Ba ⟨by omega,by omega⟩ (Ba ⟨by omega,by omega,⟨by decide,by decide⟩⟩ (Ba ⟨by decide,by decide⟩ ?_)));rw [setS_s hN (by omega),Option.bind_some];refine Bx ⟨⟨by simp,by simp,?_⟩,h2.cur⟩;have:=setU_len ((1:Int)*2 ^ (((4:Int)-(min (2:Int) ((4:Int)-(1:Int)))).toNat)-(1:Int)) ((4:Int)).toNat;have e:((4:Int)).toNat=4:=rfl;simp only; omega
theorem any24_d (hN:4000000≤N) {c:Cur} (hc:CK c):Ok (Mz N c) fun r=>LD r.1∧0≤r.2.1:=by
 unfold Mz;refine Ax (link_d hN hc) fun v1 h1=>?_;obtain ⟨⟨a,b,d⟩,hcur⟩:=h1;refine Ax (Di (hc.at hcur) 14) fun v2 h2=>(Cl (fun _=>Bx ⟨⟨by simp only; omega,by simp only; omega,by simp⟩,h2.cur⟩) fun _=>Cl (fun _=>Ba (by omega) (Bx ⟨⟨by simp only; omega,by simp only; omega,by simp; omega⟩,h2.cur⟩)) fun _=>Bx ⟨⟨by simp only; omega,by simp only; omega,by simp only; omega⟩,h2.cur⟩)
end
section
variable {n:Nat} {N:Nat}
end
section
variable {n:Nat}
end
section
variable {n:Nat} {N:Nat}
end
section
variable {n:Nat}
end
section
variable {n:Nat} {N:Nat}
end
section
variable {n:Nat} {N:Nat}
end
section
variable {N:Nat}
end
section
variable {N:Nat}
end
section
open Go.RowKit
variable {n:Nat} {N:Nat}
theorem Su {α:Type} [DecidableEq α]:∀ {I L:List α},I.Nodup→(∀ e∈I,e∈L)→I.length≤L.length
 | [],L,_,_=>by simp
 | e::I,L,h,hm=>by
  have h1:=List.nodup_cons.1 h;have he:=hm e (by simp)
  have h2:=Su (I:=I) (L:=L.erase e) h1.2 fun x hx=>by
   have hne:x≠e:=fun hc=>h1.1 (by rw [←hc]; exact hx);exact (List.mem_erase_of_ne hne).2 (hm x (by simp [hx]))
  rw [List.length_erase_of_mem he] at h2;have:0<L.length:=List.length_pos_of_mem he;simp only [List.length_cons]; omega
end
section
open Go.RowKit
variable {n:Nat} {N:Nat}
end
section
open Go.RowKit
variable {n:Nat} {N:Nat}
theorem has_s (hN:4000000≤N) {l:List Int} (hl:l.length≤3000000) (x:Int):L_has N l x=some (l.contains x):=by
 have key:∀ (fuel i:Nat),i≤l.length→l.length<fuel+i→Wu N l x (fun (_:Unit)=>some false) fuel (i:Int)=some ((l.drop i).contains x):=by
  intro fuel
  induction fuel with
  | zero=>intro i h1 h2; omega
  | succ fuel ih=>
   intro i h1 h2;rw [Wu];by_cases hi:i<l.length
   ·have e2:((i:Int)).toNat=i:=rfl
    have ed:l.drop i=l.getD i 0::l.drop (i+1):=by
     rw [List.drop_eq_getElem_cons hi]; simp [List.getD_eq_getElem?_getD,hi]
    rw [Av (by omega),Am (by omega),e2,ed,List.contains_cons];by_cases e:l.getD i 0=x
    ·rw [cnd_eqt e,e]; simp
    rw [cnd_eqf e,Ci (by omega) (by omega),Al,ih (i+1) (by omega) (by omega)];have:(x==l.getD i 0)=false:=by simpa using fun h=>e h.symm
    rw [this,Bool.false_or]
   rw [Au (by omega),List.drop_eq_nil_of_le (by omega)]; rfl
 have:=key N 0 (by omega) (by omega);simpa [L_has] using this
theorem Tv (hN:4000000≤N) {l:List Int} (hl:l.length≤3000000):Jt N l l=some true:=by
 have key:∀ (fuel i:Nat),i≤l.length→l.length<fuel+i→Fo N l l (fun (_:Unit)=>some true) fuel (i:Int)=some true:=by
  intro fuel
  induction fuel with
  | zero=>intro i h1 h2; omega
  | succ fuel ih=>
   intro i h1 h2;rw [Fo];by_cases hi:i<l.length
   ·rw [Av (by omega),Am (by omega),Am (by omega),Ev rfl,Ci (by omega) (by omega),Al,ih (i+1) (by omega) (by omega)]
   rw [Au (by omega)]
 unfold Jt;rw [Ev rfl];exact key N 0 (by omega) (by omega)
end
section
open Go.RowKit
variable {N:Nat}
theorem getD_inL {α:Type} {l:List α} {i:Nat} {d:α} (h:i<l.length):l.getD i d∈l:=by
 rw [List.getD_eq_getElem?_getD,List.getElem?_eq_getElem h]; exact List.getElem_mem h
theorem sameSets_s (hN:4000000≤N) {l:List (List Int)} (hl:l.length≤3000000) (h:∀ x∈l,x.length≤3000000):Ly N l l=some true:=by
 have key:∀ (fuel i:Nat),i≤l.length→l.length<fuel+i→Fp N l l (fun (_:Unit)=>some true) fuel (i:Int)=some true:=by
  intro fuel
  induction fuel with
  | zero=>intro i h1 h2; omega
  | succ fuel ih=>
   intro i h1 h2;rw [Fp];by_cases hi:i<l.length
   ·have e2:((i:Int)).toNat=i:=rfl;rw [Av (by omega),Am (by omega),Am (by omega),e2,Tv hN (h _ (getD_inL hi)),Option.bind_some,Bool.not_true,cnd_false,Ci (by omega) (by omega),Al,ih (i+1) (by omega) (by omega)]
   rw [Au (by omega)]
 unfold Ly;rw [Ev rfl];exact key N 0 (by omega) (by omega)
end
section
open Go.RowKit Go.Deep Go.Sort Go.Shelf
end
section
open Go.RowKit
end
section
open Go.RowKit
end
section
open Go.RowKit
end
section
open Go.RowKit
end
section
open Go.RowKit
end
section
open Go.RowKit
end
section
open Go.RowKit
end
section
open Go.RowKit
end
section
open Go.RowKit Go.Deep
end
section
open Go.RowKit
end
section
open Go.RowKit
def Hv (N:Nat) (code_0:List Int):Option (Lnk):=
 (Qc N code_0).bind fun v1=>
 (Mz N v1).bind fun v2=>
 some (⟨⟨⟨v2.1.f.g.n,v2.1.f.g.bars⟩,v2.1.f.places⟩,v2.1.ground⟩:Lnk)
theorem Xi (N:Nat) (code_0:List Int) (r:Lnk) (h:Hv N code_0=some r):PCall Tryz.prog 25 [.ro false (.bytes code_0)] [(42,.pairs r.f.g.bars),(95,.pairs r.f.places),(3,.ints r.ground)] (.agg [.int r.f.g.n,.row 0 0 r.f.g.bars.length,.row 1 0 r.f.places.length,.row 2 0 r.ground.length]):=by
 unfold Hv at h;refine Ak (TT:=TT) tt Tryz.func25 O O Tryz.ntmps25 (congrArg Array.toList Tryz.results25) O O fun w0=>(Ah (Ab (Bq tt O O O O O O O O O (Af (Ah (Ab (Aa O ?_)))))));obtain ⟨v1,hc1,h⟩:=Ad h;refine oCallB (Sn N code_0 v1 hc1) O O O O O ⟨O,O,Y⟩ (Kn (En.zero 9504 42 (.pairs []) O O) (Kn (En.zero 9505 95 (.pairs []) O O) (Kn (En.zero 9506 3 (.ints []) O O) ?_)));obtain ⟨v2,hc2,h⟩:=Ad h;refine Bs (Vt N v1 v2 hc2) [9504,9505,9506] [4] [1050,1051,1052] O O O O O O ⟨O,O,O,Y⟩ ⟨O,Y⟩ ⟨⟨O,O⟩,Y⟩ (As tt O O O O O O O O O O O ⟨Y,Y,Y,Y,Y⟩ (Af (Ay ?_)));show ∃ _,_;cases h;exact ⟨[1050,1051,1052],_,O,⟨O,O,O,Y⟩,O,.eq O,O⟩
def Fa (N:Nat) (code_0:List Int):Option (Lnk×Int×Int):=
 (Qc N code_0).bind fun v1=>
 (Mz N v1).bind fun v2=>
 (Bk N (⟨v1.b,v2.2.1,v2.2.2⟩:Cur) (8:Int)).bind fun v3=>
 grd (Bg (v3.1-(1:Int))) <|
 (Bk N (⟨v1.b,v3.2.1,v3.2.2⟩:Cur) (8:Int)).bind fun v4=>
 some ((⟨⟨⟨v2.1.f.g.n,v2.1.f.g.bars⟩,v2.1.f.places⟩,v2.1.ground⟩:Lnk),(v3.1-(1:Int)),v4.1)
theorem Rv (N:Nat) (code_0:List Int) (r:Lnk×Int×Int) (h:Fa N code_0=some r):PCall Tryz.prog 33 [.ro false (.bytes code_0)] [(42,.pairs r.1.f.g.bars),(95,.pairs r.1.f.places),(3,.ints r.1.ground)] (.tup [.agg [.int r.1.f.g.n,.row 0 0 r.1.f.g.bars.length,.row 1 0 r.1.f.places.length,.row 2 0 r.1.ground.length],.int r.2.1,.int r.2.2]):=by
 unfold Fa at h;refine Ak (TT:=TT) tt Tryz.func33 O O Tryz.ntmps33 (congrArg Array.toList Tryz.results33) O O fun w0=>(Ah (Ab (Bq tt O O O O O O O O O (Aa O (Aa O (Af (Ah (Ab (Aa O ?_)))))))));obtain ⟨v1,hc1,h⟩:=Ad h;refine oCallB (Sn N code_0 v1 hc1) O O O O O ⟨O,O,Y⟩ (Aa O (Af (Ah (Ab (Aa O (Kn (En.zero 9504 42 (.pairs []) O O) (Kn (En.zero 9505 95 (.pairs []) O O) (Kn (En.zero 9506 3 (.ints []) O O) ?_))))))));obtain ⟨v2,hc2,h⟩:=Ad h;refine Bs (Vt N v1 v2 hc2) [9504,9505,9506] [9] [1110,1111,1112] O O O O O O ⟨O,O,O,Y⟩ ⟨O,Y⟩ ⟨⟨O,O⟩,Y⟩ (Bq tt O O O O O O O O O (As tt O O O O O O O O O O O ⟨Y,Y,Y,Y,Y⟩ (Af (Ah (Ab (Aa O ?_))))));obtain ⟨v3,hc3,h⟩:=Ad h;refine Bs (Bc N (⟨v1.b,v2.2.1,v2.2.2⟩:Cur) (8:Int) v3 hc3) [] [9] [] O O O O O O Y ⟨O,Y⟩ ⟨⟨O,O⟩,⟨O,O⟩,Y⟩ ?_;obtain ⟨hg4,h⟩:=Ac h;refine Ae tt O hg4 (Aa O (Af (Ah (Df 5 [3,1030000009,1040000002] [0,0,0,4,13,31,63] (by kernel_rfl) (by kernel_rfl) (by kernel_rfl) (by kernel_rfl) (by kernel_rfl) O (by rfl) ?_))));iterate 3 refine Ei tt O (Ag O) O O O O O Y ?_
 obtain ⟨v4,hc5,h⟩:=Ad h;refine nMCall (rids:=[]) (bids:=[]) (pids:=[]) (Ag rfl) (Bc N (⟨v1.b,v3.2.1,v3.2.2⟩:Cur) (8:Int) v4 hc5) [] [9] [] rfl rfl rfl rfl rfl (by first | rfl | kernel_rfl) rfl rfl rfl rfl rfl (by first | rfl | kernel_rfl)  trivial ⟨rfl,Y⟩ ⟨⟨rfl,rfl⟩,⟨rfl,rfl⟩,Y⟩ (nStoreB tt (Ag rfl) rfl rfl rfl rfl rfl rfl rfl rfl rfl rfl rfl rfl (Tp ?_));show VO _ _ _ _ _;refine Aa O (Aa O (Af (Ay ?_)));show ∃ _,_;cases h;exact ⟨[1110,1111,1112],_,O,⟨O,O,O,Y⟩,O,.eq O,O⟩
def Jh (N:Nat) (code_0:List Int):Option (Lnk×Int):=
 (Qc N code_0).bind fun v1=>
 (Mz N v1).bind fun v2=>
 (Bk N (⟨v1.b,v2.2.1,v2.2.2⟩:Cur) (6:Int)).bind fun v3=>
 grd (Bg (v3.1-(1:Int))) <|
 some ((⟨⟨⟨v2.1.f.g.n,v2.1.f.g.bars⟩,v2.1.f.places⟩,v2.1.ground⟩:Lnk),(v3.1-(1:Int)))
theorem Xt (N:Nat) (code_0:List Int) (r:Lnk×Int) (h:Jh N code_0=some r):PCall Tryz.prog 37 [.ro false (.bytes code_0)] [(42,.pairs r.1.f.g.bars),(95,.pairs r.1.f.places),(3,.ints r.1.ground)] (.tup [.agg [.int r.1.f.g.n,.row 0 0 r.1.f.g.bars.length,.row 1 0 r.1.f.places.length,.row 2 0 r.1.ground.length],.int r.2]):=by
 unfold Jh at h;refine Ak (TT:=TT) tt Tryz.func37 O O Tryz.ntmps37 (congrArg Array.toList Tryz.results37) O O fun w0=>(Ah (Ab (Bq tt O O O O O O O O O (Aa O (Af (Ah (Ab (Aa O ?_))))))));obtain ⟨v1,hc1,h⟩:=Ad h;refine oCallB (Sn N code_0 v1 hc1) O O O O O ⟨O,O,Y⟩ (Aa O (Af (Ah (Ab (Aa O (Kn (En.zero 9504 42 (.pairs []) O O) (Kn (En.zero 9505 95 (.pairs []) O O) (Kn (En.zero 9506 3 (.ints []) O O) ?_))))))));obtain ⟨v2,hc2,h⟩:=Ad h;refine Bs (Vt N v1 v2 hc2) [9504,9505,9506] [6] [1080,1081,1082] O O O O O O ⟨O,O,O,Y⟩ ⟨O,Y⟩ ⟨⟨O,O⟩,Y⟩ (Aa O ?_);obtain ⟨v3,hc3,h⟩:=Ad h;refine Bs (Bc N (⟨v1.b,v2.2.1,v2.2.2⟩:Cur) (6:Int) v3 hc3) [] [6] [] O O O O O O Y ⟨O,Y⟩ ⟨⟨O,O⟩,⟨O,O⟩,Y⟩ ?_;obtain ⟨hg4,h⟩:=Ac h;refine Ae tt O hg4 (As tt O O O O O O O O O O O ⟨Y,Y,Y,Y,Y⟩ (Aa O (Af (Ay ?_))));show ∃ _,_;cases h;exact ⟨[1080,1081,1082],_,O,⟨O,O,O,Y⟩,O,.eq O,O⟩
end
end Go.Proofs.YtaipbhnpandbkaaGreat
