/- Texts that the proof needs, put together: G30 G35 Pp Pd Pq Pr Pe Pf Pw Ps Pt Pv Px G40 Qa Ea G38 Eb Pu. -/
import Derived.Test.YtaipbhnpandbkaaBLb3
import Derived.Test.YtaipbhnpandbkaaBLb4
set_option maxRecDepth 20000
set_option maxHeartbeats 1600000
set_option linter.unusedVariables false
set_option linter.unusedSimpArgs false
namespace Go.Proofs.Ytaipbhnpandbkaa
section
open Go.RowKit
def Cs (N:Nat) (g_0:Grf) (x_1:Int×Int) (k:((List (Int×Int))×Bool)→Option (Grf)):Nat→((List (Int×Int))×Bool×Int)→Option (Grf)
 | 0,_=>none
 | n+1,(l17,placed18,i19)=>
  cnd (decide (i19<(g_0.bars.length:Int))) (
   cnd (!placed18) (
    grd (0≤i19∧i19<(g_0.bars.length:Int)) <|
    (Qq N (g_0.bars.getD ((i19).toNat) (0,0)) x_1).bind fun v21=>
    cnd (!v21) (
     grd (l17.length+1≤4294967296) <|
     grd ((l17++([(x_1.1,x_1.2)]:List (Int×Int))).length+1≤4294967296) <|
     grd (Bc (i19+(1:Int))) <|
     Cs N g_0 x_1 k n (((l17++([(x_1.1,x_1.2)]:List (Int×Int)))++([((g_0.bars.getD ((i19).toNat) (0,0)).1,(g_0.bars.getD ((i19).toNat) (0,0)).2)]:List (Int×Int))),true,(i19+(1:Int)))) (
     grd (l17.length+1≤4294967296) <|
     grd (Bc (i19+(1:Int))) <|
     Cs N g_0 x_1 k n ((l17++([((g_0.bars.getD ((i19).toNat) (0,0)).1,(g_0.bars.getD ((i19).toNat) (0,0)).2)]:List (Int×Int))),placed18,(i19+(1:Int))))) (
    grd (0≤i19∧i19<(g_0.bars.length:Int)) <|
    grd (l17.length+1≤4294967296) <|
    grd (Bc (i19+(1:Int))) <|
    Cs N g_0 x_1 k n ((l17++([((g_0.bars.getD ((i19).toNat) (0,0)).1,(g_0.bars.getD ((i19).toNat) (0,0)).2)]:List (Int×Int))),placed18,(i19+(1:Int))))) (
   k (l17,placed18))
def Df (N:Nat) (g_0:Grf) (x_1:Int×Int):Option (Grf):=
 Cs N g_0 x_1 (fun (x:(List (Int×Int))×Bool)=>
   match x with
   | (l10,placed11)=>
    cnd (!placed11) (
     grd (l10.length+1≤4294967296) <|
     some (⟨g_0.n,(l10++([(x_1.1,x_1.2)]:List (Int×Int)))⟩:Grf)) (
     some (⟨g_0.n,l10⟩:Grf))) N (([]:List (Int×Int)),false,(0:Int))
theorem Ec (N:Nat) (g_0:Grf) (x_1:Int×Int) (r:Grf) (h:Df N g_0 x_1=some r):PCall Try.prog 61 [gD g_0,.agg [.int x_1.1,.int x_1.2]] [(52,.pairs r.bars)] (.agg [.int r.n,.row 0 0 r.bars.length]):=by
 unfold Df at h;refine Aj (TT:=TT) tt Try.func61 O O Try.ntmps61 (congrArg Array.toList Try.results61) O O fun w0=>(Ai (Ab ?_));iterate 2 refine Lh O O O O O O O O O ?_
 refine Bw tt O O O O O O O O O (Ah (Ai (Ab (Aa O (Aa O (Gt tt (Ad O) O O O O (Km (Ad O) (Ez Hm O O) O O (Bw tt O O O O O O O O O (Ar tt O O O O O O O O O O O ⟨Y,Y,Y⟩ ?_)))))))));refine Ah (Ai (Ab (Aa O (Ah (Ai (Ai (Ab (Aa O (Ah ?_)))))))));refine Cr (F:=fun k=>Cs N g_0 x_1 k) h (α:=(List (Int×Int))×Bool) (J:=fun | (l10,placed11)=>(⟨[(3,.ptr 3 0),(4,.ptr 4 0),(5,.ptr 5 0),(6,.bool placed11)],[(35,some (52,.pairs l10))],[(3,some [.int x_1.1,.int x_1.2]),(4,some [.int (0:Int),.nil]),(5,some [.int g_0.n,.row 35 0 l10.length])]⟩:PS)) ?_ ?_
 ·rintro ⟨l10,placed11⟩ h;show VC _ _ _ (⟨[(3,.ptr 3 0),(4,.ptr 4 0),(5,.ptr 5 0),(6,.bool placed11)],[(35,some (52,.pairs l10))],[(3,some [.int x_1.1,.int x_1.2]),(4,some [.int (0:Int),.nil]),(5,some [.int g_0.n,.row 35 0 l10.length])]⟩:PS);refine Ai (Ai (Ab (Aa O (Aa O (Ah (Au O (fun hb1=>?_) (fun hb1=>?_)))))))
  ·replace h:=Ak hb1 h;refine Ab (Aa O (Aa O (Aa O (Ep tt O O O O O O O O O O O ?_))));obtain ⟨hg2,h⟩:=Ac h;refine Da tt O O O O O O O O O O O O O O O O (Nat.le_of_eq (Nat.zero_add _)) hg2 (Aa O (Ar tt O O O O O O O O O O O ⟨Y,Y⟩ (Ah (Ai (Ab (Aa O (Ar tt O O O O O O O O O O O ⟨Y,Y,Y⟩ (Ah (Az ?_)))))))));show ∃ _,_;cases h;exact ⟨[35],_,O,⟨O,Y⟩,O,.eq O,O⟩
  replace h:=Al hb1 h;refine As (Ai (Ab (Aa O (Ar tt O O O O O O O O O O O ⟨Y,Y,Y⟩ (Ah (Az ?_))))));show ∃ _,_;cases h;exact ⟨[35],_,O,⟨O,Y⟩,O,.eq O,O⟩
 intro k h;refine Aq (Zh 5 1 35 52 (.pairs []) rfl rfl rfl rfl rfl (Bd (α:=(List (Int×Int))×Bool×Int) (fun | (l17,placed18,i19)=>(⟨[(2,.ptr 2 0),(3,.ptr 3 0),(4,.ptr 4 0),(5,.ptr 5 0),(6,.bool placed18),(7,.int i19)],[(35,some (52,.pairs l17))],[(2,some [.int g_0.n,.ro false (.pairs g_0.bars)]),(3,some [.int x_1.1,.int x_1.2]),(4,some [.int (0:Int),.nil]),(5,some [.int g_0.n,.row 35 0 l17.length])]⟩:PS)) (Cs N g_0 x_1 k) h (En.of ⟨rfl,rfl,rfl,rfl,rfl,rfl,Y⟩ ⟨rfl,Y⟩ ⟨rfl,rfl,rfl,rfl,Y⟩) (fun _=>rfl) ?_));rintro n ⟨l17,placed18,i19⟩ h;rw [Cs] at h;show VC _ _ _ (⟨[(2,.ptr 2 0),(3,.ptr 3 0),(4,.ptr 4 0),(5,.ptr 5 0),(6,.bool placed18),(7,.int i19)],[(35,some (52,.pairs l17))],[(2,some [.int g_0.n,.ro false (.pairs g_0.bars)]),(3,some [.int x_1.1,.int x_1.2]),(4,some [.int (0:Int),.nil]),(5,some [.int g_0.n,.row 35 0 l17.length])]⟩:PS);refine Ai (Ai (Ab ?_));iterate 5 refine Aa O ?_
 refine Ah (Au O (fun hb3=>?_) (fun hb3=>?_))
 ·replace h:=Ak hb3 h;refine As (Ai (Aq (Ai (Ai (Bs (by kernel_rfl) (by kernel_rfl) ?_)))));iterate 3 refine Ax tt O (Ad O) O O O Y ?_
  refine Dj O O O (fun hb4=>?_) (fun hb4=>?_)
  ·replace h:=Ak hb4 h;iterate 3 refine Ax tt O (Av O O O O hb4) O O O Y ?_
   obtain ⟨hg5,h⟩:=Ac h;refine Ax tt O (Av O O O O hb4) O O O hg5 ?_;iterate 2 refine Ax tt O (Av O O O O hb4) O O O Y ?_
   obtain ⟨v21,hc6,h⟩:=Ag h;refine Hp (Aan N (g_0.bars.getD ((i19).toNat) (0,0)) x_1 v21 hc6) O (Av O O O O hb4) O O O O O O ⟨⟨O,O,Y⟩,⟨O,O,Y⟩,Y⟩ (Ax tt O (Av O O O O hb4) O O O Y (Ay O (Ad O) O O O hb4 O (Hq (Au O (fun hb7=>?_) (fun hb7=>?_)))))
   ·replace h:=Ak hb7 h;refine Ai (Ab (Aa O (Aa O (Aa O (Ep tt O O O O O O O O O O O ?_)))));obtain ⟨hg8,h⟩:=Ac h;refine Da tt O O O O O O O O O O O O O O O O (Nat.le_of_eq (Nat.zero_add _)) hg8 (Aa O (Ar tt O O O O O O O O O O O ⟨Y,Y⟩ (Ah (Ab (Aa O (Ah (Bi 8 [7] [0,1,0,4,0,28,60,124,255,511,1023] (by kernel_rfl) (by kernel_rfl) (by kernel_rfl) (by kernel_rfl) (by kernel_rfl) O (by rfl) ?_)))))));iterate 5 refine Br tt O (Ad O) O O O O O Y ?_
    refine Br tt O (Ad O) O O O O O hg5 (Br tt O (Ad O) O O O O O Y (nBuild tt (Ad O) O O O O O O O O O O O O (Pm ?_)));show VO _ _ _ _ _;obtain ⟨hg9,h⟩:=Ac h;refine Da tt O O O O O O O O O O O O O O O O (Nat.le_of_eq (Nat.zero_add _)) hg9 (Aa O (Ar tt O O O O O O O O O O O ⟨Y,Y⟩ (Ah (Ab (Aa O ?_)))));obtain ⟨hg10,h⟩:=Ac h;refine Ae tt O hg10 (Aa O (Ah ?_));show ∃ _,_;exact ⟨(((l17++([(x_1.1,x_1.2)]:List (Int×Int)))++([((g_0.bars.getD ((i19).toNat) (0,0)).1,(g_0.bars.getD ((i19).toNat) (0,0)).2)]:List (Int×Int))),true,(i19+(1:Int))),(En.of ⟨O,O,O,O,O,O,Y⟩ ⟨O,Y⟩ ⟨O,O,O,O,Y⟩),h⟩
   replace h:=Al hb7 h;refine As (Bi 8 [7] [0,1,0,4,0,28,60,124,255,511,1023] (by kernel_rfl) (by kernel_rfl) (by kernel_rfl) (by kernel_rfl) (by kernel_rfl) O (by rfl) ?_);iterate 5 refine Br tt O (Ad O) O O O O O Y ?_
   refine Br tt O (Ad O) O O O O O hg5 (Br tt O (Ad O) O O O O O Y (nBuild tt (Ad O) O O O O O O O O O O O O (Pm ?_)));show VO _ _ _ _ _;obtain ⟨hg11,h⟩:=Ac h;refine Da tt O O O O O O O O O O O O O O O O (Nat.le_of_eq (Nat.zero_add _)) hg11 (Aa O (Ar tt O O O O O O O O O O O ⟨Y,Y⟩ (Ah (Ab (Aa O ?_)))));obtain ⟨hg12,h⟩:=Ac h;refine Ae tt O hg12 (Aa O (Ah ?_));show ∃ _,_;exact ⟨((l17++([((g_0.bars.getD ((i19).toNat) (0,0)).1,(g_0.bars.getD ((i19).toNat) (0,0)).2)]:List (Int×Int))),placed18,(i19+(1:Int))),(En.of ⟨O,O,O,O,O,O,Y⟩ ⟨O,Y⟩ ⟨O,O,O,O,Y⟩),h⟩
  replace h:=Al hb4 h;iterate 8 refine cNoT O O O O hb4 O O ?_
  refine Ct O (Ad O) O O O hb4 O (Hq (Gf O O (As (Bi 8 [7] [0,1,0,4,0,28,60,124,255,511,1023] (by kernel_rfl) (by kernel_rfl) (by kernel_rfl) (by kernel_rfl) (by kernel_rfl) O (by rfl) ?_))));iterate 5 refine Br tt O (Ad O) O O O O O Y ?_
  obtain ⟨hg13,h⟩:=Ac h;refine Br tt O (Ad O) O O O O O hg13 (Br tt O (Ad O) O O O O O Y (nBuild tt (Ad O) O O O O O O O O O O O O (Pm ?_)));show VO _ _ _ _ _;obtain ⟨hg14,h⟩:=Ac h;refine Da tt O O O O O O O O O O O O O O O O (Nat.le_of_eq (Nat.zero_add _)) hg14 (Aa O (Ar tt O O O O O O O O O O O ⟨Y,Y⟩ (Ah (Ab (Aa O ?_)))));obtain ⟨hg15,h⟩:=Ac h;refine Ae tt O hg15 (Aa O (Ah ?_));show ∃ _,_;exact ⟨((l17++([((g_0.bars.getD ((i19).toNat) (0,0)).1,(g_0.bars.getD ((i19).toNat) (0,0)).2)]:List (Int×Int))),placed18,(i19+(1:Int))),(En.of ⟨O,O,O,O,O,O,Y⟩ ⟨O,Y⟩ ⟨O,O,O,O,Y⟩),h⟩
 replace h:=Al hb3 h;refine Bn ?_;show ∃ _,_;exact ⟨(l17,placed18),(En.of ⟨O,O,O,O,Y⟩ ⟨O,Y⟩ ⟨O,O,O,Y⟩),h⟩
def Gv (N:Nat) (p_0:Pin) (k:((List (Int×Int))×Int)→Option (Grf)):Nat→((List (Int×Int))×Int×Int)→Option (Grf)
 | 0,_=>none
 | n+1,(l23,i24,c25)=>
  cnd (decide (i24<(p_0.ground.length:Int))) (
   grd (0≤(0:Int)∧(0:Int)<(p_0.ground.length:Int)) <|
   grd (0≤i24∧i24<(p_0.ground.length:Int)) <|
   (Df N (⟨c25,l23⟩:Grf) ((p_0.ground.getD ((0:Int).toNat) 0),(p_0.ground.getD ((i24).toNat) 0))).bind fun v28=>
   cnd (decide (i24 > (1:Int))) (
    grd (0≤(1:Int)∧(1:Int)<(p_0.ground.length:Int)) <|
    (Df N v28 ((p_0.ground.getD ((1:Int).toNat) 0),(p_0.ground.getD ((i24).toNat) 0))).bind fun v29=>
    grd (Bc (i24+(1:Int))) <|
    Gv N p_0 k n (v29.bars,(i24+(1:Int)),v29.n)) (
    grd (Bc (i24+(1:Int))) <|
    Gv N p_0 k n (v28.bars,(i24+(1:Int)),v28.n))) (
   k (l23,c25))
def Ph (N:Nat) (p_0:Pin):Option (Grf):=
 Gv N p_0 (fun (x:(List (Int×Int))×Int)=>
   match x with
   | (l14,c15)=>
    some (⟨c15,l14⟩:Grf)) N (([]:List (Int×Int)),(1:Int),p_0.g.n)
theorem Zg (N:Nat) (p_0:Pin) (r:Grf) (h:Ph N p_0=some r):PCall Try.prog 57 [pD p_0] [(52,.pairs r.bars)] (.agg [.int r.n,.row 0 0 r.bars.length]):=by
 unfold Ph at h;refine Aj (TT:=TT) tt Try.func57 O O Try.ntmps57 (congrArg Array.toList Try.results57) O O fun w0=>(Ai (Ab (Lh O O O O O O O O O (Bw tt O O O O O O O O O (Ah (Ai (Ab (Aa O (Aa O ?_)))))))));refine Aa O (Gt tt (Ad O) O O O O (Km (Ad O) (Ez Hm O O) O O (Bw tt O O O O O O O O O (Ar tt O O O O O O O O O O O ⟨Y,Y,Y⟩ (Ah (Ai (Ai (Ab (Aa O ?_)))))))));refine Ah (Cr (F:=fun k=>Gv N p_0 k) h (α:=(List (Int×Int))×Int) (J:=fun | (l14,c15)=>(⟨[(2,.ptr 2 0),(3,.ptr 3 0)],[(9503,some (52,.pairs l14))],[(2,some [.int (0:Int),.nil]),(3,some [.int c15,.row 9503 0 l14.length])]⟩:PS)) ?_ ?_)
 ·rintro ⟨l14,c15⟩ h;show VC _ _ _ (⟨[(2,.ptr 2 0),(3,.ptr 3 0)],[(9503,some (52,.pairs l14))],[(2,some [.int (0:Int),.nil]),(3,some [.int c15,.row 9503 0 l14.length])]⟩:PS);refine Ai (Ab (Aa O (Ar tt O O O O O O O O O O O ⟨Y,Y,Y⟩ (Ah (Az ?_)))));show ∃ _,_;cases h;exact ⟨[9503],_,O,⟨O,Y⟩,O,.eq O,O⟩
 intro k h;refine Aq (Zh 3 1 9504 52 (.pairs []) rfl rfl rfl rfl rfl (Bd (α:=(List (Int×Int))×Int×Int) (fun | (l23,i24,c25)=>(⟨[(1,.ptr 1 0),(2,.ptr 2 0),(3,.ptr 3 0),(4,.int i24)],[(9504,some (52,.pairs l23))],[(1,some [.int p_0.g.n,.ro false (.pairs p_0.g.bars),.ro false (.ints p_0.ground)]),(2,some [.int (0:Int),.nil]),(3,some [.int c25,.row 9504 0 l23.length])]⟩:PS)) (Gv N p_0 k) h (En.of ⟨rfl,rfl,rfl,rfl,Y⟩ ⟨rfl,Y⟩ ⟨rfl,rfl,rfl,Y⟩) (fun _=>rfl) ?_));rintro n ⟨l23,i24,c25⟩ h;rw [Gv] at h;show VC _ _ _ (⟨[(1,.ptr 1 0),(2,.ptr 2 0),(3,.ptr 3 0),(4,.int i24)],[(9504,some (52,.pairs l23))],[(1,some [.int p_0.g.n,.ro false (.pairs p_0.g.bars),.ro false (.ints p_0.ground)]),(2,some [.int (0:Int),.nil]),(3,some [.int c25,.row 9504 0 l23.length])]⟩:PS);refine Ai (Ai (Ab ?_));iterate 5 refine Aa O ?_
 refine Ah (Au O (fun hb1=>?_) (fun hb1=>?_))
 ·replace h:=Ak hb1 h;refine As (Ai (Aq (Ai (Bi 11 [] [0,0,2,6,14,0,32,0,224,480,1022,2047,4095] (by kernel_rfl) (by kernel_rfl) (by kernel_rfl) (by kernel_rfl) (by kernel_rfl) O (by rfl) ?_))));iterate 3 refine Br tt O (Ad O) O O O O O Y ?_
  obtain ⟨hg2,h⟩:=Ac h;refine Br tt O (Ad O) O O O O O hg2 ?_;iterate 4 refine Br tt O (Ad O) O O O O O Y ?_
  obtain ⟨hg3,h⟩:=Ac h;refine Br tt O (Ad O) O O O O O hg3 (Br tt O (Ad O) O O O O O Y (nPure (Ad O) (Ez Cg O O) O O O O (Pm ?_)));show VO _ _ _ _ _;obtain ⟨v28,hc4,h⟩:=Ag h;refine Ba (Ec N (⟨c25,l23⟩:Grf) ((p_0.ground.getD ((0:Int).toNat) 0),(p_0.ground.getD ((i24).toNat) 0)) v28 hc4) O O O O O O O O ⟨⟨O,(.inl ⟨O,O⟩),Y⟩,⟨O,O,Y⟩,Y⟩ (Ar tt O O O O O O O O O O O ⟨Y,Y,Y⟩ (Ah (Ai (Ab (Aa O (Aa O (Ah (Au O (fun hb5=>?_) (fun hb5=>?_)))))))))
  ·replace h:=Ak hb5 h;refine Bi 11 [] [0,0,2,6,14,0,32,0,224,480,1022,2047,4095] (by kernel_rfl) (by kernel_rfl) (by kernel_rfl) (by kernel_rfl) (by kernel_rfl) O (by rfl) ?_;iterate 3 refine Br tt O (Ad O) O O O O O Y ?_
   obtain ⟨hg6,h⟩:=Ac h;refine Br tt O (Ad O) O O O O O hg6 ?_;iterate 4 refine Br tt O (Ad O) O O O O O Y ?_
   refine Br tt O (Ad O) O O O O O hg3 (Br tt O (Ad O) O O O O O Y (nPure (Ad O) (Ez Cg O O) O O O O (Pm ?_)));show VO _ _ _ _ _;obtain ⟨v29,hc7,h⟩:=Ag h;refine Ba (Ec N v28 ((p_0.ground.getD ((1:Int).toNat) 0),(p_0.ground.getD ((i24).toNat) 0)) v29 hc7) O O O O O O O O ⟨⟨O,(.inl ⟨O,O⟩),Y⟩,⟨O,O,Y⟩,Y⟩ (Ar tt O O O O O O O O O O O ⟨Y,Y,Y⟩ (Ah (Ab (Aa O ?_))));obtain ⟨hg8,h⟩:=Ac h;refine Ae tt O hg8 (Aa O (Ah ?_));show ∃ _,_;exact ⟨(v29.bars,(i24+(1:Int)),v29.n),(En.ren [9504] [1420] O ⟨.inr O,.inr O,.inr O,.inr O,Y⟩ ⟨.inr O,Y⟩ ⟨.inr ⟨_,_,O,O,⟨.inr O,.inr O,.inr O,Y⟩⟩,.inr ⟨_,_,O,O,⟨.inr O,.inr O,Y⟩⟩,.inr ⟨_,_,O,O,⟨.inr O,.inr O,Y⟩⟩,Y⟩),h⟩
  replace h:=Al hb5 h;refine As (Ab (Aa O ?_));obtain ⟨hg9,h⟩:=Ac h;refine Ae tt O hg9 (Aa O (Ah ?_));show ∃ _,_;exact ⟨(v28.bars,(i24+(1:Int)),v28.n),(En.ren [9504] [1280] O ⟨.inr O,.inr O,.inr O,.inr O,Y⟩ ⟨.inr O,Y⟩ ⟨.inr ⟨_,_,O,O,⟨.inr O,.inr O,.inr O,Y⟩⟩,.inr ⟨_,_,O,O,⟨.inr O,.inr O,Y⟩⟩,.inr ⟨_,_,O,O,⟨.inr O,.inr O,Y⟩⟩,Y⟩),h⟩
 replace h:=Al hb1 h;refine Bn ?_;show ∃ _,_;exact ⟨(l23,c25),(En.ren [9503] [9504] O ⟨.inr O,.inr O,Y⟩ ⟨.inr O,Y⟩ ⟨.inr ⟨_,_,O,O,⟨.inr O,.inr O,Y⟩⟩,.inr ⟨_,_,O,O,⟨.inr O,.inr O,Y⟩⟩,Y⟩),h⟩
def Jo (N:Nat) (p_0:Pin) (k:((List (Int×Int))×Int)→Option (Grf)):Nat→((List (Int×Int))×Int×Int)→Option (Grf)
 | 0,_=>none
 | n+1,(l12,i13,c14)=>
  cnd (decide (i13<(p_0.g.bars.length:Int))) (
   grd (0≤i13∧i13<(p_0.g.bars.length:Int)) <|
   (Df N (⟨c14,l12⟩:Grf) (p_0.g.bars.getD ((i13).toNat) (0,0))).bind fun v16=>
   grd (Bc (i13+(1:Int))) <|
   Jo N p_0 k n (v16.bars,(i13+(1:Int)),v16.n)) (
   k (l12,c14))
def St (N:Nat) (p_0:Pin):Option (Grf):=
 (Ph N p_0).bind fun v1=>
 Jo N p_0 (fun (x:(List (Int×Int))×Int)=>
   match x with
   | (l8,c9)=>
    some (⟨c9,l8⟩:Grf)) N (v1.bars,(0:Int),v1.n)
theorem S_l20All_w (N:Nat) (p_0:Pin) (r:Grf) (h:St N p_0=some r):PCall Try.prog 56 [pD p_0] [(52,.pairs r.bars)] (.agg [.int r.n,.row 0 0 r.bars.length]):=by
 unfold St at h;refine Aj (TT:=TT) tt Try.func56 O O Try.ntmps56 (congrArg Array.toList Try.results56) O O fun w0=>(Ai (Ab (Lh O O O O O O O O O (Bw tt O O O O O O O O O (Ah (Ai (Ab (Aa O ?_))))))));obtain ⟨v1,hc1,h⟩:=Ag h;refine Ba (Zg N p_0 v1 hc1) rfl rfl rfl rfl rfl rfl rfl rfl ⟨⟨rfl,rfl,rfl,Y⟩,Y⟩ (Bw tt rfl rfl rfl rfl rfl rfl rfl rfl rfl (Ar tt rfl rfl rfl rfl rfl rfl rfl rfl rfl rfl rfl ⟨Y,Y,Y⟩ (Ah (Ai (Ai (Ab (Aa rfl (Ah (Cr (F:=fun k=>Jo N p_0 k) h (α:=(List (Int×Int))×Int) (J:=fun | (l8,c9)=>(⟨[(2,.ptr 2 0),(3,.ptr 3 0)],[(1060,some (52,.pairs l8))],[(2,some [.int (0:Int),.nil]),(3,some [.int c9,.row 1060 0 l8.length])]⟩:PS)) ?_ ?_)))))))))
 ·rintro ⟨l8,c9⟩ h;show VC _ _ _ (⟨[(2,.ptr 2 0),(3,.ptr 3 0)],[(1060,some (52,.pairs l8))],[(2,some [.int (0:Int),.nil]),(3,some [.int c9,.row 1060 0 l8.length])]⟩:PS);refine Ai (Ab (Aa O (Ar tt O O O O O O O O O O O ⟨Y,Y,Y⟩ (Ah (Az ?_)))));show ∃ _,_;cases h;exact ⟨[1060],_,O,⟨O,Y⟩,O,.eq O,O⟩
 intro k h;refine Aq (Bd (α:=(List (Int×Int))×Int×Int) (fun | (l12,i13,c14)=>(⟨[(1,.ptr 1 0),(2,.ptr 2 0),(3,.ptr 3 0),(4,.int i13)],[(1060,some (52,.pairs l12))],[(1,some [.int p_0.g.n,.ro false (.pairs p_0.g.bars),.ro false (.ints p_0.ground)]),(2,some [.int (0:Int),.nil]),(3,some [.int c14,.row 1060 0 l12.length])]⟩:PS)) (Jo N p_0 k) h (En.of ⟨rfl,rfl,rfl,rfl,Y⟩ ⟨rfl,Y⟩ ⟨rfl,rfl,rfl,Y⟩) (fun _=>rfl) ?_);rintro n ⟨l12,i13,c14⟩ h;rw [Jo] at h;show VC _ _ _ (⟨[(1,.ptr 1 0),(2,.ptr 2 0),(3,.ptr 3 0),(4,.int i13)],[(1060,some (52,.pairs l12))],[(1,some [.int p_0.g.n,.ro false (.pairs p_0.g.bars),.ro false (.ints p_0.ground)]),(2,some [.int (0:Int),.nil]),(3,some [.int c14,.row 1060 0 l12.length])]⟩:PS);refine Ai (Ai (Ab ?_));iterate 6 refine Aa O ?_
 refine Ah (Au O (fun hb2=>?_) (fun hb2=>?_))
 ·replace h:=Ak hb2 h;refine As (Ai (Aq (Bi 7 [] [0,0,2,6,0,30,62,127,255] (by kernel_rfl) (by kernel_rfl) (by kernel_rfl) (by kernel_rfl) (by kernel_rfl) O (by rfl) ?_)));iterate 5 refine Br tt O (Ad O) O O O O O Y ?_
  obtain ⟨hg3,h⟩:=Ac h;refine Br tt O (Ad O) O O O O O hg3 (Br tt O (Ad O) O O O O O Y (Pm ?_));show VO _ _ _ _ _;obtain ⟨v16,hc4,h⟩:=Ag h;refine Ba (Ec N (⟨c14,l12⟩:Grf) (p_0.g.bars.getD ((i13).toNat) (0,0)) v16 hc4) O O O O O O O O ⟨⟨O,(.inl ⟨O,O⟩),Y⟩,⟨O,O,Y⟩,Y⟩ (Ar tt O O O O O O O O O O O ⟨Y,Y,Y⟩ (Ah (Ab (Aa O ?_))));obtain ⟨hg5,h⟩:=Ac h;refine Ae tt O hg5 (Aa O (Ah ?_));show ∃ _,_;exact ⟨(v16.bars,(i13+(1:Int)),v16.n),(En.ren [1060] [1220] O ⟨.inr O,.inr O,.inr O,.inr O,Y⟩ ⟨.inr O,Y⟩ ⟨.inr ⟨_,_,O,O,⟨.inr O,.inr O,.inr O,Y⟩⟩,.inr ⟨_,_,O,O,⟨.inr O,.inr O,Y⟩⟩,.inr ⟨_,_,O,O,⟨.inr O,.inr O,Y⟩⟩,Y⟩),h⟩
 replace h:=Al hb2 h;refine Bn ?_;show ∃ _,_;exact ⟨(l12,c14),(En.of ⟨O,O,Y⟩ ⟨O,Y⟩ ⟨O,O,Y⟩),h⟩
def Eo (N:Nat) (g_0:Grf) (k_1:Int) (k:(List Int)→Option (Pbl×Bool)):Nat→((List Int)×Int)→Option (Pbl×Bool)
 | 0,_=>none
 | n+1,(l9,i10)=>
  cnd (decide (i10<g_0.n)) (
   grd (l9.length+1≤4294967296) <|
   grd (Bc (i10+(1:Int))) <|
   Eo N g_0 k_1 k n ((l9++([k_1]:List Int)),(i10+(1:Int)))) (
   k l9)
def Lp (N:Nat) (g_0:Grf) (k_1:Int):Option (Pbl×Bool):=
 (Lm N g_0).bind fun v1=>
 cnd (!v1) (
  some ((⟨([]:List Int),[],[]⟩:Pbl),false)) (
  (Aba N k_1 (1:Int) (3:Int)).bind fun v2=>
  cnd (!v2) (
   some ((⟨([]:List Int),[],[]⟩:Pbl),false)) (
   Eo N g_0 k_1 (fun (l6 : List Int) =>
      some ((⟨l6,[],[]⟩:Pbl),true)) N (([]:List Int),(0:Int))))
theorem Aas (N:Nat) (g_0:Grf) (k_1:Int) (r:Pbl×Bool) (h:Lp N g_0 k_1=some r):PCall Try.prog 69 [gD g_0,.int k_1] [(3,.ints r.1.free)] (.tup [.agg [.row 0 0 r.1.free.length,.nil,.nil],.bool r.2]):=by
 unfold Lp at h;refine Aj (TT:=TT) tt Try.func69 O O Try.ntmps69 (congrArg Array.toList Try.results69) O O fun w0=>(Ai (Ab (Lh O O O O O O O O O (Bw tt O O O O O O O O O (Aa O (Ah (Ai (Ab ?_))))))));iterate 3 refine Gt tt (Ad O) O O O O ?_
 refine Km (Ad O) (Ez Fh O O) O O (Bw tt O O O O O O O O O (Ar tt O O O O O O O O O O O ⟨Y,Y,Y,Y⟩ (Ah (Ai (Ai (Ab (Aa O ?_)))))));obtain ⟨v1,hc1,h⟩:=Ag h;refine Ba (Qv N g_0 v1 hc1) O O O O O O O O ⟨⟨O,O,Y⟩,Y⟩ (Aa O (Aa O (Bu O O O (fun hb2=>?_) (fun hb2=>?_))))
 ·replace h:=Ak hb2 h;iterate 3 refine Lv O O O O hb2 O O ?_
  refine Cf O O O O O hb2 O (Ah (Ce O O (Ai (Ab (Km (Ad O) (Ez Fh O O) O O (Ar tt O O O O O O O O O O O ⟨Y,Y,Y,Y⟩ (Aa O (Ah (Zh 4 0 9001 3 (.ints []) O O O O O ?_)))))))));refine Az ?_;show ∃ _,_;cases h;exact ⟨[9001],_,O,⟨O,Y⟩,O,.eq O,O⟩
 replace h:=Al hb2 h;refine Bt tt O O O O O hb2 O O O Y ?_;obtain ⟨v2,hc3,h⟩:=Ag h;refine Ll (S_l1In_w N k_1 (1:Int) (3:Int) v2 hc3) O O O O hb2 O O O O O O O ⟨O,O,O,Y⟩ (Bt tt O O O O O hb2 O O O Y (Bp O O O O O hb2 O (Ah (Au O (fun hb4=>?_) (fun hb4=>?_)))))
 ·replace h:=Ak hb4 h;refine Ai (Ab (Km (Ad O) (Ez Fh O O) O O (Ar tt O O O O O O O O O O O ⟨Y,Y,Y,Y⟩ (Aa O (Ah (Zh 4 0 9001 3 (.ints []) O O O O O (Az ?_)))))));show ∃ _,_;cases h;exact ⟨[9001],_,O,⟨O,Y⟩,O,.eq O,O⟩
 replace h:=Al hb4 h;refine As (Ai (Ai (Ab (Aa O (Ah (Cr (F:=fun k=>Eo N g_0 k_1 k) h (α:=List Int) (J:=fun (l6:List Int)=>(⟨[(4,.ptr 4 0),(6,.ptr 6 0)],[(31,some (3,.ints l6))],[(4,some [.nil,.nil,.nil]),(6,some [.row 31 0 l6.length,.nil,.nil])]⟩:PS)) ?_ ?_))))))
 ·rintro l6 h;show VC _ _ _ (⟨[(4,.ptr 4 0),(6,.ptr 6 0)],[(31,some (3,.ints l6))],[(4,some [.nil,.nil,.nil]),(6,some [.row 31 0 l6.length,.nil,.nil])]⟩:PS);refine Ai (Ab (Aa O (Ar tt O O O O O O O O O O O ⟨Y,Y,Y,Y⟩ (Aa O (Ah (Az ?_))))));show ∃ _,_;cases h;exact ⟨[31],_,O,⟨O,Y⟩,O,.eq O,O⟩
 intro k h;refine Aq (Zh 6 0 31 3 (.ints []) rfl rfl rfl rfl rfl (Bd (α:=(List Int)×Int) (fun | (l9,i10)=>(⟨[(1,.int k_1),(2,.ptr 2 0),(4,.ptr 4 0),(6,.ptr 6 0),(7,.int i10)],[(31,some (3,.ints l9))],[(2,some [.int g_0.n,.ro false (.pairs g_0.bars)]),(4,some [.nil,.nil,.nil]),(6,some [.row 31 0 l9.length,.nil,.nil])]⟩:PS)) (Eo N g_0 k_1 k) h (En.of ⟨rfl,rfl,rfl,rfl,rfl,Y⟩ ⟨rfl,Y⟩ ⟨rfl,rfl,rfl,Y⟩) (fun _=>rfl) ?_));rintro n ⟨l9,i10⟩ h;rw [Eo] at h;show VC _ _ _ (⟨[(1,.int k_1),(2,.ptr 2 0),(4,.ptr 4 0),(6,.ptr 6 0),(7,.int i10)],[(31,some (3,.ints l9))],[(2,some [.int g_0.n,.ro false (.pairs g_0.bars)]),(4,some [.nil,.nil,.nil]),(6,some [.row 31 0 l9.length,.nil,.nil])]⟩:PS);refine Ai (Ai (Ab ?_));iterate 4 refine Aa O ?_
 refine Ah (Au O (fun hb5=>?_) (fun hb5=>?_))
 ·replace h:=Ak hb5 h;refine As (Ai (Aq (Ab (Aa O (Aa O (Aa O (Ep tt O O O O O O O O O O O ?_)))))));obtain ⟨hg6,h⟩:=Ac h;refine Da tt O O O O O O O O O O O O O O O O (Nat.le_of_eq (Nat.zero_add _)) hg6 (Aa O (Ar tt O O O O O O O O O O O ⟨Y,Y⟩ (Ah (Ab (Aa O ?_)))));obtain ⟨hg7,h⟩:=Ac h;refine Ae tt O hg7 (Aa O (Ah ?_));show ∃ _,_;exact ⟨((l9++([k_1]:List Int)),(i10+(1:Int))),(En.of ⟨O,O,O,O,O,Y⟩ ⟨O,Y⟩ ⟨O,O,O,Y⟩),h⟩
 replace h:=Al hb5 h;refine Bn ?_;show ∃ _,_;exact ⟨l9,(En.of ⟨O,O,Y⟩ ⟨O,Y⟩ ⟨O,O,Y⟩),h⟩
def I_bar (N:Nat) (a_0:Int) (b_1:Int):Option (Int×Int):=
 some ((min a_0 b_1),(max a_0 b_1))
theorem I_bar_w (N:Nat) (a_0:Int) (b_1:Int) (r:Int×Int) (h:I_bar N a_0 b_1=some r):PCall Try.prog 74 [.int a_0,.int b_1] [] (.agg [.int r.1,.int r.2]):=by
 unfold I_bar at h;refine Aj (TT:=TT) tt Try.func74 O O Try.ntmps74 (congrArg Array.toList Try.results74) O O fun w0=>(Ai (Ab (Bw tt O O O O O O O O O (Ah (Ai (Ab ?_))))));iterate 6 refine Aa O ?_
 refine Km (Ad O) (Ez Cg O O) O O (Ar tt O O O O O O O O O O O ⟨Y,Y,Y⟩ (Ah (Az ?_)));show ∃ _,_;cases h;exact ⟨[],_,O,Y,O,.eq O,O⟩
def Eb (N:Nat) (p_0:Pin) (x82:Int) (k:(List (Int×Int))→Option (List (Int×Int))):Nat→((List (Int×Int))×Int)→Option (List (Int×Int))
 | 0,_=>none
 | n+1,(l103,x104)=>
  cnd (decide (x104<(((p_0.ground.take p_0.ground.length).drop (((x82+(1:Int))).toNat)).length:Int))) (
   grd (0≤x104∧x104<(((p_0.ground.take p_0.ground.length).drop (((x82+(1:Int))).toNat)).length:Int)) <|
   (I_bar N (p_0.ground.getD ((x82).toNat) 0) (((p_0.ground.take p_0.ground.length).drop (((x82+(1:Int))).toNat)).getD ((x104).toNat) 0)).bind fun v106=>
   grd (l103.length+1≤4294967296) <|
   grd (Bc (x104+(1:Int))) <|
   Eb N p_0 x82 k n ((l103++([(v106.1,v106.2)]:List (Int×Int))),(x104+(1:Int)))) (
   k l103)
def Dp (N:Nat) (p_0:Pin) (k:(List (Int×Int))→Option (List (Int×Int))):Nat→((List (Int×Int))×Int)→Option (List (Int×Int))
 | 0,_=>none
 | n+1,(l81,x82)=>
  cnd (decide (x82<(p_0.ground.length:Int))) (
   grd (0≤x82∧x82<(p_0.ground.length:Int)) <|
   grd (Bc (x82+(1:Int))) <|
   grd (0≤(x82+(1:Int))∧(x82+(1:Int))≤(p_0.ground.length:Int)) <|
   Eb N p_0 x82 (fun (l100 : List (Int × Int)) =>
      Dp N p_0 k n (l100,(x82+(1:Int)))) N (l81,(0:Int))) (
   k l81)
def Jg (N:Nat) (p_0:Pin):Option (List (Int×Int)):=
 Dp N p_0 (fun (l53 : List (Int × Int)) =>
    some l53) N (([]:List (Int×Int)),(0:Int))
theorem Si (N:Nat) (p_0:Pin) (r:List (Int×Int)) (h:Jg N p_0=some r):PCall Try.prog 66 [pD p_0] [(52,.pairs r)] (.row 0 0 r.length):=by
 unfold Jg at h;refine Aj (TT:=TT) tt Try.func66 O O Try.ntmps66 (congrArg Array.toList Try.results66) O O fun w0=>(Ai (Ab (Lh O O O O O O O O O (Aa O (Ah (Ai (Ab (Gt tt (Ad O) O O O O (Aa O ?_)))))))));refine Ah (Ai (Ai (Ab ?_)));iterate 4 refine Aa O ?_
 refine Ah (Cr (F:=fun k=>Dp N p_0 k) h (α:=List (Int×Int)) (J:=fun (l53:List (Int×Int))=>(⟨[(3,.row 32 0 l53.length)],[(32,some (52,.pairs l53))],[]⟩:PS)) ?_ ?_)
 ·rintro l53 h;show VC _ _ _ (⟨[(3,.row 32 0 l53.length)],[(32,some (52,.pairs l53))],[]⟩:PS);refine Ai (Ab (Aa O (Aa O (Ah (Az ?_)))));show ∃ _,_;cases h;exact ⟨[32],_,O,⟨O,Y⟩,O,.eq O,O⟩
 intro k h;refine Aq (Lc 3 32 52 (.pairs []) rfl rfl rfl rfl (Bd (α:=(List (Int×Int))×Int) (fun | (l81,x82)=>(⟨[(1,.ptr 1 0),(3,.row 32 0 l81.length),(10,.ro false (.ints p_0.ground)),(11,.int (p_0.ground.length:Int)),(12,.int x82)],[(32,some (52,.pairs l81))],[(1,some [.int p_0.g.n,.ro false (.pairs p_0.g.bars),.ro false (.ints p_0.ground)])]⟩:PS)) (Dp N p_0 k) h (En.of ⟨rfl,rfl,rfl,rfl,rfl,Y⟩ ⟨rfl,Y⟩ ⟨rfl,Y⟩) (fun _=>rfl) ?_));rintro n ⟨l81,x82⟩ h;rw [Dp] at h;show VC _ _ _ (⟨[(1,.ptr 1 0),(3,.row 32 0 l81.length),(10,.ro false (.ints p_0.ground)),(11,.int (p_0.ground.length:Int)),(12,.int x82)],[(32,some (52,.pairs l81))],[(1,some [.int p_0.g.n,.ro false (.pairs p_0.g.bars),.ro false (.ints p_0.ground)])]⟩:PS);refine Ai (Ab (Aa O (Ah (Ai (Au O (fun hb1=>?_) (fun hb1=>?_))))))
 ·replace h:=Ak hb1 h;refine As (Ai (Aq (Ai (Ab (Aa O ?_)))));obtain ⟨hg2,h⟩:=Ac h;refine Ae tt O hg2 (Aa O (Aa O (Aa O (Ah (Ai (Ab (Aa O (Aa O (Aa O ?_)))))))));obtain ⟨hg3,h⟩:=Ac h;refine Ae tt O hg3 ?_;obtain ⟨hg4,h⟩:=Ac h;refine Ae tt O hg4 (Aa O (Aa O (Ah (Cr (F:=fun k=>Eb N p_0 x82 k) h (α:=List (Int×Int)) (J:=fun (l100:List (Int×Int))=>(⟨[(1,.ptr 1 0),(3,.row 32 0 l100.length),(10,.ro false (.ints p_0.ground)),(11,.int (p_0.ground.length:Int)),(12,.int x82)],[(32,some (52,.pairs l100))],[(1,some [.int p_0.g.n,.ro false (.pairs p_0.g.bars),.ro false (.ints p_0.ground)])]⟩:PS)) ?_ ?_))))
  ·rintro l100 h;show VC _ _ _ (⟨[(1,.ptr 1 0),(3,.row 32 0 l100.length),(10,.ro false (.ints p_0.ground)),(11,.int (p_0.ground.length:Int)),(12,.int x82)],[(32,some (52,.pairs l100))],[(1,some [.int p_0.g.n,.ro false (.pairs p_0.g.bars),.ro false (.ints p_0.ground)])]⟩:PS);refine Ab (Ae tt O hg3 (Aa O (Ah ?_)));show ∃ _,_;exact ⟨(l100,(x82+(1:Int))),(En.of ⟨O,O,O,O,O,Y⟩ ⟨O,Y⟩ ⟨O,Y⟩),h⟩
  intro k h;refine Aq (Bd (α:=(List (Int×Int))×Int) (fun | (l103,x104)=>(⟨[(1,.ptr 1 0),(3,.row 32 0 l103.length),(5,.int (p_0.ground.getD ((x82).toNat) 0)),(10,.ro false (.ints p_0.ground)),(11,.int (p_0.ground.length:Int)),(12,.int x82),(21,.ro false (.ints ((p_0.ground.take p_0.ground.length).drop (((x82+(1:Int))).toNat)))),(22,.int (((p_0.ground.take p_0.ground.length).drop (((x82+(1:Int))).toNat)).length:Int)),(23,.int x104)],[(32,some (52,.pairs l103))],[(1,some [.int p_0.g.n,.ro false (.pairs p_0.g.bars),.ro false (.ints p_0.ground)])]⟩:PS)) (Eb N p_0 x82 k) h (En.of ⟨rfl,rfl,rfl,rfl,rfl,rfl,rfl,rfl,rfl,Y⟩ ⟨rfl,Y⟩ ⟨rfl,Y⟩) (fun _=>rfl) ?_);rintro n ⟨l103,x104⟩ h;rw [Eb] at h;show VC _ _ _ (⟨[(1,.ptr 1 0),(3,.row 32 0 l103.length),(5,.int (p_0.ground.getD ((x82).toNat) 0)),(10,.ro false (.ints p_0.ground)),(11,.int (p_0.ground.length:Int)),(12,.int x82),(21,.ro false (.ints ((p_0.ground.take p_0.ground.length).drop (((x82+(1:Int))).toNat)))),(22,.int (((p_0.ground.take p_0.ground.length).drop (((x82+(1:Int))).toNat)).length:Int)),(23,.int x104)],[(32,some (52,.pairs l103))],[(1,some [.int p_0.g.n,.ro false (.pairs p_0.g.bars),.ro false (.ints p_0.ground)])]⟩:PS);refine Ai (Ab (Aa O (Ah (Ai (Au O (fun hb5=>?_) (fun hb5=>?_))))))
  ·replace h:=Ak hb5 h;refine As (Ai (Aq (Ai (Ab ?_))));obtain ⟨hg6,h⟩:=Ac h;refine Ae tt O hg6 (Aa O (Aa O (Ah (Ab (Aa O (Aa O (Aa O ?_)))))));obtain ⟨v106,hc7,h⟩:=Ag h;refine Ba (I_bar_w N (p_0.ground.getD ((x82).toNat) 0) (((p_0.ground.take p_0.ground.length).drop (((x82+(1:Int))).toNat)).getD ((x104).toNat) 0) v106 hc7) O O O O O O O O ⟨O,O,Y⟩ (Ep tt O O O O O O O O O O O ?_);obtain ⟨hg8,h⟩:=Ac h;refine Da tt O O O O O O O O O O O O O O O O (Nat.le_of_eq (Nat.zero_add _)) hg8 (Aa O (Ah (Ab ?_)));obtain ⟨hg9,h⟩:=Ac h;refine Ae tt O hg9 (Aa O (Ah ?_));show ∃ _,_;exact ⟨((l103++([(v106.1,v106.2)]:List (Int×Int))),(x104+(1:Int))),(En.of ⟨O,O,O,O,O,O,O,O,O,Y⟩ ⟨O,Y⟩ ⟨O,Y⟩),h⟩
  replace h:=Al hb5 h;refine Bn ?_;show ∃ _,_;exact ⟨l103,(En.of ⟨O,O,O,O,O,Y⟩ ⟨O,Y⟩ ⟨O,Y⟩),h⟩
 replace h:=Al hb1 h;refine Bn ?_;show ∃ _,_;exact ⟨l81,(En.of ⟨O,Y⟩ ⟨O,Y⟩ trivial),h⟩
end
section
open Go.RowKit
def Hw (N:Nat) (g_0:Grf) (k:Int→Option (Int)):Nat→((List Int)×(List Int)×(List Int)×Int×Int×Nat)→Option (Int)
 | 0,_=>none
 | n+1,(l36,l37,l38,n39,i40,n41)=>
  cnd (decide (i40<(g_0.bars.length:Int))) (
   grd (0≤i40∧i40<(g_0.bars.length:Int)) <|
   grd (n41=l36.length) <|
   (Mm N g_0 (⟨l36,l37,l38⟩:Pbl) ((g_0.bars.getD ((i40).toNat) (0,0)).1) ((g_0.bars.getD ((i40).toNat) (0,0)).2) (4:Int)).bind fun v43=>
   cnd (!v43.2) (
    grd (Bc (i40+(1:Int))) <|
    Hw N g_0 k n (l36,l37,l38,n39,(i40+(1:Int)),n41)) (
    grd (0≤((g_0.bars.getD ((i40).toNat) (0,0)).1)∧((g_0.bars.getD ((i40).toNat) (0,0)).1)<(v43.1.free.length:Int)) <|
    grd (Bc ((v43.1.free.getD (((g_0.bars.getD ((i40).toNat) (0,0)).1).toNat) 0)-(1:Int))) <|
    grd (v43.1.tails.length+1≤4294967296) <|
    grd (v43.1.placed.length+1≤4294967296) <|
    grd (Bc (n39+(1:Int))) <|
    grd (Bc (i40+(1:Int))) <|
    Hw N g_0 k n ((v43.1.free.set (((g_0.bars.getD ((i40).toNat) (0,0)).1).toNat) ((v43.1.free.getD (((g_0.bars.getD ((i40).toNat) (0,0)).1).toNat) 0)-(1:Int))),(v43.1.tails++([(g_0.bars.getD ((i40).toNat) (0,0)).1]:List Int)),(v43.1.placed++([i40]:List Int)),(n39+(1:Int)),(i40+(1:Int)),v43.1.free.length))) (
   k n39)
def Qf (N:Nat) (g_0:Grf):Option (Int):=
 (Lp N (⟨g_0.n,([]:List (Int×Int))⟩:Grf) (2:Int)).bind fun v1=>
 Hw N g_0 (fun (n22 : Int) =>
    some n22) N (v1.1.free,([]:List Int),([]:List Int),(0:Int),(0:Int),v1.1.free.length)
theorem Abt (N:Nat) (g_0:Grf) (r:Int) (h:Qf N g_0=some r):PCall Try.prog 55 [gD g_0] [] (.int r):=by
 unfold Qf at h;refine Aj (TT:=TT) tt Try.func55 O O Try.ntmps55 (congrArg Array.toList Try.results55) O O fun w0=>(Ai (Ab (Lh O O O O O O O O O (Aa O (Ah (Ai (Ab (Aa O (Aa O ?_)))))))));refine Km (Ad O) (Ez Hm O O) O O ?_;obtain ⟨v1,hc1,h⟩:=Ag h;refine Ba (Aas N (⟨g_0.n,([]:List (Int×Int))⟩:Grf) (2:Int) v1 hc1) O O O O O O O O ⟨⟨O,O,Y⟩,O,Y⟩ (Aa O (Aa O (Aa O (Bw tt O O O O O O O O O (Ar tt O O O O O O O O O O O ⟨Y,Y,Y,Y⟩ (Aa O (Ah (Ai (Ab ?_)))))))));refine Aa O (Ah (Ai (Ai (Ab (Aa O (Ah (Cr (F:=fun k=>Hw N g_0 k) h (α:=Int) (J:=fun (n22:Int)=>(⟨[(5,.int n22)],[],[]⟩:PS)) ?_ ?_)))))))
 ·rintro n22 h;show VC _ _ _ (⟨[(5,.int n22)],[],[]⟩:PS);refine Ai (Ab (Aa O (Aa O (Ah (Az ?_)))));show ∃ _,_;cases h;exact ⟨[],_,O,Y,O,.eq O,O⟩
 intro k h;refine Aq (Zh 3 1 9507 3 (.ints []) rfl rfl rfl rfl rfl (Zh 3 2 9508 3 (.ints []) rfl rfl rfl rfl rfl (Bd (α:=(List Int)×(List Int)×(List Int)×Int×Int×Nat) (fun | (l36,l37,l38,n39,i40,n41)=>(⟨[(1,.ptr 1 0),(3,.ptr 3 0),(5,.int n39),(6,.int i40)],[(1130,some (3,.ints l36)),(9507,some (3,.ints l37)),(9508,some (3,.ints l38))],[(1,some [.int g_0.n,.ro false (.pairs g_0.bars)]),(3,some [.row 1130 0 n41,.row 9507 0 l37.length,.row 9508 0 l38.length])]⟩:PS)) (Hw N g_0 k) h (En.of ⟨rfl,rfl,rfl,rfl,Y⟩ ⟨rfl,rfl,rfl,Y⟩ ⟨rfl,rfl,Y⟩) (fun _=>rfl) ?_)));rintro n ⟨l36,l37,l38,n39,i40,n41⟩ h;rw [Hw] at h;show VC _ _ _ (⟨[(1,.ptr 1 0),(3,.ptr 3 0),(5,.int n39),(6,.int i40)],[(1130,some (3,.ints l36)),(9507,some (3,.ints l37)),(9508,some (3,.ints l38))],[(1,some [.int g_0.n,.ro false (.pairs g_0.bars)]),(3,some [.row 1130 0 n41,.row 9507 0 l37.length,.row 9508 0 l38.length])]⟩:PS);refine Ai (Ai (Ab ?_));iterate 5 refine Aa O ?_
 refine Ah (Au O (fun hb2=>?_) (fun hb2=>?_))
 ·replace h:=Ak hb2 h;refine As (Ai (Aq (Ai (Bi 20 [14,18,1190000007] [0,0,0,4,0,28,60,124,0,256,0,1792,3840,7936,16383,32767,65535,65535,0,393215,1048575] (by kernel_rfl) (by kernel_rfl) (by kernel_rfl) (by kernel_rfl) (by kernel_rfl) O (by rfl) ?_))));iterate 5 refine Br tt O (Ad O) O O O O O Y ?_
  obtain ⟨hg3,h⟩:=Ac h;refine Br tt O (Ad O) O O O O O hg3 ?_;iterate 5 refine Br tt O (Ad O) O O O O O Y ?_
  refine Br tt O (Ad O) O O O O O hg3 ?_;iterate 2 refine Br tt O (Ad O) O O O O O Y ?_
  obtain ⟨hg4,h⟩:=Ac h;obtain ⟨v43,hc5,h⟩:=Ag h;refine Lk (S_l4Gather_w N g_0 (⟨l36,l37,l38⟩:Pbl) ((g_0.bars.getD ((i40).toNat) (0,0)).1) ((g_0.bars.getD ((i40).toNat) (0,0)).2) (4:Int) v43 hc5) rfl (Ad rfl) rfl rfl rfl rfl rfl rfl (by first | rfl | kernel_rfl | (simp [nrL,nm,Fc,nmT,Gu]; done)) rfl (by first | rfl | kernel_rfl | (simp [Kr,nrL,nm,Fc,nmT,Gu,hid,Gk,Dh,Ca]; done) | (simp [Kr,nrL,nm,Fc,nmT,Gu,hid,Gk,Dh,Ca]; decide)) ⟨⟨rfl,rfl,Y⟩,⟨(.inl ⟨hg4,rfl⟩),(.inl ⟨rfl,rfl⟩),(.inl ⟨rfl,rfl⟩),Y⟩,rfl,rfl,rfl,Y⟩ ?_;iterate 3 refine Br tt O (Ad O) O O O O O Y ?_
  refine nAlloc tt (Ad O) O O O O O O O O O O (nStoreB tt (Ad O) O O O O O O O O O O O O (Pm ?_));show VO _ _ _ _ _;refine Aa O (Ah (Ai (Ai (Ab (Aa O (Aa O (Ah (Au O (fun hb6=>?_) (fun hb6=>?_)))))))))
  ·replace h:=Ak hb6 h;refine Bn (Ab (Aa O ?_));obtain ⟨hg7,h⟩:=Ac h;refine Ae tt O hg7 (Aa O (Ah ?_));show ∃ _,_;exact ⟨(l36,l37,l38,n39,(i40+(1:Int)),n41),(En.of ⟨O,O,O,O,Y⟩ ⟨O,O,O,Y⟩ ⟨O,O,Y⟩),h⟩
  replace h:=Al hb6 h;refine As (Ai (Bi 19 [] [0,1,0,4,0,28,60,124,0,256,0,1024,0,7168,15360,31744,65280,130816,261888,524287,1048575] (by kernel_rfl) (by kernel_rfl) (by kernel_rfl) (by kernel_rfl) (by kernel_rfl) O (by rfl) ?_));iterate 5 refine Br tt O (Ad O) O O O O O Y ?_
  refine Br tt O (Ad O) O O O O O hg3 ?_;iterate 7 refine Br tt O (Ad O) O O O O O Y ?_
  refine Br tt O (Ad O) O O O O O hg3 ?_;iterate 2 refine Br tt O (Ad O) O O O O O Y ?_
  obtain ⟨hg8,h⟩:=Ac h;iterate 2 refine Br tt O (Ad O) O O O O O hg8 ?_
  obtain ⟨hg9,h⟩:=Ac h;refine Br tt O (Ad O) O O O O O hg9 (Pm ?_);show VO _ _ _ _ _;refine Ae tt O hg8 (Ar tt O O O O O O O O O O ⟨_,_,O,hg8.1,hg8.2⟩ ⟨hg8,Y⟩ (Ah (Ai (Bi 9 [8] [0,1,0,4,0,28,60,124,252,511,1023,2047] (by kernel_rfl) (by kernel_rfl) (by kernel_rfl) (by kernel_rfl) (by kernel_rfl) O (by rfl) ?_))));iterate 5 refine Br tt O (Ad O) O O O O O Y ?_
  refine Br tt O (Ad O) O O O O O hg3 ?_;iterate 2 refine Br tt O (Ad O) O O O O O Y ?_
  refine nBuild tt (Ad O) O O O O O O O O O O O O (Pm ?_);show VO _ _ _ _ _;obtain ⟨hg10,h⟩:=Ac h;refine Da tt O O O O O O O O O O O O O O O O (Nat.le_of_eq (Nat.zero_add _)) hg10 (Aa O (Ar tt O O O O O O O O O O O ⟨Y,Y⟩ (Ah (Ai (Ab (Aa O (Aa O (Aa O (Ep tt O O O O O O O O O O O ?_)))))))));obtain ⟨hg11,h⟩:=Ac h;refine Da tt O O O O O O O O O O O O O O O O (Nat.le_of_eq (Nat.zero_add _)) hg11 (Aa O (Ar tt O O O O O O O O O O O ⟨Y,Y⟩ (Ah (Ai (Ab (Aa O (Ar tt O O O O O O O O O O O ⟨Y,Y,Y,Y⟩ (Ah (Ab ?_)))))))));refine Aa O ?_;obtain ⟨hg12,h⟩:=Ac h;refine Ae tt O hg12 (Aa O (Ah (Ab (Aa O ?_))));obtain ⟨hg13,h⟩:=Ac h;refine Ae tt O hg13 (Aa O (Ah ?_));show ∃ _,_;exact ⟨((v43.1.free.set (((g_0.bars.getD ((i40).toNat) (0,0)).1).toNat) ((v43.1.free.getD (((g_0.bars.getD ((i40).toNat) (0,0)).1).toNat) 0)-(1:Int))),(v43.1.tails++([(g_0.bars.getD ((i40).toNat) (0,0)).1]:List Int)),(v43.1.placed++([i40]:List Int)),(n39+(1:Int)),(i40+(1:Int)),v43.1.free.length),(En.ren [1130,9507,9508] [1380,1381,1382] O ⟨.inr O,.inr O,.inr O,.inr O,Y⟩ ⟨.inr O,.inr O,.inr O,Y⟩ ⟨.inr ⟨_,_,O,O,⟨.inr O,.inr O,Y⟩⟩,.inr ⟨_,_,O,O,⟨.inr O,.inr O,.inr O,Y⟩⟩,Y⟩),h⟩
 replace h:=Al hb2 h;refine Bn ?_;show ∃ _,_;exact ⟨n39,(En.of ⟨O,Y⟩ trivial trivial),h⟩
def Eh (N:Nat) (p_0:Pin):Option (Int):=
 (Ka N p_0).bind fun v1=>
 cnd (!v1) (
  some (-1:Int)) (
  (St N p_0).bind fun v2=>
  (Qf N v2).bind fun v3=>
  (Ph N p_0).bind fun v4=>
  (Qf N v4).bind fun v5=>
  grd (Bc (v3-v5)) <|
  some (v3-v5))
theorem Th (N:Nat) (p_0:Pin) (r:Int) (h:Eh N p_0=some r):PCall Try.prog 39 [pD p_0] [] (.int r):=by
 unfold Eh at h;refine Aj (TT:=TT) tt Try.func39 O O Try.ntmps39 (congrArg Array.toList Try.results39) O O fun w0=>(Ai (Ab (Lh O O O O O O O O O (Aa O (Ah (Ai (Ai (Ab (Aa O ?_)))))))));obtain ⟨v1,hc1,h⟩:=Ag h;refine Ba (Pr N p_0 v1 hc1) O O O O O O O O ⟨⟨O,O,O,Y⟩,Y⟩ (Aa O (Ah (Au O (fun hb2=>?_) (fun hb2=>?_))))
 ·replace h:=Ak hb2 h;refine Ai (Ab (Aa O (Ah (Az ?_))));show ∃ _,_;cases h;exact ⟨[],_,O,Y,O,.eq O,O⟩
 replace h:=Al hb2 h;refine As (Ai (Bi 4 [1] [0,1,3,0,15,31,63,127] (by kernel_rfl) (by kernel_rfl) (by kernel_rfl) (by kernel_rfl) (by kernel_rfl) O (by rfl) (Br tt O (Ad O) O O O O O Y ?_)));obtain ⟨v2,hc3,h⟩:=Ag h;refine Lk (S_l20All_w N p_0 v2 hc3) rfl (Ad rfl) rfl rfl rfl rfl rfl rfl (by first | rfl | kernel_rfl | (simp [nrL,nm,Fc,nmT,Gu]; done)) rfl (by first | rfl | kernel_rfl | (simp [Kr,nrL,nm,Fc,nmT,Gu,hid,Gk,Dh,Ca]; done) | (simp [Kr,nrL,nm,Fc,nmT,Gu,hid,Gk,Dh,Ca]; decide)) ⟨⟨rfl,rfl,rfl,Y⟩,Y⟩ ?_;obtain ⟨v3,hc4,h⟩:=Ag h;refine Aax (Abt N v2 v3 hc4) O (Ad O) O O O O O O O O ⟨⟨O,(.inl ⟨O,O⟩),Y⟩,Y⟩ (Br tt O (Ad O) O O O O O Y (Pm ?_));show VO _ _ _ _ _;obtain ⟨v4,hc5,h⟩:=Ag h;refine Ba (Zg N p_0 v4 hc5) O O O O O O O O ⟨⟨O,O,O,Y⟩,Y⟩ ?_;obtain ⟨v5,hc6,h⟩:=Ag h;refine Ba (Abt N v4 v5 hc6) O O O O O O O O ⟨⟨O,(.inl ⟨O,O⟩),Y⟩,Y⟩ ?_;obtain ⟨hg7,h⟩:=Ac h;refine Ae tt O hg7 (Aa O (Ah (Az ?_)));show ∃ _,_;cases h;exact ⟨[],_,O,Y,O,.eq O,O⟩
def Cz (N:Nat) (p_0:Pin):Option (Int):=
 (Ka N p_0).bind fun v1=>
 cnd (!v1) (
  some (-1:Int)) (
  (Dv N p_0).bind fun v2=>
  grd (Bc ((2:Int)*(v2.length:Int))) <|
  (Eh N p_0).bind fun v3=>
  grd (Bc (((2:Int)*(v2.length:Int))-v3)) <|
  some (((2:Int)*(v2.length:Int))-v3))
theorem Xh (N:Nat) (p_0:Pin) (r:Int) (h:Cz N p_0=some r):PCall Try.prog 54 [pD p_0] [] (.int r):=by
 unfold Cz at h;refine Aj (TT:=TT) tt Try.func54 O O Try.ntmps54 (congrArg Array.toList Try.results54) O O fun w0=>(Ai (Ab (Lh O O O O O O O O O (Aa O (Ah (Ai (Ai (Ab (Aa O ?_)))))))));obtain ⟨v1,hc1,h⟩:=Ag h;refine Ba (Pr N p_0 v1 hc1) O O O O O O O O ⟨⟨O,O,O,Y⟩,Y⟩ (Aa O (Ah (Au O (fun hb2=>?_) (fun hb2=>?_))))
 ·replace h:=Ak hb2 h;refine Ai (Ab (Aa O (Ah (Az ?_))));show ∃ _,_;cases h;exact ⟨[],_,O,Y,O,.eq O,O⟩
 replace h:=Al hb2 h;refine As (Ai (Bi 6 [1] [0,1,3,7,0,19,63,127] (by kernel_rfl) (by kernel_rfl) (by kernel_rfl) (by kernel_rfl) (by kernel_rfl) O (by rfl) (Br tt O (Ad O) O O O O O Y ?_)));obtain ⟨v2,hc3,h⟩:=Ag h;refine Lk (Gr N p_0 v2 hc3) rfl (Ad rfl) rfl rfl rfl rfl rfl rfl (by first | rfl | kernel_rfl | (simp [nrL,nm,Fc,nmT,Gu]; done)) rfl (by first | rfl | kernel_rfl | (simp [Kr,nrL,nm,Fc,nmT,Gu,hid,Gk,Dh,Ca]; done) | (simp [Kr,nrL,nm,Fc,nmT,Gu,hid,Gk,Dh,Ca]; decide)) ⟨⟨rfl,rfl,rfl,Y⟩,Y⟩ (Br tt rfl (Ad rfl) rfl rfl rfl rfl rfl Y ?_);obtain ⟨hg4,h⟩:=Ac h;refine Br tt O (Ad O) O O O O O hg4 (Br tt O (Ad O) O O O O O Y ?_);obtain ⟨v3,hc5,h⟩:=Ag h;refine Aax (Th N p_0 v3 hc5) O (Ad O) O O O O O O O O ⟨⟨O,O,O,Y⟩,Y⟩ (Pm ?_);show VO _ _ _ _ _;obtain ⟨hg6,h⟩:=Ac h;refine Ae tt O hg6 (Aa O (Ah (Az ?_)));show ∃ _,_;cases h;exact ⟨[],_,O,Y,O,.eq O,O⟩
def Jb (N:Nat) (p_0:Pin):Option (Int):=
 (Kd N p_0).bind fun v1=>
 cnd (!v1) (
  some (-1:Int)) (
  (Jg N p_0).bind fun v2=>
  grd (v2.length+p_0.g.bars.length≤4294967296) <|
  (Jc N p_0.g.n (v2++p_0.g.bars)).bind fun v3=>
  (Jg N p_0).bind fun v4=>
  (Jc N p_0.g.n v4).bind fun v5=>
  grd (Bc (v3-v5)) <|
  some (v3-v5))
theorem Te (N:Nat) (p_0:Pin) (r:Int) (h:Jb N p_0=some r):PCall Try.prog 47 [pD p_0] [] (.int r):=by
 unfold Jb at h;refine Aj (TT:=TT) tt Try.func47 O O Try.ntmps47 (congrArg Array.toList Try.results47) O O fun w0=>(Ai (Ab (Lh O O O O O O O O O (Aa O (Ah (Ai (Ai (Ab (Aa O ?_)))))))));obtain ⟨v1,hc1,h⟩:=Ag h;refine Ba (Pv N p_0 v1 hc1) O O O O O O O O ⟨⟨O,O,O,Y⟩,Y⟩ (Aa O (Ah (Au O (fun hb2=>?_) (fun hb2=>?_))))
 ·replace h:=Ak hb2 h;refine Ai (Ab (Aa O (Ah (Az ?_))));show ∃ _,_;cases h;exact ⟨[],_,O,Y,O,.eq O,O⟩
 replace h:=Al hb2 h;refine As (Ai (Ab ?_));iterate 4 refine Aa O ?_
 refine Ah (Ai (Bi 11 [2,6,10,1060001120] [0,0,2,0,8,24,62,127,0,0,767,2047,4095,8191] (by kernel_rfl) (by kernel_rfl) (by kernel_rfl) (by kernel_rfl) (by kernel_rfl) O (by rfl) ?_));iterate 2 refine Br tt O (Ad O) O O O O O Y ?_
 obtain ⟨v2,hc3,h⟩:=Ag h;refine Lk (Si N p_0 v2 hc3) rfl (Ad rfl) rfl rfl rfl rfl rfl rfl (by first | rfl | kernel_rfl | (simp [nrL,nm,Fc,nmT,Gu]; done)) rfl (by first | rfl | kernel_rfl | (simp [Kr,nrL,nm,Fc,nmT,Gu,hid,Gk,Dh,Ca]; done) | (simp [Kr,nrL,nm,Fc,nmT,Gu,hid,Gk,Dh,Ca]; decide)) ⟨⟨rfl,rfl,rfl,Y⟩,Y⟩ ?_;iterate 3 refine Br tt O (Ad O) O O O O O Y ?_
 obtain ⟨hg4,h⟩:=Ac h;refine nAppMove tt (Ad O) O O O O O O O O O O O O O O O O O O O O Y hg4 ?_;obtain ⟨v3,hc5,h⟩:=Ag h;refine Aax (Vv N p_0.g.n (v2++p_0.g.bars) v3 hc5) O (Ad O) O O O O O O O O ⟨O,(.inl ⟨O,O⟩),Y⟩ ?_;iterate 2 refine Br tt O (Ad O) O O O O O Y ?_
 obtain ⟨v4,hc6,h⟩:=Ag h;refine Lk (Si N p_0 v4 hc6) rfl (Ad rfl) rfl rfl rfl rfl rfl rfl (by first | rfl | kernel_rfl | (simp [nrL,nm,Fc,nmT,Gu]; done)) rfl (by first | rfl | kernel_rfl | (simp [Kr,nrL,nm,Fc,nmT,Gu,hid,Gk,Dh,Ca]; done) | (simp [Kr,nrL,nm,Fc,nmT,Gu,hid,Gk,Dh,Ca]; decide)) ⟨⟨rfl,rfl,rfl,Y⟩,Y⟩ (Pm ?_);show VO _ _ _ _ _;obtain ⟨v5,hc7,h⟩:=Ag h;refine Ba (Vv N p_0.g.n v4 v5 hc7) O O O O O O O O ⟨O,(.inl ⟨O,O⟩),Y⟩ ?_;obtain ⟨hg8,h⟩:=Ac h;refine Ae tt O hg8 (Aa O (Ah (Az ?_)));show ∃ _,_;cases h;exact ⟨[],_,O,Y,O,.eq O,O⟩
def Gj (N:Nat) (p_0:Pin):Option (Int):=
 (Kd N p_0).bind fun v1=>
 cnd (!v1) (
  some (-1:Int)) (
  (Fi N p_0).bind fun v2=>
  grd (Bc ((2:Int)*(v2.length:Int))) <|
  (Jb N p_0).bind fun v3=>
  grd (Bc (((2:Int)*(v2.length:Int))-v3)) <|
  some (((2:Int)*(v2.length:Int))-v3))
theorem Xe (N:Nat) (p_0:Pin) (r:Int) (h:Gj N p_0=some r):PCall Try.prog 64 [pD p_0] [] (.int r):=by
 unfold Gj at h;refine Aj (TT:=TT) tt Try.func64 O O Try.ntmps64 (congrArg Array.toList Try.results64) O O fun w0=>(Ai (Ab (Lh O O O O O O O O O (Aa O (Ah (Ai (Ai (Ab (Aa O ?_)))))))));obtain ⟨v1,hc1,h⟩:=Ag h;refine Ba (Pv N p_0 v1 hc1) O O O O O O O O ⟨⟨O,O,O,Y⟩,Y⟩ (Aa O (Ah (Au O (fun hb2=>?_) (fun hb2=>?_))))
 ·replace h:=Ak hb2 h;refine Ai (Ab (Aa O (Ah (Az ?_))));show ∃ _,_;cases h;exact ⟨[],_,O,Y,O,.eq O,O⟩
 replace h:=Al hb2 h;refine As (Ai (Bi 6 [1] [0,1,3,7,0,19,63,127] (by kernel_rfl) (by kernel_rfl) (by kernel_rfl) (by kernel_rfl) (by kernel_rfl) O (by rfl) (Br tt O (Ad O) O O O O O Y ?_)));obtain ⟨v2,hc3,h⟩:=Ag h;refine Lk (Pg N p_0 v2 hc3) rfl (Ad rfl) rfl rfl rfl rfl rfl rfl (by first | rfl | kernel_rfl | (simp [nrL,nm,Fc,nmT,Gu]; done)) rfl (by first | rfl | kernel_rfl | (simp [Kr,nrL,nm,Fc,nmT,Gu,hid,Gk,Dh,Ca]; done) | (simp [Kr,nrL,nm,Fc,nmT,Gu,hid,Gk,Dh,Ca]; decide)) ⟨⟨rfl,rfl,rfl,Y⟩,Y⟩ (Br tt rfl (Ad rfl) rfl rfl rfl rfl rfl Y ?_);obtain ⟨hg4,h⟩:=Ac h;refine Br tt O (Ad O) O O O O O hg4 (Br tt O (Ad O) O O O O O Y ?_);obtain ⟨v3,hc5,h⟩:=Ag h;refine Aax (Te N p_0 v3 hc5) O (Ad O) O O O O O O O O ⟨⟨O,O,O,Y⟩,Y⟩ (Pm ?_);show VO _ _ _ _ _;obtain ⟨hg6,h⟩:=Ac h;refine Ae tt O hg6 (Aa O (Ah (Az ?_)));show ∃ _,_;cases h;exact ⟨[],_,O,Y,O,.eq O,O⟩
end
section
variable {n:Nat} {f T:List Int} {a b:Int}
abbrev brI (bars:List (Int×Int)) (i:Int):Int×Int:=bars.getD i.toNat (0,0)
structure PG (n:Nat) (bars:List (Int×Int)) (p:Pbl):Prop where
 inv:PInv n (p.placed.map (brI bars)) p.free p.tails
 pl:∀ i∈p.placed,0≤i∧i<(bars.length:Int)
theorem fsum_nn {n:Nat} {X:VS} {f:List Int} (nn:∀ v:Nat,v<n→0≤f.getD v 0):∀ m,m≤n→0≤fsum X f m
 | 0,_=>by simp [fsum]
 | m+1,hm=>by
  have ih:=fsum_nn (X:=X) nn m (by omega);have:=nn m (by omega);rw [fsum]; split <;> omega
theorem PInv.tlen {E:List (Int×Int)} (h:PInv n E f T):T.length≤2*n:=by
 have h1:=h.sum fun _=>true;have h2:=fsum_nn (X:=fun _=>true) h.nn n (Nat.le_refl _);have h3:T.countP (fun _=>true)=T.length:=by simp
 have h4:vsz n (fun _=>true)=n:=by simp [vsz]
 rw [h3,h4] at h1;omega
theorem eAt {bars:List (Int×Int)} {pl:List Int} {i:Nat} (h:i<pl.length):(pl.map (brI bars)).getD i (0,0)=bars.getD (pl.getD i 0).toNat (0,0):=by
 simp [List.getD_eq_getElem?_getD,List.getElem?_eq_getElem h]
section
variable {g:Grf} {p:Pbl} {N:Nat} (hN:4000000≤N) (hn:n≤1000) (hg:g.n=n) (hp:PG n g.bars p)
include hp in
theorem PG.plAt {i:Nat} (h:i<p.placed.length):0≤p.placed.getD i 0∧p.placed.getD i 0<(g.bars.length:Int):=hp.pl _ (Ci h)
include hp in
theorem PG.bok {i:Nat} (h:i<p.placed.length):Bok n (g.bars.getD (p.placed.getD i 0).toNat (0,0)):=by
 rw [←eAt h]; exact hp.inv.ok _ (Ci (by simpa using h))
theorem other_s {n:Nat} (hn:n≤1000) {e:Int×Int} (he:Bok n e) {v:Int} (hv:0≤v∧v<n):Kj N e v=some (oth e v):=by
 obtain ⟨h1,h2,h3,h4,_⟩:=he;unfold Kj;rw [Cy (by omega) (by omega),Cy (by omega) (by omega)]; rfl
include hn hp in
theorem shift_s {from':List Int} {q:List Int} {u:Int} {v1:Pbl} {kk:List Int→Option Pbl} (hfl:from'.length=n) (hb:BI n (p.placed.map (brI g.bars)) p.tails a q (fun v=>from'.getD v.toNat 0)) (hv1:v1.tails.length=p.tails.length) :
  ∀ (fuel j:Nat) (T':List Int),j<q.length→j<fuel→Mv (p.placed.map (brI g.bars)) p.tails T' u (q.getD j 0) →
   (∀ j',0<j'→j'≤j→T'.getD (from'.getD (q.getD j' 0).toNat 0).toNat 0=p.tails.getD (from'.getD (q.getD j' 0).toNat 0).toNat 0) →
   ∃ T'',Mv (p.placed.map (brI g.bars)) p.tails T'' u a∧Hs N g p from' a v1 kk fuel (T',q.getD j 0)=kk T'':=by
 intro fuel
 induction fuel with
 | zero=>intro j T' _ h; omega
 | succ fuel ih=>
  intro j T' hj hf hm hun;rw [Hs];by_cases h0:j=0
  ·subst h0;refine ⟨T',by rw [hb.hd] at hm; exact hm,?_⟩;rw [Fy hb.hd]
  have hne:¬ q.getD j 0=a:=by
   intro e;rw [←hb.hd] at e;have hp0:=hb.pos;rw [List.getD_eq_getElem?_getD,List.getD_eq_getElem?_getD,List.getElem?_eq_getElem hj,List.getElem?_eq_getElem hp0] at e;have:=(List.getElem_inj hb.nd).1 e;omega
  obtain ⟨j',i,g1,g2,g3,g4,g5,g6,g7⟩:=hb.back hp.inv (by omega) hj hm hun;have hip:i<p.placed.length:=by simpa using g2
  obtain ⟨T'',k1,k2⟩:=ih j' (T'.set i (q.getD j 0)) (by omega) (by omega) g6 g7;refine ⟨T'',k1,?_⟩;have hr:=hb.rg _ (Ci (d:=0) hj);have hpl:=hp.plAt hip;have htl:=hp.inv.tl;have hml:=hm.len;have eo:=other_s (N:=N) hn (hp.bok hip) hr;rw [←eAt hip,g4] at eo;rw [eAt hip] at eo;simp only [List.length_map] at htl;simp (disch:=omega) only [pst,Mx hne,g3,eo,hfl,hv1,hml,htl,k2]
include hN hn hp in
theorem shiftS_s {from':List Int} {q:List Int} {j:Nat} (hfl:from'.length=n) (hb:BI n (p.placed.map (brI g.bars)) p.tails a q (fun v=>from'.getD v.toNat 0)) (hj:j<q.length) (hj0:0<j) (hbr:0≤b∧b<n) (hub:q.getD j 0≠b) (hab:a≠b) (hf:1≤p.free.getD (q.getD j 0).toNat 0) :
  ∃ p':Pbl,Sb N g p from' a (q.getD j 0)=some p'∧Won n (p.placed.map (brI g.bars)) p.free p'.free p'.tails a b∧p'.placed=p.placed:=by
 have hu:=hb.rg _ (Ci (d:=0) hj);have ha:0≤a∧a<n:=by have:=hb.rg _ (Ci (d:=0) hb.pos); rwa [hb.hd] at this
 have hua:q.getD j 0≠a:=by
  intro e;rw [←hb.hd] at e;have hp0:=hb.pos;rw [List.getD_eq_getElem?_getD,List.getD_eq_getElem?_getD,List.getElem?_eq_getElem hj,List.getElem?_eq_getElem hp0] at e;have:=(List.getElem_inj hb.nd).1 e;omega
 have hle:=hb.len
 obtain ⟨T'',k1,k2⟩:=shift_s hn hp (N:=N) (v1:=⟨[]++p.free,[]++p.tails,[]++p.placed⟩) (u:=q.getD j 0)
  (kk:=fun l7=>grd (p.free.length=(Yd p.free (q.getD j 0) a).length) <| grd (p.tails.length=l7.length) <| some ⟨Yd p.free (q.getD j 0) a,l7,p.placed⟩) hfl hb (by simp) N j p.tails hj (by omega) (Mv.start hp.inv _) (fun _ _ _=>rfl)
 refine ⟨⟨Yd p.free (q.getD j 0) a,T'',p.placed⟩,?_,k1.won hp.inv ha hu hbr hua hub hab hf,O⟩;have f1:=hp.inv.fl;have t1:=hp.inv.tl;have t2:=hp.inv.tlen;have t3:=k1.len;simp only [List.length_map] at t1;have b1:p.free.getD (q.getD j 0).toNat 0≤2:=hp.inv.le2 (by omega)
 have b2:0≤(p.free.set (q.getD j 0).toNat (p.free.getD (q.getD j 0).toNat 0-1)).getD a.toNat 0∧(p.free.set (q.getD j 0).toNat (p.free.getD (q.getD j 0).toNat 0-1)).getD a.toNat 0≤2:=by
  rw [Ji];have:=hp.inv.le2 (v:=a.toNat) (by omega);have:=hp.inv.nn a.toNat (by omega);split <;> omega
 unfold Sb Sm;simp (disch:=omega) only [pst,List.nil_append,List.length_set];simp only [List.nil_append] at k2;simp only [Yd,List.length_set,grd_T] at k2 ⊢;rw [k2];exact Ao t3.symm _
structure FSt (n:Nat) (bars:List (Int×Int)) (p:Pbl) (a b:Int) (from' q:List Int) (seen:List Bool):Prop where
 bi:BI n (p.placed.map (brI bars)) p.tails a q (fun v=>from'.getD v.toNat 0)
 bz:BZ p.free a b q
 fl:from'.length=n
 sl:seen.length=n
 sq:∀ v:Int,0≤v→v<n→seen.getD v.toNat false=decide (v∈q)
theorem oth_rg {e:Int×Int} (he:Bok n e) {v:Int} (h:v=e.1∨v=e.2):0≤oth e v∧oth e v<n:=by
 obtain ⟨h1,h2,h3,h4,_⟩:=he;unfold oth;rcases h with rfl | rfl <;> omega
theorem FSt.pushB {bars:List (Int×Int)} {from' q:List Int} {seen:List Bool} (h:FSt n bars p a b from' q seen) {k i:Nat} {v:Int} (hk:k<q.length) (hi:i<p.placed.length) (ht:p.tails.getD i 0=q.getD k 0) (hv:oth ((p.placed.map (brI bars)).getD i (0,0)) (q.getD k 0)=v) (hr:0≤v∧v<n) (hn:v∉q) :
  BI n (p.placed.map (brI bars)) p.tails a (q++[v]) (fun w=>(from'.set v.toNat (i:Int)).getD w.toNat 0):=by
 have hfl:=h.fl;refine h.bi.push (fr':=fun w=>(from'.set v.toNat i).getD w.toNat 0) hk (by simpa using hi) ht hv hr hn ?_ fun w hw=>?_
 ·show (from'.set v.toNat i).getD v.toNat 0=i;rw [Ji,if_pos ⟨rfl,by omega⟩]
 show (from'.set v.toNat i).getD w.toNat 0=from'.getD w.toNat 0;have:=h.bi.rg w hw;have hne:w≠v:=fun e=>hn (e ▸ hw);rw [Ji,if_neg (by omega)]
theorem FSt.push {bars:List (Int×Int)} {from' q:List Int} {seen:List Bool} (h:FSt n bars p a b from' q seen) {k i:Nat} {v:Int} (hk:k<q.length) (hi:i<p.placed.length) (ht:p.tails.getD i 0=q.getD k 0) (hv:oth ((p.placed.map (brI bars)).getD i (0,0)) (q.getD k 0)=v) (hr:0≤v∧v<n) (hn:v∉q) (hz:v=b∨p.free.getD v.toNat 0=0) :
  FSt n bars p a b (from'.set v.toNat i) (q++[v]) (seen.set v.toNat true):=by
 have hfl:=h.fl;have hsl:=h.sl;refine ⟨h.pushB hk hi ht hv hr hn,h.bz.push hz,by simp [hfl],by simp [hsl],fun w h1 h2=>?_⟩;rw [Ji];by_cases e:w=v
 ·subst e;rw [if_pos ⟨rfl,by omega⟩]; simp
 rw [if_neg (by omega),h.sq w h1 h2];simp [e]
include hN hn hg hp in
theorem find2_s {l106:List Int} {kk:(List Int×List Int×List Bool)→Option (Pbl×Bool)} {k:Nat} (hab:a≠b) (hbr:0≤b∧b<n) :
  ∀ (fuel m:Nat) (from' q:List Int) (seen:List Bool),m≤p.placed.length→p.placed.length<fuel+m→FSt n g.bars p a b from' q seen→Done (p.placed.map (brI g.bars)) p.tails q k m→k<q.length→q.getD k 0=l106.getD k 0 →
   (∃ p':Pbl,Dl N g p a b l106 k kk fuel (from',q,seen,(m:Int))=some (p',true)∧Won n (p.placed.map (brI g.bars)) p.free p'.free p'.tails a b∧p'.placed=p.placed) ∨
   ∃ from'' q' seen',Dl N g p a b l106 k kk fuel (from',q,seen,(m:Int))=kk (from'',q',seen')∧FSt n g.bars p a b from'' q' seen'∧Done (p.placed.map (brI g.bars)) p.tails q' (k+1) 0∧k<q'.length:=by
 intro fuel
 induction fuel with
 | zero=>intro m _ _ _ h1 h2; omega
 | succ fuel ih=>
  intro m from' q seen h1 h2 hF hD hk hq;rw [Dl];have hlen:(p.placed.map (brI g.bars)).length=p.placed.length:=by simp
  by_cases hm:m<p.placed.length
  ·have htl:=hp.inv.tl;have hfr:=hp.inv.fl;have hfl:=hF.fl;have hsl:=hF.sl;rw [hlen] at htl;have hpl:=hp.plAt hm;have ht2:=hp.inv.tlen;by_cases ht:p.tails.getD m 0=q.getD k 0
   ·have hbk:=hp.bok hm;have hen:=hp.inv.en m (by rw [hlen]; exact hm);rw [eAt hm] at hen;rw [ht] at hen;have hr0:=hF.bi.rg _ (Ci (d:=0) hk);have eo:=other_s (N:=N) hn hbk hr0;have hvr:=oth_rg hbk hen;have ht':p.tails.getD m 0=l106.getD k 0:=ht.trans hq;rw [hq] at eo;generalize hv:oth (g.bars.getD (p.placed.getD m 0).toNat (0,0)) (q.getD k 0)=v at hvr;rw [←hq,hv] at eo;rw [hq] at eo;have hvo:oth ((p.placed.map (brI g.bars)).getD m (0,0)) (q.getD k 0)=v:=by rw [eAt hm,hv]
    have hsq:=hF.sq v hvr.1 hvr.2;by_cases hs:v∈q
    ·have hsq:seen.getD v.toNat false=true:=by rw [hsq]; exact decide_eq_true hs
     simp (disch:=omega) only [pst,Fy ht',eo,hsq,hg,List.length_replicate,Am];exact ih (m+1) from' q seen (by omega) (by omega) hF (hD.step fun _ _=>by rw [hvo]; exact hs) hk hq
    have hsq:seen.getD v.toNat false=false:=by rw [hsq]; exact decide_eq_false hs
    have hD':Done (p.placed.map (brI g.bars)) p.tails (q++[v]) k (m+1):=(hD.push hk).step fun _ _=>by rw [Hv hk,hvo]; simp
    have hql:=hF.bi.len;by_cases hvb:v=b
    ·have hF':=hF.push (i:=m) hk hm ht hvo hvr hs (.inl hvb);simp (disch:=omega) only [pst,Fy ht',eo,hsq,hg,List.length_replicate,Am,Fy hvb];exact ih (m+1) _ _ _ (by omega) (by omega) hF' hD' (by simp; omega) (by rw [Hv hk]; exact hq)
    by_cases hz:p.free.getD v.toNat 0 > 0
    ·left;have hb2:BI n (p.placed.map (brI g.bars)) p.tails a (q++[v]) (fun w=>(from'.set v.toNat (m:Int)).getD w.toNat 0):=hF.pushB hk hm ht hvo hvr hs;have e1:(q++[v]).getD q.length 0=v:=by rw [Ra]; simp
     obtain ⟨p',s1,s2,s3⟩:=shiftS_s hN hn hp (from':=from'.set v.toNat (m:Int)) (q:=q++[v]) (j:=q.length) (a:=a) (b:=b) (by simp [hfl]) hb2 (by simp) (by have:=hF.bi.pos; omega) hbr (by rw [e1]; exact hvb) hab (by rw [e1]; omega);rw [e1] at s1;refine ⟨p',?_,s2,s3⟩;simp (disch:=omega) only [pst,Fy ht',eo,hsq,hg,List.length_replicate,List.length_set,Am,Mx hvb,s1]
    have hz0:p.free.getD v.toNat 0=0:=by have:=hp.inv.nn v.toNat (by omega); omega
    have hF':=hF.push (i:=m) hk hm ht hvo hvr hs (.inr hz0);simp (disch:=omega) only [pst,Fy ht',eo,hsq,hg,List.length_replicate,Am,Mx hvb];exact ih (m+1) _ _ _ (by omega) (by omega) hF' hD' (by simp; omega) (by rw [Hv hk]; exact hq)
   have ht':¬ p.tails.getD m 0=l106.getD k 0:=by rw [←hq]; exact ht
   simp (disch:=omega) only [pst,Mx ht',Am];exact ih (m+1) from' q seen (by omega) (by omega) hF (hD.step fun _ e=>absurd e ht) hk hq
  right;have e:m=(p.placed.map (brI g.bars)).length:=by omega
  refine ⟨from',q,seen,?_,hF,by subst e; exact hD.next,hk⟩;simp (disch:=omega) only [pst]
include hN hn hg hp in
theorem find1_s {kk:Unit→Option (Pbl×Bool)} (hab:a≠b) (hbr:0≤b∧b<n) :
  ∀ (fuel k:Nat) (from' q:List Int) (seen:List Bool),n<fuel+k→FSt n g.bars p a b from' q seen→Done (p.placed.map (brI g.bars)) p.tails q k 0→k≤q.length →
   (∃ p':Pbl,Ch N g p a b kk fuel (from',q,seen,(k:Int))=some (p',true)∧Won n (p.placed.map (brI g.bars)) p.free p'.free p'.tails a b∧p'.placed=p.placed) ∨
   (Ch N g p a b kk fuel (from',q,seen,(k:Int))=kk ()∧Shut n (p.placed.map (brI g.bars)) p.free p.tails a b):=by
 intro fuel
 induction fuel with
 | zero=>intro k from' q seen h1 hF hD hk; have:=hF.bi.len; omega
 | succ fuel ih=>
  intro k from' q seen h1 hF hD hk;rw [Ch];have ht2:=hp.inv.tlen;have htl:=hp.inv.tl;simp only [List.length_map] at htl;by_cases hkq:k<q.length
  ·have hql:=hF.bi.len
   have key:=find2_s (l106:=q) (kk:=(fun (x:(List Int)×(List Int)×(List Bool))=>
     match x with
     | (l143,l144,l145)=>
      grd (Bc ((k:Int)+(1:Int))) <|
      Ch N g p a b kk fuel (l143,l144,l145,((k:Int)+(1:Int))))) hN hn hg hp hab hbr N 0 from' q seen (by omega) (by omega) hF hD hkq rfl
   rw [show ((0:Nat):Int)=0 from rfl] at key;rcases key with ⟨p',g1,g2,g3⟩ | ⟨f2,q2,s2,g1,g2,g3,g4⟩
   ·left;refine ⟨p',?_,g2,g3⟩;rw [Dk (by omega),Ao (by omega)];exact g1
   have e:Ch N g p a b kk (fuel+1) (from',q,seen,(k:Int))=Ch N g p a b kk fuel (f2,q2,s2,((k+1:Nat):Int)):=by
    rw [Ch];rw [Dk (by omega),Ao (by omega)];refine g1.trans ?_;have:=g2.bi.len;simp (disch:=omega) only [pst,Am]
   rw [Ch] at e;rw [e];exact ih (k+1) f2 q2 s2 (by omega) g2 g3 (by omega)
  right;refine ⟨?_,hF.bi.shut hF.bz hD (by omega)⟩;simp (disch:=omega) only [pst]
theorem find3_s {kk:List Int→Option (Pbl×Bool)} (hN:4000000≤N) (hn:n≤1000) (hg:g.n=n):∀ (fuel i:Nat) (l:List Int),n<fuel+i→i≤n→l.length=n→∃ l':List Int,l'.length=n∧Fz N g kk fuel (l,(i:Int))=kk l':=by
 intro fuel
 induction fuel with
 | zero=>intro i l h1 h2 h3; omega
 | succ fuel ih=>
  intro i l h1 h2 h3;rw [Fz];by_cases hi:i<n
  ·obtain ⟨l',g1,g2⟩:=ih (i+1) (l.set i (-1)) (by omega) (by omega) (by simp [h3]);refine ⟨l',g1,?_⟩;simp (disch:=omega) only [pst,hg,List.length_replicate,Am];exact g2
  refine ⟨l,h3,?_⟩;simp (disch:=omega) only [pst,hg]
include hN hn hg hp in
theorem find_s (hb:Bok n (a,b)) :
  (∃ p':Pbl,Lg N g p a b=some (p',true)∧Won n (p.placed.map (brI g.bars)) p.free p'.free p'.tails a b∧p'.placed=p.placed) ∨
  (Lg N g p a b=some (p,false)∧Shut n (p.placed.map (brI g.bars)) p.free p.tails a b):=by
 obtain ⟨h1,h2,h3,h4,h5⟩:=hb;simp only at h1 h2 h3 h4 h5
 have e:∃ l:List Int,l.length=n∧Lg N g p a b=Ch N g p a b (fun _=>some (p,false)) N (l,[a],(List.replicate n false).set a.toNat true,((0:Nat):Int)):=by
  obtain ⟨l,g1,g2⟩:=find3_s (N:=N) (kk:=fun (l3:List Int)=>
    grd (0≤a∧a<((List.replicate ((g.n).toNat) (false:Bool)).length:Int)) <|
    Ch N g p a b (fun (_:Unit)=>some ((⟨p.free,p.tails,p.placed⟩:Pbl),false)) N (l3,([a]:List Int),((List.replicate ((g.n).toNat) (false:Bool)).set ((a).toNat) true),(0:Int))) hN hn hg N 0 (List.replicate n 0) (by omega) (by omega) (by simp)
  refine ⟨l,g1,?_⟩;unfold Lg;rw [Ao (by omega)];simp only [hg,Int.toNat_natCast] at g2 ⊢;refine g2.trans ?_;simp (disch:=omega) only [pst,List.length_replicate];rfl
 obtain ⟨l,hl,e⟩:=e;rw [e];refine find1_s (kk:=fun _=>some (p,false)) hN hn hg hp h5 ⟨h3,h4⟩ N 0 l [a] _ (by omega) ⟨BI.start ⟨h1,h2⟩,fun v hv h _=>absurd (by simpa using hv) h,hl,by simp,fun v g1 g2=>?_⟩ Done.start (by simp);rw [Ji];by_cases e:v=a
 ·subst e;rw [if_pos ⟨rfl,by simp; omega⟩]; simp
 rw [if_neg (by omega)];simp [e,List.getD_eq_getElem?_getD,List.getElem?_replicate];split <;> rfl
end
section
variable {g:Grf} {N:Nat} (hN:4000000≤N) (hn:n≤1000) (hg:g.n=n)
theorem Won.pg {bars:List (Int×Int)} {p p':Pbl} (hp:PG n bars p) (h:Won n (p.placed.map (brI bars)) p.free p'.free p'.tails a b) (he:p'.placed=p.placed):PG n bars p':=⟨by rw [he]; exact h.inv,by rw [he]; exact hp.pl⟩
theorem Won.symm' {E:List (Int×Int)} {f f' T':List Int} (h:Won n E f f' T' a b):f'.getD a.toNat 0+f'.getD b.toNat 0=f.getD a.toNat 0+f.getD b.toNat 0+1:=by rw [h.up,h.keep]; omega
theorem Bok.swap (h:Bok n (a,b)):Bok n (b,a):=⟨h.2.2.1,h.2.2.2.1,h.1,h.2.1,h.2.2.2.2.symm⟩
include hN hn hg in
theorem gather1_s (hb:Bok n (a,b)) {kk:(List Int×List Int×List Int)→Option (Pbl×Bool)}:∀ (fuel:Nat) (p:Pbl),PG n g.bars p→4<fuel+(p.free.getD a.toNat 0+p.free.getD b.toNat 0) →
  ∃ p':Pbl,p'.placed=p.placed∧PG n g.bars p'∧((Eg N g a b 4 kk fuel (p.free,p.tails,p.placed)=kk (p'.free,p'.tails,p'.placed)∧4≤p'.free.getD a.toNat 0+p'.free.getD b.toNat 0) ∨
   (Eg N g a b 4 kk fuel (p.free,p.tails,p.placed)=some (p',false)∧∃ X,Tgt n (p.placed.map (brI g.bars)) X∧inX X (a,b)=true)):=by
 obtain ⟨h1,h2,h3,h4,h5⟩:=id hb;simp only at h1 h2 h3 h4 h5;intro fuel
 induction fuel with
 | zero=>
  intro p hp hf;have:=hp.inv.le2 (v:=a.toNat) (by omega);have:=hp.inv.le2 (v:=b.toNat) (by omega);omega
 | succ fuel ih=>
  intro p hp hf;have fl:=hp.inv.fl;have l1:=hp.inv.le2 (v:=a.toNat) (by omega);have l2:=hp.inv.le2 (v:=b.toNat) (by omega);have n1:=hp.inv.nn a.toNat (by omega);have n2:=hp.inv.nn b.toNat (by omega);rw [Eg];by_cases hs:p.free.getD a.toNat 0+p.free.getD b.toNat 0<4
  ·rcases find_s hN hn hg hp hb with ⟨p1,f1,f2,f3⟩ | ⟨f1,f2⟩
   ·obtain ⟨p',g1,g2,g3⟩:=ih p1 (f2.pg hp f3) (by have:=f2.symm'; omega);refine ⟨p',g1.trans f3,g2,?_⟩;rw [f3] at g3;have e:(⟨p.free,p.tails,p.placed⟩:Pbl)=p:=rfl;simp (disch:=omega) only [pst,e,f1];rw [f3];exact g3
   rcases find_s hN hn hg hp hb.swap with ⟨p1,k1,k2,k3⟩ | ⟨k1,k2⟩
   ·obtain ⟨p',g1,g2,g3⟩:=ih p1 (k2.pg hp k3) (by have:=k2.symm'; omega);refine ⟨p',g1.trans k3,g2,?_⟩;rw [k3] at g3;have e:(⟨p.free,p.tails,p.placed⟩:Pbl)=p:=rfl;simp (disch:=omega) only [pst,e,f1,k1];rw [k3];exact g3
   refine ⟨p,O,hp,.inr ⟨?_,Shut.tgt hp.inv hb f2 k2 (by omega)⟩⟩;have e:(⟨p.free,p.tails,p.placed⟩:Pbl)=p:=rfl;simp (disch:=omega) only [pst,e,f1,k1]
  refine ⟨p,O,hp,.inl ⟨?_,by omega⟩⟩;simp (disch:=omega) only [pst]
include hN hn hg in
theorem gather_s (hb : Bok n (a, b)) {p : Pbl} (hp : PG n g.bars p) : ∃ p' : Pbl, p'.placed = p.placed ∧ PG n g.bars p' ∧ ((Mm N g p a b 4 = some (p', true) ∧ 4 ≤ p'.free.getD a.toNat 0 + p'.free.getD b.toNat 0) ∨
   (Mm N g p a b 4=some (p',false)∧∃ X,Tgt n (p.placed.map (brI g.bars)) X∧inX X (a,b)=true)):=by
 obtain ⟨h1,h2,h3,h4,h5⟩:=id hb;simp only at h1 h2 h3 h4 h5;have n1:=hp.inv.nn a.toNat (by omega);have n2:=hp.inv.nn b.toNat (by omega);have fl:=hp.inv.fl;have tl:=hp.inv.tl;simp only [List.length_map] at tl;have t2:=hp.inv.tlen;obtain ⟨p',g1,g2,g3⟩:=gather1_s hN hn hg hb (kk:=fun x=>match x with | (l11,l12,l13)=>some ((⟨l11,l12,l13⟩:Pbl),true)) N p hp (by omega);refine ⟨p',g1,g2,?_⟩;unfold Mm Sm;simp (disch:=omega) only [pst,List.nil_append];exact g3
end
end
section
variable (N:Nat)
theorem l1In_s (x lo hi:Int):Aba N x lo hi=some (inB x lo hi):=by
 unfold Aba inB;rw [Ew];show some (cnd (decide (lo≤x)) _ _)=_;cases decide (lo≤x) <;> rfl
theorem within_s (x lo hi:Int):Sk N x lo hi=some (inB x lo hi):=by
 unfold Sk inB;rw [Ew];show some (cnd (decide (lo≤x)) _ _)=_;cases decide (lo≤x) <;> rfl
theorem Kh (hN:4000000≤N) {l:List Int} (hl:l.length≤3000000) (x:Int):Fe N l x=some (l.contains x):=by
 unfold Fe;refine (srch (len:=l.length) (ok:=fun i=>!(l.getD i 0==x)) (bad:=some true) (fin:=some false) (by omega) ?_ ?_).trans ?_
 ·intro n i hi _;rw [Kw];simp (disch:=omega) only [pst,Rk,Am]
 ·intro n _;rw [Kw];simp (disch:=omega) only [pst]
 rw [Rp,Ew]; cases l.contains x <;> rfl
theorem indexInt_l (hN:4000000≤N) {l:List Int} (hl:l.length≤3000000) (x:Int):∀ n i:Nat,i≤l.length→l.length<n+i→∃ r:Int,Gb N l x (fun _=>some (-1)) n (i:Int)=some r∧(decide (r≥0)=(l.drop i).contains x):=by
 intro n
 induction n with
 | zero=>intro i h1 h2; omega
 | succ n ih=>
  intro i h1 h2;rw [Gb];by_cases hi:i<l.length
  ·simp (disch:=omega) only [pst];rw [List.drop_eq_getElem_cons hi,List.contains_cons];have e:l.getD i 0=l[i]:=by simp [List.getD_eq_getElem?_getD,hi]
   rw [e]
   cases h:x==l[i] with
   | true=>exact ⟨i,rfl,by simp⟩
   | false=>
    obtain ⟨r,h1,h2⟩:=ih (i+1) (by omega) (by omega);exact ⟨r,h1,by rw [h2]; rfl⟩
  simp (disch:=omega) only [pst];exact ⟨-1,O,by rw [List.drop_eq_nil_of_le (by omega)]; rfl⟩
theorem Qi (hN:4000000≤N) {l:List Int} (hl:l.length≤3000000) (x:Int):Di N l x=some (l.contains x):=by
 unfold Di Rl;obtain ⟨r,h1,h2⟩:=indexInt_l N hN hl x N 0 (by omega) (by omega);rw [show (0:Int)=((0:Nat):Int) from rfl,h1];show some (decide (r≥0))=_;rw [h2]; rfl
theorem Qk (a b:Int×Int):Qq N a b=some (Dz a b):=by
 unfold Qq Dz;simp only [Ew];cases decide (a.1<b.1) <;> cases a.1==b.1 <;> rfl
theorem compareInts_s (a b:Int):Jj N a b=some (cmpI a b):=by
 unfold Jj cmpI;by_cases h:a<b
 ·simp (disch:=omega) only [pst,if_pos h]
 by_cases h':b<a
 ·simp (disch:=omega) only [pst,if_neg h,if_pos h',gt_iff_lt]
 simp (disch:=omega) only [pst,if_neg h,if_neg h',gt_iff_lt]
theorem Wi (a b:Int×Int):Kp N a b=some (cmpBar a b):=by
 unfold Kp cmpBar;simp only [compareInts_s,Option.bind_some];by_cases h:cmpI a.1 b.1=0
 ·rw [if_pos h,Fy h]
 rw [if_neg h,Mx h]
theorem cmpBar_gt (a b:Int×Int):decide (cmpBar a b > 0)=!Dz a b:=by
 have:=cmpBar_pos a b
 cases h:Dz a b with
 | true=>rw [h] at this; simp at this; simp; omega
 | false=>rw [h] at this; simp at this; simp; omega
theorem Sl (hN:4000000≤N) {g:Grf}:Lm N g=some (Fd g):=by
 unfold Lm Fd;rw [l1In_s,Option.bind_some,Rk]
 cases h1:inB g.n 1 8 with
 | false=>rfl
 | true=>
  by_cases h2:g.bars.length≤24
  ·simp (disch:=omega) only [pst];refine (srch (len:=g.bars.length) (ok:=Yf g.n g.bars) (bad:=some false) (fin:=some true) (by omega) ?_ ?_).trans ?_
   ·intro n i hi _;rw [Gy];by_cases h0:i=0
    ·subst h0;simp (disch:=omega) only [pst,Qk,Zo,Xa,Am];refine Ek ?_ _ _;simp only [Yf,Va];rw [Bool.eq_iff_iff]; simp; omega
    simp (disch:=omega) only [pst,Qk,Zo,Xa,Am,show ((i:Int)-1).toNat=i-1 from by omega];refine Ek ?_ _ _;simp only [Yf,Va,decide_eq_false h0,Bool.false_or];cases Dz (g.bars.getD (i-1) (0,0)) (g.bars.getD i (0,0)) <;> (rw [Bool.eq_iff_iff]; simp; try omega)
   ·intro n _;rw [Gy];simp (disch:=omega) only [pst]
   rw [Ew,Wa]; simp [h2]
  simp (disch:=omega) only [pst];simp [h2]
theorem isGraphI_s (hN:4000000≤N) {g:Grf}:Sf N g=some (Fd g):=by
 unfold Sf Fd;rw [within_s,Option.bind_some,Rk]
 cases h1:inB g.n 1 8 with
 | false=>rfl
 | true=>
  by_cases h2:g.bars.length≤24
  ·simp (disch:=omega) only [pst];refine (srch (len:=g.bars.length) (ok:=Yf g.n g.bars) (bad:=some false) (fin:=some true) (by omega) ?_ ?_).trans ?_
   ·intro n i hi _;rw [Gz];by_cases h0:i=0
    ·subst h0;simp (disch:=omega) only [pst,Wi,cmpBar_gt,Zo,Xa,Am];refine Ek ?_ _ _;simp only [Yf,Va];rw [Bool.eq_iff_iff]; simp; omega
    simp (disch:=omega) only [pst,Wi,cmpBar_gt,Zo,Xa,Am,show ((i:Int)-1).toNat=i-1 from by omega];refine Ek ?_ _ _;simp only [Yf,Va,decide_eq_false h0,Bool.false_or];cases Dz (g.bars.getD (i-1) (0,0)) (g.bars.getD i (0,0)) <;> (rw [Bool.eq_iff_iff]; simp; try omega)
   ·intro n _;rw [Gz];simp (disch:=omega) only [pst]
   rw [Ew,Wa]; simp [h2]
  simp (disch:=omega) only [pst];simp [h2]
end
section
variable {n:Nat} {N:Nat}
theorem tri {L:List (Int×Int)} (hL:Spr n L) (hok:∀ e∈L,Bok n e) {A B C:VS} (hA:Tgt n L A) (hB:Tgt n L B) (hC:Tgt n L C) {x y z:Int} (hx:0≤x∧x<n) (hy:0≤y∧y<n) (hz:0≤z∧z<n) (hxy:x≠y) (hxz:x≠z) (hyz:y≠z)
  (ax:A x=true) (ay:A y=true) (bx:B x=true) (bz:B z=true) (cy:C y=true) (cz:C z=true):∃ W,Tgt n L W∧W x=true∧W y=true∧W z=true:=by
 by_cases h1:2≤vsz n (vI A B)
 ·exact ⟨vU A B,hA.union hL hB h1,by simp [vU,ax],by simp [vU,ay],by simp [vU,bz]⟩
 by_cases h2:2≤vsz n (vI A C)
 ·exact ⟨vU A C,hA.union hL hC h2,by simp [vU,ax],by simp [vU,ay],by simp [vU,cz]⟩
 by_cases h3:2≤vsz n (vI B C)
 ·exact ⟨vU B C,hB.union hL hC h3,by simp [vU,bx],by simp [vU,cy],by simp [vU,bz]⟩
 have s1:Yc n A B:=by unfold Yc; omega
 have s2:Yc n A C:=by unfold Yc; omega
 have s3:Yc n B C:=by unfold Yc; omega
 have sums:∀ L':List (Int×Int),(∀ e∈L',Bok n e)→spn A L'+spn B L'+spn C L'≤spn (vU (vU A B) C) L':=by
  intro L'
  induction L' with
  | nil=>intro _; simp [spn]
  | cons e L' ih=>
   intro h;have ih:=ih fun e he=>h e (by simp [he]);have b:=h e (by simp);have t1:=spn_two s1 b;have t2:=spn_two s2 b;have t3:=spn_two s3 b;rw [Ho,Ho,Ho,Ho]
   have up:(inX A e || inX B e || inX C e)=true→inX (vU (vU A B) C) e=true:=by
    simp only [inX,vU,Bool.or_eq_true,Bool.and_eq_true];rintro ((⟨g1,g2⟩ | ⟨g1,g2⟩) | ⟨g1,g2⟩)
    ·exact ⟨.inl (.inl g1),.inl (.inl g2)⟩
    ·exact ⟨.inl (.inr g1),.inl (.inr g2)⟩
    exact ⟨.inr g1,.inr g2⟩
   revert t1 t2 t3 up
   generalize inX A e=p;generalize inX B e=q;generalize inX C e=r;generalize inX (vU (vU A B) C) e=w;intro t1 t2 t3 up;cases p <;> cases q <;> cases r <;> simp at t1 t2 t3 up ⊢ <;> first | omega | (subst up; simp; omega)
 have a1:=sums L hok;have c1:=vsz_UI n A B;have c2:=vsz_UI n (vU A B) C
 have d1:1≤vsz n (vI A B):=by
  obtain ⟨x',rfl⟩:=Int.eq_ofNat_of_zero_le hx.1;exact List.countP_pos_iff.2 ⟨x',by simp; omega,by simp [vI,ax,bx]⟩
 have d2:2≤vsz n (vI (vU A B) C):=Kb hy hz hyz (by simp [vI,vU,ay,cy]) (by simp [vI,vU,bz,cz]);have e1:=hA.eq hL;have e2:=hB.eq hL;have e3:=hC.eq hL;refine ⟨vU (vU A B) C,⟨?_,by omega⟩,by simp [vU,ax],by simp [vU,ay],by simp [vU,bz]⟩;exact Kb hx hy hxy (by simp [vU,ax]) (by simp [vU,ay])
structure Gm (n:Nat) (bars:List (Int×Int)) (p:Pbl) (i:Nat):Prop where
 pg:PG n bars p
 spr:Spr n (p.placed.map (brI bars))
 sp:∀ j,j<i→∃ X,Tgt n (p.placed.map (brI bars)) X∧inX X (bars.getD j (0,0))=true
theorem Gm.skip {bars:List (Int×Int)} {p:Pbl} {i:Nat} (h:Gm n bars p i) (hX:∃ X,Tgt n (p.placed.map (brI bars)) X∧inX X (bars.getD i (0,0))=true):Gm n bars p (i+1):=⟨h.pg,h.spr,fun j hj=>by
 by_cases e:j=i
 ·subst e; exact hX
 exact h.sp j (by omega)⟩
theorem Gm.put {bars:List (Int×Int)} {p p':Pbl} {i:Nat} (h:Gm n bars p i) (hi:i<bars.length) (hb:Bok n (bars.getD i (0,0))) (hp:p'.placed=p.placed) (hg:PG n bars p') {t:Int} (ht:t=(bars.getD i (0,0)).1∨t=(bars.getD i (0,0)).2) (hf:1≤p'.free.getD t.toNat 0) (h4:4≤p'.free.getD (bars.getD i (0,0)).1.toNat 0+p'.free.getD (bars.getD i (0,0)).2.toNat 0) :
  Gm n bars ⟨p'.free.set t.toNat (p'.free.getD t.toNat 0-1),p'.tails++[t],p'.placed++[(i:Int)]⟩ (i+1):=by
 have hE:((p'.placed++[(i:Int)]).map (brI bars))=p.placed.map (brI bars)++[bars.getD i (0,0)]:=by rw [hp]; simp
 have hg':=hg.inv;rw [hp] at hg';have hs:Spr n (p.placed.map (brI bars)++[bars.getD i (0,0)]):=hg'.acc h.spr (a:=(bars.getD i (0,0)).1) (b:=(bars.getD i (0,0)).2) hb h4;refine ⟨⟨?_,fun x hx=>?_⟩,?_,fun j hj=>?_⟩
 ·show PInv n ((p'.placed++[(i:Int)]).map (brI bars)) _ _;rw [hE];exact hg'.put (a:=(bars.getD i (0,0)).1) (b:=(bars.getD i (0,0)).2) hb ht hf
 ·rcases List.mem_append.1 hx with hx | hx
  ·exact hg.pl x hx
  simp at hx; subst hx; exact ⟨by omega,by omega⟩
 ·show Spr n ((p'.placed++[(i:Int)]).map (brI bars));rw [hE]; exact hs
 show ∃ X,Tgt n ((p'.placed++[(i:Int)]).map (brI bars)) X∧_;rw [hE];by_cases e:j=i
 ·subst e;exact ⟨_,tgt_bar (by simp) hb,by simp [inX,v2]⟩
 obtain ⟨X,g1,g2⟩:=h.sp j (by omega);exact ⟨X,g1.grow (by rw [Abh]; omega),g2⟩
theorem Gm.bas {bars:List (Int×Int)} {p:Pbl} (h:Gm n bars p bars.length):Bas n bars (p.placed.map (brI bars)):=by
 refine ⟨fun e he=>?_,h.spr,fun e he=>?_⟩
 ·obtain ⟨i,hi,rfl⟩:=List.mem_map.1 he;have:=h.pg.pl i hi;exact Ci (by omega)
 obtain ⟨j,hj,e'⟩:=List.mem_iff_getElem.1 he;have:=h.sp j hj
 rwa [List.getD_eq_getElem?_getD,List.getElem?_eq_getElem hj,Option.getD_some,e'] at this
theorem Gm.start (bars:List (Int×Int)):Gm n bars ⟨List.replicate n 2,[],[]⟩ 0:=by
 refine ⟨⟨⟨by simp,by simp,by simp,by simp,fun v hv=>?_,fun v hv=>?_⟩,by simp⟩,fun X h=>by simp [spn] at h,fun j h=>by omega⟩
 ·simp [List.getD_eq_getElem?_getD,List.getElem?_replicate,hv]
 simp [List.getD_eq_getElem?_getD,List.getElem?_replicate,hv]
variable {g:Grf} (hN:4000000≤N) (hn:n≤1000) (hg:g.n=n)
include hN hn hg in
theorem rank1_s {kk:Int→Option Int} (hb:∀ e∈g.bars,Bok n e) (hl:g.bars.length≤1000):∀ (fuel i:Nat) (p:Pbl),i≤g.bars.length→g.bars.length<fuel+i→Gm n g.bars p i →
  ∃ I,Bas n g.bars I∧Hw N g kk fuel (p.free,p.tails,p.placed,(p.placed.length:Int),(i:Int),p.free.length)=kk (I.length:Int):=by
 intro fuel
 induction fuel with
 | zero=>intro i p h1 h2; omega
 | succ fuel ih=>
  intro i p h1 h2 h;rw [Hw];by_cases hi:i<g.bars.length
  ·have hbi:=hb _ (Ci (d:=(0,0)) hi);have r1:=hbi.1;have r2:=hbi.2.1;have r3:=hbi.2.2.1;have r4:=hbi.2.2.2.1;have e:(⟨p.free,p.tails,p.placed⟩:Pbl)=p:=rfl;obtain ⟨p',g1,g2,⟨g3,g4⟩ | ⟨g3,g4⟩⟩:=gather_s hN hn hg (a:=(g.bars.getD i (0,0)).1) (b:=(g.bars.getD i (0,0)).2) hbi h.pg
   ·have le1:=g2.inv.le2 (v:=(g.bars.getD i (0,0)).2.toNat) (by omega);have le2:=g2.inv.le2 (v:=(g.bars.getD i (0,0)).1.toNat) (by omega);have hput:=h.put hi hbi g1 g2 (.inl rfl) (by omega) g4;obtain ⟨I,k1,k2⟩:=ih (i+1) _ (by omega) (by omega) hput;refine ⟨I,k1,?_⟩;have fl:=g2.inv.fl;have tl:=g2.inv.tl;simp only [List.length_map] at tl;have t2:=g2.inv.tlen;have pl:p.placed.length≤2*n:=by rw [←g1,←tl]; exact t2
    simp (disch:=omega) only [pst,e,g3,Bool.not_true,g1,Am];simp only [List.length_set,List.length_append,List.length_cons,List.length_nil] at k2;rw [g1] at k2;exact k2
   obtain ⟨I,k1,k2⟩:=ih (i+1) p (by omega) (by omega) (h.skip g4);refine ⟨I,k1,?_⟩;simp (disch:=omega) only [pst,e,g3,Bool.not_false,Am];exact k2
  have e:i=g.bars.length:=by omega
  subst e;refine ⟨_,h.bas,?_⟩;simp (disch:=omega) only [pst,List.length_map]
theorem pebbles_s (hN:4000000≤N) (hn:1≤n∧n≤8):Lp N ⟨(n:Int),[]⟩ 2=some (⟨List.replicate n 2,[],[]⟩,true):=by
 unfold Lp;have h1:Fd ⟨(n:Int),[]⟩=true:=Xy (by simp [inB]; omega) (by simp) (fun i hi=>by simp at hi);have h2:inB (2:Int) 1 3=true:=by decide
 simp (disch:=omega) only [pst,Sl N hN,h1,l1In_s N,h2,Bool.not_true];refine (fold (len:=n) (st:=fun i=>List.replicate i (2:Int)) (by omega) ?_ ?_)
 ·intro m i hi;rw [Eo];simp (disch:=omega) only [pst,List.length_replicate,Am];rw [List.replicate_succ']
 intro m;rw [Eo];simp (disch:=omega) only [pst]
include hN hg in
theorem rank_s (hn:1≤n∧n≤8) (hb:∀ e∈g.bars,Bok n e) (hl:g.bars.length≤1000):∃ I,Bas n g.bars I∧Qf N g=some (I.length:Int):=by
 obtain ⟨I,h1,h2⟩:=rank1_s hN (by omega) hg (kk:=fun x=>some x) hb hl N 0 ⟨List.replicate n 2,[],[]⟩ (by omega) (by omega) (Gm.start g.bars);refine ⟨I,h1,?_⟩;unfold Qf;rw [hg,pebbles_s hN hn];simp only [Option.bind_some];exact h2
end
section
variable {n:Nat} {a b:Int} {N:Nat}
theorem Vl:∀ (l:List (Int×Int)) (k v w:Int),Lx (l++[(k,v)]) w=match Lx l w with | some p=>some p | none=>if k=w then some (l.length,v) else none
 | [],k,v,w=>by simp [Lx]
 | (x,y)::l,k,v,w=>by
  simp only [List.cons_append,Lx];by_cases h:x=w
  ·simp [h]
  rw [if_neg h,if_neg h,Vl l k v w]
  cases Lx l w with
  | some p=>simp
  | none=>simp only [Option.map_none]; split <;> simp
theorem mset_new {l:List (Int×Int)} {k v:Int} (h:Aav l k=false):Wc l k v=l++[(k,v)]:=by
 unfold Aav at h;unfold Wc
 cases hm:Lx l k with
 | none=>rfl
 | some p=>rw [hm] at h; cases h
theorem mget_new {l:List (Int×Int)} {k v:Int} (h:Aav l k=false):Yy (Wc l k v) k=v:=by
 rw [mset_new h];unfold Yy;rw [Vl];unfold Aav at h
 cases hm:Lx l k with
 | none=>simp
 | some p=>rw [hm] at h; cases h
theorem mget_old {l:List (Int×Int)} {k v w:Int} (h:Aav l k=false) (hw:Aav l w=true):Yy (Wc l k v) w=Yy l w:=by
 rw [mset_new h];unfold Yy;rw [Vl];unfold Aav at hw
 cases hm:Lx l w with
 | none=>rw [hm] at hw; cases hw
 | some p=>rfl
theorem mhas_set {l:List (Int×Int)} {k v w:Int} (h:Aav l k=false):Aav (Wc l k v) w=(Aav l w || k==w):=by
 rw [mset_new h];unfold Aav;rw [Vl]
 cases hm:Lx l w with
 | none=>
  by_cases e:k=w
  ·simp [e]
  simp [e]
 | some p=>simp
theorem otherI_s {e:Int×Int} {v:Int} (h:v=e.1∨v=e.2):Hu N e v=some (oth e v):=by
 unfold Hu oth;by_cases h1:e.1=v
 ·rw [Rb h1,←h1]; congr 1; omega
 rw [Lz h1];have:=h.resolve_left (fun h=>h1 h.symm);rw [this]; congr 1; omega
theorem Yu {l:List Int} (hl:l.length≤3000000):Ld N l=some l:=by
 unfold Ld;rw [Ao (by first | omega | (simp; omega))];rfl
structure FI (n:Nat) (bars:List (Int×Int)) (p:Pbl) (a b:Int) (q:List Int) (mp:List (Int×Int)):Prop where
 bi:BI n (p.placed.map (brI bars)) p.tails a q (Yy mp)
 bz:BZ p.free a b q
 sq:∀ v:Int,Aav mp v=decide (v∈q)
section
variable {bars:List (Int×Int)} {p:Pbl} (hN:4000000≤N) (hn:n≤1000) (hp:PG n bars p)
include hp in
theorem PG.plAt' {i:Nat} (h:i<p.placed.length):0≤p.placed.getD i 0∧p.placed.getD i 0<(bars.length:Int):=hp.pl _ (Ci h)
include hp in
theorem PG.bok' {i:Nat} (h:i<p.placed.length):Bok n (bars.getD (p.placed.getD i 0).toNat (0,0)):=by
 rw [←eAt h]; exact hp.inv.ok _ (Ci (by simpa using h))
include hp in
theorem turn_s {from':List (Int×Int)} {q:List Int} {u x v:Int} {kk:List Int→Option (Bool×List Int×List Int×List Int)} (hb:BI n (p.placed.map (brI bars)) p.tails a q (Yy (Wc from' v x))) :
  ∀ (fuel j:Nat) (T':List Int),j<q.length→j<fuel→Mv (p.placed.map (brI bars)) p.tails T' u (q.getD j 0) →
   (∀ j',0<j'→j'≤j→T'.getD (Yy (Wc from' v x) (q.getD j' 0)).toNat 0=p.tails.getD (Yy (Wc from' v x) (q.getD j' 0)).toNat 0) →
   ∃ T'',Mv (p.placed.map (brI bars)) p.tails T'' u a∧Jq N p a from' x v kk fuel (T',q.getD j 0)=kk T'':=by
 intro fuel
 induction fuel with
 | zero=>intro j T' _ h; omega
 | succ fuel ih=>
  intro j T' hj hf hm hun;rw [Jq];by_cases h0:j=0
  ·subst h0;refine ⟨T',by rw [hb.hd] at hm; exact hm,?_⟩;rw [Fy hb.hd]
  have hne:¬ q.getD j 0=a:=by
   intro e;rw [←hb.hd] at e;have hp0:=hb.pos;rw [List.getD_eq_getElem?_getD,List.getD_eq_getElem?_getD,List.getElem?_eq_getElem hj,List.getElem?_eq_getElem hp0] at e;have:=(List.getElem_inj hb.nd).1 e;omega
  obtain ⟨j',i,g1,g2,g3,g4,g5,g6,g7⟩:=hb.back hp.inv (by omega) hj hm hun;have hip:i<p.placed.length:=by simpa using g2
  obtain ⟨T'',k1,k2⟩:=ih j' (T'.set i (q.getD j 0)) (by omega) (by omega) g6 g7;refine ⟨T'',k1,?_⟩;have htl:=hp.inv.tl;have hml:=hm.len;simp only [List.length_map] at htl;simp (disch:=omega) only [pst,Mx hne,g3,hml,htl,g5,k2]
theorem FI.pushB {q:List Int} {mp:List (Int×Int)} (h:FI n bars p a b q mp) {k i:Nat} {v:Int} (hk:k<q.length) (hi:i<p.placed.length) (ht:p.tails.getD i 0=q.getD k 0) (hv:oth ((p.placed.map (brI bars)).getD i (0,0)) (q.getD k 0)=v) (hr:0≤v∧v<n) (hn:v∉q) :
  BI n (p.placed.map (brI bars)) p.tails a (q++[v]) (Yy (Wc mp v (i:Int))):=by
 have hm:Aav mp v=false:=by rw [h.sq v]; exact decide_eq_false hn
 exact h.bi.push hk (by simpa using hi) ht hv hr hn (mget_new hm) fun w hw=>mget_old hm (by rw [h.sq w]; exact decide_eq_true hw)
theorem FI.push {q:List Int} {mp:List (Int×Int)} (h:FI n bars p a b q mp) {k i:Nat} {v:Int} (hk:k<q.length) (hi:i<p.placed.length) (ht:p.tails.getD i 0=q.getD k 0) (hv:oth ((p.placed.map (brI bars)).getD i (0,0)) (q.getD k 0)=v) (hr:0≤v∧v<n) (hn:v∉q) (hz:v=b∨p.free.getD v.toNat 0=0) :
  FI n bars p a b (q++[v]) (Wc mp v (i:Int)):=by
 have hm:Aav mp v=false:=by rw [h.sq v]; exact decide_eq_false hn
 refine ⟨h.pushB hk hi ht hv hr hn,h.bz.push hz,fun w=>?_⟩;rw [mhas_set hm,h.sq w];by_cases e:v=w
 ·subst e; simp
 have e':¬ w=v:=fun h=>e h.symm;simp [e,e']
include hN hn hp in
theorem move2_s {k:Nat} {kk:(List Int×List (Int×Int))→Option (Bool×List Int×List Int×List Int)} (hab:a≠b) (hbr:0≤b∧b<n) :
  ∀ (fuel m:Nat) (q:List Int) (mp:List (Int×Int)),m≤p.placed.length→p.placed.length<fuel+m→FI n bars p a b q mp→Done (p.placed.map (brI bars)) p.tails q k m→k<q.length →
   (∃ p':Pbl,Et N bars p a b k kk fuel (q,mp,(m:Int))=some (true,p'.free,p'.tails,p'.placed)∧Won n (p.placed.map (brI bars)) p.free p'.free p'.tails a b∧p'.placed=p.placed) ∨
   ∃ q' mp',Et N bars p a b k kk fuel (q,mp,(m:Int))=kk (q',mp')∧FI n bars p a b q' mp'∧Done (p.placed.map (brI bars)) p.tails q' (k+1) 0∧k<q'.length:=by
 intro fuel
 induction fuel with
 | zero=>intro m _ _ h1 h2; omega
 | succ fuel ih=>
  intro m q mp h1 h2 hF hD hk;rw [Et];have hlen:(p.placed.map (brI bars)).length=p.placed.length:=by simp
  by_cases hm:m<p.placed.length
  ·have htl:=hp.inv.tl;have hfr:=hp.inv.fl;rw [hlen] at htl;have hpl:=hp.plAt' hm;have ht2:=hp.inv.tlen;have hql:=hF.bi.len;by_cases ht:p.tails.getD m 0=q.getD k 0
   ·have hbk:=hp.bok' hm;have hen:=hp.inv.en m (by rw [hlen]; exact hm);rw [eAt hm,ht] at hen;have hr0:=hF.bi.rg _ (Ci (d:=0) hk);have eo:=otherI_s (N:=N) hen;have hvr:=oth_rg hbk hen;generalize hv:oth (bars.getD (p.placed.getD m 0).toNat (0,0)) (q.getD k 0)=v at hvr;rw [hv] at eo;have hvo:oth ((p.placed.map (brI bars)).getD m (0,0)) (q.getD k 0)=v:=by rw [eAt hm,hv]
    have hsq:=hF.sq v;by_cases hs:v∈q
    ·have hsq:Aav mp v=true:=by rw [hsq]; exact decide_eq_true hs
     simp (disch:=omega) only [pst,Fy ht,eo,hsq,Am];exact ih (m+1) q mp (by omega) (by omega) hF (hD.step fun _ _=>by rw [hvo]; exact hs) hk
    have hsq:Aav mp v=false:=by rw [hsq]; exact decide_eq_false hs
    have hD':Done (p.placed.map (brI bars)) p.tails (q++[v]) k (m+1):=(hD.push hk).step fun _ _=>by rw [Hv hk,hvo]; simp
    by_cases hvb:v=b
    ·have hF':=hF.push (i:=m) hk hm ht hvo hvr hs (.inl hvb);simp (disch:=omega) only [pst,Fy ht,eo,hsq,Am,Rb hvb];exact ih (m+1) _ _ (by omega) (by omega) hF' hD' (by simp; omega)
    by_cases hz:p.free.getD v.toNat 0=0
    ·have hF':=hF.push (i:=m) hk hm ht hvo hvr hs (.inr hz);simp (disch:=omega) only [pst,Fy ht,eo,hsq,Am,Lz hvb,Rb hz];exact ih (m+1) _ _ (by omega) (by omega) hF' hD' (by simp; omega)
    left;have n0:=hp.inv.nn v.toNat (by omega);have n2:=hp.inv.le2 (v:=v.toNat) (by omega);have hb2:=hF.pushB hk hm ht hvo hvr hs;have e1:(q++[v]).getD q.length 0=v:=by rw [Ra]; simp
    have ha:0≤a∧a<n:=by have:=hF.bi.rg _ (Ci (d:=0) hF.bi.pos); rwa [hF.bi.hd] at this
    have hva:v≠a:=by
     rintro rfl;have:=Ci (d:=(0:Int)) hF.bi.pos;rw [hF.bi.hd] at this;exact hs this
    obtain ⟨T'',k1,k2⟩:=turn_s hp (N:=N) (u:=v)
     (kk:=fun l310=>grd (p.free.length=(Yd p.free v a).length) <| grd (p.tails.length=l310.length) <| some (true,Yd p.free v a,l310,p.placed)) hb2 N q.length p.tails (by simp) (by omega) (by rw [e1]; exact Mv.start hp.inv _) (fun _ _ _=>rfl)
    rw [e1] at k2
    have b2:0≤(p.free.set v.toNat (p.free.getD v.toNat 0-1)).getD a.toNat 0∧(p.free.set v.toNat (p.free.getD v.toNat 0-1)).getD a.toNat 0≤2:=by
     rw [Ji];have:=hp.inv.le2 (v:=a.toNat) (by omega);have:=hp.inv.nn a.toNat (by omega);split <;> omega
    refine ⟨⟨Yd p.free v a,T'',p.placed⟩,?_,k1.won hp.inv ha hvr hbr hva hvb hab (by omega),O⟩;have t3:=k1.len;simp only [Yd,List.length_set,grd_T] at k2 ⊢;simp (disch:=omega) only [pst,Fy ht,eo,hsq,Am,Lz hvb,Lz hz,List.length_set];rw [k2];exact Ao t3.symm _
   simp (disch:=omega) only [pst,Mx ht,Am];exact ih (m+1) q mp (by omega) (by omega) hF (hD.step fun _ e=>absurd e ht) hk
  right;have e:m=(p.placed.map (brI bars)).length:=by omega
  refine ⟨q,mp,?_,hF,by subst e; exact hD.next,hk⟩;simp (disch:=omega) only [pst]
include hN hn hp in
theorem move1_s {kk:Unit→Option (Bool×List Int×List Int×List Int)} (hab:a≠b) (hbr:0≤b∧b<n) :
  ∀ (fuel k:Nat) (q:List Int) (mp:List (Int×Int)),n<fuel+k→FI n bars p a b q mp→Done (p.placed.map (brI bars)) p.tails q k 0→k≤q.length →
   (∃ p':Pbl,Ds N bars p a b kk fuel (q,mp,(k:Int))=some (true,p'.free,p'.tails,p'.placed)∧Won n (p.placed.map (brI bars)) p.free p'.free p'.tails a b∧p'.placed=p.placed) ∨
   (Ds N bars p a b kk fuel (q,mp,(k:Int))=kk ()∧Shut n (p.placed.map (brI bars)) p.free p.tails a b):=by
 intro fuel
 induction fuel with
 | zero=>intro k q mp h1 hF hD hk; have:=hF.bi.len; omega
 | succ fuel ih=>
  intro k q mp h1 hF hD hk;have ht2:=hp.inv.tlen;have htl:=hp.inv.tl;simp only [List.length_map] at htl;by_cases hkq:k<q.length
  ·have hql:=hF.bi.len
   have key:=move2_s (k:=k) (kk:=(fun (x:(List Int)×(List (Int×Int)))=>
     match x with
     | (l287,from288)=>
      grd (Bc ((k:Int)+(1:Int))) <|
      Ds N bars p a b kk fuel (l287,from288,((k:Int)+(1:Int))))) hN hn hp hab hbr N 0 q mp (by omega) (by omega) hF hD hkq
   rw [show ((0:Nat):Int)=0 from rfl] at key;rcases key with ⟨p',g1,g2,g3⟩ | ⟨q2,m2,g1,g2,g3,g4⟩
   ·left;refine ⟨p',?_,g2,g3⟩;rw [Ds,Dk (by omega)];exact g1
   have e:Ds N bars p a b kk (fuel+1) (q,mp,(k:Int))=Ds N bars p a b kk fuel (q2,m2,((k+1:Nat):Int)):=by
    rw [Ds,Dk (by omega)];refine g1.trans ?_;have:=g2.bi.len;simp (disch:=omega) only [pst,Am]
   rw [e];exact ih (k+1) q2 m2 (by omega) g2 g3 (by omega)
  right;refine ⟨?_,hF.bi.shut hF.bz hD (by omega)⟩;rw [Ds];simp (disch:=omega) only [pst]
include hN hn hp in
theorem move_s (hb:Bok n (a,b)) :
  (∃ p':Pbl,Rh N bars p a b=some (true,p'.free,p'.tails,p'.placed)∧Won n (p.placed.map (brI bars)) p.free p'.free p'.tails a b∧p'.placed=p.placed) ∨
  (Rh N bars p a b=some (false,p.free,p.tails,p.placed)∧Shut n (p.placed.map (brI bars)) p.free p.tails a b):=by
 obtain ⟨h1,h2,h3,h4,h5⟩:=hb;simp only at h1 h2 h3 h4 h5
 have key:=move1_s (kk:=fun _=>some (false,p.free,p.tails,p.placed)) hN hn hp h5 ⟨h3,h4⟩ N 0 [a] (Wc [] a (-1)) (by omega) ⟨BI.start ⟨h1,h2⟩,fun v hv h _=>absurd (by simpa using hv) h,fun v=>by
  rw [mhas_set rfl];by_cases e:a=v
  ·subst e; simp
  have e':¬ v=a:=fun h=>e h.symm;have:Aav [] v=false:=rfl
  simp [e,e',this]⟩ Done.start (by simp)
 rw [show ((0:Nat):Int)=0 from rfl] at key;unfold Rh;exact key
end
section
variable {bars:List (Int×Int)} (hN:4000000≤N) (hn:n≤1000)
include hN hn in
theorem gatherI1_s (hb:Bok n (a,b)) {kk:(List Int×List Int×List Int)→Option (Bool×List Int×List Int×List Int)}:∀ (fuel:Nat) (p:Pbl),PG n bars p→4<fuel+(p.free.getD a.toNat 0+p.free.getD b.toNat 0) →
  ∃ p':Pbl,p'.placed=p.placed∧PG n bars p'∧((Ha N bars a b 4 kk fuel (p.free,p.tails,p.placed)=kk (p'.free,p'.tails,p'.placed)∧4≤p'.free.getD a.toNat 0+p'.free.getD b.toNat 0) ∨
   (Ha N bars a b 4 kk fuel (p.free,p.tails,p.placed)=some (false,p'.free,p'.tails,p'.placed)∧∃ X,Tgt n (p.placed.map (brI bars)) X∧inX X (a,b)=true)):=by
 obtain ⟨h1,h2,h3,h4,h5⟩:=id hb;simp only at h1 h2 h3 h4 h5;intro fuel
 induction fuel with
 | zero=>
  intro p hp hf;have:=hp.inv.le2 (v:=a.toNat) (by omega);have:=hp.inv.le2 (v:=b.toNat) (by omega);omega
 | succ fuel ih=>
  intro p hp hf;have fl:=hp.inv.fl;have l1:=hp.inv.le2 (v:=a.toNat) (by omega);have l2:=hp.inv.le2 (v:=b.toNat) (by omega);have n1:=hp.inv.nn a.toNat (by omega);have n2:=hp.inv.nn b.toNat (by omega);rw [Ha];have e:(⟨p.free,p.tails,p.placed⟩:Pbl)=p:=rfl;by_cases hs:p.free.getD a.toNat 0+p.free.getD b.toNat 0<4
  ·rcases move_s hN hn hp hb with ⟨p1,f1,f2,f3⟩ | ⟨f1,f2⟩
   ·obtain ⟨p',g1,g2,g3⟩:=ih p1 (f2.pg hp f3) (by have:=f2.symm'; omega);refine ⟨p',g1.trans f3,g2,?_⟩;rw [f3] at g3;simp (disch:=omega) only [pst,e,f1,Bool.not_true];rw [f3];exact g3
   rcases move_s hN hn hp hb.swap with ⟨p1,k1,k2,k3⟩ | ⟨k1,k2⟩
   ·obtain ⟨p',g1,g2,g3⟩:=ih p1 (k2.pg hp k3) (by have:=k2.symm'; omega);refine ⟨p',g1.trans k3,g2,?_⟩;rw [k3] at g3;simp (disch:=omega) only [pst,e,f1,k1,Bool.not_true,Bool.not_false];rw [k3];exact g3
   refine ⟨p,O,hp,.inr ⟨?_,Shut.tgt hp.inv hb f2 k2 (by omega)⟩⟩;simp (disch:=omega) only [pst,e,f1,k1,Bool.not_false]
  refine ⟨p,O,hp,.inl ⟨?_,by omega⟩⟩;simp (disch:=omega) only [pst]
include hN hn in
theorem gatherI_s (hb : Bok n (a, b)) {p : Pbl} (hp : PG n bars p) : ∃ p' : Pbl, p'.placed = p.placed ∧ PG n bars p' ∧ ((Wq N bars p a b 4 = some (true, p'.free, p'.tails, p'.placed) ∧ 4 ≤ p'.free.getD a.toNat 0 + p'.free.getD b.toNat 0) ∨
   (Wq N bars p a b 4=some (false,p'.free,p'.tails,p'.placed)∧∃ X,Tgt n (p.placed.map (brI bars)) X∧inX X (a,b)=true)):=by
 obtain ⟨h1,h2,h3,h4,h5⟩:=id hb;simp only at h1 h2 h3 h4 h5;have n1:=hp.inv.nn a.toNat (by omega);have n2:=hp.inv.nn b.toNat (by omega);exact gatherI1_s hN hn hb (kk:=fun x=>match x with | (l11,l12,l13)=>some (true,l11,l12,l13)) N p hp (by omega)
include hN hn in
theorem placeI_s {p:Pbl} {i:Nat} (hi:i<bars.length) (hbl:bars.length≤1000) (hb:∀ e∈bars,Bok n e) (h:Gm n bars p i) :
  (∃ p':Pbl,Tt N bars 3 p i=some (true,p'.free,p'.tails,p'.placed)∧Gm n bars p' (i+1))∨((∃ x,Tt N bars 3 p i=some (false,x))∧Gm n bars p (i+1)):=by
 have hbi:=hb _ (Ci (d:=(0,0)) hi);have r1:=hbi.1;have r2:=hbi.2.1;have r3:=hbi.2.2.1;have r4:=hbi.2.2.2.1;have e:(⟨p.free,p.tails,p.placed⟩:Pbl)=p:=rfl;have e4:(3:Int)+1=4:=rfl;obtain ⟨p',g1,g2,⟨g3,g4⟩ | ⟨g3,g4⟩⟩:=gatherI_s hN hn (bars:=bars) (a:=(bars.getD i (0,0)).1) (b:=(bars.getD i (0,0)).2) hbi h.pg
 ·left;have le1:=g2.inv.le2 (v:=(bars.getD i (0,0)).2.toNat) (by omega);have le2:=g2.inv.le2 (v:=(bars.getD i (0,0)).1.toNat) (by omega);have hput:=h.put hi hbi g1 g2 (.inl rfl) (by omega) g4;refine ⟨_,?_,hput⟩;have fl:=g2.inv.fl;have tl:=g2.inv.tl;simp only [List.length_map] at tl;have t2:=g2.inv.tlen;unfold Tt;have hz:¬ p'.free.getD (bars.getD i (0,0)).1.toNat 0=0:=by omega
  simp (disch:=omega) only [pst,e,e4,g3,Bool.not_true,jn_def,Lz hz,List.length_set]
 right;refine ⟨⟨(p'.free,p'.tails,p'.placed),?_⟩,h.skip g4⟩;unfold Tt;simp (disch:=omega) only [pst,e,e4,g3,Bool.not_false]
include hN hn in
theorem play1_s (hb:∀ e∈bars,Bok n e) (hl:bars.length≤1000) {kk:(List Int×List Int×List Int)→Option Pbl}:∀ (fuel i:Nat) (p:Pbl),i≤bars.length→bars.length<fuel+i→Gm n bars p i →
  ∃ p':Pbl,Gm n bars p' bars.length∧Lr N bars 3 kk fuel (p.free,p.tails,p.placed,(i:Int))=kk (p'.free,p'.tails,p'.placed):=by
 intro fuel
 induction fuel with
 | zero=>intro i p h1 h2; omega
 | succ fuel ih=>
  intro i p h1 h2 h;rw [Lr];by_cases hi:i<bars.length
  ·have e:(⟨p.free,p.tails,p.placed⟩:Pbl)=p:=rfl;have fl:=h.pg.inv.fl;have tl:=h.pg.inv.tl;simp only [List.length_map] at tl;have t2:=h.pg.inv.tlen
   have ec:Ki N p=some p:=by
    unfold Ki;rw [Yu (by omega),Yu (by omega),Yu (by omega)];rfl
   rcases placeI_s hN hn hi hl hb h with ⟨p',g1,g2⟩ | ⟨⟨x,g1⟩,g2⟩
   ·obtain ⟨p2,k1,k2⟩:=ih (i+1) p' (by omega) (by omega) g2;refine ⟨p2,k1,?_⟩;simp (disch:=omega) only [pst,e,ec,g1,Am];exact k2
   obtain ⟨p2,k1,k2⟩:=ih (i+1) p (by omega) (by omega) g2;refine ⟨p2,k1,?_⟩;simp (disch:=omega) only [pst,e,ec,g1,Am];exact k2
  have e:i=bars.length:=by omega
  subst e;refine ⟨p,h,?_⟩;simp (disch:=omega) only [pst]
include hN hn in
theorem Aag (hb:∀ e∈bars,Bok n e) (hl:bars.length≤1000):∃ I,Bas n bars I∧Jc N n bars=some (I.length:Int):=by
 obtain ⟨p',g1,g2⟩:=play1_s hN hn hb hl (kk:=fun x=>match x with | (l24,l25,l26)=>some (⟨l24,l25,l26⟩:Pbl)) N 0 ⟨List.replicate n 2,[],[]⟩ (by omega) (by omega) (Gm.start bars);refine ⟨_,g1.bas,?_⟩
 have e:I_play N n bars 2 3=some p':=by
  unfold I_play;refine (fold (len:=n) (st:=fun i=>List.replicate i (2:Int)) (by omega) ?_ ?_)
  ·intro m i hi;rw [Mz];simp (disch:=omega) only [pst,List.length_replicate,Am];rw [List.replicate_succ']
  intro m;rw [Mz];rw [Dx (by omega)];exact g2
 unfold Jc;simp (disch:=omega) only [pst,e,List.length_map]
end
end
section
variable (N:Nat)
theorem Zm (l:List (Int×Int)):((List.range l.length).all fun i=>!Md l i)=!Ql l:=by
 simp only [Ql,List.not_any_eq_all_not]
theorem pair_eq (a b:Int×Int):((a.1==b.1)&&(a.2==b.2))=(a==b):=by
 obtain ⟨x,y⟩:=a; obtain ⟨u,v⟩:=b; rfl
theorem hasDoubles_s (hN:4000000≤N) {g:Grf} (hb:g.bars.length≤3000000):Ln N g=some (Ql g.bars):=by
 unfold Ln;refine (srch1 (len:=g.bars.length) (ok:=fun i=>!Md g.bars i) (bad:=some true) (fin:=some false) (by omega) O ?_ ?_).trans ?_
 ·intro n i h0 hi;rw [Ev];simp (disch:=omega) only [pst,Am,pair_eq,show ((i:Int)-1).toNat=i-1 from by omega];refine Ek ?_ _ _;simp [Md,h0]
 ·intro n i hi;rw [Ev];simp (disch:=omega) only [pst]
 rw [Zm,Ew]; cases Ql g.bars <;> rfl
theorem l17Simple_s (hN:4000000≤N) {g:Grf} (hb:g.bars.length≤3000000):Pa N g=some (Ss g):=by
 unfold Pa Ss;refine (srch1 (len:=g.bars.length) (ok:=fun i=>!Md g.bars i) (bad:=some false) (fin:=some (Fd g)) (by omega) O ?_ ?_).trans ?_
 ·intro n i h0 hi;rw [Ga];simp (disch:=omega) only [pst,Am,pair_eq,show ((i:Int)-1).toNat=i-1 from by omega];refine Ek ?_ _ _;simp [Md,h0]
 ·intro n i hi;rw [Ga];simp (disch:=omega) only [pst,Sl N hN]
 rw [Zm,Ew]; cases Ql g.bars <;> cases Fd g <;> rfl
theorem ghas_s {g:Grf} (h:0≤g.n) (h':g.n≤1048576) (x:Int):Lf N g x=some (inB x 0 (g.n-1)):=by
 unfold Lf;rw [w64_id (by omega) (by omega)];simp (disch:=omega) only [pst,within_s]
theorem Ta (gr:List Int) (l:List (Int×Int)):((List.range l.length).all fun i=>!Zt gr (l.getD i (0,0)))=Xo gr l:=by
 rw [Bool.eq_iff_iff,Xo,List.all_eq_true,List.all_eq_true];simp only [List.mem_range];constructor
 ·intro h p hp;obtain ⟨i,hi,rfl⟩:=List.getElem_of_mem hp;simpa [List.getD_eq_getElem?_getD,hi] using h i hi
 intro h i hi;have:=h l[i] (List.getElem_mem hi);simpa [List.getD_eq_getElem?_getD,hi] using this
theorem Qj {p:Pin} (h:Fd p.g=true):1≤p.g.n∧p.g.n≤8∧p.g.bars.length≤24:=by
 have:=Rg h; omega
theorem Jp (hN:4000000≤N) {p:Pin} (hb:p.g.bars.length≤3000000) (hg:p.ground.length≤3000000):Kd N p=some (Aw p):=by
 unfold Kd Aw;rw [isGraphI_s N hN,Option.bind_some,Rk]
 cases h1:Fd p.g with
 | false=>rfl
 | true=>
  obtain ⟨hn1,hn2,hbl⟩:=Qj h1;rw [cnd_true,hasDoubles_s N hN hb,Option.bind_some]
  cases h2:Ql p.g.bars with
  | true=>rfl
  | false=>
   rw [cnd_false];by_cases h3:2≤p.ground.length
   ·by_cases h4:p.g.bars.length≤15
    ·by_cases h5:p.g.bars.length+2*p.ground.length≤27
     ·simp (disch:=omega) only [pst];refine (srch (len:=p.ground.length) (ok:=Ye p.g.n p.ground) (bad:=some false) (fin:=some (Xo p.ground p.g.bars)) (by omega) ?_ ?_).trans ?_
      ·intro n i hi _;rw [Fl];by_cases h0:i=0
       ·subst h0;simp (disch:=omega) only [pst,ghas_s N (by omega:0≤p.g.n) (by omega),Rk,Am];refine cnd_congr ?_ _ _;simp [Ye]
       simp (disch:=omega) only [pst,ghas_s N (by omega:0≤p.g.n) (by omega),Am,Zo,show ((i:Int)-1).toNat=i-1 from by omega];refine Ek ?_ _ _;simp only [Ye,decide_eq_false h0,Bool.false_or];cases inB (p.ground.getD i 0) 0 (p.g.n-1) <;> (rw [Bool.eq_iff_iff]; simp)
      ·intro n _;rw [Fl];simp (disch:=omega) only [pst];refine (srch (len:=p.g.bars.length) (ok:=fun i=>!Zt p.ground (p.g.bars.getD i (0,0))) (bad:=some false) (fin:=some true) (by omega) ?_ ?_).trans ?_
       ·intro n i hi _;rw [Fp];simp (disch:=omega) only [pst,Qi N hN hg,Am,Xa];refine Ek ?_ _ _;simp [Zt]
       ·intro n _;rw [Fp];simp (disch:=omega) only [pst]
       rw [Ta,Ew,Wa]
      rw [Ew,show (List.range p.ground.length).all (Ye p.g.n p.ground)=asc p.g.n p.ground from rfl];simp only [decide_eq_true h3,decide_eq_true h4,decide_eq_true h5];cases asc p.g.n p.ground <;> cases Xo p.ground p.g.bars <;> rfl
     simp (disch:=omega) only [pst];simp [h5]
    simp (disch:=omega) only [pst];simp [h4]
   simp (disch:=omega) only [pst];simp [h3]
theorem Er (hN:4000000≤N) {p:Pin} (hb:p.g.bars.length≤3000000) (hg:p.ground.length≤3000000):Ka N p=some (Aw p):=by
 unfold Ka;refine (srch (len:=p.ground.length) (ok:=Ye p.g.n p.ground) (bad:=some false) (fin:=cnd (Xo p.ground p.g.bars) (some (Ss p.g&&decide (2≤p.ground.length)&&decide (p.g.bars.length≤15)&&decide (p.g.bars.length+2*p.ground.length≤27))) (some false)) (by omega) ?_ ?_).trans ?_
 ·intro n i hi _;rw [Fw];by_cases h0:i=0
  ·subst h0;simp (disch:=omega) only [pst,Zo,Am];refine Ek ?_ _ _;simp only [Ye,inB];rw [Bool.eq_iff_iff]; simp; omega
  simp (disch:=omega) only [pst,Am,Zo,show ((i:Int)-1).toNat=i-1 from by omega];refine Ek ?_ _ _;simp only [Ye,inB,decide_eq_false h0,Bool.false_or];rw [Bool.eq_iff_iff]; simp; omega
 ·intro n _;rw [Fw];simp (disch:=omega) only [pst];refine (srch (len:=p.g.bars.length) (ok:=fun i=>!Zt p.ground (p.g.bars.getD i (0,0))) (bad:=some false) (fin:=some (Ss p.g&&decide (2≤p.ground.length)&&decide (p.g.bars.length≤15)&&decide (p.g.bars.length+2*p.ground.length≤27))) (by omega) ?_ ?_).trans ?_
  ·intro n i hi _;rw [Ft];simp (disch:=omega) only [pst,Kh N hN hg,Am,Xa];refine Ek ?_ _ _;simp [Zt]
  ·intro n _;rw [Ft];simp (disch:=omega) only [pst,l17Simple_s N hN hb];simp only [Ew];congr 1
   rw [show decide ((p.ground.length:Int)≥2)=decide (2≤p.ground.length) from by rw [Bool.eq_iff_iff]; simp; omega,show decide ((p.g.bars.length:Int)≤15)=decide (p.g.bars.length≤15) from by rw [Bool.eq_iff_iff]; simp; omega,
    show decide ((p.g.bars.length:Int)+2*(p.ground.length:Int)-3≤24)=decide (p.g.bars.length+2*p.ground.length≤27) from by rw [Bool.eq_iff_iff]; simp; omega]
   cases Ss p.g <;> cases decide (2≤p.ground.length) <;> cases decide (p.g.bars.length≤15) <;> rfl
  rw [Ta]
 rw [show (List.range p.ground.length).all (Ye p.g.n p.ground)=asc p.g.n p.ground from rfl];simp only [Ew];congr 1;unfold Aw Ss;cases asc p.g.n p.ground <;> cases Xo p.ground p.g.bars <;> simp [cnd]
end
section
variable (N:Nat)
def Ko (ground:List Int) (n:Nat):List Int:=((List.range n).map Int.ofNat).filter fun i=>!ground.contains i
theorem Xv (g:List Int) (n:Nat):Ko g (n+1)=cnd (g.contains (n:Int)) (Ko g n) (Ko g n++[(n:Int)]):=by
 unfold Ko;rw [List.range_succ,List.map_append,List.filter_append];simp only [List.map_cons,List.map_nil,List.filter_cons,List.filter_nil];cases h:g.contains (n:Int) <;> simp_all
theorem Jn (g:List Int) (n:Nat):(Ko g n).length≤n:=by
 unfold Ko;exact Nat.le_trans (List.length_filter_le _ _) (by simp)
theorem Ee (p:Pin):inner p=Ko p.ground p.g.n.toNat:=rfl
theorem outside_mem (g:List Int) (n:Nat) (x:Int):(Ko g n).contains x=(inB x 0 ((n:Int)-1)&&!g.contains x):=by
 rw [Bool.eq_iff_iff];simp only [List.contains_eq_mem,decide_eq_true_eq,Ko,List.mem_filter,List.mem_map,List.mem_range,inB,Bool.and_eq_true];constructor
 ·rintro ⟨⟨i,hi,rfl⟩,h⟩;refine ⟨⟨?_,?_⟩,h⟩
  ·show (0:Int)≤(i:Int); omega
  show (i:Int)≤_; omega
 rintro ⟨⟨h1,h2⟩,h⟩;exact ⟨⟨x.toNat,by omega,by show ((x.toNat:Nat):Int)=x; omega⟩,h⟩
def Af (p:Pin):List Int:=cnd (Aw p) (inner p) []
theorem Bg {p:Pin} (h:Aw p=true):1≤p.g.n∧p.g.n≤8∧p.g.bars.length≤15∧p.ground.length≤27:=by
 obtain ⟨h1,h2,h3,h4,h5,_⟩:=Gc h;have:=Qj h1;omega
theorem Yk (hN:4000000≤N) {p:Pin} (hb:p.g.bars.length≤3000000) (hg:p.ground.length≤3000000):Fi N p=some (Af p):=by
 unfold Fi Af;rw [Jp N hN hb hg,Option.bind_some,Rk]
 cases hp:Aw p with
 | false=>rfl
 | true=>
  have hbd:=Bg hp;rw [cnd_true,cnd_true,Ee];refine (fold (len:=p.g.n.toNat) (st:=Ko p.ground) (fin:=some (Ko p.ground p.g.n.toNat)) (by omega) ?_ ?_)
  ·intro n i hi;have hl:=Jn p.ground i;rw [Dq];simp (disch:=omega) only [pst,Qi N hN hg,Rk,Am,Xv];cases p.ground.contains (i:Int) <;> rfl
  intro n;rw [Dq];simp (disch:=omega) only [pst]
theorem Sr (hN:4000000≤N) {p:Pin} (hb:p.g.bars.length≤3000000) (hg:p.ground.length≤3000000):Dv N p=some (Af p):=by
 unfold Dv Af
 cases hp:Aw p with
 | false=>
  obtain ⟨M,rfl⟩:∃ M,N=M+1:=⟨N-1,by omega⟩;rw [Db,Er _ hN hb hg,Option.bind_some,hp];cases decide ((0:Int)<p.g.n) <;> rfl
 | true=>
  have hbd:=Bg hp;rw [cnd_true,Ee];refine (fold (len:=p.g.n.toNat) (st:=Ko p.ground) (fin:=some (Ko p.ground p.g.n.toNat)) (by omega) ?_ ?_)
  ·intro n i hi;have hl:=Jn p.ground i;rw [Db];simp (disch:=omega) only [pst,Er N hN hb hg,hp,Kh N hN hg,Rk,Am,Xv];cases p.ground.contains (i:Int) <;> rfl
  intro n;rw [Db];simp (disch:=omega) only [pst]
def Ps (p:Pin) (x:Int):Bool:=inB x 0 (p.g.n-1)&&!p.ground.contains x
theorem Pj (hN:4000000≤N) {p:Pin} (hp:Aw p=true) (x:Int):Co N p x=some (Ps p x):=by
 have hbd:=Bg hp;unfold Co Ps;rw [ghas_s N (by omega) (by omega),Option.bind_some,Qi N hN (by omega),Option.bind_some,Ew];cases inB x 0 (p.g.n-1) <;> rfl
theorem Jy {p:Pin} (hp:Aw p=true) (x:Int):(Af p).contains x=Ps p x:=by
 have hbd:=Bg hp;unfold Af Ps;rw [hp,cnd_true,Ee,outside_mem,show ((p.g.n.toNat:Nat):Int)=p.g.n by omega]
def Cv (b:Int×Int) (v:Int):Int:=cnd (b.1==v) b.2 b.1
def Mu (b:Int×Int) (v:Int):Bool:=b.1==v || b.2==v
theorem hasEnd_1 {b:Int×Int} {v:Int} (h:b.1=v):Mu b v=true:=by simp [Mu,h]
theorem hasEnd_2 {b:Int×Int} {v:Int} (h:b.2=v):Mu b v=true:=by simp [Mu,h]
theorem bhas_s (b:Int×Int) (v:Int):Sj N b v=some (Mu b v):=by
 unfold Sj Mu;rw [Ew]; cases b.1==v <;> rfl
theorem bother_s (b:Int×Int) (v:Int):Hu N b v=some (Cv b v):=by
 unfold Hu Cv;rw [Ew]
theorem l4Other_s {b:Int×Int} {v:Int} (h1:0≤b.1) (h2:b.1≤1048576) (h3:0≤b.2) (h4:b.2≤1048576) (h:Mu b v=true):Kj N b v=some (Cv b v):=by
 unfold Kj Cv;simp only [Mu,Bool.or_eq_true,beq_iff_eq] at h;rcases h with h | h
 ·simp (disch:=omega) only [pst];congr 1;rw [show (b.1==v)=true by simpa using h,cnd_true]; omega
 simp (disch:=omega) only [pst];congr 1
 cases hb:b.1==v with
 | true => have : b.1 = v := by simpa using hb
           rw [cnd_true]; omega
 | false=>rw [cnd_false]; omega
theorem Jv {p:Pin} (hp:Aw p=true) {i:Nat} (hi:i<p.g.bars.length):0≤(p.g.bars.getD i (0,0)).1∧(p.g.bars.getD i (0,0)).1≤8∧0≤(p.g.bars.getD i (0,0)).2∧(p.g.bars.getD i (0,0)).2≤8∧(p.g.bars.getD i (0,0)).1<p.g.n∧(p.g.bars.getD i (0,0)).2<p.g.n∧(p.g.bars.getD i (0,0)).1<(p.g.bars.getD i (0,0)).2:=by
 have h1:=(Gc hp).1;have h2:=Qy h1 (List.getElem_mem hi);have h3:=Qj h1;simp [List.getD_eq_getElem?_getD,hi];omega
end
section
variable {n:Nat} {N:Nat}
def Srt (L:List (Int×Int)):Prop:=L.Pairwise fun a b=>Dz a b=true
theorem le_total {a b:Int×Int} (h:Dz a b=false):Dz b a=true:=by
 simp only [Dz,Bool.or_eq_false_iff,Bool.and_eq_false_iff,decide_eq_false_iff_not,Bool.or_eq_true,Bool.and_eq_true,decide_eq_true_eq,beq_iff_eq,beq_eq_false_iff_ne] at h ⊢;omega
theorem le_trans' {a b c:Int×Int} (h1:Dz a b=true) (h2:Dz b c=true):Dz a c=true:=by
 simp only [Dz,Bool.or_eq_true,Bool.and_eq_true,decide_eq_true_eq,beq_iff_eq] at h1 h2 ⊢;omega
theorem srt_put {A B:List (Int×Int)} {x:Int×Int} (h:Srt (A++B)) (hA:∀ e∈A,Dz e x=true) (hB:∀ b l,B=b::l→Dz b x=false):Srt (A++x::B):=by
 obtain ⟨h1,h2,h3⟩:=List.pairwise_append.1 h
 have hx:∀ b∈B,Dz x b=true:=by
  cases B with
  | nil=>intro b hb; simp at hb
  | cons b0 l=>
   have h0:=le_total (hB b0 l rfl);intro b hb;rcases List.mem_cons.1 hb with rfl | hb
   ·exact h0
   exact le_trans' h0 ((List.pairwise_cons.1 h2).1 b hb)
 refine List.pairwise_append.2 ⟨h1,List.pairwise_cons.2 ⟨hx,h2⟩,fun a ha b hb=>?_⟩;rcases List.mem_cons.1 hb with rfl | hb
 ·exact hA a ha
 exact h3 a ha b hb
theorem putX_s (hN:4000000≤N) {g:Grf} (hl:g.bars.length≤1000) (x:Int×Int) (hs:Srt g.bars):∃ L,Df N g x=some ⟨g.n,L⟩∧Srt L:=by
 have keyT:∀ {kk:(List (Int×Int)×Bool)→Option Grf} (fuel i:Nat) (l:List (Int×Int)),i≤g.bars.length→g.bars.length<fuel+i→l.length≤i+1 →
   Cs N g x kk fuel (l,true,(i:Int))=kk (l++g.bars.drop i,true):=by
  intro kk fuel
  induction fuel with
  | zero=>intro i l h1 h2; omega
  | succ fuel ih=>
   intro i l h1 h2 h3;rw [Cs];by_cases hi:i<g.bars.length
   ·have e:g.bars.drop i=g.bars.getD i (0,0)::g.bars.drop (i+1):=by
     rw [List.drop_eq_getElem_cons hi];simp [List.getD_eq_getElem?_getD,List.getElem?_eq_getElem hi]
    have:=ih (i+1) (l++[g.bars.getD i (0,0)]) (by omega) (by omega) (by simp; omega);rw [e];simp (disch:=omega) only [pst,Bool.not_true,Am];refine this.trans ?_;simp
   have e:i=g.bars.length:=by omega
   subst e;simp (disch:=omega) only [pst];simp
 have keyF:∀ {kk:(List (Int×Int)×Bool)→Option Grf} (fuel i:Nat),i≤g.bars.length→g.bars.length<fuel+i→(∀ e∈g.bars.take i,Dz e x=true) →
   (∃ A B,g.bars=A++B∧(∀ e∈A,Dz e x=true)∧(∀ b l,B=b::l→Dz b x=false)∧Cs N g x kk fuel (g.bars.take i,false,(i:Int))=kk (A++x::B,true)) ∨
   ((∀ e∈g.bars,Dz e x=true)∧Cs N g x kk fuel (g.bars.take i,false,(i:Int))=kk (g.bars,false)):=by
  intro kk fuel
  induction fuel with
  | zero=>intro i h1 h2; omega
  | succ fuel ih=>
   intro i h1 h2 h3;by_cases hi:i<g.bars.length
   ·have hd:g.bars.getD i (0,0)=g.bars[i]:=by simp [List.getD_eq_getElem?_getD,List.getElem?_eq_getElem hi]
    have htl:(g.bars.take i).length=i:=by simp; omega
    have etk:g.bars.take i++[g.bars.getD i (0,0)]=g.bars.take (i+1):=by
     rw [List.take_add_one,List.getElem?_eq_getElem hi,hd]; rfl
    cases hb:Dz (g.bars.getD i (0,0)) x with
    | false=>
     left;refine ⟨g.bars.take i,g.bars.drop i,(List.take_append_drop i g.bars).symm,h3,fun b l e=>?_,?_⟩
     ·rw [List.drop_eq_getElem_cons hi] at e;cases e;rw [←hd]; exact hb
     rw [Cs];have:=keyT (kk:=kk) fuel (i+1) (g.bars.take i++[x]++[g.bars.getD i (0,0)]) (by omega) (by omega) (by simp; omega);simp (disch:=omega) only [pst,Bool.not_false,Qk,hb,List.length_append,Am,htl];refine this.trans ?_;congr 2;have:g.bars.drop i=g.bars.getD i (0,0)::g.bars.drop (i+1):=by rw [List.drop_eq_getElem_cons hi,hd]
     rw [this]; simp
    | true=>
     have step:Cs N g x kk (fuel+1) (g.bars.take i,false,(i:Int))=Cs N g x kk fuel (g.bars.take (i+1),false,((i+1:Nat):Int)):=by
      rw [Cs];simp (disch:=omega) only [pst,Bool.not_false,Bool.not_true,Qk,hb,Am,htl];rw [show ((g.bars.getD i (0,0)).1,(g.bars.getD i (0,0)).2)=g.bars.getD i (0,0) from rfl,etk]
     rw [step];refine ih (i+1) (by omega) (by omega) fun e he=>?_;rw [←etk] at he;rcases List.mem_append.1 he with he | he
     ·exact h3 e he
     rw [List.mem_singleton] at he; subst he; exact hb
   have e:i=g.bars.length:=by omega
   subst e;right;rw [List.take_length] at h3 ⊢;refine ⟨h3,?_⟩;rw [Cs];simp (disch:=omega) only [pst]
 have e0:Df N g x=Cs N g x (fun (x_:(List (Int×Int))×Bool)=>
   match x_ with
   | (l10,placed11)=>
    cnd (!placed11) (
     grd (l10.length+1≤4294967296) <|
     some (⟨g.n,(l10++([(x.1,x.2)]:List (Int×Int)))⟩:Grf)) (
     some (⟨g.n,l10⟩:Grf))) N (g.bars.take 0,false,((0:Nat):Int)):=rfl
 rcases keyF (kk:=fun (x_:(List (Int×Int))×Bool)=>
   match x_ with
   | (l10,placed11)=>
    cnd (!placed11) (
     grd (l10.length+1≤4294967296) <|
     some (⟨g.n,(l10++([(x.1,x.2)]:List (Int×Int)))⟩:Grf)) (
     some (⟨g.n,l10⟩:Grf))) N 0 (by omega) (by omega) (fun e he=>by simp at he) with ⟨A,B,h1,h2,h3,h4⟩ | ⟨h1,h2⟩
 ·refine ⟨A++x::B,e0.trans (h4.trans O),srt_put (by rw [←h1]; exact hs) h2 h3⟩
 refine ⟨g.bars++[x],e0.trans (h2.trans ?_),?_⟩
 ·simp (disch:=omega) only [pst,Bool.not_false]
 have:=srt_put (A:=g.bars) (B:=[]) (x:=x) (by simpa using hs) h1 (fun b l h=>by cases h);exact this
end
section
variable {n:Nat} {N:Nat}
theorem asc_lt {n:Int} {l:List Int} (h:asc n l=true):∀ j i:Nat,i<j→j<l.length→l.getD i 0<l.getD j 0
 | 0,i,h1,_=>by omega
 | j+1,i,h1,h2=>by
  have ha:=asc_at h h2;simp only [Ye,Bool.and_eq_true,Bool.or_eq_true,decide_eq_true_eq,Nat.add_sub_cancel] at ha;have hs:l.getD j 0<l.getD (j+1) 0:=ha.2.resolve_left (by omega);by_cases e:i=j
  ·subst e; exact hs
  have:=asc_lt h j i (by omega) (by omega); omega
structure HeldS (G:List Int) (L:List (Int×Int)) (m:Nat):Prop where
 mem:∀ e∈L,∃ i j:Nat,i<j∧j<m∧e=(G.getD i 0,G.getD j 0)
 h0:∀ i,1≤i→i<m→(G.getD 0 0,G.getD i 0)∈L
 h1:∀ i,2≤i→i<m→(G.getD 1 0,G.getD i 0)∈L
 srt:Srt L
theorem put0_s (hN:4000000≤N) {g:Grf} (hl:g.bars.length≤1000) (x:Int×Int):∃ L,Df N g x=some ⟨g.n,L⟩∧L.length=g.bars.length+1∧∀ e,e∈L↔e=x∨e∈g.bars:=by
 have key:∀ {kk:(List (Int×Int)×Bool)→Option Grf} (fuel i:Nat) (l:List (Int×Int)) (pl:Bool),i≤g.bars.length→g.bars.length<fuel+i→l.length=i+(if pl=true then 1 else 0)→(pl=true→x∈l)→(∀ e,(e=x∨e∈l)↔(e=x∨e∈g.bars.take i)) →
   ∃ l' pl',Cs N g x kk fuel (l,pl,(i:Int))=kk (l',pl')∧l'.length=g.bars.length+(if pl'=true then 1 else 0)∧(pl'=true→x∈l')∧∀ e,(e=x∨e∈l')↔(e=x∨e∈g.bars):=by
  intro kk fuel
  induction fuel with
  | zero=>intro i l pl h1 h2; omega
  | succ fuel ih=>
   intro i l pl h1 h2 h3 h4 h5;rw [Cs];have hlb:l.length≤1001:=by rw [h3]; split <;> omega
   by_cases hi:i<g.bars.length
   ·have htk:∀ e,e∈g.bars.take (i+1)↔e∈g.bars.take i∨e=g.bars.getD i (0,0):=by
     intro e;have hd:g.bars.getD i (0,0)=g.bars[i]:=by simp [List.getD_eq_getElem?_getD,List.getElem?_eq_getElem hi]
     rw [List.take_add_one,List.getElem?_eq_getElem hi,List.mem_append,hd];simp only [Option.toList_some,List.mem_singleton]
    have step:∀ l2:List (Int×Int),(∀ e,(e=x∨e∈l2)↔(e=x∨e∈l∨e=g.bars.getD i (0,0)))→∀ e,(e=x∨e∈l2)↔(e=x∨e∈g.bars.take (i+1)):=by
     intro l2 h e;rw [h e,htk e];have:=h5 e;constructor
     ·rintro (h | h | h)
      ·exact .inl h
      ·rcases this.1 (.inr h) with h | h
       ·exact .inl h
       exact .inr (.inl h)
      exact .inr (.inr h)
     rintro (h | h | h)
     ·exact .inl h
     ·rcases this.2 (.inr h) with h | h
      ·exact .inl h
      exact .inr (.inl h)
     exact .inr (.inr h)
    cases pl with
    | true=>
     simp only [if_true] at h3;obtain ⟨l',pl',k1,k2⟩:=ih (i+1) (l++[g.bars.getD i (0,0)]) true (by omega) (by omega) (by simp; omega) (fun _=>by simp [h4 rfl]) (step _ fun e=>by simp);refine ⟨l',pl',?_,k2⟩;simp (disch:=omega) only [pst,Bool.not_true,Am];exact k1
    | false=>
     simp only [Bool.false_eq_true,if_false] at h3
     cases hb:Dz (g.bars.getD i (0,0)) x with
     | false=>
      obtain ⟨l',pl',k1,k2⟩:=ih (i+1) (l++[x]++[g.bars.getD i (0,0)]) true (by omega) (by omega) (by simp; omega) (fun _=>by simp) (step _ fun e=>by simp; grind);refine ⟨l',pl',?_,k2⟩;simp (disch:=omega) only [pst,Bool.not_false,Qk,hb,List.length_append,Am];exact k1
     | true=>
      obtain ⟨l',pl',k1,k2⟩:=ih (i+1) (l++[g.bars.getD i (0,0)]) false (by omega) (by omega) (by simp; omega) (fun h=>by cases h) (step _ fun e=>by simp);refine ⟨l',pl',?_,k2⟩;simp (disch:=omega) only [pst,Bool.not_false,Bool.not_true,Qk,hb,Am];exact k1
   have e:i=g.bars.length:=by omega
   subst e;refine ⟨l,pl,?_,h3,h4,by simpa using h5⟩;simp (disch:=omega) only [pst]
 obtain ⟨l',pl',k1,k2,k3,k4⟩:=key (kk:=fun (x_:(List (Int×Int))×Bool)=>
   match x_ with
   | (l10,placed11)=>
    cnd (!placed11) (
     grd (l10.length+1≤4294967296) <|
     some (⟨g.n,(l10++([(x.1,x.2)]:List (Int×Int)))⟩:Grf)) (
     some (⟨g.n,l10⟩:Grf))) N 0 [] false (by omega) (by omega) (by simp) (fun h=>by cases h) (fun e=>by simp)
 rw [show ((0:Nat):Int)=0 from rfl] at k1
 cases pl' with
 | true=>
  refine ⟨l',k1,by simpa using k2,fun e=>?_⟩;rw [←k4 e];constructor
  ·exact .inr
  rintro (rfl | h)
  ·exact k3 O
  exact h
 | false=>
  simp only [Bool.false_eq_true,if_false] at k2;refine ⟨l'++[x],?_,by simp; omega,fun e=>?_⟩
  ·refine Eq.trans k1 ?_;simp (disch:=omega) only [pst,Bool.not_false]
  rw [←k4 e]; simp; grind
theorem put_s (hN:4000000≤N) {g:Grf} (hl:g.bars.length≤1000) (x:Int×Int):∃ L,Df N g x=some ⟨g.n,L⟩∧L.length=g.bars.length+1∧(∀ e,e∈L↔e=x∨e∈g.bars)∧(Srt g.bars→Srt L):=by
 obtain ⟨L,h1,h2,h3⟩:=put0_s (N:=N) hN hl x;refine ⟨L,h1,h2,h3,fun hs=>?_⟩;obtain ⟨L',g1,g2⟩:=putX_s (N:=N) hN hl x hs;rw [h1] at g1;cases g1;exact g2
theorem heldS_s (hN:4000000≤N) {p:Pin} (hl:p.ground.length≤27):∃ L,Ph N p=some ⟨p.g.n,L⟩∧L.length≤2*(p.ground.length-1)-1∧HeldS p.ground L p.ground.length:=by
 have key:∀ {kk:(List (Int×Int)×Int)→Option Grf} (fuel i:Nat) (L:List (Int×Int)),1≤i→i≤p.ground.length+1→p.ground.length+1<fuel+i→L.length≤2*(i-1)-1→HeldS p.ground L i→(i≤p.ground.length∨p.ground.length=0) →
   ∃ L',Gv N p kk fuel (L,(i:Int),p.g.n)=kk (L',p.g.n)∧L'.length≤2*(p.ground.length-1)-1∧HeldS p.ground L' p.ground.length:=by
  intro kk fuel
  induction fuel with
  | zero=>intro i L h0 h1 h2 h3 h4 h5; omega
  | succ fuel ih=>
   intro i L h0 h1 h2 h3 h4 h5;rw [Gv];by_cases hi:i<p.ground.length
   ·obtain ⟨L1,a1,a2,a3,a4⟩:=put_s (N:=N) hN (g:=⟨p.g.n,L⟩) (by simp only; omega) (p.ground.getD 0 0,p.ground.getD i 0);simp only at a1 a2 a3 a4;by_cases h1':1<i
    ·obtain ⟨L2,b1,b2,b3,b4⟩:=put_s (N:=N) hN (g:=⟨p.g.n,L1⟩) (by simp only; omega) (p.ground.getD 1 0,p.ground.getD i 0);simp only at b1 b2 b3 b4
     obtain ⟨L',k1,k2⟩:=ih (i+1) L2 (by omega) (by omega) (by omega) (by omega) ⟨fun e he=>by
      rcases (b3 e).1 he with h | h
      ·exact ⟨1,i,h1',by omega,h⟩
      ·rcases (a3 e).1 h with h | h
       ·exact ⟨0,i,by omega,by omega,h⟩
       obtain ⟨i',j',g1,g2,g3⟩:=h4.mem e h
       exact ⟨i',j',g1,by omega,g3⟩,fun i' g1 g2=>(b3 _).2 (.inr ((a3 _).2 (by
      by_cases e:i'=i
      ·subst e; exact .inl rfl
      ·exact .inr (h4.h0 i' g1 (by omega))))),fun i' g1 g2=>(b3 _).2 (by
      by_cases e:i'=i
      ·subst e; exact .inl rfl
      exact .inr ((a3 _).2 (.inr (h4.h1 i' g1 (by omega))))),b4 (a4 h4.srt)⟩ (.inl (by omega))
     refine ⟨L',?_,k2⟩;have z0:(0:Int).toNat=0:=rfl;have z1:(1:Int).toNat=1:=rfl;simp (disch:=omega) only [pst,z0,z1,a1,b1,Am];exact k1
    have e1:i=1:=by omega
    subst e1
    obtain ⟨L',k1,k2⟩:=ih 2 L1 (by omega) (by omega) (by omega) (by omega) ⟨fun e he=>by
     rcases (a3 e).1 he with h | h
     ·exact ⟨0,1,by omega,by omega,h⟩
     ·obtain ⟨i',j',g1,g2,g3⟩:=h4.mem e h
      exact ⟨i',j',g1,by omega,g3⟩,fun i' g1 g2=>(a3 _).2 (by
     by_cases e:i'=1
     ·subst e; exact .inl rfl
     omega),fun i' g1 g2=>by omega,a4 h4.srt⟩ (.inl (by omega))
    refine ⟨L',?_,k2⟩;have z0:(0:Int).toNat=0:=rfl;simp (disch:=omega) only [pst,z0,a1,Am];exact k1
   refine ⟨L,?_,by omega,⟨fun e he=>?_,fun i' g1 g2=>h4.h0 i' g1 (by omega),fun i' g1 g2=>h4.h1 i' g1 (by omega),h4.srt⟩⟩
   ·simp (disch:=omega) only [pst]
   obtain ⟨i',j',g1,g2,g3⟩:=h4.mem e he;exact ⟨i',j',g1,by omega,g3⟩
 by_cases h0:p.ground.length=0
 ·obtain ⟨L,k1,k2⟩:=key (kk:=fun x=>match x with | (l14,c15)=>some (⟨c15,l14⟩:Grf)) N 1 [] (by omega) (by omega) (by omega) (by simp) ⟨fun e he=>by simp at he,fun i g1 g2=>by omega,fun i g1 g2=>by omega,List.Pairwise.nil⟩ (.inr h0);exact ⟨L,k1,k2⟩
 obtain ⟨L,k1,k2⟩:=key (kk:=fun x=>match x with | (l14,c15)=>some (⟨c15,l14⟩:Grf)) N 1 [] (by omega) (by omega) (by omega) (by simp) ⟨fun e he=>by simp at he,fun i g1 g2=>by omega,fun i g1 g2=>by omega,List.Pairwise.nil⟩ (.inl (by omega));exact ⟨L,k1,k2⟩
theorem allS_s (hN:4000000≤N) {p:Pin} (hl:p.ground.length≤27) (hb:p.g.bars.length≤24):∃ LH L,Ph N p=some ⟨p.g.n,LH⟩∧LH.length≤2*(p.ground.length-1)-1∧HeldS p.ground LH p.ground.length∧St N p=some ⟨p.g.n,L⟩∧L.length=LH.length+p.g.bars.length∧(∀ e,e∈L↔e∈LH∨e∈p.g.bars)∧Srt L:=by
 obtain ⟨LH,h1,h2,h3⟩:=heldS_s (N:=N) hN hl
 have key:∀ {kk:(List (Int×Int)×Int)→Option Grf} (fuel i:Nat) (L:List (Int×Int)),i≤p.g.bars.length→p.g.bars.length<fuel+i→L.length=LH.length+i→(∀ e,e∈L↔e∈LH∨e∈p.g.bars.take i)→Srt L →
   ∃ L',Jo N p kk fuel (L,(i:Int),p.g.n)=kk (L',p.g.n)∧L'.length=LH.length+p.g.bars.length∧(∀ e,e∈L'↔e∈LH∨e∈p.g.bars)∧Srt L':=by
  intro kk fuel
  induction fuel with
  | zero=>intro i L g1 g2; omega
  | succ fuel ih=>
   intro i L g1 g2 g3 g4 g5;rw [Jo];by_cases hi:i<p.g.bars.length
   ·obtain ⟨L1,a1,a2,a3,a4⟩:=put_s (N:=N) hN (g:=⟨p.g.n,L⟩) (by simp only; omega) (p.g.bars.getD i (0,0));simp only at a1 a2 a3 a4
    obtain ⟨L',k1,k2⟩:=ih (i+1) L1 (by omega) (by omega) (by omega) (fun e=>by
     have hd:p.g.bars.getD i (0,0)=p.g.bars[i]:=by simp [List.getD_eq_getElem?_getD,List.getElem?_eq_getElem hi]
     rw [a3 e,g4 e,List.take_add_one,List.getElem?_eq_getElem hi,List.mem_append,hd];simp only [Option.toList_some,List.mem_singleton]
     grind) (a4 g5)
    refine ⟨L',?_,k2⟩;simp (disch:=omega) only [pst,a1,Am];exact k1
   have e:i=p.g.bars.length:=by omega
   subst e;refine ⟨L,?_,by omega,by simpa using g4,g5⟩;simp (disch:=omega) only [pst]
 obtain ⟨L,k1,k2,k3⟩:=key (kk:=fun x=>match x with | (l8,c9)=>some (⟨c9,l8⟩:Grf)) N 0 LH (by omega) (by omega) (by omega) (by simp) h3.srt;refine ⟨LH,L,h1,h2,h3,?_,k2,k3⟩;unfold St;rw [h1,Option.bind_some];exact k1
end
section
variable {n:Nat} {N:Nat}
def HeldI (G:List Int) (L:List (Int×Int)):Prop:=∀ e,e∈L↔∃ i j:Nat,i<j∧j<G.length∧e=(G.getD i 0,G.getD j 0)
theorem heldI_s (hN:4000000≤N) {p:Pin} {m:Int} (hl:p.ground.length≤27) (ha:asc m p.ground=true):∃ L,Jg N p=some L∧L.length≤800∧HeldI p.ground L:=by
 have key2:∀ {kk:List (Int×Int)→Option (List (Int×Int))} (i:Nat) (hi:i<p.ground.length) (fuel x:Nat) (L:List (Int×Int)),i+1+x≤p.ground.length→p.ground.length<fuel+x→L.length≤28*i+x→(∀ e,e∈L↔∃ i' j:Nat,i'<j∧j<p.ground.length∧(i'<i∨i'=i∧j<i+1+x)∧e=(p.ground.getD i' 0,p.ground.getD j 0)) →
   ∃ L',Eb N p (i:Int) kk fuel (L,(x:Int))=kk L'∧L'.length≤28*(i+1)∧∀ e,e∈L'↔∃ i' j:Nat,i'<j∧j<p.ground.length∧i'<i+1∧e=(p.ground.getD i' 0,p.ground.getD j 0):=by
  intro kk i hi fuel
  induction fuel with
  | zero=>intro x L h1 h2; omega
  | succ fuel ih=>
   intro x L h1 h2 h3 h4;rw [Eb];have e1:(((i:Int)+1)).toNat=i+1:=by omega
   have e2:((p.ground.take p.ground.length).drop (i+1)).length=p.ground.length-(i+1):=by simp
   by_cases hx:i+1+x<p.ground.length
   ·have e3:((p.ground.take p.ground.length).drop (i+1)).getD x 0=p.ground.getD (i+1+x) 0:=by simp [List.getD_eq_getElem?_getD]
    have hlt:=asc_lt ha (i+1+x) i (by omega) hx
    have eb:I_bar N (p.ground.getD i 0) (p.ground.getD (i+1+x) 0)=some (p.ground.getD i 0,p.ground.getD (i+1+x) 0):=by
     unfold I_bar;rw [Int.min_eq_left (by omega),Int.max_eq_right (by omega)]
    obtain ⟨L',k1,k2⟩:=ih (x+1) (L++[(p.ground.getD i 0,p.ground.getD (i+1+x) 0)]) (by omega) (by omega) (by simp; omega) fun e=>by
     rw [List.mem_append,h4 e,List.mem_singleton];constructor
     ·rintro (⟨i',j,g1,g2,g3,g4⟩ | h)
      ·exact ⟨i',j,g1,g2,by omega,g4⟩
      exact ⟨i,i+1+x,by omega,hx,by omega,h⟩
     rintro ⟨i',j,g1,g2,g3,g4⟩;by_cases hc:i'<i∨i'=i∧j<i+1+x
     ·exact .inl ⟨i',j,g1,g2,hc,g4⟩
     right;have h1:i'=i:=by omega
     have h2:j=i+1+x:=by omega
     rw [g4,h1,h2]
    refine ⟨L',?_,k2⟩;simp (disch:=omega) only [pst,e1,e2,e3,eb,Am];exact k1
   refine ⟨L,?_,by omega,fun e=>?_⟩
   ·simp (disch:=omega) only [pst,e1,e2]
   rw [h4 e];constructor
   ·rintro ⟨i',j,g1,g2,g3,g4⟩;exact ⟨i',j,g1,g2,by omega,g4⟩
   rintro ⟨i',j,g1,g2,g3,g4⟩;exact ⟨i',j,g1,g2,by omega,g4⟩
 have key1:∀ {kk:List (Int×Int)→Option (List (Int×Int))} (fuel i:Nat) (L:List (Int×Int)),i≤p.ground.length→p.ground.length<fuel+i→L.length≤28*i→(∀ e,e∈L↔∃ i' j:Nat,i'<j∧j<p.ground.length∧i'<i∧e=(p.ground.getD i' 0,p.ground.getD j 0)) →
   ∃ L',Dp N p kk fuel (L,(i:Int))=kk L'∧L'.length≤800∧HeldI p.ground L':=by
  intro kk fuel
  induction fuel with
  | zero=>intro i L h1 h2; omega
  | succ fuel ih=>
   intro i L h1 h2 h3 h4;rw [Dp];by_cases hi:i<p.ground.length
   ·obtain ⟨L1,a1,a2,a3⟩:=key2 (kk:=fun l100=>Dp N p kk fuel (l100,((i:Int)+(1:Int)))) i hi N 0 L (by omega) (by omega) (by omega) fun e=>by
     rw [h4 e];constructor
     ·rintro ⟨i',j,g1,g2,g3,g4⟩;exact ⟨i',j,g1,g2,by omega,g4⟩
     rintro ⟨i',j,g1,g2,g3,g4⟩;exact ⟨i',j,g1,g2,by omega,g4⟩
    rw [show ((0:Nat):Int)=0 from rfl] at a1;obtain ⟨L',k1,k2⟩:=ih (i+1) L1 (by omega) (by omega) (by omega) a3;refine ⟨L',?_,k2⟩;rw [Dk (by omega),Ao (by omega),Cy (by omega) (by omega),Ao (by omega)];refine a1.trans ?_;rw [←k1,Am]
   have e:i=p.ground.length:=by omega
   subst e;refine ⟨L,?_,by omega,fun e=>?_⟩
   ·simp (disch:=omega) only [pst]
   rw [h4 e];constructor
   ·rintro ⟨i',j,g1,g2,g3,g4⟩;exact ⟨i',j,g1,g2,g4⟩
   rintro ⟨i',j,g1,g2,g4⟩;exact ⟨i',j,g1,g2,by omega,g4⟩
 obtain ⟨L,k1,k2⟩:=key1 (kk:=fun x=>some x) N 0 [] (by omega) (by omega) (by simp) (fun e=>by
  constructor
  ·intro h; simp at h
  rintro ⟨i',j,g1,g2,g3,g4⟩; omega)
 rw [show ((0:Nat):Int)=0 from rfl] at k1;exact ⟨L,k1,k2⟩
theorem Xg {I:List (Int×Int)} (h:Spr n I):I.length≤2*n:=by
 have h1:spn (fun _=>true) I=I.length:=by simp [spn,inX]
 have h2:vsz n (fun _=>true)=n:=by simp [vsz]
 by_cases h0:0<spn (fun _=>true) I
 ·have:=h _ h0;rw [h1,h2] at this;omega
 omega
theorem two_ranks {G:List Int} {LH LS LI bars I J:List (Int×Int)} (hG:∀ i,i<G.length→0≤G.getD i 0∧G.getD i 0<n) (hlt:∀ j i:Nat,i<j→j<G.length→G.getD i 0<G.getD j 0) (hS:HeldS G LH G.length) (hI:HeldI G LI)
  (hb:∀ e∈bars,Bok n e) (hLS:∀ e,e∈LS↔e∈LH∨e∈bars) (h1:Bas n LS I) (h2:Bas n (LI++bars) J):I.length=J.length:=by
 have pok:∀ i j:Nat,i<j→j<G.length→Bok n (G.getD i 0,G.getD j 0):=fun i j g1 g2=>by
  have a:=hG i (by omega);have b:=hG j g2;have c:=hlt j i g1 g2;exact ⟨a.1,a.2,b.1,b.2,by simp only; omega⟩
 have okI:∀ e∈I,Bok n e:=fun e he=>by
  rcases (hLS e).1 (h1.mem e he) with h | h
  ·obtain ⟨i,j,g1,g2,rfl⟩:=hS.mem e h; exact pok i j g1 g2
  exact hb e h
 have okJ:∀ e∈J,Bok n e:=fun e he=>by
  rcases List.mem_append.1 (h2.mem e he) with h | h
  ·obtain ⟨i,j,g1,g2,rfl⟩:=(hI e).1 h; exact pok i j g1 g2
  exact hb e h
 have le1:I.length≤J.length:=spr_le h2.spr h1.spr okJ fun e he=>h2.spn e (List.mem_append.2 (by
  rcases (hLS e).1 (h1.mem e he) with h | h
  ·exact .inl ((hI e).2 (hS.mem e h))
  exact .inr h))
 have le2:J.length≤I.length:=by
  refine spr_le h1.spr h2.spr okI fun e he=>?_;rcases List.mem_append.1 (h2.mem e he) with h | h
  ·obtain ⟨i,j,g1,g2,rfl⟩:=(hI e).1 h;have s0:∀ k,1≤k→k<G.length→∃ X,Tgt n I X∧inX X (G.getD 0 0,G.getD k 0)=true:=fun k a b=>h1.spn _ ((hLS _).2 (.inl (hS.h0 k a b)));have s1:∀ k,2≤k→k<G.length→∃ X,Tgt n I X∧inX X (G.getD 1 0,G.getD k 0)=true:=fun k a b=>h1.spn _ ((hLS _).2 (.inl (hS.h1 k a b)))
   have t:∀ k,2≤k→k<G.length→∃ W,Tgt n I W∧W (G.getD 0 0)=true∧W (G.getD 1 0)=true∧W (G.getD k 0)=true:=by
    intro k a b;obtain ⟨A,a1,a2⟩:=s0 1 (by omega) (by omega);obtain ⟨B,b1,b2⟩:=s0 k (by omega) b;obtain ⟨C,c1,c2⟩:=s1 k a b;simp only [inX,Bool.and_eq_true] at a2 b2 c2;have l1:=hlt 1 0 (by omega) (by omega);have l2:=hlt k 0 (by omega) b;have l3:=hlt k 1 (by omega) b;exact tri h1.spr okI a1 b1 c1 (hG 0 (by omega)) (hG 1 (by omega)) (hG k b) (by omega) (by omega) (by omega) a2.1 a2.2 b2.1 b2.2 c2.1 c2.2
   by_cases e0:i=0
   ·subst e0; exact s0 j (by omega) g2
   by_cases e1:i=1
   ·subst e1; exact s1 j (by omega) g2
   obtain ⟨V,v1,v2,v3,v4⟩:=t i (by omega) (by omega);obtain ⟨W,w1,w2,w3,w4⟩:=t j (by omega) g2;have l1:=hlt 1 0 (by omega) (by omega);refine ⟨vU V W,v1.union h1.spr w1 (Kb (hG 0 (by omega)) (hG 1 (by omega)) (by omega) (by simp only [vI,v2,w2,Bool.and_self]) (by simp only [vI,v3,w3,Bool.and_self])),?_⟩;simp only [inX,vU,v4,w4,Bool.true_or,Bool.or_true,Bool.and_self]
  exact h1.spn e ((hLS e).2 (.inr h))
 omega
theorem pin_ranks (hN:4000000≤N) {p:Pin} (hp:Aw p=true):∃ (r s:Nat) (hS:Grf) (aS:Grf) (hI:List (Int×Int)),St N p=some aS∧Ph N p=some hS∧Qf N aS=some (r:Int)∧Qf N hS=some (s:Int) ∧
  Jg N p=some hI∧hI.length≤800∧Jc N p.g.n (hI++p.g.bars)=some (r:Int)∧Jc N p.g.n hI=some (s:Int)∧r≤1000∧s≤1000:=by
 obtain ⟨p1,p2,p3,p4,p5,p6,p7⟩:=Gc hp;obtain ⟨hn1,hn2,hbl⟩:=Qj p1;obtain ⟨n,hn⟩:=Int.eq_ofNat_of_zero_le (show 0≤p.g.n by omega);obtain ⟨LH,LS,a1,a2,a3,a4,a5,a6,_⟩:=allS_s (N:=N) hN (p:=p) (by omega) (by omega);obtain ⟨LI,b1,b2,b3⟩:=heldI_s (N:=N) hN (p:=p) (by omega) p6
 have hG:∀ i,i<p.ground.length→0≤p.ground.getD i 0∧p.ground.getD i 0<n:=fun i hi=>by
  have:=asc_in p6 (Ci (d:=0) hi);omega
 have hlt:=asc_lt p6
 have hb:∀ e∈p.g.bars,Bok n e:=fun e he=>by
  have:=Qy p1 he;exact ⟨by omega,by omega,by omega,by omega,by omega⟩
 have pok:∀ i j:Nat,i<j→j<p.ground.length→Bok n (p.ground.getD i 0,p.ground.getD j 0):=fun i j g1 g2=>by
  have a:=hG i (by omega);have b:=hG j g2;have c:=hlt j i g1 g2;exact ⟨a.1,a.2,b.1,b.2,by simp only; omega⟩
 have okLH:∀ e∈LH,Bok n e:=fun e he=>by
  obtain ⟨i,j,g1,g2,rfl⟩:=a3.mem e he; exact pok i j g1 g2
 have okLI:∀ e∈LI,Bok n e:=fun e he=>by
  obtain ⟨i,j,g1,g2,rfl⟩:=(b3 e).1 he; exact pok i j g1 g2
 obtain ⟨I1,c1,c2⟩:=rank_s (N:=N) hN (g:=⟨p.g.n,LS⟩) (n:=n) hn (by omega) (fun e he=>by
  rcases (a6 e).1 he with h | h
  ·exact okLH e h
  exact hb e h) (by simp only; omega)
 obtain ⟨I2,d1,d2⟩:=rank_s (N:=N) hN (g:=⟨p.g.n,LH⟩) (n:=n) hn (by omega) okLH (by simp only; omega)
 obtain ⟨J1,e1,e2⟩:=Aag (N:=N) hN (n:=n) (by omega) (bars:=LI++p.g.bars) (fun e he=>by
  rcases List.mem_append.1 he with h | h
  ·exact okLI e h
  exact hb e h) (by simp; omega)
 obtain ⟨J2,f1,f2⟩:=Aag (N:=N) hN (n:=n) (by omega) (bars:=LI) okLI (by omega);have q1:=two_ranks hG hlt a3 b3 hb a6 c1 e1;have q2:=two_ranks (bars:=[]) hG hlt a3 b3 (by simp) (by simp) d1 (by simpa using f1);refine ⟨I1.length,I2.length,_,_,LI,a4,a1,c2,d2,b1,b2,?_,?_,?_,?_⟩
 ·rw [hn,e2,q1]
 ·rw [hn,f2,q2]
 ·have:=Xg c1.spr;omega
 have:=Xg d1.spr;omega
theorem Xr (hN:4000000≤N) {p:Pin} (hb:p.g.bars.length≤3000000) (hg:p.ground.length≤3000000):∃ r:Int,Eh N p=some r∧Jb N p=some r∧-1001≤r∧r≤1001:=by
 cases hp:Aw p with
 | false=>
  refine ⟨-1,?_,?_,by omega,by omega⟩
  ·unfold Eh;simp (disch:=omega) only [pst,Er N hN hb hg,hp,Bool.not_false]
  unfold Jb;simp (disch:=omega) only [pst,Jp N hN hb hg,hp,Bool.not_false]
 | true=>
  obtain ⟨r,s,hS,aS,hI,h1,h2,h3,h4,h5,h6,h7,h8,h9,h10⟩:=pin_ranks hN hp;obtain ⟨b1,b2,b3,b4⟩:=Bg hp;refine ⟨(r:Int)-s,?_,?_,by omega,by omega⟩
  ·unfold Eh;simp (disch:=omega) only [pst,Er N hN hb hg,hp,Bool.not_true,h1,h2,h3,h4]
  unfold Jb;simp (disch:=omega) only [pst,Jp N hN hb hg,hp,Bool.not_true,h5,h7,h8]
theorem Aad (hN:4000000≤N) {p:Pin} (hb:p.g.bars.length≤3000000) (hg:p.ground.length≤3000000):∃ r:Int,Cz N p=some r∧Gj N p=some r:=by
 obtain ⟨r,h1,h2,h3,h4⟩:=Xr (N:=N) hN hb hg
 cases hp:Aw p with
 | false=>
  refine ⟨-1,?_,?_⟩
  ·unfold Cz;simp (disch:=omega) only [pst,Er N hN hb hg,hp,Bool.not_false]
  unfold Gj;simp (disch:=omega) only [pst,Jp N hN hb hg,hp,Bool.not_false]
 | true=>
  obtain ⟨b1,b2,b3,b4⟩:=Bg hp
  have hl:(Af p).length≤8:=by
   unfold Af;rw [hp,cnd_true,Ee];have:=Jn p.ground p.g.n.toNat;omega
  refine ⟨2*((Af p).length:Int)-r,?_,?_⟩
  ·unfold Cz;simp (disch:=omega) only [pst,Er N hN hb hg,hp,Bool.not_true,Sr N hN hb hg,h1]
  unfold Gj;simp (disch:=omega) only [pst,Jp N hN hb hg,hp,Bool.not_true,Yk N hN hb hg,h2]
end
section
variable {n:Nat}
def Tied (n:Nat) (I:List (Int×Int)) (e:Int×Int):Prop:=∃ X,Tgt n I X∧inX X e=true
theorem bas_len {L L' I J:List (Int×Int)} (hb:∀ e∈L,Bok n e) (hm:∀ e,e∈L'↔e∈L) (hI:Bas n L I) (hJ:Bas n L' J):I.length=J.length:=by
 have h1:J.length≤I.length:=spr_le hI.spr hJ.spr (fun e he=>hb e (hI.mem e he)) fun e he=>hI.spn e ((hm e).1 (hJ.mem e he));have h2:I.length≤J.length:=spr_le hJ.spr hI.spr (fun e he=>hb e ((hm e).1 (hJ.mem e he))) fun e he=>hJ.spn e ((hm e).2 (hI.mem e he));omega
theorem Tied.swap {I:List (Int×Int)} {a b:Int} (h:Tied n I (a,b)):Tied n I (b,a):=by
 obtain ⟨X,h1,h2⟩:=h;refine ⟨X,h1,?_⟩;simp only [inX,Bool.and_eq_true] at h2 ⊢;exact ⟨h2.2,h2.1⟩
theorem Tied.tri {I:List (Int×Int)} (hI:Spr n I) (ok:∀ e∈I,Bok n e) {x y z:Int} (hx:0≤x∧x<n) (hy:0≤y∧y<n) (hz:0≤z∧z<n) (hxy:x≠y) (hxz:x≠z) (hyz:y≠z) (a:Tied n I (x,y)) (b:Tied n I (x,z)) (c:Tied n I (y,z)):∃ W,Tgt n I W∧W x=true∧W y=true∧W z=true:=by
 obtain ⟨A,a1,a2⟩:=a;obtain ⟨B,b1,b2⟩:=b;obtain ⟨C,c1,c2⟩:=c;simp only [inX,Bool.and_eq_true] at a2 b2 c2;exact Ytaipbhnpandbkaa.tri hI ok a1 b1 c1 hx hy hz hxy hxz hyz a2.1 a2.2 b2.1 b2.2 c2.1 c2.2
end
section
variable {n:Nat} {N:Nat}
theorem srt_graph {g:Grf} (h1:inB g.n 1 8=true) (h2:g.bars.length≤24) (h3:Srt g.bars) (h4:∀ e∈g.bars,Va g.n e=true):Fd g=true:=by
 refine Xy h1 h2 fun i hi=>?_;unfold Yf;rw [h4 _ (Ci hi)];by_cases h0:i=0
 ·simp [h0]
 have:=List.pairwise_iff_getElem.1 h3 (i-1) i (by omega) hi (by omega);have e1:g.bars.getD (i-1) (0,0)=g.bars[i-1]:=by rw [List.getD_eq_getElem?_getD,List.getElem?_eq_getElem (by omega)]; rfl
 have e2:g.bars.getD i (0,0)=g.bars[i]:=by rw [List.getD_eq_getElem?_getD,List.getElem?_eq_getElem hi]; rfl
 rw [e1,e2,this]; simp
end
section
variable {n:Nat}
end
section
variable {n:Nat} {N:Nat}
end
section
variable {n:Nat} {N:Nat}
end
section
variable {N:Nat}
end
section
open Go.RowKit
def Hz (N:Nat) (g_0:Grf) (k_1:Int):Option (Grf×Bool):=
 (Lm N g_0).bind fun v1=>
 cnd (!v1) (
  (Gi N g_0).bind fun v2=>
  some ((⟨v2.n,v2.bars⟩:Grf),false)) (
  cnd (decide (k_1<(0:Int))) (
   (Gi N g_0).bind fun v3=>
   some ((⟨v3.n,v3.bars⟩:Grf),false)) (
   cnd (decide (k_1≥(g_0.bars.length:Int))) (
    (Gi N g_0).bind fun v4=>
    some ((⟨v4.n,v4.bars⟩:Grf),false)) (
    grd (0≤k_1∧k_1≤(g_0.bars.length:Int)) <|
    grd (((g_0.bars.take ((k_1).toNat)).drop 0).length≤4294967296) <|
    grd (Bc (k_1+(1:Int))) <|
    grd (0≤(k_1+(1:Int))∧(k_1+(1:Int))≤(g_0.bars.length:Int)) <|
    grd ((([]:List (Int×Int))++((g_0.bars.take ((k_1).toNat)).drop 0)).length+((g_0.bars.take g_0.bars.length).drop (((k_1+(1:Int))).toNat)).length≤4294967296) <|
    some ((⟨g_0.n,((([]:List (Int×Int))++((g_0.bars.take ((k_1).toNat)).drop 0))++((g_0.bars.take g_0.bars.length).drop (((k_1+(1:Int))).toNat)))⟩:Grf),true))))
theorem Rc (N:Nat) (g_0:Grf) (k_1:Int) (r:Grf×Bool) (h:Hz N g_0 k_1=some r):PCall Try.prog 44 [gD g_0,.int k_1] [(52,.pairs r.1.bars)] (.tup [.agg [.int r.1.n,.row 0 0 r.1.bars.length],.bool r.2]):=by
 unfold Hz at h;refine Aj (TT:=TT) tt Try.func44 O O Try.ntmps44 (congrArg Array.toList Try.results44) O O fun w0=>(Ai (Ab (Lh O O O O O O O O O (Bw tt O O O O O O O O O (Aa O (Ah (Ai (Ai (Ab ?_)))))))));refine Aa O ?_;obtain ⟨v1,hc1,h⟩:=Ag h;refine Ba (Qv N g_0 v1 hc1) O O O O O O O O ⟨⟨O,O,Y⟩,Y⟩ (Aa O (Aa O (Bu O O O (fun hb2=>?_) (fun hb2=>?_))))
 ·replace h:=Ak hb2 h;iterate 2 refine Lv O O O O hb2 O O ?_
  refine Cf O O O O O hb2 O (Aa O ?_);iterate 5 refine Lv O O O O O O O ?_
  refine Cf O O O O O O O (Ah (Ce O O (Ai (Ab (Aa O ?_)))));obtain ⟨v2,hc3,h⟩:=Ag h;refine Ba (Hj N g_0 v2 hc3) O O O O O O O O ⟨⟨O,O,Y⟩,Y⟩ (Ar tt O O O O O O O O O O O ⟨Y,Y,Y⟩ (Aa O (Ah (Az ?_))));show ∃ _,_;cases h;exact ⟨[1210],_,O,⟨O,Y⟩,O,.eq O,O⟩
 replace h:=Al hb2 h;iterate 2 refine Bt tt O O O O O hb2 O O O Y ?_
 refine Bp O O O O O hb2 O (Aa O (Bu O O O (fun hb4=>?_) (fun hb4=>?_)))
 ·replace h:=Ak hb4 h;iterate 5 refine Lv O O O O hb4 O O ?_
  refine Cf O O O O O hb4 O (Ah (Ce O O (Ai (Ab (Aa O ?_)))));obtain ⟨v3,hc5,h⟩:=Ag h;refine Ba (Hj N g_0 v3 hc5) O O O O O O O O ⟨⟨O,O,Y⟩,Y⟩ (Ar tt O O O O O O O O O O O ⟨Y,Y,Y⟩ (Aa O (Ah (Az ?_))));show ∃ _,_;cases h;exact ⟨[1210],_,O,⟨O,Y⟩,O,.eq O,O⟩
 replace h:=Al hb4 h;iterate 5 refine Bt tt O O O O O hb4 O O O Y ?_
 refine Bp O O O O O hb4 O (Ah (Au O (fun hb6=>?_) (fun hb6=>?_)))
 ·replace h:=Ak hb6 h;refine Ai (Ab (Aa O ?_));obtain ⟨v4,hc7,h⟩:=Ag h;refine Ba (Hj N g_0 v4 hc7) O O O O O O O O ⟨⟨O,O,Y⟩,Y⟩ (Ar tt O O O O O O O O O O O ⟨Y,Y,Y⟩ (Aa O (Ah (Az ?_))));show ∃ _,_;cases h;exact ⟨[1210],_,O,⟨O,Y⟩,O,.eq O,O⟩
 replace h:=Al hb6 h;refine As (Ai (Bi 14 [7,13,1130000029] [0,1,0,0,8,0,56,124,0,256,0,1024,3840,8188,16383,32767,65535] (by kernel_rfl) (by kernel_rfl) (by kernel_rfl) (by kernel_rfl) (by kernel_rfl) O (by rfl) ?_));iterate 2 refine Br tt O (Ad O) O O O O O Y ?_
 refine Abs tt (Ad O) O O O O O ?_;iterate 3 refine Br tt O (Ad O) O O O O O Y ?_
 obtain ⟨hg8,h⟩:=Ac h;refine Br tt O (Ad O) O O O O O hg8 ?_;obtain ⟨hg9,h⟩:=Ac h;refine nAppNil tt (Ad O) O O O O O O O O (fun _=>O) O O O O O O hg9 ?_;iterate 3 refine Br tt O (Ad O) O O O O O Y ?_
 obtain ⟨hg10,h⟩:=Ac h;refine Br tt O (Ad O) O O O O O hg10 ?_;obtain ⟨hg11,h⟩:=Ac h;refine Br tt O (Ad O) O O O O O hg11 ?_;obtain ⟨hg12,h⟩:=Ac h;refine nAppMove tt (Ad O) O O O O O O O O O O O O O O O O O O O O Y hg12 (Pm ?_);show VO _ _ _ _ _;refine Km (Ad O) (Ez Hm O O) O O (Ar tt O O O O O O O O O O O ⟨Y,Y,Y⟩ (Aa O (Ah (Az ?_))));show ∃ _,_;cases h;exact ⟨[35],_,O,⟨O,Y⟩,O,.eq O,O⟩
end
section
variable {N:Nat}
end
section
open Go.RowKit
variable {n:Nat} {N:Nat}
theorem Ed {α:Type} [DecidableEq α]:∀ {I L:List α},I.Nodup→(∀ e∈I,e∈L)→I.length≤L.length
 | [],L,_,_=>by simp
 | e::I,L,h,hm=>by
  have h1:=List.nodup_cons.1 h;have he:=hm e (by simp)
  have h2:=Ed (I:=I) (L:=L.erase e) h1.2 fun x hx=>by
   have hne:x≠e:=fun hc=>h1.1 (by rw [←hc]; exact hx);exact (List.mem_erase_of_ne hne).2 (hm x (by simp [hx]))
  rw [List.length_erase_of_mem he] at h2;have:0<L.length:=List.length_pos_of_mem he;simp only [List.length_cons]; omega
theorem Spr.sub {I J:List (Int×Int)} (h:Spr n I) (hs:J.Sublist I):Spr n J:=fun X hX=>by
 have h1:Ytaipbhnpandbkaa.spn X J≤Ytaipbhnpandbkaa.spn X I:=hs.countP_le;have:=h X (by omega);omega
theorem Spr.nodup:∀ {I:List (Int×Int)},Spr n I→(∀ e∈I,Bok n e)→I.Nodup
 | [],_,_=>List.nodup_nil
 | e::I,h,ok=>by
  refine List.nodup_cons.2 ⟨fun hm=>?_,Spr.nodup (h.sub (List.sublist_cons_self _ _)) fun x hx=>ok x (by simp [hx])⟩;obtain ⟨b1,b2,b3,b4,b5⟩:=ok e (by simp);have h2:=vsz_v2 (n:=n) ⟨b1,b2⟩ ⟨b3,b4⟩ b5;have hin:inX (v2 e.1 e.2) e=true:=by simp [inX,v2]
  have h3:2≤Ytaipbhnpandbkaa.spn (v2 e.1 e.2) (e::I):=by
   rw [Ho,if_pos hin];have:0<Ytaipbhnpandbkaa.spn (v2 e.1 e.2) I:=List.countP_pos_iff.2 ⟨e,hm,hin⟩;omega
  have:=h (v2 e.1 e.2) (by omega);omega
theorem vsz_all:vsz n (fun _=>true)=n:=by simp [vsz]
theorem spn_all (I:List (Int×Int)):spn (fun _=>true) I=I.length:=by simp [spn,inX]
theorem spn_le (X:VS) (I:List (Int×Int)):spn X I≤I.length:=List.countP_le_length
theorem Spr.top {I:List (Int×Int)} (h:Spr n I) (hn:2≤n):I.length+3≤2*n:=by
 by_cases h0:I.length=0
 ·omega
 have:=h (fun _=>true) (by rw [spn_all]; omega);rw [spn_all,vsz_all] at this;exact this
theorem Abc {I:List (Int×Int)} (hI:Spr n I) (ok:∀ e∈I,Bok n e) {x y:Int} (hx:0≤x∧x<n) (hy:0≤y∧y<n) (hxy:x≠y) (ht:Tied n I (x,y)):∀ L:List Int,(∀ v∈L,(0≤v∧v<n)∧(x=v∨Tied n I (x,v))∧(y=v∨Tied n I (y,v))) →
  ∃ W,Tgt n I W∧W x=true∧W y=true∧∀ v∈L,W v=true
 | [],_=>by
  obtain ⟨X,h1,h2⟩:=ht;simp only [inX,Bool.and_eq_true] at h2;exact ⟨X,h1,h2.1,h2.2,by simp⟩
 | v::L,h=>by
  obtain ⟨W,w1,w2,w3,w4⟩:=Abc hI ok hx hy hxy ht L fun u hu=>h u (by simp [hu]);obtain ⟨hv,h1,h2⟩:=h v (by simp);by_cases e1:x=v
  ·exact ⟨W,w1,w2,w3,fun u hu=>by
    rcases List.mem_cons.1 hu with rfl | hu
    ·rw [←e1]; exact w2
    exact w4 u hu⟩
  by_cases e2:y=v
  ·exact ⟨W,w1,w2,w3,fun u hu=>by
    rcases List.mem_cons.1 hu with rfl | hu
    ·rw [←e2]; exact w3
    exact w4 u hu⟩
  obtain ⟨V,v1,v2,v3,v4⟩:=Tied.tri hI ok hx hy hv hxy e1 e2 ht (h1.resolve_left e1) (h2.resolve_left e2);refine ⟨vU W V,w1.union hI v1 (Kb hx hy hxy (by simp [vI,w2,v2]) (by simp [vI,w3,v3])),by simp [vU,w2],by simp [vU,w3],fun u hu=>?_⟩;rcases List.mem_cons.1 hu with rfl | hu
  ·simp [vU,v4]
  simp [vU,w4 u hu]
theorem vsz_ge {W:VS} {G:List Int} (hd:G.Nodup) (h:∀ v∈G,(0≤v∧v<n)∧W v=true):G.length≤vsz n W:=by
 have e:vsz n W=(((List.range n).filter fun (i:Nat)=>W (i:Int)).map fun (i:Nat)=>(i:Int)).length:=by
  rw [List.length_map,vsz,List.countP_eq_length_filter]
 rw [e];refine Ed hd fun v hv=>?_;obtain ⟨⟨h1,h2⟩,h3⟩:=h v hv;refine List.mem_map.2 ⟨v.toNat,List.mem_filter.2 ⟨List.mem_range.2 (by omega),?_⟩,by omega⟩;rw [show ((v.toNat:Nat):Int)=v by omega]; exact h3
theorem len_of_tied {I:List (Int×Int)} (hI:Spr n I) (ok:∀ e∈I,Bok n e) {x y:Int} (hx:0≤x∧x<n) (hy:0≤y∧y<n) (hxy:x≠y) (ht:Tied n I (x,y)) {G:List Int} (hd:G.Nodup)
  (h:∀ v∈G,(0≤v∧v<n)∧(x=v∨Tied n I (x,v))∧(y=v∨Tied n I (y,v))):2*G.length≤I.length+3:=by
 obtain ⟨W,w1,_,_,w4⟩:=Abc hI ok hx hy hxy ht G h;have h1:=vsz_ge (W:=W) hd fun v hv=>⟨(h v hv).1,w4 v hv⟩;have h2:=w1.2;have h3:=spn_le W I;omega
theorem le_anti {a b:Int×Int} (h1:Dz a b=true) (h2:Dz b a=true):a=b:=by
 simp only [Dz,Bool.or_eq_true,Bool.and_eq_true,decide_eq_true_eq,beq_iff_eq] at h1 h2;exact Prod.ext (by omega) (by omega)
theorem graph_le {g:Grf} (h:Fd g=true):∀ d i,i+d+1<g.bars.length→Dz (g.bars.getD i (0,0)) (g.bars.getD (i+d+1) (0,0))=true:=by
 have hp:=(Rg h).2.2
 have ad:∀ i,i+1<g.bars.length→Dz (g.bars.getD i (0,0)) (g.bars.getD (i+1) (0,0))=true:=by
  intro i hi;have:=hp (i+1) hi;simp only [Yf,Bool.and_eq_true,Bool.or_eq_true,decide_eq_true_eq,Nat.add_sub_cancel] at this;rcases this.2 with h | h
  ·omega
  exact h
 intro d
 induction d with
 | zero=>intro i hi; exact ad i hi
 | succ d ih=>intro i hi; exact le_trans' (ih i (by omega)) (ad (i+d+1) (by omega))
theorem graph_srtD {g:Grf} (h:Fd g=true):Srt g.bars:=by
 refine List.pairwise_iff_getElem.2 fun i j hi hj hij=>?_;have:=graph_le h (j-i-1) i (by omega);rw [show i+(j-i-1)+1=j by omega] at this;simpa [List.getD_eq_getElem?_getD,hi,hj] using this
theorem graph_nodup {g:Grf} (h:Fd g=true) (hd:Ql g.bars=false):g.bars.Nodup:=by
 refine List.pairwise_iff_getElem.2 fun i j hi hj hij he=>?_;have h1:=(List.pairwise_iff_getElem.1 (graph_srtD h))
 have hdj:Md g.bars j=false:=by
  simp only [Ql,List.any_eq_false,List.mem_range] at hd;simpa using hd j hj
 have e1:g.bars.getD (j-1) (0,0)=g.bars[j-1]:=by simp [List.getD_eq_getElem?_getD,show j-1<g.bars.length by omega]
 have e2:g.bars.getD j (0,0)=g.bars[j]:=by simp [List.getD_eq_getElem?_getD,hj]
 have hle:Dz g.bars[j-1] g.bars[j]=true:=h1 (j-1) j (by omega) hj (by omega)
 have hge:Dz g.bars[j] g.bars[j-1]=true:=by
  rw [←he];by_cases hc:i=j-1
  ·subst hc; simp [Dz]
  exact h1 i (j-1) hi (by omega) (by omega)
 have:=le_anti hle hge
 have h0:(decide (0<j)&&(g.bars.getD (j-1) (0,0)==g.bars.getD j (0,0)))=true:=by
  rw [e1,e2,this]; simp; omega
 rw [Md,h0] at hdj;cases hdj
end
section
open Go.RowKit
def Dw (N:Nat) (p_0:Pin):Option (Bool):=
 (Cz N p_0).bind fun v1=>
 some (v1==(0:Int))
theorem Xm (N:Nat) (p_0:Pin) (r:Bool) (h:Dw N p_0=some r):PCall Try.prog 38 [pD p_0] [] (.bool r):=by
 unfold Dw at h;refine Aj (TT:=TT) tt Try.func38 O O Try.ntmps38 (congrArg Array.toList Try.results38) O O fun w0=>(Ai (Ab (Lh O O O O O O O O O (Aa O (Ah (Ai (Ab (Aa O ?_))))))));obtain ⟨v1,hc1,h⟩:=Ag h;refine Ba (Xh N p_0 v1 hc1) O O O O O O O O ⟨⟨O,O,O,Y⟩,Y⟩ (Aa O (Aa O (Ah (Az ?_))));show ∃ _,_;cases h;exact ⟨[],_,O,Y,O,.eq O,O⟩
def Bo (N:Nat) (p_0:Pin):Option (Bool):=
 (Dw N p_0).bind fun v1=>
 cnd v1 (
  (Eh N p_0).bind fun v2=>
  some ((p_0.g.bars.length:Int)==v2)) (
  some false)
theorem Pb (N:Nat) (p_0:Pin) (r:Bool) (h:Bo N p_0=some r):PCall Try.prog 15 [pD p_0] [] (.bool r):=by
 unfold Bo at h;refine Aj (TT:=TT) tt Try.func15 O O Try.ntmps15 (congrArg Array.toList Try.results15) O O fun w0=>(Ai (Ab (Lh O O O O O O O O O (Aa O (Ah (Ai (Bs (by kernel_rfl) (by kernel_rfl) (Ax tt O (Ad O) O O O Y ?_))))))));obtain ⟨v1,hc1,h⟩:=Ag h;refine Hp (Xm N p_0 v1 hc1) O (Ad O) O O O O O O ⟨⟨O,O,O,Y⟩,Y⟩ (Ax tt O (Ad O) O O O Y (Dj O O O (fun hb2=>?_) (fun hb2=>?_)))
 ·replace h:=Ak hb2 h;iterate 5 refine Ax tt O (Av O O O O hb2) O O O Y ?_
  obtain ⟨v2,hc3,h⟩:=Ag h;refine Hp (Th N p_0 v2 hc3) O (Av O O O O hb2) O O O O O O ⟨⟨O,O,O,Y⟩,Y⟩ (Ax tt O (Av O O O O hb2) O O O Y (Ay O (Ad O) O O O hb2 O (Ax tt O (Ad O) O O O Y (Hq (Az ?_)))));show ∃ _,_;cases h;exact ⟨[],_,O,Y,O,.eq O,O⟩
 replace h:=Al hb2 h;iterate 7 refine cNoT O O O O hb2 O O ?_
 refine Ct O (Ad O) O O O hb2 O (Ax tt O (Ad O) O O O Y (Hq (Az ?_)));show ∃ _,_;cases h;exact ⟨[],_,O,Y,O,.eq O,O⟩
def Ja (N:Nat) (p_0:Pin):Option (Bool):=
 (Gj N p_0).bind fun v1=>
 some (v1==(0:Int))
theorem Xn (N:Nat) (p_0:Pin) (r:Bool) (h:Ja N p_0=some r):PCall Try.prog 46 [pD p_0] [] (.bool r):=by
 unfold Ja at h;refine Aj (TT:=TT) tt Try.func46 O O Try.ntmps46 (congrArg Array.toList Try.results46) O O fun w0=>(Ai (Ab (Lh O O O O O O O O O (Aa O (Ah (Ai (Ab (Aa O ?_))))))));obtain ⟨v1,hc1,h⟩:=Ag h;refine Ba (Xe N p_0 v1 hc1) O O O O O O O O ⟨⟨O,O,O,Y⟩,Y⟩ (Aa O (Aa O (Ah (Az ?_))));show ∃ _,_;cases h;exact ⟨[],_,O,Y,O,.eq O,O⟩
def Jh (N:Nat) (p_0:Pin):Option (Bool):=
 (Ja N p_0).bind fun v1=>
 cnd v1 (
  (Jb N p_0).bind fun v2=>
  some (v2==(p_0.g.bars.length:Int))) (
  some false)
theorem Aao (N:Nat) (p_0:Pin) (r:Bool) (h:Jh N p_0=some r):PCall Try.prog 27 [pD p_0] [] (.bool r):=by
 unfold Jh at h;refine Aj (TT:=TT) tt Try.func27 O O Try.ntmps27 (congrArg Array.toList Try.results27) O O fun w0=>(Ai (Ab (Lh O O O O O O O O O (Aa O (Ah (Ai (Bs (by kernel_rfl) (by kernel_rfl) (Ax tt O (Ad O) O O O Y ?_))))))));obtain ⟨v1,hc1,h⟩:=Ag h;refine Hp (Xn N p_0 v1 hc1) O (Ad O) O O O O O O ⟨⟨O,O,O,Y⟩,Y⟩ (Ax tt O (Ad O) O O O Y (Dj O O O (fun hb2=>?_) (fun hb2=>?_)))
 ·replace h:=Ak hb2 h;refine Ax tt O (Av O O O O hb2) O O O Y ?_;obtain ⟨v2,hc3,h⟩:=Ag h;refine Hp (Te N p_0 v2 hc3) O (Av O O O O hb2) O O O O O O ⟨⟨O,O,O,Y⟩,Y⟩ ?_;iterate 5 refine Ax tt O (Av O O O O hb2) O O O Y ?_
  refine Ay O (Ad O) O O O hb2 O (Ax tt O (Ad O) O O O Y (Hq (Az ?_)));show ∃ _,_;cases h;exact ⟨[],_,O,Y,O,.eq O,O⟩
 replace h:=Al hb2 h;iterate 7 refine cNoT O O O O hb2 O O ?_
 refine Ct O (Ad O) O O O hb2 O (Ax tt O (Ad O) O O O Y (Hq (Az ?_)));show ∃ _,_;cases h;exact ⟨[],_,O,Y,O,.eq O,O⟩
end
section
open Go.RowKit
variable {n:Nat} {N:Nat}
theorem Xp {m:Int} {l:List Int} (h:asc m l=true):l.Nodup:=by
 refine List.pairwise_iff_getElem.2 fun i j hi hj hij he=>?_;have:=asc_lt h j i hij hj;simp only [List.getD_eq_getElem?_getD,hi,hj,List.getElem?_eq_getElem,Option.getD_some] at this;omega
theorem pin_inner_len {p:Pin} (hp:Aw p=true):(Af p).length+p.ground.length=p.g.n.toNat:=by
 obtain ⟨p1,p2,p3,p4,p5,p6,p7⟩:=Gc hp;have hb:=Bg hp;have hnd:=Xp p6;unfold Af;rw [hp,cnd_true];unfold inner;generalize hl:((List.range p.g.n.toNat).map fun (i:Nat)=>(i:Int))=l
 have ln:l.Nodup:=by
  rw [←hl];refine List.pairwise_map.2 (List.nodup_range.imp fun {a b} h e=>h (by omega))
 have ll:l.length=p.g.n.toNat:=by rw [←hl]; simp
 have lm:∀ x,x∈l↔0≤x∧x<p.g.n:=fun x=>by
  rw [←hl];simp only [List.mem_map,List.mem_range];constructor
  ·rintro ⟨i,h1,rfl⟩; omega
  intro h; exact ⟨x.toNat,by omega,by omega⟩
 have e1:=List.length_eq_countP_add_countP (fun x=>p.ground.contains x) (l:=l);have a1:(l.filter fun x=>p.ground.contains x).length≤p.ground.length:=Ed (ln.sublist List.filter_sublist) fun e he=>by simpa using (List.mem_filter.1 he).2
 have a2:p.ground.length≤(l.filter fun x=>p.ground.contains x).length:=Ed hnd fun e he=>List.mem_filter.2 ⟨(lm e).2 (asc_in p6 he),by simpa using he⟩;rw [List.countP_eq_length_filter,List.countP_eq_length_filter] at e1
 have e2:(l.filter fun x=>decide ¬(p.ground.contains x=true))=l.filter fun x=>!p.ground.contains x:=by
  congr 1; funext x; cases p.ground.contains x <;> simp
 rw [e2] at e1;omega
structure PF0 (N n:Nat) (p:Pin) (LH LS H I:List (Int×Int)):Prop where
 pn:p.g.n=n
 n8:n≤8
 n2:2≤n
 g2:2≤p.ground.length
 hG:∀ i,i<p.ground.length→0≤p.ground.getD i 0∧p.ground.getD i 0<n
 hlt:∀ j i:Nat,i<j→j<p.ground.length→p.ground.getD i 0<p.ground.getD j 0
 hS:HeldS p.ground LH p.ground.length
 mem:∀ e,e∈LS↔e∈LH∨e∈p.g.bars
 okH:∀ e∈LH,Bok n e
 okB:∀ e∈p.g.bars,Bok n e
 bH:Bas n LH H
 bI:Bas n LS I
 hl:H.length+3=2*p.ground.length
 rk:Eh N p=some ((I.length:Int)-H.length)
 fr:Cz N p=some (2*((Af p).length:Int)-((I.length:Int)-H.length))
 inn:(Af p).length+p.ground.length=n
theorem PF0.okS {p:Pin} {LH LS H I:List (Int×Int)} (h:PF0 N n p LH LS H I):∀ e∈LS,Bok n e:=fun e he=>((h.mem e).1 he).elim (h.okH e) (h.okB e)
theorem PF0.nn {p:Pin} {LH LS H I:List (Int×Int)} (h:PF0 N n p LH LS H I):0≤2*((Af p).length:Int)-((I.length:Int)-H.length):=by
 have h1:=h.inn;have h2:=h.hl;have h3:=h.bI.spr.top h.n2;have g:=h.g2;omega
theorem held_len {n:Nat} {G:List Int} {LH H:List (Int×Int)} (hl:2≤G.length) (hnd:G.Nodup) (hG:∀ i,i<G.length→0≤G.getD i 0∧G.getD i 0<n) (hlt:∀ j i:Nat,i<j→j<G.length→G.getD i 0<G.getD j 0) (hS:HeldS G LH G.length) (ok:∀ e∈LH,Bok n e) (hb:Bas n LH H) (hle:LH.length≤2*(G.length-1)-1):H.length+3=2*G.length:=by
 have okH:∀ e∈H,Bok n e:=fun e he=>ok e (hb.mem e he);have h1:H.length≤LH.length:=Ed (hb.spr.nodup okH) hb.mem;have tie:∀ e∈LH,Tied n H e:=hb.spn
 have:=len_of_tied hb.spr okH (hG 0 (by omega)) (hG 1 (by omega)) (by have:=hlt 1 0 (by omega) (by omega); omega) (tie _ (hS.h0 1 (by omega) (by omega))) hnd fun v hv=>by
  obtain ⟨j,hj,rfl⟩:=List.getElem_of_mem hv;have e:G[j]=G.getD j 0:=by simp [List.getD_eq_getElem?_getD,hj]
  rw [e];refine ⟨hG j hj,?_,?_⟩
  ·by_cases e0:j=0
   ·subst e0; exact .inl rfl
   exact .inr (tie _ (hS.h0 j (by omega) hj))
  by_cases e1:j=1
  ·subst e1; exact .inl rfl
  by_cases e0:j=0
  ·subst e0; exact .inr (Tied.swap (tie _ (hS.h0 1 (by omega) (by omega))))
  exact .inr (tie _ (hS.h1 j (by omega) hj))
 omega
theorem pin_full0 (hN:4000000≤N) {p:Pin} (hp:Aw p=true):∃ (n:Nat) (LH LS H I:List (Int×Int)),PF0 N n p LH LS H I:=by
 obtain ⟨p1,p2,p3,p4,p5,p6,p7⟩:=Gc hp;obtain ⟨hn1,hn2,hbl'⟩:=Qj p1;obtain ⟨n,hn⟩:=Int.eq_ofNat_of_zero_le (show 0≤p.g.n by omega);obtain ⟨LH,LS,a1,a2,a3,a4,a5,a6,a7⟩:=allS_s (N:=N) hN (p:=p) (by omega) (by omega);have hnd:=Xp p6
 have hG:∀ i,i<p.ground.length→0≤p.ground.getD i 0∧p.ground.getD i 0<n:=fun i hi=>by
  have:=asc_in p6 (Ci (d:=0) hi);omega
 have hlt:=asc_lt p6
 have hb:∀ e∈p.g.bars,Bok n e:=fun e he=>by
  have:=Qy p1 he;exact ⟨by omega,by omega,by omega,by omega,by omega⟩
 have pok:∀ i j:Nat,i<j→j<p.ground.length→Bok n (p.ground.getD i 0,p.ground.getD j 0):=fun i j g1 g2=>by
  have a:=hG i (by omega);have b:=hG j g2;have c:=hlt j i g1 g2;exact ⟨a.1,a.2,b.1,b.2,by simp only; omega⟩
 have okLH:∀ e∈LH,Bok n e:=fun e he=>by
  obtain ⟨i,j,g1,g2,rfl⟩:=a3.mem e he; exact pok i j g1 g2
 have okLS:∀ e∈LS,Bok n e:=fun e he=>((a6 e).1 he).elim (okLH e) (hb e)
 have bok:∀ e:Int×Int,e∈LS→Va p.g.n e=true:=fun e he=>by
  have hx:0≤e.1∧e.1<e.2∧e.2<p.g.n:=by
   rcases (a6 e).1 he with h | h
   ·obtain ⟨i,j,g1,g2,rfl⟩:=a3.mem e h;have a:=hG i (by omega);have b:=hG j g2;have c:=hlt j i g1 g2;exact ⟨a.1,c,by simp only; omega⟩
   exact Qy p1 h
  simp [Va,hx.1,hx.2.1,hx.2.2]
 have hgr:Fd ⟨p.g.n,LS⟩=true:=srt_graph (by simp [inB]; omega) (by simp only; omega) a7 bok;obtain ⟨I,c1,c2⟩:=rank_s (N:=N) hN (g:=⟨p.g.n,LS⟩) (n:=n) hn (by omega) okLS (by simp only; omega);obtain ⟨H,d1,d2⟩:=rank_s (N:=N) hN (g:=⟨p.g.n,LH⟩) (n:=n) hn (by omega) okLH (by simp only; omega);have hil:=pin_inner_len hp;rw [hn] at hil;have hil':(Af p).length+p.ground.length=n:=by simpa using hil
 have rk:Eh N p=some ((I.length:Int)-H.length):=by
  have:=Xg c1.spr;have:=Xg d1.spr;unfold Eh;simp (disch:=omega) only [pst,Er N hN (show p.g.bars.length≤3000000 by omega) (show p.ground.length≤3000000 by omega),hp,Bool.not_true,a4,c2,a1,d2]
 refine ⟨n,LH,LS,H,I,hn,by omega,by omega,p3,hG,hlt,a3,a6,okLH,hb,d1,c1,held_len p3 hnd hG hlt a3 okLH d1 a2,rk,?_,hil'⟩;have:=Xg c1.spr;have:=Xg d1.spr;unfold Cz;simp (disch:=omega) only [pst,Er N hN (show p.g.bars.length≤3000000 by omega) (show p.ground.length≤3000000 by omega),hp,Bool.not_true,Sr N hN (show p.g.bars.length≤3000000 by omega) (show p.ground.length≤3000000 by omega),rk]
end
section
variable {N:Nat}
theorem pinnedRigid_x (hN:4000000≤N) {p:Pin} (hb:p.g.bars.length≤3000000) (hg:p.ground.length≤3000000):∃ b:Bool,Dw N p=some b∧Ja N p=some b:=by
 obtain ⟨r,h1,h2⟩:=Aad (N:=N) hN hb hg;exact ⟨r==0,by unfold Dw; rw [h1]; rfl,by unfold Ja; rw [h2]; rfl⟩
theorem Zu (hN:4000000≤N) {p:Pin} (hb:p.g.bars.length≤3000000) (hg:p.ground.length≤3000000):∃ b:Bool,Bo N p=some b∧Jh N p=some b:=by
 obtain ⟨b,h1,h2⟩:=pinnedRigid_x (N:=N) hN hb hg;obtain ⟨r,g1,g2,_⟩:=Xr (N:=N) hN hb hg
 cases b with
 | false=>exact ⟨false,by unfold Bo; rw [h1]; rfl,by unfold Jh; rw [h2]; rfl⟩
 | true=>
  refine ⟨r==(p.g.bars.length:Int),?_,?_⟩
  ·unfold Bo;rw [h1,Option.bind_some,cnd_true,g1,Option.bind_some];congr 1;by_cases e:r=(p.g.bars.length:Int)
   ·rw [e]
   have e':¬ (p.g.bars.length:Int)=r:=fun h=>e h.symm;rw [beq_false_of_ne e,beq_false_of_ne e']
  unfold Jh;rw [h2,Option.bind_some,cnd_true,g2,Option.bind_some]
end
end Go.Proofs.Ytaipbhnpandbkaa
