/- Texts that the proof needs, put together: G30 G35 Pp Pd Pq Pr Pe G17 Pf Pw. -/
import Derived.Test.YtcljhpldfanhkaaBJf3
import Derived.Test.YtcljhpldfanhkaaBJf4
set_option maxRecDepth 20000
set_option maxHeartbeats 1600000
set_option linter.unusedVariables false
set_option linter.unusedSimpArgs false
namespace Go.Proofs.Ytcljhpldfanhkaa
section
open Go.RowKit
def Ci (N:Nat) (g_0:Grf) (x_1:Int×Int) (k:((List (Int×Int))×Bool)→Option (Grf)):Nat→((List (Int×Int))×Bool×Int)→Option (Grf)
 | 0,_=>none
 | n+1,(l17,placed18,i19)=>
  cnd (decide (i19<(g_0.bars.length:Int))) (
   cnd (!placed18) (
    grd (0≤i19∧i19<(g_0.bars.length:Int)) <|
    (Qc N (g_0.bars.getD ((i19).toNat) (0,0)) x_1).bind fun v21=>
    cnd (!v21) (
     grd (l17.length+1≤4294967296) <|
     grd ((l17++([(x_1.1,x_1.2)]:List (Int×Int))).length+1≤4294967296) <|
     grd (Bf (i19+(1:Int))) <|
     Ci N g_0 x_1 k n (((l17++([(x_1.1,x_1.2)]:List (Int×Int)))++([((g_0.bars.getD ((i19).toNat) (0,0)).1,(g_0.bars.getD ((i19).toNat) (0,0)).2)]:List (Int×Int))),true,(i19+(1:Int)))) (
     grd (l17.length+1≤4294967296) <|
     grd (Bf (i19+(1:Int))) <|
     Ci N g_0 x_1 k n ((l17++([((g_0.bars.getD ((i19).toNat) (0,0)).1,(g_0.bars.getD ((i19).toNat) (0,0)).2)]:List (Int×Int))),placed18,(i19+(1:Int))))) (
    grd (0≤i19∧i19<(g_0.bars.length:Int)) <|
    grd (l17.length+1≤4294967296) <|
    grd (Bf (i19+(1:Int))) <|
    Ci N g_0 x_1 k n ((l17++([((g_0.bars.getD ((i19).toNat) (0,0)).1,(g_0.bars.getD ((i19).toNat) (0,0)).2)]:List (Int×Int))),placed18,(i19+(1:Int))))) (
   k (l17,placed18))
def Cq (N:Nat) (g_0:Grf) (x_1:Int×Int):Option (Grf):=
 Ci N g_0 x_1 (fun (x:(List (Int×Int))×Bool)=>
   match x with
   | (l10,placed11)=>
    cnd (!placed11) (
     grd (l10.length+1≤4294967296) <|
     some (⟨g_0.n,(l10++([(x_1.1,x_1.2)]:List (Int×Int)))⟩:Grf)) (
     some (⟨g_0.n,l10⟩:Grf))) N (([]:List (Int×Int)),false,(0:Int))
theorem Dw (N:Nat) (g_0:Grf) (x_1:Int×Int) (r:Grf) (h:Cq N g_0 x_1=some r):PCall Try.prog 177 [gD g_0,.agg [.int x_1.1,.int x_1.2]] [(111,.pairs r.bars)] (.agg [.int r.n,.row 0 0 r.bars.length]):=by
 unfold Cq at h
 refine Ah (TT:=TT) tt Try.func177 rfl rfl Try.ntmps177 (congrArg Array.toList Try.results177) rfl rfl fun w0=>?_
 refine Ag ?_
 refine Aa ?_
 iterate 2 refine Km rfl rfl rfl rfl rfl rfl rfl rfl rfl ?_
 refine Bj tt rfl rfl rfl rfl rfl rfl rfl rfl rfl ?_
 refine Ae ?_
 show VC ..
 refine Ag ?_
 refine Aa ?_
 iterate 2 refine oV5 tt rfl Tvv ?_
 refine Fa tt (Ad rfl) rfl rfl rfl rfl ?_
 refine Du (Ad rfl) (Dp Gb rfl rfl) rfl rfl ?_
 refine Bj tt rfl rfl rfl rfl rfl rfl rfl rfl rfl ?_
 refine Ao tt rfl rfl rfl rfl rfl rfl rfl rfl rfl rfl rfl ⟨Tvv,Tvv,Tvv⟩ ?_
 refine Ae ?_
 show VC ..
 refine Ag ?_
 refine Aa ?_
 refine oV5 tt rfl Tvv ?_
 refine Ae ?_
 show VC ..
 iterate 2 refine Ag ?_
 refine Aa ?_
 refine oV5 tt rfl Tvv ?_
 refine Ae ?_
 show VC ..
 refine Ck (F:=fun k=>Ci N g_0 x_1 k) h (α:=(List (Int×Int))×Bool) (J:=fun | (l10,placed11)=>(⟨[(3,.ptr 3 0),(4,.ptr 4 0),(5,.ptr 5 0),(6,.bool placed11)],[(35,some (111,.pairs l10))],[(3,some [.int x_1.1,.int x_1.2]),(4,some [.int (0:Int),.nil]),(5,some [.int g_0.n,.row 35 0 l10.length])]⟩:PS)) ?_ ?_
 ·rintro ⟨l10,placed11⟩ h
  show VC _ _ _ (⟨[(3,.ptr 3 0),(4,.ptr 4 0),(5,.ptr 5 0),(6,.bool placed11)],[(35,some (111,.pairs l10))],[(3,some [.int x_1.1,.int x_1.2]),(4,some [.int (0:Int),.nil]),(5,some [.int g_0.n,.row 35 0 l10.length])]⟩:PS)
  iterate 2 refine Ag ?_
  refine Aa ?_
  iterate 2 refine oV5 tt rfl Tvv ?_
  refine Ae ?_
  show VC ..
  refine Au rfl (fun hb1=>?_) (fun hb1=>?_)
  ·replace h:=Ai hb1 h
   refine Aa ?_
   iterate 3 refine oV5 tt rfl Tvv ?_
   refine Cv tt rfl rfl rfl rfl rfl rfl rfl rfl rfl rfl rfl ?_
   obtain ⟨hg2,h⟩:=Ab h
   refine Bp tt rfl rfl rfl rfl rfl rfl rfl rfl rfl rfl rfl rfl rfl rfl rfl rfl (Nat.le_of_eq (Nat.zero_add _)) hg2 ?_
   refine oV5 tt rfl Tvv ?_
   refine Ao tt rfl rfl rfl rfl rfl rfl rfl rfl rfl rfl rfl ⟨Tvv,Tvv⟩ ?_
   refine Ae ?_
   show VC ..
   refine Ag ?_
   refine Aa ?_
   refine oV5 tt rfl Tvv ?_
   refine Ao tt rfl rfl rfl rfl rfl rfl rfl rfl rfl rfl rfl ⟨Tvv,Tvv,Tvv⟩ ?_
   refine Ae ?_
   show VC ..
   refine Bb ?_
   show ∃ _,_
   cases h
   exact ⟨[35],_,rfl,⟨rfl,Tvv⟩,rfl,(.eq rfl),rfl⟩
  replace h:=Aj hb1 h
  refine Ar ?_
  show VC ..
  refine Ag ?_
  refine Aa ?_
  refine oV5 tt rfl Tvv ?_
  refine Ao tt rfl rfl rfl rfl rfl rfl rfl rfl rfl rfl rfl ⟨Tvv,Tvv,Tvv⟩ ?_
  refine Ae ?_
  show VC ..
  refine Bb ?_
  show ∃ _,_
  cases h
  exact ⟨[35],_,rfl,⟨rfl,Tvv⟩,rfl,(.eq rfl),rfl⟩
 intro k h
 refine Aq ?_
 refine Xh 5 1 35 111 (.pairs []) rfl rfl rfl rfl rfl ?_
 refine Bh (α:=(List (Int×Int))×Bool×Int) (fun | (l17,placed18,i19)=>(⟨[(2,.ptr 2 0),(3,.ptr 3 0),(4,.ptr 4 0),(5,.ptr 5 0),(6,.bool placed18),(7,.int i19)],[(35,some (111,.pairs l17))],[(2,some [.int g_0.n,.ro false (.pairs g_0.bars)]),(3,some [.int x_1.1,.int x_1.2]),(4,some [.int (0:Int),.nil]),(5,some [.int g_0.n,.row 35 0 l17.length])]⟩:PS)) (Ci N g_0 x_1 k) h (En.of ⟨rfl,rfl,rfl,rfl,rfl,rfl,Tvv⟩ ⟨rfl,Tvv⟩ ⟨rfl,rfl,rfl,rfl,Tvv⟩) (fun _=>rfl) ?_
 rintro n ⟨l17,placed18,i19⟩ h
 rw [Ci] at h
 show VC _ _ _ (⟨[(2,.ptr 2 0),(3,.ptr 3 0),(4,.ptr 4 0),(5,.ptr 5 0),(6,.bool placed18),(7,.int i19)],[(35,some (111,.pairs l17))],[(2,some [.int g_0.n,.ro false (.pairs g_0.bars)]),(3,some [.int x_1.1,.int x_1.2]),(4,some [.int (0:Int),.nil]),(5,some [.int g_0.n,.row 35 0 l17.length])]⟩:PS)
 iterate 2 refine Ag ?_
 refine Aa ?_
 iterate 5 refine oV5 tt rfl Tvv ?_
 refine Ae ?_
 show VC ..
 refine Au rfl (fun hb3=>?_) (fun hb3=>?_)
 ·replace h:=Ai hb3 h
  refine Ar ?_
  show VC ..
  refine Ag ?_
  refine Aq ?_
  iterate 2 refine Ag ?_
  refine Cg (by kernel_rfl) (by kernel_rfl) ?_
  iterate 3 refine Bi tt rfl (Ad rfl) rfl rfl rfl Tvv ?_
  refine Gd rfl rfl rfl (fun hb4=>?_) (fun hb4=>?_)
  ·replace h:=Ai hb4 h
   iterate 3 refine Bi tt rfl (Ax rfl rfl rfl rfl hb4) rfl rfl rfl Tvv ?_
   obtain ⟨hg5,h⟩:=Ab h
   refine Bi tt rfl (Ax rfl rfl rfl rfl hb4) rfl rfl rfl hg5 ?_
   iterate 2 refine Bi tt rfl (Ax rfl rfl rfl rfl hb4) rfl rfl rfl Tvv ?_
   obtain ⟨v21,hc6,h⟩:=Ac h
   refine Pr (Yp N (g_0.bars.getD ((i19).toNat) (0,0)) x_1 v21 hc6) rfl (Ax rfl rfl rfl rfl hb4) rfl rfl rfl rfl rfl rfl ⟨⟨rfl,rfl,Tvv⟩,⟨rfl,rfl,Tvv⟩,Tvv⟩ ?_
   refine Bi tt rfl (Ax rfl rfl rfl rfl hb4) rfl rfl rfl Tvv ?_
   refine Cs rfl (Ad rfl) rfl rfl rfl hb4 rfl ?_
   refine La ?_
   show VC ..
   refine Au rfl (fun hb7=>?_) (fun hb7=>?_)
   ·replace h:=Ai hb7 h
    refine Ag ?_
    refine Aa ?_
    iterate 3 refine oV5 tt rfl Tvv ?_
    refine Cv tt rfl rfl rfl rfl rfl rfl rfl rfl rfl rfl rfl ?_
    obtain ⟨hg8,h⟩:=Ab h
    refine Bp tt rfl rfl rfl rfl rfl rfl rfl rfl rfl rfl rfl rfl rfl rfl rfl rfl (Nat.le_of_eq (Nat.zero_add _)) hg8 ?_
    refine oV5 tt rfl Tvv ?_
    refine Ao tt rfl rfl rfl rfl rfl rfl rfl rfl rfl rfl rfl ⟨Tvv,Tvv⟩ ?_
    refine Ae ?_
    show VC ..
    refine Aa ?_
    refine oV5 tt rfl Tvv ?_
    refine Ae ?_
    show VC ..
    refine Bl 8 [7] [0,1,0,4,0,28,60,124,255,511,1023] (by kernel_rfl) (by kernel_rfl) (by kernel_rfl) (by kernel_rfl) (by kernel_rfl) rfl (by rfl) ?_
    iterate 5 refine Bo tt rfl (Ad rfl) rfl rfl rfl rfl rfl Tvv ?_
    refine Bo tt rfl (Ad rfl) rfl rfl rfl rfl rfl hg5 ?_
    refine Bo tt rfl (Ad rfl) rfl rfl rfl rfl rfl Tvv ?_
    refine Zu tt (Ad rfl) rfl rfl rfl rfl rfl rfl rfl rfl rfl rfl rfl rfl ?_
    refine Lt ?_
    show VO _ _ _ _ _
    obtain ⟨hg9,h⟩:=Ab h
    refine Bp tt rfl rfl rfl rfl rfl rfl rfl rfl rfl rfl rfl rfl rfl rfl rfl rfl (Nat.le_of_eq (Nat.zero_add _)) hg9 ?_
    refine oV5 tt rfl Tvv ?_
    refine Ao tt rfl rfl rfl rfl rfl rfl rfl rfl rfl rfl rfl ⟨Tvv,Tvv⟩ ?_
    refine Ae ?_
    show VC ..
    refine Aa ?_
    refine oV5 tt rfl Tvv ?_
    obtain ⟨hg10,h⟩:=Ab h
    refine oV5 tt rfl hg10 ?_
    refine oV5 tt rfl Tvv ?_
    refine Ae ?_
    show ∃ _,_
    exact ⟨(((l17++([(x_1.1,x_1.2)]:List (Int×Int)))++([((g_0.bars.getD ((i19).toNat) (0,0)).1,(g_0.bars.getD ((i19).toNat) (0,0)).2)]:List (Int×Int))),true,(i19+(1:Int))),(En.of ⟨rfl,rfl,rfl,rfl,rfl,rfl,Tvv⟩ ⟨rfl,Tvv⟩ ⟨rfl,rfl,rfl,rfl,Tvv⟩),h⟩
   replace h:=Aj hb7 h
   refine Ar ?_
   show VC ..
   refine Bl 8 [7] [0,1,0,4,0,28,60,124,255,511,1023] (by kernel_rfl) (by kernel_rfl) (by kernel_rfl) (by kernel_rfl) (by kernel_rfl) rfl (by rfl) ?_
   iterate 5 refine Bo tt rfl (Ad rfl) rfl rfl rfl rfl rfl Tvv ?_
   refine Bo tt rfl (Ad rfl) rfl rfl rfl rfl rfl hg5 ?_
   refine Bo tt rfl (Ad rfl) rfl rfl rfl rfl rfl Tvv ?_
   refine Zu tt (Ad rfl) rfl rfl rfl rfl rfl rfl rfl rfl rfl rfl rfl rfl ?_
   refine Lt ?_
   show VO _ _ _ _ _
   obtain ⟨hg11,h⟩:=Ab h
   refine Bp tt rfl rfl rfl rfl rfl rfl rfl rfl rfl rfl rfl rfl rfl rfl rfl rfl (Nat.le_of_eq (Nat.zero_add _)) hg11 ?_
   refine oV5 tt rfl Tvv ?_
   refine Ao tt rfl rfl rfl rfl rfl rfl rfl rfl rfl rfl rfl ⟨Tvv,Tvv⟩ ?_
   refine Ae ?_
   show VC ..
   refine Aa ?_
   refine oV5 tt rfl Tvv ?_
   obtain ⟨hg12,h⟩:=Ab h
   refine oV5 tt rfl hg12 ?_
   refine oV5 tt rfl Tvv ?_
   refine Ae ?_
   show ∃ _,_
   exact ⟨((l17++([((g_0.bars.getD ((i19).toNat) (0,0)).1,(g_0.bars.getD ((i19).toNat) (0,0)).2)]:List (Int×Int))),placed18,(i19+(1:Int))),(En.of ⟨rfl,rfl,rfl,rfl,rfl,rfl,Tvv⟩ ⟨rfl,Tvv⟩ ⟨rfl,rfl,rfl,rfl,Tvv⟩),h⟩
  replace h:=Aj hb4 h
  iterate 8 refine cNoT rfl rfl rfl rfl hb4 rfl rfl ?_
  refine Do rfl (Ad rfl) rfl rfl rfl hb4 rfl ?_
  refine La ?_
  show VC ..
  refine Cz rfl rfl ?_
  refine Ar ?_
  show VC ..
  refine Bl 8 [7] [0,1,0,4,0,28,60,124,255,511,1023] (by kernel_rfl) (by kernel_rfl) (by kernel_rfl) (by kernel_rfl) (by kernel_rfl) rfl (by rfl) ?_
  iterate 5 refine Bo tt rfl (Ad rfl) rfl rfl rfl rfl rfl Tvv ?_
  obtain ⟨hg13,h⟩:=Ab h
  refine Bo tt rfl (Ad rfl) rfl rfl rfl rfl rfl hg13 ?_
  refine Bo tt rfl (Ad rfl) rfl rfl rfl rfl rfl Tvv ?_
  refine Zu tt (Ad rfl) rfl rfl rfl rfl rfl rfl rfl rfl rfl rfl rfl rfl ?_
  refine Lt ?_
  show VO _ _ _ _ _
  obtain ⟨hg14,h⟩:=Ab h
  refine Bp tt rfl rfl rfl rfl rfl rfl rfl rfl rfl rfl rfl rfl rfl rfl rfl rfl (Nat.le_of_eq (Nat.zero_add _)) hg14 ?_
  refine oV5 tt rfl Tvv ?_
  refine Ao tt rfl rfl rfl rfl rfl rfl rfl rfl rfl rfl rfl ⟨Tvv,Tvv⟩ ?_
  refine Ae ?_
  show VC ..
  refine Aa ?_
  refine oV5 tt rfl Tvv ?_
  obtain ⟨hg15,h⟩:=Ab h
  refine oV5 tt rfl hg15 ?_
  refine oV5 tt rfl Tvv ?_
  refine Ae ?_
  show ∃ _,_
  exact ⟨((l17++([((g_0.bars.getD ((i19).toNat) (0,0)).1,(g_0.bars.getD ((i19).toNat) (0,0)).2)]:List (Int×Int))),placed18,(i19+(1:Int))),(En.of ⟨rfl,rfl,rfl,rfl,rfl,rfl,Tvv⟩ ⟨rfl,Tvv⟩ ⟨rfl,rfl,rfl,rfl,Tvv⟩),h⟩
 replace h:=Aj hb3 h
 refine Bq ?_
 show ∃ _,_
 exact ⟨(l17,placed18),(En.of ⟨rfl,rfl,rfl,rfl,Tvv⟩ ⟨rfl,Tvv⟩ ⟨rfl,rfl,rfl,Tvv⟩),h⟩
def Gn (N:Nat) (p_0:Pin) (k:((List (Int×Int))×Int)→Option (Grf)):Nat→((List (Int×Int))×Int×Int)→Option (Grf)
 | 0,_=>none
 | n+1,(l23,i24,c25)=>
  cnd (decide (i24<(p_0.ground.length:Int))) (
   grd (0≤(0:Int)∧(0:Int)<(p_0.ground.length:Int)) <|
   grd (0≤i24∧i24<(p_0.ground.length:Int)) <|
   (Cq N (⟨c25,l23⟩:Grf) ((p_0.ground.getD ((0:Int).toNat) 0),(p_0.ground.getD ((i24).toNat) 0))).bind fun v28=>
   cnd (decide (i24 > (1:Int))) (
    grd (0≤(1:Int)∧(1:Int)<(p_0.ground.length:Int)) <|
    (Cq N v28 ((p_0.ground.getD ((1:Int).toNat) 0),(p_0.ground.getD ((i24).toNat) 0))).bind fun v29=>
    grd (Bf (i24+(1:Int))) <|
    Gn N p_0 k n (v29.bars,(i24+(1:Int)),v29.n)) (
    grd (Bf (i24+(1:Int))) <|
    Gn N p_0 k n (v28.bars,(i24+(1:Int)),v28.n))) (
   k (l23,c25))
def Mu (N:Nat) (p_0:Pin):Option (Grf):=
 Gn N p_0 (fun (x:(List (Int×Int))×Int)=>
   match x with
   | (l14,c15)=>
    some (⟨c15,l14⟩:Grf)) N (([]:List (Int×Int)),(1:Int),p_0.g.n)
theorem Zx (N:Nat) (p_0:Pin) (r:Grf) (h:Mu N p_0=some r):PCall Try.prog 146 [pD p_0] [(111,.pairs r.bars)] (.agg [.int r.n,.row 0 0 r.bars.length]):=by
 unfold Mu at h
 refine Ah (TT:=TT) tt Try.func146 rfl rfl Try.ntmps146 (congrArg Array.toList Try.results146) rfl rfl fun w0=>?_
 refine Ag ?_
 refine Aa ?_
 refine Km rfl rfl rfl rfl rfl rfl rfl rfl rfl ?_
 refine Bj tt rfl rfl rfl rfl rfl rfl rfl rfl rfl ?_
 refine Ae ?_
 show VC ..
 refine Ag ?_
 refine Aa ?_
 iterate 3 refine oV5 tt rfl Tvv ?_
 refine Fa tt (Ad rfl) rfl rfl rfl rfl ?_
 refine Du (Ad rfl) (Dp Gb rfl rfl) rfl rfl ?_
 refine Bj tt rfl rfl rfl rfl rfl rfl rfl rfl rfl ?_
 refine Ao tt rfl rfl rfl rfl rfl rfl rfl rfl rfl rfl rfl ⟨Tvv,Tvv,Tvv⟩ ?_
 refine Ae ?_
 show VC ..
 iterate 2 refine Ag ?_
 refine Aa ?_
 refine oV5 tt rfl Tvv ?_
 refine Ae ?_
 show VC ..
 refine Ck (F:=fun k=>Gn N p_0 k) h (α:=(List (Int×Int))×Int) (J:=fun | (l14,c15)=>(⟨[(2,.ptr 2 0),(3,.ptr 3 0)],[(9503,some (111,.pairs l14))],[(2,some [.int (0:Int),.nil]),(3,some [.int c15,.row 9503 0 l14.length])]⟩:PS)) ?_ ?_
 ·rintro ⟨l14,c15⟩ h
  show VC _ _ _ (⟨[(2,.ptr 2 0),(3,.ptr 3 0)],[(9503,some (111,.pairs l14))],[(2,some [.int (0:Int),.nil]),(3,some [.int c15,.row 9503 0 l14.length])]⟩:PS)
  refine Ag ?_
  refine Aa ?_
  refine oV5 tt rfl Tvv ?_
  refine Ao tt rfl rfl rfl rfl rfl rfl rfl rfl rfl rfl rfl ⟨Tvv,Tvv,Tvv⟩ ?_
  refine Ae ?_
  show VC ..
  refine Bb ?_
  show ∃ _,_
  cases h
  exact ⟨[9503],_,rfl,⟨rfl,Tvv⟩,rfl,(.eq rfl),rfl⟩
 intro k h
 refine Aq ?_
 refine Xh 3 1 9504 111 (.pairs []) rfl rfl rfl rfl rfl ?_
 refine Bh (α:=(List (Int×Int))×Int×Int) (fun | (l23,i24,c25)=>(⟨[(1,.ptr 1 0),(2,.ptr 2 0),(3,.ptr 3 0),(4,.int i24)],[(9504,some (111,.pairs l23))],[(1,some [.int p_0.g.n,.ro false (.pairs p_0.g.bars),.ro false (.ints p_0.ground)]),(2,some [.int (0:Int),.nil]),(3,some [.int c25,.row 9504 0 l23.length])]⟩:PS)) (Gn N p_0 k) h (En.of ⟨rfl,rfl,rfl,rfl,Tvv⟩ ⟨rfl,Tvv⟩ ⟨rfl,rfl,rfl,Tvv⟩) (fun _=>rfl) ?_
 rintro n ⟨l23,i24,c25⟩ h
 rw [Gn] at h
 show VC _ _ _ (⟨[(1,.ptr 1 0),(2,.ptr 2 0),(3,.ptr 3 0),(4,.int i24)],[(9504,some (111,.pairs l23))],[(1,some [.int p_0.g.n,.ro false (.pairs p_0.g.bars),.ro false (.ints p_0.ground)]),(2,some [.int (0:Int),.nil]),(3,some [.int c25,.row 9504 0 l23.length])]⟩:PS)
 iterate 2 refine Ag ?_
 refine Aa ?_
 iterate 5 refine oV5 tt rfl Tvv ?_
 refine Ae ?_
 show VC ..
 refine Au rfl (fun hb1=>?_) (fun hb1=>?_)
 ·replace h:=Ai hb1 h
  refine Ar ?_
  show VC ..
  refine Ag ?_
  refine Aq ?_
  refine Ag ?_
  refine Bl 11 [] [0,0,2,6,14,0,32,0,224,480,1022,2047,4095] (by kernel_rfl) (by kernel_rfl) (by kernel_rfl) (by kernel_rfl) (by kernel_rfl) rfl (by rfl) ?_
  iterate 3 refine Bo tt rfl (Ad rfl) rfl rfl rfl rfl rfl Tvv ?_
  obtain ⟨hg2,h⟩:=Ab h
  refine Bo tt rfl (Ad rfl) rfl rfl rfl rfl rfl hg2 ?_
  iterate 4 refine Bo tt rfl (Ad rfl) rfl rfl rfl rfl rfl Tvv ?_
  obtain ⟨hg3,h⟩:=Ab h
  refine Bo tt rfl (Ad rfl) rfl rfl rfl rfl rfl hg3 ?_
  refine Bo tt rfl (Ad rfl) rfl rfl rfl rfl rfl Tvv ?_
  refine Sz (Ad rfl) (Dp Bv rfl rfl) rfl rfl rfl rfl ?_
  refine Lt ?_
  show VO _ _ _ _ _
  obtain ⟨v28,hc4,h⟩:=Ac h
  refine Ba (Dw N (⟨c25,l23⟩:Grf) ((p_0.ground.getD ((0:Int).toNat) 0),(p_0.ground.getD ((i24).toNat) 0)) v28 hc4) rfl rfl rfl rfl rfl rfl rfl rfl ⟨⟨rfl,(.inl ⟨rfl,rfl⟩),Tvv⟩,⟨rfl,rfl,Tvv⟩,Tvv⟩ ?_
  refine Ao tt rfl rfl rfl rfl rfl rfl rfl rfl rfl rfl rfl ⟨Tvv,Tvv,Tvv⟩ ?_
  refine Ae ?_
  show VC ..
  refine Ag ?_
  refine Aa ?_
  iterate 2 refine oV5 tt rfl Tvv ?_
  refine Ae ?_
  show VC ..
  refine Au rfl (fun hb5=>?_) (fun hb5=>?_)
  ·replace h:=Ai hb5 h
   refine Bl 11 [] [0,0,2,6,14,0,32,0,224,480,1022,2047,4095] (by kernel_rfl) (by kernel_rfl) (by kernel_rfl) (by kernel_rfl) (by kernel_rfl) rfl (by rfl) ?_
   iterate 3 refine Bo tt rfl (Ad rfl) rfl rfl rfl rfl rfl Tvv ?_
   obtain ⟨hg6,h⟩:=Ab h
   refine Bo tt rfl (Ad rfl) rfl rfl rfl rfl rfl hg6 ?_
   iterate 4 refine Bo tt rfl (Ad rfl) rfl rfl rfl rfl rfl Tvv ?_
   refine Bo tt rfl (Ad rfl) rfl rfl rfl rfl rfl hg3 ?_
   refine Bo tt rfl (Ad rfl) rfl rfl rfl rfl rfl Tvv ?_
   refine Sz (Ad rfl) (Dp Bv rfl rfl) rfl rfl rfl rfl ?_
   refine Lt ?_
   show VO _ _ _ _ _
   obtain ⟨v29,hc7,h⟩:=Ac h
   refine Ba (Dw N v28 ((p_0.ground.getD ((1:Int).toNat) 0),(p_0.ground.getD ((i24).toNat) 0)) v29 hc7) rfl rfl rfl rfl rfl rfl rfl rfl ⟨⟨rfl,(.inl ⟨rfl,rfl⟩),Tvv⟩,⟨rfl,rfl,Tvv⟩,Tvv⟩ ?_
   refine Ao tt rfl rfl rfl rfl rfl rfl rfl rfl rfl rfl rfl ⟨Tvv,Tvv,Tvv⟩ ?_
   refine Ae ?_
   show VC ..
   refine Aa ?_
   refine oV5 tt rfl Tvv ?_
   obtain ⟨hg8,h⟩:=Ab h
   refine oV5 tt rfl hg8 ?_
   refine oV5 tt rfl Tvv ?_
   refine Ae ?_
   show ∃ _,_
   exact ⟨(v29.bars,(i24+(1:Int)),v29.n),(En.ren [9504] [1420] rfl ⟨.inr rfl,.inr rfl,.inr rfl,.inr rfl,Tvv⟩ ⟨.inr rfl,Tvv⟩ ⟨.inr ⟨_,_,rfl,rfl,⟨.inr rfl,.inr rfl,.inr rfl,Tvv⟩⟩,.inr ⟨_,_,rfl,rfl,⟨.inr rfl,.inr rfl,Tvv⟩⟩,.inr ⟨_,_,rfl,rfl,⟨.inr rfl,.inr rfl,Tvv⟩⟩,Tvv⟩),h⟩
  replace h:=Aj hb5 h
  refine Ar ?_
  show VC ..
  refine Aa ?_
  refine oV5 tt rfl Tvv ?_
  obtain ⟨hg9,h⟩:=Ab h
  refine oV5 tt rfl hg9 ?_
  refine oV5 tt rfl Tvv ?_
  refine Ae ?_
  show ∃ _,_
  exact ⟨(v28.bars,(i24+(1:Int)),v28.n),(En.ren [9504] [1280] rfl ⟨.inr rfl,.inr rfl,.inr rfl,.inr rfl,Tvv⟩ ⟨.inr rfl,Tvv⟩ ⟨.inr ⟨_,_,rfl,rfl,⟨.inr rfl,.inr rfl,.inr rfl,Tvv⟩⟩,.inr ⟨_,_,rfl,rfl,⟨.inr rfl,.inr rfl,Tvv⟩⟩,.inr ⟨_,_,rfl,rfl,⟨.inr rfl,.inr rfl,Tvv⟩⟩,Tvv⟩),h⟩
 replace h:=Aj hb1 h
 refine Bq ?_
 show ∃ _,_
 exact ⟨(l23,c25),(En.ren [9503] [9504] rfl ⟨.inr rfl,.inr rfl,Tvv⟩ ⟨.inr rfl,Tvv⟩ ⟨.inr ⟨_,_,rfl,rfl,⟨.inr rfl,.inr rfl,Tvv⟩⟩,.inr ⟨_,_,rfl,rfl,⟨.inr rfl,.inr rfl,Tvv⟩⟩,Tvv⟩),h⟩
def Jr (N:Nat) (p_0:Pin) (k:((List (Int×Int))×Int)→Option (Grf)):Nat→((List (Int×Int))×Int×Int)→Option (Grf)
 | 0,_=>none
 | n+1,(l12,i13,c14)=>
  cnd (decide (i13<(p_0.g.bars.length:Int))) (
   grd (0≤i13∧i13<(p_0.g.bars.length:Int)) <|
   (Cq N (⟨c14,l12⟩:Grf) (p_0.g.bars.getD ((i13).toNat) (0,0))).bind fun v16=>
   grd (Bf (i13+(1:Int))) <|
   Jr N p_0 k n (v16.bars,(i13+(1:Int)),v16.n)) (
   k (l12,c14))
def Pm (N:Nat) (p_0:Pin):Option (Grf):=
 (Mu N p_0).bind fun v1=>
 Jr N p_0 (fun (x:(List (Int×Int))×Int)=>
   match x with
   | (l8,c9)=>
    some (⟨c9,l8⟩:Grf)) N (v1.bars,(0:Int),v1.n)
theorem Aau (N:Nat) (p_0:Pin) (r:Grf) (h:Pm N p_0=some r):PCall Try.prog 120 [pD p_0] [(111,.pairs r.bars)] (.agg [.int r.n,.row 0 0 r.bars.length]):=by
 unfold Pm at h
 refine Ah (TT:=TT) tt Try.func120 rfl rfl Try.ntmps120 (congrArg Array.toList Try.results120) rfl rfl fun w0=>?_
 refine Ag ?_
 refine Aa ?_
 refine Km rfl rfl rfl rfl rfl rfl rfl rfl rfl ?_
 refine Bj tt rfl rfl rfl rfl rfl rfl rfl rfl rfl ?_
 refine Ae ?_
 show VC ..
 refine Ag ?_
 refine Aa ?_
 refine oV5 tt rfl Tvv ?_
 obtain ⟨v1,hc1,h⟩:=Ac h
 refine Ba (Zx N p_0 v1 hc1) rfl rfl rfl rfl rfl rfl rfl rfl ⟨⟨rfl,rfl,rfl,Tvv⟩,Tvv⟩ ?_
 refine Bj tt rfl rfl rfl rfl rfl rfl rfl rfl rfl ?_
 refine Ao tt rfl rfl rfl rfl rfl rfl rfl rfl rfl rfl rfl ⟨Tvv,Tvv,Tvv⟩ ?_
 refine Ae ?_
 show VC ..
 iterate 2 refine Ag ?_
 refine Aa ?_
 refine oV5 tt rfl Tvv ?_
 refine Ae ?_
 show VC ..
 refine Ck (F:=fun k=>Jr N p_0 k) h (α:=(List (Int×Int))×Int) (J:=fun | (l8,c9)=>(⟨[(2,.ptr 2 0),(3,.ptr 3 0)],[(1060,some (111,.pairs l8))],[(2,some [.int (0:Int),.nil]),(3,some [.int c9,.row 1060 0 l8.length])]⟩:PS)) ?_ ?_
 ·rintro ⟨l8,c9⟩ h
  show VC _ _ _ (⟨[(2,.ptr 2 0),(3,.ptr 3 0)],[(1060,some (111,.pairs l8))],[(2,some [.int (0:Int),.nil]),(3,some [.int c9,.row 1060 0 l8.length])]⟩:PS)
  refine Ag ?_
  refine Aa ?_
  refine oV5 tt rfl Tvv ?_
  refine Ao tt rfl rfl rfl rfl rfl rfl rfl rfl rfl rfl rfl ⟨Tvv,Tvv,Tvv⟩ ?_
  refine Ae ?_
  show VC ..
  refine Bb ?_
  show ∃ _,_
  cases h
  exact ⟨[1060],_,rfl,⟨rfl,Tvv⟩,rfl,(.eq rfl),rfl⟩
 intro k h
 refine Aq ?_
 refine Bh (α:=(List (Int×Int))×Int×Int) (fun | (l12,i13,c14)=>(⟨[(1,.ptr 1 0),(2,.ptr 2 0),(3,.ptr 3 0),(4,.int i13)],[(1060,some (111,.pairs l12))],[(1,some [.int p_0.g.n,.ro false (.pairs p_0.g.bars),.ro false (.ints p_0.ground)]),(2,some [.int (0:Int),.nil]),(3,some [.int c14,.row 1060 0 l12.length])]⟩:PS)) (Jr N p_0 k) h (En.of ⟨rfl,rfl,rfl,rfl,Tvv⟩ ⟨rfl,Tvv⟩ ⟨rfl,rfl,rfl,Tvv⟩) (fun _=>rfl) ?_
 rintro n ⟨l12,i13,c14⟩ h
 rw [Jr] at h
 show VC _ _ _ (⟨[(1,.ptr 1 0),(2,.ptr 2 0),(3,.ptr 3 0),(4,.int i13)],[(1060,some (111,.pairs l12))],[(1,some [.int p_0.g.n,.ro false (.pairs p_0.g.bars),.ro false (.ints p_0.ground)]),(2,some [.int (0:Int),.nil]),(3,some [.int c14,.row 1060 0 l12.length])]⟩:PS)
 iterate 2 refine Ag ?_
 refine Aa ?_
 iterate 6 refine oV5 tt rfl Tvv ?_
 refine Ae ?_
 show VC ..
 refine Au rfl (fun hb2=>?_) (fun hb2=>?_)
 ·replace h:=Ai hb2 h
  refine Ar ?_
  show VC ..
  refine Ag ?_
  refine Aq ?_
  refine Bl 7 [] [0,0,2,6,0,30,62,127,255] (by kernel_rfl) (by kernel_rfl) (by kernel_rfl) (by kernel_rfl) (by kernel_rfl) rfl (by rfl) ?_
  iterate 5 refine Bo tt rfl (Ad rfl) rfl rfl rfl rfl rfl Tvv ?_
  obtain ⟨hg3,h⟩:=Ab h
  refine Bo tt rfl (Ad rfl) rfl rfl rfl rfl rfl hg3 ?_
  refine Bo tt rfl (Ad rfl) rfl rfl rfl rfl rfl Tvv ?_
  refine Lt ?_
  show VO _ _ _ _ _
  obtain ⟨v16,hc4,h⟩:=Ac h
  refine Ba (Dw N (⟨c14,l12⟩:Grf) (p_0.g.bars.getD ((i13).toNat) (0,0)) v16 hc4) rfl rfl rfl rfl rfl rfl rfl rfl ⟨⟨rfl,(.inl ⟨rfl,rfl⟩),Tvv⟩,⟨rfl,rfl,Tvv⟩,Tvv⟩ ?_
  refine Ao tt rfl rfl rfl rfl rfl rfl rfl rfl rfl rfl rfl ⟨Tvv,Tvv,Tvv⟩ ?_
  refine Ae ?_
  show VC ..
  refine Aa ?_
  refine oV5 tt rfl Tvv ?_
  obtain ⟨hg5,h⟩:=Ab h
  refine oV5 tt rfl hg5 ?_
  refine oV5 tt rfl Tvv ?_
  refine Ae ?_
  show ∃ _,_
  exact ⟨(v16.bars,(i13+(1:Int)),v16.n),(En.ren [1060] [1220] rfl ⟨.inr rfl,.inr rfl,.inr rfl,.inr rfl,Tvv⟩ ⟨.inr rfl,Tvv⟩ ⟨.inr ⟨_,_,rfl,rfl,⟨.inr rfl,.inr rfl,.inr rfl,Tvv⟩⟩,.inr ⟨_,_,rfl,rfl,⟨.inr rfl,.inr rfl,Tvv⟩⟩,.inr ⟨_,_,rfl,rfl,⟨.inr rfl,.inr rfl,Tvv⟩⟩,Tvv⟩),h⟩
 replace h:=Aj hb2 h
 refine Bq ?_
 show ∃ _,_
 exact ⟨(l12,c14),(En.of ⟨rfl,rfl,Tvv⟩ ⟨rfl,Tvv⟩ ⟨rfl,rfl,Tvv⟩),h⟩
def Et (N:Nat) (g_0:Grf) (k_1:Int) (k:(List Int)→Option (Pbl×Bool)):Nat→((List Int)×Int)→Option (Pbl×Bool)
 | 0,_=>none
 | n+1,(l9,i10)=>
  cnd (decide (i10<g_0.n)) (
   grd (l9.length+1≤4294967296) <|
   grd (Bf (i10+(1:Int))) <|
   Et N g_0 k_1 k n ((l9++([k_1]:List Int)),(i10+(1:Int)))) (
   k l9)
def Ll (N:Nat) (g_0:Grf) (k_1:Int):Option (Pbl×Bool):=
 (Jm N g_0).bind fun v1=>
 cnd (!v1) (
  some ((⟨([]:List Int),[],[]⟩:Pbl),false)) (
  (We N k_1 (1:Int) (3:Int)).bind fun v2=>
  cnd (!v2) (
   some ((⟨([]:List Int),[],[]⟩:Pbl),false)) (
   Et N g_0 k_1 (fun (l6 : List Int) =>
      some ((⟨l6,[],[]⟩:Pbl),true)) N (([]:List Int),(0:Int))))
theorem Aao (N:Nat) (g_0:Grf) (k_1:Int) (r:Pbl×Bool) (h:Ll N g_0 k_1=some r):PCall Try.prog 184 [gD g_0,.int k_1] [(3,.ints r.1.free)] (.tup [.agg [.row 0 0 r.1.free.length,.nil,.nil],.bool r.2]):=by
 unfold Ll at h
 refine Ah (TT:=TT) tt Try.func184 rfl rfl Try.ntmps184 (congrArg Array.toList Try.results184) rfl rfl fun w0=>?_
 refine Ag ?_
 refine Aa ?_
 refine Km rfl rfl rfl rfl rfl rfl rfl rfl rfl ?_
 refine Bj tt rfl rfl rfl rfl rfl rfl rfl rfl rfl ?_
 refine oV5 tt rfl Tvv ?_
 refine Ae ?_
 show VC ..
 refine Ag ?_
 refine Aa ?_
 iterate 3 refine Fa tt (Ad rfl) rfl rfl rfl rfl ?_
 refine Du (Ad rfl) (Dp Fe rfl rfl) rfl rfl ?_
 refine Bj tt rfl rfl rfl rfl rfl rfl rfl rfl rfl ?_
 refine Ao tt rfl rfl rfl rfl rfl rfl rfl rfl rfl rfl rfl ⟨Tvv,Tvv,Tvv,Tvv⟩ ?_
 refine Ae ?_
 show VC ..
 iterate 2 refine Ag ?_
 refine Aa ?_
 refine oV5 tt rfl Tvv ?_
 obtain ⟨v1,hc1,h⟩:=Ac h
 refine Ba (Kp N g_0 v1 hc1) rfl rfl rfl rfl rfl rfl rfl rfl ⟨⟨rfl,rfl,Tvv⟩,Tvv⟩ ?_
 iterate 2 refine oV5 tt rfl Tvv ?_
 refine Bc rfl rfl rfl (fun hb2=>?_) (fun hb2=>?_)
 ·replace h:=Ai hb2 h
  iterate 3 refine Hm rfl rfl rfl rfl hb2 rfl rfl ?_
  refine Be rfl rfl rfl rfl rfl hb2 rfl ?_
  refine Ae ?_
  show VC ..
  refine Bs rfl rfl ?_
  refine Ag ?_
  refine Aa ?_
  refine Du (Ad rfl) (Dp Fe rfl rfl) rfl rfl ?_
  refine Ao tt rfl rfl rfl rfl rfl rfl rfl rfl rfl rfl rfl ⟨Tvv,Tvv,Tvv,Tvv⟩ ?_
  refine oV5 tt rfl Tvv ?_
  refine Ae ?_
  show VC ..
  refine Xh 4 0 9001 3 (.ints []) rfl rfl rfl rfl rfl ?_
  refine Bb ?_
  show ∃ _,_
  cases h
  exact ⟨[9001],_,rfl,⟨rfl,Tvv⟩,rfl,(.eq rfl),rfl⟩
 replace h:=Aj hb2 h
 refine Bd tt rfl rfl rfl rfl rfl hb2 rfl rfl rfl Tvv ?_
 obtain ⟨v2,hc3,h⟩:=Ac h
 refine Fj (Tz N k_1 (1:Int) (3:Int) v2 hc3) rfl rfl rfl rfl hb2 rfl rfl rfl rfl rfl rfl rfl ⟨rfl,rfl,rfl,Tvv⟩ ?_
 refine Bd tt rfl rfl rfl rfl rfl hb2 rfl rfl rfl Tvv ?_
 refine Av rfl rfl rfl rfl rfl hb2 rfl ?_
 refine Ae ?_
 show VC ..
 refine Au rfl (fun hb4=>?_) (fun hb4=>?_)
 ·replace h:=Ai hb4 h
  refine Ag ?_
  refine Aa ?_
  refine Du (Ad rfl) (Dp Fe rfl rfl) rfl rfl ?_
  refine Ao tt rfl rfl rfl rfl rfl rfl rfl rfl rfl rfl rfl ⟨Tvv,Tvv,Tvv,Tvv⟩ ?_
  refine oV5 tt rfl Tvv ?_
  refine Ae ?_
  show VC ..
  refine Xh 4 0 9001 3 (.ints []) rfl rfl rfl rfl rfl ?_
  refine Bb ?_
  show ∃ _,_
  cases h
  exact ⟨[9001],_,rfl,⟨rfl,Tvv⟩,rfl,(.eq rfl),rfl⟩
 replace h:=Aj hb4 h
 refine Ar ?_
 show VC ..
 iterate 2 refine Ag ?_
 refine Aa ?_
 refine oV5 tt rfl Tvv ?_
 refine Ae ?_
 show VC ..
 refine Ck (F:=fun k=>Et N g_0 k_1 k) h (α:=List Int) (J:=fun (l6:List Int)=>(⟨[(4,.ptr 4 0),(6,.ptr 6 0)],[(31,some (3,.ints l6))],[(4,some [.nil,.nil,.nil]),(6,some [.row 31 0 l6.length,.nil,.nil])]⟩:PS)) ?_ ?_
 ·rintro l6 h
  show VC _ _ _ (⟨[(4,.ptr 4 0),(6,.ptr 6 0)],[(31,some (3,.ints l6))],[(4,some [.nil,.nil,.nil]),(6,some [.row 31 0 l6.length,.nil,.nil])]⟩:PS)
  refine Ag ?_
  refine Aa ?_
  refine oV5 tt rfl Tvv ?_
  refine Ao tt rfl rfl rfl rfl rfl rfl rfl rfl rfl rfl rfl ⟨Tvv,Tvv,Tvv,Tvv⟩ ?_
  refine oV5 tt rfl Tvv ?_
  refine Ae ?_
  show VC ..
  refine Bb ?_
  show ∃ _,_
  cases h
  exact ⟨[31],_,rfl,⟨rfl,Tvv⟩,rfl,(.eq rfl),rfl⟩
 intro k h
 refine Aq ?_
 refine Xh 6 0 31 3 (.ints []) rfl rfl rfl rfl rfl ?_
 refine Bh (α:=(List Int)×Int) (fun | (l9,i10)=>(⟨[(1,.int k_1),(2,.ptr 2 0),(4,.ptr 4 0),(6,.ptr 6 0),(7,.int i10)],[(31,some (3,.ints l9))],[(2,some [.int g_0.n,.ro false (.pairs g_0.bars)]),(4,some [.nil,.nil,.nil]),(6,some [.row 31 0 l9.length,.nil,.nil])]⟩:PS)) (Et N g_0 k_1 k) h (En.of ⟨rfl,rfl,rfl,rfl,rfl,Tvv⟩ ⟨rfl,Tvv⟩ ⟨rfl,rfl,rfl,Tvv⟩) (fun _=>rfl) ?_
 rintro n ⟨l9,i10⟩ h
 rw [Et] at h
 show VC _ _ _ (⟨[(1,.int k_1),(2,.ptr 2 0),(4,.ptr 4 0),(6,.ptr 6 0),(7,.int i10)],[(31,some (3,.ints l9))],[(2,some [.int g_0.n,.ro false (.pairs g_0.bars)]),(4,some [.nil,.nil,.nil]),(6,some [.row 31 0 l9.length,.nil,.nil])]⟩:PS)
 iterate 2 refine Ag ?_
 refine Aa ?_
 iterate 4 refine oV5 tt rfl Tvv ?_
 refine Ae ?_
 show VC ..
 refine Au rfl (fun hb5=>?_) (fun hb5=>?_)
 ·replace h:=Ai hb5 h
  refine Ar ?_
  show VC ..
  refine Ag ?_
  refine Aq ?_
  refine Aa ?_
  iterate 3 refine oV5 tt rfl Tvv ?_
  refine Cv tt rfl rfl rfl rfl rfl rfl rfl rfl rfl rfl rfl ?_
  obtain ⟨hg6,h⟩:=Ab h
  refine Bp tt rfl rfl rfl rfl rfl rfl rfl rfl rfl rfl rfl rfl rfl rfl rfl rfl (Nat.le_of_eq (Nat.zero_add _)) hg6 ?_
  refine oV5 tt rfl Tvv ?_
  refine Ao tt rfl rfl rfl rfl rfl rfl rfl rfl rfl rfl rfl ⟨Tvv,Tvv⟩ ?_
  refine Ae ?_
  show VC ..
  refine Aa ?_
  refine oV5 tt rfl Tvv ?_
  obtain ⟨hg7,h⟩:=Ab h
  refine oV5 tt rfl hg7 ?_
  refine oV5 tt rfl Tvv ?_
  refine Ae ?_
  show ∃ _,_
  exact ⟨((l9++([k_1]:List Int)),(i10+(1:Int))),(En.of ⟨rfl,rfl,rfl,rfl,rfl,Tvv⟩ ⟨rfl,Tvv⟩ ⟨rfl,rfl,rfl,Tvv⟩),h⟩
 replace h:=Aj hb5 h
 refine Bq ?_
 show ∃ _,_
 exact ⟨l9,(En.of ⟨rfl,rfl,Tvv⟩ ⟨rfl,Tvv⟩ ⟨rfl,rfl,Tvv⟩),h⟩
def I_bar (N:Nat) (a_0:Int) (b_1:Int):Option (Int×Int):=
 some ((min a_0 b_1),(max a_0 b_1))
theorem I_bar_w (N:Nat) (a_0:Int) (b_1:Int) (r:Int×Int) (h:I_bar N a_0 b_1=some r):PCall Try.prog 143 [.int a_0,.int b_1] [] (.agg [.int r.1,.int r.2]):=by
 unfold I_bar at h
 refine Ah (TT:=TT) tt Try.func143 rfl rfl Try.ntmps143 (congrArg Array.toList Try.results143) rfl rfl fun w0=>?_
 refine Ag ?_
 refine Aa ?_
 refine Bj tt rfl rfl rfl rfl rfl rfl rfl rfl rfl ?_
 refine Ae ?_
 show VC ..
 refine Ag ?_
 refine Aa ?_
 iterate 6 refine oV5 tt rfl Tvv ?_
 refine Du (Ad rfl) (Dp Bv rfl rfl) rfl rfl ?_
 refine Ao tt rfl rfl rfl rfl rfl rfl rfl rfl rfl rfl rfl ⟨Tvv,Tvv,Tvv⟩ ?_
 refine Ae ?_
 show VC ..
 refine Bb ?_
 show ∃ _,_
 cases h
 exact ⟨[],_,rfl,Tvv,rfl,(.eq rfl),rfl⟩
def Ea (N:Nat) (p_0:Pin) (x82:Int) (k:(List (Int×Int))→Option (List (Int×Int))):Nat→((List (Int×Int))×Int)→Option (List (Int×Int))
 | 0,_=>none
 | n+1,(l103,x104)=>
  cnd (decide (x104<(((p_0.ground.take p_0.ground.length).drop (((x82+(1:Int))).toNat)).length:Int))) (
   grd (0≤x104∧x104<(((p_0.ground.take p_0.ground.length).drop (((x82+(1:Int))).toNat)).length:Int)) <|
   (I_bar N (p_0.ground.getD ((x82).toNat) 0) (((p_0.ground.take p_0.ground.length).drop (((x82+(1:Int))).toNat)).getD ((x104).toNat) 0)).bind fun v106=>
   grd (l103.length+1≤4294967296) <|
   grd (Bf (x104+(1:Int))) <|
   Ea N p_0 x82 k n ((l103++([(v106.1,v106.2)]:List (Int×Int))),(x104+(1:Int)))) (
   k l103)
def Di (N:Nat) (p_0:Pin) (k:(List (Int×Int))→Option (List (Int×Int))):Nat→((List (Int×Int))×Int)→Option (List (Int×Int))
 | 0,_=>none
 | n+1,(l81,x82)=>
  cnd (decide (x82<(p_0.ground.length:Int))) (
   grd (0≤x82∧x82<(p_0.ground.length:Int)) <|
   grd (Bf (x82+(1:Int))) <|
   grd (0≤(x82+(1:Int))∧(x82+(1:Int))≤(p_0.ground.length:Int)) <|
   Ea N p_0 x82 (fun (l100 : List (Int × Int)) =>
      Di N p_0 k n (l100,(x82+(1:Int)))) N (l81,(0:Int))) (
   k l81)
def Jc (N:Nat) (p_0:Pin):Option (List (Int×Int)):=
 Di N p_0 (fun (l53 : List (Int × Int)) =>
    some l53) N (([]:List (Int×Int)),(0:Int))
theorem Rf (N:Nat) (p_0:Pin) (r:List (Int×Int)) (h:Jc N p_0=some r):PCall Try.prog 141 [pD p_0] [(111,.pairs r)] (.row 0 0 r.length):=by
 unfold Jc at h
 refine Ah (TT:=TT) tt Try.func141 rfl rfl Try.ntmps141 (congrArg Array.toList Try.results141) rfl rfl fun w0=>?_
 refine Ag ?_
 refine Aa ?_
 refine Km rfl rfl rfl rfl rfl rfl rfl rfl rfl ?_
 refine oV5 tt rfl Tvv ?_
 refine Ae ?_
 show VC ..
 refine Ag ?_
 refine Aa ?_
 refine Fa tt (Ad rfl) rfl rfl rfl rfl ?_
 refine oV5 tt rfl Tvv ?_
 refine Ae ?_
 show VC ..
 iterate 2 refine Ag ?_
 refine Aa ?_
 iterate 4 refine oV5 tt rfl Tvv ?_
 refine Ae ?_
 show VC ..
 refine Ck (F:=fun k=>Di N p_0 k) h (α:=List (Int×Int)) (J:=fun (l53:List (Int×Int))=>(⟨[(3,.row 32 0 l53.length)],[(32,some (111,.pairs l53))],[]⟩:PS)) ?_ ?_
 ·rintro l53 h
  show VC _ _ _ (⟨[(3,.row 32 0 l53.length)],[(32,some (111,.pairs l53))],[]⟩:PS)
  refine Ag ?_
  refine Aa ?_
  iterate 2 refine oV5 tt rfl Tvv ?_
  refine Ae ?_
  show VC ..
  refine Bb ?_
  show ∃ _,_
  cases h
  exact ⟨[32],_,rfl,⟨rfl,Tvv⟩,rfl,(.eq rfl),rfl⟩
 intro k h
 refine Aq ?_
 refine Md 3 32 111 (.pairs []) rfl rfl rfl rfl ?_
 refine Bh (α:=(List (Int×Int))×Int) (fun | (l81,x82)=>(⟨[(1,.ptr 1 0),(3,.row 32 0 l81.length),(10,.ro false (.ints p_0.ground)),(11,.int (p_0.ground.length:Int)),(12,.int x82)],[(32,some (111,.pairs l81))],[(1,some [.int p_0.g.n,.ro false (.pairs p_0.g.bars),.ro false (.ints p_0.ground)])]⟩:PS)) (Di N p_0 k) h (En.of ⟨rfl,rfl,rfl,rfl,rfl,Tvv⟩ ⟨rfl,Tvv⟩ ⟨rfl,Tvv⟩) (fun _=>rfl) ?_
 rintro n ⟨l81,x82⟩ h
 rw [Di] at h
 show VC _ _ _ (⟨[(1,.ptr 1 0),(3,.row 32 0 l81.length),(10,.ro false (.ints p_0.ground)),(11,.int (p_0.ground.length:Int)),(12,.int x82)],[(32,some (111,.pairs l81))],[(1,some [.int p_0.g.n,.ro false (.pairs p_0.g.bars),.ro false (.ints p_0.ground)])]⟩:PS)
 refine Ag ?_
 refine Aa ?_
 refine oV5 tt rfl Tvv ?_
 refine Ae ?_
 show VC ..
 refine Ag ?_
 refine Au rfl (fun hb1=>?_) (fun hb1=>?_)
 ·replace h:=Ai hb1 h
  refine Ar ?_
  show VC ..
  refine Ag ?_
  refine Aq ?_
  refine Ag ?_
  refine Aa ?_
  refine oV5 tt rfl Tvv ?_
  obtain ⟨hg2,h⟩:=Ab h
  refine oV5 tt rfl hg2 ?_
  iterate 3 refine oV5 tt rfl Tvv ?_
  refine Ae ?_
  show VC ..
  refine Ag ?_
  refine Aa ?_
  iterate 3 refine oV5 tt rfl Tvv ?_
  obtain ⟨hg3,h⟩:=Ab h
  refine oV5 tt rfl hg3 ?_
  obtain ⟨hg4,h⟩:=Ab h
  refine oV5 tt rfl hg4 ?_
  iterate 2 refine oV5 tt rfl Tvv ?_
  refine Ae ?_
  show VC ..
  refine Ck (F:=fun k=>Ea N p_0 x82 k) h (α:=List (Int×Int)) (J:=fun (l100:List (Int×Int))=>(⟨[(1,.ptr 1 0),(3,.row 32 0 l100.length),(10,.ro false (.ints p_0.ground)),(11,.int (p_0.ground.length:Int)),(12,.int x82)],[(32,some (111,.pairs l100))],[(1,some [.int p_0.g.n,.ro false (.pairs p_0.g.bars),.ro false (.ints p_0.ground)])]⟩:PS)) ?_ ?_
  ·rintro l100 h
   show VC _ _ _ (⟨[(1,.ptr 1 0),(3,.row 32 0 l100.length),(10,.ro false (.ints p_0.ground)),(11,.int (p_0.ground.length:Int)),(12,.int x82)],[(32,some (111,.pairs l100))],[(1,some [.int p_0.g.n,.ro false (.pairs p_0.g.bars),.ro false (.ints p_0.ground)])]⟩:PS)
   refine Aa ?_
   refine oV5 tt rfl hg3 ?_
   refine oV5 tt rfl Tvv ?_
   refine Ae ?_
   show ∃ _,_
   exact ⟨(l100,(x82+(1:Int))),(En.of ⟨rfl,rfl,rfl,rfl,rfl,Tvv⟩ ⟨rfl,Tvv⟩ ⟨rfl,Tvv⟩),h⟩
  intro k h
  refine Aq ?_
  refine Bh (α:=(List (Int×Int))×Int) (fun | (l103,x104)=>(⟨[(1,.ptr 1 0),(3,.row 32 0 l103.length),(5,.int (p_0.ground.getD ((x82).toNat) 0)),(10,.ro false (.ints p_0.ground)),(11,.int (p_0.ground.length:Int)),(12,.int x82),(21,.ro false (.ints ((p_0.ground.take p_0.ground.length).drop (((x82+(1:Int))).toNat)))),(22,.int (((p_0.ground.take p_0.ground.length).drop (((x82+(1:Int))).toNat)).length:Int)),(23,.int x104)],[(32,some (111,.pairs l103))],[(1,some [.int p_0.g.n,.ro false (.pairs p_0.g.bars),.ro false (.ints p_0.ground)])]⟩:PS)) (Ea N p_0 x82 k) h (En.of ⟨rfl,rfl,rfl,rfl,rfl,rfl,rfl,rfl,rfl,Tvv⟩ ⟨rfl,Tvv⟩ ⟨rfl,Tvv⟩) (fun _=>rfl) ?_
  rintro n ⟨l103,x104⟩ h
  rw [Ea] at h
  show VC _ _ _ (⟨[(1,.ptr 1 0),(3,.row 32 0 l103.length),(5,.int (p_0.ground.getD ((x82).toNat) 0)),(10,.ro false (.ints p_0.ground)),(11,.int (p_0.ground.length:Int)),(12,.int x82),(21,.ro false (.ints ((p_0.ground.take p_0.ground.length).drop (((x82+(1:Int))).toNat)))),(22,.int (((p_0.ground.take p_0.ground.length).drop (((x82+(1:Int))).toNat)).length:Int)),(23,.int x104)],[(32,some (111,.pairs l103))],[(1,some [.int p_0.g.n,.ro false (.pairs p_0.g.bars),.ro false (.ints p_0.ground)])]⟩:PS)
  refine Ag ?_
  refine Aa ?_
  refine oV5 tt rfl Tvv ?_
  refine Ae ?_
  show VC ..
  refine Ag ?_
  refine Au rfl (fun hb5=>?_) (fun hb5=>?_)
  ·replace h:=Ai hb5 h
   refine Ar ?_
   show VC ..
   refine Ag ?_
   refine Aq ?_
   refine Ag ?_
   refine Aa ?_
   obtain ⟨hg6,h⟩:=Ab h
   refine oV5 tt rfl hg6 ?_
   iterate 2 refine oV5 tt rfl Tvv ?_
   refine Ae ?_
   show VC ..
   refine Aa ?_
   iterate 3 refine oV5 tt rfl Tvv ?_
   obtain ⟨v106,hc7,h⟩:=Ac h
   refine Ba (I_bar_w N (p_0.ground.getD ((x82).toNat) 0) (((p_0.ground.take p_0.ground.length).drop (((x82+(1:Int))).toNat)).getD ((x104).toNat) 0) v106 hc7) rfl rfl rfl rfl rfl rfl rfl rfl ⟨rfl,rfl,Tvv⟩ ?_
   refine Cv tt rfl rfl rfl rfl rfl rfl rfl rfl rfl rfl rfl ?_
   obtain ⟨hg8,h⟩:=Ab h
   refine Bp tt rfl rfl rfl rfl rfl rfl rfl rfl rfl rfl rfl rfl rfl rfl rfl rfl (Nat.le_of_eq (Nat.zero_add _)) hg8 ?_
   refine oV5 tt rfl Tvv ?_
   refine Ae ?_
   show VC ..
   refine Aa ?_
   obtain ⟨hg9,h⟩:=Ab h
   refine oV5 tt rfl hg9 ?_
   refine oV5 tt rfl Tvv ?_
   refine Ae ?_
   show ∃ _,_
   exact ⟨((l103++([(v106.1,v106.2)]:List (Int×Int))),(x104+(1:Int))),(En.of ⟨rfl,rfl,rfl,rfl,rfl,rfl,rfl,rfl,rfl,Tvv⟩ ⟨rfl,Tvv⟩ ⟨rfl,Tvv⟩),h⟩
  replace h:=Aj hb5 h
  refine Bq ?_
  show ∃ _,_
  exact ⟨l103,(En.of ⟨rfl,rfl,rfl,rfl,rfl,Tvv⟩ ⟨rfl,Tvv⟩ ⟨rfl,Tvv⟩),h⟩
 replace h:=Aj hb1 h
 refine Bq ?_
 show ∃ _,_
 exact ⟨l81,(En.of ⟨rfl,Tvv⟩ ⟨rfl,Tvv⟩ trivial),h⟩
end
section
open Go.RowKit
def Hu (N:Nat) (g_0:Grf) (k:Int→Option (Int)):Nat→((List Int)×(List Int)×(List Int)×Int×Int×Nat)→Option (Int)
 | 0,_=>none
 | n+1,(l36,l37,l38,n39,i40,n41)=>
  cnd (decide (i40<(g_0.bars.length:Int))) (
   grd (0≤i40∧i40<(g_0.bars.length:Int)) <|
   grd (n41=l36.length) <|
   (Mh N g_0 (⟨l36,l37,l38⟩:Pbl) ((g_0.bars.getD ((i40).toNat) (0,0)).1) ((g_0.bars.getD ((i40).toNat) (0,0)).2) (4:Int)).bind fun v43=>
   cnd (!v43.2) (
    grd (Bf (i40+(1:Int))) <|
    Hu N g_0 k n (l36,l37,l38,n39,(i40+(1:Int)),n41)) (
    grd (0≤((g_0.bars.getD ((i40).toNat) (0,0)).1)∧((g_0.bars.getD ((i40).toNat) (0,0)).1)<(v43.1.free.length:Int)) <|
    grd (Bf ((v43.1.free.getD (((g_0.bars.getD ((i40).toNat) (0,0)).1).toNat) 0)-(1:Int))) <|
    grd (v43.1.tails.length+1≤4294967296) <|
    grd (v43.1.placed.length+1≤4294967296) <|
    grd (Bf (n39+(1:Int))) <|
    grd (Bf (i40+(1:Int))) <|
    Hu N g_0 k n ((v43.1.free.set (((g_0.bars.getD ((i40).toNat) (0,0)).1).toNat) ((v43.1.free.getD (((g_0.bars.getD ((i40).toNat) (0,0)).1).toNat) 0)-(1:Int))),(v43.1.tails++([(g_0.bars.getD ((i40).toNat) (0,0)).1]:List Int)),(v43.1.placed++([i40]:List Int)),(n39+(1:Int)),(i40+(1:Int)),v43.1.free.length))) (
   k n39)
def Lg (N:Nat) (g_0:Grf):Option (Int):=
 (Ll N (⟨g_0.n,([]:List (Int×Int))⟩:Grf) (2:Int)).bind fun v1=>
 Hu N g_0 (fun (n22 : Int) =>
    some n22) N (v1.1.free,([]:List Int),([]:List Int),(0:Int),(0:Int),v1.1.free.length)
theorem Rz (N:Nat) (g_0:Grf) (r:Int) (h:Lg N g_0=some r):PCall Try.prog 145 [gD g_0] [] (.int r):=by
 unfold Lg at h
 refine Ah (TT:=TT) tt Try.func145 rfl rfl Try.ntmps145 (congrArg Array.toList Try.results145) rfl rfl fun w0=>?_
 refine Ag ?_
 refine Aa ?_
 refine Km rfl rfl rfl rfl rfl rfl rfl rfl rfl ?_
 refine oV5 tt rfl Tvv ?_
 refine Ae ?_
 show VC ..
 refine Ag ?_
 refine Aa ?_
 iterate 2 refine oV5 tt rfl Tvv ?_
 refine Du (Ad rfl) (Dp Gb rfl rfl) rfl rfl ?_
 obtain ⟨v1,hc1,h⟩:=Ac h
 refine Ba (Aao N (⟨g_0.n,([]:List (Int×Int))⟩:Grf) (2:Int) v1 hc1) rfl rfl rfl rfl rfl rfl rfl rfl ⟨⟨rfl,rfl,Tvv⟩,rfl,Tvv⟩ ?_
 iterate 3 refine oV5 tt rfl Tvv ?_
 refine Bj tt rfl rfl rfl rfl rfl rfl rfl rfl rfl ?_
 refine Ao tt rfl rfl rfl rfl rfl rfl rfl rfl rfl rfl rfl ⟨Tvv,Tvv,Tvv,Tvv⟩ ?_
 refine oV5 tt rfl Tvv ?_
 refine Ae ?_
 show VC ..
 refine Ag ?_
 refine Aa ?_
 refine oV5 tt rfl Tvv ?_
 refine Ae ?_
 show VC ..
 iterate 2 refine Ag ?_
 refine Aa ?_
 refine oV5 tt rfl Tvv ?_
 refine Ae ?_
 show VC ..
 refine Ck (F:=fun k=>Hu N g_0 k) h (α:=Int) (J:=fun (n22:Int)=>(⟨[(5,.int n22)],[],[]⟩:PS)) ?_ ?_
 ·rintro n22 h
  show VC _ _ _ (⟨[(5,.int n22)],[],[]⟩:PS)
  refine Ag ?_
  refine Aa ?_
  iterate 2 refine oV5 tt rfl Tvv ?_
  refine Ae ?_
  show VC ..
  refine Bb ?_
  show ∃ _,_
  cases h
  exact ⟨[],_,rfl,Tvv,rfl,(.eq rfl),rfl⟩
 intro k h
 refine Aq ?_
 refine Xh 3 1 9507 3 (.ints []) rfl rfl rfl rfl rfl ?_
 refine Xh 3 2 9508 3 (.ints []) rfl rfl rfl rfl rfl ?_
 refine Bh (α:=(List Int)×(List Int)×(List Int)×Int×Int×Nat) (fun | (l36,l37,l38,n39,i40,n41)=>(⟨[(1,.ptr 1 0),(3,.ptr 3 0),(5,.int n39),(6,.int i40)],[(1130,some (3,.ints l36)),(9507,some (3,.ints l37)),(9508,some (3,.ints l38))],[(1,some [.int g_0.n,.ro false (.pairs g_0.bars)]),(3,some [.row 1130 0 n41,.row 9507 0 l37.length,.row 9508 0 l38.length])]⟩:PS)) (Hu N g_0 k) h (En.of ⟨rfl,rfl,rfl,rfl,Tvv⟩ ⟨rfl,rfl,rfl,Tvv⟩ ⟨rfl,rfl,Tvv⟩) (fun _=>rfl) ?_
 rintro n ⟨l36,l37,l38,n39,i40,n41⟩ h
 rw [Hu] at h
 show VC _ _ _ (⟨[(1,.ptr 1 0),(3,.ptr 3 0),(5,.int n39),(6,.int i40)],[(1130,some (3,.ints l36)),(9507,some (3,.ints l37)),(9508,some (3,.ints l38))],[(1,some [.int g_0.n,.ro false (.pairs g_0.bars)]),(3,some [.row 1130 0 n41,.row 9507 0 l37.length,.row 9508 0 l38.length])]⟩:PS)
 iterate 2 refine Ag ?_
 refine Aa ?_
 iterate 5 refine oV5 tt rfl Tvv ?_
 refine Ae ?_
 show VC ..
 refine Au rfl (fun hb2=>?_) (fun hb2=>?_)
 ·replace h:=Ai hb2 h
  refine Ar ?_
  show VC ..
  refine Ag ?_
  refine Aq ?_
  refine Ag ?_
  refine Bl 20 [14,18,1190000007] [0,0,0,4,0,28,60,124,0,256,0,1792,3840,7936,16383,32767,65535,65535,0,393215,1048575] (by kernel_rfl) (by kernel_rfl) (by kernel_rfl) (by kernel_rfl) (by kernel_rfl) rfl (by rfl) ?_
  iterate 5 refine Bo tt rfl (Ad rfl) rfl rfl rfl rfl rfl Tvv ?_
  obtain ⟨hg3,h⟩:=Ab h
  refine Bo tt rfl (Ad rfl) rfl rfl rfl rfl rfl hg3 ?_
  iterate 5 refine Bo tt rfl (Ad rfl) rfl rfl rfl rfl rfl Tvv ?_
  refine Bo tt rfl (Ad rfl) rfl rfl rfl rfl rfl hg3 ?_
  iterate 2 refine Bo tt rfl (Ad rfl) rfl rfl rfl rfl rfl Tvv ?_
  obtain ⟨hg4,h⟩:=Ab h
  obtain ⟨v43,hc5,h⟩:=Ac h
  refine Jh (S_l4Gather_w N g_0 (⟨l36,l37,l38⟩:Pbl) ((g_0.bars.getD ((i40).toNat) (0,0)).1) ((g_0.bars.getD ((i40).toNat) (0,0)).2) (4:Int) v43 hc5) rfl (Ad rfl) rfl rfl rfl rfl rfl rfl (by first | rfl | kernel_rfl | (simp [nrL,nm,Dy,nmT,Es]; done)) rfl (by first | rfl | kernel_rfl | (simp [Jj,nrL,nm,Dy,nmT,Es,hid,Ez,Cf,Bn]; done) | (simp [Jj,nrL,nm,Dy,nmT,Es,hid,Ez,Cf,Bn]; decide)) ⟨⟨rfl,rfl,Tvv⟩,⟨(.inl ⟨hg4,rfl⟩),(.inl ⟨rfl,rfl⟩),(.inl ⟨rfl,rfl⟩),Tvv⟩,rfl,rfl,rfl,Tvv⟩ ?_
  iterate 3 refine Bo tt rfl (Ad rfl) rfl rfl rfl rfl rfl Tvv ?_
  refine Aax tt (Ad rfl) rfl rfl rfl rfl rfl rfl rfl rfl rfl rfl ?_
  refine nStoreB tt (Ad rfl) rfl rfl rfl rfl rfl rfl rfl rfl rfl rfl rfl rfl ?_
  refine Lt ?_
  show VO _ _ _ _ _
  refine oV5 tt rfl Tvv ?_
  refine Ae ?_
  show VC ..
  iterate 2 refine Ag ?_
  refine Aa ?_
  iterate 2 refine oV5 tt rfl Tvv ?_
  refine Ae ?_
  show VC ..
  refine Au rfl (fun hb6=>?_) (fun hb6=>?_)
  ·replace h:=Ai hb6 h
   refine Bq ?_
   show VC ..
   refine Aa ?_
   refine oV5 tt rfl Tvv ?_
   obtain ⟨hg7,h⟩:=Ab h
   refine oV5 tt rfl hg7 ?_
   refine oV5 tt rfl Tvv ?_
   refine Ae ?_
   show ∃ _,_
   exact ⟨(l36,l37,l38,n39,(i40+(1:Int)),n41),(En.of ⟨rfl,rfl,rfl,rfl,Tvv⟩ ⟨rfl,rfl,rfl,Tvv⟩ ⟨rfl,rfl,Tvv⟩),h⟩
  replace h:=Aj hb6 h
  refine Ar ?_
  show VC ..
  refine Ag ?_
  refine Bl 19 [] [0,1,0,4,0,28,60,124,0,256,0,1024,0,7168,15360,31744,65280,130816,261888,524287,1048575] (by kernel_rfl) (by kernel_rfl) (by kernel_rfl) (by kernel_rfl) (by kernel_rfl) rfl (by rfl) ?_
  iterate 5 refine Bo tt rfl (Ad rfl) rfl rfl rfl rfl rfl Tvv ?_
  refine Bo tt rfl (Ad rfl) rfl rfl rfl rfl rfl hg3 ?_
  iterate 7 refine Bo tt rfl (Ad rfl) rfl rfl rfl rfl rfl Tvv ?_
  refine Bo tt rfl (Ad rfl) rfl rfl rfl rfl rfl hg3 ?_
  iterate 2 refine Bo tt rfl (Ad rfl) rfl rfl rfl rfl rfl Tvv ?_
  obtain ⟨hg8,h⟩:=Ab h
  iterate 2 refine Bo tt rfl (Ad rfl) rfl rfl rfl rfl rfl hg8 ?_
  obtain ⟨hg9,h⟩:=Ab h
  refine Bo tt rfl (Ad rfl) rfl rfl rfl rfl rfl hg9 ?_
  refine Lt ?_
  show VO _ _ _ _ _
  refine oV5 tt rfl hg8 ?_
  refine Ao tt rfl rfl rfl rfl rfl rfl rfl rfl rfl rfl ⟨_,_,rfl,hg8.1,hg8.2⟩ ⟨hg8,Tvv⟩ ?_
  refine Ae ?_
  show VC ..
  refine Ag ?_
  refine Bl 9 [8] [0,1,0,4,0,28,60,124,252,511,1023,2047] (by kernel_rfl) (by kernel_rfl) (by kernel_rfl) (by kernel_rfl) (by kernel_rfl) rfl (by rfl) ?_
  iterate 5 refine Bo tt rfl (Ad rfl) rfl rfl rfl rfl rfl Tvv ?_
  refine Bo tt rfl (Ad rfl) rfl rfl rfl rfl rfl hg3 ?_
  iterate 2 refine Bo tt rfl (Ad rfl) rfl rfl rfl rfl rfl Tvv ?_
  refine Zu tt (Ad rfl) rfl rfl rfl rfl rfl rfl rfl rfl rfl rfl rfl rfl ?_
  refine Lt ?_
  show VO _ _ _ _ _
  obtain ⟨hg10,h⟩:=Ab h
  refine Bp tt rfl rfl rfl rfl rfl rfl rfl rfl rfl rfl rfl rfl rfl rfl rfl rfl (Nat.le_of_eq (Nat.zero_add _)) hg10 ?_
  refine oV5 tt rfl Tvv ?_
  refine Ao tt rfl rfl rfl rfl rfl rfl rfl rfl rfl rfl rfl ⟨Tvv,Tvv⟩ ?_
  refine Ae ?_
  show VC ..
  refine Ag ?_
  refine Aa ?_
  iterate 3 refine oV5 tt rfl Tvv ?_
  refine Cv tt rfl rfl rfl rfl rfl rfl rfl rfl rfl rfl rfl ?_
  obtain ⟨hg11,h⟩:=Ab h
  refine Bp tt rfl rfl rfl rfl rfl rfl rfl rfl rfl rfl rfl rfl rfl rfl rfl rfl (Nat.le_of_eq (Nat.zero_add _)) hg11 ?_
  refine oV5 tt rfl Tvv ?_
  refine Ao tt rfl rfl rfl rfl rfl rfl rfl rfl rfl rfl rfl ⟨Tvv,Tvv⟩ ?_
  refine Ae ?_
  show VC ..
  refine Ag ?_
  refine Aa ?_
  refine oV5 tt rfl Tvv ?_
  refine Ao tt rfl rfl rfl rfl rfl rfl rfl rfl rfl rfl rfl ⟨Tvv,Tvv,Tvv,Tvv⟩ ?_
  refine Ae ?_
  show VC ..
  refine Aa ?_
  refine oV5 tt rfl Tvv ?_
  obtain ⟨hg12,h⟩:=Ab h
  refine oV5 tt rfl hg12 ?_
  refine oV5 tt rfl Tvv ?_
  refine Ae ?_
  show VC ..
  refine Aa ?_
  refine oV5 tt rfl Tvv ?_
  obtain ⟨hg13,h⟩:=Ab h
  refine oV5 tt rfl hg13 ?_
  refine oV5 tt rfl Tvv ?_
  refine Ae ?_
  show ∃ _,_
  exact ⟨((v43.1.free.set (((g_0.bars.getD ((i40).toNat) (0,0)).1).toNat) ((v43.1.free.getD (((g_0.bars.getD ((i40).toNat) (0,0)).1).toNat) 0)-(1:Int))),(v43.1.tails++([(g_0.bars.getD ((i40).toNat) (0,0)).1]:List Int)),(v43.1.placed++([i40]:List Int)),(n39+(1:Int)),(i40+(1:Int)),v43.1.free.length),(En.ren [1130,9507,9508] [1380,1381,1382] rfl ⟨.inr rfl,.inr rfl,.inr rfl,.inr rfl,Tvv⟩ ⟨.inr rfl,.inr rfl,.inr rfl,Tvv⟩ ⟨.inr ⟨_,_,rfl,rfl,⟨.inr rfl,.inr rfl,Tvv⟩⟩,.inr ⟨_,_,rfl,rfl,⟨.inr rfl,.inr rfl,.inr rfl,Tvv⟩⟩,Tvv⟩),h⟩
 replace h:=Aj hb2 h
 refine Bq ?_
 show ∃ _,_
 exact ⟨n39,(En.of ⟨rfl,Tvv⟩ trivial trivial),h⟩
def Fi (N:Nat) (p_0:Pin):Option (Int):=
 (Cj N p_0).bind fun v1=>
 cnd (!v1) (
  some (-1:Int)) (
  (Pm N p_0).bind fun v2=>
  (Lg N v2).bind fun v3=>
  (Mu N p_0).bind fun v4=>
  (Lg N v4).bind fun v5=>
  grd (Bf (v3-v5)) <|
  some (v3-v5))
theorem Aaf (N:Nat) (p_0:Pin) (r:Int) (h:Fi N p_0=some r):PCall Try.prog 73 [pD p_0] [] (.int r):=by
 unfold Fi at h
 refine Ah (TT:=TT) tt Try.func73 rfl rfl Try.ntmps73 (congrArg Array.toList Try.results73) rfl rfl fun w0=>?_
 refine Ag ?_
 refine Aa ?_
 refine Km rfl rfl rfl rfl rfl rfl rfl rfl rfl ?_
 refine oV5 tt rfl Tvv ?_
 refine Ae ?_
 show VC ..
 iterate 2 refine Ag ?_
 refine Aa ?_
 refine oV5 tt rfl Tvv ?_
 obtain ⟨v1,hc1,h⟩:=Ac h
 refine Ba (Hx N p_0 v1 hc1) rfl rfl rfl rfl rfl rfl rfl rfl ⟨⟨rfl,rfl,rfl,Tvv⟩,Tvv⟩ ?_
 refine oV5 tt rfl Tvv ?_
 refine Ae ?_
 show VC ..
 refine Au rfl (fun hb2=>?_) (fun hb2=>?_)
 ·replace h:=Ai hb2 h
  refine Ag ?_
  refine Aa ?_
  refine oV5 tt rfl Tvv ?_
  refine Ae ?_
  show VC ..
  refine Bb ?_
  show ∃ _,_
  cases h
  exact ⟨[],_,rfl,Tvv,rfl,(.eq rfl),rfl⟩
 replace h:=Aj hb2 h
 refine Ar ?_
 show VC ..
 refine Ag ?_
 refine Bl 4 [1] [0,1,3,0,15,31,63,127] (by kernel_rfl) (by kernel_rfl) (by kernel_rfl) (by kernel_rfl) (by kernel_rfl) rfl (by rfl) ?_
 refine Bo tt rfl (Ad rfl) rfl rfl rfl rfl rfl Tvv ?_
 obtain ⟨v2,hc3,h⟩:=Ac h
 refine Jh (Aau N p_0 v2 hc3) rfl (Ad rfl) rfl rfl rfl rfl rfl rfl (by first | rfl | kernel_rfl | (simp [nrL,nm,Dy,nmT,Es]; done)) rfl (by first | rfl | kernel_rfl | (simp [Jj,nrL,nm,Dy,nmT,Es,hid,Ez,Cf,Bn]; done) | (simp [Jj,nrL,nm,Dy,nmT,Es,hid,Ez,Cf,Bn]; decide)) ⟨⟨rfl,rfl,rfl,Tvv⟩,Tvv⟩ ?_
 obtain ⟨v3,hc4,h⟩:=Ac h
 refine Lr (Rz N v2 v3 hc4) rfl (Ad rfl) rfl rfl rfl rfl rfl rfl rfl rfl ⟨⟨rfl,(.inl ⟨rfl,rfl⟩),Tvv⟩,Tvv⟩ ?_
 refine Bo tt rfl (Ad rfl) rfl rfl rfl rfl rfl Tvv ?_
 refine Lt ?_
 show VO _ _ _ _ _
 obtain ⟨v4,hc5,h⟩:=Ac h
 refine Ba (Zx N p_0 v4 hc5) rfl rfl rfl rfl rfl rfl rfl rfl ⟨⟨rfl,rfl,rfl,Tvv⟩,Tvv⟩ ?_
 obtain ⟨v5,hc6,h⟩:=Ac h
 refine Ba (Rz N v4 v5 hc6) rfl rfl rfl rfl rfl rfl rfl rfl ⟨⟨rfl,(.inl ⟨rfl,rfl⟩),Tvv⟩,Tvv⟩ ?_
 obtain ⟨hg7,h⟩:=Ab h
 refine oV5 tt rfl hg7 ?_
 refine oV5 tt rfl Tvv ?_
 refine Ae ?_
 show VC ..
 refine Bb ?_
 show ∃ _,_
 cases h
 exact ⟨[],_,rfl,Tvv,rfl,(.eq rfl),rfl⟩
def Dv (N:Nat) (p_0:Pin):Option (Int):=
 (Cj N p_0).bind fun v1=>
 cnd (!v1) (
  some (-1:Int)) (
  (Fh N p_0).bind fun v2=>
  grd (Bf ((2:Int)*(v2.length:Int))) <|
  (Fi N p_0).bind fun v3=>
  grd (Bf (((2:Int)*(v2.length:Int))-v3)) <|
  some (((2:Int)*(v2.length:Int))-v3))
theorem Xb (N:Nat) (p_0:Pin) (r:Int) (h:Dv N p_0=some r):PCall Try.prog 71 [pD p_0] [] (.int r):=by
 unfold Dv at h
 refine Ah (TT:=TT) tt Try.func71 rfl rfl Try.ntmps71 (congrArg Array.toList Try.results71) rfl rfl fun w0=>?_
 refine Ag ?_
 refine Aa ?_
 refine Km rfl rfl rfl rfl rfl rfl rfl rfl rfl ?_
 refine oV5 tt rfl Tvv ?_
 refine Ae ?_
 show VC ..
 iterate 2 refine Ag ?_
 refine Aa ?_
 refine oV5 tt rfl Tvv ?_
 obtain ⟨v1,hc1,h⟩:=Ac h
 refine Ba (Hx N p_0 v1 hc1) rfl rfl rfl rfl rfl rfl rfl rfl ⟨⟨rfl,rfl,rfl,Tvv⟩,Tvv⟩ ?_
 refine oV5 tt rfl Tvv ?_
 refine Ae ?_
 show VC ..
 refine Au rfl (fun hb2=>?_) (fun hb2=>?_)
 ·replace h:=Ai hb2 h
  refine Ag ?_
  refine Aa ?_
  refine oV5 tt rfl Tvv ?_
  refine Ae ?_
  show VC ..
  refine Bb ?_
  show ∃ _,_
  cases h
  exact ⟨[],_,rfl,Tvv,rfl,(.eq rfl),rfl⟩
 replace h:=Aj hb2 h
 refine Ar ?_
 show VC ..
 refine Ag ?_
 refine Bl 6 [1] [0,1,3,7,0,19,63,127] (by kernel_rfl) (by kernel_rfl) (by kernel_rfl) (by kernel_rfl) (by kernel_rfl) rfl (by rfl) ?_
 refine Bo tt rfl (Ad rfl) rfl rfl rfl rfl rfl Tvv ?_
 obtain ⟨v2,hc3,h⟩:=Ac h
 refine Jh (Ke N p_0 v2 hc3) rfl (Ad rfl) rfl rfl rfl rfl rfl rfl (by first | rfl | kernel_rfl | (simp [nrL,nm,Dy,nmT,Es]; done)) rfl (by first | rfl | kernel_rfl | (simp [Jj,nrL,nm,Dy,nmT,Es,hid,Ez,Cf,Bn]; done) | (simp [Jj,nrL,nm,Dy,nmT,Es,hid,Ez,Cf,Bn]; decide)) ⟨⟨rfl,rfl,rfl,Tvv⟩,Tvv⟩ ?_
 refine Bo tt rfl (Ad rfl) rfl rfl rfl rfl rfl Tvv ?_
 obtain ⟨hg4,h⟩:=Ab h
 refine Bo tt rfl (Ad rfl) rfl rfl rfl rfl rfl hg4 ?_
 refine Bo tt rfl (Ad rfl) rfl rfl rfl rfl rfl Tvv ?_
 obtain ⟨v3,hc5,h⟩:=Ac h
 refine Lr (Aaf N p_0 v3 hc5) rfl (Ad rfl) rfl rfl rfl rfl rfl rfl rfl rfl ⟨⟨rfl,rfl,rfl,Tvv⟩,Tvv⟩ ?_
 refine Lt ?_
 show VO _ _ _ _ _
 obtain ⟨hg6,h⟩:=Ab h
 refine oV5 tt rfl hg6 ?_
 refine oV5 tt rfl Tvv ?_
 refine Ae ?_
 show VC ..
 refine Bb ?_
 show ∃ _,_
 cases h
 exact ⟨[],_,rfl,Tvv,rfl,(.eq rfl),rfl⟩
def Jy (N:Nat) (p_0:Pin):Option (Int):=
 (Hk N p_0).bind fun v1=>
 cnd (!v1) (
  some (-1:Int)) (
  (Jc N p_0).bind fun v2=>
  grd (v2.length+p_0.g.bars.length≤4294967296) <|
  (Hp N p_0.g.n (v2++p_0.g.bars)).bind fun v3=>
  (Jc N p_0).bind fun v4=>
  (Hp N p_0.g.n v4).bind fun v5=>
  grd (Bf (v3-v5)) <|
  some (v3-v5))
theorem Aak (N:Nat) (p_0:Pin) (r:Int) (h:Jy N p_0=some r):PCall Try.prog 72 [pD p_0] [] (.int r):=by
 unfold Jy at h
 refine Ah (TT:=TT) tt Try.func72 rfl rfl Try.ntmps72 (congrArg Array.toList Try.results72) rfl rfl fun w0=>?_
 refine Ag ?_
 refine Aa ?_
 refine Km rfl rfl rfl rfl rfl rfl rfl rfl rfl ?_
 refine oV5 tt rfl Tvv ?_
 refine Ae ?_
 show VC ..
 iterate 2 refine Ag ?_
 refine Aa ?_
 refine oV5 tt rfl Tvv ?_
 obtain ⟨v1,hc1,h⟩:=Ac h
 refine Ba (Ju N p_0 v1 hc1) rfl rfl rfl rfl rfl rfl rfl rfl ⟨⟨rfl,rfl,rfl,Tvv⟩,Tvv⟩ ?_
 refine oV5 tt rfl Tvv ?_
 refine Ae ?_
 show VC ..
 refine Au rfl (fun hb2=>?_) (fun hb2=>?_)
 ·replace h:=Ai hb2 h
  refine Ag ?_
  refine Aa ?_
  refine oV5 tt rfl Tvv ?_
  refine Ae ?_
  show VC ..
  refine Bb ?_
  show ∃ _,_
  cases h
  exact ⟨[],_,rfl,Tvv,rfl,(.eq rfl),rfl⟩
 replace h:=Aj hb2 h
 refine Ar ?_
 show VC ..
 refine Ag ?_
 refine Aa ?_
 iterate 4 refine oV5 tt rfl Tvv ?_
 refine Ae ?_
 show VC ..
 refine Ag ?_
 refine Bl 11 [2,6,10,1060001120] [0,0,2,0,8,24,62,127,0,0,767,2047,4095,8191] (by kernel_rfl) (by kernel_rfl) (by kernel_rfl) (by kernel_rfl) (by kernel_rfl) rfl (by rfl) ?_
 iterate 2 refine Bo tt rfl (Ad rfl) rfl rfl rfl rfl rfl Tvv ?_
 obtain ⟨v2,hc3,h⟩:=Ac h
 refine Jh (Rf N p_0 v2 hc3) rfl (Ad rfl) rfl rfl rfl rfl rfl rfl (by first | rfl | kernel_rfl | (simp [nrL,nm,Dy,nmT,Es]; done)) rfl (by first | rfl | kernel_rfl | (simp [Jj,nrL,nm,Dy,nmT,Es,hid,Ez,Cf,Bn]; done) | (simp [Jj,nrL,nm,Dy,nmT,Es,hid,Ez,Cf,Bn]; decide)) ⟨⟨rfl,rfl,rfl,Tvv⟩,Tvv⟩ ?_
 iterate 3 refine Bo tt rfl (Ad rfl) rfl rfl rfl rfl rfl Tvv ?_
 obtain ⟨hg4,h⟩:=Ab h
 refine nAppMove tt (Ad rfl) rfl rfl rfl rfl rfl rfl rfl rfl rfl rfl rfl rfl rfl rfl rfl rfl rfl rfl rfl rfl Tvv hg4 ?_
 obtain ⟨v3,hc5,h⟩:=Ac h
 refine Lr (Tn N p_0.g.n (v2++p_0.g.bars) v3 hc5) rfl (Ad rfl) rfl rfl rfl rfl rfl rfl rfl rfl ⟨rfl,(.inl ⟨rfl,rfl⟩),Tvv⟩ ?_
 iterate 2 refine Bo tt rfl (Ad rfl) rfl rfl rfl rfl rfl Tvv ?_
 obtain ⟨v4,hc6,h⟩:=Ac h
 refine Jh (Rf N p_0 v4 hc6) rfl (Ad rfl) rfl rfl rfl rfl rfl rfl (by first | rfl | kernel_rfl | (simp [nrL,nm,Dy,nmT,Es]; done)) rfl (by first | rfl | kernel_rfl | (simp [Jj,nrL,nm,Dy,nmT,Es,hid,Ez,Cf,Bn]; done) | (simp [Jj,nrL,nm,Dy,nmT,Es,hid,Ez,Cf,Bn]; decide)) ⟨⟨rfl,rfl,rfl,Tvv⟩,Tvv⟩ ?_
 refine Lt ?_
 show VO _ _ _ _ _
 obtain ⟨v5,hc7,h⟩:=Ac h
 refine Ba (Tn N p_0.g.n v4 v5 hc7) rfl rfl rfl rfl rfl rfl rfl rfl ⟨rfl,(.inl ⟨rfl,rfl⟩),Tvv⟩ ?_
 obtain ⟨hg8,h⟩:=Ab h
 refine oV5 tt rfl hg8 ?_
 refine oV5 tt rfl Tvv ?_
 refine Ae ?_
 show VC ..
 refine Bb ?_
 show ∃ _,_
 cases h
 exact ⟨[],_,rfl,Tvv,rfl,(.eq rfl),rfl⟩
def Gk (N:Nat) (p_0:Pin):Option (Int):=
 (Hk N p_0).bind fun v1=>
 cnd (!v1) (
  some (-1:Int)) (
  (Gz N p_0).bind fun v2=>
  grd (Bf ((2:Int)*(v2.length:Int))) <|
  (Jy N p_0).bind fun v3=>
  grd (Bf (((2:Int)*(v2.length:Int))-v3)) <|
  some (((2:Int)*(v2.length:Int))-v3))
theorem Wu (N:Nat) (p_0:Pin) (r:Int) (h:Gk N p_0=some r):PCall Try.prog 70 [pD p_0] [] (.int r):=by
 unfold Gk at h
 refine Ah (TT:=TT) tt Try.func70 rfl rfl Try.ntmps70 (congrArg Array.toList Try.results70) rfl rfl fun w0=>?_
 refine Ag ?_
 refine Aa ?_
 refine Km rfl rfl rfl rfl rfl rfl rfl rfl rfl ?_
 refine oV5 tt rfl Tvv ?_
 refine Ae ?_
 show VC ..
 iterate 2 refine Ag ?_
 refine Aa ?_
 refine oV5 tt rfl Tvv ?_
 obtain ⟨v1,hc1,h⟩:=Ac h
 refine Ba (Ju N p_0 v1 hc1) rfl rfl rfl rfl rfl rfl rfl rfl ⟨⟨rfl,rfl,rfl,Tvv⟩,Tvv⟩ ?_
 refine oV5 tt rfl Tvv ?_
 refine Ae ?_
 show VC ..
 refine Au rfl (fun hb2=>?_) (fun hb2=>?_)
 ·replace h:=Ai hb2 h
  refine Ag ?_
  refine Aa ?_
  refine oV5 tt rfl Tvv ?_
  refine Ae ?_
  show VC ..
  refine Bb ?_
  show ∃ _,_
  cases h
  exact ⟨[],_,rfl,Tvv,rfl,(.eq rfl),rfl⟩
 replace h:=Aj hb2 h
 refine Ar ?_
 show VC ..
 refine Ag ?_
 refine Bl 6 [1] [0,1,3,7,0,19,63,127] (by kernel_rfl) (by kernel_rfl) (by kernel_rfl) (by kernel_rfl) (by kernel_rfl) rfl (by rfl) ?_
 refine Bo tt rfl (Ad rfl) rfl rfl rfl rfl rfl Tvv ?_
 obtain ⟨v2,hc3,h⟩:=Ac h
 refine Jh (Mq N p_0 v2 hc3) rfl (Ad rfl) rfl rfl rfl rfl rfl rfl (by first | rfl | kernel_rfl | (simp [nrL,nm,Dy,nmT,Es]; done)) rfl (by first | rfl | kernel_rfl | (simp [Jj,nrL,nm,Dy,nmT,Es,hid,Ez,Cf,Bn]; done) | (simp [Jj,nrL,nm,Dy,nmT,Es,hid,Ez,Cf,Bn]; decide)) ⟨⟨rfl,rfl,rfl,Tvv⟩,Tvv⟩ ?_
 refine Bo tt rfl (Ad rfl) rfl rfl rfl rfl rfl Tvv ?_
 obtain ⟨hg4,h⟩:=Ab h
 refine Bo tt rfl (Ad rfl) rfl rfl rfl rfl rfl hg4 ?_
 refine Bo tt rfl (Ad rfl) rfl rfl rfl rfl rfl Tvv ?_
 obtain ⟨v3,hc5,h⟩:=Ac h
 refine Lr (Aak N p_0 v3 hc5) rfl (Ad rfl) rfl rfl rfl rfl rfl rfl rfl rfl ⟨⟨rfl,rfl,rfl,Tvv⟩,Tvv⟩ ?_
 refine Lt ?_
 show VO _ _ _ _ _
 obtain ⟨hg6,h⟩:=Ab h
 refine oV5 tt rfl hg6 ?_
 refine oV5 tt rfl Tvv ?_
 refine Ae ?_
 show VC ..
 refine Bb ?_
 show ∃ _,_
 cases h
 exact ⟨[],_,rfl,Tvv,rfl,(.eq rfl),rfl⟩
end
section
variable {n:Nat} {f T:List Int} {a b:Int}
abbrev brI (bars:List (Int×Int)) (i:Int):Int×Int:=bars.getD i.toNat (0,0)
structure PG (n:Nat) (bars:List (Int×Int)) (p:Pbl):Prop where
 inv:PInv n (p.placed.map (brI bars)) p.free p.tails
 pl:∀ i∈p.placed,0≤i∧i<(bars.length:Int)
theorem fsum_nn {n:Nat} {X:VS} {f:List Int} (nn:∀ v:Nat,v<n→0≤f.getD v 0):∀ m,m≤n→0≤fsum X f m
 | 0,_=>by simp [fsum]
 | m+1,hm=>by
  have ih:=fsum_nn (X:=X) nn m (by omega)
  have:=nn m (by omega)
  rw [fsum]; split <;> omega
theorem PInv.tlen {E:List (Int×Int)} (h:PInv n E f T):T.length≤2*n:=by
 have h1:=h.sum fun _=>true
 have h2:=fsum_nn (X:=fun _=>true) h.nn n (Nat.le_refl _)
 have h3:T.countP (fun _=>true)=T.length:=by simp
 have h4:vsz n (fun _=>true)=n:=by simp [vsz]
 rw [h3,h4] at h1
 omega
theorem eAt {bars:List (Int×Int)} {pl:List Int} {i:Nat} (h:i<pl.length):(pl.map (brI bars)).getD i (0,0)=bars.getD (pl.getD i 0).toNat (0,0):=by
 simp [List.getD_eq_getElem?_getD,List.getElem?_eq_getElem h]
section
variable {g:Grf} {p:Pbl} {N:Nat} (hN:4000000≤N) (hn:n≤1000) (hg:g.n=n) (hp:PG n g.bars p)
include hp in
theorem PG.plAt {i:Nat} (h:i<p.placed.length):0≤p.placed.getD i 0∧p.placed.getD i 0<(g.bars.length:Int):=hp.pl _ (Dc h)
include hp in
theorem PG.bok {i:Nat} (h:i<p.placed.length):Bok n (g.bars.getD (p.placed.getD i 0).toNat (0,0)):=by
 rw [←eAt h]; exact hp.inv.ok _ (Dc (by simpa using h))
theorem other_s {n:Nat} (hn:n≤1000) {e:Int×Int} (he:Bok n e) {v:Int} (hv:0≤v∧v<n):Eg N e v=some (oth e v):=by
 obtain ⟨h1,h2,h3,h4,_⟩:=he
 unfold Eg
 rw [At (by omega) (by omega),At (by omega) (by omega)]; rfl
include hn hp in
theorem shift_s {from':List Int} {q:List Int} {u:Int} {v1:Pbl} {kk:List Int→Option Pbl} (hfl:from'.length=n) (hb:BI n (p.placed.map (brI g.bars)) p.tails a q (fun v=>from'.getD v.toNat 0)) (hv1:v1.tails.length=p.tails.length) :
  ∀ (fuel j:Nat) (T':List Int),j<q.length→j<fuel→Mv (p.placed.map (brI g.bars)) p.tails T' u (q.getD j 0) →
   (∀ j',0<j'→j'≤j→T'.getD (from'.getD (q.getD j' 0).toNat 0).toNat 0=p.tails.getD (from'.getD (q.getD j' 0).toNat 0).toNat 0) →
   ∃ T'',Mv (p.placed.map (brI g.bars)) p.tails T'' u a∧Hr N g p from' a v1 kk fuel (T',q.getD j 0)=kk T'':=by
 intro fuel
 induction fuel with
 | zero=>intro j T' _ h; omega
 | succ fuel ih=>
  intro j T' hj hf hm hun
  rw [Hr]
  by_cases h0:j=0
  ·subst h0
   refine ⟨T',by rw [hb.hd] at hm; exact hm,?_⟩
   rw [Hn hb.hd]
  have hne:¬ q.getD j 0=a:=by
   intro e
   rw [←hb.hd] at e
   have hp0:=hb.pos
   rw [List.getD_eq_getElem?_getD,List.getD_eq_getElem?_getD,List.getElem?_eq_getElem hj,List.getElem?_eq_getElem hp0] at e
   have:=(List.getElem_inj hb.nd).1 e
   omega
  obtain ⟨j',i,g1,g2,g3,g4,g5,g6,g7⟩:=hb.back hp.inv (by omega) hj hm hun
  have hip:i<p.placed.length:=by simpa using g2
  obtain ⟨T'',k1,k2⟩:=ih j' (T'.set i (q.getD j 0)) (by omega) (by omega) g6 g7
  refine ⟨T'',k1,?_⟩
  have hr:=hb.rg _ (Dc (d:=0) hj)
  have hpl:=hp.plAt hip
  have htl:=hp.inv.tl
  have hml:=hm.len
  have eo:=other_s (N:=N) hn (hp.bok hip) hr
  rw [←eAt hip,g4] at eo
  rw [eAt hip] at eo
  simp only [List.length_map] at htl
  simp (disch:=omega) only [Int.toNat_natCast,tk0,List.length_cons,List.length_nil,Af,Ay,At,Al,Ak,cnd_true,cnd_false,Option.bind_some,Lq hne,g3,eo,hfl,hv1,hml,htl,k2]
include hN hn hp in
theorem shiftS_s {from':List Int} {q:List Int} {j:Nat} (hfl:from'.length=n) (hb:BI n (p.placed.map (brI g.bars)) p.tails a q (fun v=>from'.getD v.toNat 0)) (hj:j<q.length) (hj0:0<j) (hbr:0≤b∧b<n) (hub:q.getD j 0≠b) (hab:a≠b) (hf:1≤p.free.getD (q.getD j 0).toNat 0) :
  ∃ p':Pbl,Rj N g p from' a (q.getD j 0)=some p'∧Won n (p.placed.map (brI g.bars)) p.free p'.free p'.tails a b∧p'.placed=p.placed:=by
 have hu:=hb.rg _ (Dc (d:=0) hj)
 have ha:0≤a∧a<n:=by have:=hb.rg _ (Dc (d:=0) hb.pos); rwa [hb.hd] at this
 have hua:q.getD j 0≠a:=by
  intro e
  rw [←hb.hd] at e
  have hp0:=hb.pos
  rw [List.getD_eq_getElem?_getD,List.getD_eq_getElem?_getD,List.getElem?_eq_getElem hj,List.getElem?_eq_getElem hp0] at e
  have:=(List.getElem_inj hb.nd).1 e
  omega
 have hle:=hb.len
 obtain ⟨T'',k1,k2⟩:=shift_s hn hp (N:=N) (v1:=⟨[]++p.free,[]++p.tails,[]++p.placed⟩) (u:=q.getD j 0)
  (kk:=fun l7=>grd (p.free.length=(Xr p.free (q.getD j 0) a).length) <| grd (p.tails.length=l7.length) <| some ⟨Xr p.free (q.getD j 0) a,l7,p.placed⟩) hfl hb (by simp) N j p.tails hj (by omega) (Mv.start hp.inv _) (fun _ _ _=>rfl)
 refine ⟨⟨Xr p.free (q.getD j 0) a,T'',p.placed⟩,?_,k1.won hp.inv ha hu hbr hua hub hab hf,rfl⟩
 have f1:=hp.inv.fl
 have t1:=hp.inv.tl
 have t2:=hp.inv.tlen
 have t3:=k1.len
 simp only [List.length_map] at t1
 have b1:p.free.getD (q.getD j 0).toNat 0≤2:=hp.inv.le2 (by omega)
 have b2:0≤(p.free.set (q.getD j 0).toNat (p.free.getD (q.getD j 0).toNat 0-1)).getD a.toNat 0∧(p.free.set (q.getD j 0).toNat (p.free.getD (q.getD j 0).toNat 0-1)).getD a.toNat 0≤2:=by
  rw [Jd]
  have:=hp.inv.le2 (v:=a.toNat) (by omega)
  have:=hp.inv.nn a.toNat (by omega)
  split <;> omega
 unfold Rj Sj
 simp (disch:=omega) only [Int.toNat_natCast,tk0,List.length_cons,List.length_nil,Af,Ay,At,Al,Ak,cnd_true,cnd_false,Option.bind_some,List.nil_append,List.length_set]
 simp only [List.nil_append] at k2
 simp only [Xr,List.length_set,Ay] at k2 ⊢
 rw [k2]
 exact Af t3.symm _
structure FSt (n:Nat) (bars:List (Int×Int)) (p:Pbl) (a b:Int) (from' q:List Int) (seen:List Bool):Prop where
 bi:BI n (p.placed.map (brI bars)) p.tails a q (fun v=>from'.getD v.toNat 0)
 bz:BZ p.free a b q
 fl:from'.length=n
 sl:seen.length=n
 sq:∀ v:Int,0≤v→v<n→seen.getD v.toNat false=decide (v∈q)
theorem oth_rg {e:Int×Int} (he:Bok n e) {v:Int} (h:v=e.1∨v=e.2):0≤oth e v∧oth e v<n:=by
 obtain ⟨h1,h2,h3,h4,_⟩:=he
 unfold oth
 rcases h with rfl | rfl <;> omega
theorem FSt.pushB {bars:List (Int×Int)} {from' q:List Int} {seen:List Bool} (h:FSt n bars p a b from' q seen) {k i:Nat} {v:Int} (hk:k<q.length) (hi:i<p.placed.length) (ht:p.tails.getD i 0=q.getD k 0) (hv:oth ((p.placed.map (brI bars)).getD i (0,0)) (q.getD k 0)=v) (hr:0≤v∧v<n) (hn:v∉q) :
  BI n (p.placed.map (brI bars)) p.tails a (q++[v]) (fun w=>(from'.set v.toNat (i:Int)).getD w.toNat 0):=by
 have hfl:=h.fl
 refine h.bi.push (fr':=fun w=>(from'.set v.toNat i).getD w.toNat 0) hk (by simpa using hi) ht hv hr hn ?_ fun w hw=>?_
 ·show (from'.set v.toNat i).getD v.toNat 0=i
  rw [Jd,if_pos ⟨rfl,by omega⟩]
 show (from'.set v.toNat i).getD w.toNat 0=from'.getD w.toNat 0
 have:=h.bi.rg w hw
 have hne:w≠v:=fun e=>hn (e ▸ hw)
 rw [Jd,if_neg (by omega)]
theorem FSt.push {bars:List (Int×Int)} {from' q:List Int} {seen:List Bool} (h:FSt n bars p a b from' q seen) {k i:Nat} {v:Int} (hk:k<q.length) (hi:i<p.placed.length) (ht:p.tails.getD i 0=q.getD k 0) (hv:oth ((p.placed.map (brI bars)).getD i (0,0)) (q.getD k 0)=v) (hr:0≤v∧v<n) (hn:v∉q) (hz:v=b∨p.free.getD v.toNat 0=0) :
  FSt n bars p a b (from'.set v.toNat i) (q++[v]) (seen.set v.toNat true):=by
 have hfl:=h.fl
 have hsl:=h.sl
 refine ⟨h.pushB hk hi ht hv hr hn,h.bz.push hz,by simp [hfl],by simp [hsl],fun w h1 h2=>?_⟩
 rw [Jd]
 by_cases e:w=v
 ·subst e
  rw [if_pos ⟨rfl,by omega⟩]; simp
 rw [if_neg (by omega),h.sq w h1 h2]
 simp [e]
include hN hn hg hp in
theorem find2_s {l106:List Int} {kk:(List Int×List Int×List Bool)→Option (Pbl×Bool)} {k:Nat} (hab:a≠b) (hbr:0≤b∧b<n) :
  ∀ (fuel m:Nat) (from' q:List Int) (seen:List Bool),m≤p.placed.length→p.placed.length<fuel+m→FSt n g.bars p a b from' q seen→Done (p.placed.map (brI g.bars)) p.tails q k m→k<q.length→q.getD k 0=l106.getD k 0 →
   (∃ p':Pbl,Dd N g p a b l106 k kk fuel (from',q,seen,(m:Int))=some (p',true)∧Won n (p.placed.map (brI g.bars)) p.free p'.free p'.tails a b∧p'.placed=p.placed) ∨
   ∃ from'' q' seen',Dd N g p a b l106 k kk fuel (from',q,seen,(m:Int))=kk (from'',q',seen')∧FSt n g.bars p a b from'' q' seen'∧Done (p.placed.map (brI g.bars)) p.tails q' (k+1) 0∧k<q'.length:=by
 intro fuel
 induction fuel with
 | zero=>intro m _ _ _ h1 h2; omega
 | succ fuel ih=>
  intro m from' q seen h1 h2 hF hD hk hq
  rw [Dd]
  have hlen:(p.placed.map (brI g.bars)).length=p.placed.length:=by simp
  by_cases hm:m<p.placed.length
  ·have htl:=hp.inv.tl
   have hfr:=hp.inv.fl
   have hfl:=hF.fl
   have hsl:=hF.sl
   rw [hlen] at htl
   have hpl:=hp.plAt hm
   have ht2:=hp.inv.tlen
   by_cases ht:p.tails.getD m 0=q.getD k 0
   ·have hbk:=hp.bok hm
    have hen:=hp.inv.en m (by rw [hlen]; exact hm)
    rw [eAt hm] at hen
    rw [ht] at hen
    have hr0:=hF.bi.rg _ (Dc (d:=0) hk)
    have eo:=other_s (N:=N) hn hbk hr0
    have hvr:=oth_rg hbk hen
    have ht':p.tails.getD m 0=l106.getD k 0:=ht.trans hq
    rw [hq] at eo
    generalize hv:oth (g.bars.getD (p.placed.getD m 0).toNat (0,0)) (q.getD k 0)=v at hvr
    rw [←hq,hv] at eo
    rw [hq] at eo
    have hvo:oth ((p.placed.map (brI g.bars)).getD m (0,0)) (q.getD k 0)=v:=by rw [eAt hm,hv]
    have hsq:=hF.sq v hvr.1 hvr.2
    by_cases hs:v∈q
    ·have hsq:seen.getD v.toNat false=true:=by rw [hsq]; exact decide_eq_true hs
     simp (disch:=omega) only [Int.toNat_natCast,tk0,List.length_cons,List.length_nil,Af,Ay,At,Al,Ak,cnd_true,cnd_false,Option.bind_some,Hn ht',eo,hsq,hg,List.length_replicate,Am]
     exact ih (m+1) from' q seen (by omega) (by omega) hF (hD.step fun _ _=>by rw [hvo]; exact hs) hk hq
    have hsq:seen.getD v.toNat false=false:=by rw [hsq]; exact decide_eq_false hs
    have hD':Done (p.placed.map (brI g.bars)) p.tails (q++[v]) k (m+1):=(hD.push hk).step fun _ _=>by rw [Hv hk,hvo]; simp
    have hql:=hF.bi.len
    by_cases hvb:v=b
    ·have hF':=hF.push (i:=m) hk hm ht hvo hvr hs (.inl hvb)
     simp (disch:=omega) only [Int.toNat_natCast,tk0,List.length_cons,List.length_nil,Af,Ay,At,Al,Ak,cnd_true,cnd_false,Option.bind_some,Hn ht',eo,hsq,hg,List.length_replicate,Am,Hn hvb]
     exact ih (m+1) _ _ _ (by omega) (by omega) hF' hD' (by simp; omega) (by rw [Hv hk]; exact hq)
    by_cases hz:p.free.getD v.toNat 0 > 0
    ·left
     have hb2:BI n (p.placed.map (brI g.bars)) p.tails a (q++[v]) (fun w=>(from'.set v.toNat (m:Int)).getD w.toNat 0):=hF.pushB hk hm ht hvo hvr hs
     have e1:(q++[v]).getD q.length 0=v:=by rw [Qr]; simp
     obtain ⟨p',s1,s2,s3⟩:=shiftS_s hN hn hp (from':=from'.set v.toNat (m:Int)) (q:=q++[v]) (j:=q.length) (a:=a) (b:=b) (by simp [hfl]) hb2 (by simp) (by have:=hF.bi.pos; omega) hbr (by rw [e1]; exact hvb) hab (by rw [e1]; omega)
     rw [e1] at s1
     refine ⟨p',?_,s2,s3⟩
     simp (disch:=omega) only [Int.toNat_natCast,tk0,List.length_cons,List.length_nil,Af,Ay,At,Al,Ak,cnd_true,cnd_false,Option.bind_some,Hn ht',eo,hsq,hg,List.length_replicate,List.length_set,Am,Lq hvb,s1]
    have hz0:p.free.getD v.toNat 0=0:=by have:=hp.inv.nn v.toNat (by omega); omega
    have hF':=hF.push (i:=m) hk hm ht hvo hvr hs (.inr hz0)
    simp (disch:=omega) only [Int.toNat_natCast,tk0,List.length_cons,List.length_nil,Af,Ay,At,Al,Ak,cnd_true,cnd_false,Option.bind_some,Hn ht',eo,hsq,hg,List.length_replicate,Am,Lq hvb]
    exact ih (m+1) _ _ _ (by omega) (by omega) hF' hD' (by simp; omega) (by rw [Hv hk]; exact hq)
   have ht':¬ p.tails.getD m 0=l106.getD k 0:=by rw [←hq]; exact ht
   simp (disch:=omega) only [Int.toNat_natCast,tk0,List.length_cons,List.length_nil,Af,Ay,At,Al,Ak,cnd_true,cnd_false,Option.bind_some,Lq ht',Am]
   exact ih (m+1) from' q seen (by omega) (by omega) hF (hD.step fun _ e=>absurd e ht) hk hq
  right
  have e:m=(p.placed.map (brI g.bars)).length:=by omega
  refine ⟨from',q,seen,?_,hF,by subst e; exact hD.next,hk⟩
  simp (disch:=omega) only [Int.toNat_natCast,tk0,List.length_cons,List.length_nil,Af,Ay,At,Al,Ak,cnd_true,cnd_false,Option.bind_some]
include hN hn hg hp in
theorem find1_s {kk:Unit→Option (Pbl×Bool)} (hab:a≠b) (hbr:0≤b∧b<n) :
  ∀ (fuel k:Nat) (from' q:List Int) (seen:List Bool),n<fuel+k→FSt n g.bars p a b from' q seen→Done (p.placed.map (brI g.bars)) p.tails q k 0→k≤q.length →
   (∃ p':Pbl,Ca N g p a b kk fuel (from',q,seen,(k:Int))=some (p',true)∧Won n (p.placed.map (brI g.bars)) p.free p'.free p'.tails a b∧p'.placed=p.placed) ∨
   (Ca N g p a b kk fuel (from',q,seen,(k:Int))=kk ()∧Shut n (p.placed.map (brI g.bars)) p.free p.tails a b):=by
 intro fuel
 induction fuel with
 | zero=>intro k from' q seen h1 hF hD hk; have:=hF.bi.len; omega
 | succ fuel ih=>
  intro k from' q seen h1 hF hD hk
  rw [Ca]
  have ht2:=hp.inv.tlen
  have htl:=hp.inv.tl
  simp only [List.length_map] at htl
  by_cases hkq:k<q.length
  ·have hql:=hF.bi.len
   have key:=find2_s (l106:=q) (kk:=(fun (x:(List Int)×(List Int)×(List Bool))=>
     match x with
     | (l143,l144,l145)=>
      grd (Bf ((k:Int)+(1:Int))) <|
      Ca N g p a b kk fuel (l143,l144,l145,((k:Int)+(1:Int))))) hN hn hg hp hab hbr N 0 from' q seen (by omega) (by omega) hF hD hkq rfl
   rw [show ((0:Nat):Int)=0 from rfl] at key
   rcases key with ⟨p',g1,g2,g3⟩ | ⟨f2,q2,s2,g1,g2,g3,g4⟩
   ·left
    refine ⟨p',?_,g2,g3⟩
    rw [Al (by omega),Af (by omega)]
    exact g1
   have e:Ca N g p a b kk (fuel+1) (from',q,seen,(k:Int))=Ca N g p a b kk fuel (f2,q2,s2,((k+1:Nat):Int)):=by
    rw [Ca]
    rw [Al (by omega),Af (by omega)]
    refine g1.trans ?_
    have:=g2.bi.len
    simp (disch:=omega) only [Int.toNat_natCast,tk0,List.length_cons,List.length_nil,Af,Ay,At,Al,Ak,cnd_true,cnd_false,Option.bind_some,Am]
   rw [Ca] at e
   rw [e]
   exact ih (k+1) f2 q2 s2 (by omega) g2 g3 (by omega)
  right
  refine ⟨?_,hF.bi.shut hF.bz hD (by omega)⟩
  simp (disch:=omega) only [Int.toNat_natCast,tk0,List.length_cons,List.length_nil,Af,Ay,At,Al,Ak,cnd_true,cnd_false,Option.bind_some]
theorem find3_s {kk:List Int→Option (Pbl×Bool)} (hN:4000000≤N) (hn:n≤1000) (hg:g.n=n):∀ (fuel i:Nat) (l:List Int),n<fuel+i→i≤n→l.length=n→∃ l':List Int,l'.length=n∧Fy N g kk fuel (l,(i:Int))=kk l':=by
 intro fuel
 induction fuel with
 | zero=>intro i l h1 h2 h3; omega
 | succ fuel ih=>
  intro i l h1 h2 h3
  rw [Fy]
  by_cases hi:i<n
  ·obtain ⟨l',g1,g2⟩:=ih (i+1) (l.set i (-1)) (by omega) (by omega) (by simp [h3])
   refine ⟨l',g1,?_⟩
   simp (disch:=omega) only [Int.toNat_natCast,tk0,List.length_cons,List.length_nil,Af,Ay,At,Al,Ak,cnd_true,cnd_false,Option.bind_some,hg,List.length_replicate,Am]
   exact g2
  refine ⟨l,h3,?_⟩
  simp (disch:=omega) only [Int.toNat_natCast,tk0,List.length_cons,List.length_nil,Af,Ay,At,Al,Ak,cnd_true,cnd_false,Option.bind_some,hg]
include hN hn hg hp in
theorem find_s (hb:Bok n (a,b)) :
  (∃ p':Pbl,Lf N g p a b=some (p',true)∧Won n (p.placed.map (brI g.bars)) p.free p'.free p'.tails a b∧p'.placed=p.placed) ∨
  (Lf N g p a b=some (p,false)∧Shut n (p.placed.map (brI g.bars)) p.free p.tails a b):=by
 obtain ⟨h1,h2,h3,h4,h5⟩:=hb
 simp only at h1 h2 h3 h4 h5
 have e:∃ l:List Int,l.length=n∧Lf N g p a b=Ca N g p a b (fun _=>some (p,false)) N (l,[a],(List.replicate n false).set a.toNat true,((0:Nat):Int)):=by
  obtain ⟨l,g1,g2⟩:=find3_s (N:=N) (kk:=fun (l3:List Int)=>
    grd (0≤a∧a<((List.replicate ((g.n).toNat) (false:Bool)).length:Int)) <|
    Ca N g p a b (fun (_:Unit)=>some ((⟨p.free,p.tails,p.placed⟩:Pbl),false)) N (l3,([a]:List Int),((List.replicate ((g.n).toNat) (false:Bool)).set ((a).toNat) true),(0:Int))) hN hn hg N 0 (List.replicate n 0) (by omega) (by omega) (by simp)
  refine ⟨l,g1,?_⟩
  unfold Lf
  rw [Af (by omega)]
  simp only [hg,Int.toNat_natCast] at g2 ⊢
  refine g2.trans ?_
  simp (disch:=omega) only [Int.toNat_natCast,tk0,List.length_cons,List.length_nil,Af,Ay,At,Al,Ak,cnd_true,cnd_false,Option.bind_some,List.length_replicate]
  rfl
 obtain ⟨l,hl,e⟩:=e
 rw [e]
 refine find1_s (kk:=fun _=>some (p,false)) hN hn hg hp h5 ⟨h3,h4⟩ N 0 l [a] _ (by omega) ⟨BI.start ⟨h1,h2⟩,fun v hv h _=>absurd (by simpa using hv) h,hl,by simp,fun v g1 g2=>?_⟩ Done.start (by simp)
 rw [Jd]
 by_cases e:v=a
 ·subst e
  rw [if_pos ⟨rfl,by simp; omega⟩]; simp
 rw [if_neg (by omega)]
 simp [e,List.getD_eq_getElem?_getD,List.getElem?_replicate]
 split <;> rfl
end
section
variable {g:Grf} {N:Nat} (hN:4000000≤N) (hn:n≤1000) (hg:g.n=n)
theorem Won.pg {bars:List (Int×Int)} {p p':Pbl} (hp:PG n bars p) (h:Won n (p.placed.map (brI bars)) p.free p'.free p'.tails a b) (he:p'.placed=p.placed):PG n bars p':=⟨by rw [he]; exact h.inv,by rw [he]; exact hp.pl⟩
theorem Won.symm' {E:List (Int×Int)} {f f' T':List Int} (h:Won n E f f' T' a b):f'.getD a.toNat 0+f'.getD b.toNat 0=f.getD a.toNat 0+f.getD b.toNat 0+1:=by rw [h.up,h.keep]; omega
theorem Bok.swap (h:Bok n (a,b)):Bok n (b,a):=⟨h.2.2.1,h.2.2.2.1,h.1,h.2.1,h.2.2.2.2.symm⟩
include hN hn hg in
theorem gather1_s (hb:Bok n (a,b)) {kk:(List Int×List Int×List Int)→Option (Pbl×Bool)}:∀ (fuel:Nat) (p:Pbl),PG n g.bars p→4<fuel+(p.free.getD a.toNat 0+p.free.getD b.toNat 0) →
  ∃ p':Pbl,p'.placed=p.placed∧PG n g.bars p'∧((Ei N g a b 4 kk fuel (p.free,p.tails,p.placed)=kk (p'.free,p'.tails,p'.placed)∧4≤p'.free.getD a.toNat 0+p'.free.getD b.toNat 0) ∨
   (Ei N g a b 4 kk fuel (p.free,p.tails,p.placed)=some (p',false)∧∃ X,Tgt n (p.placed.map (brI g.bars)) X∧inX X (a,b)=true)):=by
 obtain ⟨h1,h2,h3,h4,h5⟩:=id hb
 simp only at h1 h2 h3 h4 h5
 intro fuel
 induction fuel with
 | zero=>
  intro p hp hf
  have:=hp.inv.le2 (v:=a.toNat) (by omega)
  have:=hp.inv.le2 (v:=b.toNat) (by omega)
  omega
 | succ fuel ih=>
  intro p hp hf
  have fl:=hp.inv.fl
  have l1:=hp.inv.le2 (v:=a.toNat) (by omega)
  have l2:=hp.inv.le2 (v:=b.toNat) (by omega)
  have n1:=hp.inv.nn a.toNat (by omega)
  have n2:=hp.inv.nn b.toNat (by omega)
  rw [Ei]
  by_cases hs:p.free.getD a.toNat 0+p.free.getD b.toNat 0<4
  ·rcases find_s hN hn hg hp hb with ⟨p1,f1,f2,f3⟩ | ⟨f1,f2⟩
   ·obtain ⟨p',g1,g2,g3⟩:=ih p1 (f2.pg hp f3) (by have:=f2.symm'; omega)
    refine ⟨p',g1.trans f3,g2,?_⟩
    rw [f3] at g3
    have e:(⟨p.free,p.tails,p.placed⟩:Pbl)=p:=rfl
    simp (disch:=omega) only [Int.toNat_natCast,tk0,List.length_cons,List.length_nil,Af,Ay,At,Al,Ak,cnd_true,cnd_false,Option.bind_some,e,f1]
    rw [f3]
    exact g3
   rcases find_s hN hn hg hp hb.swap with ⟨p1,k1,k2,k3⟩ | ⟨k1,k2⟩
   ·obtain ⟨p',g1,g2,g3⟩:=ih p1 (k2.pg hp k3) (by have:=k2.symm'; omega)
    refine ⟨p',g1.trans k3,g2,?_⟩
    rw [k3] at g3
    have e:(⟨p.free,p.tails,p.placed⟩:Pbl)=p:=rfl
    simp (disch:=omega) only [Int.toNat_natCast,tk0,List.length_cons,List.length_nil,Af,Ay,At,Al,Ak,cnd_true,cnd_false,Option.bind_some,e,f1,k1]
    rw [k3]
    exact g3
   refine ⟨p,rfl,hp,.inr ⟨?_,Shut.tgt hp.inv hb f2 k2 (by omega)⟩⟩
   have e:(⟨p.free,p.tails,p.placed⟩:Pbl)=p:=rfl
   simp (disch:=omega) only [Int.toNat_natCast,tk0,List.length_cons,List.length_nil,Af,Ay,At,Al,Ak,cnd_true,cnd_false,Option.bind_some,e,f1,k1]
  refine ⟨p,rfl,hp,.inl ⟨?_,by omega⟩⟩
  simp (disch:=omega) only [Int.toNat_natCast,tk0,List.length_cons,List.length_nil,Af,Ay,At,Al,Ak,cnd_true,cnd_false,Option.bind_some]
include hN hn hg in
theorem gather_s (hb : Bok n (a, b)) {p : Pbl} (hp : PG n g.bars p) : ∃ p' : Pbl, p'.placed = p.placed ∧ PG n g.bars p' ∧ ((Mh N g p a b 4 = some (p', true) ∧ 4 ≤ p'.free.getD a.toNat 0 + p'.free.getD b.toNat 0) ∨
   (Mh N g p a b 4=some (p',false)∧∃ X,Tgt n (p.placed.map (brI g.bars)) X∧inX X (a,b)=true)):=by
 obtain ⟨h1,h2,h3,h4,h5⟩:=id hb
 simp only at h1 h2 h3 h4 h5
 have n1:=hp.inv.nn a.toNat (by omega)
 have n2:=hp.inv.nn b.toNat (by omega)
 have fl:=hp.inv.fl
 have tl:=hp.inv.tl
 simp only [List.length_map] at tl
 have t2:=hp.inv.tlen
 obtain ⟨p',g1,g2,g3⟩:=gather1_s hN hn hg hb (kk:=fun x=>match x with | (l11,l12,l13)=>some ((⟨l11,l12,l13⟩:Pbl),true)) N p hp (by omega)
 refine ⟨p',g1,g2,?_⟩
 unfold Mh Sj
 simp (disch:=omega) only [Int.toNat_natCast,tk0,List.length_cons,List.length_nil,Af,Ay,At,Al,Ak,cnd_true,cnd_false,Option.bind_some,List.nil_append]
 exact g3
end
end
section
variable (N:Nat)
theorem l1In_s (x lo hi:Int):We N x lo hi=some (inB x lo hi):=by
 unfold We inB
 rw [Fk]
 show some (cnd (decide (lo≤x)) _ _)=_
 cases decide (lo≤x) <;> rfl
theorem within_s (x lo hi:Int):Qu N x lo hi=some (inB x lo hi):=by
 unfold Qu inB
 rw [Fk]
 show some (cnd (decide (lo≤x)) _ _)=_
 cases decide (lo≤x) <;> rfl
theorem Ln (hN:4000000≤N) {l:List Int} (hl:l.length≤3000000) (x:Int):Cw N l x=some (l.contains x):=by
 unfold Cw
 refine (srch (len:=l.length) (ok:=fun i=>!(l.getD i 0==x)) (bad:=some true) (fin:=some false) (by omega) ?_ ?_).trans ?_
 ·intro n i hi _
  rw [Kq]
  simp (disch:=omega) only [Int.toNat_natCast,tk0,List.length_cons,List.length_nil,Af,Ay,At,Al,Ak,cnd_true,cnd_false,Option.bind_some,Lb,Am]
 ·intro n _
  rw [Kq]
  simp (disch:=omega) only [Int.toNat_natCast,tk0,List.length_cons,List.length_nil,Af,Ay,At,Al,Ak,cnd_true,cnd_false,Option.bind_some]
 rw [Rc,Fk]; cases l.contains x <;> rfl
theorem indexInt_l (hN:4000000≤N) {l:List Int} (hl:l.length≤3000000) (x:Int):∀ n i:Nat,i≤l.length→l.length<n+i→∃ r:Int,Fv N l x (fun _=>some (-1)) n (i:Int)=some r∧(decide (r≥0)=(l.drop i).contains x):=by
 intro n
 induction n with
 | zero=>intro i h1 h2; omega
 | succ n ih=>
  intro i h1 h2
  rw [Fv]
  by_cases hi:i<l.length
  ·simp (disch:=omega) only [Int.toNat_natCast,tk0,List.length_cons,List.length_nil,Af,Ay,At,Al,Ak,cnd_true,cnd_false,Option.bind_some]
   rw [List.drop_eq_getElem_cons hi,List.contains_cons]
   have e:l.getD i 0=l[i]:=by simp [List.getD_eq_getElem?_getD,hi]
   rw [e]
   cases h:x==l[i] with
   | true=>exact ⟨i,rfl,by simp⟩
   | false=>
    obtain ⟨r,h1,h2⟩:=ih (i+1) (by omega) (by omega)
    exact ⟨r,h1,by rw [h2]; rfl⟩
  simp (disch:=omega) only [Int.toNat_natCast,tk0,List.length_cons,List.length_nil,Af,Ay,At,Al,Ak,cnd_true,cnd_false,Option.bind_some]
  exact ⟨-1,rfl,by rw [List.drop_eq_nil_of_le (by omega)]; rfl⟩
theorem Mj (hN:4000000≤N) {l:List Int} (hl:l.length≤3000000) (x:Int):Cn N l x=some (l.contains x):=by
 unfold Cn Qp
 obtain ⟨r,h1,h2⟩:=indexInt_l N hN hl x N 0 (by omega) (by omega)
 rw [show (0:Int)=((0:Nat):Int) from rfl,h1]
 show some (decide (r≥0))=_
 rw [h2]; rfl
theorem Qi (a b:Int×Int):Qc N a b=some (Dx a b):=by
 unfold Qc Dx
 simp only [Fk]
 cases decide (a.1<b.1) <;> cases a.1==b.1 <;> rfl
theorem compareInts_s (a b:Int):Jf N a b=some (cmpI a b):=by
 unfold Jf cmpI
 by_cases h:a<b
 ·simp (disch:=omega) only [Int.toNat_natCast,tk0,List.length_cons,List.length_nil,Af,Ay,At,Al,Ak,cnd_true,cnd_false,Option.bind_some,if_pos h]
 by_cases h':b<a
 ·simp (disch:=omega) only [Int.toNat_natCast,tk0,List.length_cons,List.length_nil,Af,Ay,At,Al,Ak,cnd_true,cnd_false,Option.bind_some,if_neg h,if_pos h',gt_iff_lt]
 simp (disch:=omega) only [Int.toNat_natCast,tk0,List.length_cons,List.length_nil,Af,Ay,At,Al,Ak,cnd_true,cnd_false,Option.bind_some,if_neg h,if_neg h',gt_iff_lt]
theorem Wi (a b:Int×Int):Kf N a b=some (cmpBar a b):=by
 unfold Kf cmpBar
 simp only [compareInts_s,Option.bind_some]
 by_cases h:cmpI a.1 b.1=0
 ·rw [if_pos h,Hn h]
 rw [if_neg h,Lq h]
theorem cmpBar_gt (a b:Int×Int):decide (cmpBar a b > 0)=!Dx a b:=by
 have:=cmpBar_pos a b
 cases h:Dx a b with
 | true=>rw [h] at this; simp at this; simp; omega
 | false=>rw [h] at this; simp at this; simp; omega
theorem Mi (hN:4000000≤N) {g:Grf}:Jm N g=some (Ej g):=by
 unfold Jm Ej
 rw [l1In_s,Option.bind_some,Lb]
 cases h1:inB g.n 1 8 with
 | false=>rfl
 | true=>
  by_cases h2:g.bars.length≤24
  ·simp (disch:=omega) only [Int.toNat_natCast,tk0,List.length_cons,List.length_nil,Af,Ay,At,Al,Ak,cnd_true,cnd_false,Option.bind_some]
   refine (srch (len:=g.bars.length) (ok:=Xy g.n g.bars) (bad:=some false) (fin:=some true) (by omega) ?_ ?_).trans ?_
   ·intro n i hi _
    rw [Gq]
    by_cases h0:i=0
    ·subst h0
     simp (disch:=omega) only [Int.toNat_natCast,tk0,List.length_cons,List.length_nil,Af,Ay,At,Al,Ak,cnd_true,cnd_false,Option.bind_some,Qi,Xn,Xa,Am]
     refine Ep ?_ _ _
     simp only [Xy,So]
     rw [Bool.eq_iff_iff]; simp; omega
    simp (disch:=omega) only [Int.toNat_natCast,tk0,List.length_cons,List.length_nil,Af,Ay,At,Al,Ak,cnd_true,cnd_false,Option.bind_some,Qi,Xn,Xa,Am,show ((i:Int)-1).toNat=i-1 from by omega]
    refine Ep ?_ _ _
    simp only [Xy,So,decide_eq_false h0,Bool.false_or]
    cases Dx (g.bars.getD (i-1) (0,0)) (g.bars.getD i (0,0)) <;> (rw [Bool.eq_iff_iff]; simp; try omega)
   ·intro n _
    rw [Gq]
    simp (disch:=omega) only [Int.toNat_natCast,tk0,List.length_cons,List.length_nil,Af,Ay,At,Al,Ak,cnd_true,cnd_false,Option.bind_some]
   rw [Fk,Vt]; simp [h2]
  simp (disch:=omega) only [Int.toNat_natCast,tk0,List.length_cons,List.length_nil,Af,Ay,At,Al,Ak,cnd_true,cnd_false,Option.bind_some]
  simp [h2]
theorem isGraphI_s (hN:4000000≤N) {g:Grf}:Rt N g=some (Ej g):=by
 unfold Rt Ej
 rw [within_s,Option.bind_some,Lb]
 cases h1:inB g.n 1 8 with
 | false=>rfl
 | true=>
  by_cases h2:g.bars.length≤24
  ·simp (disch:=omega) only [Int.toNat_natCast,tk0,List.length_cons,List.length_nil,Af,Ay,At,Al,Ak,cnd_true,cnd_false,Option.bind_some]
   refine (srch (len:=g.bars.length) (ok:=Xy g.n g.bars) (bad:=some false) (fin:=some true) (by omega) ?_ ?_).trans ?_
   ·intro n i hi _
    rw [Gs]
    by_cases h0:i=0
    ·subst h0
     simp (disch:=omega) only [Int.toNat_natCast,tk0,List.length_cons,List.length_nil,Af,Ay,At,Al,Ak,cnd_true,cnd_false,Option.bind_some,Wi,cmpBar_gt,Xn,Xa,Am]
     refine Ep ?_ _ _
     simp only [Xy,So]
     rw [Bool.eq_iff_iff]; simp; omega
    simp (disch:=omega) only [Int.toNat_natCast,tk0,List.length_cons,List.length_nil,Af,Ay,At,Al,Ak,cnd_true,cnd_false,Option.bind_some,Wi,cmpBar_gt,Xn,Xa,Am,show ((i:Int)-1).toNat=i-1 from by omega]
    refine Ep ?_ _ _
    simp only [Xy,So,decide_eq_false h0,Bool.false_or]
    cases Dx (g.bars.getD (i-1) (0,0)) (g.bars.getD i (0,0)) <;> (rw [Bool.eq_iff_iff]; simp; try omega)
   ·intro n _
    rw [Gs]
    simp (disch:=omega) only [Int.toNat_natCast,tk0,List.length_cons,List.length_nil,Af,Ay,At,Al,Ak,cnd_true,cnd_false,Option.bind_some]
   rw [Fk,Vt]; simp [h2]
  simp (disch:=omega) only [Int.toNat_natCast,tk0,List.length_cons,List.length_nil,Af,Ay,At,Al,Ak,cnd_true,cnd_false,Option.bind_some]
  simp [h2]
end
section
variable {n:Nat} {N:Nat}
theorem tri {L:List (Int×Int)} (hL:Spr n L) (hok:∀ e∈L,Bok n e) {A B C:VS} (hA:Tgt n L A) (hB:Tgt n L B) (hC:Tgt n L C) {x y z:Int} (hx:0≤x∧x<n) (hy:0≤y∧y<n) (hz:0≤z∧z<n) (hxy:x≠y) (hxz:x≠z) (hyz:y≠z)
  (ax:A x=true) (ay:A y=true) (bx:B x=true) (bz:B z=true) (cy:C y=true) (cz:C z=true):∃ W,Tgt n L W∧W x=true∧W y=true∧W z=true:=by
 by_cases h1:2≤vsz n (vI A B)
 ·exact ⟨vU A B,hA.union hL hB h1,by simp [vU,ax],by simp [vU,ay],by simp [vU,bz]⟩
 by_cases h2:2≤vsz n (vI A C)
 ·exact ⟨vU A C,hA.union hL hC h2,by simp [vU,ax],by simp [vU,ay],by simp [vU,cz]⟩
 by_cases h3:2≤vsz n (vI B C)
 ·exact ⟨vU B C,hB.union hL hC h3,by simp [vU,bx],by simp [vU,cy],by simp [vU,bz]⟩
 have s1:Xv n A B:=by unfold Xv; omega
 have s2:Xv n A C:=by unfold Xv; omega
 have s3:Xv n B C:=by unfold Xv; omega
 have sums:∀ L':List (Int×Int),(∀ e∈L',Bok n e)→spn A L'+spn B L'+spn C L'≤spn (vU (vU A B) C) L':=by
  intro L'
  induction L' with
  | nil=>intro _; simp [spn]
  | cons e L' ih=>
   intro h
   have ih:=ih fun e he=>h e (by simp [he])
   have b:=h e (by simp)
   have t1:=spn_two s1 b
   have t2:=spn_two s2 b
   have t3:=spn_two s3 b
   rw [Gx,Gx,Gx,Gx]
   have up:(inX A e || inX B e || inX C e)=true→inX (vU (vU A B) C) e=true:=by
    simp only [inX,vU,Bool.or_eq_true,Bool.and_eq_true]
    rintro ((⟨g1,g2⟩ | ⟨g1,g2⟩) | ⟨g1,g2⟩)
    ·exact ⟨.inl (.inl g1),.inl (.inl g2)⟩
    ·exact ⟨.inl (.inr g1),.inl (.inr g2)⟩
    exact ⟨.inr g1,.inr g2⟩
   revert t1 t2 t3 up
   generalize inX A e=p
   generalize inX B e=q
   generalize inX C e=r
   generalize inX (vU (vU A B) C) e=w
   intro t1 t2 t3 up
   cases p <;> cases q <;> cases r <;> simp at t1 t2 t3 up ⊢ <;> first | omega | (subst up; simp; omega)
 have a1:=sums L hok
 have c1:=vsz_UI n A B
 have c2:=vsz_UI n (vU A B) C
 have d1:1≤vsz n (vI A B):=by
  obtain ⟨x',rfl⟩:=Int.eq_ofNat_of_zero_le hx.1
  exact List.countP_pos_iff.2 ⟨x',by simp; omega,by simp [vI,ax,bx]⟩
 have d2:2≤vsz n (vI (vU A B) C):=Je hy hz hyz (by simp [vI,vU,ay,cy]) (by simp [vI,vU,bz,cz])
 have e1:=hA.eq hL
 have e2:=hB.eq hL
 have e3:=hC.eq hL
 refine ⟨vU (vU A B) C,⟨?_,by omega⟩,by simp [vU,ax],by simp [vU,ay],by simp [vU,bz]⟩
 exact Je hx hy hxy (by simp [vU,ax]) (by simp [vU,ay])
structure Gm (n:Nat) (bars:List (Int×Int)) (p:Pbl) (i:Nat):Prop where
 pg:PG n bars p
 spr:Spr n (p.placed.map (brI bars))
 sp:∀ j,j<i→∃ X,Tgt n (p.placed.map (brI bars)) X∧inX X (bars.getD j (0,0))=true
theorem Gm.skip {bars:List (Int×Int)} {p:Pbl} {i:Nat} (h:Gm n bars p i) (hX:∃ X,Tgt n (p.placed.map (brI bars)) X∧inX X (bars.getD i (0,0))=true):Gm n bars p (i+1):=⟨h.pg,h.spr,fun j hj=>by
 by_cases e:j=i
 ·subst e; exact hX
 exact h.sp j (by omega)⟩
theorem Gm.put {bars:List (Int×Int)} {p p':Pbl} {i:Nat} (h:Gm n bars p i) (hi:i<bars.length) (hb:Bok n (bars.getD i (0,0))) (hp:p'.placed=p.placed) (hg:PG n bars p') {t:Int} (ht:t=(bars.getD i (0,0)).1∨t=(bars.getD i (0,0)).2) (hf:1≤p'.free.getD t.toNat 0) (h4:4≤p'.free.getD (bars.getD i (0,0)).1.toNat 0+p'.free.getD (bars.getD i (0,0)).2.toNat 0) :
  Gm n bars ⟨p'.free.set t.toNat (p'.free.getD t.toNat 0-1),p'.tails++[t],p'.placed++[(i:Int)]⟩ (i+1):=by
 have hE:((p'.placed++[(i:Int)]).map (brI bars))=p.placed.map (brI bars)++[bars.getD i (0,0)]:=by rw [hp]; simp
 have hg':=hg.inv
 rw [hp] at hg'
 have hs:Spr n (p.placed.map (brI bars)++[bars.getD i (0,0)]):=hg'.acc h.spr (a:=(bars.getD i (0,0)).1) (b:=(bars.getD i (0,0)).2) hb h4
 refine ⟨⟨?_,fun x hx=>?_⟩,?_,fun j hj=>?_⟩
 ·show PInv n ((p'.placed++[(i:Int)]).map (brI bars)) _ _
  rw [hE]
  exact hg'.put (a:=(bars.getD i (0,0)).1) (b:=(bars.getD i (0,0)).2) hb ht hf
 ·rcases List.mem_append.1 hx with hx | hx
  ·exact hg.pl x hx
  simp at hx; subst hx; exact ⟨by omega,by omega⟩
 ·show Spr n ((p'.placed++[(i:Int)]).map (brI bars))
  rw [hE]; exact hs
 show ∃ X,Tgt n ((p'.placed++[(i:Int)]).map (brI bars)) X∧_
 rw [hE]
 by_cases e:j=i
 ·subst e
  exact ⟨_,tgt_bar (by simp) hb,by simp [inX,v2]⟩
 obtain ⟨X,g1,g2⟩:=h.sp j (by omega)
 exact ⟨X,g1.grow (by rw [Sc]; omega),g2⟩
theorem Gm.bas {bars:List (Int×Int)} {p:Pbl} (h:Gm n bars p bars.length):Bas n bars (p.placed.map (brI bars)):=by
 refine ⟨fun e he=>?_,h.spr,fun e he=>?_⟩
 ·obtain ⟨i,hi,rfl⟩:=List.mem_map.1 he
  have:=h.pg.pl i hi
  exact Dc (by omega)
 obtain ⟨j,hj,e'⟩:=List.mem_iff_getElem.1 he
 have:=h.sp j hj
 rwa [List.getD_eq_getElem?_getD,List.getElem?_eq_getElem hj,Option.getD_some,e'] at this
theorem Gm.start (bars:List (Int×Int)):Gm n bars ⟨List.replicate n 2,[],[]⟩ 0:=by
 refine ⟨⟨⟨by simp,by simp,by simp,by simp,fun v hv=>?_,fun v hv=>?_⟩,by simp⟩,fun X h=>by simp [spn] at h,fun j h=>by omega⟩
 ·simp [List.getD_eq_getElem?_getD,List.getElem?_replicate,hv]
 simp [List.getD_eq_getElem?_getD,List.getElem?_replicate,hv]
variable {g:Grf} (hN:4000000≤N) (hn:n≤1000) (hg:g.n=n)
include hN hn hg in
theorem rank1_s {kk:Int→Option Int} (hb:∀ e∈g.bars,Bok n e) (hl:g.bars.length≤1000):∀ (fuel i:Nat) (p:Pbl),i≤g.bars.length→g.bars.length<fuel+i→Gm n g.bars p i →
  ∃ I,Bas n g.bars I∧Hu N g kk fuel (p.free,p.tails,p.placed,(p.placed.length:Int),(i:Int),p.free.length)=kk (I.length:Int):=by
 intro fuel
 induction fuel with
 | zero=>intro i p h1 h2; omega
 | succ fuel ih=>
  intro i p h1 h2 h
  rw [Hu]
  by_cases hi:i<g.bars.length
  ·have hbi:=hb _ (Dc (d:=(0,0)) hi)
   have r1:=hbi.1
   have r2:=hbi.2.1
   have r3:=hbi.2.2.1
   have r4:=hbi.2.2.2.1
   have e:(⟨p.free,p.tails,p.placed⟩:Pbl)=p:=rfl
   obtain ⟨p',g1,g2,⟨g3,g4⟩ | ⟨g3,g4⟩⟩:=gather_s hN hn hg (a:=(g.bars.getD i (0,0)).1) (b:=(g.bars.getD i (0,0)).2) hbi h.pg
   ·have le1:=g2.inv.le2 (v:=(g.bars.getD i (0,0)).2.toNat) (by omega)
    have le2:=g2.inv.le2 (v:=(g.bars.getD i (0,0)).1.toNat) (by omega)
    have hput:=h.put hi hbi g1 g2 (.inl rfl) (by omega) g4
    obtain ⟨I,k1,k2⟩:=ih (i+1) _ (by omega) (by omega) hput
    refine ⟨I,k1,?_⟩
    have fl:=g2.inv.fl
    have tl:=g2.inv.tl
    simp only [List.length_map] at tl
    have t2:=g2.inv.tlen
    have pl:p.placed.length≤2*n:=by rw [←g1,←tl]; exact t2
    simp (disch:=omega) only [Int.toNat_natCast,tk0,List.length_cons,List.length_nil,Af,Ay,At,Al,Ak,cnd_true,cnd_false,Option.bind_some,e,g3,Bool.not_true,g1,Am]
    simp only [List.length_set,List.length_append,List.length_cons,List.length_nil] at k2
    rw [g1] at k2
    exact k2
   obtain ⟨I,k1,k2⟩:=ih (i+1) p (by omega) (by omega) (h.skip g4)
   refine ⟨I,k1,?_⟩
   simp (disch:=omega) only [Int.toNat_natCast,tk0,List.length_cons,List.length_nil,Af,Ay,At,Al,Ak,cnd_true,cnd_false,Option.bind_some,e,g3,Bool.not_false,Am]
   exact k2
  have e:i=g.bars.length:=by omega
  subst e
  refine ⟨_,h.bas,?_⟩
  simp (disch:=omega) only [Int.toNat_natCast,tk0,List.length_cons,List.length_nil,Af,Ay,At,Al,Ak,cnd_true,cnd_false,Option.bind_some,List.length_map]
theorem pebbles_s (hN:4000000≤N) (hn:1≤n∧n≤8):Ll N ⟨(n:Int),[]⟩ 2=some (⟨List.replicate n 2,[],[]⟩,true):=by
 unfold Ll
 have h1:Ej ⟨(n:Int),[]⟩=true:=Xk (by simp [inB]; omega) (by simp) (fun i hi=>by simp at hi)
 have h2:inB (2:Int) 1 3=true:=by decide
 simp (disch:=omega) only [Int.toNat_natCast,tk0,List.length_cons,List.length_nil,Af,Ay,At,Al,Ak,cnd_true,cnd_false,Option.bind_some,Mi N hN,h1,l1In_s N,h2,Bool.not_true]
 refine (fold (len:=n) (st:=fun i=>List.replicate i (2:Int)) (by omega) ?_ ?_)
 ·intro m i hi
  rw [Et]
  simp (disch:=omega) only [Int.toNat_natCast,tk0,List.length_cons,List.length_nil,Af,Ay,At,Al,Ak,cnd_true,cnd_false,Option.bind_some,List.length_replicate,Am]
  rw [List.replicate_succ']
 intro m
 rw [Et]
 simp (disch:=omega) only [Int.toNat_natCast,tk0,List.length_cons,List.length_nil,Af,Ay,At,Al,Ak,cnd_true,cnd_false,Option.bind_some]
include hN hg in
theorem Abb (hn:1≤n∧n≤8) (hb:∀ e∈g.bars,Bok n e) (hl:g.bars.length≤1000):∃ I,Bas n g.bars I∧Lg N g=some (I.length:Int):=by
 obtain ⟨I,h1,h2⟩:=rank1_s hN (by omega) hg (kk:=fun x=>some x) hb hl N 0 ⟨List.replicate n 2,[],[]⟩ (by omega) (by omega) (Gm.start g.bars)
 refine ⟨I,h1,?_⟩
 unfold Lg
 rw [hg,pebbles_s hN hn]
 simp only [Option.bind_some]
 exact h2
end
section
variable {n:Nat} {a b:Int} {N:Nat}
theorem Vv:∀ (l:List (Int×Int)) (k v w:Int),Ls (l++[(k,v)]) w=match Ls l w with | some p=>some p | none=>if k=w then some (l.length,v) else none
 | [],k,v,w=>by simp [Ls]
 | (x,y)::l,k,v,w=>by
  simp only [List.cons_append,Ls]
  by_cases h:x=w
  ·simp [h]
  rw [if_neg h,if_neg h,Vv l k v w]
  cases Ls l w with
  | some p=>simp
  | none=>simp only [Option.map_none]; split <;> simp
theorem mset_new {l:List (Int×Int)} {k v:Int} (h:Aal l k=false):Tu l k v=l++[(k,v)]:=by
 unfold Aal at h
 unfold Tu
 cases hm:Ls l k with
 | none=>rfl
 | some p=>rw [hm] at h; cases h
theorem mget_new {l:List (Int×Int)} {k v:Int} (h:Aal l k=false):Yz (Tu l k v) k=v:=by
 rw [mset_new h]
 unfold Yz
 rw [Vv]
 unfold Aal at h
 cases hm:Ls l k with
 | none=>simp
 | some p=>rw [hm] at h; cases h
theorem mget_old {l:List (Int×Int)} {k v w:Int} (h:Aal l k=false) (hw:Aal l w=true):Yz (Tu l k v) w=Yz l w:=by
 rw [mset_new h]
 unfold Yz
 rw [Vv]
 unfold Aal at hw
 cases hm:Ls l w with
 | none=>rw [hm] at hw; cases hw
 | some p=>rfl
theorem mhas_set {l:List (Int×Int)} {k v w:Int} (h:Aal l k=false):Aal (Tu l k v) w=(Aal l w || k==w):=by
 rw [mset_new h]
 unfold Aal
 rw [Vv]
 cases hm:Ls l w with
 | none=>
  by_cases e:k=w
  ·simp [e]
  simp [e]
 | some p=>simp
theorem otherI_s {e:Int×Int} {v:Int} (h:v=e.1∨v=e.2):Hw N e v=some (oth e v):=by
 unfold Hw oth
 by_cases h1:e.1=v
 ·rw [Pc h1,←h1]; congr 1; omega
 rw [Kj h1]
 have:=h.resolve_left (fun h=>h1 h.symm)
 rw [this]; congr 1; omega
theorem Ym {l:List Int} (hl:l.length≤3000000):Kv N l=some l:=by
 unfold Kv
 rw [Af (by first | omega | (simp; omega))]
 rfl
structure FI (n:Nat) (bars:List (Int×Int)) (p:Pbl) (a b:Int) (q:List Int) (mp:List (Int×Int)):Prop where
 bi:BI n (p.placed.map (brI bars)) p.tails a q (Yz mp)
 bz:BZ p.free a b q
 sq:∀ v:Int,Aal mp v=decide (v∈q)
section
variable {bars:List (Int×Int)} {p:Pbl} (hN:4000000≤N) (hn:n≤1000) (hp:PG n bars p)
include hp in
theorem PG.plAt' {i:Nat} (h:i<p.placed.length):0≤p.placed.getD i 0∧p.placed.getD i 0<(bars.length:Int):=hp.pl _ (Dc h)
include hp in
theorem PG.bok' {i:Nat} (h:i<p.placed.length):Bok n (bars.getD (p.placed.getD i 0).toNat (0,0)):=by
 rw [←eAt h]; exact hp.inv.ok _ (Dc (by simpa using h))
include hp in
theorem turn_s {from':List (Int×Int)} {q:List Int} {u x v:Int} {kk:List Int→Option (Bool×List Int×List Int×List Int)} (hb:BI n (p.placed.map (brI bars)) p.tails a q (Yz (Tu from' v x))) :
  ∀ (fuel j:Nat) (T':List Int),j<q.length→j<fuel→Mv (p.placed.map (brI bars)) p.tails T' u (q.getD j 0) →
   (∀ j',0<j'→j'≤j→T'.getD (Yz (Tu from' v x) (q.getD j' 0)).toNat 0=p.tails.getD (Yz (Tu from' v x) (q.getD j' 0)).toNat 0) →
   ∃ T'',Mv (p.placed.map (brI bars)) p.tails T'' u a∧Jq N p a from' x v kk fuel (T',q.getD j 0)=kk T'':=by
 intro fuel
 induction fuel with
 | zero=>intro j T' _ h; omega
 | succ fuel ih=>
  intro j T' hj hf hm hun
  rw [Jq]
  by_cases h0:j=0
  ·subst h0
   refine ⟨T',by rw [hb.hd] at hm; exact hm,?_⟩
   rw [Hn hb.hd]
  have hne:¬ q.getD j 0=a:=by
   intro e
   rw [←hb.hd] at e
   have hp0:=hb.pos
   rw [List.getD_eq_getElem?_getD,List.getD_eq_getElem?_getD,List.getElem?_eq_getElem hj,List.getElem?_eq_getElem hp0] at e
   have:=(List.getElem_inj hb.nd).1 e
   omega
  obtain ⟨j',i,g1,g2,g3,g4,g5,g6,g7⟩:=hb.back hp.inv (by omega) hj hm hun
  have hip:i<p.placed.length:=by simpa using g2
  obtain ⟨T'',k1,k2⟩:=ih j' (T'.set i (q.getD j 0)) (by omega) (by omega) g6 g7
  refine ⟨T'',k1,?_⟩
  have htl:=hp.inv.tl
  have hml:=hm.len
  simp only [List.length_map] at htl
  simp (disch:=omega) only [Int.toNat_natCast,tk0,List.length_cons,List.length_nil,Af,Ay,At,Al,Ak,cnd_true,cnd_false,Option.bind_some,Lq hne,g3,hml,htl,g5,k2]
theorem FI.pushB {q:List Int} {mp:List (Int×Int)} (h:FI n bars p a b q mp) {k i:Nat} {v:Int} (hk:k<q.length) (hi:i<p.placed.length) (ht:p.tails.getD i 0=q.getD k 0) (hv:oth ((p.placed.map (brI bars)).getD i (0,0)) (q.getD k 0)=v) (hr:0≤v∧v<n) (hn:v∉q) :
  BI n (p.placed.map (brI bars)) p.tails a (q++[v]) (Yz (Tu mp v (i:Int))):=by
 have hm:Aal mp v=false:=by rw [h.sq v]; exact decide_eq_false hn
 exact h.bi.push hk (by simpa using hi) ht hv hr hn (mget_new hm) fun w hw=>mget_old hm (by rw [h.sq w]; exact decide_eq_true hw)
theorem FI.push {q:List Int} {mp:List (Int×Int)} (h:FI n bars p a b q mp) {k i:Nat} {v:Int} (hk:k<q.length) (hi:i<p.placed.length) (ht:p.tails.getD i 0=q.getD k 0) (hv:oth ((p.placed.map (brI bars)).getD i (0,0)) (q.getD k 0)=v) (hr:0≤v∧v<n) (hn:v∉q) (hz:v=b∨p.free.getD v.toNat 0=0) :
  FI n bars p a b (q++[v]) (Tu mp v (i:Int)):=by
 have hm:Aal mp v=false:=by rw [h.sq v]; exact decide_eq_false hn
 refine ⟨h.pushB hk hi ht hv hr hn,h.bz.push hz,fun w=>?_⟩
 rw [mhas_set hm,h.sq w]
 by_cases e:v=w
 ·subst e; simp
 have e':¬ w=v:=fun h=>e h.symm
 simp [e,e']
include hN hn hp in
theorem move2_s {k:Nat} {kk:(List Int×List (Int×Int))→Option (Bool×List Int×List Int×List Int)} (hab:a≠b) (hbr:0≤b∧b<n) :
  ∀ (fuel m:Nat) (q:List Int) (mp:List (Int×Int)),m≤p.placed.length→p.placed.length<fuel+m→FI n bars p a b q mp→Done (p.placed.map (brI bars)) p.tails q k m→k<q.length →
   (∃ p':Pbl,Ex N bars p a b k kk fuel (q,mp,(m:Int))=some (true,p'.free,p'.tails,p'.placed)∧Won n (p.placed.map (brI bars)) p.free p'.free p'.tails a b∧p'.placed=p.placed) ∨
   ∃ q' mp',Ex N bars p a b k kk fuel (q,mp,(m:Int))=kk (q',mp')∧FI n bars p a b q' mp'∧Done (p.placed.map (brI bars)) p.tails q' (k+1) 0∧k<q'.length:=by
 intro fuel
 induction fuel with
 | zero=>intro m _ _ h1 h2; omega
 | succ fuel ih=>
  intro m q mp h1 h2 hF hD hk
  rw [Ex]
  have hlen:(p.placed.map (brI bars)).length=p.placed.length:=by simp
  by_cases hm:m<p.placed.length
  ·have htl:=hp.inv.tl
   have hfr:=hp.inv.fl
   rw [hlen] at htl
   have hpl:=hp.plAt' hm
   have ht2:=hp.inv.tlen
   have hql:=hF.bi.len
   by_cases ht:p.tails.getD m 0=q.getD k 0
   ·have hbk:=hp.bok' hm
    have hen:=hp.inv.en m (by rw [hlen]; exact hm)
    rw [eAt hm,ht] at hen
    have hr0:=hF.bi.rg _ (Dc (d:=0) hk)
    have eo:=otherI_s (N:=N) hen
    have hvr:=oth_rg hbk hen
    generalize hv:oth (bars.getD (p.placed.getD m 0).toNat (0,0)) (q.getD k 0)=v at hvr
    rw [hv] at eo
    have hvo:oth ((p.placed.map (brI bars)).getD m (0,0)) (q.getD k 0)=v:=by rw [eAt hm,hv]
    have hsq:=hF.sq v
    by_cases hs:v∈q
    ·have hsq:Aal mp v=true:=by rw [hsq]; exact decide_eq_true hs
     simp (disch:=omega) only [Int.toNat_natCast,tk0,List.length_cons,List.length_nil,Af,Ay,At,Al,Ak,cnd_true,cnd_false,Option.bind_some,Hn ht,eo,hsq,Am]
     exact ih (m+1) q mp (by omega) (by omega) hF (hD.step fun _ _=>by rw [hvo]; exact hs) hk
    have hsq:Aal mp v=false:=by rw [hsq]; exact decide_eq_false hs
    have hD':Done (p.placed.map (brI bars)) p.tails (q++[v]) k (m+1):=(hD.push hk).step fun _ _=>by rw [Hv hk,hvo]; simp
    by_cases hvb:v=b
    ·have hF':=hF.push (i:=m) hk hm ht hvo hvr hs (.inl hvb)
     simp (disch:=omega) only [Int.toNat_natCast,tk0,List.length_cons,List.length_nil,Af,Ay,At,Al,Ak,cnd_true,cnd_false,Option.bind_some,Hn ht,eo,hsq,Am,Pc hvb]
     exact ih (m+1) _ _ (by omega) (by omega) hF' hD' (by simp; omega)
    by_cases hz:p.free.getD v.toNat 0=0
    ·have hF':=hF.push (i:=m) hk hm ht hvo hvr hs (.inr hz)
     simp (disch:=omega) only [Int.toNat_natCast,tk0,List.length_cons,List.length_nil,Af,Ay,At,Al,Ak,cnd_true,cnd_false,Option.bind_some,Hn ht,eo,hsq,Am,Kj hvb,Pc hz]
     exact ih (m+1) _ _ (by omega) (by omega) hF' hD' (by simp; omega)
    left
    have n0:=hp.inv.nn v.toNat (by omega)
    have n2:=hp.inv.le2 (v:=v.toNat) (by omega)
    have hb2:=hF.pushB hk hm ht hvo hvr hs
    have e1:(q++[v]).getD q.length 0=v:=by rw [Qr]; simp
    have ha:0≤a∧a<n:=by have:=hF.bi.rg _ (Dc (d:=0) hF.bi.pos); rwa [hF.bi.hd] at this
    have hva:v≠a:=by
     rintro rfl
     have:=Dc (d:=(0:Int)) hF.bi.pos
     rw [hF.bi.hd] at this
     exact hs this
    obtain ⟨T'',k1,k2⟩:=turn_s hp (N:=N) (u:=v)
     (kk:=fun l310=>grd (p.free.length=(Xr p.free v a).length) <| grd (p.tails.length=l310.length) <| some (true,Xr p.free v a,l310,p.placed)) hb2 N q.length p.tails (by simp) (by omega) (by rw [e1]; exact Mv.start hp.inv _) (fun _ _ _=>rfl)
    rw [e1] at k2
    have b2:0≤(p.free.set v.toNat (p.free.getD v.toNat 0-1)).getD a.toNat 0∧(p.free.set v.toNat (p.free.getD v.toNat 0-1)).getD a.toNat 0≤2:=by
     rw [Jd]
     have:=hp.inv.le2 (v:=a.toNat) (by omega)
     have:=hp.inv.nn a.toNat (by omega)
     split <;> omega
    refine ⟨⟨Xr p.free v a,T'',p.placed⟩,?_,k1.won hp.inv ha hvr hbr hva hvb hab (by omega),rfl⟩
    have t3:=k1.len
    simp only [Xr,List.length_set,Ay] at k2 ⊢
    simp (disch:=omega) only [Int.toNat_natCast,tk0,List.length_cons,List.length_nil,Af,Ay,At,Al,Ak,cnd_true,cnd_false,Option.bind_some,Hn ht,eo,hsq,Am,Kj hvb,Kj hz,List.length_set]
    rw [k2]
    exact Af t3.symm _
   simp (disch:=omega) only [Int.toNat_natCast,tk0,List.length_cons,List.length_nil,Af,Ay,At,Al,Ak,cnd_true,cnd_false,Option.bind_some,Lq ht,Am]
   exact ih (m+1) q mp (by omega) (by omega) hF (hD.step fun _ e=>absurd e ht) hk
  right
  have e:m=(p.placed.map (brI bars)).length:=by omega
  refine ⟨q,mp,?_,hF,by subst e; exact hD.next,hk⟩
  simp (disch:=omega) only [Int.toNat_natCast,tk0,List.length_cons,List.length_nil,Af,Ay,At,Al,Ak,cnd_true,cnd_false,Option.bind_some]
include hN hn hp in
theorem move1_s {kk:Unit→Option (Bool×List Int×List Int×List Int)} (hab:a≠b) (hbr:0≤b∧b<n) :
  ∀ (fuel k:Nat) (q:List Int) (mp:List (Int×Int)),n<fuel+k→FI n bars p a b q mp→Done (p.placed.map (brI bars)) p.tails q k 0→k≤q.length →
   (∃ p':Pbl,Dn N bars p a b kk fuel (q,mp,(k:Int))=some (true,p'.free,p'.tails,p'.placed)∧Won n (p.placed.map (brI bars)) p.free p'.free p'.tails a b∧p'.placed=p.placed) ∨
   (Dn N bars p a b kk fuel (q,mp,(k:Int))=kk ()∧Shut n (p.placed.map (brI bars)) p.free p.tails a b):=by
 intro fuel
 induction fuel with
 | zero=>intro k q mp h1 hF hD hk; have:=hF.bi.len; omega
 | succ fuel ih=>
  intro k q mp h1 hF hD hk
  have ht2:=hp.inv.tlen
  have htl:=hp.inv.tl
  simp only [List.length_map] at htl
  by_cases hkq:k<q.length
  ·have hql:=hF.bi.len
   have key:=move2_s (k:=k) (kk:=(fun (x:(List Int)×(List (Int×Int)))=>
     match x with
     | (l287,from288)=>
      grd (Bf ((k:Int)+(1:Int))) <|
      Dn N bars p a b kk fuel (l287,from288,((k:Int)+(1:Int))))) hN hn hp hab hbr N 0 q mp (by omega) (by omega) hF hD hkq
   rw [show ((0:Nat):Int)=0 from rfl] at key
   rcases key with ⟨p',g1,g2,g3⟩ | ⟨q2,m2,g1,g2,g3,g4⟩
   ·left
    refine ⟨p',?_,g2,g3⟩
    rw [Dn,Al (by omega)]
    exact g1
   have e:Dn N bars p a b kk (fuel+1) (q,mp,(k:Int))=Dn N bars p a b kk fuel (q2,m2,((k+1:Nat):Int)):=by
    rw [Dn,Al (by omega)]
    refine g1.trans ?_
    have:=g2.bi.len
    simp (disch:=omega) only [Int.toNat_natCast,tk0,List.length_cons,List.length_nil,Af,Ay,At,Al,Ak,cnd_true,cnd_false,Option.bind_some,Am]
   rw [e]
   exact ih (k+1) q2 m2 (by omega) g2 g3 (by omega)
  right
  refine ⟨?_,hF.bi.shut hF.bz hD (by omega)⟩
  rw [Dn]
  simp (disch:=omega) only [Int.toNat_natCast,tk0,List.length_cons,List.length_nil,Af,Ay,At,Al,Ak,cnd_true,cnd_false,Option.bind_some]
include hN hn hp in
theorem move_s (hb:Bok n (a,b)) :
  (∃ p':Pbl,Qm N bars p a b=some (true,p'.free,p'.tails,p'.placed)∧Won n (p.placed.map (brI bars)) p.free p'.free p'.tails a b∧p'.placed=p.placed) ∨
  (Qm N bars p a b=some (false,p.free,p.tails,p.placed)∧Shut n (p.placed.map (brI bars)) p.free p.tails a b):=by
 obtain ⟨h1,h2,h3,h4,h5⟩:=hb
 simp only at h1 h2 h3 h4 h5
 have key:=move1_s (kk:=fun _=>some (false,p.free,p.tails,p.placed)) hN hn hp h5 ⟨h3,h4⟩ N 0 [a] (Tu [] a (-1)) (by omega) ⟨BI.start ⟨h1,h2⟩,fun v hv h _=>absurd (by simpa using hv) h,fun v=>by
  rw [mhas_set rfl]
  by_cases e:a=v
  ·subst e; simp
  have e':¬ v=a:=fun h=>e h.symm
  have:Aal [] v=false:=rfl
  simp [e,e',this]⟩ Done.start (by simp)
 rw [show ((0:Nat):Int)=0 from rfl] at key
 unfold Qm
 exact key
end
section
variable {bars:List (Int×Int)} (hN:4000000≤N) (hn:n≤1000)
include hN hn in
theorem gatherI1_s (hb:Bok n (a,b)) {kk:(List Int×List Int×List Int)→Option (Bool×List Int×List Int×List Int)}:∀ (fuel:Nat) (p:Pbl),PG n bars p→4<fuel+(p.free.getD a.toNat 0+p.free.getD b.toNat 0) →
  ∃ p':Pbl,p'.placed=p.placed∧PG n bars p'∧((Gv N bars a b 4 kk fuel (p.free,p.tails,p.placed)=kk (p'.free,p'.tails,p'.placed)∧4≤p'.free.getD a.toNat 0+p'.free.getD b.toNat 0) ∨
   (Gv N bars a b 4 kk fuel (p.free,p.tails,p.placed)=some (false,p'.free,p'.tails,p'.placed)∧∃ X,Tgt n (p.placed.map (brI bars)) X∧inX X (a,b)=true)):=by
 obtain ⟨h1,h2,h3,h4,h5⟩:=id hb
 simp only at h1 h2 h3 h4 h5
 intro fuel
 induction fuel with
 | zero=>
  intro p hp hf
  have:=hp.inv.le2 (v:=a.toNat) (by omega)
  have:=hp.inv.le2 (v:=b.toNat) (by omega)
  omega
 | succ fuel ih=>
  intro p hp hf
  have fl:=hp.inv.fl
  have l1:=hp.inv.le2 (v:=a.toNat) (by omega)
  have l2:=hp.inv.le2 (v:=b.toNat) (by omega)
  have n1:=hp.inv.nn a.toNat (by omega)
  have n2:=hp.inv.nn b.toNat (by omega)
  rw [Gv]
  have e:(⟨p.free,p.tails,p.placed⟩:Pbl)=p:=rfl
  by_cases hs:p.free.getD a.toNat 0+p.free.getD b.toNat 0<4
  ·rcases move_s hN hn hp hb with ⟨p1,f1,f2,f3⟩ | ⟨f1,f2⟩
   ·obtain ⟨p',g1,g2,g3⟩:=ih p1 (f2.pg hp f3) (by have:=f2.symm'; omega)
    refine ⟨p',g1.trans f3,g2,?_⟩
    rw [f3] at g3
    simp (disch:=omega) only [Int.toNat_natCast,tk0,List.length_cons,List.length_nil,Af,Ay,At,Al,Ak,cnd_true,cnd_false,Option.bind_some,e,f1,Bool.not_true]
    rw [f3]
    exact g3
   rcases move_s hN hn hp hb.swap with ⟨p1,k1,k2,k3⟩ | ⟨k1,k2⟩
   ·obtain ⟨p',g1,g2,g3⟩:=ih p1 (k2.pg hp k3) (by have:=k2.symm'; omega)
    refine ⟨p',g1.trans k3,g2,?_⟩
    rw [k3] at g3
    simp (disch:=omega) only [Int.toNat_natCast,tk0,List.length_cons,List.length_nil,Af,Ay,At,Al,Ak,cnd_true,cnd_false,Option.bind_some,e,f1,k1,Bool.not_true,Bool.not_false]
    rw [k3]
    exact g3
   refine ⟨p,rfl,hp,.inr ⟨?_,Shut.tgt hp.inv hb f2 k2 (by omega)⟩⟩
   simp (disch:=omega) only [Int.toNat_natCast,tk0,List.length_cons,List.length_nil,Af,Ay,At,Al,Ak,cnd_true,cnd_false,Option.bind_some,e,f1,k1,Bool.not_false]
  refine ⟨p,rfl,hp,.inl ⟨?_,by omega⟩⟩
  simp (disch:=omega) only [Int.toNat_natCast,tk0,List.length_cons,List.length_nil,Af,Ay,At,Al,Ak,cnd_true,cnd_false,Option.bind_some]
include hN hn in
theorem gatherI_s (hb : Bok n (a, b)) {p : Pbl} (hp : PG n bars p) : ∃ p' : Pbl, p'.placed = p.placed ∧ PG n bars p' ∧ ((Wf N bars p a b 4 = some (true, p'.free, p'.tails, p'.placed) ∧ 4 ≤ p'.free.getD a.toNat 0 + p'.free.getD b.toNat 0) ∨
   (Wf N bars p a b 4=some (false,p'.free,p'.tails,p'.placed)∧∃ X,Tgt n (p.placed.map (brI bars)) X∧inX X (a,b)=true)):=by
 obtain ⟨h1,h2,h3,h4,h5⟩:=id hb
 simp only at h1 h2 h3 h4 h5
 have n1:=hp.inv.nn a.toNat (by omega)
 have n2:=hp.inv.nn b.toNat (by omega)
 exact gatherI1_s hN hn hb (kk:=fun x=>match x with | (l11,l12,l13)=>some (true,l11,l12,l13)) N p hp (by omega)
include hN hn in
theorem placeI_s {p:Pbl} {i:Nat} (hi:i<bars.length) (hbl:bars.length≤1000) (hb:∀ e∈bars,Bok n e) (h:Gm n bars p i) :
  (∃ p':Pbl,Ta N bars 3 p i=some (true,p'.free,p'.tails,p'.placed)∧Gm n bars p' (i+1))∨((∃ x,Ta N bars 3 p i=some (false,x))∧Gm n bars p (i+1)):=by
 have hbi:=hb _ (Dc (d:=(0,0)) hi)
 have r1:=hbi.1
 have r2:=hbi.2.1
 have r3:=hbi.2.2.1
 have r4:=hbi.2.2.2.1
 have e:(⟨p.free,p.tails,p.placed⟩:Pbl)=p:=rfl
 have e4:(3:Int)+1=4:=rfl
 obtain ⟨p',g1,g2,⟨g3,g4⟩ | ⟨g3,g4⟩⟩:=gatherI_s hN hn (bars:=bars) (a:=(bars.getD i (0,0)).1) (b:=(bars.getD i (0,0)).2) hbi h.pg
 ·left
  have le1:=g2.inv.le2 (v:=(bars.getD i (0,0)).2.toNat) (by omega)
  have le2:=g2.inv.le2 (v:=(bars.getD i (0,0)).1.toNat) (by omega)
  have hput:=h.put hi hbi g1 g2 (.inl rfl) (by omega) g4
  refine ⟨_,?_,hput⟩
  have fl:=g2.inv.fl
  have tl:=g2.inv.tl
  simp only [List.length_map] at tl
  have t2:=g2.inv.tlen
  unfold Ta
  have hz:¬ p'.free.getD (bars.getD i (0,0)).1.toNat 0=0:=by omega
  simp (disch:=omega) only [Int.toNat_natCast,tk0,List.length_cons,List.length_nil,Af,Ay,At,Al,Ak,cnd_true,cnd_false,Option.bind_some,e,e4,g3,Bool.not_true,jn_def,Kj hz,List.length_set]
 right
 refine ⟨⟨(p'.free,p'.tails,p'.placed),?_⟩,h.skip g4⟩
 unfold Ta
 simp (disch:=omega) only [Int.toNat_natCast,tk0,List.length_cons,List.length_nil,Af,Ay,At,Al,Ak,cnd_true,cnd_false,Option.bind_some,e,e4,g3,Bool.not_false]
include hN hn in
theorem play1_s (hb:∀ e∈bars,Bok n e) (hl:bars.length≤1000) {kk:(List Int×List Int×List Int)→Option Pbl}:∀ (fuel i:Nat) (p:Pbl),i≤bars.length→bars.length<fuel+i→Gm n bars p i →
  ∃ p':Pbl,Gm n bars p' bars.length∧Li N bars 3 kk fuel (p.free,p.tails,p.placed,(i:Int))=kk (p'.free,p'.tails,p'.placed):=by
 intro fuel
 induction fuel with
 | zero=>intro i p h1 h2; omega
 | succ fuel ih=>
  intro i p h1 h2 h
  rw [Li]
  by_cases hi:i<bars.length
  ·have e:(⟨p.free,p.tails,p.placed⟩:Pbl)=p:=rfl
   have fl:=h.pg.inv.fl
   have tl:=h.pg.inv.tl
   simp only [List.length_map] at tl
   have t2:=h.pg.inv.tlen
   have ec:Kg N p=some p:=by
    unfold Kg
    rw [Ym (by omega),Ym (by omega),Ym (by omega)]
    rfl
   rcases placeI_s hN hn hi hl hb h with ⟨p',g1,g2⟩ | ⟨⟨x,g1⟩,g2⟩
   ·obtain ⟨p2,k1,k2⟩:=ih (i+1) p' (by omega) (by omega) g2
    refine ⟨p2,k1,?_⟩
    simp (disch:=omega) only [Int.toNat_natCast,tk0,List.length_cons,List.length_nil,Af,Ay,At,Al,Ak,cnd_true,cnd_false,Option.bind_some,e,ec,g1,Am]
    exact k2
   obtain ⟨p2,k1,k2⟩:=ih (i+1) p (by omega) (by omega) g2
   refine ⟨p2,k1,?_⟩
   simp (disch:=omega) only [Int.toNat_natCast,tk0,List.length_cons,List.length_nil,Af,Ay,At,Al,Ak,cnd_true,cnd_false,Option.bind_some,e,ec,g1,Am]
   exact k2
  have e:i=bars.length:=by omega
  subst e
  refine ⟨p,h,?_⟩
  simp (disch:=omega) only [Int.toNat_natCast,tk0,List.length_cons,List.length_nil,Af,Ay,At,Al,Ak,cnd_true,cnd_false,Option.bind_some]
include hN hn in
theorem Zc (hb:∀ e∈bars,Bok n e) (hl:bars.length≤1000):∃ I,Bas n bars I∧Hp N n bars=some (I.length:Int):=by
 obtain ⟨p',g1,g2⟩:=play1_s hN hn hb hl (kk:=fun x=>match x with | (l24,l25,l26)=>some (⟨l24,l25,l26⟩:Pbl)) N 0 ⟨List.replicate n 2,[],[]⟩ (by omega) (by omega) (Gm.start bars)
 refine ⟨_,g1.bas,?_⟩
 have e:I_play N n bars 2 3=some p':=by
  unfold I_play
  refine (fold (len:=n) (st:=fun i=>List.replicate i (2:Int)) (by omega) ?_ ?_)
  ·intro m i hi
   rw [Ml]
   simp (disch:=omega) only [Int.toNat_natCast,tk0,List.length_cons,List.length_nil,Af,Ay,At,Al,Ak,cnd_true,cnd_false,Option.bind_some,List.length_replicate,Am]
   rw [List.replicate_succ']
  intro m
  rw [Ml]
  rw [Ak (by omega)]
  exact g2
 unfold Hp
 simp (disch:=omega) only [Int.toNat_natCast,tk0,List.length_cons,List.length_nil,Af,Ay,At,Al,Ak,cnd_true,cnd_false,Option.bind_some,e,List.length_map]
end
end
section
variable (N:Nat)
theorem Yo (l:List (Int×Int)):((List.range l.length).all fun i=>!Kd l i)=!Lu l:=by
 simp only [Lu,List.not_any_eq_all_not]
theorem pair_eq (a b:Int×Int):((a.1==b.1)&&(a.2==b.2))=(a==b):=by
 obtain ⟨x,y⟩:=a; obtain ⟨u,v⟩:=b; rfl
theorem hasDoubles_s (hN:4000000≤N) {g:Grf} (hb:g.bars.length≤3000000):Lj N g=some (Lu g.bars):=by
 unfold Lj
 refine (srch1 (len:=g.bars.length) (ok:=fun i=>!Kd g.bars i) (bad:=some true) (fin:=some false) (by omega) rfl ?_ ?_).trans ?_
 ·intro n i h0 hi
  rw [Ew]
  simp (disch:=omega) only [Int.toNat_natCast,tk0,List.length_cons,List.length_nil,Af,Ay,At,Al,Ak,cnd_true,cnd_false,Option.bind_some,Am,pair_eq,show ((i:Int)-1).toNat=i-1 from by omega]
  refine Ep ?_ _ _
  simp [Kd,h0]
 ·intro n i hi
  rw [Ew]
  simp (disch:=omega) only [Int.toNat_natCast,tk0,List.length_cons,List.length_nil,Af,Ay,At,Al,Ak,cnd_true,cnd_false,Option.bind_some]
 rw [Yo,Fk]; cases Lu g.bars <;> rfl
theorem l17Simple_s (hN:4000000≤N) {g:Grf} (hb:g.bars.length≤3000000):Mt N g=some (Sa g):=by
 unfold Mt Sa
 refine (srch1 (len:=g.bars.length) (ok:=fun i=>!Kd g.bars i) (bad:=some false) (fin:=some (Ej g)) (by omega) rfl ?_ ?_).trans ?_
 ·intro n i h0 hi
  rw [Ga]
  simp (disch:=omega) only [Int.toNat_natCast,tk0,List.length_cons,List.length_nil,Af,Ay,At,Al,Ak,cnd_true,cnd_false,Option.bind_some,Am,pair_eq,show ((i:Int)-1).toNat=i-1 from by omega]
  refine Ep ?_ _ _
  simp [Kd,h0]
 ·intro n i hi
  rw [Ga]
  simp (disch:=omega) only [Int.toNat_natCast,tk0,List.length_cons,List.length_nil,Af,Ay,At,Al,Ak,cnd_true,cnd_false,Option.bind_some,Mi N hN]
 rw [Yo,Fk]; cases Lu g.bars <;> cases Ej g <;> rfl
theorem ghas_s {g:Grf} (h:0≤g.n) (h':g.n≤1048576) (x:Int):Lc N g x=some (inB x 0 (g.n-1)):=by
 unfold Lc
 rw [w64_id (by omega) (by omega)]
 simp (disch:=omega) only [Int.toNat_natCast,tk0,List.length_cons,List.length_nil,Af,Ay,At,Al,Ak,cnd_true,cnd_false,Option.bind_some,within_s]
theorem Sn (gr:List Int) (l:List (Int×Int)):((List.range l.length).all fun i=>!Pq gr (l.getD i (0,0)))=Ss gr l:=by
 rw [Bool.eq_iff_iff,Ss,List.all_eq_true,List.all_eq_true]
 simp only [List.mem_range]
 constructor
 ·intro h p hp
  obtain ⟨i,hi,rfl⟩:=List.getElem_of_mem hp
  simpa [List.getD_eq_getElem?_getD,hi] using h i hi
 intro h i hi
 have:=h l[i] (List.getElem_mem hi)
 simpa [List.getD_eq_getElem?_getD,hi] using this
theorem Qh {p:Pin} (h:Ej p.g=true):1≤p.g.n∧p.g.n≤8∧p.g.bars.length≤24:=by
 have:=Kc h; omega
theorem Eu (hN:4000000≤N) {p:Pin} (hb:p.g.bars.length≤3000000) (hg:p.ground.length≤3000000):Hk N p=some (Az p):=by
 unfold Hk Az
 rw [isGraphI_s N hN,Option.bind_some,Lb]
 cases h1:Ej p.g with
 | false=>rfl
 | true=>
  obtain ⟨hn1,hn2,hbl⟩:=Qh h1
  rw [cnd_true,hasDoubles_s N hN hb,Option.bind_some]
  cases h2:Lu p.g.bars with
  | true=>rfl
  | false=>
   rw [cnd_false]
   by_cases h3:2≤p.ground.length
   ·by_cases h4:p.g.bars.length≤15
    ·by_cases h5:p.g.bars.length+2*p.ground.length≤27
     ·simp (disch:=omega) only [Int.toNat_natCast,tk0,List.length_cons,List.length_nil,Af,Ay,At,Al,Ak,cnd_true,cnd_false,Option.bind_some]
      refine (srch (len:=p.ground.length) (ok:=Xt p.g.n p.ground) (bad:=some false) (fin:=some (Ss p.ground p.g.bars)) (by omega) ?_ ?_).trans ?_
      ·intro n i hi _
       rw [Fp]
       by_cases h0:i=0
       ·subst h0
        simp (disch:=omega) only [Int.toNat_natCast,tk0,List.length_cons,List.length_nil,Af,Ay,At,Al,Ak,cnd_true,cnd_false,Option.bind_some,ghas_s N (by omega:0≤p.g.n) (by omega),Lb,Am]
        refine cnd_congr ?_ _ _
        simp [Xt]
       simp (disch:=omega) only [Int.toNat_natCast,tk0,List.length_cons,List.length_nil,Af,Ay,At,Al,Ak,cnd_true,cnd_false,Option.bind_some,ghas_s N (by omega:0≤p.g.n) (by omega),Am,Xn,show ((i:Int)-1).toNat=i-1 from by omega]
       refine Ep ?_ _ _
       simp only [Xt,decide_eq_false h0,Bool.false_or]
       cases inB (p.ground.getD i 0) 0 (p.g.n-1) <;> (rw [Bool.eq_iff_iff]; simp)
      ·intro n _
       rw [Fp]
       simp (disch:=omega) only [Int.toNat_natCast,tk0,List.length_cons,List.length_nil,Af,Ay,At,Al,Ak,cnd_true,cnd_false,Option.bind_some]
       refine (srch (len:=p.g.bars.length) (ok:=fun i=>!Pq p.ground (p.g.bars.getD i (0,0))) (bad:=some false) (fin:=some true) (by omega) ?_ ?_).trans ?_
       ·intro n i hi _
        rw [Fl]
        simp (disch:=omega) only [Int.toNat_natCast,tk0,List.length_cons,List.length_nil,Af,Ay,At,Al,Ak,cnd_true,cnd_false,Option.bind_some,Mj N hN hg,Am,Xa]
        refine Ep ?_ _ _
        simp [Pq]
       ·intro n _
        rw [Fl]
        simp (disch:=omega) only [Int.toNat_natCast,tk0,List.length_cons,List.length_nil,Af,Ay,At,Al,Ak,cnd_true,cnd_false,Option.bind_some]
       rw [Sn,Fk,Vt]
      rw [Fk,show (List.range p.ground.length).all (Xt p.g.n p.ground)=asc p.g.n p.ground from rfl]
      simp only [decide_eq_true h3,decide_eq_true h4,decide_eq_true h5]
      cases asc p.g.n p.ground <;> cases Ss p.ground p.g.bars <;> rfl
     simp (disch:=omega) only [Int.toNat_natCast,tk0,List.length_cons,List.length_nil,Af,Ay,At,Al,Ak,cnd_true,cnd_false,Option.bind_some]
     simp [h5]
    simp (disch:=omega) only [Int.toNat_natCast,tk0,List.length_cons,List.length_nil,Af,Ay,At,Al,Ak,cnd_true,cnd_false,Option.bind_some]
    simp [h4]
   simp (disch:=omega) only [Int.toNat_natCast,tk0,List.length_cons,List.length_nil,Af,Ay,At,Al,Ak,cnd_true,cnd_false,Option.bind_some]
   simp [h3]
theorem Bw (hN:4000000≤N) {p:Pin} (hb:p.g.bars.length≤3000000) (hg:p.ground.length≤3000000):Cj N p=some (Az p):=by
 unfold Cj
 refine (srch (len:=p.ground.length) (ok:=Xt p.g.n p.ground) (bad:=some false) (fin:=cnd (Ss p.ground p.g.bars) (some (Sa p.g&&decide (2≤p.ground.length)&&decide (p.g.bars.length≤15)&&decide (p.g.bars.length+2*p.ground.length≤27))) (some false)) (by omega) ?_ ?_).trans ?_
 ·intro n i hi _
  rw [Fm]
  by_cases h0:i=0
  ·subst h0
   simp (disch:=omega) only [Int.toNat_natCast,tk0,List.length_cons,List.length_nil,Af,Ay,At,Al,Ak,cnd_true,cnd_false,Option.bind_some,Xn,Am]
   refine Ep ?_ _ _
   simp only [Xt,inB]
   rw [Bool.eq_iff_iff]; simp; omega
  simp (disch:=omega) only [Int.toNat_natCast,tk0,List.length_cons,List.length_nil,Af,Ay,At,Al,Ak,cnd_true,cnd_false,Option.bind_some,Am,Xn,show ((i:Int)-1).toNat=i-1 from by omega]
  refine Ep ?_ _ _
  simp only [Xt,inB,decide_eq_false h0,Bool.false_or]
  rw [Bool.eq_iff_iff]; simp; omega
 ·intro n _
  rw [Fm]
  simp (disch:=omega) only [Int.toNat_natCast,tk0,List.length_cons,List.length_nil,Af,Ay,At,Al,Ak,cnd_true,cnd_false,Option.bind_some]
  refine (srch (len:=p.g.bars.length) (ok:=fun i=>!Pq p.ground (p.g.bars.getD i (0,0))) (bad:=some false) (fin:=some (Sa p.g&&decide (2≤p.ground.length)&&decide (p.g.bars.length≤15)&&decide (p.g.bars.length+2*p.ground.length≤27))) (by omega) ?_ ?_).trans ?_
  ·intro n i hi _
   rw [Fg]
   simp (disch:=omega) only [Int.toNat_natCast,tk0,List.length_cons,List.length_nil,Af,Ay,At,Al,Ak,cnd_true,cnd_false,Option.bind_some,Ln N hN hg,Am,Xa]
   refine Ep ?_ _ _
   simp [Pq]
  ·intro n _
   rw [Fg]
   simp (disch:=omega) only [Int.toNat_natCast,tk0,List.length_cons,List.length_nil,Af,Ay,At,Al,Ak,cnd_true,cnd_false,Option.bind_some,l17Simple_s N hN hb]
   simp only [Fk]
   congr 1
   rw [show decide ((p.ground.length:Int)≥2)=decide (2≤p.ground.length) from by rw [Bool.eq_iff_iff]; simp; omega,show decide ((p.g.bars.length:Int)≤15)=decide (p.g.bars.length≤15) from by rw [Bool.eq_iff_iff]; simp; omega,
    show decide ((p.g.bars.length:Int)+2*(p.ground.length:Int)-3≤24)=decide (p.g.bars.length+2*p.ground.length≤27) from by rw [Bool.eq_iff_iff]; simp; omega]
   cases Sa p.g <;> cases decide (2≤p.ground.length) <;> cases decide (p.g.bars.length≤15) <;> rfl
  rw [Sn]
 rw [show (List.range p.ground.length).all (Xt p.g.n p.ground)=asc p.g.n p.ground from rfl]
 simp only [Fk]
 congr 1
 unfold Az Sa
 cases asc p.g.n p.ground <;> cases Ss p.ground p.g.bars <;> simp [cnd]
end
section
open Go.RowKit
def Cm (N:Nat) (p_0:Pin) (done_1:List Int) (r_2:Rse) (k:Unit→Option (Bool)):Nat→Int→Option (Bool)
 | 0,_=>none
 | n+1,i51=>
  cnd (decide (i51<(r_2.bars.length:Int))) (
   grd (0≤i51∧i51<(r_2.bars.length:Int)) <|
   cnd (decide ((r_2.bars.getD ((i51).toNat) 0)<(0:Int))) (
    some false) (
    cnd (decide ((r_2.bars.getD ((i51).toNat) 0)≥(p_0.g.bars.length:Int))) (
     some false) (
     cnd (decide (i51 > (0:Int))) (
      grd (Bf (i51-(1:Int))) <|
      grd (0≤(i51-(1:Int))∧(i51-(1:Int))<(r_2.bars.length:Int)) <|
      cnd (decide ((r_2.bars.getD (((i51-(1:Int))).toNat) 0)≥(r_2.bars.getD ((i51).toNat) 0))) (
       some false) (
       grd (0≤(r_2.bars.getD ((i51).toNat) 0)∧(r_2.bars.getD ((i51).toNat) 0)<(p_0.g.bars.length:Int)) <|
       cnd (((p_0.g.bars.getD (((r_2.bars.getD ((i51).toNat) 0)).toNat) (0,0)).1) != r_2.p) (
        cnd (((p_0.g.bars.getD (((r_2.bars.getD ((i51).toNat) 0)).toNat) (0,0)).2) != r_2.p) (
         some false) (
         (Eg N (p_0.g.bars.getD (((r_2.bars.getD ((i51).toNat) 0)).toNat) (0,0)) r_2.p).bind fun v64=>
         (Cw N p_0.ground v64).bind fun v65=>
         cnd (!v65) (
          (Cw N done_1 v64).bind fun v66=>
          cnd (!v66) (
           some false) (
           grd (Bf (i51+(1:Int))) <|
           Cm N p_0 done_1 r_2 k n (i51+(1:Int)))) (
          grd (Bf (i51+(1:Int))) <|
          Cm N p_0 done_1 r_2 k n (i51+(1:Int))))) (
        (Eg N (p_0.g.bars.getD (((r_2.bars.getD ((i51).toNat) 0)).toNat) (0,0)) r_2.p).bind fun v67=>
        (Cw N p_0.ground v67).bind fun v68=>
        cnd (!v68) (
         (Cw N done_1 v67).bind fun v69=>
         cnd (!v69) (
          some false) (
          grd (Bf (i51+(1:Int))) <|
          Cm N p_0 done_1 r_2 k n (i51+(1:Int)))) (
         grd (Bf (i51+(1:Int))) <|
         Cm N p_0 done_1 r_2 k n (i51+(1:Int)))))) (
      grd (0≤(r_2.bars.getD ((i51).toNat) 0)∧(r_2.bars.getD ((i51).toNat) 0)<(p_0.g.bars.length:Int)) <|
      cnd (((p_0.g.bars.getD (((r_2.bars.getD ((i51).toNat) 0)).toNat) (0,0)).1) != r_2.p) (
       cnd (((p_0.g.bars.getD (((r_2.bars.getD ((i51).toNat) 0)).toNat) (0,0)).2) != r_2.p) (
        some false) (
        (Eg N (p_0.g.bars.getD (((r_2.bars.getD ((i51).toNat) 0)).toNat) (0,0)) r_2.p).bind fun v70=>
        (Cw N p_0.ground v70).bind fun v71=>
        cnd (!v71) (
         (Cw N done_1 v70).bind fun v72=>
         cnd (!v72) (
          some false) (
          grd (Bf (i51+(1:Int))) <|
          Cm N p_0 done_1 r_2 k n (i51+(1:Int)))) (
         grd (Bf (i51+(1:Int))) <|
         Cm N p_0 done_1 r_2 k n (i51+(1:Int))))) (
       (Eg N (p_0.g.bars.getD (((r_2.bars.getD ((i51).toNat) 0)).toNat) (0,0)) r_2.p).bind fun v73=>
       (Cw N p_0.ground v73).bind fun v74=>
       cnd (!v74) (
        (Cw N done_1 v73).bind fun v75=>
        cnd (!v75) (
         some false) (
         grd (Bf (i51+(1:Int))) <|
         Cm N p_0 done_1 r_2 k n (i51+(1:Int)))) (
        grd (Bf (i51+(1:Int))) <|
        Cm N p_0 done_1 r_2 k n (i51+(1:Int)))))))) (
   k ())
def Rv (N:Nat) (p_0:Pin) (done_1:List Int) (r_2:Rse):Option (Bool):=
 Cm N p_0 done_1 r_2 (fun (_ : Unit) =>
    some true) N (0:Int)
theorem S_l26Ends_w (N:Nat) (p_0:Pin) (done_1:List Int) (r_2:Rse) (r:Bool) (h:Rv N p_0 done_1 r_2=some r):PCall Try.prog 124 [pD p_0,.ro false (.ints done_1),rD r_2] [] (.bool r):=by
 unfold Rv at h
 refine Ah (TT:=TT) tt Try.func124 rfl rfl Try.ntmps124 (congrArg Array.toList Try.results124) rfl rfl fun w0=>?_
 refine Ag ?_
 refine Aa ?_
 iterate 2 refine Km rfl rfl rfl rfl rfl rfl rfl rfl rfl ?_
 refine oV5 tt rfl Tvv ?_
 refine Ae ?_
 show VC ..
 iterate 2 refine Ag ?_
 refine Aa ?_
 refine oV5 tt rfl Tvv ?_
 refine Ae ?_
 show VC ..
 refine Ck (F:=fun k=>Cm N p_0 done_1 r_2 k) h (α:=Unit) (J:=fun (_:Unit)=>(⟨[],[],[]⟩:PS)) ?_ ?_
 ·rintro ⟨⟩ h
  show VC _ _ _ (⟨[],[],[]⟩:PS)
  refine Ag ?_
  refine Aa ?_
  refine oV5 tt rfl Tvv ?_
  refine Ae ?_
  show VC ..
  refine Bb ?_
  show ∃ _,_
  cases h
  exact ⟨[],_,rfl,Tvv,rfl,(.eq rfl),rfl⟩
 intro k h
 refine Aq ?_
 refine Bh (α:=Int) (fun (i51:Int)=>(⟨[(1,.ro false (.ints done_1)),(3,.ptr 3 0),(5,.ptr 5 0),(7,.int i51)],[],[(3,some [.int p_0.g.n,.ro false (.pairs p_0.g.bars),.ro false (.ints p_0.ground)]),(5,some [.int r_2.p,.ro false (.ints r_2.bars)])]⟩:PS)) (Cm N p_0 done_1 r_2 k) h (En.of ⟨rfl,rfl,rfl,rfl,Tvv⟩ trivial ⟨rfl,rfl,Tvv⟩) (fun _=>rfl) ?_
 rintro n i51 h
 rw [Cm] at h
 show VC _ _ _ (⟨[(1,.ro false (.ints done_1)),(3,.ptr 3 0),(5,.ptr 5 0),(7,.int i51)],[],[(3,some [.int p_0.g.n,.ro false (.pairs p_0.g.bars),.ro false (.ints p_0.ground)]),(5,some [.int r_2.p,.ro false (.ints r_2.bars)])]⟩:PS)
 iterate 2 refine Ag ?_
 refine Aa ?_
 iterate 5 refine oV5 tt rfl Tvv ?_
 refine Ae ?_
 show VC ..
 refine Au rfl (fun hb1=>?_) (fun hb1=>?_)
 ·replace h:=Ai hb1 h
  refine Ar ?_
  show VC ..
  refine Ag ?_
  refine Aq ?_
  iterate 2 refine Ag ?_
  refine Cg (by kernel_rfl) (by kernel_rfl) ?_
  iterate 3 refine Bi tt rfl (Ad rfl) rfl rfl rfl Tvv ?_
  obtain ⟨hg2,h⟩:=Ab h
  refine Bi tt rfl (Ad rfl) rfl rfl rfl hg2 ?_
  iterate 3 refine Bi tt rfl (Ad rfl) rfl rfl rfl Tvv ?_
  refine Gd rfl rfl rfl (fun hb3=>?_) (fun hb3=>?_)
  ·replace h:=Ai hb3 h
   iterate 10 refine Pe rfl rfl rfl rfl hb3 rfl rfl ?_
   refine Cs rfl (Ad rfl) rfl rfl rfl hb3 rfl ?_
   refine Bi tt rfl (Ad rfl) rfl rfl rfl Tvv ?_
   iterate 3 refine Pe rfl rfl rfl rfl rfl rfl rfl ?_
   iterate 12 refine cNoU rfl rfl rfl rfl rfl ?_
   refine Pe rfl rfl rfl rfl rfl rfl rfl ?_
   refine Cs rfl (Ad rfl) rfl rfl rfl rfl rfl ?_
   refine La ?_
   show VC ..
   refine Bs rfl rfl ?_
   refine Ag ?_
   refine Aa ?_
   refine oV5 tt rfl Tvv ?_
   refine Ae ?_
   show VC ..
   refine Bb ?_
   show ∃ _,_
   cases h
   exact ⟨[],_,rfl,Tvv,rfl,(.eq rfl),rfl⟩
  replace h:=Aj hb3 h
  iterate 3 refine Bi tt rfl (Ax rfl rfl rfl rfl hb3) rfl rfl rfl Tvv ?_
  refine Bi tt rfl (Ax rfl rfl rfl rfl hb3) rfl rfl rfl hg2 ?_
  iterate 6 refine Bi tt rfl (Ax rfl rfl rfl rfl hb3) rfl rfl rfl Tvv ?_
  refine Do rfl (Ad rfl) rfl rfl rfl hb3 rfl ?_
  refine Bi tt rfl (Ad rfl) rfl rfl rfl Tvv ?_
  refine Gd rfl rfl rfl (fun hb4=>?_) (fun hb4=>?_)
  ·replace h:=Ai hb4 h
   iterate 3 refine Pe rfl rfl rfl rfl hb4 rfl rfl ?_
   iterate 12 refine cNoU rfl rfl rfl rfl rfl ?_
   refine Pe rfl rfl rfl rfl hb4 rfl rfl ?_
   refine Cs rfl (Ad rfl) rfl rfl rfl hb4 rfl ?_
   refine La ?_
   show VC ..
   refine Bs rfl rfl ?_
   refine Ag ?_
   refine Aa ?_
   refine oV5 tt rfl Tvv ?_
   refine Ae ?_
   show VC ..
   refine Bb ?_
   show ∃ _,_
   cases h
   exact ⟨[],_,rfl,Tvv,rfl,(.eq rfl),rfl⟩
  replace h:=Aj hb4 h
  iterate 3 refine Bi tt rfl (Ax rfl rfl rfl rfl hb4) rfl rfl rfl Tvv ?_
  refine Gd rfl rfl rfl (fun hb5=>?_) (fun hb5=>?_)
  ·replace h:=Ai hb5 h
   iterate 3 refine Bi tt rfl (Ax rfl rfl rfl rfl hb5) rfl rfl rfl Tvv ?_
   obtain ⟨hg6,h⟩:=Ab h
   refine Bi tt rfl (Ax rfl rfl rfl rfl hb5) rfl rfl rfl hg6 ?_
   obtain ⟨hg7,h⟩:=Ab h
   refine Bi tt rfl (Ax rfl rfl rfl rfl hb5) rfl rfl rfl hg7 ?_
   iterate 4 refine Bi tt rfl (Ax rfl rfl rfl rfl hb5) rfl rfl rfl Tvv ?_
   refine Bi tt rfl (Ax rfl rfl rfl rfl hb5) rfl rfl rfl hg2 ?_
   iterate 2 refine Bi tt rfl (Ax rfl rfl rfl rfl hb5) rfl rfl rfl Tvv ?_
   refine Cs rfl (Ax rfl rfl rfl rfl hb4) rfl rfl rfl hb5 rfl ?_
   refine Do rfl (Ad rfl) rfl rfl rfl hb4 rfl ?_
   refine La ?_
   show VC ..
   refine Au rfl (fun hb8=>?_) (fun hb8=>?_)
   ·replace h:=Ai hb8 h
    refine Ag ?_
    refine Aa ?_
    refine oV5 tt rfl Tvv ?_
    refine Ae ?_
    show VC ..
    refine Bb ?_
    show ∃ _,_
    cases h
    exact ⟨[],_,rfl,Tvv,rfl,(.eq rfl),rfl⟩
   replace h:=Aj hb8 h
   refine Ar ?_
   show VC ..
   refine Ag ?_
   refine Bl 11 [10] [0,1,3,0,8,0,56,120,255,511,0,2047] (by kernel_rfl) (by kernel_rfl) (by kernel_rfl) (by kernel_rfl) (by kernel_rfl) rfl (by rfl) ?_
   iterate 6 refine Bo tt rfl (Ad rfl) rfl rfl rfl rfl rfl Tvv ?_
   refine Bo tt rfl (Ad rfl) rfl rfl rfl rfl rfl hg2 ?_
   refine Bo tt rfl (Ad rfl) rfl rfl rfl rfl rfl Tvv ?_
   obtain ⟨hg9,h⟩:=Ab h
   refine Bo tt rfl (Ad rfl) rfl rfl rfl rfl rfl hg9 ?_
   refine Bo tt rfl (Ad rfl) rfl rfl rfl rfl rfl Tvv ?_
   refine Aax tt (Ad rfl) rfl rfl rfl rfl rfl rfl rfl rfl rfl rfl ?_
   refine Lt ?_
   show VO _ _ _ _ _
   refine Ao tt rfl rfl rfl rfl rfl rfl rfl rfl rfl rfl rfl ⟨Tvv,Tvv,Tvv⟩ ?_
   refine Ae ?_
   show VC ..
   iterate 2 refine Ag ?_
   refine Aa ?_
   iterate 6 refine oV5 tt rfl Tvv ?_
   refine Bc rfl rfl rfl (fun hb10=>?_) (fun hb10=>?_)
   ·replace h:=Ai hb10 h
    iterate 5 refine Bd tt rfl rfl rfl rfl rfl hb10 rfl rfl rfl Tvv ?_
    refine Be rfl rfl rfl rfl rfl hb10 rfl ?_
    refine Ae ?_
    show VC ..
    refine Au rfl (fun hb11=>?_) (fun hb11=>?_)
    ·replace h:=Ai hb11 h
     refine Ag ?_
     refine Aa ?_
     refine oV5 tt rfl Tvv ?_
     refine Ae ?_
     show VC ..
     refine Bb ?_
     show ∃ _,_
     cases h
     exact ⟨[],_,rfl,Tvv,rfl,(.eq rfl),rfl⟩
    replace h:=Aj hb11 h
    refine Ar ?_
    show VC ..
    refine Ag ?_
    refine Aa ?_
    iterate 3 refine oV5 tt rfl Tvv ?_
    obtain ⟨v64,hc12,h⟩:=Ac h
    refine Ba (Gt N (p_0.g.bars.getD (((r_2.bars.getD ((i51).toNat) 0)).toNat) (0,0)) r_2.p v64 hc12) rfl rfl rfl rfl rfl rfl rfl rfl ⟨⟨rfl,rfl,Tvv⟩,rfl,Tvv⟩ ?_
    refine oV5 tt rfl Tvv ?_
    refine Ae ?_
    show VC ..
    refine Ag ?_
    refine Aa ?_
    iterate 3 refine oV5 tt rfl Tvv ?_
    obtain ⟨v65,hc13,h⟩:=Ac h
    refine Ba (Ct N p_0.ground v64 v65 hc13) rfl rfl rfl rfl rfl rfl rfl rfl ⟨rfl,rfl,Tvv⟩ ?_
    iterate 2 refine oV5 tt rfl Tvv ?_
    refine Bc rfl rfl rfl (fun hb14=>?_) (fun hb14=>?_)
    ·replace h:=Ai hb14 h
     iterate 2 refine Bd tt rfl rfl rfl rfl rfl hb14 rfl rfl rfl Tvv ?_
     obtain ⟨v66,hc15,h⟩:=Ac h
     refine Fj (Ct N done_1 v64 v66 hc15) rfl rfl rfl rfl hb14 rfl rfl rfl rfl rfl rfl rfl ⟨rfl,rfl,Tvv⟩ ?_
     refine Bd tt rfl rfl rfl rfl rfl hb14 rfl rfl rfl Tvv ?_
     refine Be rfl rfl rfl rfl rfl hb14 rfl ?_
     refine Ae ?_
     show VC ..
     refine Au rfl (fun hb16=>?_) (fun hb16=>?_)
     ·replace h:=Ai hb16 h
      refine Ag ?_
      refine Aa ?_
      refine oV5 tt rfl Tvv ?_
      refine Ae ?_
      show VC ..
      refine Bb ?_
      show ∃ _,_
      cases h
      exact ⟨[],_,rfl,Tvv,rfl,(.eq rfl),rfl⟩
     replace h:=Aj hb16 h
     refine Ar ?_
     show VC ..
     refine Aa ?_
     refine oV5 tt rfl Tvv ?_
     obtain ⟨hg17,h⟩:=Ab h
     refine oV5 tt rfl hg17 ?_
     refine oV5 tt rfl Tvv ?_
     refine Ae ?_
     show ∃ _,_
     exact ⟨(i51+(1:Int)),(En.of ⟨rfl,rfl,rfl,rfl,Tvv⟩ trivial ⟨rfl,rfl,Tvv⟩),h⟩
    replace h:=Aj hb14 h
    iterate 4 refine Jn rfl rfl rfl rfl hb14 rfl rfl ?_
    refine Av rfl rfl rfl rfl rfl hb14 rfl ?_
    refine Ae ?_
    show VC ..
    refine Cz rfl rfl ?_
    refine Ar ?_
    show VC ..
    refine Aa ?_
    refine oV5 tt rfl Tvv ?_
    obtain ⟨hg18,h⟩:=Ab h
    refine oV5 tt rfl hg18 ?_
    refine oV5 tt rfl Tvv ?_
    refine Ae ?_
    show ∃ _,_
    exact ⟨(i51+(1:Int)),(En.of ⟨rfl,rfl,rfl,rfl,Tvv⟩ trivial ⟨rfl,rfl,Tvv⟩),h⟩
   replace h:=Aj hb10 h
   iterate 5 refine Jn rfl rfl rfl rfl hb10 rfl rfl ?_
   refine Av rfl rfl rfl rfl rfl hb10 rfl ?_
   refine Ae ?_
   show VC ..
   refine Cz rfl rfl ?_
   refine Ar ?_
   show VC ..
   refine Ag ?_
   refine Aa ?_
   iterate 3 refine oV5 tt rfl Tvv ?_
   obtain ⟨v67,hc19,h⟩:=Ac h
   refine Ba (Gt N (p_0.g.bars.getD (((r_2.bars.getD ((i51).toNat) 0)).toNat) (0,0)) r_2.p v67 hc19) rfl rfl rfl rfl rfl rfl rfl rfl ⟨⟨rfl,rfl,Tvv⟩,rfl,Tvv⟩ ?_
   refine oV5 tt rfl Tvv ?_
   refine Ae ?_
   show VC ..
   refine Ag ?_
   refine Aa ?_
   iterate 3 refine oV5 tt rfl Tvv ?_
   obtain ⟨v68,hc20,h⟩:=Ac h
   refine Ba (Ct N p_0.ground v67 v68 hc20) rfl rfl rfl rfl rfl rfl rfl rfl ⟨rfl,rfl,Tvv⟩ ?_
   iterate 2 refine oV5 tt rfl Tvv ?_
   refine Bc rfl rfl rfl (fun hb21=>?_) (fun hb21=>?_)
   ·replace h:=Ai hb21 h
    iterate 2 refine Bd tt rfl rfl rfl rfl rfl hb21 rfl rfl rfl Tvv ?_
    obtain ⟨v69,hc22,h⟩:=Ac h
    refine Fj (Ct N done_1 v67 v69 hc22) rfl rfl rfl rfl hb21 rfl rfl rfl rfl rfl rfl rfl ⟨rfl,rfl,Tvv⟩ ?_
    refine Bd tt rfl rfl rfl rfl rfl hb21 rfl rfl rfl Tvv ?_
    refine Be rfl rfl rfl rfl rfl hb21 rfl ?_
    refine Ae ?_
    show VC ..
    refine Au rfl (fun hb23=>?_) (fun hb23=>?_)
    ·replace h:=Ai hb23 h
     refine Ag ?_
     refine Aa ?_
     refine oV5 tt rfl Tvv ?_
     refine Ae ?_
     show VC ..
     refine Bb ?_
     show ∃ _,_
     cases h
     exact ⟨[],_,rfl,Tvv,rfl,(.eq rfl),rfl⟩
    replace h:=Aj hb23 h
    refine Ar ?_
    show VC ..
    refine Aa ?_
    refine oV5 tt rfl Tvv ?_
    obtain ⟨hg24,h⟩:=Ab h
    refine oV5 tt rfl hg24 ?_
    refine oV5 tt rfl Tvv ?_
    refine Ae ?_
    show ∃ _,_
    exact ⟨(i51+(1:Int)),(En.of ⟨rfl,rfl,rfl,rfl,Tvv⟩ trivial ⟨rfl,rfl,Tvv⟩),h⟩
   replace h:=Aj hb21 h
   iterate 4 refine Jn rfl rfl rfl rfl hb21 rfl rfl ?_
   refine Av rfl rfl rfl rfl rfl hb21 rfl ?_
   refine Ae ?_
   show VC ..
   refine Cz rfl rfl ?_
   refine Ar ?_
   show VC ..
   refine Aa ?_
   refine oV5 tt rfl Tvv ?_
   obtain ⟨hg25,h⟩:=Ab h
   refine oV5 tt rfl hg25 ?_
   refine oV5 tt rfl Tvv ?_
   refine Ae ?_
   show ∃ _,_
   exact ⟨(i51+(1:Int)),(En.of ⟨rfl,rfl,rfl,rfl,Tvv⟩ trivial ⟨rfl,rfl,Tvv⟩),h⟩
  replace h:=Aj hb5 h
  iterate 12 refine cNoT rfl rfl rfl rfl hb5 rfl rfl ?_
  refine Do rfl (Ax rfl rfl rfl rfl hb4) rfl rfl rfl hb5 rfl ?_
  refine Do rfl (Ad rfl) rfl rfl rfl hb4 rfl ?_
  refine La ?_
  show VC ..
  refine Cz rfl rfl ?_
  refine Ar ?_
  show VC ..
  refine Ag ?_
  refine Bl 11 [10] [0,1,3,0,8,0,56,120,255,511,0,2047] (by kernel_rfl) (by kernel_rfl) (by kernel_rfl) (by kernel_rfl) (by kernel_rfl) rfl (by rfl) ?_
  iterate 6 refine Bo tt rfl (Ad rfl) rfl rfl rfl rfl rfl Tvv ?_
  refine Bo tt rfl (Ad rfl) rfl rfl rfl rfl rfl hg2 ?_
  refine Bo tt rfl (Ad rfl) rfl rfl rfl rfl rfl Tvv ?_
  obtain ⟨hg26,h⟩:=Ab h
  refine Bo tt rfl (Ad rfl) rfl rfl rfl rfl rfl hg26 ?_
  refine Bo tt rfl (Ad rfl) rfl rfl rfl rfl rfl Tvv ?_
  refine Aax tt (Ad rfl) rfl rfl rfl rfl rfl rfl rfl rfl rfl rfl ?_
  refine Lt ?_
  show VO _ _ _ _ _
  refine Ao tt rfl rfl rfl rfl rfl rfl rfl rfl rfl rfl rfl ⟨Tvv,Tvv,Tvv⟩ ?_
  refine Ae ?_
  show VC ..
  iterate 2 refine Ag ?_
  refine Aa ?_
  iterate 6 refine oV5 tt rfl Tvv ?_
  refine Bc rfl rfl rfl (fun hb27=>?_) (fun hb27=>?_)
  ·replace h:=Ai hb27 h
   iterate 5 refine Bd tt rfl rfl rfl rfl rfl hb27 rfl rfl rfl Tvv ?_
   refine Be rfl rfl rfl rfl rfl hb27 rfl ?_
   refine Ae ?_
   show VC ..
   refine Au rfl (fun hb28=>?_) (fun hb28=>?_)
   ·replace h:=Ai hb28 h
    refine Ag ?_
    refine Aa ?_
    refine oV5 tt rfl Tvv ?_
    refine Ae ?_
    show VC ..
    refine Bb ?_
    show ∃ _,_
    cases h
    exact ⟨[],_,rfl,Tvv,rfl,(.eq rfl),rfl⟩
   replace h:=Aj hb28 h
   refine Ar ?_
   show VC ..
   refine Ag ?_
   refine Aa ?_
   iterate 3 refine oV5 tt rfl Tvv ?_
   obtain ⟨v70,hc29,h⟩:=Ac h
   refine Ba (Gt N (p_0.g.bars.getD (((r_2.bars.getD ((i51).toNat) 0)).toNat) (0,0)) r_2.p v70 hc29) rfl rfl rfl rfl rfl rfl rfl rfl ⟨⟨rfl,rfl,Tvv⟩,rfl,Tvv⟩ ?_
   refine oV5 tt rfl Tvv ?_
   refine Ae ?_
   show VC ..
   refine Ag ?_
   refine Aa ?_
   iterate 3 refine oV5 tt rfl Tvv ?_
   obtain ⟨v71,hc30,h⟩:=Ac h
   refine Ba (Ct N p_0.ground v70 v71 hc30) rfl rfl rfl rfl rfl rfl rfl rfl ⟨rfl,rfl,Tvv⟩ ?_
   iterate 2 refine oV5 tt rfl Tvv ?_
   refine Bc rfl rfl rfl (fun hb31=>?_) (fun hb31=>?_)
   ·replace h:=Ai hb31 h
    iterate 2 refine Bd tt rfl rfl rfl rfl rfl hb31 rfl rfl rfl Tvv ?_
    obtain ⟨v72,hc32,h⟩:=Ac h
    refine Fj (Ct N done_1 v70 v72 hc32) rfl rfl rfl rfl hb31 rfl rfl rfl rfl rfl rfl rfl ⟨rfl,rfl,Tvv⟩ ?_
    refine Bd tt rfl rfl rfl rfl rfl hb31 rfl rfl rfl Tvv ?_
    refine Be rfl rfl rfl rfl rfl hb31 rfl ?_
    refine Ae ?_
    show VC ..
    refine Au rfl (fun hb33=>?_) (fun hb33=>?_)
    ·replace h:=Ai hb33 h
     refine Ag ?_
     refine Aa ?_
     refine oV5 tt rfl Tvv ?_
     refine Ae ?_
     show VC ..
     refine Bb ?_
     show ∃ _,_
     cases h
     exact ⟨[],_,rfl,Tvv,rfl,(.eq rfl),rfl⟩
    replace h:=Aj hb33 h
    refine Ar ?_
    show VC ..
    refine Aa ?_
    refine oV5 tt rfl Tvv ?_
    obtain ⟨hg34,h⟩:=Ab h
    refine oV5 tt rfl hg34 ?_
    refine oV5 tt rfl Tvv ?_
    refine Ae ?_
    show ∃ _,_
    exact ⟨(i51+(1:Int)),(En.of ⟨rfl,rfl,rfl,rfl,Tvv⟩ trivial ⟨rfl,rfl,Tvv⟩),h⟩
   replace h:=Aj hb31 h
   iterate 4 refine Jn rfl rfl rfl rfl hb31 rfl rfl ?_
   refine Av rfl rfl rfl rfl rfl hb31 rfl ?_
   refine Ae ?_
   show VC ..
   refine Cz rfl rfl ?_
   refine Ar ?_
   show VC ..
   refine Aa ?_
   refine oV5 tt rfl Tvv ?_
   obtain ⟨hg35,h⟩:=Ab h
   refine oV5 tt rfl hg35 ?_
   refine oV5 tt rfl Tvv ?_
   refine Ae ?_
   show ∃ _,_
   exact ⟨(i51+(1:Int)),(En.of ⟨rfl,rfl,rfl,rfl,Tvv⟩ trivial ⟨rfl,rfl,Tvv⟩),h⟩
  replace h:=Aj hb27 h
  iterate 5 refine Jn rfl rfl rfl rfl hb27 rfl rfl ?_
  refine Av rfl rfl rfl rfl rfl hb27 rfl ?_
  refine Ae ?_
  show VC ..
  refine Cz rfl rfl ?_
  refine Ar ?_
  show VC ..
  refine Ag ?_
  refine Aa ?_
  iterate 3 refine oV5 tt rfl Tvv ?_
  obtain ⟨v73,hc36,h⟩:=Ac h
  refine Ba (Gt N (p_0.g.bars.getD (((r_2.bars.getD ((i51).toNat) 0)).toNat) (0,0)) r_2.p v73 hc36) rfl rfl rfl rfl rfl rfl rfl rfl ⟨⟨rfl,rfl,Tvv⟩,rfl,Tvv⟩ ?_
  refine oV5 tt rfl Tvv ?_
  refine Ae ?_
  show VC ..
  refine Ag ?_
  refine Aa ?_
  iterate 3 refine oV5 tt rfl Tvv ?_
  obtain ⟨v74,hc37,h⟩:=Ac h
  refine Ba (Ct N p_0.ground v73 v74 hc37) rfl rfl rfl rfl rfl rfl rfl rfl ⟨rfl,rfl,Tvv⟩ ?_
  iterate 2 refine oV5 tt rfl Tvv ?_
  refine Bc rfl rfl rfl (fun hb38=>?_) (fun hb38=>?_)
  ·replace h:=Ai hb38 h
   iterate 2 refine Bd tt rfl rfl rfl rfl rfl hb38 rfl rfl rfl Tvv ?_
   obtain ⟨v75,hc39,h⟩:=Ac h
   refine Fj (Ct N done_1 v73 v75 hc39) rfl rfl rfl rfl hb38 rfl rfl rfl rfl rfl rfl rfl ⟨rfl,rfl,Tvv⟩ ?_
   refine Bd tt rfl rfl rfl rfl rfl hb38 rfl rfl rfl Tvv ?_
   refine Be rfl rfl rfl rfl rfl hb38 rfl ?_
   refine Ae ?_
   show VC ..
   refine Au rfl (fun hb40=>?_) (fun hb40=>?_)
   ·replace h:=Ai hb40 h
    refine Ag ?_
    refine Aa ?_
    refine oV5 tt rfl Tvv ?_
    refine Ae ?_
    show VC ..
    refine Bb ?_
    show ∃ _,_
    cases h
    exact ⟨[],_,rfl,Tvv,rfl,(.eq rfl),rfl⟩
   replace h:=Aj hb40 h
   refine Ar ?_
   show VC ..
   refine Aa ?_
   refine oV5 tt rfl Tvv ?_
   obtain ⟨hg41,h⟩:=Ab h
   refine oV5 tt rfl hg41 ?_
   refine oV5 tt rfl Tvv ?_
   refine Ae ?_
   show ∃ _,_
   exact ⟨(i51+(1:Int)),(En.of ⟨rfl,rfl,rfl,rfl,Tvv⟩ trivial ⟨rfl,rfl,Tvv⟩),h⟩
  replace h:=Aj hb38 h
  iterate 4 refine Jn rfl rfl rfl rfl hb38 rfl rfl ?_
  refine Av rfl rfl rfl rfl rfl hb38 rfl ?_
  refine Ae ?_
  show VC ..
  refine Cz rfl rfl ?_
  refine Ar ?_
  show VC ..
  refine Aa ?_
  refine oV5 tt rfl Tvv ?_
  obtain ⟨hg42,h⟩:=Ab h
  refine oV5 tt rfl hg42 ?_
  refine oV5 tt rfl Tvv ?_
  refine Ae ?_
  show ∃ _,_
  exact ⟨(i51+(1:Int)),(En.of ⟨rfl,rfl,rfl,rfl,Tvv⟩ trivial ⟨rfl,rfl,Tvv⟩),h⟩
 replace h:=Aj hb1 h
 refine Bq ?_
 show ∃ _,_
 exact ⟨(),(En.of trivial trivial trivial),h⟩
def Kh (N:Nat) (p_0:Pin) (done_1:List Int) (r_2:Rse):Option (Bool):=
 (Cj N p_0).bind fun v1=>
 cnd v1 (
  (Fh N p_0).bind fun v2=>
  (Cw N v2 r_2.p).bind fun v3=>
  cnd v3 (
   (Cw N done_1 r_2.p).bind fun v4=>
   cnd (!v4) (
    cnd (decide ((r_2.bars.length:Int)≥(2:Int))) (
     (Rv N p_0 done_1 r_2).bind fun v5=>
     some v5) (
     some false)) (
    some false)) (
   some false)) (
  some false)
theorem Ms (N:Nat) (p_0:Pin) (done_1:List Int) (r_2:Rse) (r:Bool) (h:Kh N p_0 done_1 r_2=some r):PCall Try.prog 30 [pD p_0,.ro false (.ints done_1),rD r_2] [] (.bool r):=by
 unfold Kh at h
 refine Ah (TT:=TT) tt Try.func30 rfl rfl Try.ntmps30 (congrArg Array.toList Try.results30) rfl rfl fun w0=>?_
 refine Ag ?_
 refine Aa ?_
 iterate 2 refine Km rfl rfl rfl rfl rfl rfl rfl rfl rfl ?_
 refine oV5 tt rfl Tvv ?_
 refine Ae ?_
 show VC ..
 refine Ag ?_
 refine Bl 26 [4] [0,1,3,7,15,7,39,127,255,511,1023,1023,3071,8191,16383,32767,65535,131071,262143,524287,1048575,2097151,4194303,8388607,8388607,8388607,67108863,134217727,268435455] (by kernel_rfl) (by kernel_rfl) (by kernel_rfl) (by kernel_rfl) (by kernel_rfl) rfl (by rfl) ?_
 refine Bo tt rfl (Ad rfl) rfl rfl rfl rfl rfl Tvv ?_
 obtain ⟨v1,hc1,h⟩:=Ac h
 refine Lr (Hx N p_0 v1 hc1) rfl (Ad rfl) rfl rfl rfl rfl rfl rfl rfl rfl ⟨⟨rfl,rfl,rfl,Tvv⟩,Tvv⟩ ?_
 refine Bo tt rfl (Ad rfl) rfl rfl rfl rfl rfl Tvv ?_
 refine Qz rfl rfl rfl (fun hb2=>?_) (fun hb2=>?_)
 ·replace h:=Ai hb2 h
  refine Bo tt rfl (Ax rfl rfl rfl rfl hb2) rfl rfl rfl rfl rfl Tvv ?_
  obtain ⟨v2,hc3,h⟩:=Ac h
  refine Jh (Ke N p_0 v2 hc3) rfl (Ax rfl rfl rfl rfl hb2) rfl rfl rfl rfl rfl rfl (by first | rfl | kernel_rfl | (simp [nrL,nm,Dy,nmT,Es]; done)) rfl (by first | rfl | kernel_rfl | (simp [Jj,nrL,nm,Dy,nmT,Es,hid,Ez,Cf,Bn]; done) | (simp [Jj,nrL,nm,Dy,nmT,Es,hid,Ez,Cf,Bn]; decide)) ⟨⟨rfl,rfl,rfl,Tvv⟩,Tvv⟩ ?_
  iterate 2 refine Bo tt rfl (Ax rfl rfl rfl rfl hb2) rfl rfl rfl rfl rfl Tvv ?_
  obtain ⟨v3,hc4,h⟩:=Ac h
  refine Lr (Ct N v2 r_2.p v3 hc4) rfl (Ax rfl rfl rfl rfl hb2) rfl rfl rfl rfl rfl rfl rfl rfl ⟨(.inl ⟨rfl,rfl⟩),rfl,Tvv⟩ ?_
  refine Zs rfl (Ad rfl) rfl rfl rfl hb2 rfl rfl ?_
  refine Bo tt rfl (Ad rfl) rfl rfl rfl rfl rfl Tvv ?_
  refine Qz rfl rfl rfl (fun hb5=>?_) (fun hb5=>?_)
  ·replace h:=Ai hb5 h
   iterate 3 refine Bo tt rfl (Ax rfl rfl rfl rfl hb5) rfl rfl rfl rfl rfl Tvv ?_
   obtain ⟨v4,hc6,h⟩:=Ac h
   refine Lr (Ct N done_1 r_2.p v4 hc6) rfl (Ax rfl rfl rfl rfl hb5) rfl rfl rfl rfl rfl rfl rfl rfl ⟨rfl,rfl,Tvv⟩ ?_
   refine Bo tt rfl (Ax rfl rfl rfl rfl hb5) rfl rfl rfl rfl rfl Tvv ?_
   refine Zs rfl (Ad rfl) rfl rfl rfl hb5 rfl rfl ?_
   refine Bo tt rfl (Ad rfl) rfl rfl rfl rfl rfl Tvv ?_
   refine Qz rfl rfl rfl (fun hb7=>?_) (fun hb7=>?_)
   ·replace h:=Ai hb7 h
    iterate 4 refine Bo tt rfl (Ax rfl rfl rfl rfl hb7) rfl rfl rfl rfl rfl Tvv ?_
    refine Zs rfl (Ad rfl) rfl rfl rfl hb7 rfl rfl ?_
    refine Bo tt rfl (Ad rfl) rfl rfl rfl rfl rfl Tvv ?_
    refine Qz rfl rfl rfl (fun hb8=>?_) (fun hb8=>?_)
    ·replace h:=Ai hb8 h
     iterate 3 refine Bo tt rfl (Ax rfl rfl rfl rfl hb8) rfl rfl rfl rfl rfl Tvv ?_
     refine Lt ?_
     show VO _ _ _ _ _
     obtain ⟨v5,hc9,h⟩:=Ac h
     refine Fj (S_l26Ends_w N p_0 done_1 r_2 v5 hc9) rfl rfl rfl rfl hb8 rfl rfl rfl rfl rfl rfl rfl ⟨⟨rfl,rfl,rfl,Tvv⟩,rfl,⟨rfl,rfl,Tvv⟩,Tvv⟩ ?_
     refine Be rfl rfl rfl rfl rfl hb8 rfl ?_
     refine oV5 tt rfl Tvv ?_
     refine Ae ?_
     show VC ..
     refine Bb ?_
     show ∃ _,_
     cases h
     exact ⟨[],_,rfl,Tvv,rfl,(.eq rfl),rfl⟩
    replace h:=Aj hb8 h
    iterate 3 refine Aad rfl rfl rfl rfl hb8 rfl rfl ?_
    refine Lt ?_
    show VO _ _ _ _ _
    refine Jn rfl rfl rfl rfl hb8 rfl rfl ?_
    refine Av rfl rfl rfl rfl rfl hb8 rfl ?_
    refine oV5 tt rfl Tvv ?_
    refine Ae ?_
    show VC ..
    refine Bb ?_
    show ∃ _,_
    cases h
    exact ⟨[],_,rfl,Tvv,rfl,(.eq rfl),rfl⟩
   replace h:=Aj hb7 h
   iterate 4 refine Aad rfl rfl rfl rfl hb7 rfl rfl ?_
   refine Sr rfl (Ad rfl) rfl rfl rfl hb7 rfl rfl ?_
   refine Bo tt rfl (Ad rfl) rfl rfl rfl rfl rfl Tvv ?_
   iterate 3 refine Aad rfl rfl rfl rfl rfl rfl rfl ?_
   refine Lt ?_
   show VO _ _ _ _ _
   refine Jn rfl rfl rfl rfl rfl rfl rfl ?_
   refine Av rfl rfl rfl rfl rfl rfl rfl ?_
   refine oV5 tt rfl Tvv ?_
   refine Ae ?_
   show VC ..
   refine Bb ?_
   show ∃ _,_
   cases h
   exact ⟨[],_,rfl,Tvv,rfl,(.eq rfl),rfl⟩
  replace h:=Aj hb5 h
  iterate 5 refine Aad rfl rfl rfl rfl hb5 rfl rfl ?_
  refine Sr rfl (Ad rfl) rfl rfl rfl hb5 rfl rfl ?_
  refine Bo tt rfl (Ad rfl) rfl rfl rfl rfl rfl Tvv ?_
  iterate 4 refine Aad rfl rfl rfl rfl rfl rfl rfl ?_
  refine Sr rfl (Ad rfl) rfl rfl rfl rfl rfl rfl ?_
  refine Bo tt rfl (Ad rfl) rfl rfl rfl rfl rfl Tvv ?_
  iterate 3 refine Aad rfl rfl rfl rfl rfl rfl rfl ?_
  refine Lt ?_
  show VO _ _ _ _ _
  refine Jn rfl rfl rfl rfl rfl rfl rfl ?_
  refine Av rfl rfl rfl rfl rfl rfl rfl ?_
  refine oV5 tt rfl Tvv ?_
  refine Ae ?_
  show VC ..
  refine Bb ?_
  show ∃ _,_
  cases h
  exact ⟨[],_,rfl,Tvv,rfl,(.eq rfl),rfl⟩
 replace h:=Aj hb2 h
 iterate 5 refine Aad rfl rfl rfl rfl hb2 rfl rfl ?_
 refine Sr rfl (Ad rfl) rfl rfl rfl hb2 rfl rfl ?_
 refine Bo tt rfl (Ad rfl) rfl rfl rfl rfl rfl Tvv ?_
 iterate 5 refine Aad rfl rfl rfl rfl rfl rfl rfl ?_
 refine Sr rfl (Ad rfl) rfl rfl rfl rfl rfl rfl ?_
 refine Bo tt rfl (Ad rfl) rfl rfl rfl rfl rfl Tvv ?_
 iterate 4 refine Aad rfl rfl rfl rfl rfl rfl rfl ?_
 refine Sr rfl (Ad rfl) rfl rfl rfl rfl rfl rfl ?_
 refine Bo tt rfl (Ad rfl) rfl rfl rfl rfl rfl Tvv ?_
 iterate 3 refine Aad rfl rfl rfl rfl rfl rfl rfl ?_
 refine Lt ?_
 show VO _ _ _ _ _
 refine Jn rfl rfl rfl rfl rfl rfl rfl ?_
 refine Av rfl rfl rfl rfl rfl rfl rfl ?_
 refine oV5 tt rfl Tvv ?_
 refine Ae ?_
 show VC ..
 refine Bb ?_
 show ∃ _,_
 cases h
 exact ⟨[],_,rfl,Tvv,rfl,(.eq rfl),rfl⟩
def Hl (N:Nat) (p_0:Pin) (done_1:List Int) (v_2:Int) (e_3:Int):Option (Bool):=
 grd (Bf ((p_0.g.bars.length:Int)-(1:Int))) <|
 (Qu N e_3 (0:Int) ((p_0.g.bars.length:Int)-(1:Int))).bind fun v1=>
 cnd (!v1) (
  some false) (
  grd (0≤e_3∧e_3<(p_0.g.bars.length:Int)) <|
  (Rd N (p_0.g.bars.getD ((e_3).toNat) (0,0)) v_2).bind fun v2=>
  cnd (!v2) (
   some false) (
   (Hw N (p_0.g.bars.getD ((e_3).toNat) (0,0)) v_2).bind fun v3=>
   (Cn N p_0.ground v3).bind fun v4=>
   cnd v4 (
    some true) (
    (Cn N done_1 v3).bind fun v5=>
    some v5)))
theorem Ra (N:Nat) (p_0:Pin) (done_1:List Int) (v_2:Int) (e_3:Int) (r:Bool) (h:Hl N p_0 done_1 v_2 e_3=some r):PCall Try.prog 111 [pD p_0,.ro false (.ints done_1),.int v_2,.int e_3] [] (.bool r):=by
 unfold Hl at h
 refine Ah (TT:=TT) tt Try.func111 rfl rfl Try.ntmps111 (congrArg Array.toList Try.results111) rfl rfl fun w0=>?_
 refine Ag ?_
 refine Aa ?_
 refine Km rfl rfl rfl rfl rfl rfl rfl rfl rfl ?_
 refine oV5 tt rfl Tvv ?_
 refine Ae ?_
 show VC ..
 iterate 2 refine Ag ?_
 refine Aa ?_
 iterate 5 refine oV5 tt rfl Tvv ?_
 obtain ⟨hg1,h⟩:=Ab h
 refine oV5 tt rfl hg1 ?_
 obtain ⟨v1,hc2,h⟩:=Ac h
 refine Ba (Wx N e_3 (0:Int) ((p_0.g.bars.length:Int)-(1:Int)) v1 hc2) rfl rfl rfl rfl rfl rfl rfl rfl ⟨rfl,rfl,rfl,Tvv⟩ ?_
 iterate 2 refine oV5 tt rfl Tvv ?_
 refine Bc rfl rfl rfl (fun hb3=>?_) (fun hb3=>?_)
 ·replace h:=Ai hb3 h
  iterate 9 refine Hm rfl rfl rfl rfl hb3 rfl rfl ?_
  refine Be rfl rfl rfl rfl rfl hb3 rfl ?_
  refine Ae ?_
  show VC ..
  refine Bs rfl rfl ?_
  refine Ag ?_
  refine Aa ?_
  refine oV5 tt rfl Tvv ?_
  refine Ae ?_
  show VC ..
  refine Bb ?_
  show ∃ _,_
  cases h
  exact ⟨[],_,rfl,Tvv,rfl,(.eq rfl),rfl⟩
 replace h:=Aj hb3 h
 iterate 4 refine Bd tt rfl rfl rfl rfl rfl hb3 rfl rfl rfl Tvv ?_
 obtain ⟨hg4,h⟩:=Ab h
 refine Bd tt rfl rfl rfl rfl rfl hb3 rfl rfl rfl hg4 ?_
 iterate 2 refine Bd tt rfl rfl rfl rfl rfl hb3 rfl rfl rfl Tvv ?_
 obtain ⟨v2,hc5,h⟩:=Ac h
 refine Fj (M_Bar_has_w N (p_0.g.bars.getD ((e_3).toNat) (0,0)) v_2 v2 hc5) rfl rfl rfl rfl hb3 rfl rfl rfl rfl rfl rfl rfl ⟨⟨rfl,rfl,Tvv⟩,rfl,Tvv⟩ ?_
 refine Bd tt rfl rfl rfl rfl rfl hb3 rfl rfl rfl Tvv ?_
 refine Av rfl rfl rfl rfl rfl hb3 rfl ?_
 refine Ae ?_
 show VC ..
 refine Au rfl (fun hb6=>?_) (fun hb6=>?_)
 ·replace h:=Ai hb6 h
  refine Ag ?_
  refine Aa ?_
  refine oV5 tt rfl Tvv ?_
  refine Ae ?_
  show VC ..
  refine Bb ?_
  show ∃ _,_
  cases h
  exact ⟨[],_,rfl,Tvv,rfl,(.eq rfl),rfl⟩
 replace h:=Aj hb6 h
 refine Ar ?_
 show VC ..
 refine Ag ?_
 refine Aa ?_
 iterate 4 refine oV5 tt rfl Tvv ?_
 refine oV5 tt rfl hg4 ?_
 iterate 2 refine oV5 tt rfl Tvv ?_
 obtain ⟨v3,hc7,h⟩:=Ac h
 refine Ba (Wa N (p_0.g.bars.getD ((e_3).toNat) (0,0)) v_2 v3 hc7) rfl rfl rfl rfl rfl rfl rfl rfl ⟨⟨rfl,rfl,Tvv⟩,rfl,Tvv⟩ ?_
 refine oV5 tt rfl Tvv ?_
 refine Ae ?_
 show VC ..
 refine Ag ?_
 refine Aa ?_
 iterate 3 refine oV5 tt rfl Tvv ?_
 obtain ⟨v4,hc8,h⟩:=Ac h
 refine Ba (Ed N p_0.ground v3 v4 hc8) rfl rfl rfl rfl rfl rfl rfl rfl ⟨rfl,rfl,Tvv⟩ ?_
 refine oV5 tt rfl Tvv ?_
 refine Bc rfl rfl rfl (fun hb9=>?_) (fun hb9=>?_)
 ·replace h:=Ai hb9 h
  iterate 3 refine Hm rfl rfl rfl rfl hb9 rfl rfl ?_
  refine Be rfl rfl rfl rfl rfl hb9 rfl ?_
  refine oV5 tt rfl Tvv ?_
  refine Ae ?_
  show VC ..
  refine Bb ?_
  show ∃ _,_
  cases h
  exact ⟨[],_,rfl,Tvv,rfl,(.eq rfl),rfl⟩
 replace h:=Aj hb9 h
 iterate 2 refine Bd tt rfl rfl rfl rfl rfl hb9 rfl rfl rfl Tvv ?_
 obtain ⟨v5,hc10,h⟩:=Ac h
 refine Fj (Ed N done_1 v3 v5 hc10) rfl rfl rfl rfl hb9 rfl rfl rfl rfl rfl rfl rfl ⟨rfl,rfl,Tvv⟩ ?_
 refine Av rfl rfl rfl rfl rfl hb9 rfl ?_
 refine oV5 tt rfl Tvv ?_
 refine Ae ?_
 show VC ..
 refine Bb ?_
 show ∃ _,_
 cases h
 exact ⟨[],_,rfl,Tvv,rfl,(.eq rfl),rfl⟩
def Gr (N:Nat) (p_0:Pin) (done_1:List Int) (r_2:Rse) (k:Unit→Option (Bool)):Nat→Int→Option (Bool)
 | 0,_=>none
 | n+1,x10=>
  cnd (decide (x10<(r_2.bars.length:Int))) (
   grd (0≤x10∧x10<(r_2.bars.length:Int)) <|
   (Hl N p_0 done_1 r_2.p (r_2.bars.getD ((x10).toNat) 0)).bind fun v12=>
   cnd (!v12) (
    some false) (
    cnd (decide (x10 > (0:Int))) (
     grd (Bf (x10-(1:Int))) <|
     grd (0≤(x10-(1:Int))∧(x10-(1:Int))<(r_2.bars.length:Int)) <|
     cnd (decide ((r_2.bars.getD (((x10-(1:Int))).toNat) 0)≥(r_2.bars.getD ((x10).toNat) 0))) (
      some false) (
      grd (Bf (x10+(1:Int))) <|
      Gr N p_0 done_1 r_2 k n (x10+(1:Int)))) (
     grd (Bf (x10+(1:Int))) <|
     Gr N p_0 done_1 r_2 k n (x10+(1:Int))))) (
   k ())
def Gg (N:Nat) (p_0:Pin) (done_1:List Int) (r_2:Rse):Option (Bool):=
 (Hk N p_0).bind fun v1=>
 cnd (!v1) (
  some false) (
  (He N p_0 r_2.p).bind fun v2=>
  cnd (!v2) (
   some false) (
   (Cn N done_1 r_2.p).bind fun v3=>
   cnd v3 (
    some false) (
    cnd (decide ((r_2.bars.length:Int)<(2:Int))) (
     some false) (
     Gr N p_0 done_1 r_2 (fun (_ : Unit) =>
        some true) N (0:Int)))))
theorem Js (N:Nat) (p_0:Pin) (done_1:List Int) (r_2:Rse) (r:Bool) (h:Gg N p_0 done_1 r_2=some r):PCall Try.prog 19 [pD p_0,.ro false (.ints done_1),rD r_2] [] (.bool r):=by
 unfold Gg at h
 refine Ah (TT:=TT) tt Try.func19 rfl rfl Try.ntmps19 (congrArg Array.toList Try.results19) rfl rfl fun w0=>?_
 refine Ag ?_
 refine Aa ?_
 iterate 2 refine Km rfl rfl rfl rfl rfl rfl rfl rfl rfl ?_
 refine oV5 tt rfl Tvv ?_
 refine Ae ?_
 show VC ..
 iterate 2 refine Ag ?_
 refine Aa ?_
 refine oV5 tt rfl Tvv ?_
 obtain ⟨v1,hc1,h⟩:=Ac h
 refine Ba (Ju N p_0 v1 hc1) rfl rfl rfl rfl rfl rfl rfl rfl ⟨⟨rfl,rfl,rfl,Tvv⟩,Tvv⟩ ?_
 iterate 2 refine oV5 tt rfl Tvv ?_
 refine Bc rfl rfl rfl (fun hb2=>?_) (fun hb2=>?_)
 ·replace h:=Ai hb2 h
  iterate 5 refine Hm rfl rfl rfl rfl hb2 rfl rfl ?_
  refine Be rfl rfl rfl rfl rfl hb2 rfl ?_
  refine oV5 tt rfl Tvv ?_
  iterate 4 refine Hm rfl rfl rfl rfl rfl rfl rfl ?_
  refine Be rfl rfl rfl rfl rfl rfl rfl ?_
  refine oV5 tt rfl Tvv ?_
  iterate 4 refine Hm rfl rfl rfl rfl rfl rfl rfl ?_
  refine Be rfl rfl rfl rfl rfl rfl rfl ?_
  refine Ae ?_
  show VC ..
  refine Bs rfl rfl ?_
  refine Ag ?_
  refine Aa ?_
  refine oV5 tt rfl Tvv ?_
  refine Ae ?_
  show VC ..
  refine Bb ?_
  show ∃ _,_
  cases h
  exact ⟨[],_,rfl,Tvv,rfl,(.eq rfl),rfl⟩
 replace h:=Aj hb2 h
 iterate 3 refine Bd tt rfl rfl rfl rfl rfl hb2 rfl rfl rfl Tvv ?_
 obtain ⟨v2,hc3,h⟩:=Ac h
 refine Fj (Vy N p_0 r_2.p v2 hc3) rfl rfl rfl rfl hb2 rfl rfl rfl rfl rfl rfl rfl ⟨⟨rfl,rfl,rfl,Tvv⟩,rfl,Tvv⟩ ?_
 refine Bd tt rfl rfl rfl rfl rfl hb2 rfl rfl rfl Tvv ?_
 refine Av rfl rfl rfl rfl rfl hb2 rfl ?_
 refine oV5 tt rfl Tvv ?_
 refine Bc rfl rfl rfl (fun hb4=>?_) (fun hb4=>?_)
 ·replace h:=Ai hb4 h
  iterate 4 refine Hm rfl rfl rfl rfl hb4 rfl rfl ?_
  refine Be rfl rfl rfl rfl rfl hb4 rfl ?_
  refine oV5 tt rfl Tvv ?_
  iterate 4 refine Hm rfl rfl rfl rfl rfl rfl rfl ?_
  refine Be rfl rfl rfl rfl rfl rfl rfl ?_
  refine Ae ?_
  show VC ..
  refine Bs rfl rfl ?_
  refine Ag ?_
  refine Aa ?_
  refine oV5 tt rfl Tvv ?_
  refine Ae ?_
  show VC ..
  refine Bb ?_
  show ∃ _,_
  cases h
  exact ⟨[],_,rfl,Tvv,rfl,(.eq rfl),rfl⟩
 replace h:=Aj hb4 h
 iterate 3 refine Bd tt rfl rfl rfl rfl rfl hb4 rfl rfl rfl Tvv ?_
 obtain ⟨v3,hc5,h⟩:=Ac h
 refine Fj (Ed N done_1 r_2.p v3 hc5) rfl rfl rfl rfl hb4 rfl rfl rfl rfl rfl rfl rfl ⟨rfl,rfl,Tvv⟩ ?_
 refine Av rfl rfl rfl rfl rfl hb4 rfl ?_
 refine oV5 tt rfl Tvv ?_
 refine Bc rfl rfl rfl (fun hb6=>?_) (fun hb6=>?_)
 ·replace h:=Ai hb6 h
  iterate 4 refine Hm rfl rfl rfl rfl hb6 rfl rfl ?_
  refine Be rfl rfl rfl rfl rfl hb6 rfl ?_
  refine Ae ?_
  show VC ..
  refine Bs rfl rfl ?_
  refine Ag ?_
  refine Aa ?_
  refine oV5 tt rfl Tvv ?_
  refine Ae ?_
  show VC ..
  refine Bb ?_
  show ∃ _,_
  cases h
  exact ⟨[],_,rfl,Tvv,rfl,(.eq rfl),rfl⟩
 replace h:=Aj hb6 h
 iterate 4 refine Bd tt rfl rfl rfl rfl rfl hb6 rfl rfl rfl Tvv ?_
 refine Av rfl rfl rfl rfl rfl hb6 rfl ?_
 refine Ae ?_
 show VC ..
 refine Au rfl (fun hb7=>?_) (fun hb7=>?_)
 ·replace h:=Ai hb7 h
  refine Ag ?_
  refine Aa ?_
  refine oV5 tt rfl Tvv ?_
  refine Ae ?_
  show VC ..
  refine Bb ?_
  show ∃ _,_
  cases h
  exact ⟨[],_,rfl,Tvv,rfl,(.eq rfl),rfl⟩
 replace h:=Aj hb7 h
 refine Ar ?_
 show VC ..
 iterate 2 refine Ag ?_
 refine Aa ?_
 iterate 4 refine oV5 tt rfl Tvv ?_
 refine Ae ?_
 show VC ..
 refine Ck (F:=fun k=>Gr N p_0 done_1 r_2 k) h (α:=Unit) (J:=fun (_:Unit)=>(⟨[],[],[]⟩:PS)) ?_ ?_
 ·rintro ⟨⟩ h
  show VC _ _ _ (⟨[],[],[]⟩:PS)
  refine Ag ?_
  refine Aa ?_
  refine oV5 tt rfl Tvv ?_
  refine Ae ?_
  show VC ..
  refine Bb ?_
  show ∃ _,_
  cases h
  exact ⟨[],_,rfl,Tvv,rfl,(.eq rfl),rfl⟩
 intro k h
 refine Aq ?_
 refine Bh (α:=Int) (fun (x10:Int)=>(⟨[(1,.ro false (.ints done_1)),(3,.ptr 3 0),(5,.ptr 5 0),(32,.ro false (.ints r_2.bars)),(33,.int (r_2.bars.length:Int)),(34,.int x10)],[],[(3,some [.int p_0.g.n,.ro false (.pairs p_0.g.bars),.ro false (.ints p_0.ground)]),(5,some [.int r_2.p,.ro false (.ints r_2.bars)])]⟩:PS)) (Gr N p_0 done_1 r_2 k) h (En.of ⟨rfl,rfl,rfl,rfl,rfl,rfl,Tvv⟩ trivial ⟨rfl,rfl,Tvv⟩) (fun _=>rfl) ?_
 rintro n x10 h
 rw [Gr] at h
 show VC _ _ _ (⟨[(1,.ro false (.ints done_1)),(3,.ptr 3 0),(5,.ptr 5 0),(32,.ro false (.ints r_2.bars)),(33,.int (r_2.bars.length:Int)),(34,.int x10)],[],[(3,some [.int p_0.g.n,.ro false (.pairs p_0.g.bars),.ro false (.ints p_0.ground)]),(5,some [.int r_2.p,.ro false (.ints r_2.bars)])]⟩:PS)
 refine Ag ?_
 refine Aa ?_
 refine oV5 tt rfl Tvv ?_
 refine Ae ?_
 show VC ..
 refine Ag ?_
 refine Au rfl (fun hb8=>?_) (fun hb8=>?_)
 ·replace h:=Ai hb8 h
  refine Ar ?_
  show VC ..
  refine Ag ?_
  refine Aq ?_
  refine Ag ?_
  refine Aa ?_
  refine oV5 tt rfl Tvv ?_
  obtain ⟨hg9,h⟩:=Ab h
  refine oV5 tt rfl hg9 ?_
  iterate 3 refine oV5 tt rfl Tvv ?_
  refine Ae ?_
  show VC ..
  refine Ag ?_
  refine Aa ?_
  iterate 5 refine oV5 tt rfl Tvv ?_
  obtain ⟨v12,hc10,h⟩:=Ac h
  refine Ba (Ra N p_0 done_1 r_2.p (r_2.bars.getD ((x10).toNat) 0) v12 hc10) rfl rfl rfl rfl rfl rfl rfl rfl ⟨⟨rfl,rfl,rfl,Tvv⟩,rfl,rfl,rfl,Tvv⟩ ?_
  iterate 2 refine oV5 tt rfl Tvv ?_
  refine Bc rfl rfl rfl (fun hb11=>?_) (fun hb11=>?_)
  ·replace h:=Ai hb11 h
   iterate 3 refine Hm rfl rfl rfl rfl hb11 rfl rfl ?_
   iterate 8 refine oNoU rfl rfl rfl rfl rfl ?_
   refine Hm rfl rfl rfl rfl hb11 rfl rfl ?_
   refine Be rfl rfl rfl rfl rfl hb11 rfl ?_
   refine Ae ?_
   show VC ..
   refine Bs rfl rfl ?_
   refine Ag ?_
   refine Aa ?_
   refine oV5 tt rfl Tvv ?_
   refine Ae ?_
   show VC ..
   refine Bb ?_
   show ∃ _,_
   cases h
   exact ⟨[],_,rfl,Tvv,rfl,(.eq rfl),rfl⟩
  replace h:=Aj hb11 h
  iterate 3 refine Bd tt rfl rfl rfl rfl rfl hb11 rfl rfl rfl Tvv ?_
  refine Bc rfl rfl rfl (fun hb12=>?_) (fun hb12=>?_)
  ·replace h:=Ai hb12 h
   iterate 3 refine Bd tt rfl rfl rfl rfl rfl hb12 rfl rfl rfl Tvv ?_
   obtain ⟨hg13,h⟩:=Ab h
   refine Bd tt rfl rfl rfl rfl rfl hb12 rfl rfl rfl hg13 ?_
   obtain ⟨hg14,h⟩:=Ab h
   refine Bd tt rfl rfl rfl rfl rfl hb12 rfl rfl rfl hg14 ?_
   iterate 3 refine Bd tt rfl rfl rfl rfl rfl hb12 rfl rfl rfl Tvv ?_
   refine oPickGT rfl rfl rfl rfl hb11 rfl rfl rfl rfl hb12 rfl ?_
   refine Av rfl rfl rfl rfl rfl hb11 rfl ?_
   refine Ae ?_
   show VC ..
   refine Au rfl (fun hb15=>?_) (fun hb15=>?_)
   ·replace h:=Ai hb15 h
    refine Ag ?_
    refine Aa ?_
    refine oV5 tt rfl Tvv ?_
    refine Ae ?_
    show VC ..
    refine Bb ?_
    show ∃ _,_
    cases h
    exact ⟨[],_,rfl,Tvv,rfl,(.eq rfl),rfl⟩
   replace h:=Aj hb15 h
   refine Ar ?_
   show VC ..
   refine Aa ?_
   obtain ⟨hg16,h⟩:=Ab h
   refine oV5 tt rfl hg16 ?_
   refine oV5 tt rfl Tvv ?_
   refine Ae ?_
   show ∃ _,_
   exact ⟨(x10+(1:Int)),(En.of ⟨rfl,rfl,rfl,rfl,rfl,rfl,Tvv⟩ trivial ⟨rfl,rfl,Tvv⟩),h⟩
  replace h:=Aj hb12 h
  iterate 8 refine Jn rfl rfl rfl rfl hb12 rfl rfl ?_
  refine oPickGF rfl rfl rfl rfl hb11 rfl rfl rfl rfl hb12 rfl ?_
  refine Av rfl rfl rfl rfl rfl hb11 rfl ?_
  refine Ae ?_
  show VC ..
  refine Cz rfl rfl ?_
  refine Ar ?_
  show VC ..
  refine Aa ?_
  obtain ⟨hg17,h⟩:=Ab h
  refine oV5 tt rfl hg17 ?_
  refine oV5 tt rfl Tvv ?_
  refine Ae ?_
  show ∃ _,_
  exact ⟨(x10+(1:Int)),(En.of ⟨rfl,rfl,rfl,rfl,rfl,rfl,Tvv⟩ trivial ⟨rfl,rfl,Tvv⟩),h⟩
 replace h:=Aj hb8 h
 refine Bq ?_
 show ∃ _,_
 exact ⟨(),(En.of trivial trivial trivial),h⟩
end
section
variable (N:Nat)
def Kr (ground:List Int) (n:Nat):List Int:=((List.range n).map Int.ofNat).filter fun i=>!ground.contains i
theorem Xm (g:List Int) (n:Nat):Kr g (n+1)=cnd (g.contains (n:Int)) (Kr g n) (Kr g n++[(n:Int)]):=by
 unfold Kr
 rw [List.range_succ,List.map_append,List.filter_append]
 simp only [List.map_cons,List.map_nil,List.filter_cons,List.filter_nil]
 cases h:g.contains (n:Int) <;> simp_all
theorem Mn (g:List Int) (n:Nat):(Kr g n).length≤n:=by
 unfold Kr
 exact Nat.le_trans (List.length_filter_le _ _) (by simp)
theorem Jb (p:Pin):inner p=Kr p.ground p.g.n.toNat:=rfl
theorem outside_mem (g:List Int) (n:Nat) (x:Int):(Kr g n).contains x=(inB x 0 ((n:Int)-1)&&!g.contains x):=by
 rw [Bool.eq_iff_iff]
 simp only [List.contains_eq_mem,decide_eq_true_eq,Kr,List.mem_filter,List.mem_map,List.mem_range,inB,Bool.and_eq_true]
 constructor
 ·rintro ⟨⟨i,hi,rfl⟩,h⟩
  refine ⟨⟨?_,?_⟩,h⟩
  ·show (0:Int)≤(i:Int); omega
  show (i:Int)≤_; omega
 rintro ⟨⟨h1,h2⟩,h⟩
 exact ⟨⟨x.toNat,by omega,by show ((x.toNat:Nat):Int)=x; omega⟩,h⟩
def Aw (p:Pin):List Int:=cnd (Az p) (inner p) []
theorem Bz {p:Pin} (h:Az p=true):1≤p.g.n∧p.g.n≤8∧p.g.bars.length≤15∧p.ground.length≤27:=by
 obtain ⟨h1,h2,h3,h4,h5,_⟩:=Cy h
 have:=Qh h1
 omega
theorem Si (hN:4000000≤N) {p:Pin} (hb:p.g.bars.length≤3000000) (hg:p.ground.length≤3000000):Gz N p=some (Aw p):=by
 unfold Gz Aw
 rw [Eu N hN hb hg,Option.bind_some,Lb]
 cases hp:Az p with
 | false=>rfl
 | true=>
  have hbd:=Bz hp
  rw [cnd_true,cnd_true,Jb]
  refine (fold (len:=p.g.n.toNat) (st:=Kr p.ground) (fin:=some (Kr p.ground p.g.n.toNat)) (by omega) ?_ ?_)
  ·intro n i hi
   have hl:=Mn p.ground i
   rw [Dh]
   simp (disch:=omega) only [Int.toNat_natCast,tk0,List.length_cons,List.length_nil,Af,Ay,At,Al,Ak,cnd_true,cnd_false,Option.bind_some,Mj N hN hg,Lb,Am,Xm]
   cases p.ground.contains (i:Int) <;> rfl
  intro n
  rw [Dh]
  simp (disch:=omega) only [Int.toNat_natCast,tk0,List.length_cons,List.length_nil,Af,Ay,At,Al,Ak,cnd_true,cnd_false,Option.bind_some]
theorem Sd (hN:4000000≤N) {p:Pin} (hb:p.g.bars.length≤3000000) (hg:p.ground.length≤3000000):Fh N p=some (Aw p):=by
 unfold Fh Aw
 cases hp:Az p with
 | false=>
  obtain ⟨M,rfl⟩:∃ M,N=M+1:=⟨N-1,by omega⟩
  rw [Co,Bw _ hN hb hg,Option.bind_some,hp]
  cases decide ((0:Int)<p.g.n) <;> rfl
 | true=>
  have hbd:=Bz hp
  rw [cnd_true,Jb]
  refine (fold (len:=p.g.n.toNat) (st:=Kr p.ground) (fin:=some (Kr p.ground p.g.n.toNat)) (by omega) ?_ ?_)
  ·intro n i hi
   have hl:=Mn p.ground i
   rw [Co]
   simp (disch:=omega) only [Int.toNat_natCast,tk0,List.length_cons,List.length_nil,Af,Ay,At,Al,Ak,cnd_true,cnd_false,Option.bind_some,Bw N hN hb hg,hp,Ln N hN hg,Lb,Am,Xm]
   cases p.ground.contains (i:Int) <;> rfl
  intro n
  rw [Co]
  simp (disch:=omega) only [Int.toNat_natCast,tk0,List.length_cons,List.length_nil,Af,Ay,At,Al,Ak,cnd_true,cnd_false,Option.bind_some]
def Wo (p:Pin) (x:Int):Bool:=inB x 0 (p.g.n-1)&&!p.ground.contains x
theorem isInner_s (hN:4000000≤N) {p:Pin} (hp:Az p=true) (x:Int):He N p x=some (Wo p x):=by
 have hbd:=Bz hp
 unfold He Wo
 rw [ghas_s N (by omega) (by omega),Option.bind_some,Mj N hN (by omega),Option.bind_some,Fk]
 cases inB x 0 (p.g.n-1) <;> rfl
theorem Rq {p:Pin} (hp:Az p=true) (x:Int):(Aw p).contains x=Wo p x:=by
 have hbd:=Bz hp
 unfold Aw Wo
 rw [hp,cnd_true,Jb,outside_mem,show ((p.g.n.toNat:Nat):Int)=p.g.n by omega]
def Bm (b:Int×Int) (v:Int):Int:=cnd (b.1==v) b.2 b.1
def Ey (b:Int×Int) (v:Int):Bool:=b.1==v || b.2==v
theorem hasEnd_1 {b:Int×Int} {v:Int} (h:b.1=v):Ey b v=true:=by simp [Ey,h]
theorem hasEnd_2 {b:Int×Int} {v:Int} (h:b.2=v):Ey b v=true:=by simp [Ey,h]
theorem hasEnd_0 {b:Int×Int} {v:Int} (h:¬ b.1=v) (h2:¬ b.2=v):Ey b v=false:=by simp [Ey,h,h2]
theorem bhas_s (b:Int×Int) (v:Int):Rd N b v=some (Ey b v):=by
 unfold Rd Ey
 rw [Fk]; cases b.1==v <;> rfl
theorem bother_s (b:Int×Int) (v:Int):Hw N b v=some (Bm b v):=by
 unfold Hw Bm
 rw [Fk]
theorem Va {b:Int×Int} {v:Int} (h1:0≤b.1) (h2:b.1≤1048576) (h3:0≤b.2) (h4:b.2≤1048576) (h:Ey b v=true):Eg N b v=some (Bm b v):=by
 unfold Eg Bm
 simp only [Ey,Bool.or_eq_true,beq_iff_eq] at h
 rcases h with h | h
 ·simp (disch:=omega) only [Int.toNat_natCast,tk0,List.length_cons,List.length_nil,Af,Ay,At,Al,Ak,cnd_true,cnd_false,Option.bind_some]
  congr 1
  rw [show (b.1==v)=true by simpa using h,cnd_true]; omega
 simp (disch:=omega) only [Int.toNat_natCast,tk0,List.length_cons,List.length_nil,Af,Ay,At,Al,Ak,cnd_true,cnd_false,Option.bind_some]
 congr 1
 cases hb:b.1==v with
 | true => have : b.1 = v := by simpa using hb
           rw [cnd_true]; omega
 | false=>rw [cnd_false]; omega
theorem Xl {p:Pin} (hp:Az p=true) {i:Nat} (hi:i<p.g.bars.length):0≤(p.g.bars.getD i (0,0)).1∧(p.g.bars.getD i (0,0)).1≤8∧0≤(p.g.bars.getD i (0,0)).2∧(p.g.bars.getD i (0,0)).2≤8∧(p.g.bars.getD i (0,0)).1<p.g.n∧(p.g.bars.getD i (0,0)).2<p.g.n∧(p.g.bars.getD i (0,0)).1<(p.g.bars.getD i (0,0)).2:=by
 have h1:=(Cy hp).1
 have h2:=Fw h1 (List.getElem_mem hi)
 have h3:=Qh h1
 simp [List.getD_eq_getElem?_getD,hi]
 omega
def Tb (p:Pin) (dn:List Int) (x e:Int):Bool:=
 inB e 0 ((p.g.bars.length:Int)-1)&&(Ey (p.g.bars.getD e.toNat (0,0)) x&&(p.ground.contains (Bm (p.g.bars.getD e.toNat (0,0)) x) || dn.contains (Bm (p.g.bars.getD e.toNat (0,0)) x)))
theorem holds_s (hN:4000000≤N) {p:Pin} (hp:Az p=true) {dn:List Int} (hd:dn.length≤3000000) (x e:Int):Hl N p dn x e=some (Tb p dn x e):=by
 have hbd:=Bz hp
 unfold Hl Tb
 simp (disch:=omega) only [Int.toNat_natCast,tk0,List.length_cons,List.length_nil,Af,Ay,At,Al,Ak,cnd_true,cnd_false,Option.bind_some,within_s,Lb]
 cases h1:inB e 0 ((p.g.bars.length:Int)-1) with
 | false=>rfl
 | true=>
  have h2:=inB_true.1 h1
  simp (disch:=omega) only [Int.toNat_natCast,tk0,List.length_cons,List.length_nil,Af,Ay,At,Al,Ak,cnd_true,cnd_false,Option.bind_some,bhas_s,bother_s,Mj N hN (show p.ground.length≤3000000 by omega),Mj N hN hd,Lb]
  cases Ey (p.g.bars.getD e.toNat (0,0)) x with
  | false=>rfl
  | true=>
   rw [cnd_true]
   cases p.ground.contains (Bm (p.g.bars.getD e.toNat (0,0)) x) <;> rfl
def Ka (p:Pin) (dn:List Int) (r:Rse) (i:Nat):Bool:=Tb p dn r.p (r.bars.getD i 0)&&(decide (i=0) || decide (r.bars.getD (i-1) 0<r.bars.getD i 0))
def Ho (p:Pin) (dn:List Int) (r:Rse):Bool:=Az p&&(Wo p r.p&&(!dn.contains r.p&&(decide (2≤r.bars.length)&&(List.range r.bars.length).all (Ka p dn r))))
theorem Sb (hN:4000000≤N) {p:Pin} (hb:p.g.bars.length≤3000000) (hg:p.ground.length≤3000000) {dn:List Int} (hd:dn.length≤3000000) {r:Rse} (hr:r.bars.length≤3000000):Gg N p dn r=some (Ho p dn r):=by
 unfold Gg Ho
 rw [Eu N hN hb hg,Option.bind_some,Lb]
 cases hp:Az p with
 | false=>rfl
 | true=>
  rw [cnd_true,isInner_s N hN hp,Option.bind_some,Mj N hN hd,Option.bind_some,Lb]
  cases Wo p r.p with
  | false=>rfl
  | true=>
   rw [cnd_true]
   cases dn.contains r.p with
   | true=>rfl
   | false=>
    rw [cnd_false]
    by_cases h2:2≤r.bars.length
    ·simp (disch:=omega) only [Int.toNat_natCast,tk0,List.length_cons,List.length_nil,Af,Ay,At,Al,Ak,cnd_true,cnd_false,Option.bind_some]
     refine (srch (len:=r.bars.length) (ok:=Ka p dn r) (bad:=some false) (fin:=some true) (by omega) ?_ ?_).trans ?_
     ·intro n i hi _
      rw [Gr]
      by_cases h0:i=0
      ·subst h0
       simp (disch:=omega) only [Int.toNat_natCast,tk0,List.length_cons,List.length_nil,Af,Ay,At,Al,Ak,cnd_true,cnd_false,Option.bind_some,holds_s N hN hp hd,Am]
       refine Ep ?_ _ _
       simp [Ka]
      simp (disch:=omega) only [Int.toNat_natCast,tk0,List.length_cons,List.length_nil,Af,Ay,At,Al,Ak,cnd_true,cnd_false,Option.bind_some,holds_s N hN hp hd,Am,Xn,show ((i:Int)-1).toNat=i-1 from by omega]
      refine Ep ?_ _ _
      simp only [Ka,decide_eq_false h0,Bool.false_or]
      cases Tb p dn r.p (r.bars.getD i 0) <;> (rw [Bool.eq_iff_iff]; simp)
     ·intro n _
      rw [Gr]
      simp (disch:=omega) only [Int.toNat_natCast,tk0,List.length_cons,List.length_nil,Af,Ay,At,Al,Ak,cnd_true,cnd_false,Option.bind_some]
     rw [Fk,Vt,decide_eq_true h2]; rfl
    simp (disch:=omega) only [Int.toNat_natCast,tk0,List.length_cons,List.length_nil,Af,Ay,At,Al,Ak,cnd_true,cnd_false,Option.bind_some]
    rw [decide_eq_false h2]; rfl
theorem l26Ends_s (hN:4000000≤N) {p:Pin} (hp:Az p=true) {dn:List Int} (hd:dn.length≤3000000) {r:Rse} (hr:r.bars.length≤3000000):Rv N p dn r=some ((List.range r.bars.length).all (Ka p dn r)):=by
 have hbd:=Bz hp
 unfold Rv
 refine (srch (len:=r.bars.length) (ok:=Ka p dn r) (bad:=some false) (fin:=some true) (by omega) ?_ ?_).trans (by rw [Fk,Vt])
 ·intro n i hi _
  rw [Cm]
  have e:∀ X:Option Bool,cnd (Ka p dn r i) X (some false)=cnd (inB (r.bars.getD i 0) 0 ((p.g.bars.length:Int)-1)) (cnd (decide (i=0) || decide (r.bars.getD (i-1) 0<r.bars.getD i 0)) (cnd (Ey (p.g.bars.getD (r.bars.getD i 0).toNat (0,0)) r.p)
    (cnd (p.ground.contains (Bm (p.g.bars.getD (r.bars.getD i 0).toNat (0,0)) r.p) || dn.contains (Bm (p.g.bars.getD (r.bars.getD i 0).toNat (0,0)) r.p)) X (some false)) (some false)) (some false)) (some false):=by
   intro X
   unfold Ka Tb
   cases inB (r.bars.getD i 0) 0 ((p.g.bars.length:Int)-1) <;> cases (decide (i=0) || decide (r.bars.getD (i-1) 0<r.bars.getD i 0)) <;> cases Ey (p.g.bars.getD (r.bars.getD i 0).toNat (0,0)) r.p <;> simp [cnd]
  rw [e]
  by_cases h1:r.bars.getD i 0<0
  ·simp (disch:=omega) only [Int.toNat_natCast,tk0,List.length_cons,List.length_nil,Af,Ay,At,Al,Ak,cnd_true,cnd_false,Option.bind_some]
   rw [show inB (r.bars.getD i 0) 0 ((p.g.bars.length:Int)-1)=false by simp only [inB,decide_eq_false (show ¬ 0≤r.bars.getD i 0 by omega)]; rfl]; rfl
  by_cases h2:(p.g.bars.length:Int)≤r.bars.getD i 0
  ·simp (disch:=omega) only [Int.toNat_natCast,tk0,List.length_cons,List.length_nil,Af,Ay,At,Al,Ak,cnd_true,cnd_false,Option.bind_some]
   rw [show inB (r.bars.getD i 0) 0 ((p.g.bars.length:Int)-1)=false by simp only [inB,decide_eq_false (show ¬ r.bars.getD i 0≤(p.g.bars.length:Int)-1 by omega),Bool.and_false]]; rfl
  have hin:inB (r.bars.getD i 0) 0 ((p.g.bars.length:Int)-1)=true:=inB_true.2 (by omega)
  have hbar:=Xl hp (i:=(r.bars.getD i 0).toNat) (by omega)
  have rest : ∀ X : Option Bool, (cnd (((p.g.bars.getD (((r.bars.getD i 0)).toNat) (0, 0)).1) != r.p) (
     cnd (((p.g.bars.getD (((r.bars.getD i 0)).toNat) (0,0)).2) != r.p) (
      some false) (
      (Eg N (p.g.bars.getD (((r.bars.getD i 0)).toNat) (0,0)) r.p).bind fun v145=>
      (Cw N p.ground v145).bind fun v146=>
      cnd (!v146) (
       (Cw N dn v145).bind fun v147=>
       cnd (!v147) (
        some false) X) X)) (
     (Eg N (p.g.bars.getD (((r.bars.getD i 0)).toNat) (0,0)) r.p).bind fun v148=>
     (Cw N p.ground v148).bind fun v149=>
     cnd (!v149) (
      (Cw N dn v148).bind fun v150=>
      cnd (!v150) (
       some false) X) X))=(cnd (Ey (p.g.bars.getD (r.bars.getD i 0).toNat (0,0)) r.p)
  (cnd (p.ground.contains (Bm (p.g.bars.getD (r.bars.getD i 0).toNat (0,0)) r.p) || dn.contains (Bm (p.g.bars.getD (r.bars.getD i 0).toNat (0,0)) r.p)) X (some false)) (some false)):=by
   intro X
   have hh:(Cw N p.ground (Bm (p.g.bars.getD (r.bars.getD i 0).toNat (0,0)) r.p)).bind (fun v149=>cnd (!v149) ((Cw N dn (Bm (p.g.bars.getD (r.bars.getD i 0).toNat (0,0)) r.p)).bind fun v150=>cnd (!v150) (some false) X) X) =
     cnd (p.ground.contains (Bm (p.g.bars.getD (r.bars.getD i 0).toNat (0,0)) r.p) || dn.contains (Bm (p.g.bars.getD (r.bars.getD i 0).toNat (0,0)) r.p)) X (some false):=by
    rw [Ln N hN (by omega),Option.bind_some,Ln N hN hd,Option.bind_some]
    cases p.ground.contains (Bm (p.g.bars.getD (r.bars.getD i 0).toNat (0,0)) r.p) <;> cases dn.contains (Bm (p.g.bars.getD (r.bars.getD i 0).toNat (0,0)) r.p) <;> rfl
   by_cases ha:(p.g.bars.getD (r.bars.getD i 0).toNat (0,0)).1=r.p
   ·have he:Ey (p.g.bars.getD (r.bars.getD i 0).toNat (0,0)) r.p=true:=hasEnd_1 ha
    rw [Hn ha,Va N (by omega) (by omega) (by omega) (by omega) he,Option.bind_some,he,cnd_true,hh]
   by_cases hc:(p.g.bars.getD (r.bars.getD i 0).toNat (0,0)).2=r.p
   ·have he:Ey (p.g.bars.getD (r.bars.getD i 0).toNat (0,0)) r.p=true:=hasEnd_2 hc
    rw [Lq ha,Hn hc,Va N (by omega) (by omega) (by omega) (by omega) he,Option.bind_some,he,cnd_true,hh]
   have he:Ey (p.g.bars.getD (r.bars.getD i 0).toNat (0,0)) r.p=false:=hasEnd_0 ha hc
   rw [Lq ha,Lq hc,he]; rfl
  rw [hin]
  by_cases h0:i=0
  ·subst h0
   simp (disch:=omega) only [Int.toNat_natCast,tk0,List.length_cons,List.length_nil,Af,Ay,At,Al,Ak,cnd_true,cnd_false,Option.bind_some,Am]
   refine (rest _).trans ?_
   simp
  simp (disch:=omega) only [Int.toNat_natCast,tk0,List.length_cons,List.length_nil,Af,Ay,At,Al,Ak,cnd_true,cnd_false,Option.bind_some,Am,show ((i:Int)-1).toNat=i-1 from by omega]
  rw [decide_eq_false h0,Bool.false_or]
  by_cases h3:r.bars.getD (i-1) 0<r.bars.getD i 0
  ·rw [decide_eq_true h3,Ak (by omega),cnd_true]
   exact rest _
  rw [decide_eq_false h3,Al (by omega),cnd_false]
 intro n _
 rw [Cm]
 simp (disch:=omega) only [Int.toNat_natCast,tk0,List.length_cons,List.length_nil,Af,Ay,At,Al,Ak,cnd_true,cnd_false,Option.bind_some]
theorem Abh (hN:4000000≤N) {p:Pin} (hb:p.g.bars.length≤3000000) (hg:p.ground.length≤3000000) {dn:List Int} (hd:dn.length≤3000000) {r:Rse} (hr:r.bars.length≤3000000):Kh N p dn r=some (Ho p dn r):=by
 unfold Kh Ho
 rw [Bw N hN hb hg,Option.bind_some]
 cases hp:Az p with
 | false=>rfl
 | true=>
  have hbd:=Bz hp
  have hlen:(Aw p).length≤3000000:=by
   unfold Aw; rw [hp,cnd_true,Jb]
   have:=Mn p.ground p.g.n.toNat; omega
  rw [cnd_true,Sd N hN hb hg,Option.bind_some,Ln N hN hlen,Option.bind_some,Ln N hN hd,Option.bind_some,Rq hp,l26Ends_s N hN hp hd hr,Option.bind_some,Lb]
  rw [show decide ((r.bars.length:Int)≥2)=decide (2≤r.bars.length) from by rw [Bool.eq_iff_iff]; simp; omega]
  cases Wo p r.p <;> cases dn.contains r.p <;> cases decide (2≤r.bars.length) <;> rfl
end
section
variable {n:Nat} {N:Nat}
def Srt (L:List (Int×Int)):Prop:=L.Pairwise fun a b=>Dx a b=true
theorem le_total {a b:Int×Int} (h:Dx a b=false):Dx b a=true:=by
 simp only [Dx,Bool.or_eq_false_iff,Bool.and_eq_false_iff,decide_eq_false_iff_not,Bool.or_eq_true,Bool.and_eq_true,decide_eq_true_eq,beq_iff_eq,beq_eq_false_iff_ne] at h ⊢
 omega
theorem le_trans' {a b c:Int×Int} (h1:Dx a b=true) (h2:Dx b c=true):Dx a c=true:=by
 simp only [Dx,Bool.or_eq_true,Bool.and_eq_true,decide_eq_true_eq,beq_iff_eq] at h1 h2 ⊢
 omega
theorem srt_put {A B:List (Int×Int)} {x:Int×Int} (h:Srt (A++B)) (hA:∀ e∈A,Dx e x=true) (hB:∀ b l,B=b::l→Dx b x=false):Srt (A++x::B):=by
 obtain ⟨h1,h2,h3⟩:=List.pairwise_append.1 h
 have hx:∀ b∈B,Dx x b=true:=by
  cases B with
  | nil=>intro b hb; simp at hb
  | cons b0 l=>
   have h0:=le_total (hB b0 l rfl)
   intro b hb
   rcases List.mem_cons.1 hb with rfl | hb
   ·exact h0
   exact le_trans' h0 ((List.pairwise_cons.1 h2).1 b hb)
 refine List.pairwise_append.2 ⟨h1,List.pairwise_cons.2 ⟨hx,h2⟩,fun a ha b hb=>?_⟩
 rcases List.mem_cons.1 hb with rfl | hb
 ·exact hA a ha
 exact h3 a ha b hb
theorem putX_s (hN:4000000≤N) {g:Grf} (hl:g.bars.length≤1000) (x:Int×Int) (hs:Srt g.bars):∃ L,Cq N g x=some ⟨g.n,L⟩∧Srt L:=by
 have keyT:∀ {kk:(List (Int×Int)×Bool)→Option Grf} (fuel i:Nat) (l:List (Int×Int)),i≤g.bars.length→g.bars.length<fuel+i→l.length≤i+1 →
   Ci N g x kk fuel (l,true,(i:Int))=kk (l++g.bars.drop i,true):=by
  intro kk fuel
  induction fuel with
  | zero=>intro i l h1 h2; omega
  | succ fuel ih=>
   intro i l h1 h2 h3
   rw [Ci]
   by_cases hi:i<g.bars.length
   ·have e:g.bars.drop i=g.bars.getD i (0,0)::g.bars.drop (i+1):=by
     rw [List.drop_eq_getElem_cons hi]
     simp [List.getD_eq_getElem?_getD,List.getElem?_eq_getElem hi]
    have:=ih (i+1) (l++[g.bars.getD i (0,0)]) (by omega) (by omega) (by simp; omega)
    rw [e]
    simp (disch:=omega) only [Int.toNat_natCast,tk0,List.length_cons,List.length_nil,Af,Ay,At,Al,Ak,cnd_true,cnd_false,Option.bind_some,Bool.not_true,Am]
    refine this.trans ?_
    simp
   have e:i=g.bars.length:=by omega
   subst e
   simp (disch:=omega) only [Int.toNat_natCast,tk0,List.length_cons,List.length_nil,Af,Ay,At,Al,Ak,cnd_true,cnd_false,Option.bind_some]
   simp
 have keyF:∀ {kk:(List (Int×Int)×Bool)→Option Grf} (fuel i:Nat),i≤g.bars.length→g.bars.length<fuel+i→(∀ e∈g.bars.take i,Dx e x=true) →
   (∃ A B,g.bars=A++B∧(∀ e∈A,Dx e x=true)∧(∀ b l,B=b::l→Dx b x=false)∧Ci N g x kk fuel (g.bars.take i,false,(i:Int))=kk (A++x::B,true)) ∨
   ((∀ e∈g.bars,Dx e x=true)∧Ci N g x kk fuel (g.bars.take i,false,(i:Int))=kk (g.bars,false)):=by
  intro kk fuel
  induction fuel with
  | zero=>intro i h1 h2; omega
  | succ fuel ih=>
   intro i h1 h2 h3
   by_cases hi:i<g.bars.length
   ·have hd:g.bars.getD i (0,0)=g.bars[i]:=by simp [List.getD_eq_getElem?_getD,List.getElem?_eq_getElem hi]
    have htl:(g.bars.take i).length=i:=by simp; omega
    have etk:g.bars.take i++[g.bars.getD i (0,0)]=g.bars.take (i+1):=by
     rw [List.take_add_one,List.getElem?_eq_getElem hi,hd]; rfl
    cases hb:Dx (g.bars.getD i (0,0)) x with
    | false=>
     left
     refine ⟨g.bars.take i,g.bars.drop i,(List.take_append_drop i g.bars).symm,h3,fun b l e=>?_,?_⟩
     ·rw [List.drop_eq_getElem_cons hi] at e
      cases e
      rw [←hd]; exact hb
     rw [Ci]
     have:=keyT (kk:=kk) fuel (i+1) (g.bars.take i++[x]++[g.bars.getD i (0,0)]) (by omega) (by omega) (by simp; omega)
     simp (disch:=omega) only [Int.toNat_natCast,tk0,List.length_cons,List.length_nil,Af,Ay,At,Al,Ak,cnd_true,cnd_false,Option.bind_some,Bool.not_false,Qi,hb,List.length_append,Am,htl]
     refine this.trans ?_
     congr 2
     have:g.bars.drop i=g.bars.getD i (0,0)::g.bars.drop (i+1):=by rw [List.drop_eq_getElem_cons hi,hd]
     rw [this]; simp
    | true=>
     have step:Ci N g x kk (fuel+1) (g.bars.take i,false,(i:Int))=Ci N g x kk fuel (g.bars.take (i+1),false,((i+1:Nat):Int)):=by
      rw [Ci]
      simp (disch:=omega) only [Int.toNat_natCast,tk0,List.length_cons,List.length_nil,Af,Ay,At,Al,Ak,cnd_true,cnd_false,Option.bind_some,Bool.not_false,Bool.not_true,Qi,hb,Am,htl]
      rw [show ((g.bars.getD i (0,0)).1,(g.bars.getD i (0,0)).2)=g.bars.getD i (0,0) from rfl,etk]
     rw [step]
     refine ih (i+1) (by omega) (by omega) fun e he=>?_
     rw [←etk] at he
     rcases List.mem_append.1 he with he | he
     ·exact h3 e he
     rw [List.mem_singleton] at he; subst he; exact hb
   have e:i=g.bars.length:=by omega
   subst e
   right
   rw [List.take_length] at h3 ⊢
   refine ⟨h3,?_⟩
   rw [Ci]
   simp (disch:=omega) only [Int.toNat_natCast,tk0,List.length_cons,List.length_nil,Af,Ay,At,Al,Ak,cnd_true,cnd_false,Option.bind_some]
 have e0:Cq N g x=Ci N g x (fun (x_:(List (Int×Int))×Bool)=>
   match x_ with
   | (l10,placed11)=>
    cnd (!placed11) (
     grd (l10.length+1≤4294967296) <|
     some (⟨g.n,(l10++([(x.1,x.2)]:List (Int×Int)))⟩:Grf)) (
     some (⟨g.n,l10⟩:Grf))) N (g.bars.take 0,false,((0:Nat):Int)):=rfl
 rcases keyF (kk:=fun (x_:(List (Int×Int))×Bool)=>
   match x_ with
   | (l10,placed11)=>
    cnd (!placed11) (
     grd (l10.length+1≤4294967296) <|
     some (⟨g.n,(l10++([(x.1,x.2)]:List (Int×Int)))⟩:Grf)) (
     some (⟨g.n,l10⟩:Grf))) N 0 (by omega) (by omega) (fun e he=>by simp at he) with ⟨A,B,h1,h2,h3,h4⟩ | ⟨h1,h2⟩
 ·refine ⟨A++x::B,e0.trans (h4.trans rfl),srt_put (by rw [←h1]; exact hs) h2 h3⟩
 refine ⟨g.bars++[x],e0.trans (h2.trans ?_),?_⟩
 ·simp (disch:=omega) only [Int.toNat_natCast,tk0,List.length_cons,List.length_nil,Af,Ay,At,Al,Ak,cnd_true,cnd_false,Option.bind_some,Bool.not_false]
 have:=srt_put (A:=g.bars) (B:=[]) (x:=x) (by simpa using hs) h1 (fun b l h=>by cases h)
 exact this
end
end Go.Proofs.Ytcljhpldfanhkaa
