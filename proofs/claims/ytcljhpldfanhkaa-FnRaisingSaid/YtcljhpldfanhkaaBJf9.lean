/- Texts that the proof needs, put together: G132 Va. -/
import Derived.Test.YtcljhpldfanhkaaBJf2
import Derived.Test.YtcljhpldfanhkaaBJf3
import Derived.Test.YtcljhpldfanhkaaBJf5
import Derived.Test.YtcljhpldfanhkaaBJf6
import Derived.Test.YtcljhpldfanhkaaBJf7
import Derived.Test.YtcljhpldfanhkaaBJf8
set_option maxRecDepth 20000
set_option maxHeartbeats 1600000
set_option linter.unusedVariables false
set_option linter.unusedSimpArgs false
namespace Go.Proofs.Ytcljhpldfanhkaa
section
open Go.RowKit
def Pw (N:Nat) (code_0:List Int):Option (Pin×(List (Int×List Int))):=
 (Th N code_0).bind fun v1=>
 (Se N v1).bind fun v2=>
 (Eh N v2.1).bind fun v3=>
 cnd (decide ((v3.1.length:Int) > (0:Int))) (
  (Bt N (⟨v1.b,v2.2.1,v2.2.2⟩:Cur) (5:Int)).bind fun v4=>
  cnd (v4.1==(0:Int)) (
   grd (0≤(1:Int)∧(1:Int)≤(v3.1.length:Int)) <|
   some ((⟨⟨v2.1.g.n,v2.1.g.bars⟩,v2.1.ground⟩:Pin),((v3.1.take v3.1.length).drop ((1:Int).toNat)))) (
   cnd (v4.1==(1:Int)) (
    grd (0≤(0:Int)∧(0:Int)<(v3.1.length:Int)) <|
    grd (0≤(1:Int)∧(1:Int)≤(((v3.1.getD ((0:Int).toNat) (0,[])).2).length:Int)) <|
    grd (v3.1.length=(v3.1.set ((0:Int).toNat) ((v3.1.getD ((0:Int).toNat) (0,[])).1,((((v3.1.getD ((0:Int).toNat) (0,[])).2).take ((v3.1.getD ((0:Int).toNat) (0,[])).2).length).drop ((1:Int).toNat)))).length) <|
    some ((⟨⟨v2.1.g.n,v2.1.g.bars⟩,v2.1.ground⟩:Pin),(v3.1.set ((0:Int).toNat) ((v3.1.getD ((0:Int).toNat) (0,[])).1,((((v3.1.getD ((0:Int).toNat) (0,[])).2).take ((v3.1.getD ((0:Int).toNat) (0,[])).2).length).drop ((1:Int).toNat)))))) (
    some ((⟨⟨v2.1.g.n,v2.1.g.bars⟩,v2.1.ground⟩:Pin),v3.1)))) (
  some ((⟨⟨v2.1.g.n,v2.1.g.bars⟩,v2.1.ground⟩:Pin),v3.1))
theorem Yy (N:Nat) (code_0:List Int) (r:Pin×(List (Int×List Int))) (h:Pw N code_0=some r):PCall Try.prog 122 [.ro false (.bytes code_0)] [(111,.pairs r.1.g.bars),(3,.ints r.1.ground)] (.tup [.agg [.int r.1.g.n,.row 0 0 r.1.g.bars.length,.row 1 0 r.1.ground.length],.ro true (.raises r.2)]):=by
 unfold Pw at h
 refine Ah (TT:=TT) tt Try.func122 rfl rfl Try.ntmps122 (congrArg Array.toList Try.results122) rfl rfl fun w0=>?_
 refine Ag ?_
 refine Aa ?_
 refine Bj tt rfl rfl rfl rfl rfl rfl rfl rfl rfl ?_
 refine oV5 tt rfl Tvv ?_
 refine Ae ?_
 show VC ..
 refine Ag ?_
 refine Aa ?_
 refine oV5 tt rfl Tvv ?_
 obtain ⟨v1,hc1,h⟩:=Ac h
 refine oCallB (Ze N code_0 v1 hc1) rfl rfl rfl rfl rfl ⟨rfl,rfl,Tvv⟩ ?_
 refine oV5 tt rfl Tvv ?_
 refine Ae ?_
 show VC ..
 refine Ag ?_
 refine Aa ?_
 refine oV5 tt rfl Tvv ?_
 refine vEnO (En.zero 9503 111 (.pairs []) rfl rfl) ?_
 refine vEnO (En.zero 9504 3 (.ints []) rfl rfl) ?_
 obtain ⟨v2,hc2,h⟩:=Ac h
 refine Gc (Aar N v1 v2 hc2) [9503,9504] [9] [1110,1111] rfl rfl rfl rfl rfl rfl ⟨rfl,rfl,Tvv⟩ ⟨rfl,Tvv⟩ ⟨⟨rfl,rfl⟩,Tvv⟩ ?_
 refine Bj tt rfl rfl rfl rfl rfl rfl rfl rfl rfl ?_
 refine Ao tt rfl rfl rfl rfl rfl rfl rfl rfl rfl rfl rfl ⟨Tvv,Tvv,Tvv,Tvv⟩ ?_
 refine Ae ?_
 show VC ..
 refine Ag ?_
 refine Aa ?_
 refine oV5 tt rfl Tvv ?_
 obtain ⟨v3,hc3,h⟩:=Ac h
 refine Ba (Pa N v2.1 v3 hc3) rfl rfl rfl rfl rfl rfl rfl rfl ⟨⟨rfl,(.inl ⟨rfl,rfl⟩),(.inl ⟨rfl,rfl⟩),Tvv⟩,Tvv⟩ ?_
 iterate 5 refine oV5 tt rfl Tvv ?_
 refine Ae ?_
 show VC ..
 iterate 2 refine Ag ?_
 refine Aa ?_
 iterate 3 refine oV5 tt rfl Tvv ?_
 refine Ae ?_
 show VC ..
 refine Au rfl (fun hb4=>?_) (fun hb4=>?_)
 ·replace h:=Ai hb4 h
  refine Ag ?_
  refine Aa ?_
  refine oV5 tt rfl Tvv ?_
  obtain ⟨v4,hc5,h⟩:=Ac h
  refine Gc (Bu N (⟨v1.b,v2.2.1,v2.2.2⟩:Cur) (5:Int) v4 hc5) [] [9] [] rfl rfl rfl rfl rfl rfl Tvv ⟨rfl,Tvv⟩ ⟨⟨rfl,rfl⟩,⟨rfl,rfl⟩,Tvv⟩ ?_
  refine Ae ?_
  show VC ..
  refine Aq ?_
  refine Ag ?_
  refine Aa ?_
  iterate 2 refine oV5 tt rfl Tvv ?_
  refine Ae ?_
  show VC ..
  refine Au rfl (fun hb6=>?_) (fun hb6=>?_)
  ·replace h:=Ai hb6 h
   refine Aa ?_
   refine oV5 tt rfl Tvv ?_
   refine oFreeze (t:=24) rfl rfl rfl rfl ?_
   obtain ⟨hg7,h⟩:=Ab h
   refine oV5 tt rfl hg7 ?_
   refine oV5 tt rfl Tvv ?_
   refine Ae ?_
   show VC ..
   refine Ag ?_
   refine Aa ?_
   iterate 2 refine oV5 tt rfl Tvv ?_
   refine Ao tt rfl rfl rfl rfl rfl rfl rfl rfl rfl rfl rfl ⟨Tvv,Tvv,Tvv,Tvv⟩ ?_
   refine oV5 tt rfl Tvv ?_
   refine Ae ?_
   show VC ..
   refine Bb ?_
   show ∃ _,_
   cases h
   exact ⟨[1110,1111],_,rfl,⟨rfl,rfl,Tvv⟩,rfl,(.eq rfl),rfl⟩
  replace h:=Aj hb6 h
  refine Ag ?_
  refine Aa ?_
  iterate 2 refine oV5 tt rfl Tvv ?_
  refine Ae ?_
  show VC ..
  refine Au rfl (fun hb8=>?_) (fun hb8=>?_)
  ·replace h:=Ai hb8 h
   refine Aa ?_
   iterate 2 refine oV5 tt rfl Tvv ?_
   obtain ⟨hg9,h⟩:=Ab h
   iterate 3 refine oV5 tt rfl hg9 ?_
   obtain ⟨hg10,h⟩:=Ab h
   refine oV5 tt rfl hg10 ?_
   iterate 2 refine oV5 tt rfl hg9 ?_
   refine Ao tt rfl rfl rfl rfl rfl rfl rfl rfl rfl rfl ⟨_,_,rfl,hg9.1,hg9.2⟩ ⟨hg9,Tvv⟩ ?_
   refine Ae ?_
   show VC ..
   refine Ag ?_
   refine Aa ?_
   iterate 2 refine oV5 tt rfl Tvv ?_
   refine Ao tt rfl rfl rfl rfl rfl rfl rfl rfl rfl rfl rfl ⟨Tvv,Tvv,Tvv,Tvv⟩ ?_
   refine oV5 tt rfl Tvv ?_
   refine Ae ?_
   show VC ..
   obtain ⟨hg11,h⟩:=Ab h
   refine vEn (En.freeze 3 rfl rfl rfl hg11) ?_
   refine Bb ?_
   show ∃ _,_
   cases h
   exact ⟨[1110,1111],_,rfl,⟨rfl,rfl,Tvv⟩,rfl,(.eq rfl),rfl⟩
  replace h:=Aj hb8 h
  refine Ar ?_
  show VC ..
  refine Ag ?_
  refine Aa ?_
  iterate 2 refine oV5 tt rfl Tvv ?_
  refine Ao tt rfl rfl rfl rfl rfl rfl rfl rfl rfl rfl rfl ⟨Tvv,Tvv,Tvv,Tvv⟩ ?_
  refine oV5 tt rfl Tvv ?_
  refine Ae ?_
  show VC ..
  refine vEn (En.freeze 3 rfl rfl rfl rfl) ?_
  refine Bb ?_
  show ∃ _,_
  cases h
  exact ⟨[1110,1111],_,rfl,⟨rfl,rfl,Tvv⟩,rfl,(.eq rfl),rfl⟩
 replace h:=Aj hb4 h
 refine Ar ?_
 show VC ..
 refine Ag ?_
 refine Aa ?_
 iterate 2 refine oV5 tt rfl Tvv ?_
 refine Ao tt rfl rfl rfl rfl rfl rfl rfl rfl rfl rfl rfl ⟨Tvv,Tvv,Tvv,Tvv⟩ ?_
 refine oV5 tt rfl Tvv ?_
 refine Ae ?_
 show VC ..
 refine vEn (En.freeze 3 rfl rfl rfl rfl) ?_
 refine Bb ?_
 show ∃ _,_
 cases h
 exact ⟨[1110,1111],_,rfl,⟨rfl,rfl,Tvv⟩,rfl,(.eq rfl),rfl⟩
def Gi (N:Nat) (code_0:List Int):Option (Pin×(List (Int×List Int))):=
 (Pw N code_0).bind fun v1=>
 some ((⟨⟨v1.1.g.n,v1.1.g.bars⟩,v1.1.ground⟩:Pin),v1.2)
theorem Qd (N:Nat) (code_0:List Int) (r:Pin×(List (Int×List Int))) (h:Gi N code_0=some r):PCall Try.prog 23 [.ro false (.bytes code_0)] [(111,.pairs r.1.g.bars),(3,.ints r.1.ground)] (.tup [.agg [.int r.1.g.n,.row 0 0 r.1.g.bars.length,.row 1 0 r.1.ground.length],.ro true (.raises r.2)]):=by
 unfold Gi at h
 refine Ah (TT:=TT) tt Try.func23 rfl rfl Try.ntmps23 (congrArg Array.toList Try.results23) rfl rfl fun w0=>?_
 refine Ag ?_
 refine Aa ?_
 refine Bj tt rfl rfl rfl rfl rfl rfl rfl rfl rfl ?_
 refine oV5 tt rfl Tvv ?_
 refine Ae ?_
 show VC ..
 refine Ag ?_
 refine Aa ?_
 refine oV5 tt rfl Tvv ?_
 obtain ⟨v1,hc1,h⟩:=Ac h
 refine Ba (Yy N code_0 v1 hc1) rfl rfl rfl rfl rfl rfl rfl rfl ⟨rfl,Tvv⟩ ?_
 iterate 3 refine oV5 tt rfl Tvv ?_
 refine Bj tt rfl rfl rfl rfl rfl rfl rfl rfl rfl ?_
 refine Ao tt rfl rfl rfl rfl rfl rfl rfl rfl rfl rfl rfl ⟨Tvv,Tvv,Tvv,Tvv⟩ ?_
 refine oV5 tt rfl Tvv ?_
 refine Ae ?_
 show VC ..
 refine Ag ?_
 refine Aa ?_
 iterate 2 refine oV5 tt rfl Tvv ?_
 refine Ao tt rfl rfl rfl rfl rfl rfl rfl rfl rfl rfl rfl ⟨Tvv,Tvv,Tvv,Tvv⟩ ?_
 refine oV5 tt rfl Tvv ?_
 refine Ae ?_
 show VC ..
 refine Bb ?_
 show ∃ _,_
 cases h
 exact ⟨[1080,1081],_,rfl,⟨rfl,rfl,Tvv⟩,rfl,(.eq rfl),rfl⟩
def Ec (N:Nat) (v2:Pin×(List (Int×List Int))) (v3:Int×Int×Int) (k:(List Int)→Option (Pin×(List Int)×Rse)):Nat→((List Int)×Int)→Option (Pin×(List Int)×Rse)
 | 0,_=>none
 | n+1,(l9,i10)=>
  cnd (decide (i10<v3.1)) (
   grd (0≤i10∧i10<(v2.2.length:Int)) <|
   grd (l9.length+1≤4294967296) <|
   grd (Bf (i10+(1:Int))) <|
   Ec N v2 v3 k n ((l9++([(v2.2.getD ((i10).toNat) (0,[])).1]:List Int)),(i10+(1:Int)))) (
   k l9)
def Fu (N:Nat) (code_0:List Int):Option (Pin×(List Int)×Rse):=
 (Th N code_0).bind fun v1=>
 (Pw N code_0).bind fun v2=>
 grd (Bf ((v2.2.length:Int)+(1:Int))) <|
 (Bt N v1 ((v2.2.length:Int)+(1:Int))).bind fun v3=>
 Ec N v2 v3 (fun (l6 : List Int) =>
    cnd (decide (v3.1<(v2.2.length:Int))) (
     grd (0≤v3.1∧v3.1<(v2.2.length:Int)) <|
     some ((⟨⟨v2.1.g.n,v2.1.g.bars⟩,v2.1.ground⟩:Pin),l6,(⟨(v2.2.getD ((v3.1).toNat) (0,[])).1,(v2.2.getD ((v3.1).toNat) (0,[])).2⟩:Rse))) (
     (Bt N (⟨v1.b,v3.2.1,v3.2.2⟩:Cur) (7:Int)).bind fun v7=>
     some ((⟨⟨v2.1.g.n,v2.1.g.bars⟩,v2.1.ground⟩:Pin),l6,(⟨v7.1,([(0:Int),(1:Int)]:List Int)⟩:Rse)))) N (([]:List Int),(0:Int))
theorem Kk (N:Nat) (code_0:List Int) (r:Pin×(List Int)×Rse) (h:Fu N code_0=some r):PCall Try.prog 25 [.ro false (.bytes code_0)] [(111,.pairs r.1.g.bars),(3,.ints r.1.ground),(3,.ints r.2.1)] (.tup [.agg [.int r.1.g.n,.row 0 0 r.1.g.bars.length,.row 1 0 r.1.ground.length],.row 2 0 r.2.1.length,.agg [.int r.2.2.p,.ro true (.ints r.2.2.bars)]]):=by
 unfold Fu at h
 refine Ah (TT:=TT) tt Try.func25 rfl rfl Try.ntmps25 (congrArg Array.toList Try.results25) rfl rfl fun w0=>?_
 refine Ag ?_
 refine Aa ?_
 refine Bj tt rfl rfl rfl rfl rfl rfl rfl rfl rfl ?_
 refine oV5 tt rfl Tvv ?_
 refine Bj tt rfl rfl rfl rfl rfl rfl rfl rfl rfl ?_
 refine Ae ?_
 show VC ..
 refine Ag ?_
 refine Aa ?_
 refine oV5 tt rfl Tvv ?_
 obtain ⟨v1,hc1,h⟩:=Ac h
 refine oCallB (Ze N code_0 v1 hc1) rfl rfl rfl rfl rfl ⟨rfl,rfl,Tvv⟩ ?_
 refine oV5 tt rfl Tvv ?_
 refine Ae ?_
 show VC ..
 refine Ag ?_
 refine Aa ?_
 refine oV5 tt rfl Tvv ?_
 obtain ⟨v2,hc2,h⟩:=Ac h
 refine Ba (Yy N code_0 v2 hc2) rfl rfl rfl rfl rfl rfl rfl rfl ⟨rfl,Tvv⟩ ?_
 iterate 3 refine oV5 tt rfl Tvv ?_
 refine Bj tt rfl rfl rfl rfl rfl rfl rfl rfl rfl ?_
 refine Ao tt rfl rfl rfl rfl rfl rfl rfl rfl rfl rfl rfl ⟨Tvv,Tvv,Tvv,Tvv⟩ ?_
 refine oV5 tt rfl Tvv ?_
 refine Ae ?_
 show VC ..
 refine Ag ?_
 refine Aa ?_
 refine Fa tt (Ad rfl) rfl rfl rfl rfl ?_
 refine oV5 tt rfl Tvv ?_
 refine Ae ?_
 show VC ..
 refine Ag ?_
 refine Aa ?_
 iterate 3 refine oV5 tt rfl Tvv ?_
 obtain ⟨hg3,h⟩:=Ab h
 refine oV5 tt rfl hg3 ?_
 obtain ⟨v3,hc4,h⟩:=Ac h
 refine Gc (Bu N v1 ((v2.2.length:Int)+(1:Int)) v3 hc4) [] [12] [] rfl rfl rfl rfl rfl rfl Tvv ⟨rfl,Tvv⟩ ⟨⟨rfl,rfl⟩,⟨rfl,rfl⟩,Tvv⟩ ?_
 refine oV5 tt rfl Tvv ?_
 refine Ae ?_
 show VC ..
 iterate 2 refine Ag ?_
 refine Aa ?_
 refine oV5 tt rfl Tvv ?_
 refine Ae ?_
 show VC ..
 refine Ck (F:=fun k=>Ec N v2 v3 k) h (α:=List Int) (J:=fun (l6:List Int)=>(⟨[(2,.ptr 2 0),(4,.ptr 4 0),(5,.ptr 12 0),(6,.ptr 6 0),(7,.ro true (.raises v2.2)),(8,.row 36 0 l6.length),(9,.int v3.1)],[(36,some (3,.ints l6)),(1150,some (111,.pairs v2.1.g.bars)),(1151,some (3,.ints v2.1.ground))],[(2,some [.int (0:Int),.nil,.nil]),(4,some [.int (0:Int),.nil]),(12,some [.ro false (.bytes v1.b),.int v3.2.1,.int v3.2.2]),(6,some [.int v2.1.g.n,.row 1150 0 v2.1.g.bars.length,.row 1151 0 v2.1.ground.length])]⟩:PS)) ?_ ?_
 ·rintro l6 h
  show VC _ _ _ (⟨[(2,.ptr 2 0),(4,.ptr 4 0),(5,.ptr 12 0),(6,.ptr 6 0),(7,.ro true (.raises v2.2)),(8,.row 36 0 l6.length),(9,.int v3.1)],[(36,some (3,.ints l6)),(1150,some (111,.pairs v2.1.g.bars)),(1151,some (3,.ints v2.1.ground))],[(2,some [.int (0:Int),.nil,.nil]),(4,some [.int (0:Int),.nil]),(12,some [.ro false (.bytes v1.b),.int v3.2.1,.int v3.2.2]),(6,some [.int v2.1.g.n,.row 1150 0 v2.1.g.bars.length,.row 1151 0 v2.1.ground.length])]⟩:PS)
  iterate 2 refine Ag ?_
  refine Aa ?_
  iterate 4 refine oV5 tt rfl Tvv ?_
  refine Ae ?_
  show VC ..
  refine Au rfl (fun hb5=>?_) (fun hb5=>?_)
  ·replace h:=Ai hb5 h
   refine Ag ?_
   refine Bl 8 [1060000002] [0,0,0,0,12,28,1,67,255] (by kernel_rfl) (by kernel_rfl) (by kernel_rfl) (by kernel_rfl) (by kernel_rfl) rfl (by rfl) ?_
   iterate 4 refine Bo tt rfl (Ad rfl) rfl rfl rfl rfl rfl Tvv ?_
   obtain ⟨hg6,h⟩:=Ab h
   refine Bo tt rfl (Ad rfl) rfl rfl rfl rfl rfl hg6 ?_
   refine Bo tt rfl (Ad rfl) rfl rfl rfl rfl rfl Tvv ?_
   refine nStoreB tt (Ad rfl) rfl rfl rfl rfl rfl rfl rfl rfl rfl rfl rfl rfl ?_
   refine Bo tt rfl (Ad rfl) rfl rfl rfl rfl rfl Tvv ?_
   refine Lt ?_
   show VO _ _ _ _ _
   refine Ao tt rfl rfl rfl rfl rfl rfl rfl rfl rfl rfl rfl ⟨Tvv,Tvv,Tvv⟩ ?_
   refine Ae ?_
   show VC ..
   refine Bb ?_
   show ∃ _,_
   cases h
   exact ⟨[1150,1151,36],_,rfl,⟨rfl,rfl,rfl,Tvv⟩,rfl,(.eq rfl),rfl⟩
  replace h:=Aj hb5 h
  refine Ar ?_
  show VC ..
  refine Ag ?_
  refine Bl 8 [3,4,1030000012,1060000002] [0,0,0,4,0,28,13,79,255] (by kernel_rfl) (by kernel_rfl) (by kernel_rfl) (by kernel_rfl) (by kernel_rfl) rfl (by rfl) ?_
  iterate 3 refine Bo tt rfl (Ad rfl) rfl rfl rfl rfl rfl Tvv ?_
  obtain ⟨v7,hc7,h⟩:=Ac h
  refine nMCall (rids:=[]) (bids:=[]) (pids:=[]) (Ad rfl) (Bu N (⟨v1.b,v3.2.1,v3.2.2⟩:Cur) (7:Int) v7 hc7) [] [12] [] rfl rfl rfl rfl rfl (by first | rfl | kernel_rfl) rfl rfl rfl rfl rfl (by first | rfl | kernel_rfl)  trivial ⟨rfl,Tvv⟩ ⟨⟨rfl,rfl⟩,⟨rfl,rfl⟩,Tvv⟩ ?_
  refine Zu tt (Ad rfl) rfl rfl rfl rfl rfl rfl rfl rfl rfl rfl rfl rfl ?_
  refine Sz (Ad rfl) (Dp Ps rfl rfl) rfl rfl rfl rfl ?_
  refine nStoreB tt (Ad rfl) rfl rfl rfl rfl rfl rfl rfl rfl rfl rfl rfl rfl ?_
  refine Bo tt rfl (Ad rfl) rfl rfl rfl rfl rfl Tvv ?_
  refine Lt ?_
  show VO _ _ _ _ _
  refine Ao tt rfl rfl rfl rfl rfl rfl rfl rfl rfl rfl rfl ⟨Tvv,Tvv,Tvv⟩ ?_
  refine Ae ?_
  show VC ..
  refine vEn (En.freezeB 4 1 rfl rfl rfl rfl rfl) ?_
  refine Bb ?_
  show ∃ _,_
  cases h
  exact ⟨[1150,1151,36],_,rfl,⟨rfl,rfl,rfl,Tvv⟩,rfl,(.eq rfl),rfl⟩
 intro k h
 refine Aq ?_
 refine Md 8 36 3 (.ints []) rfl rfl rfl rfl ?_
 refine Bh (α:=(List Int)×Int) (fun | (l9,i10)=>(⟨[(2,.ptr 2 0),(4,.ptr 4 0),(5,.ptr 12 0),(6,.ptr 6 0),(7,.ro true (.raises v2.2)),(8,.row 36 0 l9.length),(9,.int v3.1),(10,.int i10)],[(36,some (3,.ints l9)),(1150,some (111,.pairs v2.1.g.bars)),(1151,some (3,.ints v2.1.ground))],[(2,some [.int (0:Int),.nil,.nil]),(4,some [.int (0:Int),.nil]),(12,some [.ro false (.bytes v1.b),.int v3.2.1,.int v3.2.2]),(6,some [.int v2.1.g.n,.row 1150 0 v2.1.g.bars.length,.row 1151 0 v2.1.ground.length])]⟩:PS)) (Ec N v2 v3 k) h (En.of ⟨rfl,rfl,rfl,rfl,rfl,rfl,rfl,rfl,Tvv⟩ ⟨rfl,rfl,rfl,Tvv⟩ ⟨rfl,rfl,rfl,rfl,Tvv⟩) (fun _=>rfl) ?_
 rintro n ⟨l9,i10⟩ h
 rw [Ec] at h
 show VC _ _ _ (⟨[(2,.ptr 2 0),(4,.ptr 4 0),(5,.ptr 12 0),(6,.ptr 6 0),(7,.ro true (.raises v2.2)),(8,.row 36 0 l9.length),(9,.int v3.1),(10,.int i10)],[(36,some (3,.ints l9)),(1150,some (111,.pairs v2.1.g.bars)),(1151,some (3,.ints v2.1.ground))],[(2,some [.int (0:Int),.nil,.nil]),(4,some [.int (0:Int),.nil]),(12,some [.ro false (.bytes v1.b),.int v3.2.1,.int v3.2.2]),(6,some [.int v2.1.g.n,.row 1150 0 v2.1.g.bars.length,.row 1151 0 v2.1.ground.length])]⟩:PS)
 iterate 2 refine Ag ?_
 refine Aa ?_
 iterate 3 refine oV5 tt rfl Tvv ?_
 refine Ae ?_
 show VC ..
 refine Au rfl (fun hb8=>?_) (fun hb8=>?_)
 ·replace h:=Ai hb8 h
  refine Ar ?_
  show VC ..
  refine Ag ?_
  refine Aq ?_
  refine Aa ?_
  iterate 3 refine oV5 tt rfl Tvv ?_
  obtain ⟨hg9,h⟩:=Ab h
  refine oV5 tt rfl hg9 ?_
  iterate 2 refine oV5 tt rfl Tvv ?_
  refine Cv tt rfl rfl rfl rfl rfl rfl rfl rfl rfl rfl rfl ?_
  obtain ⟨hg10,h⟩:=Ab h
  refine Bp tt rfl rfl rfl rfl rfl rfl rfl rfl rfl rfl rfl rfl rfl rfl rfl rfl (Nat.le_of_eq (Nat.zero_add _)) hg10 ?_
  refine oV5 tt rfl Tvv ?_
  refine Ae ?_
  show VC ..
  refine Aa ?_
  refine oV5 tt rfl Tvv ?_
  obtain ⟨hg11,h⟩:=Ab h
  refine oV5 tt rfl hg11 ?_
  refine oV5 tt rfl Tvv ?_
  refine Ae ?_
  show ∃ _,_
  exact ⟨((l9++([(v2.2.getD ((i10).toNat) (0,[])).1]:List Int)),(i10+(1:Int))),(En.of ⟨rfl,rfl,rfl,rfl,rfl,rfl,rfl,rfl,Tvv⟩ ⟨rfl,rfl,rfl,Tvv⟩ ⟨rfl,rfl,rfl,rfl,Tvv⟩),h⟩
 replace h:=Aj hb8 h
 refine Bq ?_
 show ∃ _,_
 exact ⟨l9,(En.of ⟨rfl,rfl,rfl,rfl,rfl,rfl,rfl,Tvv⟩ ⟨rfl,rfl,rfl,Tvv⟩ ⟨rfl,rfl,rfl,rfl,Tvv⟩),h⟩
def Fx (N:Nat) (v4:(List (Int×List Int))×Bool) (l132:List Int) (i134:Int) (v149:List Int) (k:Unit→Option (Bool)):Nat→Int→Option (Bool)
 | 0,_=>none
 | n+1,k156=>
  cnd (decide (k156<((l132++([(v4.1.getD ((i134).toNat) (0,[])).1]:List Int)).length:Int))) (
   grd (0≤k156∧k156<((l132++([(v4.1.getD ((i134).toNat) (0,[])).1]:List Int)).length:Int)) <|
   (L_has N v149 ((l132++([(v4.1.getD ((i134).toNat) (0,[])).1]:List Int)).getD ((k156).toNat) 0)).bind fun v158=>
   cnd (!v158) (
    some false) (
    grd (Bf (k156+(1:Int))) <|
    Fx N v4 l132 i134 v149 k n (k156+(1:Int)))) (
   k ())
def Fz (N:Nat) (v2:Pin) (v4:(List (Int×List Int))×Bool) (k:Unit→Option (Bool)):Nat→((List Int)×(List Int)×Int)→Option (Bool)
 | 0,_=>none
 | n+1,(l132,l133,i134)=>
  cnd (decide (i134<(v4.1.length:Int))) (
   grd (0≤i134∧i134<(v4.1.length:Int)) <|
   (Gg N v2 l132 (⟨(v4.1.getD ((i134).toNat) (0,[])).1,(v4.1.getD ((i134).toNat) (0,[])).2⟩:Rse)).bind fun v147=>
   cnd (!v147) (
    some false) (
    grd (l132.length+1≤4294967296) <|
    grd (l133.length+((v4.1.getD ((i134).toNat) (0,[])).2).length≤4294967296) <|
    (Px N v2.g (l133++((v4.1.getD ((i134).toNat) (0,[])).2))).bind fun v148=>
    (Jp N (⟨⟨v148.n,v148.bars⟩,v2.ground⟩:Pin)).bind fun v149=>
    Fx N v4 l132 i134 v149 (fun (_ : Unit) =>
       grd (Bf (i134+(1:Int))) <|
       Fz N v2 v4 k n ((l132++([(v4.1.getD ((i134).toNat) (0,[])).1]:List Int)),(l133++((v4.1.getD ((i134).toNat) (0,[])).2)),(i134+(1:Int)))) N (0:Int))) (
   k ())
def Hj (N:Nat) (v4:(List (Int×List Int))×Bool) (k:Unit→Option (Bool)):Nat→Unit→Option (Bool)
 | 0,_=>none
 | n+1,()=>
  cnd (decide ((0:Int)<(v4.1.length:Int))) (
   k ()) (
   k ())
def Qy (N:Nat) (code_0:List Int):Option (Bool):=
 (L_big N code_0).bind fun v1=>
 cnd v1 (
  some true) (
  (Gh N code_0).bind fun v2=>
  (Ft N v2).bind fun v3=>
  (Eh N v2).bind fun v4=>
  cnd (v3.2 != v4.2) (
   some false) (
   (Hq N v3.1).bind fun v5=>
   (Hy N v4.1).bind fun v6=>
   cnd (!(v5.toList==v6.toList)) (
    some false) (
    (Lh N v2).bind fun v7=>
    (Lm N v2).bind fun v8=>
    cnd (v7 != v8) (
     some false) (
     cnd v3.2 (
      (Db N v2 v4.1).bind fun v9=>
      cnd (!v9) (
       some false) (
       (Da N v2).bind fun v10=>
       cnd (!v10) (
        some false) (
        Fz N v2 v4 (fun (_ : Unit) =>
           (Gi N code_0).bind fun v75=>
           (Db N v75.1 v75.2).bind fun v76=>
           cnd v76 (
            (Ev N v75.1).bind fun v77=>
            cnd (!v77) (
             some false) (
             (Fu N code_0).bind fun v78=>
             (Db N v75.1 v75.2).bind fun v79=>
             (Gw N v75.1 v75.2).bind fun v80=>
             cnd (v79==v80) (
              (Em N v75.1 v75.2).bind fun v81=>
              (Ek N v75.1 v75.2).bind fun v82=>
              (Jv N v81 v82).bind fun v83=>
              cnd v83 (
               (Gg N v78.1 v78.2.1 v78.2.2).bind fun v84=>
               (Kh N v78.1 v78.2.1 v78.2.2).bind fun v85=>
               some (v84==v85)) (
               some false)) (
              some false))) (
            (Fu N code_0).bind fun v86=>
            (Db N v75.1 v75.2).bind fun v87=>
            (Gw N v75.1 v75.2).bind fun v88=>
            cnd (v87==v88) (
             (Em N v75.1 v75.2).bind fun v89=>
             (Ek N v75.1 v75.2).bind fun v90=>
             (Jv N v89 v90).bind fun v91=>
             cnd v91 (
              (Gg N v86.1 v86.2.1 v86.2.2).bind fun v92=>
              (Kh N v86.1 v86.2.1 v86.2.2).bind fun v93=>
              some (v92==v93)) (
              some false)) (
             some false))) N (([]:List Int),([]:List Int),(0:Int))))) (
      Hj N v4 (fun (_ : Unit) =>
         (Gi N code_0).bind fun v159=>
         (Db N v159.1 v159.2).bind fun v160=>
         cnd v160 (
          (Ev N v159.1).bind fun v161=>
          cnd (!v161) (
           some false) (
           (Fu N code_0).bind fun v162=>
           (Db N v159.1 v159.2).bind fun v163=>
           (Gw N v159.1 v159.2).bind fun v164=>
           cnd (v163==v164) (
            (Em N v159.1 v159.2).bind fun v165=>
            (Ek N v159.1 v159.2).bind fun v166=>
            (Jv N v165 v166).bind fun v167=>
            cnd v167 (
             (Gg N v162.1 v162.2.1 v162.2.2).bind fun v168=>
             (Kh N v162.1 v162.2.1 v162.2.2).bind fun v169=>
             some (v168==v169)) (
             some false)) (
            some false))) (
          (Fu N code_0).bind fun v170=>
          (Db N v159.1 v159.2).bind fun v171=>
          (Gw N v159.1 v159.2).bind fun v172=>
          cnd (v171==v172) (
           (Em N v159.1 v159.2).bind fun v173=>
           (Ek N v159.1 v159.2).bind fun v174=>
           (Jv N v173 v174).bind fun v175=>
           cnd v175 (
            (Gg N v170.1 v170.2.1 v170.2.2).bind fun v176=>
            (Kh N v170.1 v170.2.1 v170.2.2).bind fun v177=>
            some (v176==v177)) (
            some false)) (
           some false))) N ())))))
theorem L_FnRaising_w (N:Nat) (code_0:List Int) (r:Bool) (h:Qy N code_0=some r):PCall Try.prog 3 [.ro false (.bytes code_0)] [] (.bool r):=by
 unfold Qy at h
 refine Ah (TT:=TT) tt Try.func3 rfl rfl Try.ntmps3 (congrArg Array.toList Try.results3) rfl rfl fun w0=>?_
 refine Ag ?_
 refine Aa ?_
 refine oV5 tt rfl Tvv ?_
 refine Ae ?_
 show VC ..
 iterate 2 refine Ag ?_
 refine Aa ?_
 refine oV5 tt rfl Tvv ?_
 obtain ⟨v1,hc1,h⟩:=Ac h
 refine Ba (L_big_w N code_0 v1 hc1) rfl rfl rfl rfl rfl rfl rfl rfl ⟨rfl,Tvv⟩ ?_
 refine Ae ?_
 show VC ..
 refine Au rfl (fun hb2=>?_) (fun hb2=>?_)
 ·replace h:=Ai hb2 h
  refine Ag ?_
  refine Aa ?_
  refine oV5 tt rfl Tvv ?_
  refine Ae ?_
  show VC ..
  refine Bb ?_
  show ∃ _,_
  cases h
  exact ⟨[],_,rfl,Tvv,rfl,(.eq rfl),rfl⟩
 replace h:=Aj hb2 h
 refine Ar ?_
 show VC ..
 refine Ag ?_
 refine Aa ?_
 refine oV5 tt rfl Tvv ?_
 obtain ⟨v2,hc3,h⟩:=Ac h
 refine Ba (Tc N code_0 v2 hc3) rfl rfl rfl rfl rfl rfl rfl rfl ⟨rfl,Tvv⟩ ?_
 refine Bj tt rfl rfl rfl rfl rfl rfl rfl rfl rfl ?_
 refine Ao tt rfl rfl rfl rfl rfl rfl rfl rfl rfl rfl rfl ⟨Tvv,Tvv,Tvv,Tvv⟩ ?_
 refine Ae ?_
 show VC ..
 refine Ag ?_
 refine Aa ?_
 refine oV5 tt rfl Tvv ?_
 obtain ⟨v3,hc4,h⟩:=Ac h
 refine oCallD 10 (Ri N v2 v3 hc4) rfl rfl rfl rfl rfl rfl rfl rfl rfl rfl rfl (fun _ h=>by cases h) ⟨⟨rfl,(.inl ⟨rfl,rfl⟩),(.inl ⟨rfl,rfl⟩),Tvv⟩,Tvv⟩ ?_
 iterate 5 refine oV5 tt rfl Tvv ?_
 refine Ae ?_
 show VC ..
 refine Ag ?_
 refine Aa ?_
 refine oV5 tt rfl Tvv ?_
 obtain ⟨v4,hc5,h⟩:=Ac h
 refine Ba (Pa N v2 v4 hc5) rfl rfl rfl rfl rfl rfl rfl rfl ⟨⟨rfl,(.inl ⟨rfl,rfl⟩),(.inl ⟨rfl,rfl⟩),Tvv⟩,Tvv⟩ ?_
 iterate 5 refine oV5 tt rfl Tvv ?_
 refine Ae ?_
 show VC ..
 iterate 2 refine Ag ?_
 refine Cg (by kernel_rfl) (by kernel_rfl) ?_
 iterate 2 refine Bi tt rfl (Ad rfl) rfl rfl rfl Tvv ?_
 refine Xu (Ad rfl) (pNeB Try.underlying4 rfl rfl rfl) rfl rfl ?_
 refine Bi tt rfl (Ad rfl) rfl rfl rfl Tvv ?_
 refine Gd rfl rfl rfl (fun hb6=>?_) (fun hb6=>?_)
 ·replace h:=Ai hb6 h
  iterate 5 refine Pe rfl rfl rfl rfl hb6 rfl rfl ?_
  refine Cs rfl (Ad rfl) rfl rfl rfl hb6 rfl ?_
  refine Bi tt rfl (Ad rfl) rfl rfl rfl Tvv ?_
  iterate 5 refine Pe rfl rfl rfl rfl rfl rfl rfl ?_
  refine Cs rfl (Ad rfl) rfl rfl rfl rfl rfl ?_
  refine Bi tt rfl (Ad rfl) rfl rfl rfl Tvv ?_
  iterate 2 refine Pe rfl rfl rfl rfl rfl rfl rfl ?_
  iterate 9 refine cNoU rfl rfl rfl rfl rfl ?_
  refine Pe rfl rfl rfl rfl rfl rfl rfl ?_
  refine Cs rfl (Ad rfl) rfl rfl rfl rfl rfl ?_
  refine La ?_
  show VC ..
  refine Bs rfl rfl ?_
  refine Ag ?_
  refine Aa ?_
  refine oV5 tt rfl Tvv ?_
  refine Ae ?_
  show VC ..
  refine Bb ?_
  show ∃ _,_
  cases h
  exact ⟨[],_,rfl,Tvv,rfl,(.eq rfl),rfl⟩
 replace h:=Aj hb6 h
 refine Bi tt rfl (Ax rfl rfl rfl rfl hb6) rfl rfl rfl Tvv ?_
 obtain ⟨v5,hc7,h⟩:=Ac h
 refine Pr (Wv N v3.1 v5 hc7) rfl (Ax rfl rfl rfl rfl hb6) rfl rfl rfl rfl rfl rfl ⟨(.inr (.inr ⟨10,_,by decide,rfl,rfl,rfl,rfl⟩)),Tvv⟩ ?_
 refine Bi tt rfl (Ax rfl rfl rfl rfl hb6) rfl rfl rfl Tvv ?_
 obtain ⟨v6,hc8,h⟩:=Ac h
 refine Pr (Wr N v4.1 v6 hc8) rfl (Ax rfl rfl rfl rfl hb6) rfl rfl rfl rfl rfl rfl ⟨(.inl ⟨rfl,rfl⟩),Tvv⟩ ?_
 refine Xu (Ax rfl rfl rfl rfl hb6) (pStrNe rfl rfl rfl) rfl rfl ?_
 refine Do rfl (Ad rfl) rfl rfl rfl hb6 rfl ?_
 refine Bi tt rfl (Ad rfl) rfl rfl rfl Tvv ?_
 refine Gd rfl rfl rfl (fun hb9=>?_) (fun hb9=>?_)
 ·replace h:=Ai hb9 h
  iterate 5 refine Pe rfl rfl rfl rfl hb9 rfl rfl ?_
  refine Cs rfl (Ad rfl) rfl rfl rfl hb9 rfl ?_
  refine Bi tt rfl (Ad rfl) rfl rfl rfl Tvv ?_
  iterate 2 refine Pe rfl rfl rfl rfl rfl rfl rfl ?_
  iterate 9 refine cNoU rfl rfl rfl rfl rfl ?_
  refine Pe rfl rfl rfl rfl rfl rfl rfl ?_
  refine Cs rfl (Ad rfl) rfl rfl rfl rfl rfl ?_
  refine La ?_
  show VC ..
  refine Bs rfl rfl ?_
  refine Ag ?_
  refine Aa ?_
  refine oV5 tt rfl Tvv ?_
  refine Ae ?_
  show VC ..
  refine Bb ?_
  show ∃ _,_
  cases h
  exact ⟨[],_,rfl,Tvv,rfl,(.eq rfl),rfl⟩
 replace h:=Aj hb9 h
 refine Bi tt rfl (Ax rfl rfl rfl rfl hb9) rfl rfl rfl Tvv ?_
 obtain ⟨v7,hc10,h⟩:=Ac h
 refine Pr (Aam N v2 v7 hc10) rfl (Ax rfl rfl rfl rfl hb9) rfl rfl rfl rfl rfl rfl ⟨⟨rfl,(.inl ⟨rfl,rfl⟩),(.inl ⟨rfl,rfl⟩),Tvv⟩,Tvv⟩ ?_
 refine Bi tt rfl (Ax rfl rfl rfl rfl hb9) rfl rfl rfl Tvv ?_
 obtain ⟨v8,hc11,h⟩:=Ac h
 refine Pr (Aaj N v2 v8 hc11) rfl (Ax rfl rfl rfl rfl hb9) rfl rfl rfl rfl rfl rfl ⟨⟨rfl,(.inl ⟨rfl,rfl⟩),(.inl ⟨rfl,rfl⟩),Tvv⟩,Tvv⟩ ?_
 refine Xu (Ax rfl rfl rfl rfl hb9) (pNeB Try.underlying4 rfl rfl rfl) rfl rfl ?_
 refine Do rfl (Ad rfl) rfl rfl rfl hb9 rfl ?_
 refine Bi tt rfl (Ad rfl) rfl rfl rfl Tvv ?_
 refine Gd rfl rfl rfl (fun hb12=>?_) (fun hb12=>?_)
 ·replace h:=Ai hb12 h
  iterate 2 refine Pe rfl rfl rfl rfl hb12 rfl rfl ?_
  iterate 9 refine cNoU rfl rfl rfl rfl rfl ?_
  refine Pe rfl rfl rfl rfl hb12 rfl rfl ?_
  refine Cs rfl (Ad rfl) rfl rfl rfl hb12 rfl ?_
  refine La ?_
  show VC ..
  refine Bs rfl rfl ?_
  refine Ag ?_
  refine Aa ?_
  refine oV5 tt rfl Tvv ?_
  refine Ae ?_
  show VC ..
  refine Bb ?_
  show ∃ _,_
  cases h
  exact ⟨[],_,rfl,Tvv,rfl,(.eq rfl),rfl⟩
 replace h:=Aj hb12 h
 iterate 2 refine Bi tt rfl (Ax rfl rfl rfl rfl hb12) rfl rfl rfl Tvv ?_
 refine Gd rfl rfl rfl (fun hb13=>?_) (fun hb13=>?_)
 ·replace h:=Ai hb13 h
  iterate 2 refine Bi tt rfl (Ax rfl rfl rfl rfl hb13) rfl rfl rfl Tvv ?_
  obtain ⟨v9,hc14,h⟩:=Ac h
  refine Pr (Gy N v2 v4.1 v9 hc14) rfl (Ax rfl rfl rfl rfl hb13) rfl rfl rfl rfl rfl rfl ⟨⟨rfl,(.inl ⟨rfl,rfl⟩),(.inl ⟨rfl,rfl⟩),Tvv⟩,(.inl ⟨rfl,rfl⟩),Tvv⟩ ?_
  iterate 2 refine Bi tt rfl (Ax rfl rfl rfl rfl hb13) rfl rfl rfl Tvv ?_
  refine Gd rfl rfl rfl (fun hb15=>?_) (fun hb15=>?_)
  ·replace h:=Ai hb15 h
   iterate 3 refine Pe rfl rfl rfl rfl hb15 rfl rfl ?_
   refine Cs rfl (Ax rfl rfl rfl rfl hb13) rfl rfl rfl hb15 rfl ?_
   refine Cs rfl (Ax rfl rfl rfl rfl hb12) rfl rfl rfl hb13 rfl ?_
   refine Do rfl (Ad rfl) rfl rfl rfl hb12 rfl ?_
   refine La ?_
   show VC ..
   refine Bs rfl rfl ?_
   refine Ag ?_
   refine Aa ?_
   refine oV5 tt rfl Tvv ?_
   refine Ae ?_
   show VC ..
   refine Bb ?_
   show ∃ _,_
   cases h
   exact ⟨[],_,rfl,Tvv,rfl,(.eq rfl),rfl⟩
  replace h:=Aj hb15 h
  refine Bi tt rfl (Ax rfl rfl rfl rfl hb15) rfl rfl rfl Tvv ?_
  obtain ⟨v10,hc16,h⟩:=Ac h
  refine Pr (Pv N v2 v10 hc16) rfl (Ax rfl rfl rfl rfl hb15) rfl rfl rfl rfl rfl rfl ⟨⟨rfl,(.inl ⟨rfl,rfl⟩),(.inl ⟨rfl,rfl⟩),Tvv⟩,Tvv⟩ ?_
  refine Bi tt rfl (Ax rfl rfl rfl rfl hb15) rfl rfl rfl Tvv ?_
  refine Do rfl (Ax rfl rfl rfl rfl hb13) rfl rfl rfl hb15 rfl ?_
  refine Cs rfl (Ax rfl rfl rfl rfl hb12) rfl rfl rfl hb13 rfl ?_
  refine Do rfl (Ad rfl) rfl rfl rfl hb12 rfl ?_
  refine La ?_
  show VC ..
  refine Au rfl (fun hb17=>?_) (fun hb17=>?_)
  ·replace h:=Ai hb17 h
   refine Ag ?_
   refine Aa ?_
   refine oV5 tt rfl Tvv ?_
   refine Ae ?_
   show VC ..
   refine Bb ?_
   show ∃ _,_
   cases h
   exact ⟨[],_,rfl,Tvv,rfl,(.eq rfl),rfl⟩
  replace h:=Aj hb17 h
  refine Ar ?_
  show VC ..
  refine Ag ?_
  refine Aa ?_
  refine Fa tt (Ad rfl) rfl rfl rfl rfl ?_
  refine oV5 tt rfl Tvv ?_
  refine Ae ?_
  show VC ..
  refine Ag ?_
  refine Aa ?_
  refine Fa tt (Ad rfl) rfl rfl rfl rfl ?_
  refine oV5 tt rfl Tvv ?_
  refine Ae ?_
  show VC ..
  iterate 2 refine Ag ?_
  refine Aa ?_
  refine oV5 tt rfl Tvv ?_
  refine Ae ?_
  show VC ..
  refine Ck (F:=fun k=>Fz N v2 v4 k) h (α:=Unit) (J:=fun (_:Unit)=>(⟨[(0,.ro false (.bytes code_0))],[],[]⟩:PS)) ?_ ?_
  ·rintro ⟨⟩ h
   show VC _ _ _ (⟨[(0,.ro false (.bytes code_0))],[],[]⟩:PS)
   refine Ag ?_
   refine Aa ?_
   refine oV5 tt rfl Tvv ?_
   obtain ⟨v75,hc18,h⟩:=Ac h
   refine Ba (Qd N code_0 v75 hc18) rfl rfl rfl rfl rfl rfl rfl rfl ⟨rfl,Tvv⟩ ?_
   iterate 3 refine oV5 tt rfl Tvv ?_
   refine Bj tt rfl rfl rfl rfl rfl rfl rfl rfl rfl ?_
   refine Ao tt rfl rfl rfl rfl rfl rfl rfl rfl rfl rfl rfl ⟨Tvv,Tvv,Tvv,Tvv⟩ ?_
   refine oV5 tt rfl Tvv ?_
   refine Ae ?_
   show VC ..
   iterate 2 refine Ag ?_
   refine Aa ?_
   iterate 2 refine oV5 tt rfl Tvv ?_
   obtain ⟨v76,hc19,h⟩:=Ac h
   refine Ba (Gy N v75.1 v75.2 v76 hc19) rfl rfl rfl rfl rfl rfl rfl rfl ⟨⟨rfl,(.inl ⟨rfl,rfl⟩),(.inl ⟨rfl,rfl⟩),Tvv⟩,rfl,Tvv⟩ ?_
   refine oV5 tt rfl Tvv ?_
   refine Bc rfl rfl rfl (fun hb20=>?_) (fun hb20=>?_)
   ·replace h:=Ai hb20 h
    refine Bd tt rfl rfl rfl rfl rfl hb20 rfl rfl rfl Tvv ?_
    obtain ⟨v77,hc21,h⟩:=Ac h
    refine Fj (Kt N v75.1 v77 hc21) rfl rfl rfl rfl hb20 rfl rfl rfl rfl rfl rfl rfl ⟨⟨rfl,(.inl ⟨rfl,rfl⟩),(.inl ⟨rfl,rfl⟩),Tvv⟩,Tvv⟩ ?_
    refine Bd tt rfl rfl rfl rfl rfl hb20 rfl rfl rfl Tvv ?_
    refine Be rfl rfl rfl rfl rfl hb20 rfl ?_
    refine Ae ?_
    show VC ..
    refine Au rfl (fun hb22=>?_) (fun hb22=>?_)
    ·replace h:=Ai hb22 h
     refine Ag ?_
     refine Aa ?_
     refine oV5 tt rfl Tvv ?_
     refine Ae ?_
     show VC ..
     refine Bb ?_
     show ∃ _,_
     cases h
     exact ⟨[],_,rfl,Tvv,rfl,(.eq rfl),rfl⟩
    replace h:=Aj hb22 h
    refine Ar ?_
    show VC ..
    refine Ag ?_
    refine Aa ?_
    refine oV5 tt rfl Tvv ?_
    obtain ⟨v78,hc23,h⟩:=Ac h
    refine Ba (Kk N code_0 v78 hc23) rfl rfl rfl rfl rfl rfl rfl rfl ⟨rfl,Tvv⟩ ?_
    iterate 4 refine oV5 tt rfl Tvv ?_
    iterate 2 refine Bj tt rfl rfl rfl rfl rfl rfl rfl rfl rfl ?_
    refine Ao tt rfl rfl rfl rfl rfl rfl rfl rfl rfl rfl rfl ⟨Tvv,Tvv,Tvv,Tvv⟩ ?_
    refine oV5 tt rfl Tvv ?_
    refine Ao tt rfl rfl rfl rfl rfl rfl rfl rfl rfl rfl rfl ⟨Tvv,Tvv,Tvv⟩ ?_
    refine Ae ?_
    show VC ..
    refine Ag ?_
    refine Bl 24 [10,13] [0,0,3,0,0,31,63,127,255,255,1023,255,255,8191,16383,32767,65535,131071,131071,131071,1048575,131071,131071,131071,16777215,33554431,67108863,134217727] (by kernel_rfl) (by kernel_rfl) (by kernel_rfl) (by kernel_rfl) (by kernel_rfl) rfl (by rfl) ?_
    iterate 2 refine Bo tt rfl (Ad rfl) rfl rfl rfl rfl rfl Tvv ?_
    obtain ⟨v79,hc24,h⟩:=Ac h
    refine Lr (Gy N v75.1 v75.2 v79 hc24) rfl (Ad rfl) rfl rfl rfl rfl rfl rfl rfl rfl ⟨⟨rfl,(.inl ⟨rfl,rfl⟩),(.inl ⟨rfl,rfl⟩),Tvv⟩,rfl,Tvv⟩ ?_
    iterate 2 refine Bo tt rfl (Ad rfl) rfl rfl rfl rfl rfl Tvv ?_
    obtain ⟨v80,hc25,h⟩:=Ac h
    refine Lr (Mc N v75.1 v75.2 v80 hc25) rfl (Ad rfl) rfl rfl rfl rfl rfl rfl rfl rfl ⟨⟨rfl,(.inl ⟨rfl,rfl⟩),(.inl ⟨rfl,rfl⟩),Tvv⟩,rfl,Tvv⟩ ?_
    refine Sz (Ad rfl) (pEqB Try.underlying4 rfl rfl rfl) rfl rfl rfl rfl ?_
    refine Bo tt rfl (Ad rfl) rfl rfl rfl rfl rfl Tvv ?_
    refine Qz rfl rfl rfl (fun hb26=>?_) (fun hb26=>?_)
    ·replace h:=Ai hb26 h
     iterate 2 refine Bo tt rfl (Ax rfl rfl rfl rfl hb26) rfl rfl rfl rfl rfl Tvv ?_
     obtain ⟨v81,hc27,h⟩:=Ac h
     refine Jh (Hf N v75.1 v75.2 v81 hc27) rfl (Ax rfl rfl rfl rfl hb26) rfl rfl rfl rfl rfl rfl (by first | rfl | kernel_rfl | (simp [nrL,nm,Dy,nmT,Es]; done)) rfl (by first | rfl | kernel_rfl | (simp [Jj,nrL,nm,Dy,nmT,Es,hid,Ez,Cf,Bn]; done) | (simp [Jj,nrL,nm,Dy,nmT,Es,hid,Ez,Cf,Bn]; decide)) ⟨⟨rfl,(.inl ⟨rfl,rfl⟩),(.inl ⟨rfl,rfl⟩),Tvv⟩,rfl,Tvv⟩ ?_
     iterate 2 refine Bo tt rfl (Ax rfl rfl rfl rfl hb26) rfl rfl rfl rfl rfl Tvv ?_
     obtain ⟨v82,hc28,h⟩:=Ac h
     refine Jh (Hc N v75.1 v75.2 v82 hc28) rfl (Ax rfl rfl rfl rfl hb26) rfl rfl rfl rfl rfl rfl (by first | rfl | kernel_rfl | (simp [nrL,nm,Dy,nmT,Es]; done)) rfl (by first | rfl | kernel_rfl | (simp [Jj,nrL,nm,Dy,nmT,Es,hid,Ez,Cf,Bn]; done) | (simp [Jj,nrL,nm,Dy,nmT,Es,hid,Ez,Cf,Bn]; decide)) ⟨⟨rfl,(.inl ⟨rfl,rfl⟩),(.inl ⟨rfl,rfl⟩),Tvv⟩,rfl,Tvv⟩ ?_
     obtain ⟨v83,hc29,h⟩:=Ac h
     refine Lr (Pk N v81 v82 v83 hc29) rfl (Ax rfl rfl rfl rfl hb26) rfl rfl rfl rfl rfl rfl rfl rfl ⟨(.inl ⟨rfl,rfl⟩),(.inl ⟨rfl,rfl⟩),Tvv⟩ ?_
     refine Zs rfl (Ad rfl) rfl rfl rfl hb26 rfl rfl ?_
     refine Bo tt rfl (Ad rfl) rfl rfl rfl rfl rfl Tvv ?_
     refine Qz rfl rfl rfl (fun hb30=>?_) (fun hb30=>?_)
     ·replace h:=Ai hb30 h
      iterate 3 refine Bo tt rfl (Ax rfl rfl rfl rfl hb30) rfl rfl rfl rfl rfl Tvv ?_
      obtain ⟨v84,hc31,h⟩:=Ac h
      refine Lr (Js N v78.1 v78.2.1 v78.2.2 v84 hc31) rfl (Ax rfl rfl rfl rfl hb30) rfl rfl rfl rfl rfl rfl rfl rfl ⟨⟨rfl,(.inl ⟨rfl,rfl⟩),(.inl ⟨rfl,rfl⟩),Tvv⟩,(.inl ⟨rfl,rfl⟩),⟨rfl,rfl,Tvv⟩,Tvv⟩ ?_
      iterate 3 refine Bo tt rfl (Ax rfl rfl rfl rfl hb30) rfl rfl rfl rfl rfl Tvv ?_
      refine Lt ?_
      show VO _ _ _ _ _
      obtain ⟨v85,hc32,h⟩:=Ac h
      refine Fj (Ms N v78.1 v78.2.1 v78.2.2 v85 hc32) rfl rfl rfl rfl hb30 rfl rfl rfl rfl rfl rfl rfl ⟨⟨rfl,(.inl ⟨rfl,rfl⟩),(.inl ⟨rfl,rfl⟩),Tvv⟩,(.inl ⟨rfl,rfl⟩),⟨rfl,rfl,Tvv⟩,Tvv⟩ ?_
      refine Du (Ax rfl rfl rfl rfl hb30) (pEqB Try.underlying4 rfl rfl rfl) rfl rfl ?_
      refine Be rfl rfl rfl rfl rfl hb30 rfl ?_
      refine oV5 tt rfl Tvv ?_
      refine Ae ?_
      show VC ..
      refine Bb ?_
      show ∃ _,_
      cases h
      exact ⟨[],_,rfl,Tvv,rfl,(.eq rfl),rfl⟩
     replace h:=Aj hb30 h
     iterate 7 refine Aad rfl rfl rfl rfl hb30 rfl rfl ?_
     refine Lt ?_
     show VO _ _ _ _ _
     iterate 2 refine Jn rfl rfl rfl rfl hb30 rfl rfl ?_
     refine Av rfl rfl rfl rfl rfl hb30 rfl ?_
     refine oV5 tt rfl Tvv ?_
     refine Ae ?_
     show VC ..
     refine Bb ?_
     show ∃ _,_
     cases h
     exact ⟨[],_,rfl,Tvv,rfl,(.eq rfl),rfl⟩
    replace h:=Aj hb26 h
    iterate 7 refine Aad rfl rfl rfl rfl hb26 rfl rfl ?_
    refine Sr rfl (Ad rfl) rfl rfl rfl hb26 rfl rfl ?_
    refine Bo tt rfl (Ad rfl) rfl rfl rfl rfl rfl Tvv ?_
    iterate 7 refine Aad rfl rfl rfl rfl rfl rfl rfl ?_
    refine Lt ?_
    show VO _ _ _ _ _
    iterate 2 refine Jn rfl rfl rfl rfl rfl rfl rfl ?_
    refine Av rfl rfl rfl rfl rfl rfl rfl ?_
    refine oV5 tt rfl Tvv ?_
    refine Ae ?_
    show VC ..
    refine Bb ?_
    show ∃ _,_
    cases h
    exact ⟨[],_,rfl,Tvv,rfl,(.eq rfl),rfl⟩
   replace h:=Aj hb20 h
   iterate 3 refine Jn rfl rfl rfl rfl hb20 rfl rfl ?_
   refine Av rfl rfl rfl rfl rfl hb20 rfl ?_
   refine Ae ?_
   show VC ..
   refine Cz rfl rfl ?_
   refine Ar ?_
   show VC ..
   refine Ag ?_
   refine Aa ?_
   refine oV5 tt rfl Tvv ?_
   obtain ⟨v86,hc33,h⟩:=Ac h
   refine Ba (Kk N code_0 v86 hc33) rfl rfl rfl rfl rfl rfl rfl rfl ⟨rfl,Tvv⟩ ?_
   iterate 4 refine oV5 tt rfl Tvv ?_
   iterate 2 refine Bj tt rfl rfl rfl rfl rfl rfl rfl rfl rfl ?_
   refine Ao tt rfl rfl rfl rfl rfl rfl rfl rfl rfl rfl rfl ⟨Tvv,Tvv,Tvv,Tvv⟩ ?_
   refine oV5 tt rfl Tvv ?_
   refine Ao tt rfl rfl rfl rfl rfl rfl rfl rfl rfl rfl rfl ⟨Tvv,Tvv,Tvv⟩ ?_
   refine Ae ?_
   show VC ..
   refine Ag ?_
   refine Bl 24 [10,13] [0,0,3,0,0,31,63,127,255,255,1023,255,255,8191,16383,32767,65535,131071,131071,131071,1048575,131071,131071,131071,16777215,33554431,67108863,134217727] (by kernel_rfl) (by kernel_rfl) (by kernel_rfl) (by kernel_rfl) (by kernel_rfl) rfl (by rfl) ?_
   iterate 2 refine Bo tt rfl (Ad rfl) rfl rfl rfl rfl rfl Tvv ?_
   obtain ⟨v87,hc34,h⟩:=Ac h
   refine Lr (Gy N v75.1 v75.2 v87 hc34) rfl (Ad rfl) rfl rfl rfl rfl rfl rfl rfl rfl ⟨⟨rfl,(.inl ⟨rfl,rfl⟩),(.inl ⟨rfl,rfl⟩),Tvv⟩,rfl,Tvv⟩ ?_
   iterate 2 refine Bo tt rfl (Ad rfl) rfl rfl rfl rfl rfl Tvv ?_
   obtain ⟨v88,hc35,h⟩:=Ac h
   refine Lr (Mc N v75.1 v75.2 v88 hc35) rfl (Ad rfl) rfl rfl rfl rfl rfl rfl rfl rfl ⟨⟨rfl,(.inl ⟨rfl,rfl⟩),(.inl ⟨rfl,rfl⟩),Tvv⟩,rfl,Tvv⟩ ?_
   refine Sz (Ad rfl) (pEqB Try.underlying4 rfl rfl rfl) rfl rfl rfl rfl ?_
   refine Bo tt rfl (Ad rfl) rfl rfl rfl rfl rfl Tvv ?_
   refine Qz rfl rfl rfl (fun hb36=>?_) (fun hb36=>?_)
   ·replace h:=Ai hb36 h
    iterate 2 refine Bo tt rfl (Ax rfl rfl rfl rfl hb36) rfl rfl rfl rfl rfl Tvv ?_
    obtain ⟨v89,hc37,h⟩:=Ac h
    refine Jh (Hf N v75.1 v75.2 v89 hc37) rfl (Ax rfl rfl rfl rfl hb36) rfl rfl rfl rfl rfl rfl (by first | rfl | kernel_rfl | (simp [nrL,nm,Dy,nmT,Es]; done)) rfl (by first | rfl | kernel_rfl | (simp [Jj,nrL,nm,Dy,nmT,Es,hid,Ez,Cf,Bn]; done) | (simp [Jj,nrL,nm,Dy,nmT,Es,hid,Ez,Cf,Bn]; decide)) ⟨⟨rfl,(.inl ⟨rfl,rfl⟩),(.inl ⟨rfl,rfl⟩),Tvv⟩,rfl,Tvv⟩ ?_
    iterate 2 refine Bo tt rfl (Ax rfl rfl rfl rfl hb36) rfl rfl rfl rfl rfl Tvv ?_
    obtain ⟨v90,hc38,h⟩:=Ac h
    refine Jh (Hc N v75.1 v75.2 v90 hc38) rfl (Ax rfl rfl rfl rfl hb36) rfl rfl rfl rfl rfl rfl (by first | rfl | kernel_rfl | (simp [nrL,nm,Dy,nmT,Es]; done)) rfl (by first | rfl | kernel_rfl | (simp [Jj,nrL,nm,Dy,nmT,Es,hid,Ez,Cf,Bn]; done) | (simp [Jj,nrL,nm,Dy,nmT,Es,hid,Ez,Cf,Bn]; decide)) ⟨⟨rfl,(.inl ⟨rfl,rfl⟩),(.inl ⟨rfl,rfl⟩),Tvv⟩,rfl,Tvv⟩ ?_
    obtain ⟨v91,hc39,h⟩:=Ac h
    refine Lr (Pk N v89 v90 v91 hc39) rfl (Ax rfl rfl rfl rfl hb36) rfl rfl rfl rfl rfl rfl rfl rfl ⟨(.inl ⟨rfl,rfl⟩),(.inl ⟨rfl,rfl⟩),Tvv⟩ ?_
    refine Zs rfl (Ad rfl) rfl rfl rfl hb36 rfl rfl ?_
    refine Bo tt rfl (Ad rfl) rfl rfl rfl rfl rfl Tvv ?_
    refine Qz rfl rfl rfl (fun hb40=>?_) (fun hb40=>?_)
    ·replace h:=Ai hb40 h
     iterate 3 refine Bo tt rfl (Ax rfl rfl rfl rfl hb40) rfl rfl rfl rfl rfl Tvv ?_
     obtain ⟨v92,hc41,h⟩:=Ac h
     refine Lr (Js N v86.1 v86.2.1 v86.2.2 v92 hc41) rfl (Ax rfl rfl rfl rfl hb40) rfl rfl rfl rfl rfl rfl rfl rfl ⟨⟨rfl,(.inl ⟨rfl,rfl⟩),(.inl ⟨rfl,rfl⟩),Tvv⟩,(.inl ⟨rfl,rfl⟩),⟨rfl,rfl,Tvv⟩,Tvv⟩ ?_
     iterate 3 refine Bo tt rfl (Ax rfl rfl rfl rfl hb40) rfl rfl rfl rfl rfl Tvv ?_
     refine Lt ?_
     show VO _ _ _ _ _
     obtain ⟨v93,hc42,h⟩:=Ac h
     refine Fj (Ms N v86.1 v86.2.1 v86.2.2 v93 hc42) rfl rfl rfl rfl hb40 rfl rfl rfl rfl rfl rfl rfl ⟨⟨rfl,(.inl ⟨rfl,rfl⟩),(.inl ⟨rfl,rfl⟩),Tvv⟩,(.inl ⟨rfl,rfl⟩),⟨rfl,rfl,Tvv⟩,Tvv⟩ ?_
     refine Du (Ax rfl rfl rfl rfl hb40) (pEqB Try.underlying4 rfl rfl rfl) rfl rfl ?_
     refine Be rfl rfl rfl rfl rfl hb40 rfl ?_
     refine oV5 tt rfl Tvv ?_
     refine Ae ?_
     show VC ..
     refine Bb ?_
     show ∃ _,_
     cases h
     exact ⟨[],_,rfl,Tvv,rfl,(.eq rfl),rfl⟩
    replace h:=Aj hb40 h
    iterate 7 refine Aad rfl rfl rfl rfl hb40 rfl rfl ?_
    refine Lt ?_
    show VO _ _ _ _ _
    iterate 2 refine Jn rfl rfl rfl rfl hb40 rfl rfl ?_
    refine Av rfl rfl rfl rfl rfl hb40 rfl ?_
    refine oV5 tt rfl Tvv ?_
    refine Ae ?_
    show VC ..
    refine Bb ?_
    show ∃ _,_
    cases h
    exact ⟨[],_,rfl,Tvv,rfl,(.eq rfl),rfl⟩
   replace h:=Aj hb36 h
   iterate 7 refine Aad rfl rfl rfl rfl hb36 rfl rfl ?_
   refine Sr rfl (Ad rfl) rfl rfl rfl hb36 rfl rfl ?_
   refine Bo tt rfl (Ad rfl) rfl rfl rfl rfl rfl Tvv ?_
   iterate 7 refine Aad rfl rfl rfl rfl rfl rfl rfl ?_
   refine Lt ?_
   show VO _ _ _ _ _
   iterate 2 refine Jn rfl rfl rfl rfl rfl rfl rfl ?_
   refine Av rfl rfl rfl rfl rfl rfl rfl ?_
   refine oV5 tt rfl Tvv ?_
   refine Ae ?_
   show VC ..
   refine Bb ?_
   show ∃ _,_
   cases h
   exact ⟨[],_,rfl,Tvv,rfl,(.eq rfl),rfl⟩
  intro k h
  refine Aq ?_
  refine Md 8 90 3 (.ints []) rfl rfl rfl rfl ?_
  refine Md 9 97 3 (.ints []) rfl rfl rfl rfl ?_
  refine Bh (α:=(List Int)×(List Int)×Int) (fun | (l132,l133,i134)=>(⟨[(0,.ro false (.bytes code_0)),(3,.ptr 3 0),(5,.bool v3.2),(6,.row 1300 0 v4.1.length),(8,.row 90 0 l132.length),(9,.row 97 0 l133.length),(10,.int i134)],[(1300,some (39,.raises v4.1)),(90,some (3,.ints l132)),(97,some (3,.ints l133)),(1220,some (111,.pairs v2.g.bars)),(1221,some (3,.ints v2.ground))],[(3,some [.int v2.g.n,.row 1220 0 v2.g.bars.length,.row 1221 0 v2.ground.length])]⟩:PS)) (Fz N v2 v4 k) h (En.of ⟨rfl,rfl,rfl,rfl,rfl,rfl,rfl,Tvv⟩ ⟨rfl,rfl,rfl,rfl,rfl,Tvv⟩ ⟨rfl,Tvv⟩) (fun _=>rfl) ?_
  rintro n ⟨l132,l133,i134⟩ h
  rw [Fz] at h
  show VC _ _ _ (⟨[(0,.ro false (.bytes code_0)),(3,.ptr 3 0),(5,.bool v3.2),(6,.row 1300 0 v4.1.length),(8,.row 90 0 l132.length),(9,.row 97 0 l133.length),(10,.int i134)],[(1300,some (39,.raises v4.1)),(90,some (3,.ints l132)),(97,some (3,.ints l133)),(1220,some (111,.pairs v2.g.bars)),(1221,some (3,.ints v2.ground))],[(3,some [.int v2.g.n,.row 1220 0 v2.g.bars.length,.row 1221 0 v2.ground.length])]⟩:PS)
  iterate 2 refine Ag ?_
  refine Aa ?_
  iterate 5 refine oV5 tt rfl Tvv ?_
  refine Bc rfl rfl rfl (fun hb43=>?_) (fun hb43=>?_)
  ·replace h:=Ai hb43 h
   refine Bd tt rfl rfl rfl rfl rfl hb43 rfl rfl rfl Tvv ?_
   refine Be rfl rfl rfl rfl rfl hb43 rfl ?_
   refine Ae ?_
   show VC ..
   refine Bs rfl hb13 ?_
   refine Ar ?_
   show VC ..
   refine Ag ?_
   refine Aq ?_
   iterate 2 refine Ag ?_
   refine Cg (by kernel_rfl) (by kernel_rfl) ?_
   iterate 4 refine Bi tt rfl (Ad rfl) rfl rfl rfl Tvv ?_
   obtain ⟨hg44,h⟩:=Ab h
   iterate 2 refine Bi tt rfl (Ad rfl) rfl rfl rfl hg44 ?_
   obtain ⟨v147,hc45,h⟩:=Ac h
   refine Pr (Js N v2 l132 (⟨(v4.1.getD ((i134).toNat) (0,[])).1,(v4.1.getD ((i134).toNat) (0,[])).2⟩:Rse) v147 hc45) rfl (Ad rfl) rfl rfl rfl rfl rfl rfl ⟨⟨rfl,(.inl ⟨rfl,rfl⟩),(.inl ⟨rfl,rfl⟩),Tvv⟩,(.inl ⟨rfl,rfl⟩),⟨rfl,rfl,Tvv⟩,Tvv⟩ ?_
   refine Bi tt rfl (Ad rfl) rfl rfl rfl Tvv ?_
   refine La ?_
   show VC ..
   refine Au rfl (fun hb46=>?_) (fun hb46=>?_)
   ·replace h:=Ai hb46 h
    refine Ag ?_
    refine Aa ?_
    refine oV5 tt rfl Tvv ?_
    refine Ae ?_
    show VC ..
    refine Bb ?_
    show ∃ _,_
    cases h
    exact ⟨[],_,rfl,Tvv,rfl,(.eq rfl),rfl⟩
   replace h:=Aj hb46 h
   refine Ar ?_
   show VC ..
   refine Ag ?_
   refine Aa ?_
   iterate 3 refine oV5 tt rfl Tvv ?_
   iterate 3 refine oV5 tt rfl hg44 ?_
   refine Cv tt rfl rfl rfl rfl rfl rfl rfl rfl rfl rfl rfl ?_
   obtain ⟨hg47,h⟩:=Ab h
   refine Bp tt rfl rfl rfl rfl rfl rfl rfl rfl rfl rfl rfl rfl rfl rfl rfl rfl (Nat.le_of_eq (Nat.zero_add _)) hg47 ?_
   refine oV5 tt rfl Tvv ?_
   refine Ae ?_
   show VC ..
   refine Ag ?_
   refine Aa ?_
   iterate 3 refine oV5 tt rfl Tvv ?_
   iterate 3 refine oV5 tt rfl hg44 ?_
   obtain ⟨hg48,h⟩:=Ab h
   refine Bp tt rfl rfl rfl rfl rfl rfl rfl rfl rfl rfl rfl rfl rfl rfl rfl rfl Tvv hg48 ?_
   refine oV5 tt rfl Tvv ?_
   refine Ae ?_
   show VC ..
   refine Ag ?_
   refine Bl 8 [3,7] [0,1,0,7,0,16,63,0,255] (by kernel_rfl) (by kernel_rfl) (by kernel_rfl) (by kernel_rfl) (by kernel_rfl) rfl (by rfl) ?_
   iterate 3 refine Bo tt rfl (Ad rfl) rfl rfl rfl rfl rfl Tvv ?_
   obtain ⟨v148,hc49,h⟩:=Ac h
   refine Jh (S_OnlyBars_w N v2.g (l133++((v4.1.getD ((i134).toNat) (0,[])).2)) v148 hc49) rfl (Ad rfl) rfl rfl rfl rfl rfl rfl (by first | rfl | kernel_rfl | (simp [nrL,nm,Dy,nmT,Es]; done)) rfl (by first | rfl | kernel_rfl | (simp [Jj,nrL,nm,Dy,nmT,Es,hid,Ez,Cf,Bn]; done) | (simp [Jj,nrL,nm,Dy,nmT,Es,hid,Ez,Cf,Bn]; decide)) ⟨⟨rfl,(.inl ⟨rfl,rfl⟩),Tvv⟩,(.inl ⟨rfl,rfl⟩),Tvv⟩ ?_
   iterate 2 refine Bo tt rfl (Ad rfl) rfl rfl rfl rfl rfl Tvv ?_
   refine Sz (Ad rfl) (Dp Ro rfl rfl) rfl rfl rfl rfl ?_
   refine Aax tt (Ad rfl) rfl rfl rfl rfl rfl rfl rfl rfl rfl rfl ?_
   refine Lt ?_
   show VO _ _ _ _ _
   refine Ao tt rfl rfl rfl rfl rfl rfl rfl rfl rfl rfl rfl ⟨Tvv,Tvv,Tvv,Tvv⟩ ?_
   refine Ae ?_
   show VC ..
   refine Ag ?_
   refine Aa ?_
   refine oV5 tt rfl Tvv ?_
   obtain ⟨v149,hc50,h⟩:=Ac h
   refine Ba (Xx N (⟨⟨v148.n,v148.bars⟩,v2.ground⟩:Pin) v149 hc50) rfl rfl rfl rfl rfl rfl rfl rfl ⟨⟨rfl,(.inl ⟨rfl,rfl⟩),(.inl ⟨rfl,rfl⟩),Tvv⟩,Tvv⟩ ?_
   refine oV5 tt rfl Tvv ?_
   refine Ae ?_
   show VC ..
   refine Ag ?_
   refine Aa ?_
   refine oV5 tt rfl Tvv ?_
   refine Ae ?_
   show VC ..
   refine Ck (F:=fun k=>Fx N v4 l132 i134 v149 k) h (α:=Unit) (J:=fun (_:Unit)=>(⟨[(0,.ro false (.bytes code_0)),(3,.ptr 3 0),(5,.bool v3.2),(6,.row 1300 0 v4.1.length),(8,.row 90 0 ((l132++([(v4.1.getD ((i134).toNat) (0,[])).1]:List Int)).length)),(9,.row 97 0 ((l133++((v4.1.getD ((i134).toNat) (0,[])).2)).length)),(10,.int i134)],[(1300,some (39,.raises v4.1)),(90,some (3,.ints (l132++([(v4.1.getD ((i134).toNat) (0,[])).1]:List Int)))),(97,some (3,.ints (l133++((v4.1.getD ((i134).toNat) (0,[])).2)))),(1220,some (111,.pairs v2.g.bars)),(1221,some (3,.ints v2.ground))],[(3,some [.int v2.g.n,.row 1220 0 v2.g.bars.length,.row 1221 0 v2.ground.length])]⟩:PS)) ?_ ?_
   ·rintro ⟨⟩ h
    show VC _ _ _ (⟨[(0,.ro false (.bytes code_0)),(3,.ptr 3 0),(5,.bool v3.2),(6,.row 1300 0 v4.1.length),(8,.row 90 0 ((l132++([(v4.1.getD ((i134).toNat) (0,[])).1]:List Int)).length)),(9,.row 97 0 ((l133++((v4.1.getD ((i134).toNat) (0,[])).2)).length)),(10,.int i134)],[(1300,some (39,.raises v4.1)),(90,some (3,.ints (l132++([(v4.1.getD ((i134).toNat) (0,[])).1]:List Int)))),(97,some (3,.ints (l133++((v4.1.getD ((i134).toNat) (0,[])).2)))),(1220,some (111,.pairs v2.g.bars)),(1221,some (3,.ints v2.ground))],[(3,some [.int v2.g.n,.row 1220 0 v2.g.bars.length,.row 1221 0 v2.ground.length])]⟩:PS)
    refine Aa ?_
    refine oV5 tt rfl Tvv ?_
    obtain ⟨hg51,h⟩:=Ab h
    refine oV5 tt rfl hg51 ?_
    refine oV5 tt rfl Tvv ?_
    refine Ae ?_
    show ∃ _,_
    exact ⟨((l132++([(v4.1.getD ((i134).toNat) (0,[])).1]:List Int)),(l133++((v4.1.getD ((i134).toNat) (0,[])).2)),(i134+(1:Int))),(En.of ⟨rfl,rfl,rfl,rfl,rfl,rfl,rfl,Tvv⟩ ⟨rfl,rfl,rfl,rfl,rfl,Tvv⟩ ⟨rfl,Tvv⟩),h⟩
   intro k h
   refine Aq ?_
   refine Bh (α:=Int) (fun (k156:Int)=>(⟨[(0,.ro false (.bytes code_0)),(3,.ptr 3 0),(5,.bool v3.2),(6,.row 1300 0 v4.1.length),(8,.row 90 0 ((l132++([(v4.1.getD ((i134).toNat) (0,[])).1]:List Int)).length)),(9,.row 97 0 ((l133++((v4.1.getD ((i134).toNat) (0,[])).2)).length)),(10,.int i134),(12,.row 2060 0 v149.length),(13,.int k156)],[(1300,some (39,.raises v4.1)),(90,some (3,.ints (l132++([(v4.1.getD ((i134).toNat) (0,[])).1]:List Int)))),(97,some (3,.ints (l133++((v4.1.getD ((i134).toNat) (0,[])).2)))),(2060,some (3,.ints v149)),(1220,some (111,.pairs v2.g.bars)),(1221,some (3,.ints v2.ground))],[(3,some [.int v2.g.n,.row 1220 0 v2.g.bars.length,.row 1221 0 v2.ground.length])]⟩:PS)) (Fx N v4 l132 i134 v149 k) h (En.of ⟨rfl,rfl,rfl,rfl,rfl,rfl,rfl,rfl,rfl,Tvv⟩ ⟨rfl,rfl,rfl,rfl,rfl,rfl,Tvv⟩ ⟨rfl,Tvv⟩) (fun _=>rfl) ?_
   rintro n k156 h
   rw [Fx] at h
   show VC _ _ _ (⟨[(0,.ro false (.bytes code_0)),(3,.ptr 3 0),(5,.bool v3.2),(6,.row 1300 0 v4.1.length),(8,.row 90 0 ((l132++([(v4.1.getD ((i134).toNat) (0,[])).1]:List Int)).length)),(9,.row 97 0 ((l133++((v4.1.getD ((i134).toNat) (0,[])).2)).length)),(10,.int i134),(12,.row 2060 0 v149.length),(13,.int k156)],[(1300,some (39,.raises v4.1)),(90,some (3,.ints (l132++([(v4.1.getD ((i134).toNat) (0,[])).1]:List Int)))),(97,some (3,.ints (l133++((v4.1.getD ((i134).toNat) (0,[])).2)))),(2060,some (3,.ints v149)),(1220,some (111,.pairs v2.g.bars)),(1221,some (3,.ints v2.ground))],[(3,some [.int v2.g.n,.row 1220 0 v2.g.bars.length,.row 1221 0 v2.ground.length])]⟩:PS)
   iterate 2 refine Ag ?_
   refine Aa ?_
   iterate 4 refine oV5 tt rfl Tvv ?_
   refine Ae ?_
   show VC ..
   refine Au rfl (fun hb52=>?_) (fun hb52=>?_)
   ·replace h:=Ai hb52 h
    refine Ar ?_
    show VC ..
    refine Ag ?_
    refine Aq ?_
    refine Ag ?_
    refine Aa ?_
    iterate 3 refine oV5 tt rfl Tvv ?_
    obtain ⟨hg53,h⟩:=Ab h
    iterate 2 refine oV5 tt rfl hg53 ?_
    obtain ⟨v158,hc54,h⟩:=Ac h
    refine Ba (L_has_w N v149 ((l132++([(v4.1.getD ((i134).toNat) (0,[])).1]:List Int)).getD ((k156).toNat) 0) v158 hc54) rfl rfl rfl rfl rfl rfl rfl rfl ⟨(.inl ⟨rfl,rfl⟩),rfl,Tvv⟩ ?_
    refine oV5 tt rfl Tvv ?_
    refine Ae ?_
    show VC ..
    refine Au rfl (fun hb55=>?_) (fun hb55=>?_)
    ·replace h:=Ai hb55 h
     refine Ag ?_
     refine Aa ?_
     refine oV5 tt rfl Tvv ?_
     refine Ae ?_
     show VC ..
     refine Bb ?_
     show ∃ _,_
     cases h
     exact ⟨[],_,rfl,Tvv,rfl,(.eq rfl),rfl⟩
    replace h:=Aj hb55 h
    refine Ar ?_
    show VC ..
    refine Aa ?_
    refine oV5 tt rfl Tvv ?_
    obtain ⟨hg56,h⟩:=Ab h
    refine oV5 tt rfl hg56 ?_
    refine oV5 tt rfl Tvv ?_
    refine Ae ?_
    show ∃ _,_
    exact ⟨(k156+(1:Int)),(En.of ⟨rfl,rfl,rfl,rfl,rfl,rfl,rfl,rfl,rfl,Tvv⟩ ⟨rfl,rfl,rfl,rfl,rfl,rfl,Tvv⟩ ⟨rfl,Tvv⟩),h⟩
   replace h:=Aj hb52 h
   refine Bq ?_
   show ∃ _,_
   exact ⟨(),(En.of ⟨rfl,rfl,rfl,rfl,rfl,rfl,rfl,Tvv⟩ ⟨rfl,rfl,rfl,rfl,rfl,Tvv⟩ ⟨rfl,Tvv⟩),h⟩
  replace h:=Aj hb43 h
  refine Jn rfl rfl rfl rfl hb43 rfl rfl ?_
  refine Av rfl rfl rfl rfl rfl hb43 rfl ?_
  refine Ae ?_
  show VC ..
  refine Cz rfl rfl ?_
  refine Bq ?_
  show ∃ _,_
  exact ⟨(),(En.of ⟨rfl,Tvv⟩ trivial trivial),h⟩
 replace h:=Aj hb13 h
 iterate 5 refine cNoT rfl rfl rfl rfl hb13 rfl rfl ?_
 iterate 3 refine cNoU rfl rfl rfl rfl rfl ?_
 refine cNoT rfl rfl rfl rfl hb13 rfl rfl ?_
 refine Do rfl (Ax rfl rfl rfl rfl hb12) rfl rfl rfl hb13 rfl ?_
 refine Do rfl (Ad rfl) rfl rfl rfl hb12 rfl ?_
 refine La ?_
 show VC ..
 refine Cz rfl rfl ?_
 refine Ar ?_
 show VC ..
 refine Ag ?_
 refine Aa ?_
 refine Fa tt (Ad rfl) rfl rfl rfl rfl ?_
 refine oV5 tt rfl Tvv ?_
 refine Ae ?_
 show VC ..
 refine Ag ?_
 refine Aa ?_
 refine Fa tt (Ad rfl) rfl rfl rfl rfl ?_
 refine oV5 tt rfl Tvv ?_
 refine Ae ?_
 show VC ..
 iterate 2 refine Ag ?_
 refine Aa ?_
 refine oV5 tt rfl Tvv ?_
 refine Ae ?_
 show VC ..
 refine Ck (F:=fun k=>Hj N v4 k) h (α:=Unit) (J:=fun (_:Unit)=>(⟨[(0,.ro false (.bytes code_0))],[],[]⟩:PS)) ?_ ?_
 ·rintro ⟨⟩ h
  show VC _ _ _ (⟨[(0,.ro false (.bytes code_0))],[],[]⟩:PS)
  refine Ag ?_
  refine Aa ?_
  refine oV5 tt rfl Tvv ?_
  obtain ⟨v159,hc57,h⟩:=Ac h
  refine Ba (Qd N code_0 v159 hc57) rfl rfl rfl rfl rfl rfl rfl rfl ⟨rfl,Tvv⟩ ?_
  iterate 3 refine oV5 tt rfl Tvv ?_
  refine Bj tt rfl rfl rfl rfl rfl rfl rfl rfl rfl ?_
  refine Ao tt rfl rfl rfl rfl rfl rfl rfl rfl rfl rfl rfl ⟨Tvv,Tvv,Tvv,Tvv⟩ ?_
  refine oV5 tt rfl Tvv ?_
  refine Ae ?_
  show VC ..
  iterate 2 refine Ag ?_
  refine Aa ?_
  iterate 2 refine oV5 tt rfl Tvv ?_
  obtain ⟨v160,hc58,h⟩:=Ac h
  refine Ba (Gy N v159.1 v159.2 v160 hc58) rfl rfl rfl rfl rfl rfl rfl rfl ⟨⟨rfl,(.inl ⟨rfl,rfl⟩),(.inl ⟨rfl,rfl⟩),Tvv⟩,rfl,Tvv⟩ ?_
  refine oV5 tt rfl Tvv ?_
  refine Bc rfl rfl rfl (fun hb59=>?_) (fun hb59=>?_)
  ·replace h:=Ai hb59 h
   refine Bd tt rfl rfl rfl rfl rfl hb59 rfl rfl rfl Tvv ?_
   obtain ⟨v161,hc60,h⟩:=Ac h
   refine Fj (Kt N v159.1 v161 hc60) rfl rfl rfl rfl hb59 rfl rfl rfl rfl rfl rfl rfl ⟨⟨rfl,(.inl ⟨rfl,rfl⟩),(.inl ⟨rfl,rfl⟩),Tvv⟩,Tvv⟩ ?_
   refine Bd tt rfl rfl rfl rfl rfl hb59 rfl rfl rfl Tvv ?_
   refine Be rfl rfl rfl rfl rfl hb59 rfl ?_
   refine Ae ?_
   show VC ..
   refine Au rfl (fun hb61=>?_) (fun hb61=>?_)
   ·replace h:=Ai hb61 h
    refine Ag ?_
    refine Aa ?_
    refine oV5 tt rfl Tvv ?_
    refine Ae ?_
    show VC ..
    refine Bb ?_
    show ∃ _,_
    cases h
    exact ⟨[],_,rfl,Tvv,rfl,(.eq rfl),rfl⟩
   replace h:=Aj hb61 h
   refine Ar ?_
   show VC ..
   refine Ag ?_
   refine Aa ?_
   refine oV5 tt rfl Tvv ?_
   obtain ⟨v162,hc62,h⟩:=Ac h
   refine Ba (Kk N code_0 v162 hc62) rfl rfl rfl rfl rfl rfl rfl rfl ⟨rfl,Tvv⟩ ?_
   iterate 4 refine oV5 tt rfl Tvv ?_
   iterate 2 refine Bj tt rfl rfl rfl rfl rfl rfl rfl rfl rfl ?_
   refine Ao tt rfl rfl rfl rfl rfl rfl rfl rfl rfl rfl rfl ⟨Tvv,Tvv,Tvv,Tvv⟩ ?_
   refine oV5 tt rfl Tvv ?_
   refine Ao tt rfl rfl rfl rfl rfl rfl rfl rfl rfl rfl rfl ⟨Tvv,Tvv,Tvv⟩ ?_
   refine Ae ?_
   show VC ..
   refine Ag ?_
   refine Bl 24 [10,13] [0,0,3,0,0,31,63,127,255,255,1023,255,255,8191,16383,32767,65535,131071,131071,131071,1048575,131071,131071,131071,16777215,33554431,67108863,134217727] (by kernel_rfl) (by kernel_rfl) (by kernel_rfl) (by kernel_rfl) (by kernel_rfl) rfl (by rfl) ?_
   iterate 2 refine Bo tt rfl (Ad rfl) rfl rfl rfl rfl rfl Tvv ?_
   obtain ⟨v163,hc63,h⟩:=Ac h
   refine Lr (Gy N v159.1 v159.2 v163 hc63) rfl (Ad rfl) rfl rfl rfl rfl rfl rfl rfl rfl ⟨⟨rfl,(.inl ⟨rfl,rfl⟩),(.inl ⟨rfl,rfl⟩),Tvv⟩,rfl,Tvv⟩ ?_
   iterate 2 refine Bo tt rfl (Ad rfl) rfl rfl rfl rfl rfl Tvv ?_
   obtain ⟨v164,hc64,h⟩:=Ac h
   refine Lr (Mc N v159.1 v159.2 v164 hc64) rfl (Ad rfl) rfl rfl rfl rfl rfl rfl rfl rfl ⟨⟨rfl,(.inl ⟨rfl,rfl⟩),(.inl ⟨rfl,rfl⟩),Tvv⟩,rfl,Tvv⟩ ?_
   refine Sz (Ad rfl) (pEqB Try.underlying4 rfl rfl rfl) rfl rfl rfl rfl ?_
   refine Bo tt rfl (Ad rfl) rfl rfl rfl rfl rfl Tvv ?_
   refine Qz rfl rfl rfl (fun hb65=>?_) (fun hb65=>?_)
   ·replace h:=Ai hb65 h
    iterate 2 refine Bo tt rfl (Ax rfl rfl rfl rfl hb65) rfl rfl rfl rfl rfl Tvv ?_
    obtain ⟨v165,hc66,h⟩:=Ac h
    refine Jh (Hf N v159.1 v159.2 v165 hc66) rfl (Ax rfl rfl rfl rfl hb65) rfl rfl rfl rfl rfl rfl (by first | rfl | kernel_rfl | (simp [nrL,nm,Dy,nmT,Es]; done)) rfl (by first | rfl | kernel_rfl | (simp [Jj,nrL,nm,Dy,nmT,Es,hid,Ez,Cf,Bn]; done) | (simp [Jj,nrL,nm,Dy,nmT,Es,hid,Ez,Cf,Bn]; decide)) ⟨⟨rfl,(.inl ⟨rfl,rfl⟩),(.inl ⟨rfl,rfl⟩),Tvv⟩,rfl,Tvv⟩ ?_
    iterate 2 refine Bo tt rfl (Ax rfl rfl rfl rfl hb65) rfl rfl rfl rfl rfl Tvv ?_
    obtain ⟨v166,hc67,h⟩:=Ac h
    refine Jh (Hc N v159.1 v159.2 v166 hc67) rfl (Ax rfl rfl rfl rfl hb65) rfl rfl rfl rfl rfl rfl (by first | rfl | kernel_rfl | (simp [nrL,nm,Dy,nmT,Es]; done)) rfl (by first | rfl | kernel_rfl | (simp [Jj,nrL,nm,Dy,nmT,Es,hid,Ez,Cf,Bn]; done) | (simp [Jj,nrL,nm,Dy,nmT,Es,hid,Ez,Cf,Bn]; decide)) ⟨⟨rfl,(.inl ⟨rfl,rfl⟩),(.inl ⟨rfl,rfl⟩),Tvv⟩,rfl,Tvv⟩ ?_
    obtain ⟨v167,hc68,h⟩:=Ac h
    refine Lr (Pk N v165 v166 v167 hc68) rfl (Ax rfl rfl rfl rfl hb65) rfl rfl rfl rfl rfl rfl rfl rfl ⟨(.inl ⟨rfl,rfl⟩),(.inl ⟨rfl,rfl⟩),Tvv⟩ ?_
    refine Zs rfl (Ad rfl) rfl rfl rfl hb65 rfl rfl ?_
    refine Bo tt rfl (Ad rfl) rfl rfl rfl rfl rfl Tvv ?_
    refine Qz rfl rfl rfl (fun hb69=>?_) (fun hb69=>?_)
    ·replace h:=Ai hb69 h
     iterate 3 refine Bo tt rfl (Ax rfl rfl rfl rfl hb69) rfl rfl rfl rfl rfl Tvv ?_
     obtain ⟨v168,hc70,h⟩:=Ac h
     refine Lr (Js N v162.1 v162.2.1 v162.2.2 v168 hc70) rfl (Ax rfl rfl rfl rfl hb69) rfl rfl rfl rfl rfl rfl rfl rfl ⟨⟨rfl,(.inl ⟨rfl,rfl⟩),(.inl ⟨rfl,rfl⟩),Tvv⟩,(.inl ⟨rfl,rfl⟩),⟨rfl,rfl,Tvv⟩,Tvv⟩ ?_
     iterate 3 refine Bo tt rfl (Ax rfl rfl rfl rfl hb69) rfl rfl rfl rfl rfl Tvv ?_
     refine Lt ?_
     show VO _ _ _ _ _
     obtain ⟨v169,hc71,h⟩:=Ac h
     refine Fj (Ms N v162.1 v162.2.1 v162.2.2 v169 hc71) rfl rfl rfl rfl hb69 rfl rfl rfl rfl rfl rfl rfl ⟨⟨rfl,(.inl ⟨rfl,rfl⟩),(.inl ⟨rfl,rfl⟩),Tvv⟩,(.inl ⟨rfl,rfl⟩),⟨rfl,rfl,Tvv⟩,Tvv⟩ ?_
     refine Du (Ax rfl rfl rfl rfl hb69) (pEqB Try.underlying4 rfl rfl rfl) rfl rfl ?_
     refine Be rfl rfl rfl rfl rfl hb69 rfl ?_
     refine oV5 tt rfl Tvv ?_
     refine Ae ?_
     show VC ..
     refine Bb ?_
     show ∃ _,_
     cases h
     exact ⟨[],_,rfl,Tvv,rfl,(.eq rfl),rfl⟩
    replace h:=Aj hb69 h
    iterate 7 refine Aad rfl rfl rfl rfl hb69 rfl rfl ?_
    refine Lt ?_
    show VO _ _ _ _ _
    iterate 2 refine Jn rfl rfl rfl rfl hb69 rfl rfl ?_
    refine Av rfl rfl rfl rfl rfl hb69 rfl ?_
    refine oV5 tt rfl Tvv ?_
    refine Ae ?_
    show VC ..
    refine Bb ?_
    show ∃ _,_
    cases h
    exact ⟨[],_,rfl,Tvv,rfl,(.eq rfl),rfl⟩
   replace h:=Aj hb65 h
   iterate 7 refine Aad rfl rfl rfl rfl hb65 rfl rfl ?_
   refine Sr rfl (Ad rfl) rfl rfl rfl hb65 rfl rfl ?_
   refine Bo tt rfl (Ad rfl) rfl rfl rfl rfl rfl Tvv ?_
   iterate 7 refine Aad rfl rfl rfl rfl rfl rfl rfl ?_
   refine Lt ?_
   show VO _ _ _ _ _
   iterate 2 refine Jn rfl rfl rfl rfl rfl rfl rfl ?_
   refine Av rfl rfl rfl rfl rfl rfl rfl ?_
   refine oV5 tt rfl Tvv ?_
   refine Ae ?_
   show VC ..
   refine Bb ?_
   show ∃ _,_
   cases h
   exact ⟨[],_,rfl,Tvv,rfl,(.eq rfl),rfl⟩
  replace h:=Aj hb59 h
  iterate 3 refine Jn rfl rfl rfl rfl hb59 rfl rfl ?_
  refine Av rfl rfl rfl rfl rfl hb59 rfl ?_
  refine Ae ?_
  show VC ..
  refine Cz rfl rfl ?_
  refine Ar ?_
  show VC ..
  refine Ag ?_
  refine Aa ?_
  refine oV5 tt rfl Tvv ?_
  obtain ⟨v170,hc72,h⟩:=Ac h
  refine Ba (Kk N code_0 v170 hc72) rfl rfl rfl rfl rfl rfl rfl rfl ⟨rfl,Tvv⟩ ?_
  iterate 4 refine oV5 tt rfl Tvv ?_
  iterate 2 refine Bj tt rfl rfl rfl rfl rfl rfl rfl rfl rfl ?_
  refine Ao tt rfl rfl rfl rfl rfl rfl rfl rfl rfl rfl rfl ⟨Tvv,Tvv,Tvv,Tvv⟩ ?_
  refine oV5 tt rfl Tvv ?_
  refine Ao tt rfl rfl rfl rfl rfl rfl rfl rfl rfl rfl rfl ⟨Tvv,Tvv,Tvv⟩ ?_
  refine Ae ?_
  show VC ..
  refine Ag ?_
  refine Bl 24 [10,13] [0,0,3,0,0,31,63,127,255,255,1023,255,255,8191,16383,32767,65535,131071,131071,131071,1048575,131071,131071,131071,16777215,33554431,67108863,134217727] (by kernel_rfl) (by kernel_rfl) (by kernel_rfl) (by kernel_rfl) (by kernel_rfl) rfl (by rfl) ?_
  iterate 2 refine Bo tt rfl (Ad rfl) rfl rfl rfl rfl rfl Tvv ?_
  obtain ⟨v171,hc73,h⟩:=Ac h
  refine Lr (Gy N v159.1 v159.2 v171 hc73) rfl (Ad rfl) rfl rfl rfl rfl rfl rfl rfl rfl ⟨⟨rfl,(.inl ⟨rfl,rfl⟩),(.inl ⟨rfl,rfl⟩),Tvv⟩,rfl,Tvv⟩ ?_
  iterate 2 refine Bo tt rfl (Ad rfl) rfl rfl rfl rfl rfl Tvv ?_
  obtain ⟨v172,hc74,h⟩:=Ac h
  refine Lr (Mc N v159.1 v159.2 v172 hc74) rfl (Ad rfl) rfl rfl rfl rfl rfl rfl rfl rfl ⟨⟨rfl,(.inl ⟨rfl,rfl⟩),(.inl ⟨rfl,rfl⟩),Tvv⟩,rfl,Tvv⟩ ?_
  refine Sz (Ad rfl) (pEqB Try.underlying4 rfl rfl rfl) rfl rfl rfl rfl ?_
  refine Bo tt rfl (Ad rfl) rfl rfl rfl rfl rfl Tvv ?_
  refine Qz rfl rfl rfl (fun hb75=>?_) (fun hb75=>?_)
  ·replace h:=Ai hb75 h
   iterate 2 refine Bo tt rfl (Ax rfl rfl rfl rfl hb75) rfl rfl rfl rfl rfl Tvv ?_
   obtain ⟨v173,hc76,h⟩:=Ac h
   refine Jh (Hf N v159.1 v159.2 v173 hc76) rfl (Ax rfl rfl rfl rfl hb75) rfl rfl rfl rfl rfl rfl (by first | rfl | kernel_rfl | (simp [nrL,nm,Dy,nmT,Es]; done)) rfl (by first | rfl | kernel_rfl | (simp [Jj,nrL,nm,Dy,nmT,Es,hid,Ez,Cf,Bn]; done) | (simp [Jj,nrL,nm,Dy,nmT,Es,hid,Ez,Cf,Bn]; decide)) ⟨⟨rfl,(.inl ⟨rfl,rfl⟩),(.inl ⟨rfl,rfl⟩),Tvv⟩,rfl,Tvv⟩ ?_
   iterate 2 refine Bo tt rfl (Ax rfl rfl rfl rfl hb75) rfl rfl rfl rfl rfl Tvv ?_
   obtain ⟨v174,hc77,h⟩:=Ac h
   refine Jh (Hc N v159.1 v159.2 v174 hc77) rfl (Ax rfl rfl rfl rfl hb75) rfl rfl rfl rfl rfl rfl (by first | rfl | kernel_rfl | (simp [nrL,nm,Dy,nmT,Es]; done)) rfl (by first | rfl | kernel_rfl | (simp [Jj,nrL,nm,Dy,nmT,Es,hid,Ez,Cf,Bn]; done) | (simp [Jj,nrL,nm,Dy,nmT,Es,hid,Ez,Cf,Bn]; decide)) ⟨⟨rfl,(.inl ⟨rfl,rfl⟩),(.inl ⟨rfl,rfl⟩),Tvv⟩,rfl,Tvv⟩ ?_
   obtain ⟨v175,hc78,h⟩:=Ac h
   refine Lr (Pk N v173 v174 v175 hc78) rfl (Ax rfl rfl rfl rfl hb75) rfl rfl rfl rfl rfl rfl rfl rfl ⟨(.inl ⟨rfl,rfl⟩),(.inl ⟨rfl,rfl⟩),Tvv⟩ ?_
   refine Zs rfl (Ad rfl) rfl rfl rfl hb75 rfl rfl ?_
   refine Bo tt rfl (Ad rfl) rfl rfl rfl rfl rfl Tvv ?_
   refine Qz rfl rfl rfl (fun hb79=>?_) (fun hb79=>?_)
   ·replace h:=Ai hb79 h
    iterate 3 refine Bo tt rfl (Ax rfl rfl rfl rfl hb79) rfl rfl rfl rfl rfl Tvv ?_
    obtain ⟨v176,hc80,h⟩:=Ac h
    refine Lr (Js N v170.1 v170.2.1 v170.2.2 v176 hc80) rfl (Ax rfl rfl rfl rfl hb79) rfl rfl rfl rfl rfl rfl rfl rfl ⟨⟨rfl,(.inl ⟨rfl,rfl⟩),(.inl ⟨rfl,rfl⟩),Tvv⟩,(.inl ⟨rfl,rfl⟩),⟨rfl,rfl,Tvv⟩,Tvv⟩ ?_
    iterate 3 refine Bo tt rfl (Ax rfl rfl rfl rfl hb79) rfl rfl rfl rfl rfl Tvv ?_
    refine Lt ?_
    show VO _ _ _ _ _
    obtain ⟨v177,hc81,h⟩:=Ac h
    refine Fj (Ms N v170.1 v170.2.1 v170.2.2 v177 hc81) rfl rfl rfl rfl hb79 rfl rfl rfl rfl rfl rfl rfl ⟨⟨rfl,(.inl ⟨rfl,rfl⟩),(.inl ⟨rfl,rfl⟩),Tvv⟩,(.inl ⟨rfl,rfl⟩),⟨rfl,rfl,Tvv⟩,Tvv⟩ ?_
    refine Du (Ax rfl rfl rfl rfl hb79) (pEqB Try.underlying4 rfl rfl rfl) rfl rfl ?_
    refine Be rfl rfl rfl rfl rfl hb79 rfl ?_
    refine oV5 tt rfl Tvv ?_
    refine Ae ?_
    show VC ..
    refine Bb ?_
    show ∃ _,_
    cases h
    exact ⟨[],_,rfl,Tvv,rfl,(.eq rfl),rfl⟩
   replace h:=Aj hb79 h
   iterate 7 refine Aad rfl rfl rfl rfl hb79 rfl rfl ?_
   refine Lt ?_
   show VO _ _ _ _ _
   iterate 2 refine Jn rfl rfl rfl rfl hb79 rfl rfl ?_
   refine Av rfl rfl rfl rfl rfl hb79 rfl ?_
   refine oV5 tt rfl Tvv ?_
   refine Ae ?_
   show VC ..
   refine Bb ?_
   show ∃ _,_
   cases h
   exact ⟨[],_,rfl,Tvv,rfl,(.eq rfl),rfl⟩
  replace h:=Aj hb75 h
  iterate 7 refine Aad rfl rfl rfl rfl hb75 rfl rfl ?_
  refine Sr rfl (Ad rfl) rfl rfl rfl hb75 rfl rfl ?_
  refine Bo tt rfl (Ad rfl) rfl rfl rfl rfl rfl Tvv ?_
  iterate 7 refine Aad rfl rfl rfl rfl rfl rfl rfl ?_
  refine Lt ?_
  show VO _ _ _ _ _
  iterate 2 refine Jn rfl rfl rfl rfl rfl rfl rfl ?_
  refine Av rfl rfl rfl rfl rfl rfl rfl ?_
  refine oV5 tt rfl Tvv ?_
  refine Ae ?_
  show VC ..
  refine Bb ?_
  show ∃ _,_
  cases h
  exact ⟨[],_,rfl,Tvv,rfl,(.eq rfl),rfl⟩
 intro k h
 refine Aq ?_
 refine Bh (α:=Unit) (fun (_:Unit)=>(⟨[(0,.ro false (.bytes code_0)),(3,.ptr 3 0),(5,.bool v3.2),(6,.row 1300 0 v4.1.length),(8,.nil),(9,.nil),(10,.int (0:Int))],[(1300,some (39,.raises v4.1)),(1220,some (111,.pairs v2.g.bars)),(1221,some (3,.ints v2.ground))],[(3,some [.int v2.g.n,.row 1220 0 v2.g.bars.length,.row 1221 0 v2.ground.length])]⟩:PS)) (Hj N v4 k) h (En.of ⟨rfl,rfl,rfl,rfl,rfl,rfl,rfl,Tvv⟩ ⟨rfl,rfl,rfl,Tvv⟩ ⟨rfl,Tvv⟩) (fun _=>rfl) ?_
 rintro n ⟨⟩ h
 rw [Hj] at h
 show VC _ _ _ (⟨[(0,.ro false (.bytes code_0)),(3,.ptr 3 0),(5,.bool v3.2),(6,.row 1300 0 v4.1.length),(8,.nil),(9,.nil),(10,.int (0:Int))],[(1300,some (39,.raises v4.1)),(1220,some (111,.pairs v2.g.bars)),(1221,some (3,.ints v2.ground))],[(3,some [.int v2.g.n,.row 1220 0 v2.g.bars.length,.row 1221 0 v2.ground.length])]⟩:PS)
 iterate 2 refine Ag ?_
 refine Aa ?_
 iterate 5 refine oV5 tt rfl Tvv ?_
 refine Bc rfl rfl rfl (fun hb82=>?_) (fun hb82=>?_)
 ·replace h:=Ai hb82 h
  refine Bd tt rfl rfl rfl rfl rfl hb82 rfl rfl rfl Tvv ?_
  refine Be rfl rfl rfl rfl rfl hb82 rfl ?_
  refine Ae ?_
  show VC ..
  refine Cz rfl hb13 ?_
  refine Bq ?_
  show ∃ _,_
  exact ⟨(),(En.of ⟨rfl,Tvv⟩ trivial trivial),h⟩
 replace h:=Aj hb82 h
 refine Jn rfl rfl rfl rfl hb82 rfl rfl ?_
 refine Av rfl rfl rfl rfl rfl hb82 rfl ?_
 refine Ae ?_
 show VC ..
 refine Cz rfl rfl ?_
 refine Bq ?_
 show ∃ _,_
 exact ⟨(),(En.of ⟨rfl,Tvv⟩ trivial trivial),h⟩
end
section
open Go.ChangeShapes Go.WideShapes Go.ChangeAt Go.RowKit Go.Deep
section
variable {H:Type} {enc:TypeId×Value→H} {P:Program} {w:World} {spare:Nat→Bool} {held:Bool} {fuel:Nat} {cs:List Value} {x:DataW H×List MemPlace}
theorem open_bytesD {t e:TypeId} (ht:P.underlying t=some (.slice e)) (he:P.underlying e=some (.int .u8)) (hc:P.cellsOf e=1) (h:DataW.trod enc P w 0 spare held fuel t cs=some x) :
  ∃ v l,cs=[v]∧VR M0 R0 w (.ro false (.bytes l)) v∧∀ x∈l,0≤x∧x<256:=by
 obtain ⟨v,rfl,hcap⟩:=trod_cap ht h
 rcases open_slice1 ht hc h with ⟨h0,_⟩ | ⟨a,len,cap,m,n,V,D,Pl,h0,hb,hl,hm,hmm,rfl,hx⟩
 ·simp at h0; subst h0
  exact ⟨_,[],rfl,.ro false (.bytes []) _ 0 0 0 (fun _ _=>undef) (Nat.zero_le _) (Nat.le_refl _) (fun h=>absurd h (by simp [Sq.len])) (fun i j d hi=>absurd hi (by simp [Sq.len])) (fun i j d hi=>absurd hi (by simp [Sq.len])),by simp⟩
 simp at h0; subst h0
 have hlm:len≤m:=by rw [hmm]; split <;> omega
 have hcell:∀ i,i<len→∃ z:Int,w.cell? (a.add i)=some (.int .u8 z)∧0≤z∧z<256:=fun i hi=>by
  obtain ⟨h1,h2⟩:=hx i (by omega)
  obtain ⟨z,hz,_,hw⟩:=DataW.trod_int he h2
  simp at hz
  simp [Lit.wf,IntKind.min,IntKind.max,IntKind.signed,IntKind.bits] at hw
  exact ⟨z,by rw [h1,hz],by omega⟩
 obtain ⟨f,hf⟩:=choose_lt hcell
 have hlen:((List.range len).map f).length=len:=by simp
 refine ⟨_,(List.range len).map f,rfl,?_,fun x hx'=>?_⟩
 ·by_cases h0:0<len
  ·have c0:=(hf 0 h0).1
   have hs:=cell?_spot c0
   have ha:a=⟨a.block,a.off,none⟩:=by
    have:(a.add 0)=a:=by simp [Addr.add]
    rw [this] at hs; cases a; simp_all
   have hlt:a.block<w.heap.size:=by have:=cell?_lt c0; rwa [add_block] at this
   have hcl:∀ i,i<len→w.cell? ⟨a.block,a.off+i,none⟩=some (.int .u8 (f i)):=fun i hi=>by
    have:=(hf i hi).1
    rw [ha,Addr.add_lit] at this
    exact this
   have:=VR.ro (M:=M0) (A:=R0) (w:=w) false (.bytes ((List.range len).map f)) (some a) cap a.block a.off (fun i _=>.int .u8 (f i)) (by simp only [Sq.len,hlen]; omega) (by simp only [Sq.len,hlen]; exact hl) (fun _=>⟨by rw [←ha],hlt,Tvv⟩) (fun i j d hi hd=>by
     simp only [Sq.len,hlen] at hi
     rcases j with _ | j <;> simp [Sq.elem] at hd
     simp only [Sq.sz,Nat.mul_one,Nat.add_zero]
     exact hcl i hi) (fun i j d hi hd=>by
     simp only [Sq.len,hlen] at hi
     rcases j with _ | j <;> simp [Sq.elem,hi] at hd
     subst hd
     exact .val _ rfl)
   simpa only [Sq.len,hlen] using this
  have:=VR.ro (M:=M0) (A:=R0) (w:=w) false (.bytes ((List.range len).map f)) (some a) cap 0 0 (fun _ _=>undef) (by simp only [Sq.len,hlen]; omega) (by simp only [Sq.len,hlen]; exact hl) (fun h=>absurd h (by simp only [Sq.len,hlen]; exact h0)) (fun i j d hi=>absurd hi (by simp only [Sq.len,hlen]; omega)) (fun i j d hi=>absurd hi (by simp only [Sq.len,hlen]; omega))
  simpa only [Sq.len,hlen] using this
 obtain ⟨i,hi,rfl⟩:=List.mem_map.1 hx'
 exact (hf i (by simpa using hi)).2
end
end
end Go.Proofs.Ytcljhpldfanhkaa
