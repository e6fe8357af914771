/- Texts that the proof needs, put together: G129 G130 Et Eb Ec En Va. -/
import Derived.Test.YtaipbhnpandbkaaGreatBLs2
import Derived.Test.YtaipbhnpandbkaaGreatBLs3
import Derived.Test.YtaipbhnpandbkaaGreatBLs4
import Derived.Test.YtaipbhnpandbkaaGreatBLs5
import Derived.Test.YtaipbhnpandbkaaGreatBLs7
import Derived.Test.YtaipbhnpandbkaaGreatBLs8
import Derived.Test.YtaipbhnpandbkaaGreatBLs9
set_option maxRecDepth 20000
set_option maxHeartbeats 1600000
set_option linter.unusedVariables false
set_option linter.unusedSimpArgs false
namespace Go.Proofs.YtaipbhnpandbkaaGreat
section
open Go.RowKit
def Jy (N:Nat) (c_0:Cur) (k:((List (Int×Int))×Int×Int×Int)→Option (Grf×Int×Int)):Nat→((List (Int×Int))×Int×Int×Int×Int)→Option (Grf×Int×Int)
 | 0,_=>none
 | n+1,(l28,k29,c30,c31,c32)=>
  cnd (decide (k29 > (0:Int))) (
   (Bs N (⟨c_0.b,c30,c31⟩:Cur) c32).bind fun v36=>
   (Bs N (⟨c_0.b,v36.2.1,v36.2.2⟩:Cur) c32).bind fun v37=>
   (Sk N (⟨c32,l28⟩:Grf) v36.1 v37.1).bind fun v38=>
   grd (Bc (k29-(1:Int))) <|
   Jy N c_0 k n (v38.1.bars,(k29-(1:Int)),v37.2.1,v37.2.2,v38.1.n)) (
   k (l28,c30,c31,c32))
def Tm (N:Nat) (c_0:Cur):Option (Grf×Int×Int):=
 (Bs N c_0 (5:Int)).bind fun v1=>
 grd (Bc ((2:Int)+v1.1)) <|
 (Bs N (⟨c_0.b,v1.2.1,v1.2.2⟩:Cur) (4:Int)).bind fun v2=>
 grd (Bc ((5:Int)+v2.1)) <|
 (Lk N (⟨c_0.b,v2.2.1,v2.2.2⟩:Cur) ((2:Int)+v1.1) ((5:Int)+v2.1)).bind fun v3=>
 (Bs N (⟨c_0.b,v3.2.1,v3.2.2⟩:Cur) (3:Int)).bind fun v4=>
 (Bs N (⟨c_0.b,v4.2.1,v4.2.2⟩:Cur) (2:Int)).bind fun v5=>
 grd (Bc (v4.1*v5.1)) <|
 Jy N c_0 (fun (x:(List (Int×Int))×Int×Int×Int)=>
   match x with
   | (l20,c21,c22,c23)=>
    some ((⟨c23,l20⟩:Grf),c21,c22)) N (v3.1.bars,(v4.1*v5.1),v5.2.1,v5.2.2,v3.1.n)
theorem S_l2Graph_w (N:Nat) (c_0:Cur) (r:Grf×Int×Int) (h:Tm N c_0=some r):MCall Tryz.prog 184 [.ptr 1000000 0] [900101] [1000000] [(42,.pairs [])] [(42,.pairs r.1.bars)] [[.ro false (.bytes c_0.b),.int c_0.i,.int c_0.h]] [[.ro false (.bytes c_0.b),.int r.2.1,.int r.2.2]] (.agg [.int r.1.n,.row 900101 0 r.1.bars.length]):=by
 unfold Tm at h;refine Db (TT:=TT) tt Tryz.func184 O O Tryz.ntmps184 (congrArg Array.toList Tryz.results184) O O O O O fun w0 O0=>(Ag (Ab (Bi tt O O O O O O O O O (Af (Ag (Ab (Aa O (Aa O ?_))))))));obtain ⟨v1,hc1,h⟩:=Ae h;refine Co (Bn N c_0 (5:Int) v1 hc1) [] [1000000] [] O O O O O O Y ⟨O,Y⟩ ⟨⟨O,O⟩,⟨O,O⟩,Y⟩ ?_;obtain ⟨hg2,h⟩:=Ac h;refine Ad tt O hg2 (Aa O ?_);obtain ⟨v2,hc3,h⟩:=Ae h;refine Co (Bn N (⟨c_0.b,v1.2.1,v1.2.2⟩:Cur) (4:Int) v2 hc3) [] [1000000] [] O O O O O O Y ⟨O,Y⟩ ⟨⟨O,O⟩,⟨O,O⟩,Y⟩ ?_;obtain ⟨hg4,h⟩:=Ac h;refine Ad tt O hg4 (vEnO (En.zero 9502 42 (.pairs []) O O) ?_);obtain ⟨v3,hc5,h⟩:=Ae h;refine Co (Rg N (⟨c_0.b,v2.2.1,v2.2.2⟩:Cur) ((2:Int)+v1.1) ((5:Int)+v2.1) v3 hc5) [9502] [1000000] [1140] O O O O O O ⟨O,Y⟩ ⟨O,Y⟩ ⟨⟨O,O⟩,⟨O,O⟩,⟨O,O⟩,Y⟩ (Bi tt O O O O O O O O O (Ao tt O O O O O O O O O O O ⟨Y,Y,Y⟩ (Af (Ag (Ag (Ab (Aa O ?_)))))));obtain ⟨v4,hc6,h⟩:=Ae h;refine Co (Bn N (⟨c_0.b,v3.2.1,v3.2.2⟩:Cur) (3:Int) v4 hc6) [] [1000000] [] O O O O O O Y ⟨O,Y⟩ ⟨⟨O,O⟩,⟨O,O⟩,Y⟩ (Aa O ?_);obtain ⟨v5,hc7,h⟩:=Ae h;refine Co (Bn N (⟨c_0.b,v4.2.1,v4.2.2⟩:Cur) (2:Int) v5 hc7) [] [1000000] [] O O O O O O Y ⟨O,Y⟩ ⟨⟨O,O⟩,⟨O,O⟩,Y⟩ ?_;obtain ⟨hg8,h⟩:=Ac h;refine Ad tt rfl hg8 (Aa rfl (Af (Bz (F:=fun k=>Jy N c_0 k) h (α:=(List (Int×Int))×Int×Int×Int) (J:=fun | (l20,c21,c22,c23)=>(⟨[(2,.ptr 2 0),(3,.ptr 3 0)],[(1140,some (42,.pairs l20))],[(1000000,some [.ro false (.bytes c_0.b),.int c21,.int c22]),(2,some [.int (0:Int),.nil]),(3,some [.int c23,.row 1140 0 l20.length])]⟩:PS)) ?_ ?_)))
 ·rintro ⟨l20,c21,c22,c23⟩ h;show VC _ _ _ (⟨[(2,.ptr 2 0),(3,.ptr 3 0)],[(1140,some (42,.pairs l20))],[(1000000,some [.ro false (.bytes c_0.b),.int c21,.int c22]),(2,some [.int (0:Int),.nil]),(3,some [.int c23,.row 1140 0 l20.length])]⟩:PS);refine Ag (Ab (Aa O (Ao tt O O O O O O O O O O O ⟨Y,Y,Y⟩ (Af (Bg ?_)))));show ∃ _,_;cases h;exact ⟨[1140],O,⟨O,Y⟩,⟨O,Y⟩,O⟩
 intro k h;refine Ap (Bh (α:=(List (Int×Int))×Int×Int×Int×Int) (fun | (l28,k29,c30,c31,c32)=>(⟨[(0,.ptr 1000000 0),(2,.ptr 2 0),(3,.ptr 3 0),(4,.int k29)],[(1140,some (42,.pairs l28))],[(1000000,some [.ro false (.bytes c_0.b),.int c30,.int c31]),(2,some [.int (0:Int),.nil]),(3,some [.int c32,.row 1140 0 l28.length])]⟩:PS)) (Jy N c_0 k) h (En.of ⟨rfl,rfl,rfl,rfl,Y⟩ ⟨rfl,Y⟩ ⟨rfl,rfl,rfl,Y⟩) (fun _=>rfl) ?_);rintro n ⟨l28,k29,c30,c31,c32⟩ h;rw [Jy] at h;show VC _ _ _ (⟨[(0,.ptr 1000000 0),(2,.ptr 2 0),(3,.ptr 3 0),(4,.int k29)],[(1140,some (42,.pairs l28))],[(1000000,some [.ro false (.bytes c_0.b),.int c30,.int c31]),(2,some [.int (0:Int),.nil]),(3,some [.int c32,.row 1140 0 l28.length])]⟩:PS);refine Ag (Ag (Ab (Aa O (Aa O (Af (Ar O (fun hb9=>?_) (fun hb9=>?_)))))))
 ·replace h:=Ak hb9 h;refine Aq (Ag (Ap (Ag (Ab (Aa O (Aa O (Aa O ?_)))))));obtain ⟨v36,hc10,h⟩:=Ae h;refine Co (Bn N (⟨c_0.b,c30,c31⟩:Cur) c32 v36 hc10) [] [1000000] [] O O O O O O Y ⟨O,Y⟩ ⟨⟨O,O⟩,⟨O,O⟩,Y⟩ (Aa O (Af (Ag (Ab (Aa O (Aa O (Aa O ?_)))))));obtain ⟨v37,hc11,h⟩:=Ae h;refine Co (Bn N (⟨c_0.b,v36.2.1,v36.2.2⟩:Cur) c32 v37 hc11) [] [1000000] [] O O O O O O Y ⟨O,Y⟩ ⟨⟨O,O⟩,⟨O,O⟩,Y⟩ (Aa O (Af (Ab (Aa O (Aa O (Aa O ?_))))));obtain ⟨v38,hc12,h⟩:=Ae h;refine Ba (Zf N (⟨c32,l28⟩:Grf) v36.1 v37.1 v38 hc12) O O O O O O O O ⟨⟨O,(.inl ⟨O,O⟩),Y⟩,O,O,Y⟩ (Aa O (Aa O (Aa O (Ao tt O O O O O O O O O O O ⟨Y,Y,Y⟩ (Af (Ab (Aa O ?_)))))));obtain ⟨hg13,h⟩:=Ac h;refine Ad tt O hg13 (Aa O (Af ?_));show ∃ _,_;exact ⟨(v38.1.bars,(k29-(1:Int)),v37.2.1,v37.2.2,v38.1.n),(En.ren [1140] [1360] O ⟨.inr O,.inr O,.inr O,.inr O,Y⟩ ⟨.inr O,Y⟩ ⟨.inr ⟨_,_,O,O,⟨.inr O,.inr O,.inr O,Y⟩⟩,.inr ⟨_,_,O,O,⟨.inr O,.inr O,Y⟩⟩,.inr ⟨_,_,O,O,⟨.inr O,.inr O,Y⟩⟩,Y⟩),h⟩
 replace h:=Al hb9 h;refine Bp ?_;show ∃ _,_;exact ⟨(l28,c30,c31,c32),(En.of ⟨O,O,Y⟩ ⟨O,Y⟩ ⟨O,O,O,Y⟩),h⟩
def Aar (N:Nat) (c_0:Cur):Option (Grf×Int×Int):=
 (Tm N c_0).bind fun v1=>
 (Bs N (⟨c_0.b,v1.2.1,v1.2.2⟩:Cur) (16:Int)).bind fun v2=>
 cnd (v2.1==(0:Int)) (
  (Qt N (⟨c_0.b,v2.2.1,v2.2.2⟩:Cur) ([(0:Int),(-1:Int),(9:Int),(3:Int)]:List Int)).bind fun v3=>
  some ((⟨v3.1,v1.1.bars⟩:Grf),v3.2.2.1,v3.2.2.2)) (
  cnd (v2.1==(1:Int)) (
   (Bs N (⟨c_0.b,v2.2.1,v2.2.2⟩:Cur) (3:Int)).bind fun v4=>
   (Bs N (⟨c_0.b,v4.2.1,v4.2.2⟩:Cur) (9:Int)).bind fun v5=>
   grd (v1.1.bars.length+1≤4294967296) <|
   some ((⟨v1.1.n,(v1.1.bars++([(v4.1,v5.1)]:List (Int×Int)))⟩:Grf),v5.2.1,v5.2.2)) (
   some ((⟨v1.1.n,v1.1.bars⟩:Grf),v2.2.1,v2.2.2)))
theorem S_l2Any_w (N:Nat) (c_0:Cur) (r:Grf×Int×Int) (h:Aar N c_0=some r):MCall Tryz.prog 160 [.ptr 1000000 0] [900101] [1000000] [(42,.pairs [])] [(42,.pairs r.1.bars)] [[.ro false (.bytes c_0.b),.int c_0.i,.int c_0.h]] [[.ro false (.bytes c_0.b),.int r.2.1,.int r.2.2]] (.agg [.int r.1.n,.row 900101 0 r.1.bars.length]):=by
 unfold Aar at h;refine Db (TT:=TT) tt Tryz.func160 O O Tryz.ntmps160 (congrArg Array.toList Tryz.results160) O O O O O fun w0 O0=>(Ag (Ab (Bi tt O O O O O O O O O (Af (Ag (Ab (Aa O (vEnO (En.zero 9502 42 (.pairs []) O O) ?_))))))));obtain ⟨v1,hc1,h⟩:=Ae h;refine Co (S_l2Graph_w N c_0 v1 hc1) [9502] [1000000] [1050] O O O O O O ⟨O,Y⟩ ⟨O,Y⟩ ⟨⟨O,O⟩,Y⟩ (Bi tt O O O O O O O O O (Ao tt O O O O O O O O O O O ⟨Y,Y,Y⟩ (Af (Ag (Ag (Ab (Aa O ?_)))))));obtain ⟨v2,hc2,h⟩:=Ae h;refine Co (Bn N (⟨c_0.b,v1.2.1,v1.2.2⟩:Cur) (16:Int) v2 hc2) [] [1000000] [] O O O O O O Y ⟨O,Y⟩ ⟨⟨O,O⟩,⟨O,O⟩,Y⟩ (Af (Ap (Ag (Ab (Aa O (Aa O (Af (Ar O (fun hb3=>?_) (fun hb3=>?_)))))))))
 ·replace h:=Ak hb3 h;refine Ab (Aa O (Cr tt O O O O O O O O O O O ?_));obtain ⟨v3,hc4,h⟩:=Ae h;refine Co (S_l1PickInt_w N (⟨c_0.b,v2.2.1,v2.2.2⟩:Cur) ([(0:Int),(-1:Int),(9:Int),(3:Int)]:List Int) v3 hc4) [11] [1000000] [11] O O O O O O ⟨O,Y⟩ ⟨O,Y⟩ ⟨⟨O,O⟩,⟨O,O⟩,Y⟩ (Aa O (Ao tt O O O O O O O O O O O ⟨Y,Y⟩ (Af (Ag (Ab (Aa O (Ao tt O O O O O O O O O O O ⟨Y,Y,Y⟩ (Af (Bg ?_)))))))));show ∃ _,_;cases h;exact ⟨[1050],O,⟨O,Y⟩,⟨O,Y⟩,O⟩
 replace h:=Al hb3 h;refine Ag (Ab (Aa O (Aa O (Af (Ar O (fun hb5=>?_) (fun hb5=>?_))))))
 ·replace h:=Ak hb5 h;refine Dn 8 [3,5,7,1031000000,1051000000] [0,1,0,4,0,28,60,124,255,511,1023] (by kernel_rfl) (by kernel_rfl) (by kernel_rfl) (by kernel_rfl) (by kernel_rfl) O (by rfl) ?_;iterate 3 refine Fy tt O (Ai O) O O O O O Y ?_
  obtain ⟨v4,hc6,h⟩:=Ae h;refine nMCall (rids:=[]) (bids:=[]) (pids:=[]) (Ai rfl) (Bn N (⟨c_0.b,v2.2.1,v2.2.2⟩:Cur) (3:Int) v4 hc6) [] [1000000] [] rfl rfl rfl rfl rfl (by first | rfl | kernel_rfl) rfl rfl rfl rfl rfl (by first | rfl | kernel_rfl)  trivial ⟨rfl,Y⟩ ⟨⟨rfl,rfl⟩,⟨rfl,rfl⟩,Y⟩ (Fy tt rfl (Ai rfl) rfl rfl rfl rfl rfl Y ?_);obtain ⟨v5,hc7,h⟩:=Ae h;refine nMCall (rids:=[]) (bids:=[]) (pids:=[]) (Ai rfl) (Bn N (⟨c_0.b,v4.2.1,v4.2.2⟩:Cur) (9:Int) v5 hc7) [] [1000000] [] rfl rfl rfl rfl rfl (by first | rfl | kernel_rfl) rfl rfl rfl rfl rfl (by first | rfl | kernel_rfl)  trivial ⟨rfl,Y⟩ ⟨⟨rfl,rfl⟩,⟨rfl,rfl⟩,Y⟩ (nPure (Ai rfl) (Df Bx rfl rfl) rfl rfl rfl rfl (Adl tt (Ai rfl) rfl rfl rfl rfl rfl rfl rfl rfl rfl rfl rfl rfl (Tb ?_)));show VO _ _ _ _ _;obtain ⟨hg8,h⟩:=Ac h;refine Bt tt O O O O O O O O O O O O O O O O (Nat.le_of_eq (Nat.zero_add _)) hg8 (Aa O (Ao tt O O O O O O O O O O O ⟨Y,Y⟩ (Af (Ag (Ab (Aa O (Ao tt O O O O O O O O O O O ⟨Y,Y,Y⟩ (Af (Bg ?_)))))))));show ∃ _,_;cases h;exact ⟨[1050],O,⟨O,Y⟩,⟨O,Y⟩,O⟩
 replace h:=Al hb5 h;refine Aq (Ag (Ab (Aa O (Ao tt O O O O O O O O O O O ⟨Y,Y,Y⟩ (Af (Bg ?_))))));show ∃ _,_;cases h;exact ⟨[1050],O,⟨O,Y⟩,⟨O,Y⟩,O⟩
def Acf (N:Nat) (c_0:Cur):Option (Grf×Int×Int):=
 (Bs N c_0 (4:Int)).bind fun v1=>
 cnd (v1.1==(0:Int)) (
  (Aar N (⟨c_0.b,v1.2.1,v1.2.2⟩:Cur)).bind fun v2=>
  some ((⟨v2.1.n,v2.1.bars⟩:Grf),v2.2.1,v2.2.2)) (
  cnd (v1.1==(1:Int)) (
   (Bs N (⟨c_0.b,v1.2.1,v1.2.2⟩:Cur) (5:Int)).bind fun v3=>
   grd (Bc ((2:Int)+v3.1)) <|
   (Qf N (⟨c_0.b,v3.2.1,v3.2.2⟩:Cur) ((2:Int)+v3.1)).bind fun v4=>
   (Bs N (⟨c_0.b,v4.2.1,v4.2.2⟩:Cur) (v4.1.bars.length:Int)).bind fun v5=>
   (Fo N v4.1 v5.1).bind fun v6=>
   some ((⟨v6.1.n,v6.1.bars⟩:Grf),v5.2.1,v5.2.2)) (
   cnd (v1.1==(2:Int)) (
    (Bs N (⟨c_0.b,v1.2.1,v1.2.2⟩:Cur) (5:Int)).bind fun v7=>
    grd (Bc ((2:Int)+v7.1)) <|
    (Qf N (⟨c_0.b,v7.2.1,v7.2.2⟩:Cur) ((2:Int)+v7.1)).bind fun v8=>
    (Bs N (⟨c_0.b,v8.2.1,v8.2.2⟩:Cur) v8.1.n).bind fun v9=>
    (Bs N (⟨c_0.b,v9.2.1,v9.2.2⟩:Cur) v8.1.n).bind fun v10=>
    (Sk N v8.1 v9.1 v10.1).bind fun v11=>
    some ((⟨v11.1.n,v11.1.bars⟩:Grf),v10.2.1,v10.2.2)) (
    (Bs N (⟨c_0.b,v1.2.1,v1.2.2⟩:Cur) (6:Int)).bind fun v12=>
    grd (Bc ((1:Int)+v12.1)) <|
    (Qf N (⟨c_0.b,v12.2.1,v12.2.2⟩:Cur) ((1:Int)+v12.1)).bind fun v13=>
    some ((⟨v13.1.n,v13.1.bars⟩:Grf),v13.2.1,v13.2.2))))
theorem S_l6Any_w (N:Nat) (c_0:Cur) (r:Grf×Int×Int) (h:Acf N c_0=some r):MCall Tryz.prog 128 [.ptr 1000000 0] [900101] [1000000] [(42,.pairs [])] [(42,.pairs r.1.bars)] [[.ro false (.bytes c_0.b),.int c_0.i,.int c_0.h]] [[.ro false (.bytes c_0.b),.int r.2.1,.int r.2.2]] (.agg [.int r.1.n,.row 900101 0 r.1.bars.length]):=by
 unfold Acf at h;refine Db (TT:=TT) tt Tryz.func128 O O Tryz.ntmps128 (congrArg Array.toList Tryz.results128) O O O O O fun w0 O0=>(Ag (Ab (Bi tt O O O O O O O O O (Af (Ag (Ag (Ab (Aa O ?_))))))));obtain ⟨v1,hc1,h⟩:=Ae h;refine Co (Bn N c_0 (4:Int) v1 hc1) [] [1000000] [] O O O O O O Y ⟨O,Y⟩ ⟨⟨O,O⟩,⟨O,O⟩,Y⟩ (Af (Ap (Ag (Ab (Aa O (Aa O (Af (Ar O (fun hb2=>?_) (fun hb2=>?_)))))))))
 ·replace h:=Ak hb2 h;refine Ag (Ab (Aa O (vEnO (En.zero 9505 42 (.pairs []) O O) ?_)));obtain ⟨v2,hc3,h⟩:=Ae h;refine Co (S_l2Any_w N (⟨c_0.b,v1.2.1,v1.2.2⟩:Cur) v2 hc3) [9505] [1000000] [1160] O O O O O O ⟨O,Y⟩ ⟨O,Y⟩ ⟨⟨O,O⟩,Y⟩ (Ao tt O O O O O O O O O O O ⟨Y,Y,Y⟩ (Af (Bg ?_)));show ∃ _,_;cases h;exact ⟨[1160],O,⟨O,Y⟩,⟨O,Y⟩,O⟩
 replace h:=Al hb2 h;refine Ag (Ab (Aa O (Aa O (Af (Ar O (fun hb4=>?_) (fun hb4=>?_))))))
 ·replace h:=Ak hb4 h;refine Ag (Ab (Aa O (Aa O ?_)));obtain ⟨v3,hc5,h⟩:=Ae h;refine Co (Bn N (⟨c_0.b,v1.2.1,v1.2.2⟩:Cur) (5:Int) v3 hc5) [] [1000000] [] O O O O O O Y ⟨O,Y⟩ ⟨⟨O,O⟩,⟨O,O⟩,Y⟩ ?_;obtain ⟨hg6,h⟩:=Ac h;refine Ad tt O hg6 (vEnO (En.zero 9506 42 (.pairs []) O O) ?_);obtain ⟨v4,hc7,h⟩:=Ae h;refine Co (Xb N (⟨c_0.b,v3.2.1,v3.2.2⟩:Cur) ((2:Int)+v3.1) v4 hc7) [9506] [1000000] [1230] O O O O O O ⟨O,Y⟩ ⟨O,Y⟩ ⟨⟨O,O⟩,⟨O,O⟩,Y⟩ (Bi tt O O O O O O O O O (Ao tt O O O O O O O O O O O ⟨Y,Y,Y⟩ (Af (Ag (Dn 12 [5,6,10,1051000000,1110000004] [0,0,0,4,12,30,63,127,255,255,0,1535,4095] (by kernel_rfl) (by kernel_rfl) (by kernel_rfl) (by kernel_rfl) (by kernel_rfl) O (by rfl) ?_)))));iterate 5 refine Fy tt O (Ai O) O O O O O Y ?_
  obtain ⟨v5,hc8,h⟩:=Ae h;refine nMCall (rids:=[]) (bids:=[]) (pids:=[]) (Ai rfl) (Bn N (⟨c_0.b,v4.2.1,v4.2.2⟩:Cur) (v4.1.bars.length:Int) v5 hc8) [] [1000000] [] rfl rfl rfl rfl rfl (by first | rfl | kernel_rfl) rfl rfl rfl rfl rfl (by first | rfl | kernel_rfl)  trivial ⟨rfl,Y⟩ ⟨⟨rfl,rfl⟩,⟨rfl,rfl⟩,Y⟩ ?_;obtain ⟨v6,hc9,h⟩:=Ae h;refine Rd (St N v4.1 v5.1 v6 hc9) rfl (Ai rfl) rfl rfl rfl rfl rfl rfl (by first | rfl | kernel_rfl | (simp [nrL,nm,Hy,nmT,Jv]; done)) rfl (by first | rfl | kernel_rfl | (simp [Pr,nrL,nm,Hy,nmT,Jv,hid,Jp,Fb,Dh]; done) | (simp [Pr,nrL,nm,Hy,nmT,Jv,hid,Jp,Fb,Dh]; decide)) ⟨⟨rfl,(.inl ⟨rfl,rfl⟩),Y⟩,rfl,Y⟩ ?_;iterate 3 refine Fy tt O (Ai O) O O O O O Y ?_
  refine nAlloc tt (Ai O) O O O O O O O O O O (nStoreB tt (Ai O) O O O O O O O O O O O O (Tb ?_));show VO _ _ _ _ _;refine Aa O (Af (Ag (Ab (Aa O (Ao tt O O O O O O O O O O O ⟨Y,Y,Y⟩ (Af (Bg ?_)))))));show ∃ _,_;cases h;exact ⟨[1310],O,⟨O,Y⟩,⟨O,Y⟩,O⟩
 replace h:=Al hb4 h;refine Ag (Ab (Aa O (Aa O (Af (Ar O (fun hb10=>?_) (fun hb10=>?_))))))
 ·replace h:=Ak hb10 h;refine Ag (Ab (Aa O (Aa O ?_)));obtain ⟨v7,hc11,h⟩:=Ae h;refine Co (Bn N (⟨c_0.b,v1.2.1,v1.2.2⟩:Cur) (5:Int) v7 hc11) [] [1000000] [] O O O O O O Y ⟨O,Y⟩ ⟨⟨O,O⟩,⟨O,O⟩,Y⟩ ?_;obtain ⟨hg12,h⟩:=Ac h;refine Ad tt O hg12 (vEnO (En.zero 9507 42 (.pairs []) O O) ?_);obtain ⟨v8,hc13,h⟩:=Ae h;refine Co (Xb N (⟨c_0.b,v7.2.1,v7.2.2⟩:Cur) ((2:Int)+v7.1) v8 hc13) [9507] [1000000] [1410] O O O O O O ⟨O,Y⟩ ⟨O,Y⟩ ⟨⟨O,O⟩,⟨O,O⟩,Y⟩ (Bi tt O O O O O O O O O (Ao tt O O O O O O O O O O O ⟨Y,Y,Y⟩ (Af (Ag (Ab (Aa O (Aa O (Aa O ?_))))))));obtain ⟨v9,hc14,h⟩:=Ae h;refine Co (Bn N (⟨c_0.b,v8.2.1,v8.2.2⟩:Cur) v8.1.n v9 hc14) [] [1000000] [] O O O O O O Y ⟨O,Y⟩ ⟨⟨O,O⟩,⟨O,O⟩,Y⟩ (Aa O (Af (Ag (Ab (Aa O (Aa O (Aa O ?_)))))));obtain ⟨v10,hc15,h⟩:=Ae h;refine Co (Bn N (⟨c_0.b,v9.2.1,v9.2.2⟩:Cur) v8.1.n v10 hc15) [] [1000000] [] O O O O O O Y ⟨O,Y⟩ ⟨⟨O,O⟩,⟨O,O⟩,Y⟩ (Aa O (Af (Ag (Ab (Aa O (Aa O (Aa O ?_)))))));obtain ⟨v11,hc16,h⟩:=Ae h;refine Ba (Zf N v8.1 v9.1 v10.1 v11 hc16) O O O O O O O O ⟨⟨O,(.inl ⟨O,O⟩),Y⟩,O,O,Y⟩ (Aa O (Aa O (Aa O (Bi tt O O O O O O O O O (Ao tt O O O O O O O O O O O ⟨Y,Y,Y⟩ (Aa O (Af (Ag (Ab ?_)))))))));refine Aa O (Ao tt O O O O O O O O O O O ⟨Y,Y,Y⟩ (Af (Bg ?_)));show ∃ _,_;cases h;exact ⟨[1540],O,⟨O,Y⟩,⟨O,Y⟩,O⟩
 replace h:=Al hb10 h;refine Aq (Ag (Ab (Aa O (Aa O ?_))));obtain ⟨v12,hc17,h⟩:=Ae h;refine Co (Bn N (⟨c_0.b,v1.2.1,v1.2.2⟩:Cur) (6:Int) v12 hc17) [] [1000000] [] O O O O O O Y ⟨O,Y⟩ ⟨⟨O,O⟩,⟨O,O⟩,Y⟩ ?_;obtain ⟨hg18,h⟩:=Ac h;refine Ad tt O hg18 (vEnO (En.zero 9508 42 (.pairs []) O O) ?_);obtain ⟨v13,hc19,h⟩:=Ae h;refine Co (Xb N (⟨c_0.b,v12.2.1,v12.2.2⟩:Cur) ((1:Int)+v12.1) v13 hc19) [9508] [1000000] [1620] O O O O O O ⟨O,Y⟩ ⟨O,Y⟩ ⟨⟨O,O⟩,⟨O,O⟩,Y⟩ (Ao tt O O O O O O O O O O O ⟨Y,Y,Y⟩ (Af (Bg ?_)));show ∃ _,_;cases h;exact ⟨[1620],O,⟨O,Y⟩,⟨O,Y⟩,O⟩
def Kf (N:Nat) (c_0:Cur) (k:((List (Int×Int))×Int×Int×Int)→Option (Grf×Int×Int)):Nat→((List (Int×Int))×Int×Int×Int×Int)→Option (Grf×Int×Int)
 | 0,_=>none
 | n+1,(l29,n30,c31,c32,c33)=>
  cnd (decide (n30 > (0:Int))) (
   (Bs N (⟨c_0.b,c31,c32⟩:Cur) (6:Int)).bind fun v38=>
   (Bs N (⟨c_0.b,v38.2.1,v38.2.2⟩:Cur) (6:Int)).bind fun v39=>
   (Mo N (⟨c33,l29⟩:Grf) v38.1 v39.1).bind fun v40=>
   cnd (v40==(0:Int)) (
    (Sk N (⟨c33,l29⟩:Grf) v38.1 v39.1).bind fun v41=>
    grd (Bc (n30-(1:Int))) <|
    Kf N c_0 k n (v41.1.bars,(n30-(1:Int)),v39.2.1,v39.2.2,v41.1.n)) (
    grd (Bc (n30-(1:Int))) <|
    Kf N c_0 k n (l29,(n30-(1:Int)),v39.2.1,v39.2.2,c33))) (
   k (l29,c31,c32,c33))
def Xt (N:Nat) (c_0:Cur):Option (Grf×Int×Int):=
 (Acf N c_0).bind fun v1=>
 (Bs N (⟨c_0.b,v1.2.1,v1.2.2⟩:Cur) (4:Int)).bind fun v2=>
 Kf N c_0 (fun (x:(List (Int×Int))×Int×Int×Int)=>
   match x with
   | (l20,c21,c22,c23)=>
    some ((⟨c23,l20⟩:Grf),c21,c22)) N (v1.1.bars,v2.1,v2.2.1,v2.2.2,v1.1.n)
theorem S_l15Any_w (N:Nat) (c_0:Cur) (r:Grf×Int×Int) (h:Xt N c_0=some r):MCall Tryz.prog 96 [.ptr 1000000 0] [900101] [1000000] [(42,.pairs [])] [(42,.pairs r.1.bars)] [[.ro false (.bytes c_0.b),.int c_0.i,.int c_0.h]] [[.ro false (.bytes c_0.b),.int r.2.1,.int r.2.2]] (.agg [.int r.1.n,.row 900101 0 r.1.bars.length]):=by
 unfold Xt at h;refine Db (TT:=TT) tt Tryz.func96 O O Tryz.ntmps96 (congrArg Array.toList Tryz.results96) O O O O O fun w0 O0=>(Ag (Ab (Bi tt O O O O O O O O O (Af (Ag (Ab (Aa O (vEnO (En.zero 9502 42 (.pairs []) O O) ?_))))))));obtain ⟨v1,hc1,h⟩:=Ae h;refine Co (S_l6Any_w N c_0 v1 hc1) [9502] [1000000] [1080] O O O O O O ⟨O,Y⟩ ⟨O,Y⟩ ⟨⟨O,O⟩,Y⟩ (Bi tt O O O O O O O O O (Ao tt O O O O O O O O O O O ⟨Y,Y,Y⟩ (Af (Ag (Ag (Ab (Aa O ?_)))))));obtain ⟨v2,hc2,h⟩:=Ae h;refine Co (Bn N (⟨c_0.b,v1.2.1,v1.2.2⟩:Cur) (4:Int) v2 hc2) [] [1000000] [] rfl rfl rfl rfl rfl rfl Y ⟨rfl,Y⟩ ⟨⟨rfl,rfl⟩,⟨rfl,rfl⟩,Y⟩ (Aa rfl (Af (Bz (F:=fun k=>Kf N c_0 k) h (α:=(List (Int×Int))×Int×Int×Int) (J:=fun | (l20,c21,c22,c23)=>(⟨[(2,.ptr 2 0),(3,.ptr 3 0)],[(1080,some (42,.pairs l20))],[(1000000,some [.ro false (.bytes c_0.b),.int c21,.int c22]),(2,some [.int (0:Int),.nil]),(3,some [.int c23,.row 1080 0 l20.length])]⟩:PS)) ?_ ?_)))
 ·rintro ⟨l20,c21,c22,c23⟩ h;show VC _ _ _ (⟨[(2,.ptr 2 0),(3,.ptr 3 0)],[(1080,some (42,.pairs l20))],[(1000000,some [.ro false (.bytes c_0.b),.int c21,.int c22]),(2,some [.int (0:Int),.nil]),(3,some [.int c23,.row 1080 0 l20.length])]⟩:PS);refine Ag (Ab (Aa O (Ao tt O O O O O O O O O O O ⟨Y,Y,Y⟩ (Af (Bg ?_)))));show ∃ _,_;cases h;exact ⟨[1080],O,⟨O,Y⟩,⟨O,Y⟩,O⟩
 intro k h;refine Ap (Bh (α:=(List (Int×Int))×Int×Int×Int×Int) (fun | (l29,n30,c31,c32,c33)=>(⟨[(0,.ptr 1000000 0),(2,.ptr 2 0),(3,.ptr 3 0),(4,.int n30)],[(1080,some (42,.pairs l29))],[(1000000,some [.ro false (.bytes c_0.b),.int c31,.int c32]),(2,some [.int (0:Int),.nil]),(3,some [.int c33,.row 1080 0 l29.length])]⟩:PS)) (Kf N c_0 k) h (En.of ⟨rfl,rfl,rfl,rfl,Y⟩ ⟨rfl,Y⟩ ⟨rfl,rfl,rfl,Y⟩) (fun _=>rfl) ?_);rintro n ⟨l29,n30,c31,c32,c33⟩ h;rw [Kf] at h;show VC _ _ _ (⟨[(0,.ptr 1000000 0),(2,.ptr 2 0),(3,.ptr 3 0),(4,.int n30)],[(1080,some (42,.pairs l29))],[(1000000,some [.ro false (.bytes c_0.b),.int c31,.int c32]),(2,some [.int (0:Int),.nil]),(3,some [.int c33,.row 1080 0 l29.length])]⟩:PS);refine Ag (Ag (Ab (Aa O (Aa O (Af (Ar O (fun hb3=>?_) (fun hb3=>?_)))))))
 ·replace h:=Ak hb3 h;refine Aq (Ag (Ap (Ag (Ab (Aa O ?_)))));obtain ⟨v38,hc4,h⟩:=Ae h;refine Co (Bn N (⟨c_0.b,c31,c32⟩:Cur) (6:Int) v38 hc4) [] [1000000] [] O O O O O O Y ⟨O,Y⟩ ⟨⟨O,O⟩,⟨O,O⟩,Y⟩ (Aa O (Af (Ag (Ab (Aa O ?_)))));obtain ⟨v39,hc5,h⟩:=Ae h;refine Co (Bn N (⟨c_0.b,v38.2.1,v38.2.2⟩:Cur) (6:Int) v39 hc5) [] [1000000] [] O O O O O O Y ⟨O,Y⟩ ⟨⟨O,O⟩,⟨O,O⟩,Y⟩ (Aa O (Af (Ag (Ab (Aa O (Aa O (Aa O ?_)))))));obtain ⟨v40,hc6,h⟩:=Ae h;refine Ba (Tu N (⟨c33,l29⟩:Grf) v38.1 v39.1 v40 hc6) O O O O O O O O ⟨⟨O,(.inl ⟨O,O⟩),Y⟩,O,O,Y⟩ (Aa O (Af (Ar O (fun hb7=>?_) (fun hb7=>?_))))
  ·replace h:=Ak hb7 h;refine Ab (Aa O (Aa O (Aa O ?_)));obtain ⟨v41,hc8,h⟩:=Ae h;refine Ba (Zf N (⟨c33,l29⟩:Grf) v38.1 v39.1 v41 hc8) O O O O O O O O ⟨⟨O,(.inl ⟨O,O⟩),Y⟩,O,O,Y⟩ (Aa O (Aa O (Aa O (Ao tt O O O O O O O O O O O ⟨Y,Y,Y⟩ (Af (Ab (Aa O ?_)))))));obtain ⟨hg9,h⟩:=Ac h;refine Ad tt O hg9 (Aa O (Af ?_));show ∃ _,_;exact ⟨(v41.1.bars,(n30-(1:Int)),v39.2.1,v39.2.2,v41.1.n),(En.ren [1080] [1280] O ⟨.inr O,.inr O,.inr O,.inr O,Y⟩ ⟨.inr O,Y⟩ ⟨.inr ⟨_,_,O,O,⟨.inr O,.inr O,.inr O,Y⟩⟩,.inr ⟨_,_,O,O,⟨.inr O,.inr O,Y⟩⟩,.inr ⟨_,_,O,O,⟨.inr O,.inr O,Y⟩⟩,Y⟩),h⟩
  replace h:=Al hb7 h;refine Aq (Ab (Aa O ?_));obtain ⟨hg10,h⟩:=Ac h;refine Ad tt O hg10 (Aa O (Af ?_));show ∃ _,_;exact ⟨(l29,(n30-(1:Int)),v39.2.1,v39.2.2,c33),(En.of ⟨O,O,O,O,Y⟩ ⟨O,Y⟩ ⟨O,O,O,Y⟩),h⟩
 replace h:=Al hb3 h;refine Bp ?_;show ∃ _,_;exact ⟨(l29,c31,c32,c33),(En.of ⟨O,O,Y⟩ ⟨O,Y⟩ ⟨O,O,O,Y⟩),h⟩
def Gx (N:Nat) (v1:Cur) (c9:Int) (k:((List Int)×Int×Int)→Option (Grf×(List Int))):Nat→((List Int)×Int×Int×Int)→Option (Grf×(List Int))
 | 0,_=>none
 | n+1,(l25,i26,c27,c28)=>
  cnd (decide (i26<c9)) (
   cnd (decide (i26<(8:Int))) (
    cnd (decide ((l25.length:Int)<(3:Int))) (
     (Mt N (⟨v1.b,c27,c28⟩:Cur) (3:Int)).bind fun v30=>
     cnd (!v30.1) (
      grd (l25.length+1≤4294967296) <|
      grd (Bc (i26+(1:Int))) <|
      Gx N v1 c9 k n ((l25++([i26]:List Int)),(i26+(1:Int)),v30.2.1,v30.2.2)) (
      grd (Bc (i26+(1:Int))) <|
      Gx N v1 c9 k n (l25,(i26+(1:Int)),v30.2.1,v30.2.2))) (
     grd (Bc (i26+(1:Int))) <|
     Gx N v1 c9 k n (l25,(i26+(1:Int)),c27,c28))) (
    k (l25,c27,c28))) (
   k (l25,c27,c28))
def Tz (N:Nat) (code_0:List Int):Option (Grf×(List Int)):=
 (Xc N code_0).bind fun v1=>
 (Xt N v1).bind fun v2=>
 (Mt N (⟨v1.b,v2.2.1,v2.2.2⟩:Cur) (3:Int)).bind fun v3=>
 jn (fun (x : (List (Int × Int)) × Int × Int × Int) =>
     match x with
     | (l6,c7,c8,c9)=>
      Gx N v1 c9 (fun (x:(List Int)×Int×Int)=>
        match x with
        | (l18,c19,c20)=>
         (Mt N (⟨v1.b,c19,c20⟩:Cur) (14:Int)).bind fun v21=>
         cnd v21.1 (
          grd (l18.length+1≤4294967296) <|
          some ((⟨c9,l6⟩:Grf),(l18++([(0:Int)]:List Int)))) (
          some ((⟨c9,l6⟩:Grf),l18))) N (([]:List Int),(0:Int),c7,c8)) fun k31=>
  cnd v3.1 (
   (Bs N (⟨v1.b,v3.2.1,v3.2.2⟩:Cur) (4:Int)).bind fun v32=>
   grd (Bc ((2:Int)+v32.1)) <|
   (Lk N (⟨v1.b,v32.2.1,v32.2.2⟩:Cur) ((2:Int)+v32.1) (8:Int)).bind fun v33=>
   k31 (v33.1.bars,v33.2.1,v33.2.2,v33.1.n)) (
   k31 (v2.1.bars,v3.2.1,v3.2.2,v2.1.n))
theorem S_l23Draw_w (N:Nat) (code_0:List Int) (r:Grf×(List Int)) (h:Tz N code_0=some r):PCall Tryz.prog 43 [.ro false (.bytes code_0)] [(42,.pairs r.1.bars),(3,.ints r.2)] (.tup [.agg [.int r.1.n,.row 0 0 r.1.bars.length],.row 1 0 r.2.length]):=by
 unfold Tz at h;refine Aj (TT:=TT) tt Tryz.func43 O O Tryz.ntmps43 (congrArg Array.toList Tryz.results43) O O fun w0=>(Ag (Ab (Bi tt O O O O O O O O O (Aa O (Af (Ag (Ab (Aa O ?_))))))));obtain ⟨v1,hc1,h⟩:=Ae h;refine oCallB (Acd N code_0 v1 hc1) O O O O O ⟨O,O,Y⟩ (Aa O (Af (Ag (Ab (Aa O (vEnO (En.zero 9504 42 (.pairs []) O O) ?_))))));obtain ⟨v2,hc2,h⟩:=Ae h;refine Co (S_l15Any_w N v1 v2 hc2) [9504] [9] [1110] O O O O O O ⟨O,Y⟩ ⟨O,Y⟩ ⟨⟨O,O⟩,Y⟩ (Bi tt O O O O O O O O O (Ao tt O O O O O O O O O O O ⟨Y,Y,Y⟩ (Af (Ag (Ag (Ab (Aa O ?_)))))));obtain ⟨v3,hc3,h⟩:=Ae h;refine Co (Vw N (⟨v1.b,v2.2.1,v2.2.2⟩:Cur) (3:Int) v3 hc3) [] [9] [] rfl rfl rfl rfl rfl rfl Y ⟨rfl,Y⟩ ⟨⟨rfl,rfl⟩,⟨rfl,rfl⟩,Y⟩ (Af (vJoinN h (α:=(List (Int×Int))×Int×Int×Int) (J:=fun | (l6,c7,c8,c9)=>(⟨[(2,.ptr 2 0),(4,.ptr 9 0),(5,.ptr 5 0)],[(1180,some (42,.pairs l6))],[(2,some [.int (0:Int),.nil]),(9,some [.ro false (.bytes v1.b),.int c7,.int c8]),(5,some [.int c9,.row 1180 0 l6.length])]⟩:PS)) ?_ ?_))
 ·rintro ⟨l6,c7,c8,c9⟩ h;show VC _ _ _ (⟨[(2,.ptr 2 0),(4,.ptr 9 0),(5,.ptr 5 0)],[(1180,some (42,.pairs l6))],[(2,some [.int (0:Int),.nil]),(9,some [.ro false (.bytes v1.b),.int c7,.int c8]),(5,some [.int c9,.row 1180 0 l6.length])]⟩:PS);refine Ag (Ab (Gr tt (Ai O) O O O O (Aa O (Af (Ag (Ag (Ab (Aa O (Af ?_)))))))));refine Bz (F:=fun k=>Gx N v1 c9 k) h (α:=(List Int)×Int×Int) (J:=fun | (l18,c19,c20)=>(⟨[(2,.ptr 2 0),(4,.ptr 9 0),(5,.ptr 5 0),(6,.row 41 0 l18.length)],[(41,some (3,.ints l18)),(1180,some (42,.pairs l6))],[(2,some [.int (0:Int),.nil]),(9,some [.ro false (.bytes v1.b),.int c19,.int c20]),(5,some [.int c9,.row 1180 0 l6.length])]⟩:PS)) ?_ ?_
  ·rintro ⟨l18,c19,c20⟩ h;show VC _ _ _ (⟨[(2,.ptr 2 0),(4,.ptr 9 0),(5,.ptr 5 0),(6,.row 41 0 l18.length)],[(41,some (3,.ints l18)),(1180,some (42,.pairs l6))],[(2,some [.int (0:Int),.nil]),(9,some [.ro false (.bytes v1.b),.int c19,.int c20]),(5,some [.int c9,.row 1180 0 l6.length])]⟩:PS);refine Ag (Ag (Ab (Aa O ?_)));obtain ⟨v21,hc4,h⟩:=Ae h;refine Co (Vw N (⟨v1.b,c19,c20⟩:Cur) (14:Int) v21 hc4) [] [9] [] O O O O O O Y ⟨O,Y⟩ ⟨⟨O,O⟩,⟨O,O⟩,Y⟩ (Af (Ar O (fun hb5=>?_) (fun hb5=>?_)))
   ·replace h:=Ak hb5 h;refine Ab (Aa O (Cr tt O O O O O O O O O O O ?_));obtain ⟨hg6,h⟩:=Ac h;refine Bt tt O O O O O O O O O O O O O O O O (Nat.le_of_eq (Nat.zero_add _)) hg6 (Aa O (Af (Ag (Ab (Aa O (Aa O (Ao tt O O O O O O O O O O O ⟨Y,Y,Y⟩ (Aa O (Af ?_)))))))));refine Bg ?_;show ∃ _,_;cases h;exact ⟨[1180,41],_,O,⟨O,O,Y⟩,O,.eq O,O⟩
   replace h:=Al hb5 h;refine Aq (Ag (Ab (Aa O (Aa O (Ao tt O O O O O O O O O O O ⟨Y,Y,Y⟩ (Aa O (Af (Bg ?_))))))));show ∃ _,_;cases h;exact ⟨[1180,41],_,O,⟨O,O,Y⟩,O,.eq O,O⟩
  intro k h;refine Ap (Jq 6 41 3 (.ints []) rfl rfl rfl rfl (Bh (α:=(List Int)×Int×Int×Int) (fun | (l25,i26,c27,c28)=>(⟨[(2,.ptr 2 0),(4,.ptr 9 0),(5,.ptr 5 0),(6,.row 41 0 l25.length),(7,.int i26)],[(41,some (3,.ints l25)),(1180,some (42,.pairs l6))],[(2,some [.int (0:Int),.nil]),(9,some [.ro false (.bytes v1.b),.int c27,.int c28]),(5,some [.int c9,.row 1180 0 l6.length])]⟩:PS)) (Gx N v1 c9 k) h (En.of ⟨rfl,rfl,rfl,rfl,rfl,Y⟩ ⟨rfl,rfl,Y⟩ ⟨rfl,rfl,rfl,Y⟩) (fun _=>rfl) ?_));rintro n ⟨l25,i26,c27,c28⟩ h;rw [Gx] at h;show VC _ _ _ (⟨[(2,.ptr 2 0),(4,.ptr 9 0),(5,.ptr 5 0),(6,.row 41 0 l25.length),(7,.int i26)],[(41,some (3,.ints l25)),(1180,some (42,.pairs l6))],[(2,some [.int (0:Int),.nil]),(9,some [.ro false (.bytes v1.b),.int c27,.int c28]),(5,some [.int c9,.row 1180 0 l6.length])]⟩:PS);refine Ag (Ag (Ab ?_));iterate 5 refine Aa O ?_
  refine Be O O O (fun hb7=>?_) (fun hb7=>?_)
  ·replace h:=Ak hb7 h;iterate 2 refine Av tt O O O O O hb7 O O O Y ?_
   refine Bm O O O O O hb7 O (Af (Ar O (fun hb8=>?_) (fun hb8=>?_)))
   ·replace h:=Ak hb8 h;refine Aq (Ag (Ap (Ag (Ab ?_))));iterate 4 refine Aa O ?_
    refine Be O O O (fun hb9=>?_) (fun hb9=>?_)
    ·replace h:=Ak hb9 h;refine Av tt O O O O O hb9 O O O Y ?_;obtain ⟨v30,hc10,h⟩:=Ae h;refine oMCallG (Vw N (⟨v1.b,c27,c28⟩:Cur) (3:Int) v30 hc10) [] [9] [] O O O O hb9 O O O O O Y ⟨O,Y⟩ ⟨⟨O,O⟩,⟨O,O⟩,Y⟩ (Av tt O O O O O hb9 O O O Y (Bm O O O O O hb9 O (Af (Ar O (fun hb11=>?_) (fun hb11=>?_)))))
     ·replace h:=Ak hb11 h;refine Ab (Aa O (Aa O (Cr tt O O O O O O O O O O O ?_)));obtain ⟨hg12,h⟩:=Ac h;refine Bt tt O O O O O O O O O O O O O O O O (Nat.le_of_eq (Nat.zero_add _)) hg12 (Aa O (Af (Ab (Aa O ?_))));obtain ⟨hg13,h⟩:=Ac h;refine Ad tt O hg13 (Aa O (Af ?_));show ∃ _,_;exact ⟨((l25++([i26]:List Int)),(i26+(1:Int)),v30.2.1,v30.2.2),(En.of ⟨O,O,O,O,O,Y⟩ ⟨O,O,Y⟩ ⟨O,O,O,Y⟩),h⟩
     replace h:=Al hb11 h;refine Aq (Ab (Aa O ?_));obtain ⟨hg14,h⟩:=Ac h;refine Ad tt O hg14 (Aa O (Af ?_));show ∃ _,_;exact ⟨(l25,(i26+(1:Int)),v30.2.1,v30.2.2),(En.of ⟨O,O,O,O,O,Y⟩ ⟨O,O,Y⟩ ⟨O,O,O,Y⟩),h⟩
    replace h:=Al hb9 h;iterate 3 refine Kq O O O O hb9 O O ?_
    refine Aw O O O O O hb9 O (Af (Cp O O (Aq (Ab (Aa O ?_)))));obtain ⟨hg15,h⟩:=Ac h;refine Ad tt O hg15 (Aa O (Af ?_));show ∃ _,_;exact ⟨(l25,(i26+(1:Int)),c27,c28),(En.of ⟨O,O,O,O,O,Y⟩ ⟨O,O,Y⟩ ⟨O,O,O,Y⟩),h⟩
   replace h:=Al hb8 h;refine Bp ?_;show ∃ _,_;exact ⟨(l25,c27,c28),(En.of ⟨O,O,O,O,Y⟩ ⟨O,O,Y⟩ ⟨O,O,O,Y⟩),h⟩
  replace h:=Al hb7 h;iterate 2 refine Kq O O O O hb7 O O ?_
  refine Aw O O O O O hb7 O (Af (Cp O O (Bp ?_)));show ∃ _,_;exact ⟨(l25,c27,c28),(En.of ⟨O,O,O,O,Y⟩ ⟨O,O,Y⟩ ⟨O,O,O,Y⟩),h⟩
 intro k31 h;refine Ar O (fun hb16=>?_) (fun hb16=>?_)
 ·replace h:=Ak hb16 h;refine Ab (Aa O (Aa O ?_));obtain ⟨v32,hc17,h⟩:=Ae h;refine Co (Bn N (⟨v1.b,v3.2.1,v3.2.2⟩:Cur) (4:Int) v32 hc17) [] [9] [] O O O O O O Y ⟨O,Y⟩ ⟨⟨O,O⟩,⟨O,O⟩,Y⟩ ?_;obtain ⟨hg18,h⟩:=Ac h;refine Ad tt O hg18 (vEnO (En.zero 9506 42 (.pairs []) O O) ?_);obtain ⟨v33,hc19,h⟩:=Ae h;refine Co (Rg N (⟨v1.b,v32.2.1,v32.2.2⟩:Cur) ((2:Int)+v32.1) (8:Int) v33 hc19) [9506] [9] [1180] O O O O O O ⟨O,Y⟩ ⟨O,Y⟩ ⟨⟨O,O⟩,⟨O,O⟩,⟨O,O⟩,Y⟩ (Ao tt O O O O O O O O O O O ⟨Y,Y,Y⟩ (Af ?_));show ∃ _,_;exact ⟨(v33.1.bars,v33.2.1,v33.2.2,v33.1.n),(En.of ⟨O,O,O,Y⟩ ⟨O,Y⟩ ⟨O,O,O,Y⟩),h⟩
 replace h:=Al hb16 h;refine Aq ?_;show ∃ _,_;exact ⟨(v2.1.bars,v3.2.1,v3.2.2,v2.1.n),(En.ren [1180] [1110] O ⟨.inr O,.inr O,.inr O,Y⟩ ⟨.inr O,Y⟩ ⟨.inr ⟨_,_,O,O,⟨.inr O,.inr O,Y⟩⟩,.inr ⟨_,_,O,O,⟨.inr O,.inr O,.inr O,Y⟩⟩,.inr ⟨_,_,O,O,⟨.inr O,.inr O,Y⟩⟩,Y⟩),h⟩
def Gl (N:Nat) (code_0:List Int):Option (Grf×(List Int)):=
 (Tz N code_0).bind fun v1=>
 some ((⟨v1.1.n,v1.1.bars⟩:Grf),v1.2)
theorem Tp (N:Nat) (code_0:List Int) (r:Grf×(List Int)) (h:Gl N code_0=some r):PCall Tryz.prog 6 [.ro false (.bytes code_0)] [(42,.pairs r.1.bars),(3,.ints r.2)] (.tup [.agg [.int r.1.n,.row 0 0 r.1.bars.length],.row 1 0 r.2.length]):=by
 unfold Gl at h;refine Aj (TT:=TT) tt Tryz.func6 O O Tryz.ntmps6 (congrArg Array.toList Tryz.results6) O O fun w0=>(Ag (Ab (Bi tt O O O O O O O O O (Aa O (Af (Ag (Ab (Aa O ?_))))))));obtain ⟨v1,hc1,h⟩:=Ae h;refine Ba (S_l23Draw_w N code_0 v1 hc1) O O O O O O O O ⟨O,Y⟩ (Aa O (Aa O (Aa O (Bi tt O O O O O O O O O (Ao tt O O O O O O O O O O O ⟨Y,Y,Y⟩ (Aa O (Af (Ag (Ab ?_)))))))));refine Aa O (Aa O (Ao tt O O O O O O O O O O O ⟨Y,Y,Y⟩ (Aa O (Af (Bg ?_)))));show ∃ _,_;cases h;exact ⟨[1080,1081],_,O,⟨O,O,Y⟩,O,.eq O,O⟩
end
section
open Go.RowKit
def Hf (N:Nat) (code_0:List Int):Option (Grf):=
 (Xc N code_0).bind fun v1=>
 (Bs N v1 (4:Int)).bind fun v2=>
 grd (Bc ((2:Int)+v2.1)) <|
 (Lk N (⟨v1.b,v2.2.1,v2.2.2⟩:Cur) ((2:Int)+v2.1) (7:Int)).bind fun v3=>
 some (⟨v3.1.n,v3.1.bars⟩:Grf)
theorem Wd (N:Nat) (code_0:List Int) (r:Grf) (h:Hf N code_0=some r):PCall Tryz.prog 18 [.ro false (.bytes code_0)] [(42,.pairs r.bars)] (.agg [.int r.n,.row 0 0 r.bars.length]):=by
 unfold Hf at h;refine Aj (TT:=TT) tt Tryz.func18 O O Tryz.ntmps18 (congrArg Array.toList Tryz.results18) O O fun w0=>(Ag (Ab (Bi tt O O O O O O O O O (Af (Ag (Ab (Aa O ?_)))))));obtain ⟨v1,hc1,h⟩:=Ae h;refine oCallB (Acd N code_0 v1 hc1) O O O O O ⟨O,O,Y⟩ (Aa O (Af (Ag (Ab (Aa O (Aa O ?_))))));obtain ⟨v2,hc2,h⟩:=Ae h;refine Co (Bn N v1 (4:Int) v2 hc2) [] [5] [] O O O O O O Y ⟨O,Y⟩ ⟨⟨O,O⟩,⟨O,O⟩,Y⟩ ?_;obtain ⟨hg3,h⟩:=Ac h;refine Ad tt O hg3 (vEnO (En.zero 9502 42 (.pairs []) O O) ?_);obtain ⟨v3,hc4,h⟩:=Ae h;refine Co (Rg N (⟨v1.b,v2.2.1,v2.2.2⟩:Cur) ((2:Int)+v2.1) (7:Int) v3 hc4) [9502] [5] [1100] O O O O O O ⟨O,Y⟩ ⟨O,Y⟩ ⟨⟨O,O⟩,⟨O,O⟩,⟨O,O⟩,Y⟩ (Ao tt O O O O O O O O O O O ⟨Y,Y,Y⟩ (Af (Bg ?_)));show ∃ _,_;cases h;exact ⟨[1100],_,O,⟨O,Y⟩,O,.eq O,O⟩
def Hw (N:Nat) (code_0:List Int):Option (Grf×(List Int)):=
 (Xc N code_0).bind fun v1=>
 (Bs N v1 (2:Int)).bind fun v2=>
 grd (Bc ((4:Int)+v2.1)) <|
 (Lk N (⟨v1.b,v2.2.1,v2.2.2⟩:Cur) ((4:Int)+v2.1) (6:Int)).bind fun v3=>
 some ((⟨v3.1.n,v3.1.bars⟩:Grf),([(0:Int),(1:Int),(2:Int)]:List Int))
theorem Wp (N:Nat) (code_0:List Int) (r:Grf×(List Int)) (h:Hw N code_0=some r):PCall Tryz.prog 22 [.ro false (.bytes code_0)] [(42,.pairs r.1.bars),(3,.ints r.2)] (.tup [.agg [.int r.1.n,.row 0 0 r.1.bars.length],.row 1 0 r.2.length]):=by
 unfold Hw at h;refine Aj (TT:=TT) tt Tryz.func22 O O Tryz.ntmps22 (congrArg Array.toList Tryz.results22) O O fun w0=>(Ag (Ab (Bi tt O O O O O O O O O (Aa O (Af (Ag (Ab (Aa O ?_))))))));obtain ⟨v1,hc1,h⟩:=Ae h;refine oCallB (Acd N code_0 v1 hc1) O O O O O ⟨O,O,Y⟩ (Aa O (Af (Ag (Ab (Aa O (Aa O ?_))))));obtain ⟨v2,hc2,h⟩:=Ae h;refine Co (Bn N v1 (2:Int) v2 hc2) [] [7] [] O O O O O O Y ⟨O,Y⟩ ⟨⟨O,O⟩,⟨O,O⟩,Y⟩ ?_;obtain ⟨hg3,h⟩:=Ac h;refine Ad tt O hg3 (vEnO (En.zero 9502 42 (.pairs []) O O) ?_);obtain ⟨v3,hc4,h⟩:=Ae h;refine Co (Rg N (⟨v1.b,v2.2.1,v2.2.2⟩:Cur) ((4:Int)+v2.1) (6:Int) v3 hc4) [9502] [7] [1120] O O O O O O ⟨O,Y⟩ ⟨O,Y⟩ ⟨⟨O,O⟩,⟨O,O⟩,⟨O,O⟩,Y⟩ (Bi tt O O O O O O O O O (Ao tt O O O O O O O O O O O ⟨Y,Y,Y⟩ (Af (Ag (Ab (Aa O (Cr tt O O O O O O O O O O O (Ao tt O O O O O O O O O O O ⟨Y,Y,Y⟩ (Aa O ?_)))))))));refine Af (Bg ?_);show ∃ _,_;cases h;exact ⟨[1120,14],_,O,⟨O,O,Y⟩,O,.eq O,O⟩
def Fc (N:Nat) (v18:Grf) (v20:List (List Int)) (k100:Int) (k:Bool→Option (Bool)):Nat→(Bool×Int)→Option (Bool)
 | 0,_=>none
 | n+1,(in131,i132)=>
  cnd (decide (i132<(v20.length:Int))) (
   cnd in131 (
    grd (Bc (i132+(1:Int))) <|
    Fc N v18 v20 k100 k n (true,(i132+(1:Int)))) (
    grd (0≤i132∧i132<(v20.length:Int)) <|
    grd (0≤k100∧k100<(v18.bars.length:Int)) <|
    (L_has N (v20.getD ((i132).toNat) []) ((v18.bars.getD ((k100).toNat) (0,0)).1)).bind fun v135=>
    cnd v135 (
     (L_has N (v20.getD ((i132).toNat) []) ((v18.bars.getD ((k100).toNat) (0,0)).2)).bind fun v136=>
     grd (Bc (i132+(1:Int))) <|
     Fc N v18 v20 k100 k n (v136,(i132+(1:Int)))) (
     grd (Bc (i132+(1:Int))) <|
     Fc N v18 v20 k100 k n (false,(i132+(1:Int)))))) (
   k in131)
def Hn (N:Nat) (v18:Grf) (v20:List (List Int)) (k:Unit→Option (Bool)):Nat→Int→Option (Bool)
 | 0,_=>none
 | n+1,k100=>
  cnd (decide (k100<(v18.bars.length:Int))) (
   cnd (decide ((v20.length:Int) > (0:Int))) (
    Fc N v18 v20 k100 (fun (in127 : Bool) =>
       cnd (!in127) (
        some false) (
        grd (Bc (k100+(1:Int))) <|
        Hn N v18 v20 k n (k100+(1:Int)))) N (false,(0:Int))) (
    k ())) (
   k ())
def Hk (N:Nat) (v2:Grf×(List Int)) (v3:List Int) (v4:List Int) (k:Unit→Option (Bool)):Nat→Int→Option (Bool)
 | 0,_=>none
 | n+1,i139=>
  cnd (decide (i139<(v4.length:Int))) (
   cnd (decide ((v2.2.length:Int)≥(3:Int))) (
    grd (0≤i139∧i139<(v4.length:Int)) <|
    (L_has N v3 (v4.getD ((i139).toNat) 0)).bind fun v141=>
    cnd (!v141) (
     some false) (
     grd (Bc (i139+(1:Int))) <|
     Hk N v2 v3 v4 k n (i139+(1:Int)))) (
    k ())) (
   k ())
def Sn (N:Nat) (code_0:List Int):Option (Bool):=
 (L_big N code_0).bind fun v1=>
 cnd v1 (
  some true) (
  (Gl N code_0).bind fun v2=>
  (Ea N v2.1 v2.2).bind fun v3=>
  (Cw N v2.1 v2.2).bind fun v4=>
  (Ff N v2.1 v2.2).bind fun v5=>
  (Mh N v3 v5).bind fun v6=>
  cnd (!v6) (
   some false) (
   (Cy N v2.1 v2.2).bind fun v7=>
   (Mh N v4 v7).bind fun v8=>
   cnd (!v8) (
    some false) (
    (Hs N v2.1 v2.2).bind fun v9=>
    (Hr N v2.1 v2.2).bind fun v10=>
    cnd (v9 != v10) (
     some false) (
     Hk N v2 v3 v4 (fun (_ : Unit) =>
        (Fj N v2.1 v2.2).bind fun v15=>
        (De N v2.1 v2.2).bind fun v16=>
        cnd (v15.2 != v16.2) (
         some false) (
         (Lm N v15.1 v16.1).bind fun v17=>
         cnd (!v17) (
          some false) (
          (Hf N code_0).bind fun v18=>
          (Kt N v18).bind fun v19=>
          (Kw N v18).bind fun v20=>
          (Sb N v19 v20).bind fun v21=>
          cnd (!v21) (
           some false) (
           Hn N v18 v20 (fun (_ : Unit) =>
              (Hw N code_0).bind fun v77=>
              (Kl N v77.1 v77.2).bind fun v78=>
              (Lr N v77.1 v77.2).bind fun v79=>
              cnd (v78.2==v79.2) (
               cnd ((v78.1.1==v79.1.1)&&(v78.1.2==v79.1.2)) (
                cnd (!v78.2) (
                 some true) (
                 (Ea N v77.1 v77.2).bind fun v80=>
                 some (decide ((v80.length:Int)<v77.1.n)))) (
                some false)) (
               some false)) N (0:Int))))) N (0:Int)))))
theorem L_FnSensors_w (N:Nat) (code_0:List Int) (r:Bool) (h:Sn N code_0=some r):PCall Tryz.prog 3 [.ro false (.bytes code_0)] [] (.bool r):=by
 unfold Sn at h;refine Aj (TT:=TT) tt Tryz.func3 O O Tryz.ntmps3 (congrArg Array.toList Tryz.results3) O O fun w0=>(Ag (Ab (Aa O (Af (Ag (Ag (Ab (Aa O ?_))))))));obtain ⟨v1,hc1,h⟩:=Ae h;refine Ba (L_big_w N code_0 v1 hc1) O O O O O O O O ⟨O,Y⟩ (Af (Ar O (fun hb2=>?_) (fun hb2=>?_)))
 ·replace h:=Ak hb2 h;refine Ag (Ab (Aa O (Af (Bg ?_))));show ∃ _,_;cases h;exact ⟨[],_,O,Y,O,.eq O,O⟩
 replace h:=Al hb2 h;refine Aq (Ag (Ab (Aa O ?_)));obtain ⟨v2,hc3,h⟩:=Ae h;refine Ba (Tp N code_0 v2 hc3) O O O O O O O O ⟨O,Y⟩ (Aa O (Aa O (Aa O (Bi tt O O O O O O O O O (Ao tt O O O O O O O O O O O ⟨Y,Y,Y⟩ (Aa O (Af (Ag (Ab ?_)))))))));refine Aa O (Aa O ?_);obtain ⟨v3,hc4,h⟩:=Ae h;refine Ba (Kj N v2.1 v2.2 v3 hc4) O O O O O O O O ⟨⟨O,(.inl ⟨O,O⟩),Y⟩,(.inl ⟨O,O⟩),Y⟩ (Aa O (Af (Ag (Ab (Aa O (Aa O ?_))))));obtain ⟨v4,hc5,h⟩:=Ae h;refine Ba (Lw N v2.1 v2.2 v4 hc5) O O O O O O O O ⟨⟨O,(.inl ⟨O,O⟩),Y⟩,(.inl ⟨O,O⟩),Y⟩ (Aa O (Af (Ag (Ag (Dn 20 [3,10] [0,0,0,6,15,31,63,127,127,127,895,2047,4095,8191,16383,32767,32767,131071,32767,32767,1048575,2097151,4194303] (by kernel_rfl) (by kernel_rfl) (by kernel_rfl) (by kernel_rfl) (by kernel_rfl) O (by rfl) ?_)))));iterate 3 refine Fy tt O (Ai O) O O O O O Y ?_
 obtain ⟨v5,hc6,h⟩:=Ae h;refine Rd (Mi N v2.1 v2.2 v5 hc6) rfl (Ai rfl) rfl rfl rfl rfl rfl rfl (by first | rfl | kernel_rfl | (simp [nrL,nm,Hy,nmT,Jv]; done)) rfl (by first | rfl | kernel_rfl | (simp [Pr,nrL,nm,Hy,nmT,Jv,hid,Jp,Fb,Dh]; done) | (simp [Pr,nrL,nm,Hy,nmT,Jv,hid,Jp,Fb,Dh]; decide)) ⟨⟨rfl,(.inl ⟨rfl,rfl⟩),Y⟩,(.inl ⟨rfl,rfl⟩),Y⟩ ?_;obtain ⟨v6,hc7,h⟩:=Ae h;refine nCall (Tn N v3 v5 v6 hc7) O (Ai O) O O O O O O O O ⟨(.inl ⟨O,O⟩),(.inl ⟨O,O⟩),Y⟩ ?_;iterate 2 refine Fy tt O (Ai O) O O O O O Y ?_
 refine Yd O O O (fun hb8=>?_) (fun hb8=>?_)
 ·replace h:=Ak hb8 h;iterate 6 refine nNoF O O O O hb8 O O ?_
  refine nPickT O (Ai O) O O O hb8 O O (Fy tt O (Ai O) O O O O O Y ?_);iterate 5 refine nNoF O O O O O O O ?_
  refine Tb ?_;show VO _ _ _ _ _;iterate 2 refine Hg O O O O O O O ?_
  refine Bm O O O O O O O (Af (Ce O O (Ag (Ab (Aa O (Af (Bg ?_)))))));show ∃ _,_;cases h;exact ⟨[],_,O,Y,O,.eq O,O⟩
 replace h:=Al hb8 h;iterate 3 refine Fy tt O (Bl O O O O hb8) O O O O O Y ?_
 obtain ⟨v7,hc9,h⟩:=Ae h;refine Rd (Ma N v2.1 v2.2 v7 hc9) rfl (Bl rfl rfl rfl rfl hb8) rfl rfl rfl rfl rfl rfl (by first | rfl | kernel_rfl | (simp [nrL,nm,Hy,nmT,Jv]; done)) rfl (by first | rfl | kernel_rfl | (simp [Pr,nrL,nm,Hy,nmT,Jv,hid,Jp,Fb,Dh]; done) | (simp [Pr,nrL,nm,Hy,nmT,Jv,hid,Jp,Fb,Dh]; decide)) ⟨⟨rfl,(.inl ⟨rfl,rfl⟩),Y⟩,(.inl ⟨rfl,rfl⟩),Y⟩ ?_;obtain ⟨v8,hc10,h⟩:=Ae h;refine nCall (Tn N v4 v7 v8 hc10) O (Bl O O O O hb8) O O O O O O O O ⟨(.inl ⟨O,O⟩),(.inl ⟨O,O⟩),Y⟩ (Fy tt O (Bl O O O O hb8) O O O O O Y (nPickF O (Ai O) O O O hb8 O O (Fy tt O (Ai O) O O O O O Y (Yd O O O (fun hb11=>?_) (fun hb11=>?_)))))
 ·replace h:=Ak hb11 h;iterate 5 refine nNoF O O O O hb11 O O ?_
  refine Tb ?_;show VO _ _ _ _ _;iterate 2 refine Hg O O O O hb11 O O ?_
  refine Bm O O O O O hb11 O (Af (Ce O O (Ag (Ab (Aa O (Af (Bg ?_)))))));show ∃ _,_;cases h;exact ⟨[],_,O,Y,O,.eq O,O⟩
 replace h:=Al hb11 h;iterate 2 refine Fy tt O (Bl O O O O hb11) O O O O O Y ?_
 obtain ⟨v9,hc12,h⟩:=Ae h;refine nCall (Wu N v2.1 v2.2 v9 hc12) O (Bl O O O O hb11) O O O O O O O O ⟨⟨O,(.inl ⟨O,O⟩),Y⟩,(.inl ⟨O,O⟩),Y⟩ ?_;iterate 2 refine Fy tt O (Bl O O O O hb11) O O O O O Y ?_
 refine Tb ?_;show VO _ _ _ _ _;obtain ⟨v10,hc13,h⟩:=Ae h;refine Eh (Xe N v2.1 v2.2 v10 hc13) O O O O hb11 O O O O O O O ⟨⟨O,(.inl ⟨O,O⟩),Y⟩,(.inl ⟨O,O⟩),Y⟩ (Fz (Bl O O O O hb11) (pNeB Tryz.underlying4 O O O) O O (Aw O O O O O hb11 O (Af (Ar O (fun hb14=>?_) (fun hb14=>?_)))))
 ·replace h:=Ak hb14 h;refine Ag (Ab (Aa O (Af (Bg ?_))));show ∃ _,_;cases h;exact ⟨[],_,O,Y,O,.eq O,O⟩
 replace h:=Al hb14 h;refine Aq (Ag (Ag (Ab (Aa O (Af (Bz (F:=fun k=>Hk N v2 v3 v4 k) h (α:=Unit) (J:=fun (_:Unit)=>(⟨[(0,.ro false (.bytes code_0)),(3,.ptr 3 0),(4,.row 1281 0 v2.2.length)],[(1281,some (3,.ints v2.2)),(1280,some (42,.pairs v2.1.bars))],[(3,some [.int v2.1.n,.row 1280 0 v2.1.bars.length])]⟩:PS)) ?_ ?_))))))
 ·rintro ⟨⟩ h;show VC _ _ _ (⟨[(0,.ro false (.bytes code_0)),(3,.ptr 3 0),(4,.row 1281 0 v2.2.length)],[(1281,some (3,.ints v2.2)),(1280,some (42,.pairs v2.1.bars))],[(3,some [.int v2.1.n,.row 1280 0 v2.1.bars.length])]⟩:PS);refine Ag (Ab (Aa O (Aa O ?_)));obtain ⟨v15,hc15,h⟩:=Ae h;refine Ba (Rw N v2.1 v2.2 v15 hc15) O O O O O O O O ⟨⟨O,(.inl ⟨O,O⟩),Y⟩,(.inl ⟨O,O⟩),Y⟩ (Aa O (Aa O (Aa O (Bi tt O O O O O O O O O (Ao tt O O O O O O O O O O O ⟨Y,Y,Y⟩ (Aa O (Af (Ag (Ab ?_)))))))));refine Aa O (Aa O ?_);obtain ⟨v16,hc16,h⟩:=Ae h;refine Ba (Rv N v2.1 v2.2 v16 hc16) O O O O O O O O ⟨⟨O,(.inl ⟨O,O⟩),Y⟩,(.inl ⟨O,O⟩),Y⟩ (Aa O (Aa O (Aa O (Bi tt O O O O O O O O O (Ao tt O O O O O O O O O O O ⟨Y,Y,Y⟩ (Aa O (Af (Ag (Ag ?_)))))))));refine Ab (Aa O (Aa O (Fz (Ai O) (pNeB Tryz.underlying4 O O O) O O (Aa O (Be O O O (fun hb17=>?_) (fun hb17=>?_))))))
  ·replace h:=Ak hb17 h;iterate 4 refine Hg O O O O hb17 O O ?_
   refine Bm O O O O O hb17 O (Af (Ce O O (Ag (Ab (Aa O (Af (Bg ?_)))))));show ∃ _,_;cases h;exact ⟨[],_,O,Y,O,.eq O,O⟩
  replace h:=Al hb17 h;iterate 2 refine Av tt O O O O O hb17 O O O Y ?_
  obtain ⟨v17,hc18,h⟩:=Ae h;refine Eh (Aaz N v15.1 v16.1 v17 hc18) O O O O hb17 O O O O O O O ⟨⟨O,(.inl ⟨O,O⟩),Y⟩,⟨O,(.inl ⟨O,O⟩),Y⟩,Y⟩ (Av tt O O O O O hb17 O O O Y (Aw O O O O O hb17 O (Af (Ar O (fun hb19=>?_) (fun hb19=>?_)))))
  ·replace h:=Ak hb19 h;refine Ag (Ab (Aa O (Af (Bg ?_))));show ∃ _,_;cases h;exact ⟨[],_,O,Y,O,.eq O,O⟩
  replace h:=Al hb19 h;refine Aq (Ag (Ab (Aa O ?_)));obtain ⟨v18,hc20,h⟩:=Ae h;refine Ba (Wd N code_0 v18 hc20) O O O O O O O O ⟨O,Y⟩ (Bi tt O O O O O O O O O (Ao tt O O O O O O O O O O O ⟨Y,Y,Y⟩ (Af (Ag (Ab (Aa O ?_))))));obtain ⟨v19,hc21,h⟩:=Ae h;refine oCallD 10 (Zw N v18 v19 hc21) O O O O O O O O O O O (fun _ h=>by cases h) ⟨⟨O,(.inl ⟨O,O⟩),Y⟩,Y⟩ (Aa O (Af (Ag (Ab (Aa O ?_)))));obtain ⟨v20,hc22,h⟩:=Ae h;refine Ba (Zu N v18 v20 hc22) O O O O O O O O ⟨⟨O,(.inl ⟨O,O⟩),Y⟩,Y⟩ (Aa O (Af (Ag (Ag (Ab (Aa O (Aa O ?_)))))));obtain ⟨v21,hc23,h⟩:=Ae h;refine Ba (L_sameSets_w N v19 v20 v21 hc23) O O O O O O O O ⟨(.inr (.inr ⟨10,_,by decide,O,O,O,O⟩)),(.inl ⟨O,O⟩),Y⟩ (Aa O (Af (Ar O (fun hb24=>?_) (fun hb24=>?_))))
  ·replace h:=Ak hb24 h;refine Ag (Ab (Aa O (Af (Bg ?_))));show ∃ _,_;cases h;exact ⟨[],_,O,Y,O,.eq O,O⟩
  replace h:=Al hb24 h;refine Aq (Ag (Ag (Ab (Aa O (Af (Bz (F:=fun k=>Hn N v18 v20 k) h (α:=Unit) (J:=fun (_:Unit)=>(⟨[(0,.ro false (.bytes code_0))],[],[]⟩:PS)) ?_ ?_))))))
  ·rintro ⟨⟩ h;show VC _ _ _ (⟨[(0,.ro false (.bytes code_0))],[],[]⟩:PS);refine Ag (Ab (Aa O ?_));obtain ⟨v77,hc25,h⟩:=Ae h;refine Ba (Wp N code_0 v77 hc25) O O O O O O O O ⟨O,Y⟩ (Aa O (Aa O (Aa O (Bi tt O O O O O O O O O (Ao tt O O O O O O O O O O O ⟨Y,Y,Y⟩ (Aa O (Af (Ag (Ab ?_)))))))));refine Aa O (Aa O ?_);obtain ⟨v78,hc26,h⟩:=Ae h;refine Ba (Aav N v77.1 v77.2 v78 hc26) O O O O O O O O ⟨⟨O,(.inl ⟨O,O⟩),Y⟩,(.inl ⟨O,O⟩),Y⟩ (Aa O (Aa O (Aa O (Bi tt O O O O O O O O O (Ao tt O O O O O O O O O O O ⟨Y,Y,Y⟩ (Aa O (Af (Ag (Ab ?_)))))))));refine Aa O (Aa O ?_);obtain ⟨v79,hc27,h⟩:=Ae h;refine Ba (Aba N v77.1 v77.2 v79 hc27) O O O O O O O O ⟨⟨O,(.inl ⟨O,O⟩),Y⟩,(.inl ⟨O,O⟩),Y⟩ (Aa O (Aa O (Aa O (Bi tt O O O O O O O O O (Ao tt O O O O O O O O O O O ⟨Y,Y,Y⟩ (Aa O (Af (Ag (Dn 18 [14] [0,0,3,7,15,15,63,127,255,511,1023,2047,4095,4095,16383,32767,4095,69631,262143,524287,1048575,2097151] (by kernel_rfl) (by kernel_rfl) (by kernel_rfl) (by kernel_rfl) (by kernel_rfl) O (by rfl) ?_)))))))));iterate 2 refine Fy tt O (Ai O) O O O O O Y ?_
   refine nPure (Ai O) (pEqB Tryz.underlying4 O O O) O O O O (Fy tt O (Ai O) O O O O O Y (Yd O O O (fun hb28=>?_) (fun hb28=>?_)))
   ·replace h:=Ak hb28 h;iterate 2 refine Fy tt O (Bl O O O O hb28) O O O O O Y ?_
    refine nPure (Bl O O O O hb28) (pEqP Pa O O O) O O O O (nPickT O (Ai O) O O O hb28 O O (Fy tt O (Ai O) O O O O O Y (Yd O O O (fun hb29=>?_) (fun hb29=>?_))))
    ·replace h:=Ak hb29 h;iterate 3 refine Fy tt O (Bl O O O O hb29) O O O O O Y ?_
     refine Yd O O O (fun hb30=>?_) (fun hb30=>?_)
     ·replace h:=Ak hb30 h;iterate 6 refine nNoF O O O O hb30 O O ?_
      refine Tb ?_;show VO _ _ _ _ _;refine Hg O O O O hb30 O O (Rk O O O O hb29 O O O O hb30 O (Bm O O O O O hb29 O (Aa O (Af (Bg ?_)))));show ∃ _,_;cases h;exact ⟨[],_,O,Y,O,.eq O,O⟩
     replace h:=Al hb30 h;iterate 2 refine Fy tt O (Bl O O O O hb30) O O O O O Y ?_
     obtain ⟨v80,hc31,h⟩:=Ae h;refine Rd (Kj N v77.1 v77.2 v80 hc31) rfl (Bl rfl rfl rfl rfl hb30) rfl rfl rfl rfl rfl rfl (by first | rfl | kernel_rfl | (simp [nrL,nm,Hy,nmT,Jv]; done)) rfl (by first | rfl | kernel_rfl | (simp [Pr,nrL,nm,Hy,nmT,Jv,hid,Jp,Fb,Dh]; done) | (simp [Pr,nrL,nm,Hy,nmT,Jv,hid,Jp,Fb,Dh]; decide)) ⟨⟨rfl,(.inl ⟨rfl,rfl⟩),Y⟩,(.inl ⟨rfl,rfl⟩),Y⟩ ?_;iterate 3 refine Fy tt O (Bl O O O O hb30) O O O O O Y ?_
     refine Tb ?_;show VO _ _ _ _ _;refine Av tt O O O O O hb30 O O O Y (Rl O O O O hb29 O O O O hb30 O (Bm O O O O O hb29 O (Aa O (Af (Bg ?_)))));show ∃ _,_;cases h;exact ⟨[],_,O,Y,O,.eq O,O⟩
    replace h:=Al hb29 h;iterate 3 refine nNoT O O O O hb29 O O ?_
    iterate 6 refine nNoU O O O O O ?_
    refine Tb ?_;show VO _ _ _ _ _;refine oNoU O O O O O (Kq O O O O hb29 O O (Aw O O O O O hb29 O (Aa O (Af (Bg ?_)))));show ∃ _,_;cases h;exact ⟨[],_,O,Y,O,.eq O,O⟩
   replace h:=Al hb28 h;iterate 3 refine nNoT O O O O hb28 O O ?_
   refine nPickF O (Ai O) O O O hb28 O O (Fy tt O (Ai O) O O O O O Y ?_);iterate 3 refine nNoT O O O O O O O ?_
   iterate 6 refine nNoU O O O O O ?_
   refine Tb ?_;show VO _ _ _ _ _;refine oNoU O O O O O (Kq O O O O O O O (Aw O O O O O O O (Aa O (Af (Bg ?_)))));show ∃ _,_;cases h;exact ⟨[],_,O,Y,O,.eq O,O⟩
  intro k h;refine Ap (Bh (α:=Int) (fun (k100:Int)=>(⟨[(0,.ro false (.bytes code_0)),(12,.ptr 12 0),(14,.row 2040 0 v20.length),(15,.int k100)],[(2040,some (27,.intss v20)),(2000,some (42,.pairs v18.bars))],[(12,some [.int v18.n,.row 2000 0 v18.bars.length])]⟩:PS)) (Hn N v18 v20 k) h (En.of ⟨O,O,O,O,Y⟩ ⟨O,O,Y⟩ ⟨O,Y⟩) (fun _=>O) ?_);rintro n k100 h;rw [Hn] at h;show VC _ _ _ (⟨[(0,.ro false (.bytes code_0)),(12,.ptr 12 0),(14,.row 2040 0 v20.length),(15,.int k100)],[(2040,some (27,.intss v20)),(2000,some (42,.pairs v18.bars))],[(12,some [.int v18.n,.row 2000 0 v18.bars.length])]⟩:PS);refine Ag (Ag (Ab ?_));iterate 6 refine Aa O ?_
  refine Be O O O (fun hb32=>?_) (fun hb32=>?_)
  ·replace h:=Ak hb32 h;iterate 3 refine Av tt O O O O O hb32 O O O Y ?_
   refine Bm O O O O O hb32 O (Af (Ar O (fun hb33=>?_) (fun hb33=>?_)))
   ·replace h:=Ak hb33 h;refine Aq (Ag (Ap (Ag (Ab (Aa O (Af (Ag (Ag (Ab ?_)))))))));refine Aa O (Af (Bz (F:=fun k=>Fc N v18 v20 k100 k) h (α:=Bool) (J:=fun (in127:Bool)=>(⟨[(0,.ro false (.bytes code_0)),(12,.ptr 12 0),(14,.row 2040 0 v20.length),(15,.int k100),(16,.bool in127)],[(2040,some (27,.intss v20)),(2000,some (42,.pairs v18.bars))],[(12,some [.int v18.n,.row 2000 0 v18.bars.length])]⟩:PS)) ?_ ?_))
    ·rintro in127 h;show VC _ _ _ (⟨[(0,.ro false (.bytes code_0)),(12,.ptr 12 0),(14,.row 2040 0 v20.length),(15,.int k100),(16,.bool in127)],[(2040,some (27,.intss v20)),(2000,some (42,.pairs v18.bars))],[(12,some [.int v18.n,.row 2000 0 v18.bars.length])]⟩:PS);refine Ag (Ab (Aa O (Aa O (Af (Ar O (fun hb34=>?_) (fun hb34=>?_))))))
     ·replace h:=Ak hb34 h;refine Ag (Ab (Aa O (Af (Bg ?_))));show ∃ _,_;cases h;exact ⟨[],_,O,Y,O,.eq O,O⟩
     replace h:=Al hb34 h;refine Aq (Ab (Aa O ?_));obtain ⟨hg35,h⟩:=Ac h;refine Ad tt O hg35 (Aa O (Af ?_));show ∃ _,_;exact ⟨(k100+(1:Int)),(En.of ⟨O,O,O,O,Y⟩ ⟨O,O,Y⟩ ⟨O,Y⟩),h⟩
    intro k h;refine Ap (Bh (α:=Bool×Int) (fun | (in131,i132)=>(⟨[(0,.ro false (.bytes code_0)),(12,.ptr 12 0),(14,.row 2040 0 v20.length),(15,.int k100),(16,.bool in131),(17,.int i132)],[(2040,some (27,.intss v20)),(2000,some (42,.pairs v18.bars))],[(12,some [.int v18.n,.row 2000 0 v18.bars.length])]⟩:PS)) (Fc N v18 v20 k100 k) h (En.of ⟨rfl,rfl,rfl,rfl,rfl,rfl,Y⟩ ⟨rfl,rfl,Y⟩ ⟨rfl,Y⟩) (fun _=>rfl) ?_);rintro n ⟨in131,i132⟩ h;rw [Fc] at h;show VC _ _ _ (⟨[(0,.ro false (.bytes code_0)),(12,.ptr 12 0),(14,.row 2040 0 v20.length),(15,.int k100),(16,.bool in131),(17,.int i132)],[(2040,some (27,.intss v20)),(2000,some (42,.pairs v18.bars))],[(12,some [.int v18.n,.row 2000 0 v18.bars.length])]⟩:PS);refine Ag (Ag (Ab ?_));iterate 4 refine Aa O ?_
    refine Af (Ar O (fun hb36=>?_) (fun hb36=>?_))
    ·replace h:=Ak hb36 h;refine Aq (Ag (Ap (Cu (by kernel_rfl) (by kernel_rfl) ?_)));iterate 2 refine Bq tt O (Ai O) O O O Y ?_
     refine Ju O O O (fun hb37=>?_) (fun hb37=>?_)
     ·replace h:=Ak hb37 h;iterate 12 refine Sx O O O O hb37 O O ?_
      iterate 11 refine cNoU O O O O O ?_
      refine Sx O O O O hb37 O O (Fk O (Ai O) O O O hb37 O (Bq tt O (Ai O) O O O Y (Ms (Ab (Aa O ?_)))));obtain ⟨hg38,h⟩:=Ac h;refine Ad tt O hg38 (Aa O (Af ?_));show ∃ _,_;exact ⟨(true,(i132+(1:Int))),(En.of ⟨O,O,O,O,O,O,Y⟩ ⟨O,O,Y⟩ ⟨O,Y⟩),h⟩
     replace h:=Al hb37 h;iterate 2 refine Bq tt O (Bl O O O O hb37) O O O Y ?_
     obtain ⟨hg39,h⟩:=Ac h;iterate 2 refine Bq tt O (Bl O O O O hb37) O O O hg39 ?_
     iterate 3 refine Bq tt O (Bl O O O O hb37) O O O Y ?_
     obtain ⟨hg40,h⟩:=Ac h;iterate 3 refine Bq tt O (Bl O O O O hb37) O O O hg40 ?_
     obtain ⟨v135,hc41,h⟩:=Ae h;refine Xh (L_has_w N (v20.getD ((i132).toNat) []) ((v18.bars.getD ((k100).toNat) (0,0)).1) v135 hc41) O (Bl O O O O hb37) O O O O O O ⟨O,O,Y⟩ (Bq tt O (Bl O O O O hb37) O O O Y (Ju O O O (fun hb42=>?_) (fun hb42=>?_)))
     ·replace h:=Ak hb42 h;iterate 2 refine Bq tt O (Bl O O O O hb42) O O O Y ?_
      iterate 2 refine Bq tt O (Bl O O O O hb42) O O O hg39 ?_
      iterate 3 refine Bq tt O (Bl O O O O hb42) O O O Y ?_
      iterate 3 refine Bq tt O (Bl O O O O hb42) O O O hg40 ?_
      obtain ⟨v136,hc43,h⟩:=Ae h;refine Xh (L_has_w N (v20.getD ((i132).toNat) []) ((v18.bars.getD ((k100).toNat) (0,0)).2) v136 hc43) O (Bl O O O O hb42) O O O O O O ⟨O,O,Y⟩ (Fk O (Bl O O O O hb37) O O O hb42 O (Ge O (Ai O) O O O hb37 O (Bq tt O (Ai O) O O O Y (Ms (Ab (Aa O ?_))))));obtain ⟨hg44,h⟩:=Ac h;refine Ad tt O hg44 (Aa O (Af ?_));show ∃ _,_;exact ⟨(v136,(i132+(1:Int))),(En.of ⟨O,O,O,O,O,O,Y⟩ ⟨O,O,Y⟩ ⟨O,Y⟩),h⟩
     replace h:=Al hb42 h;iterate 11 refine cNoT O O O O hb42 O O ?_
     refine Ge O (Bl O O O O hb37) O O O hb42 O (Ge O (Ai O) O O O hb37 O (Bq tt O (Ai O) O O O Y (Ms (Ab (Aa O ?_)))));obtain ⟨hg45,h⟩:=Ac h;refine Ad tt O hg45 (Aa O (Af ?_));show ∃ _,_;exact ⟨(false,(i132+(1:Int))),(En.of ⟨O,O,O,O,O,O,Y⟩ ⟨O,O,Y⟩ ⟨O,Y⟩),h⟩
    replace h:=Al hb36 h;refine Bp ?_;show ∃ _,_;exact ⟨in131,(En.of ⟨O,O,O,O,O,Y⟩ ⟨O,O,Y⟩ ⟨O,Y⟩),h⟩
   replace h:=Al hb33 h;refine Bp ?_;show ∃ _,_;exact ⟨(),(En.of ⟨O,Y⟩ trivial trivial),h⟩
  replace h:=Al hb32 h;iterate 3 refine Kq O O O O hb32 O O ?_
  refine Aw O O O O O hb32 O (Af (Cp O O (Bp ?_)));show ∃ _,_;exact ⟨(),(En.of ⟨O,Y⟩ trivial trivial),h⟩
 intro k h;refine Ap (Bh (α:=Int) (fun (i139:Int)=>(⟨[(0,.ro false (.bytes code_0)),(3,.ptr 3 0),(4,.row 1281 0 v2.2.length),(5,.row 1330 0 v3.length),(6,.row 1360 0 v4.length),(7,.int i139)],[(1281,some (3,.ints v2.2)),(1330,some (3,.ints v3)),(1360,some (3,.ints v4)),(1280,some (42,.pairs v2.1.bars))],[(3,some [.int v2.1.n,.row 1280 0 v2.1.bars.length])]⟩:PS)) (Hk N v2 v3 v4 k) h (En.of ⟨O,O,O,O,O,O,Y⟩ ⟨O,O,O,O,Y⟩ ⟨O,Y⟩) (fun _=>O) ?_);rintro n i139 h;rw [Hk] at h;show VC _ _ _ (⟨[(0,.ro false (.bytes code_0)),(3,.ptr 3 0),(4,.row 1281 0 v2.2.length),(5,.row 1330 0 v3.length),(6,.row 1360 0 v4.length),(7,.int i139)],[(1281,some (3,.ints v2.2)),(1330,some (3,.ints v3)),(1360,some (3,.ints v4)),(1280,some (42,.pairs v2.1.bars))],[(3,some [.int v2.1.n,.row 1280 0 v2.1.bars.length])]⟩:PS);refine Ag (Ag (Ab ?_));iterate 5 refine Aa O ?_
 refine Be O O O (fun hb46=>?_) (fun hb46=>?_)
 ·replace h:=Ak hb46 h;iterate 3 refine Av tt O O O O O hb46 O O O Y ?_
  refine Bm O O O O O hb46 O (Af (Ar O (fun hb47=>?_) (fun hb47=>?_)))
  ·replace h:=Ak hb47 h;refine Aq (Ag (Ap (Ag (Ab (Aa O (Aa O (Aa O ?_)))))));obtain ⟨hg48,h⟩:=Ac h;refine Ad tt O hg48 (Ad tt O hg48 ?_);obtain ⟨v141,hc49,h⟩:=Ae h;refine Ba (L_has_w N v3 (v4.getD ((i139).toNat) 0) v141 hc49) O O O O O O O O ⟨(.inl ⟨O,O⟩),O,Y⟩ (Aa O (Af (Ar O (fun hb50=>?_) (fun hb50=>?_))))
   ·replace h:=Ak hb50 h;refine Ag (Ab (Aa O (Af (Bg ?_))));show ∃ _,_;cases h;exact ⟨[],_,O,Y,O,.eq O,O⟩
   replace h:=Al hb50 h;refine Aq (Ab (Aa O ?_));obtain ⟨hg51,h⟩:=Ac h;refine Ad tt O hg51 (Aa O (Af ?_));show ∃ _,_;exact ⟨(i139+(1:Int)),(En.of ⟨O,O,O,O,O,O,Y⟩ ⟨O,O,O,O,Y⟩ ⟨O,Y⟩),h⟩
  replace h:=Al hb47 h;refine Bp ?_;show ∃ _,_;exact ⟨(),(En.of ⟨O,O,O,Y⟩ ⟨O,O,Y⟩ ⟨O,Y⟩),h⟩
 replace h:=Al hb46 h;iterate 3 refine Kq O O O O hb46 O O ?_
 refine Aw O O O O O hb46 O (Af (Cp O O (Bp ?_)));show ∃ _,_;exact ⟨(),(En.of ⟨O,O,O,Y⟩ ⟨O,O,Y⟩ ⟨O,Y⟩),h⟩
end
section
open Go.RowKit
variable {N:Nat}
theorem GD.mono {m m':Int} {k k':Nat} {g:Grf} (h:GD m k g) (hm:m≤m') (hk:k≤k'):GD m' k' g:=⟨by have:=h.len; omega,fun e he=>by have:=h.rg e he; omega⟩
theorem GD.at {m:Int} {k:Nat} {g:Grf} (n:Int) (h:GD m k g):GD m k ⟨n,g.bars⟩:=⟨h.len,h.rg⟩
structure SD (k:Nat) (g:Grf):Prop where
 gd:GD 64 k g
 n1:g.n≤6∨g.n=9
theorem graph_d (hN:4000000≤N) {c:Cur} (hc:CK c):Ok (Tm N c) fun r=>GD 64 30 r.1∧r.1.n≤6∧0≤r.2.1:=by
 unfold Tm;refine Bk (Eb hc 5) fun v1 h1=>?_;have a0:=h1.nn;have a1:=h1.lt (by omega);refine Bu ⟨by omega,by omega⟩ (Bk (Eb (hc.at h1.cur) 4) fun v2 h2=>?_);have b0:=h2.nn;have b1:=h2.lt (by omega);refine Bu ⟨by omega,by omega⟩ (Bk (Aan hN (hc.at h2.cur) ⟨by omega,by omega⟩) fun v3 h3=>?_);obtain ⟨g1,g2,g3⟩:=h3;refine Bk (Eb (hc.at g3) 3) fun v4 h4=>Bk (Eb (hc.at h4.cur) 2) fun v5 h5=>?_;have c0:=h4.nn;have c1:=h4.lt (by omega);have d0:=h5.nn;have d1:=h5.lt (by omega)
 have hm:0≤v4.1*v5.1∧v4.1*v5.1≤2:=by
  have:v5.1=0∨v5.1=1:=by omega
  rcases this with e | e <;> rw [e] <;> omega
 generalize v4.1*v5.1=m at hm;refine Bu ⟨by omega,by omega⟩ ?_
 have key:∀ (fuel:Nat) (l:List (Int×Int)) (k i h n:Int),0≤k→k<(fuel:Int)→k≤2→GD 64 (30-k.toNat) ⟨n,l⟩→n≤6→0≤i→Ok (Jy N c (fun (x:(List (Int×Int))×Int×Int×Int)=>
   match x with
   | (l20,c21,c22,c23)=>
    some ((⟨c23,l20⟩:Grf),c21,c22)) fuel (l,k,i,h,n)) fun r=>GD 64 30 r.1∧r.1.n≤6∧0≤r.2.1:=by
  intro fuel
  induction fuel with
  | zero=>intro l k i h n q1 q2; omega
  | succ fuel ih=>
   intro l k i h n q1 q2 q3 q4 q5 q6;rw [Jy];refine Dk (fun e1=>?_) (fun _=>Dr ⟨q4.mono (by omega) (by omega),q5,q6⟩);rw [decide_eq_true_eq] at e1;refine Bk (Eb (hc.at q6) n) fun x hx=>Bk (Eb (hc.at hx.cur) n) fun y hy=>Bk (add_d hN q4 (by omega) (by simp only; omega) x.1 y.1) fun z hz=>Bu ⟨by omega,by omega⟩ ?_;have zn:z.1.n=n:=hz.2;exact ih _ _ _ _ _ (by omega) (by omega) (by omega) ((hz.1.mono (by omega) (by omega)).at z.1.n) (by omega) hy.cur
 exact key N _ _ _ _ _ hm.1 (by omega) hm.2 ((g1.mono (by omega) (by omega)).at v3.1.n) (by omega) h5.cur
theorem any2_d (hN:4000000≤N) {c:Cur} (hc:CK c):Ok (Aar N c) fun r=>SD 31 r.1∧0≤r.2.1:=by
 unfold Aar;refine Bk (graph_d hN hc) fun v1 h1=>?_;obtain ⟨g1,g2,g3⟩:=h1;refine Bk (Eb (hc.at g3) 16) fun v2 h2=>Dk (fun _=>?_) (fun _=>Dk (fun _=>?_) (fun _=>Dr ⟨⟨(g1.mono (by omega) (by omega)).at _,.inl g2⟩,h2.cur⟩))
 ·refine Bk (pickInt_d (hc.at h2.cur) (by simp)) fun v3 h3=>Dr ⟨⟨(g1.mono (by omega) (by omega)).at _,?_⟩,h3.2⟩;have:=h3.1;simp at this;show v3.1≤6∨v3.1=9;omega
 refine Bk (Eb (hc.at h2.cur) 3) fun v4 h4=>Bk (Eb (hc.at h4.cur) 9) fun v5 h5=>?_;have a0:=h4.nn;have a1:=h4.lt (by omega);have b0:=h5.nn;have b1:=h5.lt (by omega);have hl:=g1.len;refine Bu (by omega) (Dr ⟨⟨⟨by simp only [List.length_append,List.length_singleton]; omega,fun e he=>?_⟩,.inl g2⟩,h5.cur⟩);rcases List.mem_append.1 he with he | he
 ·exact g1.rg e he
 simp at he; subst he; simp only; omega
theorem any6_d (hN:4000000≤N) {c:Cur} (hc:CK c):Ok (Acf N c) fun r=>SD 50 r.1∧0≤r.2.1:=by
 unfold Acf;refine Bk (Eb hc 4) fun v1 h1=>Dk (fun _=>?_) (fun _=>Dk (fun _=>?_) (fun _=>Dk (fun _=>?_) (fun _=>?_)))
 ·exact Bk (any2_d hN (hc.at h1.cur)) fun v2 h2=>Dr ⟨⟨(h2.1.gd.mono (by omega) (by omega)).at _,h2.1.n1⟩,h2.2⟩
 ·refine Bk (Eb (hc.at h1.cur) 5) fun v3 h3=>?_;have a0:=h3.nn;have a1:=h3.lt (by omega);refine Bu ⟨by omega,by omega⟩ (Bk (laman_d hN (hc.at h3.cur) ⟨by omega,by omega⟩) fun v4 h4=>?_);obtain ⟨g1,g2,g3,_⟩:=h4;refine Bk (Eb (hc.at g3) _) fun v5 h5=>Bk (remove_d hN g1 (by omega) v5.1) fun v6 h6=>Dr ⟨⟨(h6.1.mono (by omega) (by omega)).at _,.inl ?_⟩,h5.cur⟩;show v6.1.n≤6;have:=h6.2;omega
 ·refine Bk (Eb (hc.at h1.cur) 5) fun v3 h3=>?_;have a0:=h3.nn;have a1:=h3.lt (by omega);refine Bu ⟨by omega,by omega⟩ (Bk (laman_d hN (hc.at h3.cur) ⟨by omega,by omega⟩) fun v4 h4=>?_);obtain ⟨g1,g2,g3,_⟩:=h4;refine Bk (Eb (hc.at g3) _) fun v5 h5=>Bk (Eb (hc.at h5.cur) _) fun v6 h6=>Bk (add_d hN (g1.mono (m':=64) (k':=40) (by omega) (by omega)) (by omega) (by omega) v5.1 v6.1) fun v7 h7=>Dr ⟨⟨(h7.1.mono (by omega) (by omega)).at _,.inl ?_⟩,h6.cur⟩;show v7.1.n≤6;have:=h7.2;omega
 refine Bk (Eb (hc.at h1.cur) 6) fun v3 h3=>?_;have a0:=h3.nn;have a1:=h3.lt (by omega);refine Bu ⟨by omega,by omega⟩ (Bk (laman_d hN (hc.at h3.cur) ⟨by omega,by omega⟩) fun v4 h4=>?_);obtain ⟨g1,g2,g3,_⟩:=h4;refine Dr ⟨⟨(g1.mono (by omega) (by omega)).at _,.inl ?_⟩,g3⟩;show v4.1.n≤6;omega
theorem any15_d (hN:4000000≤N) {c:Cur} (hc:CK c):Ok (Xt N c) fun r=>SD 60 r.1∧0≤r.2.1:=by
 unfold Xt;refine Bk (any6_d hN hc) fun v1 h1=>Bk (Eb (hc.at h1.2) 4) fun v2 h2=>?_;have a0:=h2.nn;have a1:=h2.lt (by omega)
 have key:∀ (fuel:Nat) (l:List (Int×Int)) (k i h n:Int),0≤k→k<(fuel:Int)→k≤3→GD 64 (60-k.toNat) ⟨n,l⟩→(n≤6∨n=9)→0≤i→Ok (Kf N c (fun (x:(List (Int×Int))×Int×Int×Int)=>
   match x with
   | (l20,c21,c22,c23)=>
    some ((⟨c23,l20⟩:Grf),c21,c22)) fuel (l,k,i,h,n)) fun r=>SD 60 r.1∧0≤r.2.1:=by
  intro fuel
  induction fuel with
  | zero=>intro l k i h n q1 q2; omega
  | succ fuel ih=>
   intro l k i h n q1 q2 q3 q4 q5 q6;have hl:=q4.len;simp only at hl;rw [Kf];refine Dk (fun e1=>?_) (fun _=>Dr ⟨⟨q4.mono (by omega) (by omega),q5⟩,q6⟩);rw [decide_eq_true_eq] at e1;refine Bk (Eb (hc.at q6) 6) fun x hx=>Bk (Eb (hc.at hx.cur) 6) fun y hy=>?_;rw [countS_s hN (by simp only; omega),Option.bind_some];refine Dk (fun _=>?_) (fun _=>Bu ⟨by omega,by omega⟩ (ih _ _ _ _ _ (by omega) (by omega) (by omega) (q4.mono (by omega) (by omega)) q5 hy.cur));refine Bk (add_d hN q4 (by omega) (by simp only; omega) x.1 y.1) fun z hz=>Bu ⟨by omega,by omega⟩ ?_;have zn:z.1.n=n:=hz.2;exact ih _ _ _ _ _ (by omega) (by omega) (by omega) ((hz.1.mono (by omega) (by omega)).at z.1.n) (by omega) hy.cur
 exact key N _ _ _ _ _ a0 (by omega) (by omega) ((h1.1.gd.mono (by omega) (by omega)).at v1.1.n) h1.1.n1 h2.cur
theorem draw23_d (hN:4000000≤N) {code:List Int} (hb:Byt code) (hl:code.length≤1048576):Ok (Tz N code) fun r=>SD 60 r.1∧r.2.length≤9:=by
 unfold Tz;refine Bk (new_s hN hb hl) fun c hc=>Bk (any15_d hN hc.1) fun v2 h2=>Bk (once_s (hc.1.at h2.2) 3) fun v3 h3=>(ok_jn (R:=fun x=>SD 60 ⟨x.2.2.2,x.1⟩∧0≤x.2.1) (fun x hx=>?_) fun k' hk'=>?_)
 ·obtain ⟨l6,c7,c8,c9⟩:=x;obtain ⟨s1,s2⟩:=hx;have n9:c9≤9:=by have:=s1.n1; simp only at this; omega
  simp only
  have key : ∀ (fuel i : Nat) (l : List Int) (ci ch : Int), 9 < fuel + i → l.length ≤ 3 → i ≤ 9 → 0 ≤ ci → Ok (Gx N c c9 (fun (x : (List Int) × Int × Int) =>
      match x with
      | (l18,c19,c20)=>
       (Mt N (⟨c.b,c19,c20⟩:Cur) (14:Int)).bind fun v21=>
       cnd v21.1 (
        grd (l18.length+1≤4294967296) <|
        some ((⟨c9,l6⟩:Grf),(l18++([(0:Int)]:List Int)))) (
        some ((⟨c9,l6⟩:Grf),l18))) fuel (l,(i:Int),ci,ch)) fun r=>SD 60 r.1∧r.2.length≤9:=by
   intro fuel
   induction fuel with
   | zero=>intro i l ci ch q1 q2 q3; omega
   | succ fuel ih=>
    intro i l ci ch q1 q2 q3 q4;rw [Gx]
    have fin : Ok ((Mt N (⟨c.b, ci, ch⟩ : Cur) (14 : Int)).bind fun v21 =>
       cnd v21.1 (
        grd (l.length+1≤4294967296) <|
        some ((⟨c9,l6⟩:Grf),(l++([(0:Int)]:List Int)))) (
        some ((⟨c9,l6⟩:Grf),l))) fun r=>SD 60 r.1∧r.2.length≤9:=
     Bk (once_s (hc.1.at q4) 14) fun o ho=>Dk (fun _=>Bu (by omega) (Dr ⟨s1,by simp only [List.length_append,List.length_singleton]; omega⟩)) (fun _=>Dr ⟨s1,by simp only; omega⟩)
    refine Dk (fun e1=>Dk (fun e2=>Dk (fun e3=>?_) (fun e3=>?_)) (fun _=>fin)) (fun _=>fin)
    ·rw [decide_eq_true_eq] at e1 e2 e3;refine Bk (once_s (hc.1.at q4) 3) fun o ho=>Dk (fun _=>Bu (by omega) (Bu ⟨by omega,by omega⟩ ?_)) (fun _=>Bu ⟨by omega,by omega⟩ ?_)
     ·rw [Ah];exact ih (i+1) _ _ _ (by omega) (by simp; omega) (by omega) ho
     rw [Ah];exact ih (i+1) _ _ _ (by omega) q2 (by omega) ho
    rw [decide_eq_true_eq] at e1 e2;refine Bu ⟨by omega,by omega⟩ ?_;rw [Ah];exact ih (i+1) _ _ _ (by omega) q2 (by omega) q4
  exact key N 0 [] c7 c8 (by omega) (by simp) (by omega) s2
 refine Dk (fun _=>?_) (fun _=>hk' _ ⟨⟨h2.1.gd.at _,h2.1.n1⟩,h3⟩);refine Bk (Eb (hc.1.at h3) 4) fun x hx=>?_;have a0:=hx.nn;have a1:=hx.lt (by omega);refine Bu ⟨by omega,by omega⟩ (Bk (Aan hN (hc.1.at hx.cur) ⟨by omega,by omega⟩) fun v hv=>hk' _ ⟨⟨(hv.1.mono (by omega) (by omega)).at _,.inl ?_⟩,hv.2.2⟩);have:=hv.2.1;show v.1.n≤6;omega
theorem drawLoc_d (hN:4000000≤N) {code:List Int} (hb:Byt code) (hl:code.length≤1048576):Ok (Gl N code) fun r=>SD 60 r.1∧r.2.length≤9:=by
 unfold Gl;exact Bk (draw23_d hN hb hl) fun r hr=>Dr ⟨⟨hr.1.gd.at _,hr.1.n1⟩,hr.2⟩
theorem drawPieces_d (hN:4000000≤N) {code:List Int} (hb:Byt code) (hl:code.length≤1048576):Ok (Hf N code) fun r=>r.bars.length≤24:=by
 unfold Hf;refine Bk (new_s hN hb hl) fun c hc=>Bk (Eb hc.1 4) fun x hx=>?_;have a0:=hx.nn;have a1:=hx.lt (by omega);exact Bu ⟨by omega,by omega⟩ (Bk (Aan hN (hc.1.at hx.cur) ⟨by omega,by omega⟩) fun v hv=>Dr hv.1.len)
theorem drawNext_d (hN:4000000≤N) {code:List Int} (hb:Byt code) (hl:code.length≤1048576):Ok (Hw N code) fun r=>r.1.bars.length≤24∧r.2.length≤3:=by
 unfold Hw;refine Bk (new_s hN hb hl) fun c hc=>Bk (Eb hc.1 2) fun x hx=>?_;have a0:=hx.nn;have a1:=hx.lt (by omega);exact Bu ⟨by omega,by omega⟩ (Bk (Aan hN (hc.1.at hx.cur) ⟨by omega,by omega⟩) fun v hv=>Dr ⟨hv.1.len,by simp⟩)
end
section
open Go.RowKit
variable {n:Nat} {N:Nat}
end
section
open Go.RowKit
variable {n:Nat} {N:Nat}
theorem has_s (hN:4000000≤N) {l:List Int} (hl:l.length≤3000000) (x:Int):L_has N l x=some (l.contains x):=by
 have key:∀ (fuel i:Nat),i≤l.length→l.length<fuel+i→Ss N l x (fun (_:Unit)=>some false) fuel (i:Int)=some ((l.drop i).contains x):=by
  intro fuel
  induction fuel with
  | zero=>intro i h1 h2; omega
  | succ fuel ih=>
   intro i h1 h2;rw [Ss];by_cases hi:i<l.length
   ·have e2:((i:Int)).toNat=i:=rfl
    have ed:l.drop i=l.getD i 0::l.drop (i+1):=by
     rw [List.drop_eq_getElem_cons hi]; simp [List.getD_eq_getElem?_getD,hi]
    rw [Bb (by omega),Am (by omega),e2,ed,List.contains_cons];by_cases e:l.getD i 0=x
    ·rw [Tt e,e]; simp
    rw [Rj e,Bf (by omega) (by omega),Ah,ih (i+1) (by omega) (by omega)];have:(x==l.getD i 0)=false:=by simpa using fun h=>e h.symm
    rw [this,Bool.false_or]
   rw [Ay (by omega),List.drop_eq_nil_of_le (by omega)]; rfl
 have:=key N 0 (by omega) (by omega);simpa [L_has] using this
theorem Yt (hN:4000000≤N) {l:List Int} (hl:l.length≤3000000):Mh N l l=some true:=by
 have key:∀ (fuel i:Nat),i≤l.length→l.length<fuel+i→Jn N l l (fun (_:Unit)=>some true) fuel (i:Int)=some true:=by
  intro fuel
  induction fuel with
  | zero=>intro i h1 h2; omega
  | succ fuel ih=>
   intro i h1 h2;rw [Jn];by_cases hi:i<l.length
   ·rw [Bb (by omega),Am (by omega),Am (by omega),Jx rfl,Bf (by omega) (by omega),Ah,ih (i+1) (by omega) (by omega)]
   rw [Ay (by omega)]
 unfold Mh;rw [Jx rfl];exact key N 0 (by omega) (by omega)
end
section
open Go.RowKit
variable {N:Nat}
theorem Aak {α:Type} {l:List α} {i:Nat} {d:α} (h:i<l.length):l.getD i d∈l:=by
 rw [List.getD_eq_getElem?_getD,List.getElem?_eq_getElem h]; exact List.getElem_mem h
theorem sameSets_s (hN:4000000≤N) {l:List (List Int)} (hl:l.length≤3000000) (h:∀ x∈l,x.length≤3000000):Sb N l l=some true:=by
 have key:∀ (fuel i:Nat),i≤l.length→l.length<fuel+i→Jk N l l (fun (_:Unit)=>some true) fuel (i:Int)=some true:=by
  intro fuel
  induction fuel with
  | zero=>intro i h1 h2; omega
  | succ fuel ih=>
   intro i h1 h2;rw [Jk];by_cases hi:i<l.length
   ·have e2:((i:Int)).toNat=i:=rfl;rw [Bb (by omega),Am (by omega),Am (by omega),e2,Yt hN (h _ (Aak hi)),Option.bind_some,Bool.not_true,cnd_false,Bf (by omega) (by omega),Ah,ih (i+1) (by omega) (by omega)]
   rw [Ay (by omega)]
 unfold Sb;rw [Jx rfl];exact key N 0 (by omega) (by omega)
end
section
open Go.ChangeShapes Go.WideShapes Go.ChangeAt Go.RowKit Go.Deep
section
variable {H:Type} {enc:TypeId×Value→H} {P:Program} {w:World} {spare:Nat→Bool} {held:Bool} {fuel:Nat} {cs:List Value} {x:DataW H×List MemPlace}
theorem open_bytesD {t e:TypeId} (ht:P.underlying t=some (.slice e)) (he:P.underlying e=some (.int .u8)) (hc:P.cellsOf e=1) (h:DataW.trod enc P w 0 spare held fuel t cs=some x) :
  ∃ v l,cs=[v]∧VR M0 R0 w (.ro false (.bytes l)) v∧∀ x∈l,0≤x∧x<256:=by
 obtain ⟨v,rfl,hcap⟩:=trod_cap ht h;rcases open_slice1 ht hc h with ⟨h0,_⟩ | ⟨a,len,cap,m,n,V,D,Pl,h0,hb,hl,hm,hmm,rfl,hx⟩
 ·simp at h0; subst h0;exact ⟨_,[],O,.ro false (.bytes []) _ 0 0 0 (fun _ _=>undef) (Nat.zero_le _) (Nat.le_refl _) (fun h=>absurd h (by simp [Sq.len])) (fun i j d hi=>absurd hi (by simp [Sq.len])) (fun i j d hi=>absurd hi (by simp [Sq.len])),by simp⟩
 simp at h0; subst h0;have hlm:len≤m:=by rw [hmm]; split <;> omega
 have hcell:∀ i,i<len→∃ z:Int,w.cell? (a.add i)=some (.int .u8 z)∧0≤z∧z<256:=fun i hi=>by
  obtain ⟨h1,h2⟩:=hx i (by omega);obtain ⟨z,hz,_,hw⟩:=DataW.trod_int he h2;simp at hz;simp [Lit.wf,IntKind.min,IntKind.max,IntKind.signed,IntKind.bits] at hw;exact ⟨z,by rw [h1,hz],by omega⟩
 obtain ⟨f,hf⟩:=choose_lt hcell;have hlen:((List.range len).map f).length=len:=by simp
 refine ⟨_,(List.range len).map f,O,?_,fun x hx'=>?_⟩
 ·by_cases h0:0<len
  ·have c0:=(hf 0 h0).1;have hs:=cell?_spot c0
   have ha:a=⟨a.block,a.off,none⟩:=by
    have:(a.add 0)=a:=by simp [Addr.add]
    rw [this] at hs; cases a; simp_all
   have hlt:a.block<w.heap.size:=by have:=cell?_lt c0; rwa [add_block] at this
   have hcl:∀ i,i<len→w.cell? ⟨a.block,a.off+i,none⟩=some (.int .u8 (f i)):=fun i hi=>by
    have:=(hf i hi).1;rw [ha,Addr.add_lit] at this;exact this
   have:=VR.ro (M:=M0) (A:=R0) (w:=w) false (.bytes ((List.range len).map f)) (some a) cap a.block a.off (fun i _=>.int .u8 (f i)) (by simp only [Sq.len,hlen]; omega) (by simp only [Sq.len,hlen]; exact hl) (fun _=>⟨by rw [←ha],hlt,Y⟩) (fun i j d hi hd=>by
     simp only [Sq.len,hlen] at hi;rcases j with _ | j <;> simp [Sq.elem] at hd;simp only [Sq.sz,Nat.mul_one,Nat.add_zero]
     exact hcl i hi) (fun i j d hi hd=>by
     simp only [Sq.len,hlen] at hi;rcases j with _ | j <;> simp [Sq.elem,hi] at hd;subst hd
     exact .val _ O)
   simpa only [Sq.len,hlen] using this
  have:=VR.ro (M:=M0) (A:=R0) (w:=w) false (.bytes ((List.range len).map f)) (some a) cap 0 0 (fun _ _=>undef) (by simp only [Sq.len,hlen]; omega) (by simp only [Sq.len,hlen]; exact hl) (fun h=>absurd h (by simp only [Sq.len,hlen]; exact h0)) (fun i j d hi=>absurd hi (by simp only [Sq.len,hlen]; omega)) (fun i j d hi=>absurd hi (by simp only [Sq.len,hlen]; omega));simpa only [Sq.len,hlen] using this
 obtain ⟨i,hi,rfl⟩:=List.mem_map.1 hx';exact (hf i (by simpa using hi)).2
end
end
end Go.Proofs.YtaipbhnpandbkaaGreat
