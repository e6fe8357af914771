/- Texts that the proof needs, put together: G5 G32 G6 G7 G31 G33 G34. -/
import Derived.Test.YtaipbhnpandbkaaGreatBLs3
set_option maxRecDepth 20000
set_option maxHeartbeats 1600000
set_option linter.unusedVariables false
set_option linter.unusedSimpArgs false
namespace Go.Proofs.YtaipbhnpandbkaaGreat
section
open Go.RowKit
def Mk (N:Nat) (l_0:List Int) (x_1:Int) (k:Unit→Option (Bool)):Nat→Int→Option (Bool)
 | 0,_=>none
 | n+1,i3=>
  cnd (decide (i3<(l_0.length:Int))) (
   grd (0≤i3∧i3<(l_0.length:Int)) <|
   cnd ((l_0.getD ((i3).toNat) 0)==x_1) (
    some true) (
    grd (Bc (i3+(1:Int))) <|
    Mk N l_0 x_1 k n (i3+(1:Int)))) (
   k ())
def Qx (N:Nat) (l_0:List Int) (x_1:Int):Option (Bool):=
 Mk N l_0 x_1 (fun (_ : Unit) =>
    some false) N (0:Int)
theorem Qp (N:Nat) (l_0:List Int) (x_1:Int) (r:Bool) (h:Qx N l_0 x_1=some r):PCall Tryz.prog 50 [.ro false (.ints l_0),.int x_1] [] (.bool r):=by
 unfold Qx at h;refine Aj (TT:=TT) tt Tryz.func50 O O Tryz.ntmps50 (congrArg Array.toList Tryz.results50) O O fun w0=>(Ag (Ab (Aa O (Af (Ag (Ag (Ab (Aa O (Af ?_)))))))));refine Bz (F:=fun k=>Mk N l_0 x_1 k) h (α:=Unit) (J:=fun (_:Unit)=>(⟨[],[],[]⟩:PS)) ?_ ?_
 ·rintro ⟨⟩ h;show VC _ _ _ (⟨[],[],[]⟩:PS);refine Ag (Ab (Aa O (Af (Bg ?_))));show ∃ _,_;cases h;exact ⟨[],_,O,Y,O,.eq O,O⟩
 intro k h;refine Ap (Bh (α:=Int) (fun (i3:Int)=>(⟨[(0,.ro false (.ints l_0)),(1,.int x_1),(5,.int i3)],[],[]⟩:PS)) (Mk N l_0 x_1 k) h (En.of ⟨O,O,O,Y⟩ trivial trivial) (fun _=>O) ?_);rintro n i3 h;rw [Mk] at h;show VC _ _ _ (⟨[(0,.ro false (.ints l_0)),(1,.int x_1),(5,.int i3)],[],[]⟩:PS);refine Ag (Ag (Ab ?_));iterate 4 refine Aa O ?_
 refine Af (Ar O (fun hb1=>?_) (fun hb1=>?_))
 ·replace h:=Ak hb1 h;refine Aq (Ag (Ap (Ag (Ab (Aa O (Aa O ?_))))));obtain ⟨hg2,h⟩:=Ac h;refine Ad tt O hg2 (Aa O (Aa O (Aa O (Af (Ar O (fun hb3=>?_) (fun hb3=>?_))))))
  ·replace h:=Ak hb3 h;refine Ag (Ab (Aa O (Af (Bg ?_))));show ∃ _,_;cases h;exact ⟨[],_,O,Y,O,.eq O,O⟩
  replace h:=Al hb3 h;refine Aq (Ab (Aa O ?_));obtain ⟨hg4,h⟩:=Ac h;refine Ad tt O hg4 (Aa O (Af ?_));show ∃ _,_;exact ⟨(i3+(1:Int)),(En.of ⟨O,O,O,Y⟩ trivial trivial),h⟩
 replace h:=Al hb1 h;refine Bp ?_;show ∃ _,_;exact ⟨(),(En.of trivial trivial trivial),h⟩
def Ku (N:Nat) (b_0:Int×Int) (v_1:Int):Option (Int):=
 grd (Bc (b_0.1+b_0.2)) <|
 grd (Bc ((b_0.1+b_0.2)-v_1)) <|
 some ((b_0.1+b_0.2)-v_1)
theorem Qi (N:Nat) (b_0:Int×Int) (v_1:Int) (r:Int) (h:Ku N b_0 v_1=some r):PCall Tryz.prog 134 [.agg [.int b_0.1,.int b_0.2],.int v_1] [] (.int r):=by
 unfold Ku at h;refine Aj (TT:=TT) tt Tryz.func134 O O Tryz.ntmps134 (congrArg Array.toList Tryz.results134) O O fun w0=>(Ag (Ab (Hz O O O O O O O O O (Aa O (Af (Ag (Ab ?_)))))));iterate 4 refine Aa O ?_
 obtain ⟨hg1,h⟩:=Ac h;refine Ad tt O hg1 (Aa O ?_);obtain ⟨hg2,h⟩:=Ac h;refine Ad tt O hg2 (Aa O (Af (Bg ?_)));show ∃ _,_;cases h;exact ⟨[],_,O,Y,O,.eq O,O⟩
def Jh (N:Nat) (g_0:Grf) (v_1:Int) (k:(List Int)→Option (List Int)):Nat→((List Int)×Int)→Option (List Int)
 | 0,_=>none
 | n+1,(l17,i18)=>
  cnd (decide (i18<(g_0.bars.length:Int))) (
   grd (0≤i18∧i18<(g_0.bars.length:Int)) <|
   cnd (((g_0.bars.getD ((i18).toNat) (0,0)).1)==v_1) (
    (Ku N (g_0.bars.getD ((i18).toNat) (0,0)) v_1).bind fun v21=>
    grd (l17.length+1≤4294967296) <|
    grd (Bc (i18+(1:Int))) <|
    Jh N g_0 v_1 k n ((l17++([v21]:List Int)),(i18+(1:Int)))) (
    cnd (((g_0.bars.getD ((i18).toNat) (0,0)).2)==v_1) (
     (Ku N (g_0.bars.getD ((i18).toNat) (0,0)) v_1).bind fun v22=>
     grd (l17.length+1≤4294967296) <|
     grd (Bc (i18+(1:Int))) <|
     Jh N g_0 v_1 k n ((l17++([v22]:List Int)),(i18+(1:Int)))) (
     grd (Bc (i18+(1:Int))) <|
     Jh N g_0 v_1 k n (l17,(i18+(1:Int)))))) (
   k l17)
def Yb (N:Nat) (g_0:Grf) (v_1:Int):Option (List Int):=
 Jh N g_0 v_1 (fun (l11 : List Int) =>
    some l11) N (([]:List Int),(0:Int))
theorem S_l7Near_w (N:Nat) (g_0:Grf) (v_1:Int) (r:List Int) (h:Yb N g_0 v_1=some r):PCall Tryz.prog 103 [gD g_0,.int v_1] [(3,.ints r)] (.row 0 0 r.length):=by
 unfold Yb at h;refine Aj (TT:=TT) tt Tryz.func103 O O Tryz.ntmps103 (congrArg Array.toList Tryz.results103) O O fun w0=>(Ag (Ab (Hz O O O O O O O O O (Aa O (Af (Ag (Ab (Gr tt (Ai O) O O O O (Aa O ?_)))))))));refine Af (Ag (Ag (Ab (Aa O (Af (Bz (F:=fun k=>Jh N g_0 v_1 k) h (α:=List Int) (J:=fun (l11:List Int)=>(⟨[(5,.row 42 0 l11.length)],[(42,some (3,.ints l11))],[]⟩:PS)) ?_ ?_))))))
 ·rintro l11 h;show VC _ _ _ (⟨[(5,.row 42 0 l11.length)],[(42,some (3,.ints l11))],[]⟩:PS);refine Ag (Ab (Aa O (Aa O (Af (Bg ?_)))));show ∃ _,_;cases h;exact ⟨[42],_,O,⟨O,Y⟩,O,.eq O,O⟩
 intro k h;refine Ap (Jq 5 42 3 (.ints []) rfl rfl rfl rfl (Bh (α:=(List Int)×Int) (fun | (l17,i18)=>(⟨[(1,.int v_1),(2,.ptr 2 0),(5,.row 42 0 l17.length),(6,.int i18)],[(42,some (3,.ints l17))],[(2,some [.int g_0.n,.ro false (.pairs g_0.bars)])]⟩:PS)) (Jh N g_0 v_1 k) h (En.of ⟨rfl,rfl,rfl,rfl,Y⟩ ⟨rfl,Y⟩ ⟨rfl,Y⟩) (fun _=>rfl) ?_));rintro n ⟨l17,i18⟩ h;rw [Jh] at h;show VC _ _ _ (⟨[(1,.int v_1),(2,.ptr 2 0),(5,.row 42 0 l17.length),(6,.int i18)],[(42,some (3,.ints l17))],[(2,some [.int g_0.n,.ro false (.pairs g_0.bars)])]⟩:PS);refine Ag (Ag (Ab ?_));iterate 5 refine Aa O ?_
 refine Af (Ar O (fun hb1=>?_) (fun hb1=>?_))
 ·replace h:=Ak hb1 h;refine Aq (Ag (Ap (Ag (Ab (Aa O (Aa O (Aa O ?_)))))));obtain ⟨hg2,h⟩:=Ac h;refine Ad tt O hg2 ?_;iterate 5 refine Aa O ?_
  refine Be O O O (fun hb3=>?_) (fun hb3=>?_)
  ·replace h:=Ak hb3 h;iterate 8 refine Hg O O O O hb3 O O ?_
   refine Bm O O O O O hb3 O (Af (Ce O O (Ab ?_)));iterate 4 refine Aa O ?_
   refine Ad tt O hg2 (Aa O (Aa O ?_));obtain ⟨v21,hc4,h⟩:=Ae h;refine Ba (Qi N (g_0.bars.getD ((i18).toNat) (0,0)) v_1 v21 hc4) O O O O O O O O ⟨⟨O,O,Y⟩,O,Y⟩ (Cr tt O O O O O O O O O O O ?_);obtain ⟨hg5,h⟩:=Ac h;refine Bt tt O O O O O O O O O O O O O O O O (Nat.le_of_eq (Nat.zero_add _)) hg5 (Aa O (Af (Ab (Aa O ?_))));obtain ⟨hg6,h⟩:=Ac h;refine Ad tt O hg6 (Aa O (Af ?_));show ∃ _,_;exact ⟨((l17++([v21]:List Int)),(i18+(1:Int))),(En.of ⟨O,O,O,O,Y⟩ ⟨O,Y⟩ ⟨O,Y⟩),h⟩
  replace h:=Al hb3 h;iterate 3 refine Av tt O O O O O hb3 O O O Y ?_
  refine Av tt O O O O O hb3 O O O hg2 ?_;iterate 4 refine Av tt O O O O O hb3 O O O Y ?_
  refine Aw O O O O O hb3 O (Af (Ar O (fun hb7=>?_) (fun hb7=>?_)))
  ·replace h:=Ak hb7 h;refine Ab ?_;iterate 4 refine Aa O ?_
   refine Ad tt O hg2 (Aa O (Aa O ?_));obtain ⟨v22,hc8,h⟩:=Ae h;refine Ba (Qi N (g_0.bars.getD ((i18).toNat) (0,0)) v_1 v22 hc8) O O O O O O O O ⟨⟨O,O,Y⟩,O,Y⟩ (Cr tt O O O O O O O O O O O ?_);obtain ⟨hg9,h⟩:=Ac h;refine Bt tt O O O O O O O O O O O O O O O O (Nat.le_of_eq (Nat.zero_add _)) hg9 (Aa O (Af (Ab (Aa O ?_))));obtain ⟨hg10,h⟩:=Ac h;refine Ad tt O hg10 (Aa O (Af ?_));show ∃ _,_;exact ⟨((l17++([v22]:List Int)),(i18+(1:Int))),(En.of ⟨O,O,O,O,Y⟩ ⟨O,Y⟩ ⟨O,Y⟩),h⟩
  replace h:=Al hb7 h;refine Aq (Ab (Aa O ?_));obtain ⟨hg11,h⟩:=Ac h;refine Ad tt O hg11 (Aa O (Af ?_));show ∃ _,_;exact ⟨(l17,(i18+(1:Int))),(En.of ⟨O,O,O,O,Y⟩ ⟨O,Y⟩ ⟨O,Y⟩),h⟩
 replace h:=Al hb1 h;refine Bp ?_;show ∃ _,_;exact ⟨l17,(En.of ⟨O,Y⟩ ⟨O,Y⟩ trivial),h⟩
def Gv (N:Nat) (known_2:List Int) (v1:List Int) (k:Int→Option (Int)):Nat→(Int×Int)→Option (Int)
 | 0,_=>none
 | n+1,(n10,i11)=>
  cnd (decide (i11<(v1.length:Int))) (
   grd (0≤i11∧i11<(v1.length:Int)) <|
   (Qx N known_2 (v1.getD ((i11).toNat) 0)).bind fun v13=>
   cnd v13 (
    grd (Bc (n10+(1:Int))) <|
    grd (Bc (i11+(1:Int))) <|
    Gv N known_2 v1 k n ((n10+(1:Int)),(i11+(1:Int)))) (
    grd (Bc (i11+(1:Int))) <|
    Gv N known_2 v1 k n (n10,(i11+(1:Int))))) (
   k n10)
def Ru (N:Nat) (g_0:Grf) (v_1:Int) (known_2:List Int):Option (Int):=
 (Yb N g_0 v_1).bind fun v1=>
 Gv N known_2 v1 (fun (n7 : Int) =>
    some n7) N ((0:Int),(0:Int))
theorem S_l23Known_w (N:Nat) (g_0:Grf) (v_1:Int) (known_2:List Int) (r:Int) (h:Ru N g_0 v_1 known_2=some r):PCall Tryz.prog 55 [gD g_0,.int v_1,.ro false (.ints known_2)] [] (.int r):=by
 unfold Ru at h;refine Aj (TT:=TT) tt Tryz.func55 O O Tryz.ntmps55 (congrArg Array.toList Tryz.results55) O O fun w0=>(Ag (Ab (Hz O O O O O O O O O (Aa O (Af (Ag (Ab (Aa O (Af ?_)))))))));refine Ag (Ab (Aa O (Aa O ?_)));obtain ⟨v1,hc1,h⟩:=Ae h;refine Ba (S_l7Near_w N g_0 v_1 v1 hc1) O O O O O O O O ⟨⟨O,O,Y⟩,O,Y⟩ (Aa O (Af (Ag (Ag (Ab (Aa O (Af (Bz (F:=fun k=>Gv N known_2 v1 k) h (α:=Int) (J:=fun (n7:Int)=>(⟨[(7,.int n7)],[],[]⟩:PS)) ?_ ?_))))))))
 ·rintro n7 h;show VC _ _ _ (⟨[(7,.int n7)],[],[]⟩:PS);refine Ag (Ab (Aa O (Aa O (Af (Bg ?_)))));show ∃ _,_;cases h;exact ⟨[],_,O,Y,O,.eq O,O⟩
 intro k h;refine Ap (Bh (α:=Int×Int) (fun | (n10,i11)=>(⟨[(2,.ro false (.ints known_2)),(7,.int n10),(8,.row 1120 0 v1.length),(9,.int i11)],[(1120,some (3,.ints v1))],[]⟩:PS)) (Gv N known_2 v1 k) h (En.of ⟨rfl,rfl,rfl,rfl,Y⟩ ⟨rfl,Y⟩ trivial) (fun _=>rfl) ?_);rintro n ⟨n10,i11⟩ h;rw [Gv] at h;show VC _ _ _ (⟨[(2,.ro false (.ints known_2)),(7,.int n10),(8,.row 1120 0 v1.length),(9,.int i11)],[(1120,some (3,.ints v1))],[]⟩:PS);refine Ag (Ag (Ab ?_));iterate 4 refine Aa O ?_
 refine Af (Ar O (fun hb2=>?_) (fun hb2=>?_))
 ·replace h:=Ak hb2 h;refine Aq (Ag (Ap (Ag (Ab (Aa O (Aa O (Aa O ?_)))))));obtain ⟨hg3,h⟩:=Ac h;refine Ad tt O hg3 (Ad tt O hg3 ?_);obtain ⟨v13,hc4,h⟩:=Ae h;refine Ba (Qp N known_2 (v1.getD ((i11).toNat) 0) v13 hc4) O O O O O O O O ⟨O,O,Y⟩ (Af (Ar O (fun hb5=>?_) (fun hb5=>?_)))
  ·replace h:=Ak hb5 h;refine Ab (Aa O ?_);obtain ⟨hg6,h⟩:=Ac h;refine Ad tt O hg6 (Aa O (Af (Ab (Aa O ?_))));obtain ⟨hg7,h⟩:=Ac h;refine Ad tt O hg7 (Aa O (Af ?_));show ∃ _,_;exact ⟨((n10+(1:Int)),(i11+(1:Int))),(En.of ⟨O,O,O,O,Y⟩ ⟨O,Y⟩ trivial),h⟩
  replace h:=Al hb5 h;refine Aq (Ab (Aa O ?_));obtain ⟨hg8,h⟩:=Ac h;refine Ad tt O hg8 (Aa O (Af ?_));show ∃ _,_;exact ⟨(n10,(i11+(1:Int))),(En.of ⟨O,O,O,O,Y⟩ ⟨O,Y⟩ trivial),h⟩
 replace h:=Al hb2 h;refine Bp ?_;show ∃ _,_;exact ⟨n10,(En.of ⟨O,Y⟩ trivial trivial),h⟩
def Ci (N:Nat) (g_0:Grf) (l116:List Int) (l117:List Int) (k:((List Int)×(List Int))→Option (List Int)):Nat→Int→Option (List Int)
 | 0,_=>none
 | n+1,v150=>
  cnd (decide (v150<g_0.n)) (
   (Qx N l116 v150).bind fun v153=>
   cnd (!v153) (
    (Ru N g_0 v150 l116).bind fun v154=>
    cnd (decide (v154≥(3:Int))) (
     grd (l116.length+1≤4294967296) <|
     grd (l117.length+1≤4294967296) <|
     k ((l116++([v150]:List Int)),(l117++([v150]:List Int)))) (
     grd (Bc (v150+(1:Int))) <|
     Ci N g_0 l116 l117 k n (v150+(1:Int)))) (
    grd (Bc (v150+(1:Int))) <|
    Ci N g_0 l116 l117 k n (v150+(1:Int)))) (
   k (l116,l117))
def Bv (N:Nat) (g_0:Grf) (anchors_1:List Int) (k:(List Int)→Option (List Int)):Nat→((List Int)×(List Int)×Int)→Option (List Int)
 | 0,_=>none
 | n+1,(l116,l117,n118)=>
  cnd (decide (n118<g_0.n)) (
   (Jd N g_0 anchors_1).bind fun v137=>
   cnd v137 (
    Ci N g_0 l116 l117 (fun (x:(List Int)×(List Int))=>
      match x with
      | (l145,l146)=>
       grd (Bc (n118+(1:Int))) <|
       Bv N g_0 anchors_1 k n (l145,l146,(n118+(1:Int)))) N (0:Int)) (
    k l117)) (
   k l117)
def Cy (N:Nat) (g_0:Grf) (anchors_1:List Int):Option (List Int):=
 grd (anchors_1.length≤4294967296) <|
 Bv N g_0 anchors_1 (fun (l77 : List Int) =>
    some l77) N ((([]:List Int)++anchors_1),([]:List Int),(0:Int))
theorem Ma (N:Nat) (g_0:Grf) (anchors_1:List Int) (r:List Int) (h:Cy N g_0 anchors_1=some r):PCall Tryz.prog 11 [gD g_0,.ro false (.ints anchors_1)] [(3,.ints r)] (.row 0 0 r.length):=by
 unfold Cy at h;refine Aj (TT:=TT) tt Tryz.func11 O O Tryz.ntmps11 (congrArg Array.toList Tryz.results11) O O fun w0=>(Ag (Ab (Hz O O O O O O O O O (Aa O (Af (Ag (Ab (Gr tt (Ai O) O O O O (Aa O ?_)))))))));obtain ⟨hg1,h⟩:=Ac h;refine oAppNil tt (Ai O) O O O O O O O (fun _=>O) O O O O O hg1 (Aa O (Af (Ag (Ab (Gr tt (Ai O) O O O O (Aa O (Af (Ag (Ag ?_)))))))));refine Ab (Aa O (Af (Bz (F:=fun k=>Bv N g_0 anchors_1 k) h (α:=List Int) (J:=fun (l77:List Int)=>(⟨[(6,.row 48 0 l77.length)],[(48,some (3,.ints l77))],[]⟩:PS)) ?_ ?_)))
 ·rintro l77 h;show VC _ _ _ (⟨[(6,.row 48 0 l77.length)],[(48,some (3,.ints l77))],[]⟩:PS);refine Ag (Ab (Aa O (Aa O (Af (Bg ?_)))));show ∃ _,_;cases h;exact ⟨[48],_,O,⟨O,Y⟩,O,.eq O,O⟩
 intro k h;refine Ap (Jq 6 48 3 (.ints []) rfl rfl rfl rfl (Bh (α:=(List Int)×(List Int)×Int) (fun | (l116,l117,n118)=>(⟨[(1,.ro false (.ints anchors_1)),(2,.ptr 2 0),(5,.row 11 0 l116.length),(6,.row 48 0 l117.length),(7,.int n118)],[(11,some (3,.ints l116)),(48,some (3,.ints l117))],[(2,some [.int g_0.n,.ro false (.pairs g_0.bars)])]⟩:PS)) (Bv N g_0 anchors_1 k) h (En.of ⟨rfl,rfl,rfl,rfl,rfl,Y⟩ ⟨rfl,rfl,Y⟩ ⟨rfl,Y⟩) (fun _=>rfl) ?_));rintro n ⟨l116,l117,n118⟩ h;rw [Bv] at h;show VC _ _ _ (⟨[(1,.ro false (.ints anchors_1)),(2,.ptr 2 0),(5,.row 11 0 l116.length),(6,.row 48 0 l117.length),(7,.int n118)],[(11,some (3,.ints l116)),(48,some (3,.ints l117))],[(2,some [.int g_0.n,.ro false (.pairs g_0.bars)])]⟩:PS);refine Ag (Ag (Ab ?_));iterate 5 refine Aa O ?_
 refine Be O O O (fun hb2=>?_) (fun hb2=>?_)
 ·replace h:=Ak hb2 h;iterate 2 refine Av tt O O O O O hb2 O O O Y ?_
  obtain ⟨v137,hc3,h⟩:=Ae h;refine Eh (Mw N g_0 anchors_1 v137 hc3) O O O O hb2 O O O O O O O ⟨⟨O,O,Y⟩,O,Y⟩ (Bm O O O O O hb2 O (Af (Ar O (fun hb4=>?_) (fun hb4=>?_))))
  ·replace h:=Ak hb4 h;refine Aq (Ag (Ap (Ag (Ab (Aa rfl (Af (Bz (F:=fun k=>Ci N g_0 l116 l117 k) h (α:=(List Int)×(List Int)) (J:=fun | (l145,l146)=>(⟨[(1,.ro false (.ints anchors_1)),(2,.ptr 2 0),(5,.row 11 0 l145.length),(6,.row 48 0 l146.length),(7,.int n118)],[(11,some (3,.ints l145)),(48,some (3,.ints l146))],[(2,some [.int g_0.n,.ro false (.pairs g_0.bars)])]⟩:PS)) ?_ ?_)))))))
   ·rintro ⟨l145,l146⟩ h;show VC _ _ _ (⟨[(1,.ro false (.ints anchors_1)),(2,.ptr 2 0),(5,.row 11 0 l145.length),(6,.row 48 0 l146.length),(7,.int n118)],[(11,some (3,.ints l145)),(48,some (3,.ints l146))],[(2,some [.int g_0.n,.ro false (.pairs g_0.bars)])]⟩:PS);refine Ab (Aa O ?_);obtain ⟨hg5,h⟩:=Ac h;refine Ad tt O hg5 (Aa O (Af ?_));show ∃ _,_;exact ⟨(l145,l146,(n118+(1:Int))),(En.of ⟨O,O,O,O,O,Y⟩ ⟨O,O,Y⟩ ⟨O,Y⟩),h⟩
   intro k h;refine Ap (Bh (α:=Int) (fun (v150:Int)=>(⟨[(1,.ro false (.ints anchors_1)),(2,.ptr 2 0),(5,.row 11 0 l116.length),(6,.row 48 0 l117.length),(7,.int n118),(8,.int v150)],[(11,some (3,.ints l116)),(48,some (3,.ints l117))],[(2,some [.int g_0.n,.ro false (.pairs g_0.bars)])]⟩:PS)) (Ci N g_0 l116 l117 k) h (En.of ⟨O,O,O,O,O,O,Y⟩ ⟨O,O,Y⟩ ⟨O,Y⟩) (fun _=>O) ?_);rintro n v150 h;rw [Ci] at h;show VC _ _ _ (⟨[(1,.ro false (.ints anchors_1)),(2,.ptr 2 0),(5,.row 11 0 l116.length),(6,.row 48 0 l117.length),(7,.int n118),(8,.int v150)],[(11,some (3,.ints l116)),(48,some (3,.ints l117))],[(2,some [.int g_0.n,.ro false (.pairs g_0.bars)])]⟩:PS);refine Ag (Ag (Ab ?_));iterate 4 refine Aa O ?_
   refine Af (Ar O (fun hb6=>?_) (fun hb6=>?_))
   ·replace h:=Ak hb6 h;refine Aq (Ag (Ap (Ag (Ab (Aa O (Aa O ?_))))));obtain ⟨v153,hc7,h⟩:=Ae h;refine Ba (Qp N l116 v150 v153 hc7) O O O O O O O O ⟨(.inl ⟨O,O⟩),O,Y⟩ (Aa O (Aa O (Be O O O (fun hb8=>?_) (fun hb8=>?_))))
    ·replace h:=Ak hb8 h;iterate 3 refine Av tt O O O O O hb8 O O O Y ?_
     obtain ⟨v154,hc9,h⟩:=Ae h;refine Eh (S_l23Known_w N g_0 v150 l116 v154 hc9) O O O O hb8 O O O O O O O ⟨⟨O,O,Y⟩,O,(.inl ⟨O,O⟩),Y⟩ (Av tt O O O O O hb8 O O O Y (Bm O O O O O hb8 O (Af (Ar O (fun hb10=>?_) (fun hb10=>?_)))))
     ·replace h:=Ak hb10 h;refine Ag (Ab (Aa O (Aa O (Cr tt O O O O O O O O O O O ?_))));obtain ⟨hg11,h⟩:=Ac h;refine Bt tt O O O O O O O O O O O O O O O O (Nat.le_of_eq (Nat.zero_add _)) hg11 (Aa O (Af (Ag (Ab (Aa O (Aa O (Cr tt O O O O O O O O O O O ?_)))))));obtain ⟨hg12,h⟩:=Ac h;refine Bt tt O O O O O O O O O O O O O O O O (Nat.le_of_eq (Nat.zero_add _)) hg12 (Aa O (Af (Bp ?_)));show ∃ _,_;exact ⟨((l116++([v150]:List Int)),(l117++([v150]:List Int))),(En.of ⟨O,O,O,O,O,Y⟩ ⟨O,O,Y⟩ ⟨O,Y⟩),h⟩
     replace h:=Al hb10 h;refine Aq (Ab (Aa O ?_));obtain ⟨hg13,h⟩:=Ac h;refine Ad tt O hg13 (Aa O (Af ?_));show ∃ _,_;exact ⟨(v150+(1:Int)),(En.of ⟨O,O,O,O,O,O,Y⟩ ⟨O,O,Y⟩ ⟨O,Y⟩),h⟩
    replace h:=Al hb8 h;iterate 5 refine Kq O O O O hb8 O O ?_
    refine Aw O O O O O hb8 O (Af (Cp O O (Aq (Ab (Aa O ?_)))));obtain ⟨hg14,h⟩:=Ac h;refine Ad tt O hg14 (Aa O (Af ?_));show ∃ _,_;exact ⟨(v150+(1:Int)),(En.of ⟨O,O,O,O,O,O,Y⟩ ⟨O,O,Y⟩ ⟨O,Y⟩),h⟩
   replace h:=Al hb6 h;refine Bp ?_;show ∃ _,_;exact ⟨(l116,l117),(En.of ⟨O,O,O,O,O,Y⟩ ⟨O,O,Y⟩ ⟨O,Y⟩),h⟩
  replace h:=Al hb4 h;refine Bp ?_;show ∃ _,_;exact ⟨l117,(En.of ⟨O,Y⟩ ⟨O,Y⟩ trivial),h⟩
 replace h:=Al hb2 h;iterate 3 refine Kq O O O O hb2 O O ?_
 refine Aw O O O O O hb2 O (Af (Cp O O (Bp ?_)));show ∃ _,_;exact ⟨l117,(En.of ⟨O,Y⟩ ⟨O,Y⟩ trivial),h⟩
def Hr (N:Nat) (g_0:Grf) (anchors_1:List Int):Option (Bool):=
 (Jd N g_0 anchors_1).bind fun v1=>
 cnd v1 (
  (Cy N g_0 anchors_1).bind fun v2=>
  grd (Bc ((v2.length:Int)+(anchors_1.length:Int))) <|
  some (((v2.length:Int)+(anchors_1.length:Int))==g_0.n)) (
  some false)
theorem Xe (N:Nat) (g_0:Grf) (anchors_1:List Int) (r:Bool) (h:Hr N g_0 anchors_1=some r):PCall Tryz.prog 13 [gD g_0,.ro false (.ints anchors_1)] [] (.bool r):=by
 unfold Hr at h;refine Aj (TT:=TT) tt Tryz.func13 O O Tryz.ntmps13 (congrArg Array.toList Tryz.results13) O O fun w0=>(Ag (Ab (Hz O O O O O O O O O (Aa O (Af (Ag (Dn 13 [6] [0,0,3,7,15,15,63,127,15,271,1023,15,2063,8191,16383,32767] (by kernel_rfl) (by kernel_rfl) (by kernel_rfl) (by kernel_rfl) (by kernel_rfl) O (by rfl) ?_)))))));iterate 2 refine Fy tt O (Ai O) O O O O O Y ?_
 obtain ⟨v1,hc1,h⟩:=Ae h;refine nCall (Mw N g_0 anchors_1 v1 hc1) O (Ai O) O O O O O O O O ⟨⟨O,O,Y⟩,O,Y⟩ (Fy tt O (Ai O) O O O O O Y (Yd O O O (fun hb2=>?_) (fun hb2=>?_)))
 ·replace h:=Ak hb2 h;iterate 2 refine Fy tt O (Bl O O O O hb2) O O O O O Y ?_
  obtain ⟨v2,hc3,h⟩:=Ae h;refine Rd (Ma N g_0 anchors_1 v2 hc3) rfl (Bl rfl rfl rfl rfl hb2) rfl rfl rfl rfl rfl rfl (by first | rfl | kernel_rfl | (simp [nrL,nm,Hy,nmT,Jv]; done)) rfl (by first | rfl | kernel_rfl | (simp [Pr,nrL,nm,Hy,nmT,Jv,hid,Jp,Fb,Dh]; done) | (simp [Pr,nrL,nm,Hy,nmT,Jv,hid,Jp,Fb,Dh]; decide)) ⟨⟨rfl,rfl,Y⟩,rfl,Y⟩ ?_;iterate 3 refine Fy tt O (Bl O O O O hb2) O O O O O Y ?_
  obtain ⟨hg4,h⟩:=Ac h;refine Fy tt O (Bl O O O O hb2) O O O O O hg4 ?_;iterate 2 refine Fy tt O (Bl O O O O hb2) O O O O O Y ?_
  refine Tb ?_;show VO _ _ _ _ _;refine Av tt O O O O O hb2 O O O Y (Bm O O O O O hb2 O (Aa O (Af (Bg ?_))));show ∃ _,_;cases h;exact ⟨[],_,O,Y,O,.eq O,O⟩
 replace h:=Al hb2 h;iterate 9 refine nNoT O O O O hb2 O O ?_
 refine Tb ?_;show VO _ _ _ _ _;refine Kq O O O O hb2 O O (Aw O O O O O hb2 O (Aa O (Af (Bg ?_))));show ∃ _,_;cases h;exact ⟨[],_,O,Y,O,.eq O,O⟩
end
section
open Go.RowKit
def Ji (N:Nat) (p_0:Pbl):Option (Pbl):=
 grd (p_0.free.length≤4294967296) <|
 grd (p_0.tails.length≤4294967296) <|
 grd (p_0.placed.length≤4294967296) <|
 some (⟨(([]:List Int)++p_0.free),(([]:List Int)++p_0.tails),(([]:List Int)++p_0.placed)⟩:Pbl)
theorem Kh (N:Nat) (p_0:Pbl) (r:Pbl) (h:Ji N p_0=some r):PCall Tryz.prog 212 [bD p_0] [(3,.ints r.free),(3,.ints r.tails),(3,.ints r.placed)] (.agg [.row 0 0 r.free.length,.row 1 0 r.tails.length,.row 2 0 r.placed.length]):=by
 unfold Ji at h;refine Aj (TT:=TT) tt Tryz.func212 O O Tryz.ntmps212 (congrArg Array.toList Tryz.results212) O O fun w0=>(Ag (Ab (Hz O O O O O O O O O (Bi tt O O O O O O O O O (Af (Ag (Dn 11 [3,7] [0,0,2,7,0,0,32,127,0,0,512,2047,4095,8191] (by kernel_rfl) (by kernel_rfl) (by kernel_rfl) (by kernel_rfl) (by kernel_rfl) O (by rfl) (Adi tt (Ai O) O O O O O ?_))))))));iterate 2 refine Fy tt O (Ai O) O O O O O Y ?_
 obtain ⟨hg1,h⟩:=Ac h;refine Abc tt (Ai O) O O O O O O O O (fun _=>O) O O O O O O hg1 (Adi tt (Ai O) O O O O O ?_);iterate 2 refine Fy tt O (Ai O) O O O O O Y ?_
 obtain ⟨hg2,h⟩:=Ac h;refine Abc tt (Ai O) O O O O O O O O (fun _=>O) O O O O O O hg2 (Adi tt (Ai O) O O O O O ?_);iterate 2 refine Fy tt O (Ai O) O O O O O Y ?_
 refine Tb ?_;show VO _ _ _ _ _;obtain ⟨hg3,h⟩:=Ac h;refine oAppNil tt (Ai O) O O O O O O O (fun _=>O) O O O O O hg3 (Fz (Ai O) (Df Dj O O) O O (Ao tt O O O O O O O O O O O ⟨Y,Y,Y,Y⟩ (Af (Bg ?_))));show ∃ _,_;cases h;exact ⟨[6,10,14],_,O,⟨O,O,O,Y⟩,O,.eq O,O⟩
def Kb (N:Nat) (g_0:Grf) (p_1:Pbl) (from_2:List Int) (a_3:Int) (v1:Pbl) (k:(List Int)→Option (Pbl)):Nat→((List Int)×Int)→Option (Pbl)
 | 0,_=>none
 | n+1,(l10,at11)=>
  cnd (at11 != a_3) (
   grd (0≤at11∧at11<(from_2.length:Int)) <|
   grd (0≤(from_2.getD ((at11).toNat) 0)∧(from_2.getD ((at11).toNat) 0)<(p_1.placed.length:Int)) <|
   grd (0≤(p_1.placed.getD (((from_2.getD ((at11).toNat) 0)).toNat) 0)∧(p_1.placed.getD (((from_2.getD ((at11).toNat) 0)).toNat) 0)<(g_0.bars.length:Int)) <|
   (Ku N (g_0.bars.getD (((p_1.placed.getD (((from_2.getD ((at11).toNat) 0)).toNat) 0)).toNat) (0,0)) at11).bind fun v13=>
   grd (0≤(from_2.getD ((at11).toNat) 0)∧(from_2.getD ((at11).toNat) 0)<(v1.tails.length:Int)) <|
   grd (0≤(from_2.getD ((at11).toNat) 0)∧(from_2.getD ((at11).toNat) 0)<(l10.length:Int)) <|
   Kb N g_0 p_1 from_2 a_3 v1 k n ((l10.set (((from_2.getD ((at11).toNat) 0)).toNat) at11),v13)) (
   k l10)
def Vt (N:Nat) (g_0:Grf) (p_1:Pbl) (from_2:List Int) (a_3:Int) (u_4:Int):Option (Pbl):=
 (Ji N p_1).bind fun v1=>
 grd (0≤u_4∧u_4<(v1.free.length:Int)) <|
 grd (Bc ((v1.free.getD ((u_4).toNat) 0)-(1:Int))) <|
 grd (0≤a_3∧a_3<(v1.free.length:Int)) <|
 grd (0≤a_3∧a_3<((v1.free.set ((u_4).toNat) ((v1.free.getD ((u_4).toNat) 0)-(1:Int))).length:Int)) <|
 grd (Bc (((v1.free.set ((u_4).toNat) ((v1.free.getD ((u_4).toNat) 0)-(1:Int))).getD ((a_3).toNat) 0)+(1:Int))) <|
 Kb N g_0 p_1 from_2 a_3 v1 (fun (l7 : List Int) =>
    grd (v1.free.length=((v1.free.set ((u_4).toNat) ((v1.free.getD ((u_4).toNat) 0)-(1:Int))).set ((a_3).toNat) (((v1.free.set ((u_4).toNat) ((v1.free.getD ((u_4).toNat) 0)-(1:Int))).getD ((a_3).toNat) 0)+(1:Int))).length) <|
    grd (v1.tails.length=l7.length) <|
    some (⟨((v1.free.set ((u_4).toNat) ((v1.free.getD ((u_4).toNat) 0)-(1:Int))).set ((a_3).toNat) (((v1.free.set ((u_4).toNat) ((v1.free.getD ((u_4).toNat) 0)-(1:Int))).getD ((a_3).toNat) 0)+(1:Int))),l7,v1.placed⟩:Pbl)) N (v1.tails,u_4)
theorem Aa8 (N:Nat) (g_0:Grf) (p_1:Pbl) (from_2:List Int) (a_3:Int) (u_4:Int) (r:Pbl) (h:Vt N g_0 p_1 from_2 a_3 u_4=some r):PCall Tryz.prog 220 [gD g_0,bD p_1,.ro false (.ints from_2),.int a_3,.int u_4] [(3,.ints r.free),(3,.ints r.tails),(3,.ints r.placed)] (.agg [.row 0 0 r.free.length,.row 1 0 r.tails.length,.row 2 0 r.placed.length]):=by
 unfold Vt at h;refine Aj (TT:=TT) tt Tryz.func220 O O Tryz.ntmps220 (congrArg Array.toList Tryz.results220) O O fun w0=>(Ag (Ab ?_));iterate 2 refine Hz O O O O O O O O O ?_
 refine Bi tt O O O O O O O O O (Af (Ag (Ab (Aa O ?_))));obtain ⟨v1,hc1,h⟩:=Ae h;refine Ba (Kh N p_1 v1 hc1) O O O O O O O O ⟨⟨O,O,O,Y⟩,Y⟩ (Bi tt O O O O O O O O O (Ao tt O O O O O O O O O O O ⟨Y,Y,Y,Y⟩ (Af (Ag (Dn 9 [] [0,1,0,0,8,0,56,120,248,511,1023] (by kernel_rfl) (by kernel_rfl) (by kernel_rfl) (by kernel_rfl) (by kernel_rfl) O (by rfl) ?_)))));iterate 6 refine Fy tt O (Ai O) O O O O O Y ?_
 obtain ⟨hg2,h⟩:=Ac h;iterate 2 refine Fy tt O (Ai O) O O O O O hg2 ?_
 obtain ⟨hg3,h⟩:=Ac h;refine Fy tt O (Ai O) O O O O O hg3 (Tb ?_);show VO _ _ _ _ _;refine Ad tt O hg2 (Ao tt O O O O O O O O O O ⟨_,_,O,hg2.1,hg2.2⟩ ⟨hg2,Y⟩ (Af (Ag (Dn 9 [] [0,1,0,0,8,0,56,120,248,511,1023] (by kernel_rfl) (by kernel_rfl) (by kernel_rfl) (by kernel_rfl) (by kernel_rfl) O (by rfl) ?_))));iterate 6 refine Fy tt O (Ai O) O O O O O Y ?_
 obtain ⟨hg4,h⟩:=Ac h;refine Fy tt O (Ai O) O O O O O hg4 ?_;obtain ⟨hg5,h⟩:=Ac h;refine Fy tt O (Ai O) O O O O O hg5 ?_;obtain ⟨hg6,h⟩:=Ac h;refine Fy tt O (Ai O) O O O O O hg6 (Tb ?_);show VO _ _ _ _ _;refine Ad tt O hg4 (Ao tt O O O O O O O O O O ⟨_,_,O,hg5.1,hg5.2⟩ ⟨hg5,Y⟩ (Af (Ag (Ab (Aa O (Aa O (Af (Ag (Bz (F:=fun k=>Kb N g_0 p_1 from_2 a_3 v1 k) h (α:=List Int) (J:=fun (l7:List Int)=>(⟨[(10,.ptr 10 0),(11,.ptr 11 0)],[(1160,some (3,.ints ((v1.free.set ((u_4).toNat) ((v1.free.getD ((u_4).toNat) 0)-(1:Int))).set ((a_3).toNat) (((v1.free.set ((u_4).toNat) ((v1.free.getD ((u_4).toNat) 0)-(1:Int))).getD ((a_3).toNat) 0)+(1:Int))))),(1161,some (3,.ints l7)),(1162,some (3,.ints v1.placed))],[(10,some [.nil,.nil,.nil]),(11,some [.row 1160 0 v1.free.length,.row 1161 0 v1.tails.length,.row 1162 0 v1.placed.length])]⟩:PS)) ?_ ?_)))))))))
 ·rintro l7 h;show VC _ _ _ (⟨[(10,.ptr 10 0),(11,.ptr 11 0)],[(1160,some (3,.ints ((v1.free.set ((u_4).toNat) ((v1.free.getD ((u_4).toNat) 0)-(1:Int))).set ((a_3).toNat) (((v1.free.set ((u_4).toNat) ((v1.free.getD ((u_4).toNat) 0)-(1:Int))).getD ((a_3).toNat) 0)+(1:Int))))),(1161,some (3,.ints l7)),(1162,some (3,.ints v1.placed))],[(10,some [.nil,.nil,.nil]),(11,some [.row 1160 0 v1.free.length,.row 1161 0 v1.tails.length,.row 1162 0 v1.placed.length])]⟩:PS);refine Ag (Ab (Aa O (Ao tt O O O O O O O O O O O ⟨Y,Y,Y,Y⟩ (Af ?_))));show VC ..;obtain ⟨hg7,h⟩:=Ac h;obtain ⟨hg8,h⟩:=Ac h;refine Bg ?_;show ∃ _,_;cases h;exact ⟨[1160,1161,1162],_,O,⟨O,O,O,Y⟩,O,(.eq (by simp only [hg7,hg8]; rfl)),O⟩
 intro k h;refine Ap (Bh (α:=(List Int)×Int) (fun | (l10,at11)=>(⟨[(2,.ro false (.ints from_2)),(3,.int a_3),(5,.ptr 5 0),(6,.ptr 6 0),(10,.ptr 10 0),(11,.ptr 11 0),(12,.int at11)],[(1160,some (3,.ints ((v1.free.set ((u_4).toNat) ((v1.free.getD ((u_4).toNat) 0)-(1:Int))).set ((a_3).toNat) (((v1.free.set ((u_4).toNat) ((v1.free.getD ((u_4).toNat) 0)-(1:Int))).getD ((a_3).toNat) 0)+(1:Int))))),(1161,some (3,.ints l10)),(1162,some (3,.ints v1.placed))],[(5,some [.int g_0.n,.ro false (.pairs g_0.bars)]),(6,some [.ro false (.ints p_1.free),.ro false (.ints p_1.tails),.ro false (.ints p_1.placed)]),(10,some [.nil,.nil,.nil]),(11,some [.row 1160 0 v1.free.length,.row 1161 0 v1.tails.length,.row 1162 0 v1.placed.length])]⟩:PS)) (Kb N g_0 p_1 from_2 a_3 v1 k) h (En.of ⟨rfl,rfl,rfl,rfl,rfl,rfl,rfl,Y⟩ ⟨rfl,rfl,rfl,Y⟩ ⟨rfl,rfl,rfl,rfl,Y⟩) (fun _=>rfl) ?_);rintro n ⟨l10,at11⟩ h;rw [Kb] at h;show VC _ _ _ (⟨[(2,.ro false (.ints from_2)),(3,.int a_3),(5,.ptr 5 0),(6,.ptr 6 0),(10,.ptr 10 0),(11,.ptr 11 0),(12,.int at11)],[(1160,some (3,.ints ((v1.free.set ((u_4).toNat) ((v1.free.getD ((u_4).toNat) 0)-(1:Int))).set ((a_3).toNat) (((v1.free.set ((u_4).toNat) ((v1.free.getD ((u_4).toNat) 0)-(1:Int))).getD ((a_3).toNat) 0)+(1:Int))))),(1161,some (3,.ints l10)),(1162,some (3,.ints v1.placed))],[(5,some [.int g_0.n,.ro false (.pairs g_0.bars)]),(6,some [.ro false (.ints p_1.free),.ro false (.ints p_1.tails),.ro false (.ints p_1.placed)]),(10,some [.nil,.nil,.nil]),(11,some [.row 1160 0 v1.free.length,.row 1161 0 v1.tails.length,.row 1162 0 v1.placed.length])]⟩:PS);refine Ag (Ag (Ab (Aa O (Aa O (Aa O (Af (Ar O (fun hb9=>?_) (fun hb9=>?_))))))))
 ·replace h:=Ak hb9 h;refine Aq (Ap (Ag (Ab (Aa O (Aa O ?_)))));obtain ⟨hg10,h⟩:=Ac h;refine Ad tt O hg10 (Aa O (Aa O (Af (Ag (Cu (by kernel_rfl) (by kernel_rfl) ?_)))));iterate 5 refine Bq tt O (Ai O) O O O Y ?_
  obtain ⟨hg11,h⟩:=Ac h;refine Bq tt O (Ai O) O O O hg11 (Bq tt O (Ai O) O O O Y ?_);obtain ⟨hg12,h⟩:=Ac h;refine Bq tt O (Ai O) O O O hg12 ?_;iterate 2 refine Bq tt O (Ai O) O O O Y ?_
  obtain ⟨v13,hc13,h⟩:=Ae h;refine Xh (Qi N (g_0.bars.getD (((p_1.placed.getD (((from_2.getD ((at11).toNat) 0)).toNat) 0)).toNat) (0,0)) at11 v13 hc13) O (Ai O) O O O O O O ⟨⟨O,O,Y⟩,O,Y⟩ (Bq tt O (Ai O) O O O Y (Ms (Ag (Ab ?_))));iterate 4 refine Aa O ?_
  obtain ⟨hg14,h⟩:=Ac h;refine Ad tt O hg14 ?_;obtain ⟨hg15,h⟩:=Ac h;refine Ao tt O O O O O O O O O O ⟨_,_,O,hg15.1,hg15.2⟩ ⟨hg15,Y⟩ (Af (Ab (Aa O (Aa O (Af ?_)))));show ∃ _,_;exact ⟨((l10.set (((from_2.getD ((at11).toNat) 0)).toNat) at11),v13),(En.of ⟨O,O,O,O,O,O,O,Y⟩ ⟨O,O,O,Y⟩ ⟨O,O,O,O,Y⟩),h⟩
 replace h:=Al hb9 h;refine Bp ?_;show ∃ _,_;exact ⟨l10,(En.of ⟨O,O,Y⟩ ⟨O,O,O,Y⟩ ⟨O,O,Y⟩),h⟩
def Fm (N:Nat) (g_0:Grf):Option (Grf):=
 grd (g_0.bars.length≤4294967296) <|
 some (⟨g_0.n,(([]:List (Int×Int))++g_0.bars)⟩:Grf)
theorem Hv (N:Nat) (g_0:Grf) (r:Grf) (h:Fm N g_0=some r):PCall Tryz.prog 61 [gD g_0] [(42,.pairs r.bars)] (.agg [.int r.n,.row 0 0 r.bars.length]):=by
 unfold Fm at h;refine Aj (TT:=TT) tt Tryz.func61 O O Tryz.ntmps61 (congrArg Array.toList Tryz.results61) O O fun w0=>(Ag (Ab (Hz O O O O O O O O O (Bi tt O O O O O O O O O (Af (Ag (Dn 6 [5] [0,1,0,0,8,28,63,127] (by kernel_rfl) (by kernel_rfl) (by kernel_rfl) (by kernel_rfl) (by kernel_rfl) O (by rfl) ?_)))))));iterate 2 refine Fy tt O (Ai O) O O O O O Y ?_
 refine Adi tt (Ai O) O O O O O ?_;iterate 2 refine Fy tt O (Ai O) O O O O O Y ?_
 obtain ⟨hg1,h⟩:=Ac h;refine Abc tt (Ai O) O O O O O O O O (fun _=>O) O O O O O O hg1 (Tb ?_);show VO _ _ _ _ _;refine Fz (Ai O) (Df Cv O O) O O (Ao tt O O O O O O O O O O O ⟨Y,Y,Y⟩ (Af (Bg ?_)));show ∃ _,_;cases h;exact ⟨[8],_,O,⟨O,Y⟩,O,.eq O,O⟩
def Jl (N:Nat) (g_0:Grf):Option (Grf):=
 grd (g_0.bars.length≤4294967296) <|
 some (⟨g_0.n,(([]:List (Int×Int))++g_0.bars)⟩:Grf)
theorem Sf (N:Nat) (g_0:Grf) (r:Grf) (h:Jl N g_0=some r):PCall Tryz.prog 56 [gD g_0] [(42,.pairs r.bars)] (.agg [.int r.n,.row 0 0 r.bars.length]):=by
 unfold Jl at h;refine Aj (TT:=TT) tt Tryz.func56 O O Tryz.ntmps56 (congrArg Array.toList Tryz.results56) O O fun w0=>(Ag (Ab (Hz O O O O O O O O O (Bi tt O O O O O O O O O (Af (Ag (Dn 6 [5] [0,1,0,0,8,28,63,127] (by kernel_rfl) (by kernel_rfl) (by kernel_rfl) (by kernel_rfl) (by kernel_rfl) O (by rfl) ?_)))))));iterate 2 refine Fy tt O (Ai O) O O O O O Y ?_
 refine Adi tt (Ai O) O O O O O ?_;iterate 2 refine Fy tt O (Ai O) O O O O O Y ?_
 obtain ⟨hg1,h⟩:=Ac h;refine Abc tt (Ai O) O O O O O O O O (fun _=>O) O O O O O O hg1 (Tb ?_);show VO _ _ _ _ _;refine Fz (Ai O) (Df Cv O O) O O (Ao tt O O O O O O O O O O O ⟨Y,Y,Y⟩ (Af (Bg ?_)));show ∃ _,_;cases h;exact ⟨[8],_,O,⟨O,Y⟩,O,.eq O,O⟩
end
section
open Go.RowKit
def Kd (N:Nat) (g_0:Grf) (v_1:Int):Option (Bool):=
 (Lo N v_1 (0:Int) (w64 (g_0.n-(1:Int)))).bind fun v1=>
 some v1
theorem Yn (N:Nat) (g_0:Grf) (v_1:Int) (r:Bool) (h:Kd N g_0 v_1=some r):PCall Tryz.prog 90 [gD g_0,.int v_1] [] (.bool r):=by
 unfold Kd at h;refine Aj (TT:=TT) tt Tryz.func90 O O Tryz.ntmps90 (congrArg Array.toList Tryz.results90) O O fun w0=>(Ag (Ab (Hz O O O O O O O O O (Aa O (Af (Ag (Ab (Aa O (Aa O ?_)))))))));refine Aa O (Fz (Ai O) (pSubW O O O) O O ?_);obtain ⟨v1,hc1,h⟩:=Ae h;refine Ba (Mb N v_1 (0:Int) (w64 (g_0.n-(1:Int))) v1 hc1) O O O O O O O O ⟨O,O,O,Y⟩ (Aa O (Af (Bg ?_)));show ∃ _,_;cases h;exact ⟨[],_,O,Y,O,.eq O,O⟩
def Kk (N:Nat) (a_0:Int) (b_1:Int):Option (Int):=
 cnd (decide (a_0<b_1)) (
  some (-1:Int)) (
  cnd (decide (a_0 > b_1)) (
   some (1:Int)) (
   some (0:Int)))
theorem Tx (N:Nat) (a_0:Int) (b_1:Int) (r:Int) (h:Kk N a_0 b_1=some r):PCall Tryz.prog 94 [.int a_0,.int b_1] [] (.int r):=by
 unfold Kk at h;refine Aj (TT:=TT) tt Tryz.func94 O O Tryz.ntmps94 (congrArg Array.toList Tryz.results94) O O fun w0=>(Ag (Ab (Aa O (Af (Ag (Ap (Ag (Ab ?_))))))));iterate 4 refine Aa O ?_
 refine Af (Ar O (fun hb1=>?_) (fun hb1=>?_))
 ·replace h:=Ak hb1 h;refine Ag (Ab (Aa O (Af (Bg ?_))));show ∃ _,_;cases h;exact ⟨[],_,O,Y,O,.eq O,O⟩
 replace h:=Al hb1 h;refine Ag (Ab ?_);iterate 4 refine Aa O ?_
 refine Af (Ar O (fun hb2=>?_) (fun hb2=>?_))
 ·replace h:=Ak hb2 h;refine Ag (Ab (Aa O (Af (Bg ?_))));show ∃ _,_;cases h;exact ⟨[],_,O,Y,O,.eq O,O⟩
 replace h:=Al hb2 h;refine Aq (Ag (Ab (Aa O (Af (Bg ?_)))));show ∃ _,_;cases h;exact ⟨[],_,O,Y,O,.eq O,O⟩
def Ll (N:Nat) (x_0:Int×Int) (y_1:Int×Int):Option (Int):=
 (Kk N x_0.1 y_1.1).bind fun v1=>
 cnd (v1 != (0:Int)) (
  some v1) (
  (Kk N x_0.2 y_1.2).bind fun v2=>
  some v2)
theorem Aax (N:Nat) (x_0:Int×Int) (y_1:Int×Int) (r:Int) (h:Ll N x_0 y_1=some r):PCall Tryz.prog 105 [.agg [.int x_0.1,.int x_0.2],.agg [.int y_1.1,.int y_1.2]] [] (.int r):=by
 unfold Ll at h;refine Aj (TT:=TT) tt Tryz.func105 O O Tryz.ntmps105 (congrArg Array.toList Tryz.results105) O O fun w0=>(Ag (Ab ?_));iterate 2 refine Hz O O O O O O O O O ?_
 refine Aa O (Af (Ag (Ag (Ab ?_))));iterate 4 refine Aa O ?_
 obtain ⟨v1,hc1,h⟩:=Ae h;refine Ba (Tx N x_0.1 y_1.1 v1 hc1) O O O O O O O O ⟨O,O,Y⟩ (Aa O (Af (Ag (Ab (Aa O (Aa O (Af (Ar O (fun hb2=>?_) (fun hb2=>?_)))))))))
 ·replace h:=Ak hb2 h;refine Ag (Ab (Aa O (Aa O (Af (Bg ?_)))));show ∃ _,_;cases h;exact ⟨[],_,O,Y,O,.eq O,O⟩
 replace h:=Al hb2 h;refine Aq (Ag (Ab ?_));iterate 4 refine Aa O ?_
 obtain ⟨v2,hc3,h⟩:=Ae h;refine Ba (Tx N x_0.2 y_1.2 v2 hc3) O O O O O O O O ⟨O,O,Y⟩ (Aa O (Af (Bg ?_)));show ∃ _,_;cases h;exact ⟨[],_,O,Y,O,.eq O,O⟩
end
section
open Go.RowKit
def Ja (N:Nat) (g_0:Grf) (k:Unit→Option (Bool)):Nat→Int→Option (Bool)
 | 0,_=>none
 | n+1,x8=>
  cnd (decide (x8<(g_0.bars.length:Int))) (
   grd (0≤x8∧x8<(g_0.bars.length:Int)) <|
   cnd (decide (((g_0.bars.getD ((x8).toNat) (0,0)).1)<(0:Int))) (
    some false) (
    cnd (decide (((g_0.bars.getD ((x8).toNat) (0,0)).1)≥((g_0.bars.getD ((x8).toNat) (0,0)).2))) (
     some false) (
     cnd (decide (((g_0.bars.getD ((x8).toNat) (0,0)).2)≥g_0.n)) (
      some false) (
      cnd (decide (x8 > (0:Int))) (
       grd (Bc (x8-(1:Int))) <|
       grd (0≤(x8-(1:Int))∧(x8-(1:Int))<(g_0.bars.length:Int)) <|
       (Ll N (g_0.bars.getD (((x8-(1:Int))).toNat) (0,0)) (g_0.bars.getD ((x8).toNat) (0,0))).bind fun v10=>
       cnd (decide (v10 > (0:Int))) (
        some false) (
        grd (Bc (x8+(1:Int))) <|
        Ja N g_0 k n (x8+(1:Int)))) (
       grd (Bc (x8+(1:Int))) <|
       Ja N g_0 k n (x8+(1:Int))))))) (
   k ())
def Cs (N:Nat) (g_0:Grf):Option (Bool):=
 (Lo N g_0.n (1:Int) (8:Int)).bind fun v1=>
 cnd (!v1) (
  some false) (
  cnd (decide ((g_0.bars.length:Int) > (24:Int))) (
   some false) (
   Ja N g_0 (fun (_ : Unit) =>
      some true) N (0:Int)))
theorem Fx (N:Nat) (g_0:Grf) (r:Bool) (h:Cs N g_0=some r):PCall Tryz.prog 60 [gD g_0] [] (.bool r):=by
 unfold Cs at h;refine Aj (TT:=TT) tt Tryz.func60 O O Tryz.ntmps60 (congrArg Array.toList Tryz.results60) O O fun w0=>(Ag (Ab (Hz O O O O O O O O O (Aa O (Af (Ag (Ag (Ab (Aa O ?_)))))))));refine Aa O ?_;obtain ⟨v1,hc1,h⟩:=Ae h;refine Ba (Mb N g_0.n (1:Int) (8:Int) v1 hc1) O O O O O O O O ⟨O,O,O,Y⟩ (Aa O (Aa O (Be O O O (fun hb2=>?_) (fun hb2=>?_))))
 ·replace h:=Ak hb2 h;iterate 4 refine Hg O O O O hb2 O O ?_
  refine Bm O O O O O hb2 O (Af (Ce O O (Ag (Ab (Aa O (Af (Bg ?_)))))));show ∃ _,_;cases h;exact ⟨[],_,O,Y,O,.eq O,O⟩
 replace h:=Al hb2 h;iterate 4 refine Av tt O O O O O hb2 O O O Y ?_
 refine Aw O O O O O hb2 O (Af (Ar O (fun hb3=>?_) (fun hb3=>?_)))
 ·replace h:=Ak hb3 h;refine Ag (Ab (Aa O (Af (Bg ?_))));show ∃ _,_;cases h;exact ⟨[],_,O,Y,O,.eq O,O⟩
 replace h:=Al hb3 h;refine Aq (Ag (Ag (Ab ?_)));iterate 4 refine Aa O ?_
 refine Af (Bz (F:=fun k=>Ja N g_0 k) h (α:=Unit) (J:=fun (_:Unit)=>(⟨[],[],[]⟩:PS)) ?_ ?_)
 ·rintro ⟨⟩ h;show VC _ _ _ (⟨[],[],[]⟩:PS);refine Ag (Ab (Aa O (Af (Bg ?_))));show ∃ _,_;cases h;exact ⟨[],_,O,Y,O,.eq O,O⟩
 intro k h;refine Ap (Bh (α:=Int) (fun (x8:Int)=>(⟨[(1,.ptr 1 0),(16,.ro false (.pairs g_0.bars)),(17,.int (g_0.bars.length:Int)),(18,.int x8)],[],[(1,some [.int g_0.n,.ro false (.pairs g_0.bars)])]⟩:PS)) (Ja N g_0 k) h (En.of ⟨O,O,O,O,Y⟩ trivial ⟨O,Y⟩) (fun _=>O) ?_);rintro n x8 h;rw [Ja] at h;show VC _ _ _ (⟨[(1,.ptr 1 0),(16,.ro false (.pairs g_0.bars)),(17,.int (g_0.bars.length:Int)),(18,.int x8)],[],[(1,some [.int g_0.n,.ro false (.pairs g_0.bars)])]⟩:PS);refine Ag (Ab (Aa O (Af (Ag (Ar O (fun hb4=>?_) (fun hb4=>?_))))))
 ·replace h:=Ak hb4 h;refine Aq (Ag (Ap (Ag (Ab (Aa O ?_)))));obtain ⟨hg5,h⟩:=Ac h;refine Ad tt O hg5 (Aa O (Bi tt O O O O O O O O O (Aa O (Ao tt O O O O O O O O O O O ⟨Y,Y,Y⟩ (Af (Ag (Cu (by kernel_rfl) (by kernel_rfl) ?_)))))));iterate 4 refine Bq tt O (Ai O) O O O Y ?_
  refine Ju O O O (fun hb6=>?_) (fun hb6=>?_)
  ·replace h:=Ak hb6 h;iterate 5 refine Sx O O O O hb6 O O ?_
   refine Fk O (Ai O) O O O hb6 O (Bq tt O (Ai O) O O O Y ?_);iterate 5 refine Sx O O O O O O O ?_
   refine Fk O (Ai O) O O O O O (Bq tt O (Ai O) O O O Y ?_);iterate 3 refine Sx O O O O O O O ?_
   iterate 9 refine cNoU O O O O O ?_
   refine Sx O O O O O O O (Fk O (Ai O) O O O O O (Ms (Ce O O (Ag (Ab (Aa O (Af (Bg ?_))))))));show ∃ _,_;cases h;exact ⟨[],_,O,Y,O,.eq O,O⟩
  replace h:=Al hb6 h;iterate 5 refine Bq tt O (Bl O O O O hb6) O O O Y ?_
  refine Ge O (Ai O) O O O hb6 O (Bq tt O (Ai O) O O O Y (Ju O O O (fun hb7=>?_) (fun hb7=>?_)))
  ·replace h:=Ak hb7 h;iterate 5 refine Sx O O O O hb7 O O ?_
   refine Fk O (Ai O) O O O hb7 O (Bq tt O (Ai O) O O O Y ?_);iterate 3 refine Sx O O O O O O O ?_
   iterate 9 refine cNoU O O O O O ?_
   refine Sx O O O O O O O (Fk O (Ai O) O O O O O (Ms (Ce O O (Ag (Ab (Aa O (Af (Bg ?_))))))));show ∃ _,_;cases h;exact ⟨[],_,O,Y,O,.eq O,O⟩
  replace h:=Al hb7 h;iterate 5 refine Bq tt O (Bl O O O O hb7) O O O Y ?_
  refine Ge O (Ai O) O O O hb7 O (Bq tt O (Ai O) O O O Y (Ju O O O (fun hb8=>?_) (fun hb8=>?_)))
  ·replace h:=Ak hb8 h;iterate 3 refine Sx O O O O hb8 O O ?_
   iterate 9 refine cNoU O O O O O ?_
   refine Sx O O O O hb8 O O (Fk O (Ai O) O O O hb8 O (Ms (Ce O O (Ag (Ab (Aa O (Af (Bg ?_))))))));show ∃ _,_;cases h;exact ⟨[],_,O,Y,O,.eq O,O⟩
  replace h:=Al hb8 h;iterate 3 refine Bq tt O (Bl O O O O hb8) O O O Y ?_
  refine Ju O O O (fun hb9=>?_) (fun hb9=>?_)
  ·replace h:=Ak hb9 h;iterate 3 refine Bq tt O (Bl O O O O hb9) O O O Y ?_
   obtain ⟨hg10,h⟩:=Ac h;refine Bq tt O (Bl O O O O hb9) O O O hg10 ?_;obtain ⟨hg11,h⟩:=Ac h;refine Bq tt O (Bl O O O O hb9) O O O hg11 ?_;iterate 2 refine Bq tt O (Bl O O O O hb9) O O O Y ?_
   obtain ⟨v10,hc12,h⟩:=Ae h;refine Xh (Aax N (g_0.bars.getD (((x8-(1:Int))).toNat) (0,0)) (g_0.bars.getD ((x8).toNat) (0,0)) v10 hc12) O (Bl O O O O hb9) O O O O O O ⟨⟨O,O,Y⟩,⟨O,O,Y⟩,Y⟩ (Bq tt O (Bl O O O O hb9) O O O Y (Fk O (Bl O O O O hb8) O O O hb9 O (Ge O (Ai O) O O O hb8 O (Ms (Ar O (fun hb13=>?_) (fun hb13=>?_))))))
   ·replace h:=Ak hb13 h;refine Ag (Ab (Aa O (Af (Bg ?_))));show ∃ _,_;cases h;exact ⟨[],_,O,Y,O,.eq O,O⟩
   replace h:=Al hb13 h;refine Aq (Ab ?_);obtain ⟨hg14,h⟩:=Ac h;refine Ad tt O hg14 (Aa O (Af ?_));show ∃ _,_;exact ⟨(x8+(1:Int)),(En.of ⟨O,O,O,O,Y⟩ trivial ⟨O,Y⟩),h⟩
  replace h:=Al hb9 h;iterate 9 refine cNoT O O O O hb9 O O ?_
  refine Ge O (Bl O O O O hb8) O O O hb9 O (Ge O (Ai O) O O O hb8 O (Ms (Cp O O (Aq (Ab ?_)))));obtain ⟨hg15,h⟩:=Ac h;refine Ad tt O hg15 (Aa O (Af ?_));show ∃ _,_;exact ⟨(x8+(1:Int)),(En.of ⟨O,O,O,O,Y⟩ trivial ⟨O,Y⟩),h⟩
 replace h:=Al hb4 h;refine Bp ?_;show ∃ _,_;exact ⟨(),(En.of trivial trivial trivial),h⟩
def Gk (N:Nat) (g_0:Grf) (k:Unit→Option (Bool)):Nat→Int→Option (Bool)
 | 0,_=>none
 | n+1,i3=>
  cnd (decide (i3<(g_0.bars.length:Int))) (
   grd (Bc (i3-(1:Int))) <|
   grd (0≤(i3-(1:Int))∧(i3-(1:Int))<(g_0.bars.length:Int)) <|
   grd (0≤i3∧i3<(g_0.bars.length:Int)) <|
   cnd (((g_0.bars.getD (((i3-(1:Int))).toNat) (0,0)).1==(g_0.bars.getD ((i3).toNat) (0,0)).1)&&((g_0.bars.getD (((i3-(1:Int))).toNat) (0,0)).2==(g_0.bars.getD ((i3).toNat) (0,0)).2)) (
    some true) (
    grd (Bc (i3+(1:Int))) <|
    Gk N g_0 k n (i3+(1:Int)))) (
   k ())
def Lf (N:Nat) (g_0:Grf):Option (Bool):=
 Gk N g_0 (fun (_ : Unit) =>
    some false) N (1:Int)
theorem Wg (N:Nat) (g_0:Grf) (r:Bool) (h:Lf N g_0=some r):PCall Tryz.prog 100 [gD g_0] [] (.bool r):=by
 unfold Lf at h;refine Aj (TT:=TT) tt Tryz.func100 O O Tryz.ntmps100 (congrArg Array.toList Tryz.results100) O O fun w0=>(Ag (Ab (Hz O O O O O O O O O (Aa O (Af (Ag (Ag (Ab (Aa O ?_)))))))));refine Af (Bz (F:=fun k=>Gk N g_0 k) h (α:=Unit) (J:=fun (_:Unit)=>(⟨[],[],[]⟩:PS)) ?_ ?_)
 ·rintro ⟨⟩ h;show VC _ _ _ (⟨[],[],[]⟩:PS);refine Ag (Ab (Aa O (Af (Bg ?_))));show ∃ _,_;cases h;exact ⟨[],_,O,Y,O,.eq O,O⟩
 intro k h;refine Ap (Bh (α:=Int) (fun (i3:Int)=>(⟨[(1,.ptr 1 0),(3,.int i3)],[],[(1,some [.int g_0.n,.ro false (.pairs g_0.bars)])]⟩:PS)) (Gk N g_0 k) h (En.of ⟨O,O,Y⟩ trivial ⟨O,Y⟩) (fun _=>O) ?_);rintro n i3 h;rw [Gk] at h;show VC _ _ _ (⟨[(1,.ptr 1 0),(3,.int i3)],[],[(1,some [.int g_0.n,.ro false (.pairs g_0.bars)])]⟩:PS);refine Ag (Ag (Ab ?_));iterate 5 refine Aa O ?_
 refine Af (Ar O (fun hb1=>?_) (fun hb1=>?_))
 ·replace h:=Ak hb1 h;refine Aq (Ag (Ap (Ag (Cu (by kernel_rfl) (by kernel_rfl) ?_))));iterate 3 refine Bq tt O (Ai O) O O O Y ?_
  obtain ⟨hg2,h⟩:=Ac h;refine Bq tt O (Ai O) O O O hg2 ?_;obtain ⟨hg3,h⟩:=Ac h;refine Bq tt O (Ai O) O O O hg3 ?_;iterate 4 refine Bq tt O (Ai O) O O O Y ?_
  obtain ⟨hg4,h⟩:=Ac h;refine Bq tt O (Ai O) O O O hg4 (Bq tt O (Ai O) O O O Y (Abp (Ai O) (pEqP Pa O O O) O O (Ms (Ar O (fun hb5=>?_) (fun hb5=>?_)))))
  ·replace h:=Ak hb5 h;refine Ag (Ab (Aa O (Af (Bg ?_))));show ∃ _,_;cases h;exact ⟨[],_,O,Y,O,.eq O,O⟩
  replace h:=Al hb5 h;refine Aq (Ab (Aa O ?_));obtain ⟨hg6,h⟩:=Ac h;refine Ad tt O hg6 (Aa O (Af ?_));show ∃ _,_;exact ⟨(i3+(1:Int)),(En.of ⟨O,O,Y⟩ trivial ⟨O,Y⟩),h⟩
 replace h:=Al hb1 h;refine Bp ?_;show ∃ _,_;exact ⟨(),(En.of trivial trivial trivial),h⟩
def Fi (N:Nat) (g_0:Grf) (anchors_1:List Int) (k:Unit→Option (Bool)):Nat→Int→Option (Bool)
 | 0,_=>none
 | n+1,x9=>
  cnd (decide (x9<(anchors_1.length:Int))) (
   grd (0≤x9∧x9<(anchors_1.length:Int)) <|
   (Kd N g_0 (anchors_1.getD ((x9).toNat) 0)).bind fun v11=>
   cnd (!v11) (
    some false) (
    cnd (decide (x9 > (0:Int))) (
     grd (Bc (x9-(1:Int))) <|
     grd (0≤(x9-(1:Int))∧(x9-(1:Int))<(anchors_1.length:Int)) <|
     cnd (decide ((anchors_1.getD (((x9-(1:Int))).toNat) 0)≥(anchors_1.getD ((x9).toNat) 0))) (
      some false) (
      grd (Bc (x9+(1:Int))) <|
      Fi N g_0 anchors_1 k n (x9+(1:Int)))) (
     grd (Bc (x9+(1:Int))) <|
     Fi N g_0 anchors_1 k n (x9+(1:Int))))) (
   k ())
def He (N:Nat) (g_0:Grf) (anchors_1:List Int):Option (Bool):=
 Fi N g_0 anchors_1 (fun (_ : Unit) =>
    (Cs N g_0).bind fun v5=>
    cnd v5 (
     (Lf N g_0).bind fun v6=>
     some (!v6)) (
     some false)) N (0:Int)
theorem Kv (N:Nat) (g_0:Grf) (anchors_1:List Int) (r:Bool) (h:He N g_0 anchors_1=some r):PCall Tryz.prog 46 [gD g_0,.ro false (.ints anchors_1)] [] (.bool r):=by
 unfold He at h;refine Aj (TT:=TT) tt Tryz.func46 O O Tryz.ntmps46 (congrArg Array.toList Tryz.results46) O O fun w0=>(Ag (Ab (Hz O O O O O O O O O (Aa O (Af (Ag (Ag (Ab (Aa O ?_)))))))));refine Aa O (Aa O (Af (Bz (F:=fun k=>Fi N g_0 anchors_1 k) h (α:=Unit) (J:=fun (_:Unit)=>(⟨[(2,.ptr 2 0)],[],[(2,some [.int g_0.n,.ro false (.pairs g_0.bars)])]⟩:PS)) ?_ ?_)))
 ·rintro ⟨⟩ h;show VC _ _ _ (⟨[(2,.ptr 2 0)],[],[(2,some [.int g_0.n,.ro false (.pairs g_0.bars)])]⟩:PS);refine Ag (Ab (Aa O ?_));obtain ⟨v5,hc1,h⟩:=Ae h;refine Ba (Fx N g_0 v5 hc1) O O O O O O O O ⟨⟨O,O,Y⟩,Y⟩ (Aa O (Be O O O (fun hb2=>?_) (fun hb2=>?_)))
  ·replace h:=Ak hb2 h;refine Av tt O O O O O hb2 O O O Y ?_;obtain ⟨v6,hc3,h⟩:=Ae h;refine Eh (Wg N g_0 v6 hc3) O O O O hb2 O O O O O O O ⟨⟨O,O,Y⟩,Y⟩ (Av tt O O O O O hb2 O O O Y (Bm O O O O O hb2 O (Aa O (Af (Bg ?_)))));show ∃ _,_;cases h;exact ⟨[],_,O,Y,O,.eq O,O⟩
  replace h:=Al hb2 h;iterate 3 refine Kq O O O O hb2 O O ?_
  refine Aw O O O O O hb2 O (Aa O (Af (Bg ?_)));show ∃ _,_;cases h;exact ⟨[],_,O,Y,O,.eq O,O⟩
 intro k h;refine Ap (Bh (α:=Int) (fun (x9:Int)=>(⟨[(1,.ro false (.ints anchors_1)),(2,.ptr 2 0),(7,.ro false (.ints anchors_1)),(8,.int (anchors_1.length:Int)),(9,.int x9)],[],[(2,some [.int g_0.n,.ro false (.pairs g_0.bars)])]⟩:PS)) (Fi N g_0 anchors_1 k) h (En.of ⟨O,O,O,O,O,Y⟩ trivial ⟨O,Y⟩) (fun _=>O) ?_);rintro n x9 h;rw [Fi] at h;show VC _ _ _ (⟨[(1,.ro false (.ints anchors_1)),(2,.ptr 2 0),(7,.ro false (.ints anchors_1)),(8,.int (anchors_1.length:Int)),(9,.int x9)],[],[(2,some [.int g_0.n,.ro false (.pairs g_0.bars)])]⟩:PS);refine Ag (Ab (Aa O (Af (Ag (Ar O (fun hb4=>?_) (fun hb4=>?_))))))
 ·replace h:=Ak hb4 h;refine Aq (Ag (Ap (Ag (Ab (Aa O ?_)))));obtain ⟨hg5,h⟩:=Ac h;refine Ad tt O hg5 (Aa O (Aa O (Aa O (Af (Ag (Ab (Aa O (Aa O ?_))))))));obtain ⟨v11,hc6,h⟩:=Ae h;refine Ba (Yn N g_0 (anchors_1.getD ((x9).toNat) 0) v11 hc6) O O O O O O O O ⟨⟨O,O,Y⟩,O,Y⟩ (Aa O (Aa O (Be O O O (fun hb7=>?_) (fun hb7=>?_))))
  ·replace h:=Ak hb7 h;iterate 3 refine Hg O O O O hb7 O O ?_
   iterate 7 refine oNoU O O O O O ?_
   refine Hg O O O O hb7 O O (Bm O O O O O hb7 O (Af (Ce O O (Ag (Ab (Aa O (Af (Bg ?_))))))));show ∃ _,_;cases h;exact ⟨[],_,O,Y,O,.eq O,O⟩
  replace h:=Al hb7 h;iterate 3 refine Av tt O O O O O hb7 O O O Y ?_
  refine Be O O O (fun hb8=>?_) (fun hb8=>?_)
  ·replace h:=Ak hb8 h;iterate 2 refine Av tt O O O O O hb8 O O O Y ?_
   obtain ⟨hg9,h⟩:=Ac h;refine Av tt O O O O O hb8 O O O hg9 ?_;obtain ⟨hg10,h⟩:=Ac h;refine Av tt O O O O O hb8 O O O hg10 ?_;iterate 3 refine Av tt O O O O O hb8 O O O Y ?_
   refine Rk O O O O hb7 O O O O hb8 O (Aw O O O O O hb7 O (Af (Ar O (fun hb11=>?_) (fun hb11=>?_))))
   ·replace h:=Ak hb11 h;refine Ag (Ab (Aa O (Af (Bg ?_))));show ∃ _,_;cases h;exact ⟨[],_,O,Y,O,.eq O,O⟩
   replace h:=Al hb11 h;refine Aq (Ab ?_);obtain ⟨hg12,h⟩:=Ac h;refine Ad tt O hg12 (Aa O (Af ?_));show ∃ _,_;exact ⟨(x9+(1:Int)),(En.of ⟨O,O,O,O,O,Y⟩ trivial ⟨O,Y⟩),h⟩
  replace h:=Al hb8 h;iterate 7 refine Kq O O O O hb8 O O ?_
  refine Rl O O O O hb7 O O O O hb8 O (Aw O O O O O hb7 O (Af (Cp O O (Aq (Ab ?_)))));obtain ⟨hg13,h⟩:=Ac h;refine Ad tt O hg13 (Aa O (Af ?_));show ∃ _,_;exact ⟨(x9+(1:Int)),(En.of ⟨O,O,O,O,O,Y⟩ trivial ⟨O,Y⟩),h⟩
 replace h:=Al hb4 h;refine Bp ?_;show ∃ _,_;exact ⟨(),(En.of ⟨O,Y⟩ trivial ⟨O,Y⟩),h⟩
def Ts (N:Nat) (x_0:Int×Int) (v_1:Int):Option (Bool):=
 cnd (x_0.1==v_1) (
  some true) (
  some (x_0.2==v_1))
theorem M_Bar_has_w (N:Nat) (x_0:Int×Int) (v_1:Int) (r:Bool) (h:Ts N x_0 v_1=some r):PCall Tryz.prog 47 [.agg [.int x_0.1,.int x_0.2],.int v_1] [] (.bool r):=by
 unfold Ts at h;refine Aj (TT:=TT) tt Tryz.func47 O O Tryz.ntmps47 (congrArg Array.toList Tryz.results47) O O fun w0=>(Ag (Ab (Hz O O O O O O O O O (Aa O (Af (Ag (Ab ?_)))))));iterate 5 refine Aa O ?_
 refine Be O O O (fun hb1=>?_) (fun hb1=>?_)
 ·replace h:=Ak hb1 h;iterate 4 refine Hg O O O O hb1 O O ?_
  refine Bm O O O O O hb1 O (Aa O (Af (Bg ?_)));show ∃ _,_;cases h;exact ⟨[],_,O,Y,O,.eq O,O⟩
 replace h:=Al hb1 h;iterate 4 refine Av tt O O O O O hb1 O O O Y ?_
 refine Aw O O O O O hb1 O (Aa O (Af (Bg ?_)));show ∃ _,_;cases h;exact ⟨[],_,O,Y,O,.eq O,O⟩
def Ka (N:Nat) (x_0:Int×Int) (v_1:Int):Option (Int):=
 cnd (x_0.1==v_1) (
  some x_0.2) (
  some x_0.1)
theorem Ya (N:Nat) (x_0:Int×Int) (v_1:Int) (r:Int) (h:Ka N x_0 v_1=some r):PCall Tryz.prog 48 [.agg [.int x_0.1,.int x_0.2],.int v_1] [] (.int r):=by
 unfold Ka at h;refine Aj (TT:=TT) tt Tryz.func48 O O Tryz.ntmps48 (congrArg Array.toList Tryz.results48) O O fun w0=>(Ag (Ab (Hz O O O O O O O O O (Aa O (Af (Ag (Ag (Ab ?_))))))));iterate 4 refine Aa O ?_
 refine Af (Ar O (fun hb1=>?_) (fun hb1=>?_))
 ·replace h:=Ak hb1 h;refine Ag (Ab (Aa O (Aa O (Aa O (Af (Bg ?_))))));show ∃ _,_;cases h;exact ⟨[],_,O,Y,O,.eq O,O⟩
 replace h:=Al hb1 h;refine Aq (Ag (Ab (Aa O (Aa O (Aa O (Af (Bg ?_)))))));show ∃ _,_;cases h;exact ⟨[],_,O,Y,O,.eq O,O⟩
def Br (N:Nat) (g_0:Grf) (l121:List Bool) (v122:Int) (k:Int→Option (List Int)):Nat→(Int×Int)→Option (List Int)
 | 0,_=>none
 | n+1,(n153,x154)=>
  cnd (decide (x154<(g_0.bars.length:Int))) (
   grd (0≤x154∧x154<(g_0.bars.length:Int)) <|
   (Ts N (g_0.bars.getD ((x154).toNat) (0,0)) v122).bind fun v157=>
   cnd v157 (
    (Ka N (g_0.bars.getD ((x154).toNat) (0,0)) v122).bind fun v158=>
    grd (0≤v158∧v158<((List.replicate ((g_0.n).toNat) (false:Bool)).length:Int)) <|
    grd (0≤v158∧v158<(l121.length:Int)) <|
    cnd (l121.getD ((v158).toNat) false) (
     grd (Bc (n153+(1:Int))) <|
     grd (Bc (x154+(1:Int))) <|
     Br N g_0 l121 v122 k n ((n153+(1:Int)),(x154+(1:Int)))) (
     grd (Bc (x154+(1:Int))) <|
     Br N g_0 l121 v122 k n (n153,(x154+(1:Int))))) (
    grd (Bc (x154+(1:Int))) <|
    Br N g_0 l121 v122 k n (n153,(x154+(1:Int))))) (
   k n153)
def Ax (N:Nat) (g_0:Grf) (k:(List Int)→Option (List Int)):Nat→((List Int)×(List Bool)×Int)→Option (List Int)
 | 0,_=>none
 | n+1,(l120,l121,v122)=>
  cnd (decide (v122<g_0.n)) (
   Br N g_0 l121 v122 (fun (n149 : Int) =>
      grd (0≤v122∧v122<((List.replicate ((g_0.n).toNat) (false:Bool)).length:Int)) <|
      grd (0≤v122∧v122<(l121.length:Int)) <|
      cnd (!(l121.getD ((v122).toNat) false)) (
       cnd (decide (n149≥(3:Int))) (
        grd (l120.length+1≤4294967296) <|
        grd (Bc ((-1:Int)+(1:Int))) <|
        Ax N g_0 k n ((l120++([v122]:List Int)),(l121.set ((v122).toNat) true),((-1:Int)+(1:Int)))) (
        grd (Bc (v122+(1:Int))) <|
        Ax N g_0 k n (l120,l121,(v122+(1:Int))))) (
       grd (Bc (v122+(1:Int))) <|
       Ax N g_0 k n (l120,l121,(v122+(1:Int))))) N ((0:Int),(0:Int))) (
   k l120)
def Cq (N:Nat) (g_0:Grf) (anchors_1:List Int) (k:(List Bool)→Option (List Int)):Nat→((List Bool)×Int)→Option (List Int)
 | 0,_=>none
 | n+1,(l160,x161)=>
  cnd (decide (x161<(anchors_1.length:Int))) (
   grd (0≤x161∧x161<(anchors_1.length:Int)) <|
   grd (0≤(anchors_1.getD ((x161).toNat) 0)∧(anchors_1.getD ((x161).toNat) 0)<((List.replicate ((g_0.n).toNat) (false:Bool)).length:Int)) <|
   grd (0≤(anchors_1.getD ((x161).toNat) 0)∧(anchors_1.getD ((x161).toNat) 0)<(l160.length:Int)) <|
   grd (Bc (x161+(1:Int))) <|
   Cq N g_0 anchors_1 k n ((l160.set (((anchors_1.getD ((x161).toNat) 0)).toNat) true),(x161+(1:Int)))) (
   k l160)
def Cw (N:Nat) (g_0:Grf) (anchors_1:List Int):Option (List Int):=
 (He N g_0 anchors_1).bind fun v1=>
 cnd (!v1) (
  some ([]:List Int)) (
  grd (0≤g_0.n∧g_0.n≤4294967296) <|
  Cq N g_0 anchors_1 (fun (l4 : List Bool) =>
     Ax N g_0 (fun (l81 : List Int) =>
        some l81) N (([]:List Int),l4,(0:Int))) N ((List.replicate ((g_0.n).toNat) (false:Bool)),(0:Int)))
theorem Lw (N:Nat) (g_0:Grf) (anchors_1:List Int) (r:List Int) (h:Cw N g_0 anchors_1=some r):PCall Tryz.prog 8 [gD g_0,.ro false (.ints anchors_1)] [(3,.ints r)] (.row 0 0 r.length):=by
 unfold Cw at h;refine Aj (TT:=TT) tt Tryz.func8 O O Tryz.ntmps8 (congrArg Array.toList Tryz.results8) O O fun w0=>(Ag (Ab (Hz O O O O O O O O O (Aa O (Af (Ag (Ab (Gr tt (Ai O) O O O O (Aa O ?_)))))))));refine Af (Ag (Ag (Ab (Aa O (Aa O ?_)))));obtain ⟨v1,hc1,h⟩:=Ae h;refine Ba (Kv N g_0 anchors_1 v1 hc1) O O O O O O O O ⟨⟨O,O,Y⟩,O,Y⟩ (Aa O (Af (Ar O (fun hb2=>?_) (fun hb2=>?_))))
 ·replace h:=Ak hb2 h;refine Ag (Ab (Aa O (Aa O (Af (Jq 4 9001 3 (.ints []) O O O O (Bg ?_))))));show ∃ _,_;cases h;exact ⟨[9001],_,O,⟨O,Y⟩,O,.eq O,O⟩
 replace h:=Al hb2 h;refine Aq (Ag (Ab (Aa O (Aa O ?_))));obtain ⟨hg3,h⟩:=Ac h;refine oMake tt O O O O O O O O O O O hg3 (Aa O (Af (Ag (Ag (Ab (Aa O (Aa O (Aa O (Af ?_)))))))));refine Bz (F:=fun k=>Cq N g_0 anchors_1 k) h (α:=List Bool) (J:=fun (l4:List Bool)=>(⟨[(2,.ptr 2 0),(5,.nil),(6,.row 21 0 ((List.replicate ((g_0.n).toNat) (false:Bool)).length))],[(21,some (4,.bools l4))],[(2,some [.int g_0.n,.ro false (.pairs g_0.bars)])]⟩:PS)) ?_ ?_
 ·rintro l4 h;show VC _ _ _ (⟨[(2,.ptr 2 0),(5,.nil),(6,.row 21 0 ((List.replicate ((g_0.n).toNat) (false:Bool)).length))],[(21,some (4,.bools l4))],[(2,some [.int g_0.n,.ro false (.pairs g_0.bars)])]⟩:PS);refine Ag (Ag (Ab (Aa O (Af (Bz (F:=fun k=>Ax N g_0 k) h (α:=List Int) (J:=fun (l81:List Int)=>(⟨[(5,.row 74 0 l81.length)],[(74,some (3,.ints l81))],[]⟩:PS)) ?_ ?_)))))
  ·rintro l81 h;show VC _ _ _ (⟨[(5,.row 74 0 l81.length)],[(74,some (3,.ints l81))],[]⟩:PS);refine Ag (Ab (Aa O (Aa O (Af (Bg ?_)))));show ∃ _,_;cases h;exact ⟨[74],_,O,⟨O,Y⟩,O,.eq O,O⟩
  intro k h;refine Ap (Jq 5 74 3 (.ints []) rfl rfl rfl rfl (Bh (α:=(List Int)×(List Bool)×Int) (fun | (l120,l121,v122)=>(⟨[(2,.ptr 2 0),(5,.row 74 0 l120.length),(6,.row 21 0 ((List.replicate ((g_0.n).toNat) (false:Bool)).length)),(9,.int v122)],[(74,some (3,.ints l120)),(21,some (4,.bools l121))],[(2,some [.int g_0.n,.ro false (.pairs g_0.bars)])]⟩:PS)) (Ax N g_0 k) h (En.of ⟨rfl,rfl,rfl,rfl,Y⟩ ⟨rfl,rfl,Y⟩ ⟨rfl,Y⟩) (fun _=>rfl) ?_));rintro n ⟨l120,l121,v122⟩ h;rw [Ax] at h;show VC _ _ _ (⟨[(2,.ptr 2 0),(5,.row 74 0 l120.length),(6,.row 21 0 ((List.replicate ((g_0.n).toNat) (false:Bool)).length)),(9,.int v122)],[(74,some (3,.ints l120)),(21,some (4,.bools l121))],[(2,some [.int g_0.n,.ro false (.pairs g_0.bars)])]⟩:PS);refine Ag (Ag (Ab ?_));iterate 4 refine Aa O ?_
  refine Af (Ar O (fun hb4=>?_) (fun hb4=>?_))
  ·replace h:=Ak hb4 h;refine Aq (Ag (Ap (Ag (Ab (Aa O (Af (Ag (Ag (Ab ?_)))))))));iterate 4 refine Aa O ?_
   refine Af (Bz (F:=fun k=>Br N g_0 l121 v122 k) h (α:=Int) (J:=fun (n149:Int)=>(⟨[(2,.ptr 2 0),(5,.row 74 0 l120.length),(6,.row 21 0 ((List.replicate ((g_0.n).toNat) (false:Bool)).length)),(9,.int v122),(10,.int n149)],[(74,some (3,.ints l120)),(21,some (4,.bools l121))],[(2,some [.int g_0.n,.ro false (.pairs g_0.bars)])]⟩:PS)) ?_ ?_)
   ·rintro n149 h;show VC _ _ _ (⟨[(2,.ptr 2 0),(5,.row 74 0 l120.length),(6,.row 21 0 ((List.replicate ((g_0.n).toNat) (false:Bool)).length)),(9,.int v122),(10,.int n149)],[(74,some (3,.ints l120)),(21,some (4,.bools l121))],[(2,some [.int g_0.n,.ro false (.pairs g_0.bars)])]⟩:PS);refine Ag (Ab (Aa O (Aa O ?_)));obtain ⟨hg5,h⟩:=Ac h;refine Ad tt O hg5 ?_;obtain ⟨hg6,h⟩:=Ac h;refine Ad tt O hg6 (Aa O (Aa O (Be O O O (fun hb7=>?_) (fun hb7=>?_))))
    ·replace h:=Ak hb7 h;iterate 2 refine Av tt O O O O O hb7 O O O Y ?_
     refine Bm O O O O O hb7 O (Af (Ar O (fun hb8=>?_) (fun hb8=>?_)))
     ·replace h:=Ak hb8 h;refine Ag (Ab (Aa O (Aa O (Ad tt O hg5 (Ao tt O O O O O O O O O O ⟨_,_,O,hg6.1,hg6.2⟩ ⟨hg6,Y⟩ (Af (Ag (Ab (Aa O ?_)))))))));refine Aa O (Cr tt O O O O O O O O O O O ?_);obtain ⟨hg9,h⟩:=Ac h;refine Bt tt O O O O O O O O O O O O O O O O (Nat.le_of_eq (Nat.zero_add _)) hg9 (Aa O (Af (Ab (Aa O (Af (Ab (Aa O ?_)))))));obtain ⟨hg10,h⟩:=Ac h;refine Ad tt O hg10 (Aa O (Af ?_));show ∃ _,_;exact ⟨((l120++([v122]:List Int)),(l121.set ((v122).toNat) true),((-1:Int)+(1:Int))),(En.of ⟨O,O,O,O,Y⟩ ⟨O,O,Y⟩ ⟨O,Y⟩),h⟩
     replace h:=Al hb8 h;refine Aq (Ab (Aa O ?_));obtain ⟨hg11,h⟩:=Ac h;refine Ad tt O hg11 (Aa O (Af ?_));show ∃ _,_;exact ⟨(l120,l121,(v122+(1:Int))),(En.of ⟨O,O,O,O,Y⟩ ⟨O,O,Y⟩ ⟨O,Y⟩),h⟩
    replace h:=Al hb7 h;iterate 2 refine Kq O O O O hb7 O O ?_
    refine Aw O O O O O hb7 O (Af (Cp O O (Aq (Ab (Aa O ?_)))));obtain ⟨hg12,h⟩:=Ac h;refine Ad tt O hg12 (Aa O (Af ?_));show ∃ _,_;exact ⟨(l120,l121,(v122+(1:Int))),(En.of ⟨O,O,O,O,Y⟩ ⟨O,O,Y⟩ ⟨O,Y⟩),h⟩
   intro k h;refine Ap (Bh (α:=Int×Int) (fun | (n153,x154)=>(⟨[(2,.ptr 2 0),(5,.row 74 0 l120.length),(6,.row 21 0 ((List.replicate ((g_0.n).toNat) (false:Bool)).length)),(9,.int v122),(10,.int n153),(39,.ro false (.pairs g_0.bars)),(40,.int (g_0.bars.length:Int)),(41,.int x154)],[(74,some (3,.ints l120)),(21,some (4,.bools l121))],[(2,some [.int g_0.n,.ro false (.pairs g_0.bars)])]⟩:PS)) (Br N g_0 l121 v122 k) h (En.of ⟨rfl,rfl,rfl,rfl,rfl,rfl,rfl,rfl,Y⟩ ⟨rfl,rfl,Y⟩ ⟨rfl,Y⟩) (fun _=>rfl) ?_);rintro n ⟨n153,x154⟩ h;rw [Br] at h;show VC _ _ _ (⟨[(2,.ptr 2 0),(5,.row 74 0 l120.length),(6,.row 21 0 ((List.replicate ((g_0.n).toNat) (false:Bool)).length)),(9,.int v122),(10,.int n153),(39,.ro false (.pairs g_0.bars)),(40,.int (g_0.bars.length:Int)),(41,.int x154)],[(74,some (3,.ints l120)),(21,some (4,.bools l121))],[(2,some [.int g_0.n,.ro false (.pairs g_0.bars)])]⟩:PS);refine Ag (Ab (Aa O (Af (Ag (Ar O (fun hb13=>?_) (fun hb13=>?_))))))
   ·replace h:=Ak hb13 h;refine Aq (Ag (Ap (Ag (Ab ?_))));obtain ⟨hg14,h⟩:=Ac h;refine Ad tt O hg14 (Aa O (Bi tt O O O O O O O O O (Ao tt O O O O O O O O O O O ⟨Y,Y,Y⟩ (Af (Ag (Ab (Aa O (Aa O ?_))))))));obtain ⟨v157,hc15,h⟩:=Ae h;refine Ba (M_Bar_has_w N (g_0.bars.getD ((x154).toNat) (0,0)) v122 v157 hc15) O O O O O O O O ⟨⟨O,O,Y⟩,O,Y⟩ (Aa O (Be O O O (fun hb16=>?_) (fun hb16=>?_)))
    ·replace h:=Ak hb16 h;iterate 3 refine Av tt O O O O O hb16 O O O Y ?_
     obtain ⟨v158,hc17,h⟩:=Ae h;refine Eh (Ya N (g_0.bars.getD ((x154).toNat) (0,0)) v122 v158 hc17) O O O O hb16 O O O O O O O ⟨⟨O,O,Y⟩,O,Y⟩ ?_;obtain ⟨hg18,h⟩:=Ac h;refine Av tt O O O O O hb16 O O O hg18 ?_;obtain ⟨hg19,h⟩:=Ac h;refine Av tt O O O O O hb16 O O O hg19 (Bm O O O O O hb16 O (Af (Ar O (fun hb20=>?_) (fun hb20=>?_))))
     ·replace h:=Ak hb20 h;refine Ab (Aa O ?_);obtain ⟨hg21,h⟩:=Ac h;refine Ad tt O hg21 (Aa O (Af (Ab ?_)));obtain ⟨hg22,h⟩:=Ac h;refine Ad tt O hg22 (Aa O (Af ?_));show ∃ _,_;exact ⟨((n153+(1:Int)),(x154+(1:Int))),(En.of ⟨O,O,O,O,O,O,O,O,Y⟩ ⟨O,O,Y⟩ ⟨O,Y⟩),h⟩
     replace h:=Al hb20 h;refine Aq (Ab ?_);obtain ⟨hg23,h⟩:=Ac h;refine Ad tt O hg23 (Aa O (Af ?_));show ∃ _,_;exact ⟨(n153,(x154+(1:Int))),(En.of ⟨O,O,O,O,O,O,O,O,Y⟩ ⟨O,O,Y⟩ ⟨O,Y⟩),h⟩
    replace h:=Al hb16 h;iterate 6 refine Kq O O O O hb16 O O ?_
    refine Aw O O O O O hb16 O (Af (Cp O O (Aq (Ab ?_))));obtain ⟨hg24,h⟩:=Ac h;refine Ad tt O hg24 (Aa O (Af ?_));show ∃ _,_;exact ⟨(n153,(x154+(1:Int))),(En.of ⟨O,O,O,O,O,O,O,O,Y⟩ ⟨O,O,Y⟩ ⟨O,Y⟩),h⟩
   replace h:=Al hb13 h;refine Bp ?_;show ∃ _,_;exact ⟨n153,(En.of ⟨O,O,O,O,O,Y⟩ ⟨O,O,Y⟩ ⟨O,Y⟩),h⟩
  replace h:=Al hb4 h;refine Bp ?_;show ∃ _,_;exact ⟨l120,(En.of ⟨O,Y⟩ ⟨O,Y⟩ trivial),h⟩
 intro k h;refine Ap (Bh (α:=(List Bool)×Int) (fun | (l160,x161)=>(⟨[(2,.ptr 2 0),(5,.nil),(6,.row 21 0 ((List.replicate ((g_0.n).toNat) (false:Bool)).length)),(22,.ro false (.ints anchors_1)),(23,.int (anchors_1.length:Int)),(24,.int x161)],[(21,some (4,.bools l160))],[(2,some [.int g_0.n,.ro false (.pairs g_0.bars)])]⟩:PS)) (Cq N g_0 anchors_1 k) h (En.of ⟨rfl,rfl,rfl,rfl,rfl,rfl,Y⟩ ⟨rfl,Y⟩ ⟨rfl,Y⟩) (fun _=>rfl) ?_);rintro n ⟨l160,x161⟩ h;rw [Cq] at h;show VC _ _ _ (⟨[(2,.ptr 2 0),(5,.nil),(6,.row 21 0 ((List.replicate ((g_0.n).toNat) (false:Bool)).length)),(22,.ro false (.ints anchors_1)),(23,.int (anchors_1.length:Int)),(24,.int x161)],[(21,some (4,.bools l160))],[(2,some [.int g_0.n,.ro false (.pairs g_0.bars)])]⟩:PS);refine Ag (Ab (Aa O (Af (Ag (Ar O (fun hb25=>?_) (fun hb25=>?_))))))
 ·replace h:=Ak hb25 h;refine Aq (Ag (Ap (Ag (Ab ?_))));obtain ⟨hg26,h⟩:=Ac h;refine Ad tt O hg26 (Aa O (Aa O (Af (Ab (Aa O (Aa O ?_))))));obtain ⟨hg27,h⟩:=Ac h;refine Ad tt O hg27 ?_;obtain ⟨hg28,h⟩:=Ac h;refine Ao tt O O O O O O O O O O ⟨_,_,O,hg28.1,hg28.2⟩ ⟨hg28,Y⟩ (Af (Ab ?_));obtain ⟨hg29,h⟩:=Ac h;refine Ad tt O hg29 (Aa O (Af ?_));show ∃ _,_;exact ⟨((l160.set (((anchors_1.getD ((x161).toNat) 0)).toNat) true),(x161+(1:Int))),(En.of ⟨O,O,O,O,O,O,Y⟩ ⟨O,Y⟩ ⟨O,Y⟩),h⟩
 replace h:=Al hb25 h;refine Bp ?_;show ∃ _,_;exact ⟨l160,(En.of ⟨O,O,O,Y⟩ ⟨O,Y⟩ ⟨O,Y⟩),h⟩
end
section
open Go.RowKit
def Ln (N:Nat) (p_0:Pbl):Option (Pbl):=
 (Mj N p_0.free).bind fun v1=>
 (Mj N p_0.tails).bind fun v2=>
 (Mj N p_0.placed).bind fun v3=>
 some (⟨v1,v2,v3⟩:Pbl)
theorem Abb (N:Nat) (p_0:Pbl) (r:Pbl) (h:Ln N p_0=some r):PCall Tryz.prog 214 [bD p_0] [(3,.ints r.free),(3,.ints r.tails),(3,.ints r.placed)] (.agg [.row 0 0 r.free.length,.row 1 0 r.tails.length,.row 2 0 r.placed.length]):=by
 unfold Ln at h;refine Aj (TT:=TT) tt Tryz.func214 O O Tryz.ntmps214 (congrArg Array.toList Tryz.results214) O O fun w0=>(Ag (Ab (Hz O O O O O O O O O (Bi tt O O O O O O O O O (Af (Ag (Dn 8 [2,5] [0,1,3,0,8,31,0,64,255,511,1023] (by kernel_rfl) (by kernel_rfl) (by kernel_rfl) (by kernel_rfl) (by kernel_rfl) O (by rfl) ?_)))))));iterate 2 refine Fy tt O (Ai O) O O O O O Y ?_
 obtain ⟨v1,hc1,h⟩:=Ae h;refine Rd (Tc N p_0.free v1 hc1) rfl (Ai rfl) rfl rfl rfl rfl rfl rfl (by first | rfl | kernel_rfl | (simp [nrL,nm,Hy,nmT,Jv]; done)) rfl (by first | rfl | kernel_rfl | (simp [Pr,nrL,nm,Hy,nmT,Jv,hid,Jp,Fb,Dh]; done) | (simp [Pr,nrL,nm,Hy,nmT,Jv,hid,Jp,Fb,Dh]; decide)) ⟨rfl,Y⟩ ?_;iterate 2 refine Fy tt O (Ai O) O O O O O Y ?_
 obtain ⟨v2,hc2,h⟩:=Ae h;refine Rd (Tc N p_0.tails v2 hc2) rfl (Ai rfl) rfl rfl rfl rfl rfl rfl (by first | rfl | kernel_rfl | (simp [nrL,nm,Hy,nmT,Jv]; done)) rfl (by first | rfl | kernel_rfl | (simp [Pr,nrL,nm,Hy,nmT,Jv,hid,Jp,Fb,Dh]; done) | (simp [Pr,nrL,nm,Hy,nmT,Jv,hid,Jp,Fb,Dh]; decide)) ⟨rfl,Y⟩ ?_;iterate 2 refine Fy tt O (Ai O) O O O O O Y ?_
 refine Tb ?_;show VO _ _ _ _ _;obtain ⟨v3,hc3,h⟩:=Ae h;refine Ba (Tc N p_0.placed v3 hc3) O O O O O O O O ⟨O,Y⟩ (Fz (Ai O) (Df Dj O O) O O (Ao tt O O O O O O O O O O O ⟨Y,Y,Y,Y⟩ (Af (Bg ?_))));show ∃ _,_;cases h;exact ⟨[1050,1080,1110],_,O,⟨O,O,O,Y⟩,O,.eq O,O⟩
end
section
open Go.RowKit
def Ld (N:Nat) (p_1:Pbl) (a_2:Int) (from298:List (Int×Int)) (x299:Int) (v307:Int) (k:(List Int)→Option (Bool×(List Int)×(List Int)×(List Int))):Nat→((List Int)×Int)→Option (Bool×(List Int)×(List Int)×(List Int))
 | 0,_=>none
 | n+1,(l312,at313)=>
  cnd (at313 != a_2) (
   grd (0≤(Aaw (Xy from298 v307 x299) at313)∧(Aaw (Xy from298 v307 x299) at313)<(p_1.tails.length:Int)) <|
   grd (0≤(Aaw (Xy from298 v307 x299) at313)∧(Aaw (Xy from298 v307 x299) at313)<(l312.length:Int)) <|
   Ld N p_1 a_2 from298 x299 v307 k n ((l312.set (((Aaw (Xy from298 v307 x299) at313)).toNat) at313),(l312.getD (((Aaw (Xy from298 v307 x299) at313)).toNat) 0))) (
   k l312)
def Gi (N:Nat) (bars_0:List (Int×Int)) (p_1:Pbl) (a_2:Int) (b_3:Int) (i211:Int) (k:((List Int)×(List (Int×Int)))→Option (Bool×(List Int)×(List Int)×(List Int))):Nat→((List Int)×(List (Int×Int))×Int)→Option (Bool×(List Int)×(List Int)×(List Int))
 | 0,_=>none
 | n+1,(l297,from298,x299)=>
  cnd (decide (x299<(p_1.placed.length:Int))) (
   grd (0≤x299∧x299<(p_1.placed.length:Int)) <|
   grd (0≤x299∧x299<(p_1.tails.length:Int)) <|
   grd (0≤i211∧i211<(l297.length:Int)) <|
   cnd ((p_1.tails.getD ((x299).toNat) 0) != (l297.getD ((i211).toNat) 0)) (
    grd (Bc (x299+(1:Int))) <|
    Gi N bars_0 p_1 a_2 b_3 i211 k n (l297,from298,(x299+(1:Int)))) (
    grd (0≤(p_1.placed.getD ((x299).toNat) 0)∧(p_1.placed.getD ((x299).toNat) 0)<(bars_0.length:Int)) <|
    (Ka N (bars_0.getD (((p_1.placed.getD ((x299).toNat) 0)).toNat) (0,0)) (l297.getD ((i211).toNat) 0)).bind fun v307=>
    cnd (Acn from298 v307) (
     grd (Bc (x299+(1:Int))) <|
     Gi N bars_0 p_1 a_2 b_3 i211 k n (l297,from298,(x299+(1:Int)))) (
     cnd (v307==b_3) (
      grd (l297.length+1≤4294967296) <|
      grd (Bc (x299+(1:Int))) <|
      Gi N bars_0 p_1 a_2 b_3 i211 k n ((l297++([v307]:List Int)),(Xy from298 v307 x299),(x299+(1:Int)))) (
      grd (0≤v307∧v307<(p_1.free.length:Int)) <|
      cnd ((p_1.free.getD ((v307).toNat) 0)==(0:Int)) (
       grd (l297.length+1≤4294967296) <|
       grd (Bc (x299+(1:Int))) <|
       Gi N bars_0 p_1 a_2 b_3 i211 k n ((l297++([v307]:List Int)),(Xy from298 v307 x299),(x299+(1:Int)))) (
       grd (Bc ((p_1.free.getD ((v307).toNat) 0)-(1:Int))) <|
       grd (0≤a_2∧a_2<(p_1.free.length:Int)) <|
       grd (0≤a_2∧a_2<((p_1.free.set ((v307).toNat) ((p_1.free.getD ((v307).toNat) 0)-(1:Int))).length:Int)) <|
       grd (Bc (((p_1.free.set ((v307).toNat) ((p_1.free.getD ((v307).toNat) 0)-(1:Int))).getD ((a_2).toNat) 0)+(1:Int))) <|
       Ld N p_1 a_2 from298 x299 v307 (fun (l310 : List Int) =>
          grd (p_1.free.length=((p_1.free.set ((v307).toNat) ((p_1.free.getD ((v307).toNat) 0)-(1:Int))).set ((a_2).toNat) (((p_1.free.set ((v307).toNat) ((p_1.free.getD ((v307).toNat) 0)-(1:Int))).getD ((a_2).toNat) 0)+(1:Int))).length) <|
          grd (p_1.tails.length=l310.length) <|
          some (true,((p_1.free.set ((v307).toNat) ((p_1.free.getD ((v307).toNat) 0)-(1:Int))).set ((a_2).toNat) (((p_1.free.set ((v307).toNat) ((p_1.free.getD ((v307).toNat) 0)-(1:Int))).getD ((a_2).toNat) 0)+(1:Int))),l310,p_1.placed)) N (p_1.tails,v307)))))) (
   k (l297,from298))
def Ex (N:Nat) (bars_0:List (Int×Int)) (p_1:Pbl) (a_2:Int) (b_3:Int) (k:Unit→Option (Bool×(List Int)×(List Int)×(List Int))):Nat→((List Int)×(List (Int×Int))×Int)→Option (Bool×(List Int)×(List Int)×(List Int))
 | 0,_=>none
 | n+1,(l209,from210,i211)=>
  cnd (decide (i211<(l209.length:Int))) (
   Gi N bars_0 p_1 a_2 b_3 i211 (fun (x:(List Int)×(List (Int×Int)))=>
     match x with
     | (l287,from288)=>
      grd (Bc (i211+(1:Int))) <|
      Ex N bars_0 p_1 a_2 b_3 k n (l287,from288,(i211+(1:Int)))) N (l209,from210,(0:Int))) (
   k ())
def Sm (N:Nat) (bars_0:List (Int×Int)) (p_1:Pbl) (a_2:Int) (b_3:Int):Option (Bool×(List Int)×(List Int)×(List Int)):=
 Ex N bars_0 p_1 a_2 b_3 (fun (_ : Unit) =>
    some (false,p_1.free,p_1.tails,p_1.placed)) N (([a_2]:List Int),(Xy ([]:List (Int×Int)) a_2 (-1:Int)),(0:Int))
theorem Acy (N:Nat) (bars_0:List (Int×Int)) (p_1:Pbl) (a_2:Int) (b_3:Int) (r:Bool×(List Int)×(List Int)×(List Int)) (h:Sm N bars_0 p_1 a_2 b_3=some r):MCall Tryz.prog 221 [.ro false (.pairs bars_0),.ptr 1000001 0,.int a_2,.int b_3] [900010,900011,900012] [1000001] [(3,.ints p_1.free),(3,.ints p_1.tails),(3,.ints p_1.placed)] [(3,.ints r.2.1),(3,.ints r.2.2.1),(3,.ints r.2.2.2)] [[.row 900010 0 p_1.free.length,.row 900011 0 p_1.tails.length,.row 900012 0 p_1.placed.length]] [[.row 900010 0 r.2.1.length,.row 900011 0 r.2.2.1.length,.row 900012 0 r.2.2.2.length]] (.bool r.1):=by
 unfold Sm at h;refine Db (TT:=TT) tt Tryz.func221 rfl rfl Tryz.ntmps221 (congrArg Array.toList Tryz.results221) rfl rfl rfl rfl rfl fun w0 O0=>(Ag (Ab (Aa rfl (Af (Ag (Ab (oMakeMap rfl rfl rfl rfl fun mk2 hmk2=>(Aa rfl (oMapSet tt hmk2 rfl (by first | exact .inl rfl | exact .inr rfl) rfl rfl rfl rfl rfl rfl ?_)))))))));repeat (first | refine mapC_nil ?_ | refine mapC_hit ?_ | refine mapC_same rfl ?_ | refine mapC_dead ?_)
 show VO _ _ _ _ _;refine Aa O (Aa O (Af (Ag (Ab (Aa O (Cr tt O O O O O O O O O O O (Aa O (Af (Ag ?_)))))))));refine Ag (Ab (Aa O (Af (Bz (F:=fun k=>Ex N bars_0 p_1 a_2 b_3 k) h (α:=Unit) (J:=fun (_:Unit)=>(⟨[],[(900010,some (3,.ints p_1.free)),(900011,some (3,.ints p_1.tails)),(900012,some (3,.ints p_1.placed))],[(1000001,some [.row 900010 0 p_1.free.length,.row 900011 0 p_1.tails.length,.row 900012 0 p_1.placed.length])]⟩:PS)) ?_ ?_))))
 ·rintro ⟨⟩ h;show VC _ _ _ (⟨[],[(900010,some (3,.ints p_1.free)),(900011,some (3,.ints p_1.tails)),(900012,some (3,.ints p_1.placed))],[(1000001,some [.row 900010 0 p_1.free.length,.row 900011 0 p_1.tails.length,.row 900012 0 p_1.placed.length])]⟩:PS);refine Ag (Ab (Aa O (Af (Bg ?_))));show ∃ _,_;cases h;exact ⟨[900010,900011,900012],O,⟨O,O,O,Y⟩,⟨O,Y⟩,O⟩
 intro k h;refine Ap (Bh (α:=(List Int)×(List (Int×Int))×Int) (fun | (l209,from210,i211)=>(⟨[(0,.ro false (.pairs bars_0)),(1,.ptr 1000001 0),(2,.int a_2),(3,.int b_3),(9,.map mk2 from210),(10,.row 24 0 l209.length),(11,.int i211)],[(24,some (3,.ints l209)),(900010,some (3,.ints p_1.free)),(900011,some (3,.ints p_1.tails)),(900012,some (3,.ints p_1.placed))],[(1000001,some [.row 900010 0 p_1.free.length,.row 900011 0 p_1.tails.length,.row 900012 0 p_1.placed.length])]⟩:PS)) (Ex N bars_0 p_1 a_2 b_3 k) h (En.of ⟨rfl,rfl,rfl,rfl,rfl,rfl,rfl,Y⟩ ⟨rfl,rfl,rfl,rfl,Y⟩ ⟨rfl,Y⟩) (fun _=>rfl) ?_);rintro n ⟨l209,from210,i211⟩ h;rw [Ex] at h;show VC _ _ _ (⟨[(0,.ro false (.pairs bars_0)),(1,.ptr 1000001 0),(2,.int a_2),(3,.int b_3),(9,.map mk2 from210),(10,.row 24 0 l209.length),(11,.int i211)],[(24,some (3,.ints l209)),(900010,some (3,.ints p_1.free)),(900011,some (3,.ints p_1.tails)),(900012,some (3,.ints p_1.placed))],[(1000001,some [.row 900010 0 p_1.free.length,.row 900011 0 p_1.tails.length,.row 900012 0 p_1.placed.length])]⟩:PS);refine Ag (Ag (Ab ?_));iterate 4 refine Aa O ?_
 refine Af (Ar O (fun hb2=>?_) (fun hb2=>?_))
 ·replace h:=Ak hb2 h;refine Aq (Ag (Ap (Ag (Ab ?_))));iterate 6 refine Aa O ?_
  refine Af (Bz (F:=fun k=>Gi N bars_0 p_1 a_2 b_3 i211 k) h (α:=(List Int)×(List (Int×Int))) (J:=fun | (l287,from288)=>(⟨[(0,.ro false (.pairs bars_0)),(1,.ptr 1000001 0),(2,.int a_2),(3,.int b_3),(9,.map mk2 from288),(10,.row 24 0 l287.length),(11,.int i211)],[(24,some (3,.ints l287)),(900010,some (3,.ints p_1.free)),(900011,some (3,.ints p_1.tails)),(900012,some (3,.ints p_1.placed))],[(1000001,some [.row 900010 0 p_1.free.length,.row 900011 0 p_1.tails.length,.row 900012 0 p_1.placed.length])]⟩:PS)) ?_ ?_)
  ·rintro ⟨l287,from288⟩ h;show VC _ _ _ (⟨[(0,.ro false (.pairs bars_0)),(1,.ptr 1000001 0),(2,.int a_2),(3,.int b_3),(9,.map mk2 from288),(10,.row 24 0 l287.length),(11,.int i211)],[(24,some (3,.ints l287)),(900010,some (3,.ints p_1.free)),(900011,some (3,.ints p_1.tails)),(900012,some (3,.ints p_1.placed))],[(1000001,some [.row 900010 0 p_1.free.length,.row 900011 0 p_1.tails.length,.row 900012 0 p_1.placed.length])]⟩:PS);refine Ab (Aa O ?_);obtain ⟨hg3,h⟩:=Ac h;refine Ad tt O hg3 (Aa O (Af ?_));show ∃ _,_;exact ⟨(l287,from288,(i211+(1:Int))),(En.of ⟨O,O,O,O,O,O,O,Y⟩ ⟨O,O,O,O,Y⟩ ⟨O,Y⟩),h⟩
  intro k h;refine Ap (Bh (α:=(List Int)×(List (Int×Int))×Int) (fun | (l297,from298,x299)=>(⟨[(0,.ro false (.pairs bars_0)),(1,.ptr 1000001 0),(2,.int a_2),(3,.int b_3),(9,.map mk2 from298),(10,.row 24 0 l297.length),(11,.int i211),(34,.row 900012 0 p_1.placed.length),(35,.int (p_1.placed.length:Int)),(36,.int x299)],[(24,some (3,.ints l297)),(900012,some (3,.ints p_1.placed)),(900010,some (3,.ints p_1.free)),(900011,some (3,.ints p_1.tails))],[(1000001,some [.row 900010 0 p_1.free.length,.row 900011 0 p_1.tails.length,.row 900012 0 p_1.placed.length])]⟩:PS)) (Gi N bars_0 p_1 a_2 b_3 i211 k) h (En.of ⟨rfl,rfl,rfl,rfl,rfl,rfl,rfl,rfl,rfl,rfl,Y⟩ ⟨rfl,rfl,rfl,rfl,Y⟩ ⟨rfl,Y⟩) (fun _=>rfl) ?_);rintro n ⟨l297,from298,x299⟩ h;rw [Gi] at h;show VC _ _ _ (⟨[(0,.ro false (.pairs bars_0)),(1,.ptr 1000001 0),(2,.int a_2),(3,.int b_3),(9,.map mk2 from298),(10,.row 24 0 l297.length),(11,.int i211),(34,.row 900012 0 p_1.placed.length),(35,.int (p_1.placed.length:Int)),(36,.int x299)],[(24,some (3,.ints l297)),(900012,some (3,.ints p_1.placed)),(900010,some (3,.ints p_1.free)),(900011,some (3,.ints p_1.tails))],[(1000001,some [.row 900010 0 p_1.free.length,.row 900011 0 p_1.tails.length,.row 900012 0 p_1.placed.length])]⟩:PS);refine Ag (Ab (Aa O (Af (Ag (Ar O (fun hb4=>?_) (fun hb4=>?_))))))
  ·replace h:=Ak hb4 h;refine Aq (Ag (Ap (Ag (Ab (Aa O ?_)))));obtain ⟨hg5,h⟩:=Ac h;refine Ad tt O hg5 (Ad tt O hg5 (Aa O (Aa O (Af (Ag (Ag (Cu (by kernel_rfl) (by kernel_rfl) ?_)))))));iterate 5 refine Bq tt O (Ai O) O O O Y ?_
   obtain ⟨hg6,h⟩:=Ac h;iterate 2 refine Bq tt O (Ai O) O O O hg6 ?_
   iterate 2 refine Bq tt O (Ai O) O O O Y ?_
   obtain ⟨hg7,h⟩:=Ac h;iterate 2 refine Bq tt O (Ai O) O O O hg7 ?_
   refine Bq tt O (Ai O) O O O Y (Ms (Ar O (fun hb8=>?_) (fun hb8=>?_)))
   ·replace h:=Ak hb8 h;refine Bp (Ab ?_);obtain ⟨hg9,h⟩:=Ac h;refine Ad tt O hg9 (Aa O (Af ?_));show ∃ _,_;exact ⟨(l297,from298,(x299+(1:Int))),(En.of ⟨O,O,O,O,O,O,O,O,O,O,Y⟩ ⟨O,O,O,O,Y⟩ ⟨O,Y⟩),h⟩
   replace h:=Al hb8 h;refine Aq (Ag (Cu (by kernel_rfl) (by kernel_rfl) ?_));iterate 2 refine Bq tt O (Ai O) O O O Y ?_
   obtain ⟨hg10,h⟩:=Ac h;refine Bq tt O (Ai O) O O O hg10 ?_;iterate 3 refine Bq tt O (Ai O) O O O Y ?_
   iterate 2 refine Bq tt O (Ai O) O O O hg7 ?_
   obtain ⟨v307,hc11,h⟩:=Ae h;refine Xh (Ya N (bars_0.getD (((p_1.placed.getD ((x299).toNat) 0)).toNat) (0,0)) (l297.getD ((i211).toNat) 0) v307 hc11) O (Ai O) O O O O O O ⟨⟨O,O,Y⟩,O,Y⟩ (Bq tt O (Ai O) O O O Y (Ms (Ag (Ag (Ab ?_)))));iterate 8 refine Aa O ?_
   refine Af (Ag (Ab (Aa O (Af (Ar O (fun hb12=>?_) (fun hb12=>?_))))))
   ·replace h:=Ak hb12 h;refine Bp (Ab ?_);obtain ⟨hg13,h⟩:=Ac h;refine Ad tt O hg13 (Aa O (Af ?_));show ∃ _,_;exact ⟨(l297,from298,(x299+(1:Int))),(En.of ⟨O,O,O,O,O,O,O,O,O,O,Y⟩ ⟨O,O,O,O,Y⟩ ⟨O,Y⟩),h⟩
   replace h:=Al hb12 h;refine Aq (Ag (Ab (Aa rfl (Aa rfl (Aa rfl (oMapSet tt hmk2 rfl (by first | exact .inl rfl | exact .inr rfl) rfl rfl rfl rfl rfl rfl ?_))))));repeat (first | refine mapC_nil ?_ | refine mapC_hit ?_ | refine mapC_same rfl ?_ | refine mapC_dead ?_)
   show VO _ _ _ _ _;refine Af (Ag (Ag (Ab ?_)));iterate 4 refine Aa O ?_
   refine Be O O O (fun hb14=>?_) (fun hb14=>?_)
   ·replace h:=Ak hb14 h;iterate 8 refine Hg O O O O hb14 O O ?_
    refine Bm O O O O O hb14 O (Af (Ce O O (Ag (Ab (Aa O (Aa O (Cr tt O O O O O O O O O O O ?_)))))));obtain ⟨hg15,h⟩:=Ac h;refine Bt tt O O O O O O O O O O O O O O O O (Nat.le_of_eq (Nat.zero_add _)) hg15 (Aa O (Af (Bp (Ab ?_))));obtain ⟨hg16,h⟩:=Ac h;refine Ad tt O hg16 (Aa O (Af ?_));show ∃ _,_;exact ⟨((l297++([v307]:List Int)),(Xy from298 v307 x299),(x299+(1:Int))),(En.of ⟨O,O,O,O,O,O,O,O,O,O,Y⟩ ⟨O,O,O,O,Y⟩ ⟨O,Y⟩),h⟩
   replace h:=Al hb14 h;iterate 5 refine Av tt O O O O O hb14 O O O Y ?_
   obtain ⟨hg17,h⟩:=Ac h;iterate 2 refine Av tt O O O O O hb14 O O O hg17 ?_
   refine Av tt O O O O O hb14 O O O Y (Aw O O O O O hb14 O (Af (Ar O (fun hb18=>?_) (fun hb18=>?_))))
   ·replace h:=Ak hb18 h;refine Ag (Ab (Aa O (Aa O (Cr tt O O O O O O O O O O O ?_))));obtain ⟨hg19,h⟩:=Ac h;refine Bt tt O O O O O O O O O O O O O O O O (Nat.le_of_eq (Nat.zero_add _)) hg19 (Aa O (Af (Bp (Ab ?_))));obtain ⟨hg20,h⟩:=Ac h;refine Ad tt O hg20 (Aa O (Af ?_));show ∃ _,_;exact ⟨((l297++([v307]:List Int)),(Xy from298 v307 x299),(x299+(1:Int))),(En.of ⟨O,O,O,O,O,O,O,O,O,O,Y⟩ ⟨O,O,O,O,Y⟩ ⟨O,Y⟩),h⟩
   replace h:=Al hb18 h;refine Aq (Ag (Ab ?_));iterate 5 refine Aa O ?_
   refine Ad tt O hg17 (Ad tt O hg17 ?_);obtain ⟨hg21,h⟩:=Ac h;refine Ad tt O hg21 (Ad tt O hg17 (Ao tt O O O O O O O O O O ⟨_,_,O,hg17.1,hg17.2⟩ ⟨hg17,Y⟩ (Af (Ag (Ab ?_)))));iterate 5 refine Aa O ?_
   obtain ⟨hg22,h⟩:=Ac h;refine Ad tt O hg22 ?_;obtain ⟨hg23,h⟩:=Ac h;refine Ad tt O hg23 ?_;obtain ⟨hg24,h⟩:=Ac h;refine Ad tt O hg24 (Ad tt O hg22 (Ao tt O O O O O O O O O O ⟨_,_,O,hg23.1,hg23.2⟩ ⟨hg23,Y⟩ (Af (Ag (Ag (Ab (Aa O (Aa O (Af ?_)))))))));refine Bz (F:=fun k=>Ld N p_1 a_2 from298 x299 v307 k) h (α:=List Int) (J:=fun (l310:List Int)=>(⟨[],[(900010,some (3,.ints ((p_1.free.set ((v307).toNat) ((p_1.free.getD ((v307).toNat) 0)-(1:Int))).set ((a_2).toNat) (((p_1.free.set ((v307).toNat) ((p_1.free.getD ((v307).toNat) 0)-(1:Int))).getD ((a_2).toNat) 0)+(1:Int))))),(900011,some (3,.ints l310)),(900012,some (3,.ints p_1.placed))],[(1000001,some [.row 900010 0 p_1.free.length,.row 900011 0 p_1.tails.length,.row 900012 0 p_1.placed.length])]⟩:PS)) ?_ ?_
   ·rintro l310 h;show VC _ _ _ (⟨[],[(900010,some (3,.ints ((p_1.free.set ((v307).toNat) ((p_1.free.getD ((v307).toNat) 0)-(1:Int))).set ((a_2).toNat) (((p_1.free.set ((v307).toNat) ((p_1.free.getD ((v307).toNat) 0)-(1:Int))).getD ((a_2).toNat) 0)+(1:Int))))),(900011,some (3,.ints l310)),(900012,some (3,.ints p_1.placed))],[(1000001,some [.row 900010 0 p_1.free.length,.row 900011 0 p_1.tails.length,.row 900012 0 p_1.placed.length])]⟩:PS);refine Ag (Ab (Aa O (Af ?_)));show VC ..;obtain ⟨hg25,h⟩:=Ac h;refine vRowB 1000001 0 900010 O O hg25 O ?_;obtain ⟨hg26,h⟩:=Ac h;refine vRowB 1000001 1 900011 O O hg26 O (Bg ?_);show ∃ _,_;cases h;exact ⟨[900010,900011,900012],O,⟨O,O,O,Y⟩,⟨O,Y⟩,O⟩
   intro k h;refine Ap (Bh (α:=(List Int)×Int) (fun | (l312,at313)=>(⟨[(1,.ptr 1000001 0),(2,.int a_2),(9,.map mk2 (Xy from298 v307 x299)),(17,.int at313)],[(900010,some (3,.ints ((p_1.free.set ((v307).toNat) ((p_1.free.getD ((v307).toNat) 0)-(1:Int))).set ((a_2).toNat) (((p_1.free.set ((v307).toNat) ((p_1.free.getD ((v307).toNat) 0)-(1:Int))).getD ((a_2).toNat) 0)+(1:Int))))),(900011,some (3,.ints l312)),(900012,some (3,.ints p_1.placed))],[(1000001,some [.row 900010 0 p_1.free.length,.row 900011 0 p_1.tails.length,.row 900012 0 p_1.placed.length])]⟩:PS)) (Ld N p_1 a_2 from298 x299 v307 k) h (En.of ⟨rfl,rfl,rfl,rfl,Y⟩ ⟨rfl,rfl,rfl,Y⟩ ⟨rfl,Y⟩) (fun _=>rfl) ?_);rintro n ⟨l312,at313⟩ h;rw [Ld] at h;show VC _ _ _ (⟨[(1,.ptr 1000001 0),(2,.int a_2),(9,.map mk2 (Xy from298 v307 x299)),(17,.int at313)],[(900010,some (3,.ints ((p_1.free.set ((v307).toNat) ((p_1.free.getD ((v307).toNat) 0)-(1:Int))).set ((a_2).toNat) (((p_1.free.set ((v307).toNat) ((p_1.free.getD ((v307).toNat) 0)-(1:Int))).getD ((a_2).toNat) 0)+(1:Int))))),(900011,some (3,.ints l312)),(900012,some (3,.ints p_1.placed))],[(1000001,some [.row 900010 0 p_1.free.length,.row 900011 0 p_1.tails.length,.row 900012 0 p_1.placed.length])]⟩:PS);refine Ag (Ag (Ab (Aa O (Aa O (Aa O (Af (Ar O (fun hb27=>?_) (fun hb27=>?_))))))))
   ·replace h:=Ak hb27 h;refine Aq (Ap (Ag (Ab ?_)));iterate 4 refine Aa O ?_
    refine Af (Ag (Ab ?_));iterate 5 refine Aa O ?_
    obtain ⟨hg28,h⟩:=Ac h;refine Ad tt O hg28 ?_;obtain ⟨hg29,h⟩:=Ac h;refine Ad tt O hg29 (Aa O (Af (Ag (Ab ?_))));iterate 6 refine Aa O ?_
    refine Ad tt O hg28 (Ao tt O O O O O O O O O O ⟨_,_,O,hg29.1,hg29.2⟩ ⟨hg29,Y⟩ (Af (Ab (Aa O (Aa O (Af ?_))))));show ∃ _,_;exact ⟨((l312.set (((Aaw (Xy from298 v307 x299) at313)).toNat) at313),(l312.getD (((Aaw (Xy from298 v307 x299) at313)).toNat) 0)),(En.of ⟨O,O,O,O,Y⟩ ⟨O,O,O,Y⟩ ⟨O,Y⟩),h⟩
   replace h:=Al hb27 h;refine Bp ?_;show ∃ _,_;exact ⟨l312,(En.of trivial ⟨O,O,O,Y⟩ ⟨O,Y⟩),h⟩
  replace h:=Al hb4 h;refine Bp ?_;show ∃ _,_;exact ⟨(l297,from298),(En.of ⟨O,O,O,O,O,O,O,Y⟩ ⟨O,O,O,O,Y⟩ ⟨O,Y⟩),h⟩
 replace h:=Al hb2 h;refine Bp ?_;show ∃ _,_;exact ⟨(),(En.of trivial ⟨O,O,O,Y⟩ ⟨O,Y⟩),h⟩
def Je (N:Nat) (bars_0:List (Int×Int)) (a_2:Int) (b_3:Int) (want_4:Int) (k:((List Int)×(List Int)×(List Int))→Option (Bool×(List Int)×(List Int)×(List Int))):Nat→((List Int)×(List Int)×(List Int))→Option (Bool×(List Int)×(List Int)×(List Int))
 | 0,_=>none
 | n+1,(l16,l17,l18)=>
  grd (0≤a_2∧a_2<(l16.length:Int)) <|
  grd (0≤b_3∧b_3<(l16.length:Int)) <|
  grd (Bc ((l16.getD ((a_2).toNat) 0)+(l16.getD ((b_3).toNat) 0))) <|
  cnd (decide (((l16.getD ((a_2).toNat) 0)+(l16.getD ((b_3).toNat) 0))<want_4)) (
   (Sm N bars_0 (⟨l16,l17,l18⟩:Pbl) a_2 b_3).bind fun v21=>
   cnd (!v21.1) (
    (Sm N bars_0 (⟨v21.2.1,v21.2.2.1,v21.2.2.2⟩:Pbl) b_3 a_2).bind fun v22=>
    cnd (!v22.1) (
     some (false,v22.2.1,v22.2.2.1,v22.2.2.2)) (
     Je N bars_0 a_2 b_3 want_4 k n (v22.2.1,v22.2.2.1,v22.2.2.2))) (
    Je N bars_0 a_2 b_3 want_4 k n (v21.2.1,v21.2.2.1,v21.2.2.2))) (
   k (l16,l17,l18))
def Yk (N:Nat) (bars_0:List (Int×Int)) (p_1:Pbl) (a_2:Int) (b_3:Int) (want_4:Int):Option (Bool×(List Int)×(List Int)×(List Int)):=
 Je N bars_0 a_2 b_3 want_4 (fun (x:(List Int)×(List Int)×(List Int))=>
   match x with
   | (l10,l11,l12)=>
    some (true,l10,l11,l12)) N (p_1.free,p_1.tails,p_1.placed)
theorem I_gather_w (N:Nat) (bars_0:List (Int×Int)) (p_1:Pbl) (a_2:Int) (b_3:Int) (want_4:Int) (r:Bool×(List Int)×(List Int)×(List Int)) (h:Yk N bars_0 p_1 a_2 b_3 want_4=some r):MCall Tryz.prog 219 [.ro false (.pairs bars_0),.ptr 1000001 0,.int a_2,.int b_3,.int want_4] [900010,900011,900012] [1000001] [(3,.ints p_1.free),(3,.ints p_1.tails),(3,.ints p_1.placed)] [(3,.ints r.2.1),(3,.ints r.2.2.1),(3,.ints r.2.2.2)] [[.row 900010 0 p_1.free.length,.row 900011 0 p_1.tails.length,.row 900012 0 p_1.placed.length]] [[.row 900010 0 r.2.1.length,.row 900011 0 r.2.2.1.length,.row 900012 0 r.2.2.2.length]] (.bool r.1):=by
 unfold Yk at h;refine Db (TT:=TT) tt Tryz.func219 rfl rfl Tryz.ntmps219 (congrArg Array.toList Tryz.results219) rfl rfl rfl rfl rfl fun w0 O0=>(Ag (Ab (Aa rfl (Af (Ag (Bz (F:=fun k=>Je N bars_0 a_2 b_3 want_4 k) h (α:=(List Int)×(List Int)×(List Int)) (J:=fun | (l10,l11,l12)=>(⟨[],[(900010,some (3,.ints l10)),(900011,some (3,.ints l11)),(900012,some (3,.ints l12))],[(1000001,some [.row 900010 0 l10.length,.row 900011 0 l11.length,.row 900012 0 l12.length])]⟩:PS)) ?_ ?_))))))
 ·rintro ⟨l10,l11,l12⟩ h;show VC _ _ _ (⟨[],[(900010,some (3,.ints l10)),(900011,some (3,.ints l11)),(900012,some (3,.ints l12))],[(1000001,some [.row 900010 0 l10.length,.row 900011 0 l11.length,.row 900012 0 l12.length])]⟩:PS);refine Ag (Ab (Aa O (Af (Bg ?_))));show ∃ _,_;cases h;exact ⟨[900010,900011,900012],O,⟨O,O,O,Y⟩,⟨O,Y⟩,O⟩
 intro k h;refine Ap (Bh (α:=(List Int)×(List Int)×(List Int)) (fun | (l16,l17,l18)=>(⟨[(0,.ro false (.pairs bars_0)),(1,.ptr 1000001 0),(2,.int a_2),(3,.int b_3),(4,.int want_4)],[(900010,some (3,.ints l16)),(900011,some (3,.ints l17)),(900012,some (3,.ints l18))],[(1000001,some [.row 900010 0 l16.length,.row 900011 0 l17.length,.row 900012 0 l18.length])]⟩:PS)) (Je N bars_0 a_2 b_3 want_4 k) h (En.of ⟨rfl,rfl,rfl,rfl,rfl,Y⟩ ⟨rfl,rfl,rfl,Y⟩ ⟨rfl,Y⟩) (fun _=>rfl) ?_);rintro n ⟨l16,l17,l18⟩ h;rw [Je] at h;show VC _ _ _ (⟨[(0,.ro false (.pairs bars_0)),(1,.ptr 1000001 0),(2,.int a_2),(3,.int b_3),(4,.int want_4)],[(900010,some (3,.ints l16)),(900011,some (3,.ints l17)),(900012,some (3,.ints l18))],[(1000001,some [.row 900010 0 l16.length,.row 900011 0 l17.length,.row 900012 0 l18.length])]⟩:PS);refine Ag (Ag (Cu (by kernel_rfl) (by kernel_rfl) ?_));iterate 5 refine Bq tt O (Ai O) O O O Y ?_
 obtain ⟨hg1,h⟩:=Ac h;iterate 2 refine Bq tt O (Ai O) O O O hg1 ?_
 iterate 5 refine Bq tt O (Ai O) O O O Y ?_
 obtain ⟨hg2,h⟩:=Ac h;iterate 2 refine Bq tt O (Ai O) O O O hg2 ?_
 obtain ⟨hg3,h⟩:=Ac h;refine Bq tt O (Ai O) O O O hg3 ?_;iterate 2 refine Bq tt O (Ai O) O O O Y ?_
 refine Ms (Ar O (fun hb4=>?_) (fun hb4=>?_))
 ·replace h:=Ak hb4 h;refine Aq (Ap (Ag (Ab ?_)));iterate 4 refine Aa O ?_
  obtain ⟨v21,hc5,h⟩:=Ae h;refine Co (Acy N bars_0 (⟨l16,l17,l18⟩:Pbl) a_2 b_3 v21 hc5) [900010,900011,900012] [1000001] [1320,1321,1322] O O O O O O ⟨O,O,O,Y⟩ ⟨O,Y⟩ ⟨.inl O,⟨O,O⟩,⟨O,O⟩,⟨O,O⟩,Y⟩ (Aa O (Aa O (Be O O O (fun hb6=>?_) (fun hb6=>?_))))
  ·replace h:=Ak hb6 h;iterate 4 refine Av tt O O O O O hb6 O O O Y ?_
   obtain ⟨v22,hc7,h⟩:=Ae h;refine oMCallG (Acy N bars_0 (⟨v21.2.1,v21.2.2.1,v21.2.2.2⟩:Pbl) b_3 a_2 v22 hc7) [1320,1321,1322] [1000001] [1390,1391,1392] O O O O hb6 O O O O O ⟨O,O,O,Y⟩ ⟨O,Y⟩ ⟨.inl O,⟨O,O⟩,⟨O,O⟩,⟨O,O⟩,Y⟩ (Av tt O O O O O hb6 O O O Y (Bm O O O O O hb6 O (Af (Ar O (fun hb8=>?_) (fun hb8=>?_)))))
   ·replace h:=Ak hb8 h;refine Ag (Ab (Aa O (Af (Bg ?_))));show ∃ _,_;cases h;exact ⟨[1390,1391,1392],O,⟨O,O,O,Y⟩,⟨O,Y⟩,O⟩
   replace h:=Al hb8 h;refine Aq ?_;show ∃ _,_;exact ⟨(v22.2.1,v22.2.2.1,v22.2.2.2),(En.ren [900010,900011,900012] [1390,1391,1392] O ⟨.inr O,.inr O,.inr O,.inr O,.inr O,Y⟩ ⟨.inr O,.inr O,.inr O,Y⟩ ⟨.inr ⟨_,_,O,O,⟨.inr O,.inr O,.inr O,Y⟩⟩,Y⟩),h⟩
  replace h:=Al hb6 h;iterate 6 refine Kq O O O O hb6 O O ?_
  refine Aw O O O O O hb6 O (Af (Cp O O (Aq ?_)));show ∃ _,_;exact ⟨(v21.2.1,v21.2.2.1,v21.2.2.2),(En.ren [900010,900011,900012] [1320,1321,1322] O ⟨.inr O,.inr O,.inr O,.inr O,.inr O,Y⟩ ⟨.inr O,.inr O,.inr O,Y⟩ ⟨.inr ⟨_,_,O,O,⟨.inr O,.inr O,.inr O,Y⟩⟩,Y⟩),h⟩
 replace h:=Al hb4 h;refine Bp ?_;show ∃ _,_;exact ⟨(l16,l17,l18),(En.of trivial ⟨O,O,O,Y⟩ ⟨O,Y⟩),h⟩
def Wv (N:Nat) (bars_0:List (Int×Int)) (l_1:Int) (p_2:Pbl) (e_3:Int):Option (Bool×(List Int)×(List Int)×(List Int)):=
 grd (0≤e_3∧e_3<(bars_0.length:Int)) <|
 grd (Bc (l_1+(1:Int))) <|
 (Yk N bars_0 (⟨p_2.free,p_2.tails,p_2.placed⟩:Pbl) ((bars_0.getD ((e_3).toNat) (0,0)).1) ((bars_0.getD ((e_3).toNat) (0,0)).2) (l_1+(1:Int))).bind fun v1=>
 cnd (!v1.1) (
  some (false,v1.2.1,v1.2.2.1,v1.2.2.2)) (
  grd (0≤((bars_0.getD ((e_3).toNat) (0,0)).1)∧((bars_0.getD ((e_3).toNat) (0,0)).1)<(v1.2.1.length:Int)) <|
  jn (fun (tail2 : Int) =>
     grd (0≤tail2∧tail2<(v1.2.1.length:Int)) <|
     grd (Bc ((v1.2.1.getD ((tail2).toNat) 0)-(1:Int))) <|
     grd (v1.2.2.1.length+1≤4294967296) <|
     grd (v1.2.2.2.length+1≤4294967296) <|
     grd (v1.2.1.length=(v1.2.1.set ((tail2).toNat) ((v1.2.1.getD ((tail2).toNat) 0)-(1:Int))).length) <|
     some (true,(v1.2.1.set ((tail2).toNat) ((v1.2.1.getD ((tail2).toNat) 0)-(1:Int))),(v1.2.2.1++([tail2]:List Int)),(v1.2.2.2++([e_3]:List Int)))) fun k3=>
   cnd ((v1.2.1.getD (((bars_0.getD ((e_3).toNat) (0,0)).1).toNat) 0)==(0:Int)) (
    k3 ((bars_0.getD ((e_3).toNat) (0,0)).2)) (
    k3 ((bars_0.getD ((e_3).toNat) (0,0)).1)))
theorem I_place_w (N:Nat) (bars_0:List (Int×Int)) (l_1:Int) (p_2:Pbl) (e_3:Int) (r:Bool×(List Int)×(List Int)×(List Int)) (h:Wv N bars_0 l_1 p_2 e_3=some r):MCall Tryz.prog 215 [.ro false (.pairs bars_0),.int l_1,.ptr 1000002 0,.int e_3] [900020,900021,900022] [1000002] [(3,.ints p_2.free),(3,.ints p_2.tails),(3,.ints p_2.placed)] [(3,.ints r.2.1),(3,.ints r.2.2.1),(3,.ints r.2.2.2)] [[.row 900020 0 p_2.free.length,.row 900021 0 p_2.tails.length,.row 900022 0 p_2.placed.length]] [[.row 900020 0 r.2.1.length,.row 900021 0 r.2.2.1.length,.row 900022 0 r.2.2.2.length]] (.bool r.1):=by
 unfold Wv at h;refine Db (TT:=TT) tt Tryz.func215 O O Tryz.ntmps215 (congrArg Array.toList Tryz.results215) O O O O O fun w0 O0=>(Ag (Ab (Aa O (Af (Ag (Ab (Aa O (Aa O ?_))))))));obtain ⟨hg1,h⟩:=Ac h;refine Ad tt O hg1 (Aa O (Bi tt O O O O O O O O O (Ao tt O O O O O O O O O O O ⟨Y,Y,Y⟩ (Af (Ag (Ag (Ab ?_)))))));iterate 7 refine Aa O ?_
 obtain ⟨hg2,h⟩:=Ac h;refine Ad tt O hg2 ?_;obtain ⟨v1,hc3,h⟩:=Ae h;refine Co (I_gather_w N bars_0 (⟨p_2.free,p_2.tails,p_2.placed⟩:Pbl) ((bars_0.getD ((e_3).toNat) (0,0)).1) ((bars_0.getD ((e_3).toNat) (0,0)).2) (l_1+(1:Int)) v1 hc3) [900020,900021,900022] [1000002] [1230,1231,1232] O O O O O O ⟨O,O,O,Y⟩ ⟨O,Y⟩ ⟨.inl O,⟨O,O⟩,⟨O,O⟩,⟨O,O⟩,⟨O,O⟩,Y⟩ (Aa O (Af (Ar O (fun hb4=>?_) (fun hb4=>?_))))
 ·replace h:=Ak hb4 h;refine Ag (Ab (Aa O (Af (Bg ?_))));show ∃ _,_;cases h;exact ⟨[1230,1231,1232],O,⟨O,O,O,Y⟩,⟨O,Y⟩,O⟩
 replace h:=Al hb4 h;refine Aq (Ag (Ab (Aa O (Aa O (Aa O (Af (Ag (Ag (Cu (by kernel_rfl) (by kernel_rfl) ?_)))))))));iterate 6 refine Bq tt O (Ai O) O O O Y ?_
 obtain ⟨hg5,h⟩:=Ac h;iterate 2 refine Bq tt O (Ai O) O O O hg5 ?_
 refine Bq tt O (Ai O) O O O Y (Ms (vJoinN h (α:=Int) (J:=fun (tail2:Int)=>(⟨[(2,.ptr 1000002 0),(3,.int e_3),(10,.int tail2)],[(1230,some (3,.ints v1.2.1)),(1231,some (3,.ints v1.2.2.1)),(1232,some (3,.ints v1.2.2.2))],[(1000002,some [.row 1230 0 v1.2.1.length,.row 1231 0 v1.2.2.1.length,.row 1232 0 v1.2.2.2.length])]⟩:PS)) ?_ ?_))
 ·rintro tail2 h;show VC _ _ _ (⟨[(2,.ptr 1000002 0),(3,.int e_3),(10,.int tail2)],[(1230,some (3,.ints v1.2.1)),(1231,some (3,.ints v1.2.2.1)),(1232,some (3,.ints v1.2.2.2))],[(1000002,some [.row 1230 0 v1.2.1.length,.row 1231 0 v1.2.2.1.length,.row 1232 0 v1.2.2.2.length])]⟩:PS);refine Ag (Ab ?_);iterate 5 refine Aa O ?_
  obtain ⟨hg6,h⟩:=Ac h;refine Ad tt O hg6 (Ad tt O hg6 ?_);obtain ⟨hg7,h⟩:=Ac h;refine Ad tt O hg7 (Ad tt O hg6 (Ao tt O O O O O O O O O O ⟨_,_,O,hg6.1,hg6.2⟩ ⟨hg6,Y⟩ (Af (Ag (Ab ?_)))));iterate 6 refine Aa O ?_
  refine Cr tt O O O O O O O O O O O ?_;obtain ⟨hg8,h⟩:=Ac h;refine Bt tt O O O O O O O O O O O O O O O O (Nat.le_of_eq (Nat.zero_add _)) hg8 (Aa O (Aa O (Ao tt O O O O O O O O O O O ⟨Y,Y⟩ (Af (Ag (Ab ?_))))));iterate 6 refine Aa O ?_
  refine Cr tt O O O O O O O O O O O ?_;obtain ⟨hg9,h⟩:=Ac h;refine Bt tt O O O O O O O O O O O O O O O O (Nat.le_of_eq (Nat.zero_add _)) hg9 (Aa O (Aa O (Ao tt O O O O O O O O O O O ⟨Y,Y⟩ (Af (Ag (Ab (Aa O (Af ?_))))))));show VC ..;obtain ⟨hg10,h⟩:=Ac h;refine vRowB 1000002 0 1230 O O hg10 O (Bg ?_);show ∃ _,_;cases h;exact ⟨[1230,1231,1232],O,⟨O,O,O,Y⟩,⟨O,Y⟩,O⟩
 intro k3 h;refine Ar O (fun hb11=>?_) (fun hb11=>?_)
 ·replace h:=Ak hb11 h;refine Ab (Aa O (Aa O (Aa O (Af ?_))));show ∃ _,_;exact ⟨(bars_0.getD ((e_3).toNat) (0,0)).2,(En.of ⟨O,O,O,Y⟩ ⟨O,O,O,Y⟩ ⟨O,Y⟩),h⟩
 replace h:=Al hb11 h;refine Aq ?_;show ∃ _,_;exact ⟨(bars_0.getD ((e_3).toNat) (0,0)).1,(En.of ⟨O,O,O,Y⟩ ⟨O,O,O,Y⟩ ⟨O,Y⟩),h⟩
def My (N:Nat) (bars_1:List (Int×Int)) (l_3:Int) (k:((List Int)×(List Int)×(List Int))→Option (Pbl)):Nat→((List Int)×(List Int)×(List Int)×Int)→Option (Pbl)
 | 0,_=>none
 | n+1,(l39,l40,l41,x42)=>
  cnd (decide (x42<(bars_1.length:Int))) (
   (Ln N (⟨l39,l40,l41⟩:Pbl)).bind fun v45=>
   (Wv N bars_1 l_3 (⟨v45.free,v45.tails,v45.placed⟩:Pbl) x42).bind fun v46=>
   cnd v46.1 (
    grd (Bc (x42+(1:Int))) <|
    My N bars_1 l_3 k n (v46.2.1,v46.2.2.1,v46.2.2.2,(x42+(1:Int)))) (
    grd (Bc (x42+(1:Int))) <|
    My N bars_1 l_3 k n (l39,l40,l41,(x42+(1:Int))))) (
   k (l39,l40,l41))
def Qv (N:Nat) (points_0:Int) (k_2:Int) (k:(List Int)→Option (Pbl)):Nat→((List Int)×Int)→Option (Pbl)
 | 0,_=>none
 | n+1,(l49,x50)=>
  cnd (decide (x50<points_0)) (
   grd (l49.length+1≤4294967296) <|
   grd (Bc (x50+(1:Int))) <|
   Qv N points_0 k_2 k n ((l49++([k_2]:List Int)),(x50+(1:Int)))) (
   k l49)
def I_play (N:Nat) (points_0:Int) (bars_1:List (Int×Int)) (k_2:Int) (l_3:Int):Option (Pbl):=
 Qv N points_0 k_2 (fun (l4 : List Int) =>
    My N bars_1 l_3 (fun (x:(List Int)×(List Int)×(List Int))=>
      match x with
      | (l24,l25,l26)=>
       some (⟨l24,l25,l26⟩:Pbl)) N (l4,([]:List Int),([]:List Int),(0:Int))) N (([]:List Int),(0:Int))
theorem I_play_w (N:Nat) (points_0:Int) (bars_1:List (Int×Int)) (k_2:Int) (l_3:Int) (r:Pbl) (h:I_play N points_0 bars_1 k_2 l_3=some r):PCall Tryz.prog 209 [.int points_0,.ro false (.pairs bars_1),.int k_2,.int l_3] [(3,.ints r.free),(3,.ints r.tails),(3,.ints r.placed)] (.agg [.row 0 0 r.free.length,.row 1 0 r.tails.length,.row 2 0 r.placed.length]):=by
 unfold I_play at h;refine Aj (TT:=TT) tt Tryz.func209 O O Tryz.ntmps209 (congrArg Array.toList Tryz.results209) O O fun w0=>(Ag (Ab (Bi tt O O O O O O O O O (Af (Ag (Ab (Fz (Ai O) (Df Dj O O) O O (Bi tt O O O O O O O O O (Ao tt O O O O O O O O O O O ⟨Y,Y,Y,Y⟩ ?_)))))))));refine Af (Ag (Ag (Ab (Aa O (Aa O (Af (Bz (F:=fun k=>Qv N points_0 k_2 k) h (α:=List Int) (J:=fun (l4:List Int)=>(⟨[(1,.ro false (.pairs bars_1)),(3,.int l_3),(8,.ptr 8 0),(9,.ptr 9 0)],[(20,some (3,.ints l4))],[(8,some [.nil,.nil,.nil]),(9,some [.row 20 0 l4.length,.nil,.nil])]⟩:PS)) ?_ ?_)))))))
 ·rintro l4 h;show VC _ _ _ (⟨[(1,.ro false (.pairs bars_1)),(3,.int l_3),(8,.ptr 8 0),(9,.ptr 9 0)],[(20,some (3,.ints l4))],[(8,some [.nil,.nil,.nil]),(9,some [.row 20 0 l4.length,.nil,.nil])]⟩:PS);refine Ag (Ag (Ab (Aa rfl (Aa rfl (Aa rfl (Af (Bz (F:=fun k=>My N bars_1 l_3 k) h (α:=(List Int)×(List Int)×(List Int)) (J:=fun | (l24,l25,l26)=>(⟨[(8,.ptr 8 0),(9,.ptr 9 0)],[(20,some (3,.ints l24)),(9505,some (3,.ints l25)),(9506,some (3,.ints l26))],[(8,some [.nil,.nil,.nil]),(9,some [.row 20 0 l24.length,.row 9505 0 l25.length,.row 9506 0 l26.length])]⟩:PS)) ?_ ?_)))))))
  ·rintro ⟨l24,l25,l26⟩ h;show VC _ _ _ (⟨[(8,.ptr 8 0),(9,.ptr 9 0)],[(20,some (3,.ints l24)),(9505,some (3,.ints l25)),(9506,some (3,.ints l26))],[(8,some [.nil,.nil,.nil]),(9,some [.row 20 0 l24.length,.row 9505 0 l25.length,.row 9506 0 l26.length])]⟩:PS);refine Ag (Ab (Aa O (Ao tt O O O O O O O O O O O ⟨Y,Y,Y,Y⟩ (Af (Bg ?_)))));show ∃ _,_;cases h;exact ⟨[20,9505,9506],_,O,⟨O,O,O,Y⟩,O,.eq O,O⟩
  intro k h;refine Ap (Kr 9 1 9507 3 (.ints []) rfl rfl rfl rfl rfl (Kr 9 2 9508 3 (.ints []) rfl rfl rfl rfl rfl (Bh (α:=(List Int)×(List Int)×(List Int)×Int) (fun | (l39,l40,l41,x42)=>(⟨[(1,.ro false (.pairs bars_1)),(3,.int l_3),(8,.ptr 8 0),(9,.ptr 9 0),(24,.int (bars_1.length:Int)),(25,.int x42)],[(20,some (3,.ints l39)),(9507,some (3,.ints l40)),(9508,some (3,.ints l41))],[(8,some [.nil,.nil,.nil]),(9,some [.row 20 0 l39.length,.row 9507 0 l40.length,.row 9508 0 l41.length])]⟩:PS)) (My N bars_1 l_3 k) h (En.of ⟨rfl,rfl,rfl,rfl,rfl,rfl,Y⟩ ⟨rfl,rfl,rfl,Y⟩ ⟨rfl,rfl,Y⟩) (fun _=>rfl) ?_)));rintro n ⟨l39,l40,l41,x42⟩ h;rw [My] at h;show VC _ _ _ (⟨[(1,.ro false (.pairs bars_1)),(3,.int l_3),(8,.ptr 8 0),(9,.ptr 9 0),(24,.int (bars_1.length:Int)),(25,.int x42)],[(20,some (3,.ints l39)),(9507,some (3,.ints l40)),(9508,some (3,.ints l41))],[(8,some [.nil,.nil,.nil]),(9,some [.row 20 0 l39.length,.row 9507 0 l40.length,.row 9508 0 l41.length])]⟩:PS);refine Ag (Ab (Aa O (Af (Ag (Ar O (fun hb1=>?_) (fun hb1=>?_))))))
  ·replace h:=Ak hb1 h;refine Aq (Ag (Ap (Ag (Ab (Aa O (Aa O (Af (Ag (Ab ?_)))))))));refine Aa O ?_;obtain ⟨v45,hc2,h⟩:=Ae h;refine Ba (Abb N (⟨l39,l40,l41⟩:Pbl) v45 hc2) O O O O O O O O ⟨⟨(.inl ⟨O,O⟩),(.inl ⟨O,O⟩),(.inl ⟨O,O⟩),Y⟩,Y⟩ (Bi tt O O O O O O O O O (Ao tt O O O O O O O O O O O ⟨Y,Y,Y,Y⟩ (Af (Ag (Ab (Aa O (Aa O (Aa O ?_))))))));obtain ⟨v46,hc3,h⟩:=Ae h;refine Co (I_place_w N bars_1 l_3 (⟨v45.free,v45.tails,v45.placed⟩:Pbl) x42 v46 hc3) [1290,1291,1292] [11] [1330,1331,1332] O O O O O O ⟨O,O,O,Y⟩ ⟨O,Y⟩ ⟨.inl O,⟨O,O⟩,⟨O,O⟩,⟨O,O⟩,Y⟩ (Af (Ar O (fun hb4=>?_) (fun hb4=>?_)))
   ·replace h:=Ak hb4 h;refine Ab (Aa O (Ao tt O O O O O O O O O O O ⟨Y,Y,Y,Y⟩ (Af (Ab ?_))));obtain ⟨hg5,h⟩:=Ac h;refine Ad tt O hg5 (Aa O (Af ?_));show ∃ _,_;exact ⟨(v46.2.1,v46.2.2.1,v46.2.2.2,(x42+(1:Int))),(En.ren [20,9507,9508] [1330,1331,1332] O ⟨.inr O,.inr O,.inr O,.inr O,.inr O,.inr O,Y⟩ ⟨.inr O,.inr O,.inr O,Y⟩ ⟨.inr ⟨_,_,O,O,⟨.inr O,.inr O,.inr O,Y⟩⟩,.inr ⟨_,_,O,O,⟨.inr O,.inr O,.inr O,Y⟩⟩,Y⟩),h⟩
   replace h:=Al hb4 h;refine Aq (Ab ?_);obtain ⟨hg6,h⟩:=Ac h;refine Ad tt O hg6 (Aa O (Af ?_));show ∃ _,_;exact ⟨(l39,l40,l41,(x42+(1:Int))),(En.of ⟨O,O,O,O,O,O,Y⟩ ⟨O,O,O,Y⟩ ⟨O,O,Y⟩),h⟩
  replace h:=Al hb1 h;refine Bp ?_;show ∃ _,_;exact ⟨(l39,l40,l41),(En.ren [9505,9506] [9507,9508] O ⟨.inr O,.inr O,Y⟩ ⟨.inr O,.inr O,.inr O,Y⟩ ⟨.inr ⟨_,_,O,O,⟨.inr O,.inr O,.inr O,Y⟩⟩,.inr ⟨_,_,O,O,⟨.inr O,.inr O,.inr O,Y⟩⟩,Y⟩),h⟩
 intro k h;refine Ap (Kr 9 0 20 3 (.ints []) rfl rfl rfl rfl rfl (Bh (α:=(List Int)×Int) (fun | (l49,x50)=>(⟨[(1,.ro false (.pairs bars_1)),(2,.int k_2),(3,.int l_3),(8,.ptr 8 0),(9,.ptr 9 0),(13,.int points_0),(14,.int x50)],[(20,some (3,.ints l49))],[(8,some [.nil,.nil,.nil]),(9,some [.row 20 0 l49.length,.nil,.nil])]⟩:PS)) (Qv N points_0 k_2 k) h (En.of ⟨rfl,rfl,rfl,rfl,rfl,rfl,rfl,Y⟩ ⟨rfl,Y⟩ ⟨rfl,rfl,Y⟩) (fun _=>rfl) ?_));rintro n ⟨l49,x50⟩ h;rw [Qv] at h;show VC _ _ _ (⟨[(1,.ro false (.pairs bars_1)),(2,.int k_2),(3,.int l_3),(8,.ptr 8 0),(9,.ptr 9 0),(13,.int points_0),(14,.int x50)],[(20,some (3,.ints l49))],[(8,some [.nil,.nil,.nil]),(9,some [.row 20 0 l49.length,.nil,.nil])]⟩:PS);refine Ag (Ab (Aa O (Af (Ag (Ar O (fun hb7=>?_) (fun hb7=>?_))))))
 ·replace h:=Ak hb7 h;refine Aq (Ag (Ap (Ab (Aa O (Aa O (Aa O (Cr tt O O O O O O O O O O O ?_)))))));obtain ⟨hg8,h⟩:=Ac h;refine Bt tt O O O O O O O O O O O O O O O O (Nat.le_of_eq (Nat.zero_add _)) hg8 (Aa O (Ao tt O O O O O O O O O O O ⟨Y,Y⟩ (Af (Ab ?_))));obtain ⟨hg9,h⟩:=Ac h;refine Ad tt O hg9 (Aa O (Af ?_));show ∃ _,_;exact ⟨((l49++([k_2]:List Int)),(x50+(1:Int))),(En.of ⟨O,O,O,O,O,O,O,Y⟩ ⟨O,Y⟩ ⟨O,O,Y⟩),h⟩
 replace h:=Al hb7 h;refine Bp ?_;show ∃ _,_;exact ⟨l49,(En.of ⟨O,O,O,O,Y⟩ ⟨O,Y⟩ ⟨O,O,Y⟩),h⟩
end
section
open Go.RowKit
def Em (N:Nat) (g_0:Grf) (p_1:Pbl) (a_2:Int) (b_3:Int) (l106:List Int) (k108:Int) (k:((List Int)×(List Int)×(List Bool))→Option (Pbl×Bool)):Nat→((List Int)×(List Int)×(List Bool)×Int)→Option (Pbl×Bool)
 | 0,_=>none
 | n+1,(l149,l150,l151,i152)=>
  cnd (decide (i152<(p_1.placed.length:Int))) (
   grd (0≤i152∧i152<(p_1.tails.length:Int)) <|
   cnd ((p_1.tails.getD ((i152).toNat) 0) != (l106.getD ((k108).toNat) 0)) (
    grd (Bc (i152+(1:Int))) <|
    Em N g_0 p_1 a_2 b_3 l106 k108 k n (l149,l150,l151,(i152+(1:Int)))) (
    grd (0≤i152∧i152<(p_1.placed.length:Int)) <|
    grd (0≤(p_1.placed.getD ((i152).toNat) 0)∧(p_1.placed.getD ((i152).toNat) 0)<(g_0.bars.length:Int)) <|
    (Ku N (g_0.bars.getD (((p_1.placed.getD ((i152).toNat) 0)).toNat) (0,0)) (l106.getD ((k108).toNat) 0)).bind fun v155=>
    grd (0≤v155∧v155<((List.replicate ((g_0.n).toNat) (false:Bool)).length:Int)) <|
    grd (0≤v155∧v155<(l151.length:Int)) <|
    cnd (l151.getD ((v155).toNat) false) (
     grd (Bc (i152+(1:Int))) <|
     Em N g_0 p_1 a_2 b_3 l106 k108 k n (l149,l150,l151,(i152+(1:Int)))) (
     grd (0≤v155∧v155<((List.replicate ((g_0.n).toNat) (0:Int)).length:Int)) <|
     grd (0≤v155∧v155<(l149.length:Int)) <|
     cnd (v155 != b_3) (
      grd (0≤v155∧v155<(p_1.free.length:Int)) <|
      cnd (decide ((p_1.free.getD ((v155).toNat) 0) > (0:Int))) (
       grd ((List.replicate ((g_0.n).toNat) (0:Int)).length=(l149.set ((v155).toNat) i152).length) <|
       (Vt N g_0 p_1 (l149.set ((v155).toNat) i152) a_2 v155).bind fun v156=>
       some ((⟨v156.free,v156.tails,v156.placed⟩:Pbl),true)) (
       grd (l150.length+1≤4294967296) <|
       grd (Bc (i152+(1:Int))) <|
       Em N g_0 p_1 a_2 b_3 l106 k108 k n ((l149.set ((v155).toNat) i152),(l150++([v155]:List Int)),(l151.set ((v155).toNat) true),(i152+(1:Int))))) (
      grd (l150.length+1≤4294967296) <|
      grd (Bc (i152+(1:Int))) <|
      Em N g_0 p_1 a_2 b_3 l106 k108 k n ((l149.set ((v155).toNat) i152),(l150++([v155]:List Int)),(l151.set ((v155).toNat) true),(i152+(1:Int))))))) (
   k (l149,l150,l151))
def Cz (N:Nat) (g_0:Grf) (p_1:Pbl) (a_2:Int) (b_3:Int) (k:Unit→Option (Pbl×Bool)):Nat→((List Int)×(List Int)×(List Bool)×Int)→Option (Pbl×Bool)
 | 0,_=>none
 | n+1,(l105,l106,l107,k108)=>
  cnd (decide (k108<(l106.length:Int))) (
   grd (0≤k108∧k108<(l106.length:Int)) <|
   Em N g_0 p_1 a_2 b_3 l106 k108 (fun (x:(List Int)×(List Int)×(List Bool))=>
     match x with
     | (l143,l144,l145)=>
      grd (Bc (k108+(1:Int))) <|
      Cz N g_0 p_1 a_2 b_3 k n (l143,l144,l145,(k108+(1:Int)))) N (l105,l106,l107,(0:Int))) (
   k ())
def Hi (N:Nat) (g_0:Grf) (k:(List Int)→Option (Pbl×Bool)):Nat→((List Int)×Int)→Option (Pbl×Bool)
 | 0,_=>none
 | n+1,(l158,i159)=>
  cnd (decide (i159<g_0.n)) (
   grd (0≤i159∧i159<((List.replicate ((g_0.n).toNat) (0:Int)).length:Int)) <|
   grd (0≤i159∧i159<(l158.length:Int)) <|
   grd (Bc (i159+(1:Int))) <|
   Hi N g_0 k n ((l158.set ((i159).toNat) (-1:Int)),(i159+(1:Int)))) (
   k l158)
def Mu (N:Nat) (g_0:Grf) (p_1:Pbl) (a_2:Int) (b_3:Int):Option (Pbl×Bool):=
 grd (0≤g_0.n∧g_0.n≤4294967296) <|
 Hi N g_0 (fun (l3 : List Int) =>
    grd (0≤a_2∧a_2<((List.replicate ((g_0.n).toNat) (false:Bool)).length:Int)) <|
    Cz N g_0 p_1 a_2 b_3 (fun (_ : Unit) =>
       some ((⟨p_1.free,p_1.tails,p_1.placed⟩:Pbl),false)) N (l3,([a_2]:List Int),((List.replicate ((g_0.n).toNat) (false:Bool)).set ((a_2).toNat) true),(0:Int))) N ((List.replicate ((g_0.n).toNat) (0:Int)),(0:Int))
theorem Abk (N:Nat) (g_0:Grf) (p_1:Pbl) (a_2:Int) (b_3:Int) (r:Pbl×Bool) (h:Mu N g_0 p_1 a_2 b_3=some r) (halt:r.2=true):PCall Tryz.prog 217 [gD g_0,bD p_1,.int a_2,.int b_3] [(3,.ints r.1.free),(3,.ints r.1.tails),(3,.ints r.1.placed)] (.tup [.agg [.row 0 0 r.1.free.length,.row 1 0 r.1.tails.length,.row 2 0 r.1.placed.length],.bool r.2]):=by
 unfold Mu at h;refine Aj (TT:=TT) tt Tryz.func217 O O Tryz.ntmps217 (congrArg Array.toList Tryz.results217) O O fun w0=>(Ag (Ab ?_));iterate 2 refine Hz O O O O O O O O O ?_
 refine Bi tt O O O O O O O O O (Aa O (Af (Ag (Ab (Aa O (Aa O ?_))))));obtain ⟨hg1,h⟩:=Ac h;refine oMake tt O O O O O O O O O O O hg1 (Aa O (Af (Ag (Ag (Ab (Aa O (Af (Bz (F:=fun k=>Hi N g_0 k) h (α:=List Int) (J:=fun (l3:List Int)=>(⟨[(2,.int a_2),(3,.int b_3),(4,.ptr 4 0),(5,.ptr 5 0),(8,.ptr 8 0),(10,.row 20 0 ((List.replicate ((g_0.n).toNat) (0:Int)).length))],[(20,some (3,.ints l3))],[(4,some [.int g_0.n,.ro false (.pairs g_0.bars)]),(5,some [.ro false (.ints p_1.free),.ro false (.ints p_1.tails),.ro false (.ints p_1.placed)]),(8,some [.nil,.nil,.nil])]⟩:PS)) ?_ ?_))))))))
 ·rintro l3 h;show VC _ _ _ (⟨[(2,.int a_2),(3,.int b_3),(4,.ptr 4 0),(5,.ptr 5 0),(8,.ptr 8 0),(10,.row 20 0 ((List.replicate ((g_0.n).toNat) (0:Int)).length))],[(20,some (3,.ints l3))],[(4,some [.int g_0.n,.ro false (.pairs g_0.bars)]),(5,some [.ro false (.ints p_1.free),.ro false (.ints p_1.tails),.ro false (.ints p_1.placed)]),(8,some [.nil,.nil,.nil])]⟩:PS);refine Ag (Ab (Aa O (Cr tt O O O O O O O O O O O (Aa O (Af (Ag (Ab (Aa O (Aa O ?_)))))))));refine oMake tt O O O O O O O O O O O hg1 (Aa O (Af (Ag (Ab (Aa O (Aa O ?_))))));obtain ⟨hg2,h⟩:=Ac h;refine Ad tt O hg2 (Ao tt O O O O O O O O O O ⟨_,_,O,hg2.1,hg2.2⟩ ⟨hg2,Y⟩ (Af (Ag (Ag (Ab (Aa O (Af (Bz (F:=fun k=>Cz N g_0 p_1 a_2 b_3 k) h (α:=Unit) (J:=fun (_:Unit)=>(⟨[(5,.ptr 5 0),(8,.ptr 8 0)],[],[(5,some [.ro false (.ints p_1.free),.ro false (.ints p_1.tails),.ro false (.ints p_1.placed)]),(8,some [.nil,.nil,.nil])]⟩:PS)) ?_ ?_))))))))
  ·rintro ⟨⟩ h;show VC _ _ _ (⟨[(5,.ptr 5 0),(8,.ptr 8 0)],[],[(5,some [.ro false (.ints p_1.free),.ro false (.ints p_1.tails),.ro false (.ints p_1.placed)]),(8,some [.nil,.nil,.nil])]⟩:PS);refine Ag (Ab (Aa O (Ao tt O O O O O O O O O O O ⟨Y,Y,Y,Y⟩ (Aa O (Af ?_)))));show VC ..;cases h;cases halt
  intro k h;refine Ap (Bh (α:=(List Int)×(List Int)×(List Bool)×Int) (fun | (l105,l106,l107,k108)=>(⟨[(2,.int a_2),(3,.int b_3),(4,.ptr 4 0),(5,.ptr 5 0),(8,.ptr 8 0),(10,.row 20 0 ((List.replicate ((g_0.n).toNat) (0:Int)).length)),(12,.row 31 0 l106.length),(13,.row 34 0 ((List.replicate ((g_0.n).toNat) (false:Bool)).length)),(14,.int k108)],[(20,some (3,.ints l105)),(31,some (3,.ints l106)),(34,some (4,.bools l107))],[(4,some [.int g_0.n,.ro false (.pairs g_0.bars)]),(5,some [.ro false (.ints p_1.free),.ro false (.ints p_1.tails),.ro false (.ints p_1.placed)]),(8,some [.nil,.nil,.nil])]⟩:PS)) (Cz N g_0 p_1 a_2 b_3 k) h (En.of ⟨rfl,rfl,rfl,rfl,rfl,rfl,rfl,rfl,rfl,Y⟩ ⟨rfl,rfl,rfl,Y⟩ ⟨rfl,rfl,rfl,Y⟩) (fun _=>rfl) ?_);rintro n ⟨l105,l106,l107,k108⟩ h;rw [Cz] at h;show VC _ _ _ (⟨[(2,.int a_2),(3,.int b_3),(4,.ptr 4 0),(5,.ptr 5 0),(8,.ptr 8 0),(10,.row 20 0 ((List.replicate ((g_0.n).toNat) (0:Int)).length)),(12,.row 31 0 l106.length),(13,.row 34 0 ((List.replicate ((g_0.n).toNat) (false:Bool)).length)),(14,.int k108)],[(20,some (3,.ints l105)),(31,some (3,.ints l106)),(34,some (4,.bools l107))],[(4,some [.int g_0.n,.ro false (.pairs g_0.bars)]),(5,some [.ro false (.ints p_1.free),.ro false (.ints p_1.tails),.ro false (.ints p_1.placed)]),(8,some [.nil,.nil,.nil])]⟩:PS);refine Ag (Ag (Ab ?_));iterate 4 refine Aa O ?_
  refine Af (Ar O (fun hb3=>?_) (fun hb3=>?_))
  ·replace h:=Ak hb3 h;refine Aq (Ag (Ap (Ag (Ab (Aa O (Aa O ?_))))));obtain ⟨hg4,h⟩:=Ac h;refine Ad tt rfl hg4 (Ad tt rfl hg4 (Aa rfl (Af (Ag (Ab (Aa rfl (Af (Bz (F:=fun k=>Em N g_0 p_1 a_2 b_3 l106 k108 k) h (α:=(List Int)×(List Int)×(List Bool)) (J:=fun | (l143,l144,l145)=>(⟨[(2,.int a_2),(3,.int b_3),(4,.ptr 4 0),(5,.ptr 5 0),(8,.ptr 8 0),(10,.row 20 0 ((List.replicate ((g_0.n).toNat) (0:Int)).length)),(12,.row 31 0 l144.length),(13,.row 34 0 ((List.replicate ((g_0.n).toNat) (false:Bool)).length)),(14,.int k108)],[(20,some (3,.ints l143)),(31,some (3,.ints l144)),(34,some (4,.bools l145))],[(4,some [.int g_0.n,.ro false (.pairs g_0.bars)]),(5,some [.ro false (.ints p_1.free),.ro false (.ints p_1.tails),.ro false (.ints p_1.placed)]),(8,some [.nil,.nil,.nil])]⟩:PS)) ?_ ?_))))))))
   ·rintro ⟨l143,l144,l145⟩ h;show VC _ _ _ (⟨[(2,.int a_2),(3,.int b_3),(4,.ptr 4 0),(5,.ptr 5 0),(8,.ptr 8 0),(10,.row 20 0 ((List.replicate ((g_0.n).toNat) (0:Int)).length)),(12,.row 31 0 l144.length),(13,.row 34 0 ((List.replicate ((g_0.n).toNat) (false:Bool)).length)),(14,.int k108)],[(20,some (3,.ints l143)),(31,some (3,.ints l144)),(34,some (4,.bools l145))],[(4,some [.int g_0.n,.ro false (.pairs g_0.bars)]),(5,some [.ro false (.ints p_1.free),.ro false (.ints p_1.tails),.ro false (.ints p_1.placed)]),(8,some [.nil,.nil,.nil])]⟩:PS);refine Ab (Aa O ?_);obtain ⟨hg5,h⟩:=Ac h;refine Ad tt O hg5 (Aa O (Af ?_));show ∃ _,_;exact ⟨(l143,l144,l145,(k108+(1:Int))),(En.of ⟨O,O,O,O,O,O,O,O,O,Y⟩ ⟨O,O,O,Y⟩ ⟨O,O,O,Y⟩),h⟩
   intro k h;refine Ap (Bh (α:=(List Int)×(List Int)×(List Bool)×Int) (fun | (l149,l150,l151,i152)=>(⟨[(2,.int a_2),(3,.int b_3),(4,.ptr 4 0),(5,.ptr 5 0),(8,.ptr 8 0),(10,.row 20 0 ((List.replicate ((g_0.n).toNat) (0:Int)).length)),(12,.row 31 0 l150.length),(13,.row 34 0 ((List.replicate ((g_0.n).toNat) (false:Bool)).length)),(14,.int k108),(15,.int (l106.getD ((k108).toNat) 0)),(16,.int i152)],[(20,some (3,.ints l149)),(31,some (3,.ints l150)),(34,some (4,.bools l151))],[(4,some [.int g_0.n,.ro false (.pairs g_0.bars)]),(5,some [.ro false (.ints p_1.free),.ro false (.ints p_1.tails),.ro false (.ints p_1.placed)]),(8,some [.nil,.nil,.nil])]⟩:PS)) (Em N g_0 p_1 a_2 b_3 l106 k108 k) h (En.of ⟨rfl,rfl,rfl,rfl,rfl,rfl,rfl,rfl,rfl,rfl,rfl,Y⟩ ⟨rfl,rfl,rfl,Y⟩ ⟨rfl,rfl,rfl,Y⟩) (fun _=>rfl) ?_);rintro n ⟨l149,l150,l151,i152⟩ h;rw [Em] at h;show VC _ _ _ (⟨[(2,.int a_2),(3,.int b_3),(4,.ptr 4 0),(5,.ptr 5 0),(8,.ptr 8 0),(10,.row 20 0 ((List.replicate ((g_0.n).toNat) (0:Int)).length)),(12,.row 31 0 l150.length),(13,.row 34 0 ((List.replicate ((g_0.n).toNat) (false:Bool)).length)),(14,.int k108),(15,.int (l106.getD ((k108).toNat) 0)),(16,.int i152)],[(20,some (3,.ints l149)),(31,some (3,.ints l150)),(34,some (4,.bools l151))],[(4,some [.int g_0.n,.ro false (.pairs g_0.bars)]),(5,some [.ro false (.ints p_1.free),.ro false (.ints p_1.tails),.ro false (.ints p_1.placed)]),(8,some [.nil,.nil,.nil])]⟩:PS);refine Ag (Ag (Ab ?_));iterate 5 refine Aa O ?_
   refine Af (Ar O (fun hb6=>?_) (fun hb6=>?_))
   ·replace h:=Ak hb6 h;refine Aq (Ag (Ap (Ag (Ag (Ab (Aa O (Aa O (Aa O ?_))))))));obtain ⟨hg7,h⟩:=Ac h;refine Ad tt O hg7 (Aa O (Aa O (Aa O (Af (Ar O (fun hb8=>?_) (fun hb8=>?_))))))
    ·replace h:=Ak hb8 h;refine Bp (Ab (Aa O ?_));obtain ⟨hg9,h⟩:=Ac h;refine Ad tt O hg9 (Aa O (Af ?_));show ∃ _,_;exact ⟨(l149,l150,l151,(i152+(1:Int))),(En.of ⟨O,O,O,O,O,O,O,O,O,O,O,Y⟩ ⟨O,O,O,Y⟩ ⟨O,O,O,Y⟩),h⟩
    replace h:=Al hb8 h;refine Aq (Ag (Cu (by kernel_rfl) (by kernel_rfl) ?_));iterate 5 refine Bq tt O (Ai O) O O O Y ?_
    obtain ⟨hg10,h⟩:=Ac h;refine Bq tt O (Ai O) O O O hg10 (Bq tt O (Ai O) O O O Y ?_);obtain ⟨hg11,h⟩:=Ac h;refine Bq tt O (Ai O) O O O hg11 ?_;iterate 2 refine Bq tt O (Ai O) O O O Y ?_
    obtain ⟨v155,hc12,h⟩:=Ae h;refine Xh (Qi N (g_0.bars.getD (((p_1.placed.getD ((i152).toNat) 0)).toNat) (0,0)) (l106.getD ((k108).toNat) 0) v155 hc12) O (Ai O) O O O O O O ⟨⟨O,O,Y⟩,O,Y⟩ (Bq tt O (Ai O) O O O Y (Ms (Ag (Ag (Ab (Aa O (Aa O ?_)))))));obtain ⟨hg13,h⟩:=Ac h;refine Ad tt O hg13 ?_;obtain ⟨hg14,h⟩:=Ac h;refine Ad tt O hg14 (Af (Ar O (fun hb15=>?_) (fun hb15=>?_)))
    ·replace h:=Ak hb15 h;refine Bp (Ab (Aa O ?_));obtain ⟨hg16,h⟩:=Ac h;refine Ad tt O hg16 (Aa O (Af ?_));show ∃ _,_;exact ⟨(l149,l150,l151,(i152+(1:Int))),(En.of ⟨O,O,O,O,O,O,O,O,O,O,O,Y⟩ ⟨O,O,O,Y⟩ ⟨O,O,O,Y⟩),h⟩
    replace h:=Al hb15 h;refine Aq (Ag (Ab (Aa O (Aa O (Ad tt O hg13 (Ao tt O O O O O O O O O O ⟨_,_,O,hg14.1,hg14.2⟩ ⟨hg14,Y⟩ (Af (Ag (Ab ?_)))))))));refine Aa O (Aa O (Aa O ?_));obtain ⟨hg17,h⟩:=Ac h;refine Ad tt O hg17 ?_;obtain ⟨hg18,h⟩:=Ac h;refine Ao tt O O O O O O O O O O ⟨_,_,O,hg18.1,hg18.2⟩ ⟨hg18,Y⟩ (Af (Ag (Ag (Ab ?_))));iterate 4 refine Aa O ?_
    refine Be O O O (fun hb19=>?_) (fun hb19=>?_)
    ·replace h:=Ak hb19 h;iterate 3 refine Av tt O O O O O hb19 O O O Y ?_
     obtain ⟨hg20,h⟩:=Ac h;refine Av tt O O O O O hb19 O O O hg20 ?_;iterate 2 refine Av tt O O O O O hb19 O O O Y ?_
     refine Bm O O O O O hb19 O (Af (Ar O (fun hb21=>?_) (fun hb21=>?_)))
     ·replace h:=Ak hb21 h;refine Ag (Ab ?_);iterate 5 refine Aa O ?_
      obtain ⟨hg22,h⟩:=Ac h;obtain ⟨v156,hc23,h⟩:=Ae h;refine Ba (Aa8 N g_0 p_1 (l149.set ((v155).toNat) i152) a_2 v155 v156 hc23) O O O O O O O O ⟨⟨O,O,Y⟩,⟨O,O,O,Y⟩,(.inl ⟨hg22,O⟩),O,O,Y⟩ (Ao tt O O O O O O O O O O O ⟨Y,Y,Y,Y⟩ (Aa O (Af (Bg ?_))));show ∃ _,_;cases h;exact ⟨[2000,2001,2002],_,O,⟨O,O,O,Y⟩,O,.eq O,O⟩
     replace h:=Al hb21 h;refine Aq (Ab (Aa O (Aa O (Cr tt O O O O O O O O O O O ?_))));obtain ⟨hg24,h⟩:=Ac h;refine Bt tt O O O O O O O O O O O O O O O O (Nat.le_of_eq (Nat.zero_add _)) hg24 (Aa O (Af (Ab (Aa O ?_))));obtain ⟨hg25,h⟩:=Ac h;refine Ad tt O hg25 (Aa O (Af ?_));show ∃ _,_;exact ⟨((l149.set ((v155).toNat) i152),(l150++([v155]:List Int)),(l151.set ((v155).toNat) true),(i152+(1:Int))),(En.of ⟨O,O,O,O,O,O,O,O,O,O,O,Y⟩ ⟨O,O,O,Y⟩ ⟨O,O,O,Y⟩),h⟩
    replace h:=Al hb19 h;iterate 6 refine Kq O O O O hb19 O O ?_
    refine Aw O O O O O hb19 O (Af (Cp O O (Aq (Ab (Aa O (Aa O (Cr tt O O O O O O O O O O O ?_)))))));obtain ⟨hg26,h⟩:=Ac h;refine Bt tt O O O O O O O O O O O O O O O O (Nat.le_of_eq (Nat.zero_add _)) hg26 (Aa O (Af (Ab (Aa O ?_))));obtain ⟨hg27,h⟩:=Ac h;refine Ad tt O hg27 (Aa O (Af ?_));show ∃ _,_;exact ⟨((l149.set ((v155).toNat) i152),(l150++([v155]:List Int)),(l151.set ((v155).toNat) true),(i152+(1:Int))),(En.of ⟨O,O,O,O,O,O,O,O,O,O,O,Y⟩ ⟨O,O,O,Y⟩ ⟨O,O,O,Y⟩),h⟩
   replace h:=Al hb6 h;refine Bp ?_;show ∃ _,_;exact ⟨(l149,l150,l151),(En.of ⟨O,O,O,O,O,O,O,O,O,Y⟩ ⟨O,O,O,Y⟩ ⟨O,O,O,Y⟩),h⟩
  replace h:=Al hb3 h;refine Bp ?_;show ∃ _,_;exact ⟨(),(En.of ⟨O,O,Y⟩ trivial ⟨O,O,Y⟩),h⟩
 intro k h;refine Ap (Bh (α:=(List Int)×Int) (fun | (l158,i159)=>(⟨[(2,.int a_2),(3,.int b_3),(4,.ptr 4 0),(5,.ptr 5 0),(8,.ptr 8 0),(10,.row 20 0 ((List.replicate ((g_0.n).toNat) (0:Int)).length)),(11,.int i159)],[(20,some (3,.ints l158))],[(4,some [.int g_0.n,.ro false (.pairs g_0.bars)]),(5,some [.ro false (.ints p_1.free),.ro false (.ints p_1.tails),.ro false (.ints p_1.placed)]),(8,some [.nil,.nil,.nil])]⟩:PS)) (Hi N g_0 k) h (En.of ⟨rfl,rfl,rfl,rfl,rfl,rfl,rfl,Y⟩ ⟨rfl,Y⟩ ⟨rfl,rfl,rfl,Y⟩) (fun _=>rfl) ?_);rintro n ⟨l158,i159⟩ h;rw [Hi] at h;show VC _ _ _ (⟨[(2,.int a_2),(3,.int b_3),(4,.ptr 4 0),(5,.ptr 5 0),(8,.ptr 8 0),(10,.row 20 0 ((List.replicate ((g_0.n).toNat) (0:Int)).length)),(11,.int i159)],[(20,some (3,.ints l158))],[(4,some [.int g_0.n,.ro false (.pairs g_0.bars)]),(5,some [.ro false (.ints p_1.free),.ro false (.ints p_1.tails),.ro false (.ints p_1.placed)]),(8,some [.nil,.nil,.nil])]⟩:PS);refine Ag (Ag (Ab ?_));iterate 4 refine Aa O ?_
 refine Af (Ar O (fun hb28=>?_) (fun hb28=>?_))
 ·replace h:=Ak hb28 h;refine Aq (Ag (Ap (Ab (Aa O (Aa O ?_)))));obtain ⟨hg29,h⟩:=Ac h;refine Ad tt O hg29 ?_;obtain ⟨hg30,h⟩:=Ac h;refine Ao tt O O O O O O O O O O ⟨_,_,O,hg30.1,hg30.2⟩ ⟨hg30,Y⟩ (Af (Ab (Aa O ?_)));obtain ⟨hg31,h⟩:=Ac h;refine Ad tt O hg31 (Aa O (Af ?_));show ∃ _,_;exact ⟨((l158.set ((i159).toNat) (-1:Int)),(i159+(1:Int))),(En.of ⟨O,O,O,O,O,O,O,Y⟩ ⟨O,Y⟩ ⟨O,O,O,Y⟩),h⟩
 replace h:=Al hb28 h;refine Bp ?_;show ∃ _,_;exact ⟨l158,(En.of ⟨O,O,O,O,O,O,Y⟩ ⟨O,Y⟩ ⟨O,O,O,Y⟩),h⟩
theorem Aaq (N:Nat) (g_0:Grf) (p_1:Pbl) (a_2:Int) (b_3:Int) (r:Pbl×Bool) (h:Mu N g_0 p_1 a_2 b_3=some r) (halt:r.2=false):PCall Tryz.prog 217 [gD g_0,bD p_1,.int a_2,.int b_3] [] (.tup [.agg [.any,.any,.any],.bool r.2]):=by
 unfold Mu at h;refine Aj (TT:=TT) tt Tryz.func217 O O Tryz.ntmps217 (congrArg Array.toList Tryz.results217) O O fun w0=>(Ag (Ab ?_));iterate 2 refine Hz O O O O O O O O O ?_
 refine Bi tt O O O O O O O O O (Aa O (Af (Ag (Ab (Aa O (Aa O ?_))))));obtain ⟨hg1,h⟩:=Ac h;refine oMake tt O O O O O O O O O O O hg1 (Aa O (Af (Ag (Ag (Ab (Aa O (Af (Bz (F:=fun k=>Hi N g_0 k) h (α:=List Int) (J:=fun (l3:List Int)=>(⟨[(2,.int a_2),(3,.int b_3),(4,.ptr 4 0),(5,.ptr 5 0),(8,.ptr 8 0),(10,.row 20 0 ((List.replicate ((g_0.n).toNat) (0:Int)).length))],[(20,some (3,.ints l3))],[(4,some [.int g_0.n,.ro false (.pairs g_0.bars)]),(5,some [.ro false (.ints p_1.free),.ro false (.ints p_1.tails),.ro false (.ints p_1.placed)]),(8,some [.nil,.nil,.nil])]⟩:PS)) ?_ ?_))))))))
 ·rintro l3 h;show VC _ _ _ (⟨[(2,.int a_2),(3,.int b_3),(4,.ptr 4 0),(5,.ptr 5 0),(8,.ptr 8 0),(10,.row 20 0 ((List.replicate ((g_0.n).toNat) (0:Int)).length))],[(20,some (3,.ints l3))],[(4,some [.int g_0.n,.ro false (.pairs g_0.bars)]),(5,some [.ro false (.ints p_1.free),.ro false (.ints p_1.tails),.ro false (.ints p_1.placed)]),(8,some [.nil,.nil,.nil])]⟩:PS);refine Ag (Ab (Aa O (Cr tt O O O O O O O O O O O (Aa O (Af (Ag (Ab (Aa O (Aa O ?_)))))))));refine oMake tt O O O O O O O O O O O hg1 (Aa O (Af (Ag (Ab (Aa O (Aa O ?_))))));obtain ⟨hg2,h⟩:=Ac h;refine Ad tt O hg2 (Ao tt O O O O O O O O O O ⟨_,_,O,hg2.1,hg2.2⟩ ⟨hg2,Y⟩ (Af (Ag (Ag (Ab (Aa O (Af (Bz (F:=fun k=>Cz N g_0 p_1 a_2 b_3 k) h (α:=Unit) (J:=fun (_:Unit)=>(⟨[(5,.ptr 5 0),(8,.ptr 8 0)],[],[(5,some [.ro false (.ints p_1.free),.ro false (.ints p_1.tails),.ro false (.ints p_1.placed)]),(8,some [.nil,.nil,.nil])]⟩:PS)) ?_ ?_))))))))
  ·rintro ⟨⟩ h;show VC _ _ _ (⟨[(5,.ptr 5 0),(8,.ptr 8 0)],[],[(5,some [.ro false (.ints p_1.free),.ro false (.ints p_1.tails),.ro false (.ints p_1.placed)]),(8,some [.nil,.nil,.nil])]⟩:PS);refine Ag (Ab (Aa O (Ao tt O O O O O O O O O O O ⟨Y,Y,Y,Y⟩ (Aa O (Af (Bg ?_))))));show ∃ _,_;cases h;exact ⟨[],_,O,Y,O,(wkTup O O ⟨wkAgg O O ⟨.any O O,.any O O,.any O O,Y⟩,.eq O,Y⟩),O⟩
  intro k h;refine Ap (Bh (α:=(List Int)×(List Int)×(List Bool)×Int) (fun | (l105,l106,l107,k108)=>(⟨[(2,.int a_2),(3,.int b_3),(4,.ptr 4 0),(5,.ptr 5 0),(8,.ptr 8 0),(10,.row 20 0 ((List.replicate ((g_0.n).toNat) (0:Int)).length)),(12,.row 31 0 l106.length),(13,.row 34 0 ((List.replicate ((g_0.n).toNat) (false:Bool)).length)),(14,.int k108)],[(20,some (3,.ints l105)),(31,some (3,.ints l106)),(34,some (4,.bools l107))],[(4,some [.int g_0.n,.ro false (.pairs g_0.bars)]),(5,some [.ro false (.ints p_1.free),.ro false (.ints p_1.tails),.ro false (.ints p_1.placed)]),(8,some [.nil,.nil,.nil])]⟩:PS)) (Cz N g_0 p_1 a_2 b_3 k) h (En.of ⟨rfl,rfl,rfl,rfl,rfl,rfl,rfl,rfl,rfl,Y⟩ ⟨rfl,rfl,rfl,Y⟩ ⟨rfl,rfl,rfl,Y⟩) (fun _=>rfl) ?_);rintro n ⟨l105,l106,l107,k108⟩ h;rw [Cz] at h;show VC _ _ _ (⟨[(2,.int a_2),(3,.int b_3),(4,.ptr 4 0),(5,.ptr 5 0),(8,.ptr 8 0),(10,.row 20 0 ((List.replicate ((g_0.n).toNat) (0:Int)).length)),(12,.row 31 0 l106.length),(13,.row 34 0 ((List.replicate ((g_0.n).toNat) (false:Bool)).length)),(14,.int k108)],[(20,some (3,.ints l105)),(31,some (3,.ints l106)),(34,some (4,.bools l107))],[(4,some [.int g_0.n,.ro false (.pairs g_0.bars)]),(5,some [.ro false (.ints p_1.free),.ro false (.ints p_1.tails),.ro false (.ints p_1.placed)]),(8,some [.nil,.nil,.nil])]⟩:PS);refine Ag (Ag (Ab ?_));iterate 4 refine Aa O ?_
  refine Af (Ar O (fun hb3=>?_) (fun hb3=>?_))
  ·replace h:=Ak hb3 h;refine Aq (Ag (Ap (Ag (Ab (Aa O (Aa O ?_))))));obtain ⟨hg4,h⟩:=Ac h;refine Ad tt rfl hg4 (Ad tt rfl hg4 (Aa rfl (Af (Ag (Ab (Aa rfl (Af (Bz (F:=fun k=>Em N g_0 p_1 a_2 b_3 l106 k108 k) h (α:=(List Int)×(List Int)×(List Bool)) (J:=fun | (l143,l144,l145)=>(⟨[(2,.int a_2),(3,.int b_3),(4,.ptr 4 0),(5,.ptr 5 0),(8,.ptr 8 0),(10,.row 20 0 ((List.replicate ((g_0.n).toNat) (0:Int)).length)),(12,.row 31 0 l144.length),(13,.row 34 0 ((List.replicate ((g_0.n).toNat) (false:Bool)).length)),(14,.int k108)],[(20,some (3,.ints l143)),(31,some (3,.ints l144)),(34,some (4,.bools l145))],[(4,some [.int g_0.n,.ro false (.pairs g_0.bars)]),(5,some [.ro false (.ints p_1.free),.ro false (.ints p_1.tails),.ro false (.ints p_1.placed)]),(8,some [.nil,.nil,.nil])]⟩:PS)) ?_ ?_))))))))
   ·rintro ⟨l143,l144,l145⟩ h;show VC _ _ _ (⟨[(2,.int a_2),(3,.int b_3),(4,.ptr 4 0),(5,.ptr 5 0),(8,.ptr 8 0),(10,.row 20 0 ((List.replicate ((g_0.n).toNat) (0:Int)).length)),(12,.row 31 0 l144.length),(13,.row 34 0 ((List.replicate ((g_0.n).toNat) (false:Bool)).length)),(14,.int k108)],[(20,some (3,.ints l143)),(31,some (3,.ints l144)),(34,some (4,.bools l145))],[(4,some [.int g_0.n,.ro false (.pairs g_0.bars)]),(5,some [.ro false (.ints p_1.free),.ro false (.ints p_1.tails),.ro false (.ints p_1.placed)]),(8,some [.nil,.nil,.nil])]⟩:PS);refine Ab (Aa O ?_);obtain ⟨hg5,h⟩:=Ac h;refine Ad tt O hg5 (Aa O (Af ?_));show ∃ _,_;exact ⟨(l143,l144,l145,(k108+(1:Int))),(En.of ⟨O,O,O,O,O,O,O,O,O,Y⟩ ⟨O,O,O,Y⟩ ⟨O,O,O,Y⟩),h⟩
   intro k h;refine Ap (Bh (α:=(List Int)×(List Int)×(List Bool)×Int) (fun | (l149,l150,l151,i152)=>(⟨[(2,.int a_2),(3,.int b_3),(4,.ptr 4 0),(5,.ptr 5 0),(8,.ptr 8 0),(10,.row 20 0 ((List.replicate ((g_0.n).toNat) (0:Int)).length)),(12,.row 31 0 l150.length),(13,.row 34 0 ((List.replicate ((g_0.n).toNat) (false:Bool)).length)),(14,.int k108),(15,.int (l106.getD ((k108).toNat) 0)),(16,.int i152)],[(20,some (3,.ints l149)),(31,some (3,.ints l150)),(34,some (4,.bools l151))],[(4,some [.int g_0.n,.ro false (.pairs g_0.bars)]),(5,some [.ro false (.ints p_1.free),.ro false (.ints p_1.tails),.ro false (.ints p_1.placed)]),(8,some [.nil,.nil,.nil])]⟩:PS)) (Em N g_0 p_1 a_2 b_3 l106 k108 k) h (En.of ⟨rfl,rfl,rfl,rfl,rfl,rfl,rfl,rfl,rfl,rfl,rfl,Y⟩ ⟨rfl,rfl,rfl,Y⟩ ⟨rfl,rfl,rfl,Y⟩) (fun _=>rfl) ?_);rintro n ⟨l149,l150,l151,i152⟩ h;rw [Em] at h;show VC _ _ _ (⟨[(2,.int a_2),(3,.int b_3),(4,.ptr 4 0),(5,.ptr 5 0),(8,.ptr 8 0),(10,.row 20 0 ((List.replicate ((g_0.n).toNat) (0:Int)).length)),(12,.row 31 0 l150.length),(13,.row 34 0 ((List.replicate ((g_0.n).toNat) (false:Bool)).length)),(14,.int k108),(15,.int (l106.getD ((k108).toNat) 0)),(16,.int i152)],[(20,some (3,.ints l149)),(31,some (3,.ints l150)),(34,some (4,.bools l151))],[(4,some [.int g_0.n,.ro false (.pairs g_0.bars)]),(5,some [.ro false (.ints p_1.free),.ro false (.ints p_1.tails),.ro false (.ints p_1.placed)]),(8,some [.nil,.nil,.nil])]⟩:PS);refine Ag (Ag (Ab ?_));iterate 5 refine Aa O ?_
   refine Af (Ar O (fun hb6=>?_) (fun hb6=>?_))
   ·replace h:=Ak hb6 h;refine Aq (Ag (Ap (Ag (Ag (Ab (Aa O (Aa O (Aa O ?_))))))));obtain ⟨hg7,h⟩:=Ac h;refine Ad tt O hg7 (Aa O (Aa O (Aa O (Af (Ar O (fun hb8=>?_) (fun hb8=>?_))))))
    ·replace h:=Ak hb8 h;refine Bp (Ab (Aa O ?_));obtain ⟨hg9,h⟩:=Ac h;refine Ad tt O hg9 (Aa O (Af ?_));show ∃ _,_;exact ⟨(l149,l150,l151,(i152+(1:Int))),(En.of ⟨O,O,O,O,O,O,O,O,O,O,O,Y⟩ ⟨O,O,O,Y⟩ ⟨O,O,O,Y⟩),h⟩
    replace h:=Al hb8 h;refine Aq (Ag (Cu (by kernel_rfl) (by kernel_rfl) ?_));iterate 5 refine Bq tt O (Ai O) O O O Y ?_
    obtain ⟨hg10,h⟩:=Ac h;refine Bq tt O (Ai O) O O O hg10 (Bq tt O (Ai O) O O O Y ?_);obtain ⟨hg11,h⟩:=Ac h;refine Bq tt O (Ai O) O O O hg11 ?_;iterate 2 refine Bq tt O (Ai O) O O O Y ?_
    obtain ⟨v155,hc12,h⟩:=Ae h;refine Xh (Qi N (g_0.bars.getD (((p_1.placed.getD ((i152).toNat) 0)).toNat) (0,0)) (l106.getD ((k108).toNat) 0) v155 hc12) O (Ai O) O O O O O O ⟨⟨O,O,Y⟩,O,Y⟩ (Bq tt O (Ai O) O O O Y (Ms (Ag (Ag (Ab (Aa O (Aa O ?_)))))));obtain ⟨hg13,h⟩:=Ac h;refine Ad tt O hg13 ?_;obtain ⟨hg14,h⟩:=Ac h;refine Ad tt O hg14 (Af (Ar O (fun hb15=>?_) (fun hb15=>?_)))
    ·replace h:=Ak hb15 h;refine Bp (Ab (Aa O ?_));obtain ⟨hg16,h⟩:=Ac h;refine Ad tt O hg16 (Aa O (Af ?_));show ∃ _,_;exact ⟨(l149,l150,l151,(i152+(1:Int))),(En.of ⟨O,O,O,O,O,O,O,O,O,O,O,Y⟩ ⟨O,O,O,Y⟩ ⟨O,O,O,Y⟩),h⟩
    replace h:=Al hb15 h;refine Aq (Ag (Ab (Aa O (Aa O (Ad tt O hg13 (Ao tt O O O O O O O O O O ⟨_,_,O,hg14.1,hg14.2⟩ ⟨hg14,Y⟩ (Af (Ag (Ab ?_)))))))));refine Aa O (Aa O (Aa O ?_));obtain ⟨hg17,h⟩:=Ac h;refine Ad tt O hg17 ?_;obtain ⟨hg18,h⟩:=Ac h;refine Ao tt O O O O O O O O O O ⟨_,_,O,hg18.1,hg18.2⟩ ⟨hg18,Y⟩ (Af (Ag (Ag (Ab ?_))));iterate 4 refine Aa O ?_
    refine Be O O O (fun hb19=>?_) (fun hb19=>?_)
    ·replace h:=Ak hb19 h;iterate 3 refine Av tt O O O O O hb19 O O O Y ?_
     obtain ⟨hg20,h⟩:=Ac h;refine Av tt O O O O O hb19 O O O hg20 ?_;iterate 2 refine Av tt O O O O O hb19 O O O Y ?_
     refine Bm O O O O O hb19 O (Af (Ar O (fun hb21=>?_) (fun hb21=>?_)))
     ·replace h:=Ak hb21 h;refine Ag (Ab ?_);iterate 5 refine Aa O ?_
      obtain ⟨hg22,h⟩:=Ac h;obtain ⟨v156,hc23,h⟩:=Ae h;refine Ba (Aa8 N g_0 p_1 (l149.set ((v155).toNat) i152) a_2 v155 v156 hc23) O O O O O O O O ⟨⟨O,O,Y⟩,⟨O,O,O,Y⟩,(.inl ⟨hg22,O⟩),O,O,Y⟩ (Ao tt O O O O O O O O O O O ⟨Y,Y,Y,Y⟩ (Aa O (Af ?_)));show VC ..;cases h;cases halt
     replace h:=Al hb21 h;refine Aq (Ab (Aa O (Aa O (Cr tt O O O O O O O O O O O ?_))));obtain ⟨hg24,h⟩:=Ac h;refine Bt tt O O O O O O O O O O O O O O O O (Nat.le_of_eq (Nat.zero_add _)) hg24 (Aa O (Af (Ab (Aa O ?_))));obtain ⟨hg25,h⟩:=Ac h;refine Ad tt O hg25 (Aa O (Af ?_));show ∃ _,_;exact ⟨((l149.set ((v155).toNat) i152),(l150++([v155]:List Int)),(l151.set ((v155).toNat) true),(i152+(1:Int))),(En.of ⟨O,O,O,O,O,O,O,O,O,O,O,Y⟩ ⟨O,O,O,Y⟩ ⟨O,O,O,Y⟩),h⟩
    replace h:=Al hb19 h;iterate 6 refine Kq O O O O hb19 O O ?_
    refine Aw O O O O O hb19 O (Af (Cp O O (Aq (Ab (Aa O (Aa O (Cr tt O O O O O O O O O O O ?_)))))));obtain ⟨hg26,h⟩:=Ac h;refine Bt tt O O O O O O O O O O O O O O O O (Nat.le_of_eq (Nat.zero_add _)) hg26 (Aa O (Af (Ab (Aa O ?_))));obtain ⟨hg27,h⟩:=Ac h;refine Ad tt O hg27 (Aa O (Af ?_));show ∃ _,_;exact ⟨((l149.set ((v155).toNat) i152),(l150++([v155]:List Int)),(l151.set ((v155).toNat) true),(i152+(1:Int))),(En.of ⟨O,O,O,O,O,O,O,O,O,O,O,Y⟩ ⟨O,O,O,Y⟩ ⟨O,O,O,Y⟩),h⟩
   replace h:=Al hb6 h;refine Bp ?_;show ∃ _,_;exact ⟨(l149,l150,l151),(En.of ⟨O,O,O,O,O,O,O,O,O,Y⟩ ⟨O,O,O,Y⟩ ⟨O,O,O,Y⟩),h⟩
  replace h:=Al hb3 h;refine Bp ?_;show ∃ _,_;exact ⟨(),(En.of ⟨O,O,Y⟩ trivial ⟨O,O,Y⟩),h⟩
 intro k h;refine Ap (Bh (α:=(List Int)×Int) (fun | (l158,i159)=>(⟨[(2,.int a_2),(3,.int b_3),(4,.ptr 4 0),(5,.ptr 5 0),(8,.ptr 8 0),(10,.row 20 0 ((List.replicate ((g_0.n).toNat) (0:Int)).length)),(11,.int i159)],[(20,some (3,.ints l158))],[(4,some [.int g_0.n,.ro false (.pairs g_0.bars)]),(5,some [.ro false (.ints p_1.free),.ro false (.ints p_1.tails),.ro false (.ints p_1.placed)]),(8,some [.nil,.nil,.nil])]⟩:PS)) (Hi N g_0 k) h (En.of ⟨rfl,rfl,rfl,rfl,rfl,rfl,rfl,Y⟩ ⟨rfl,Y⟩ ⟨rfl,rfl,rfl,Y⟩) (fun _=>rfl) ?_);rintro n ⟨l158,i159⟩ h;rw [Hi] at h;show VC _ _ _ (⟨[(2,.int a_2),(3,.int b_3),(4,.ptr 4 0),(5,.ptr 5 0),(8,.ptr 8 0),(10,.row 20 0 ((List.replicate ((g_0.n).toNat) (0:Int)).length)),(11,.int i159)],[(20,some (3,.ints l158))],[(4,some [.int g_0.n,.ro false (.pairs g_0.bars)]),(5,some [.ro false (.ints p_1.free),.ro false (.ints p_1.tails),.ro false (.ints p_1.placed)]),(8,some [.nil,.nil,.nil])]⟩:PS);refine Ag (Ag (Ab ?_));iterate 4 refine Aa O ?_
 refine Af (Ar O (fun hb28=>?_) (fun hb28=>?_))
 ·replace h:=Ak hb28 h;refine Aq (Ag (Ap (Ab (Aa O (Aa O ?_)))));obtain ⟨hg29,h⟩:=Ac h;refine Ad tt O hg29 ?_;obtain ⟨hg30,h⟩:=Ac h;refine Ao tt O O O O O O O O O O ⟨_,_,O,hg30.1,hg30.2⟩ ⟨hg30,Y⟩ (Af (Ab (Aa O ?_)));obtain ⟨hg31,h⟩:=Ac h;refine Ad tt O hg31 (Aa O (Af ?_));show ∃ _,_;exact ⟨((l158.set ((i159).toNat) (-1:Int)),(i159+(1:Int))),(En.of ⟨O,O,O,O,O,O,O,Y⟩ ⟨O,Y⟩ ⟨O,O,O,Y⟩),h⟩
 replace h:=Al hb28 h;refine Bp ?_;show ∃ _,_;exact ⟨l158,(En.of ⟨O,O,O,O,O,O,Y⟩ ⟨O,Y⟩ ⟨O,O,O,Y⟩),h⟩
def Ga (N:Nat) (g_0:Grf) (a_2:Int) (b_3:Int) (want_4:Int) (k:((List Int)×(List Int)×(List Int))→Option (Pbl×Bool)):Nat→((List Int)×(List Int)×(List Int))→Option (Pbl×Bool)
 | 0,_=>none
 | n+1,(l17,l18,l19)=>
  grd (0≤a_2∧a_2<(l17.length:Int)) <|
  grd (0≤b_3∧b_3<(l17.length:Int)) <|
  grd (Bc ((l17.getD ((a_2).toNat) 0)+(l17.getD ((b_3).toNat) 0))) <|
  cnd (decide (((l17.getD ((a_2).toNat) 0)+(l17.getD ((b_3).toNat) 0))<want_4)) (
   (Mu N g_0 (⟨l17,l18,l19⟩:Pbl) a_2 b_3).bind fun v22=>
   cnd v22.2 (
    Ga N g_0 a_2 b_3 want_4 k n (v22.1.free,v22.1.tails,v22.1.placed)) (
    (Mu N g_0 (⟨l17,l18,l19⟩:Pbl) b_3 a_2).bind fun v23=>
    cnd v23.2 (
     Ga N g_0 a_2 b_3 want_4 k n (v23.1.free,v23.1.tails,v23.1.placed)) (
     some ((⟨l17,l18,l19⟩:Pbl),false)))) (
   k (l17,l18,l19))
def Kn (N:Nat) (g_0:Grf) (p_1:Pbl) (a_2:Int) (b_3:Int) (want_4:Int):Option (Pbl×Bool):=
 (Ji N p_1).bind fun v1=>
 Ga N g_0 a_2 b_3 want_4 (fun (x:(List Int)×(List Int)×(List Int))=>
   match x with
   | (l11,l12,l13)=>
    some ((⟨l11,l12,l13⟩:Pbl),true)) N (v1.free,v1.tails,v1.placed)
theorem Zm (N:Nat) (g_0:Grf) (p_1:Pbl) (a_2:Int) (b_3:Int) (want_4:Int) (r:Pbl×Bool) (h:Kn N g_0 p_1 a_2 b_3 want_4=some r):PCall Tryz.prog 213 [gD g_0,bD p_1,.int a_2,.int b_3,.int want_4] [(3,.ints r.1.free),(3,.ints r.1.tails),(3,.ints r.1.placed)] (.tup [.agg [.row 0 0 r.1.free.length,.row 1 0 r.1.tails.length,.row 2 0 r.1.placed.length],.bool r.2]):=by
 unfold Kn at h;refine Aj (TT:=TT) tt Tryz.func213 O O Tryz.ntmps213 (congrArg Array.toList Tryz.results213) O O fun w0=>(Ag (Ab ?_));iterate 2 refine Hz O O O O O O O O O ?_
 refine Bi tt O O O O O O O O O (Aa O (Af (Ag (Ab (Aa O ?_)))));obtain ⟨v1,hc1,h⟩:=Ae h;refine Ba (Kh N p_1 v1 hc1) rfl rfl rfl rfl rfl rfl rfl rfl ⟨⟨rfl,rfl,rfl,Y⟩,Y⟩ (Bi tt rfl rfl rfl rfl rfl rfl rfl rfl rfl (Ao tt rfl rfl rfl rfl rfl rfl rfl rfl rfl rfl rfl ⟨Y,Y,Y,Y⟩ (Af (Ag (Bz (F:=fun k=>Ga N g_0 a_2 b_3 want_4 k) h (α:=(List Int)×(List Int)×(List Int)) (J:=fun | (l11,l12,l13)=>(⟨[(10,.ptr 10 0),(12,.ptr 12 0)],[(1160,some (3,.ints l11)),(1161,some (3,.ints l12)),(1162,some (3,.ints l13))],[(10,some [.nil,.nil,.nil]),(12,some [.row 1160 0 l11.length,.row 1161 0 l12.length,.row 1162 0 l13.length])]⟩:PS)) ?_ ?_)))))
 ·rintro ⟨l11,l12,l13⟩ h;show VC _ _ _ (⟨[(10,.ptr 10 0),(12,.ptr 12 0)],[(1160,some (3,.ints l11)),(1161,some (3,.ints l12)),(1162,some (3,.ints l13))],[(10,some [.nil,.nil,.nil]),(12,some [.row 1160 0 l11.length,.row 1161 0 l12.length,.row 1162 0 l13.length])]⟩:PS);refine Ag (Ab (Aa O (Ao tt O O O O O O O O O O O ⟨Y,Y,Y,Y⟩ (Aa O (Af (Bg ?_))))));show ∃ _,_;cases h;exact ⟨[1160,1161,1162],_,O,⟨O,O,O,Y⟩,O,.eq O,O⟩
 intro k h;refine Ap (Bh (α:=(List Int)×(List Int)×(List Int)) (fun | (l17,l18,l19)=>(⟨[(2,.int a_2),(3,.int b_3),(4,.int want_4),(5,.ptr 5 0),(10,.ptr 10 0),(12,.ptr 12 0)],[(1160,some (3,.ints l17)),(1161,some (3,.ints l18)),(1162,some (3,.ints l19))],[(5,some [.int g_0.n,.ro false (.pairs g_0.bars)]),(10,some [.nil,.nil,.nil]),(12,some [.row 1160 0 l17.length,.row 1161 0 l18.length,.row 1162 0 l19.length])]⟩:PS)) (Ga N g_0 a_2 b_3 want_4 k) h (En.of ⟨rfl,rfl,rfl,rfl,rfl,rfl,Y⟩ ⟨rfl,rfl,rfl,Y⟩ ⟨rfl,rfl,rfl,Y⟩) (fun _=>rfl) ?_);rintro n ⟨l17,l18,l19⟩ h;rw [Ga] at h;show VC _ _ _ (⟨[(2,.int a_2),(3,.int b_3),(4,.int want_4),(5,.ptr 5 0),(10,.ptr 10 0),(12,.ptr 12 0)],[(1160,some (3,.ints l17)),(1161,some (3,.ints l18)),(1162,some (3,.ints l19))],[(5,some [.int g_0.n,.ro false (.pairs g_0.bars)]),(10,some [.nil,.nil,.nil]),(12,some [.row 1160 0 l17.length,.row 1161 0 l18.length,.row 1162 0 l19.length])]⟩:PS);refine Ag (Ag (Cu (by kernel_rfl) (by kernel_rfl) ?_));iterate 3 refine Bq tt O (Ai O) O O O Y ?_
 obtain ⟨hg2,h⟩:=Ac h;iterate 2 refine Bq tt O (Ai O) O O O hg2 ?_
 iterate 3 refine Bq tt O (Ai O) O O O Y ?_
 obtain ⟨hg3,h⟩:=Ac h;iterate 2 refine Bq tt O (Ai O) O O O hg3 ?_
 obtain ⟨hg4,h⟩:=Ac h;refine Bq tt O (Ai O) O O O hg4 ?_;iterate 2 refine Bq tt O (Ai O) O O O Y ?_
 refine Ms (Ar O (fun hb5=>?_) (fun hb5=>?_))
 ·replace h:=Ak hb5 h;refine Aq (Ap (Ag (Ab ?_)));iterate 4 refine Aa O ?_
  obtain ⟨v22,hc6,h⟩:=Ae h;refine bsplit v22.2 (fun hb7=>?_) (fun hb7=>?_)
  ·replace h:=Ak hb7 h;refine Ba (Abk N g_0 (⟨l17,l18,l19⟩:Pbl) a_2 b_3 v22 hc6 hb7) O O O O O O O O ⟨⟨O,O,Y⟩,⟨(.inl ⟨O,O⟩),(.inl ⟨O,O⟩),(.inl ⟨O,O⟩),Y⟩,O,O,Y⟩ (Aa O (Aa O (Aa O (Bi tt O O O O O O O O O (Ao tt O O O O O O O O O O O ⟨Y,Y,Y,Y⟩ (Aa O (Af (Ag (Ag ?_)))))))));refine Ab (Aa O (Aa O (Af (Cp O (by rw [hb7]; rfl) (Aq (Ag (Ag (Ab (Aa O ?_)))))))));refine Aa O (Af (Cp O (by rw [hb7]; rfl) (Aq (Ab (Aa O (Ao tt O O O O O O O O O O O ⟨Y,Y,Y,Y⟩ (Af ?_)))))));show ∃ _,_;exact ⟨(v22.1.free,v22.1.tails,v22.1.placed),(En.ren [1160,1161,1162] [1350,1351,1352] O ⟨.inr O,.inr O,.inr O,.inr O,.inr O,.inr O,Y⟩ ⟨.inr O,.inr O,.inr O,Y⟩ ⟨.inr ⟨_,_,O,O,⟨.inr O,.inr O,Y⟩⟩,.inr ⟨_,_,O,O,⟨.inr O,.inr O,.inr O,Y⟩⟩,.inr ⟨_,_,O,O,⟨.inr O,.inr O,.inr O,Y⟩⟩,Y⟩),h⟩
  replace h:=Al hb7 h;refine Ba (Aaq N g_0 (⟨l17,l18,l19⟩:Pbl) a_2 b_3 v22 hc6 hb7) O O O O O O O O ⟨⟨O,O,Y⟩,⟨(.inl ⟨O,O⟩),(.inl ⟨O,O⟩),(.inl ⟨O,O⟩),Y⟩,O,O,Y⟩ (Aa O (Aa O (Aa O (Bi tt O O O O O O O O O (Ao tt O O O O O O O O O O O ⟨Y,Y,Y,Y⟩ (Aa O (Af (Ag (Ag ?_)))))))));refine Ab (Aa O (Aa O (Af (Ce O (by rw [hb7]; rfl) (Ab ?_)))));iterate 4 refine Aa O ?_
  obtain ⟨v23,hc8,h⟩:=Ae h;refine bsplit v23.2 (fun hb9=>?_) (fun hb9=>?_)
  ·replace h:=Ak hb9 h;refine Ba (Abk N g_0 (⟨l17,l18,l19⟩:Pbl) b_3 a_2 v23 hc8 hb9) O O O O O O O O ⟨⟨O,O,Y⟩,⟨(.inl ⟨O,O⟩),(.inl ⟨O,O⟩),(.inl ⟨O,O⟩),Y⟩,O,O,Y⟩ (Aa O (Aa O (Aa O (Ao tt O O O O O O O O O O O ⟨Y,Y,Y,Y⟩ (Aa O (Af (Ag (Ag (Ab ?_)))))))));refine Aa O (Aa O (Af (Cp O (by rw [hb9]; rfl) (Aq (Ab (Aa O (Ao tt O O O O O O O O O O O ⟨Y,Y,Y,Y⟩ (Af ?_))))))));show ∃ _,_;exact ⟨(v23.1.free,v23.1.tails,v23.1.placed),(En.ren [1160,1161,1162] [1450,1451,1452] O ⟨.inr O,.inr O,.inr O,.inr O,.inr O,.inr O,Y⟩ ⟨.inr O,.inr O,.inr O,Y⟩ ⟨.inr ⟨_,_,O,O,⟨.inr O,.inr O,Y⟩⟩,.inr ⟨_,_,O,O,⟨.inr O,.inr O,.inr O,Y⟩⟩,.inr ⟨_,_,O,O,⟨.inr O,.inr O,.inr O,Y⟩⟩,Y⟩),h⟩
  replace h:=Al hb9 h;refine Ba (Aaq N g_0 (⟨l17,l18,l19⟩:Pbl) b_3 a_2 v23 hc8 hb9) O O O O O O O O ⟨⟨O,O,Y⟩,⟨(.inl ⟨O,O⟩),(.inl ⟨O,O⟩),(.inl ⟨O,O⟩),Y⟩,O,O,Y⟩ (Aa O (Aa O (Aa O (Ao tt O O O O O O O O O O O ⟨Y,Y,Y,Y⟩ (Aa O (Af (Ag (Ag (Ab ?_)))))))));refine Aa O (Aa O (Af (Ce O (by rw [hb9]; rfl) (Ag (Ab (Aa O (Ao tt O O O O O O O O O O O ⟨Y,Y,Y,Y⟩ (Aa O (Af ?_)))))))));refine Bg ?_;show ∃ _,_;cases h;exact ⟨[1160,1161,1162],_,O,⟨O,O,O,Y⟩,O,.eq O,O⟩
 replace h:=Al hb5 h;refine Bp ?_;show ∃ _,_;exact ⟨(l17,l18,l19),(En.of ⟨O,O,Y⟩ ⟨O,O,O,Y⟩ ⟨O,O,Y⟩),h⟩
end
end Go.Proofs.YtaipbhnpandbkaaGreat
