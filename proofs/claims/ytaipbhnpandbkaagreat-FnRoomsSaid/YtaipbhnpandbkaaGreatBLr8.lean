/- Texts that the proof needs, put together: G102 M16 SoP G103 G131 El Qp Va. -/
import Derived.WalkKit
import Derived.Shelf.SlSortCmp.NoneTotal
import Derived.Ground.SlsfProg
import Derived.Test.YtaipbhnpandbkaaGreatBLr2
import Derived.Test.YtaipbhnpandbkaaGreatBLr3
import Derived.Test.YtaipbhnpandbkaaGreatBLr5
import Derived.Test.YtaipbhnpandbkaaGreatBLr6
import Derived.Test.YtaipbhnpandbkaaGreatBLr7
set_option maxRecDepth 20000
set_option maxHeartbeats 1600000
set_option linter.unusedVariables false
set_option linter.unusedSimpArgs false
namespace Go.Proofs.YtaipbhnpandbkaaGreat
section
open Go.RowKit
def Dj (N:Nat) (s_0:List (Int×Int)) (v_1:Int×Int) (k:Unit→Option (Int)):Nat→Int→Option (Int)
 | 0,_=>none
 | n+1,x3=>
  cnd (decide (x3<(s_0.length:Int))) (
   grd (0≤x3∧x3<(s_0.length:Int)) <|
   cnd ((v_1.1==(s_0.getD ((x3).toNat) (0,0)).1)&&(v_1.2==(s_0.getD ((x3).toNat) (0,0)).2)) (
    some x3) (
    grd (Bg (x3+(1:Int))) <|
    Dj N s_0 v_1 k n (x3+(1:Int)))) (
   k ())
def Kr (N:Nat) (s_0:List (Int×Int)) (v_1:Int×Int):Option (Int):=
 Dj N s_0 v_1 (fun (_ : Unit) =>
    some (-1:Int)) N (0:Int)
theorem Xu (N:Nat) (s_0:List (Int×Int)) (v_1:Int×Int) (r:Int) (h:Kr N s_0 v_1=some r):PCall Tryz.prog 125 [.ro false (.pairs s_0),.agg [.int v_1.1,.int v_1.2]] [] (.int r):=by
 unfold Kr at h;refine Ak (TT:=TT) tt Tryz.func125 O O Tryz.ntmps125 (congrArg Array.toList Tryz.results125) O O fun w0=>(Ah (Ab (Lw O O O O O O O O O (Aa O (Af (Ah (Ah (Ab (Aa O ?_)))))))));refine Aa O (Aa O (Af (Cb (F:=fun k=>Dj N s_0 v_1 k) h (α:=Unit) (J:=fun (_:Unit)=>(⟨[],[],[]⟩:PS)) ?_ ?_)))
 ·rintro ⟨⟩ h;show VC _ _ _ (⟨[],[],[]⟩:PS);refine Ah (Ab (Aa O (Af (Ay ?_))));show ∃ _,_;cases h;exact ⟨[],_,O,Y,O,.eq O,O⟩
 intro k h;refine Aq (Bh (α:=Int) (fun (x3:Int)=>(⟨[(0,.ro false (.pairs s_0)),(3,.ptr 3 0),(7,.int (s_0.length:Int)),(8,.int x3)],[],[(3,some [.int v_1.1,.int v_1.2])]⟩:PS)) (Dj N s_0 v_1 k) h (En.of ⟨O,O,O,O,Y⟩ trivial ⟨O,Y⟩) (fun _=>O) ?_);rintro n x3 h;rw [Dj] at h;show VC _ _ _ (⟨[(0,.ro false (.pairs s_0)),(3,.ptr 3 0),(7,.int (s_0.length:Int)),(8,.int x3)],[],[(3,some [.int v_1.1,.int v_1.2])]⟩:PS);refine Ah (Ab (Aa O (Af (Ah (At O (fun hb1=>?_) (fun hb1=>?_))))))
 ·replace h:=Ai hb1 h;refine Ar (Ah (Aq (Ah (Ab (Aa O (Aa O (Af (Ah (Bt (by kernel_rfl) (by kernel_rfl) ?_)))))))));iterate 3 refine Bb tt O (Ag O) O O O Y ?_
  obtain ⟨hg2,h⟩:=Ac h;refine Bb tt O (Ag O) O O O hg2 (Bb tt O (Ag O) O O O Y (Pb (Ag O) (pEqP Cd O O O) O O (Km (At O (fun hb3=>?_) (fun hb3=>?_)))))
  ·replace h:=Ai hb3 h;refine Ah (Ab (Aa O (Aa O (Af (Ay ?_)))));show ∃ _,_;cases h;exact ⟨[],_,O,Y,O,.eq O,O⟩
  replace h:=Aj hb3 h;refine Ar (Ab ?_);obtain ⟨hg4,h⟩:=Ac h;refine Ae tt O hg4 (Aa O (Af ?_));show ∃ _,_;exact ⟨(x3+(1:Int)),(En.of ⟨O,O,O,O,Y⟩ trivial ⟨O,Y⟩),h⟩
 replace h:=Aj hb1 h;refine Br ?_;show ∃ _,_;exact ⟨(),(En.of trivial trivial trivial),h⟩
def El (N:Nat) (s_0:List (Int×Int)) (v_1:Int×Int):Option (Bool):=
 (Kr N s_0 v_1).bind fun v1=>
 some (decide (v1≥(0:Int)))
theorem Sa (N:Nat) (s_0:List (Int×Int)) (v_1:Int×Int) (r:Bool) (h:El N s_0 v_1=some r):PCall Tryz.prog 91 [.ro false (.pairs s_0),.agg [.int v_1.1,.int v_1.2]] [] (.bool r):=by
 unfold El at h;refine Ak (TT:=TT) tt Tryz.func91 O O Tryz.ntmps91 (congrArg Array.toList Tryz.results91) O O fun w0=>(Ah (Ab (Lw O O O O O O O O O (Aa O (Af (Ah (Ab (Aa O (Aa O ?_)))))))));obtain ⟨v1,hc1,h⟩:=Ad h;refine Bn (Xu N s_0 v_1 v1 hc1) O O O O O O O O ⟨O,⟨O,O,Y⟩,Y⟩ (Aa O (Aa O (Af (Ay ?_))));show ∃ _,_;cases h;exact ⟨[],_,O,Y,O,.eq O,O⟩
def By (N:Nat) (l_0:Lnk) (joint_1:Int) (v1:List Int) (v2:(List (List (Int×Int)))×Bool) (y284:Int) (x356:Int) (k:Bool→Option (List (Int×Int))):Nat→(Bool×Int)→Option (List (Int×Int))
 | 0,_=>none
 | n+1,(found367,i368)=>
  cnd (decide (i368<(v1.length:Int))) (
   cnd (decide (joint_1≥(0:Int))) (
    cnd (decide (joint_1<(l_0.f.places.length:Int))) (
     cnd found367 (
      grd (Bg (i368+(1:Int))) <|
      By N l_0 joint_1 v1 v2 y284 x356 k n (true,(i368+(1:Int)))) (
      grd (0≤i368∧i368<(v1.length:Int)) <|
      grd (0≤(v1.getD ((i368).toNat) 0)∧(v1.getD ((i368).toNat) 0)<(v2.1.length:Int)) <|
      grd (0≤joint_1∧joint_1<((v2.1.getD (((v1.getD ((i368).toNat) 0)).toNat) []).length:Int)) <|
      grd (Bg (i368+(1:Int))) <|
      By N l_0 joint_1 v1 v2 y284 x356 k n (((((v2.1.getD (((v1.getD ((i368).toNat) 0)).toNat) []).getD ((joint_1).toNat) (0,0)).1==x356)&&(((v2.1.getD (((v1.getD ((i368).toNat) 0)).toNat) []).getD ((joint_1).toNat) (0,0)).2==y284)),(i368+(1:Int))))) (
     k found367)) (
    k found367)) (
   k found367)
def Ck (N:Nat) (l_0:Lnk) (joint_1:Int) (v1:List Int) (v2:(List (List (Int×Int)))×Bool) (y284:Int) (k:(List (Int×Int))→Option (List (Int×Int))):Nat→((List (Int×Int))×Int)→Option (List (Int×Int))
 | 0,_=>none
 | n+1,(l355,x356)=>
  cnd (decide (x356≤(4:Int))) (
   By N l_0 joint_1 v1 v2 y284 x356 (fun (found365 : Bool) =>
      cnd found365 (
       grd (l355.length+1≤4294967296) <|
       grd (Bg (x356+(1:Int))) <|
       Ck N l_0 joint_1 v1 v2 y284 k n ((l355++([(x356,y284)]:List (Int×Int))),(x356+(1:Int)))) (
       grd (Bg (x356+(1:Int))) <|
       Ck N l_0 joint_1 v1 v2 y284 k n (l355,(x356+(1:Int))))) N (false,(0:Int))) (
   k l355)
def Cu (N:Nat) (l_0:Lnk) (joint_1:Int) (v1:List Int) (v2:(List (List (Int×Int)))×Bool) (k:(List (Int×Int))→Option (List (Int×Int))):Nat→((List (Int×Int))×Int)→Option (List (Int×Int))
 | 0,_=>none
 | n+1,(l283,y284)=>
  cnd (decide (y284≤(4:Int))) (
   Ck N l_0 joint_1 v1 v2 y284 (fun (l347 : List (Int × Int)) =>
      grd (Bg (y284+(1:Int))) <|
      Cu N l_0 joint_1 v1 v2 k n (l347,(y284+(1:Int)))) N (l283,(0:Int))) (
   k l283)
def Pq (N:Nat) (l_0:Lnk) (joint_1:Int):Option (List (Int×Int)):=
 (Mn N l_0).bind fun v1=>
 (Gj N l_0).bind fun v2=>
 Cu N l_0 joint_1 v1 v2 (fun (l185 : List (Int × Int)) =>
    some l185) N (([]:List (Int×Int)),(0:Int))
theorem S_TraceOf_w (N:Nat) (l_0:Lnk) (joint_1:Int) (r:List (Int×Int)) (h:Pq N l_0 joint_1=some r):PCall Tryz.prog 41 [lD l_0,.int joint_1] [(95,.pairs r)] (.row 0 0 r.length):=by
 unfold Pq at h;refine Ak (TT:=TT) tt Tryz.func41 O O Tryz.ntmps41 (congrArg Array.toList Tryz.results41) O O fun w0=>(Ah (Ab (Lw O O O O O O O O O (Aa O (Af (Ah (Ab (Cj tt (Ag O) O O O O (Aa O ?_)))))))));refine Af (Ah (Ab (Aa O ?_)));obtain ⟨v1,hc1,h⟩:=Ad h;refine Bn (Wb N l_0 v1 hc1) O O O O O O O O ⟨⟨O,O,O,O,Y⟩,Y⟩ (Aa O (Af (Ah (Ab (Aa O ?_)))));obtain ⟨v2,hc2,h⟩:=Ad h;refine Bn (Hb N l_0 v2 hc2) O O O O O O O O ⟨⟨O,O,O,O,Y⟩,Y⟩ ?_;iterate 5 refine Aa O ?_
 refine Af (Ah (Ah (Ab (Aa O (Af (Cb (F:=fun k=>Cu N l_0 joint_1 v1 v2 k) h (α:=List (Int×Int)) (J:=fun (l185:List (Int×Int))=>(⟨[(5,.row 70 0 l185.length)],[(70,some (95,.pairs l185))],[]⟩:PS)) ?_ ?_))))))
 ·rintro l185 h;show VC _ _ _ (⟨[(5,.row 70 0 l185.length)],[(70,some (95,.pairs l185))],[]⟩:PS);refine Ah (Ab (Aa O (Aa O (Af (Ay ?_)))));show ∃ _,_;cases h;exact ⟨[70],_,O,⟨O,Y⟩,O,.eq O,O⟩
 intro k h;refine Aq (Gw 5 70 95 (.pairs []) rfl rfl rfl rfl (Bh (α:=(List (Int×Int))×Int) (fun | (l283,y284)=>(⟨[(1,.int joint_1),(2,.ptr 2 0),(5,.row 70 0 l283.length),(6,.row 1150 0 v1.length),(7,.row 1180 0 v2.1.length),(9,.int y284)],[(70,some (95,.pairs l283)),(1150,some (3,.ints v1)),(1180,some (45,.pairss v2.1))],[(2,some [.int l_0.f.g.n,.ro false (.pairs l_0.f.g.bars),.ro false (.pairs l_0.f.places),.ro false (.ints l_0.ground)])]⟩:PS)) (Cu N l_0 joint_1 v1 v2 k) h (En.of ⟨rfl,rfl,rfl,rfl,rfl,rfl,Y⟩ ⟨rfl,rfl,rfl,Y⟩ ⟨rfl,Y⟩) (fun _=>rfl) ?_));rintro n ⟨l283,y284⟩ h;rw [Cu] at h;show VC _ _ _ (⟨[(1,.int joint_1),(2,.ptr 2 0),(5,.row 70 0 l283.length),(6,.row 1150 0 v1.length),(7,.row 1180 0 v2.1.length),(9,.int y284)],[(70,some (95,.pairs l283)),(1150,some (3,.ints v1)),(1180,some (45,.pairss v2.1))],[(2,some [.int l_0.f.g.n,.ro false (.pairs l_0.f.g.bars),.ro false (.pairs l_0.f.places),.ro false (.ints l_0.ground)])]⟩:PS);refine Ah (Ah (Ab (Aa O (Aa O (Af (At O (fun hb3=>?_) (fun hb3=>?_)))))))
 ·replace h:=Ai hb3 h;refine Ar (Ah (Aq (Ah (Ab (Aa O (Af (Cb (F:=fun k=>Ck N l_0 joint_1 v1 v2 y284 k) h (α:=List (Int×Int)) (J:=fun (l347:List (Int×Int))=>(⟨[(1,.int joint_1),(2,.ptr 2 0),(5,.row 70 0 l347.length),(6,.row 1150 0 v1.length),(7,.row 1180 0 v2.1.length),(9,.int y284)],[(70,some (95,.pairs l347)),(1150,some (3,.ints v1)),(1180,some (45,.pairss v2.1))],[(2,some [.int l_0.f.g.n,.ro false (.pairs l_0.f.g.bars),.ro false (.pairs l_0.f.places),.ro false (.ints l_0.ground)])]⟩:PS)) ?_ ?_)))))))
  ·rintro l347 h;show VC _ _ _ (⟨[(1,.int joint_1),(2,.ptr 2 0),(5,.row 70 0 l347.length),(6,.row 1150 0 v1.length),(7,.row 1180 0 v2.1.length),(9,.int y284)],[(70,some (95,.pairs l347)),(1150,some (3,.ints v1)),(1180,some (45,.pairss v2.1))],[(2,some [.int l_0.f.g.n,.ro false (.pairs l_0.f.g.bars),.ro false (.pairs l_0.f.places),.ro false (.ints l_0.ground)])]⟩:PS);refine Ab (Aa O ?_);obtain ⟨hg4,h⟩:=Ac h;refine Ae tt O hg4 (Aa O (Af ?_));show ∃ _,_;exact ⟨(l347,(y284+(1:Int))),(En.of ⟨O,O,O,O,O,O,Y⟩ ⟨O,O,O,Y⟩ ⟨O,Y⟩),h⟩
  intro k h;refine Aq (Bh (α:=(List (Int×Int))×Int) (fun | (l355,x356)=>(⟨[(1,.int joint_1),(2,.ptr 2 0),(5,.row 70 0 l355.length),(6,.row 1150 0 v1.length),(7,.row 1180 0 v2.1.length),(9,.int y284),(10,.int x356)],[(70,some (95,.pairs l355)),(1150,some (3,.ints v1)),(1180,some (45,.pairss v2.1))],[(2,some [.int l_0.f.g.n,.ro false (.pairs l_0.f.g.bars),.ro false (.pairs l_0.f.places),.ro false (.ints l_0.ground)])]⟩:PS)) (Ck N l_0 joint_1 v1 v2 y284 k) h (En.of ⟨rfl,rfl,rfl,rfl,rfl,rfl,rfl,Y⟩ ⟨rfl,rfl,rfl,Y⟩ ⟨rfl,Y⟩) (fun _=>rfl) ?_);rintro n ⟨l355,x356⟩ h;rw [Ck] at h;show VC _ _ _ (⟨[(1,.int joint_1),(2,.ptr 2 0),(5,.row 70 0 l355.length),(6,.row 1150 0 v1.length),(7,.row 1180 0 v2.1.length),(9,.int y284),(10,.int x356)],[(70,some (95,.pairs l355)),(1150,some (3,.ints v1)),(1180,some (45,.pairss v2.1))],[(2,some [.int l_0.f.g.n,.ro false (.pairs l_0.f.g.bars),.ro false (.pairs l_0.f.places),.ro false (.ints l_0.ground)])]⟩:PS);refine Ah (Ah (Ab (Aa O (Aa O (Af (At O (fun hb5=>?_) (fun hb5=>?_)))))))
  ·replace h:=Ai hb5 h;refine Ar (Ah (Aq (Ah (Ab (Aa O (Af (Ah (Ah (Ab ?_)))))))));refine Aa O (Af (Cb (F:=fun k=>By N l_0 joint_1 v1 v2 y284 x356 k) h (α:=Bool) (J:=fun (found365:Bool)=>(⟨[(1,.int joint_1),(2,.ptr 2 0),(5,.row 70 0 l355.length),(6,.row 1150 0 v1.length),(7,.row 1180 0 v2.1.length),(9,.int y284),(10,.int x356),(11,.bool found365)],[(70,some (95,.pairs l355)),(1150,some (3,.ints v1)),(1180,some (45,.pairss v2.1))],[(2,some [.int l_0.f.g.n,.ro false (.pairs l_0.f.g.bars),.ro false (.pairs l_0.f.places),.ro false (.ints l_0.ground)])]⟩:PS)) ?_ ?_))
   ·rintro found365 h;show VC _ _ _ (⟨[(1,.int joint_1),(2,.ptr 2 0),(5,.row 70 0 l355.length),(6,.row 1150 0 v1.length),(7,.row 1180 0 v2.1.length),(9,.int y284),(10,.int x356),(11,.bool found365)],[(70,some (95,.pairs l355)),(1150,some (3,.ints v1)),(1180,some (45,.pairss v2.1))],[(2,some [.int l_0.f.g.n,.ro false (.pairs l_0.f.g.bars),.ro false (.pairs l_0.f.places),.ro false (.ints l_0.ground)])]⟩:PS);refine Ah (Ab (Aa O (Af (At O (fun hb6=>?_) (fun hb6=>?_)))))
    ·replace h:=Ai hb6 h;refine Ab (Aa O (Aa O (Aa O (Gb (Ag O) (Ds Fz O O) O O (Dr tt O O O O O O O O O O O ?_)))));obtain ⟨hg7,h⟩:=Ac h;refine Cn tt O O O O O O O O O O O O O O O O (Nat.le_of_eq (Nat.zero_add _)) hg7 (Aa O (Af (Ab (Aa O ?_))));obtain ⟨hg8,h⟩:=Ac h;refine Ae tt O hg8 (Aa O (Af ?_));show ∃ _,_;exact ⟨((l355++([(x356,y284)]:List (Int×Int))),(x356+(1:Int))),(En.of ⟨O,O,O,O,O,O,O,Y⟩ ⟨O,O,O,Y⟩ ⟨O,Y⟩),h⟩
    replace h:=Aj hb6 h;refine Ar (Ab (Aa O ?_));obtain ⟨hg9,h⟩:=Ac h;refine Ae tt O hg9 (Aa O (Af ?_));show ∃ _,_;exact ⟨(l355,(x356+(1:Int))),(En.of ⟨O,O,O,O,O,O,O,Y⟩ ⟨O,O,O,Y⟩ ⟨O,Y⟩),h⟩
   intro k h;refine Aq (Bh (α:=Bool×Int) (fun | (found367,i368)=>(⟨[(1,.int joint_1),(2,.ptr 2 0),(5,.row 70 0 l355.length),(6,.row 1150 0 v1.length),(7,.row 1180 0 v2.1.length),(9,.int y284),(10,.int x356),(11,.bool found367),(12,.int i368)],[(70,some (95,.pairs l355)),(1150,some (3,.ints v1)),(1180,some (45,.pairss v2.1))],[(2,some [.int l_0.f.g.n,.ro false (.pairs l_0.f.g.bars),.ro false (.pairs l_0.f.places),.ro false (.ints l_0.ground)])]⟩:PS)) (By N l_0 joint_1 v1 v2 y284 x356 k) h (En.of ⟨rfl,rfl,rfl,rfl,rfl,rfl,rfl,rfl,rfl,Y⟩ ⟨rfl,rfl,rfl,Y⟩ ⟨rfl,Y⟩) (fun _=>rfl) ?_);rintro n ⟨found367,i368⟩ h;rw [By] at h;show VC _ _ _ (⟨[(1,.int joint_1),(2,.ptr 2 0),(5,.row 70 0 l355.length),(6,.row 1150 0 v1.length),(7,.row 1180 0 v2.1.length),(9,.int y284),(10,.int x356),(11,.bool found367),(12,.int i368)],[(70,some (95,.pairs l355)),(1150,some (3,.ints v1)),(1180,some (45,.pairss v2.1))],[(2,some [.int l_0.f.g.n,.ro false (.pairs l_0.f.g.bars),.ro false (.pairs l_0.f.places),.ro false (.ints l_0.ground)])]⟩:PS);refine Ah (Ah (Ab ?_));iterate 5 refine Aa O ?_
   refine Bi O O O (fun hb10=>?_) (fun hb10=>?_)
   ·replace h:=Ai hb10 h;iterate 2 refine Bj tt O O O O O hb10 O O O Y ?_
    refine Bd O O O O O hb10 O (Aa O (Bi O O O (fun hb11=>?_) (fun hb11=>?_)))
    ·replace h:=Ai hb11 h;iterate 6 refine Bj tt O O O O O hb11 O O O Y ?_
     refine Bd O O O O O hb11 O (Af (At O (fun hb12=>?_) (fun hb12=>?_)))
     ·replace h:=Ai hb12 h;refine Ar (Ah (Aq (Ab (Aa O (Aa O (Bi O O O (fun hb13=>?_) (fun hb13=>?_)))))))
      ·replace h:=Ai hb13 h;iterate 14 refine Fd O O O O hb13 O O ?_
       refine Bd O O O O O hb13 O (Aa O (Af (Ab (Aa O ?_))));obtain ⟨hg14,h⟩:=Ac h;refine Ae tt O hg14 (Aa O (Af ?_));show ∃ _,_;exact ⟨(true,(i368+(1:Int))),(En.of ⟨O,O,O,O,O,O,O,O,O,Y⟩ ⟨O,O,O,Y⟩ ⟨O,Y⟩),h⟩
      replace h:=Aj hb13 h;iterate 3 refine Bj tt O O O O O hb13 O O O Y ?_
      obtain ⟨hg15,h⟩:=Ac h;iterate 2 refine Bj tt O O O O O hb13 O O O hg15 ?_
      obtain ⟨hg16,h⟩:=Ac h;iterate 2 refine Bj tt O O O O O hb13 O O O hg16 ?_
      refine Bj tt O O O O O hb13 O O O Y ?_;obtain ⟨hg17,h⟩:=Ac h;refine Bj tt O O O O O hb13 O O O hg17 ?_;iterate 3 refine Bj tt O O O O O hb13 O O O Y ?_
      refine Gb (Aw O O O O hb13) (Ds Fz O O) O O (Gb (Aw O O O O hb13) (pEqP Cd O O O) O O (Az O O O O O hb13 O (Aa O (Af (Ab (Aa O ?_))))));obtain ⟨hg18,h⟩:=Ac h;refine Ae tt O hg18 (Aa O (Af ?_));show ∃ _,_;exact ⟨(((((v2.1.getD (((v1.getD ((i368).toNat) 0)).toNat) []).getD ((joint_1).toNat) (0,0)).1==x356)&&(((v2.1.getD (((v1.getD ((i368).toNat) 0)).toNat) []).getD ((joint_1).toNat) (0,0)).2==y284)),(i368+(1:Int))),(En.of ⟨O,O,O,O,O,O,O,O,O,Y⟩ ⟨O,O,O,Y⟩ ⟨O,Y⟩),h⟩
     replace h:=Aj hb12 h;refine Br ?_;show ∃ _,_;exact ⟨found367,(En.of ⟨O,O,O,O,O,O,O,O,Y⟩ ⟨O,O,O,Y⟩ ⟨O,Y⟩),h⟩
    replace h:=Aj hb11 h;iterate 6 refine Qv O O O O hb11 O O ?_
    refine Az O O O O O hb11 O (Af (Gx O O (Br ?_)));show ∃ _,_;exact ⟨found367,(En.of ⟨O,O,O,O,O,O,O,O,Y⟩ ⟨O,O,O,Y⟩ ⟨O,Y⟩),h⟩
   replace h:=Aj hb10 h;iterate 2 refine Qv O O O O hb10 O O ?_
   refine Az O O O O O hb10 O (Aa O ?_);iterate 6 refine Qv O O O O O O O ?_
   refine Az O O O O O O O (Af (Gx O O (Br ?_)));show ∃ _,_;exact ⟨found367,(En.of ⟨O,O,O,O,O,O,O,O,Y⟩ ⟨O,O,O,Y⟩ ⟨O,Y⟩),h⟩
  replace h:=Aj hb5 h;refine Br ?_;show ∃ _,_;exact ⟨l355,(En.of ⟨O,O,O,O,O,O,Y⟩ ⟨O,O,O,Y⟩ ⟨O,Y⟩),h⟩
 replace h:=Aj hb3 h;refine Br ?_;show ∃ _,_;exact ⟨l283,(En.of ⟨O,Y⟩ ⟨O,Y⟩ trivial),h⟩
end
section
open Go.RowKit Go.Deep
section
variable {C:Cx} {ops:Array Oper} {K:PS→Prop} {o:Oper} {rest:List Oper} {s:PS} {TT:List (Nat×Ty)} {tm:List (Nat×D)} {rw':List (Nat×Option (TypeId×Sq))} {bx:List (Nat×Option (List D))} {cr B:List Nat} {j:Nat}
theorem pLoadIP (hT:Ki C.P TT) {x:Operand} {t te:TypeId} {q:Sq} {offs:List (Nat×Nat)} {zs:List Value} {F k:Nat} {i:Int} {cs:List D} (hop:o.op=.load t x) (hy:Bf TT t=some (.st offs zs)) (hx:s.ev x=.iptr F k i 0) (hf:s.r (FK+F)=some (te,dF q)) (hq:q.deep=true) (hk:k<q.len) (hi:0≤i∧i<((q.nn k).len:Int)) (hd:(q.nn k).elem true i.toNat=cs) (hz:zs.length=cs.length) (hF:Nat.blt F 4294967296=true:=by rfl):PurF C o s (.agg cs):=
 ⟨fun s1 hs hfk M a w hr=>by
  rw [Nat.blt_eq] at hF;have hev:=hr.ev x;rw [hs x (by rw [hop]; simp [Op.operands]),hx] at hev;have hinn:=deep_r hF hq (s:=s1) (by rw [hfk _ fk_notF]; exact hf) k;rw [if_pos hk] at hinn;have hflat:(q.nn k).isRefs=false:=nn_refs q k;rcases hr.row _ _ _ hinn with ⟨hg,h0⟩ | ⟨g,cap,cur,hg,hh,hl,hm,hcs,hc⟩
  ·omega
  generalize hgv:a.eval x=v at hev
  cases hev with
  | iptr _ _ _ _ _ hv=>
   have hv':=hv g cap _ hg;have hi':i.toNat<(q.nn k).len:=by omega
   have hsz:zs.length=(q.nn k).sz:=by rw [hz,←hd,Sq.elem_len]
   have hcell:∀ j,j<zs.length→w.cell? ⟨g,i.toNat*(q.nn k).sz+j,none⟩=some (cur.getD (i.toNat*(q.nn k).sz+j) undef):=fun j hj=>by
    have hlt:i.toNat*(q.nn k).sz+j<cur.size:=by
     rw [hcs];have h4:(i.toNat+1)*(q.nn k).sz≤cap*(q.nn k).sz:=Nat.mul_le_mul_right _ (by omega);rw [Nat.add_mul,Nat.one_mul] at h4; omega
    rw [cell_of_row w g _ cur te (0,0) hh]; simp [hlt]
   obtain ⟨⟨fs,hu,_⟩,⟨ii,hii,hs2,_⟩,_⟩:=hT t _ hy;have hrun:=run_loadCells (P:=C.P) (w:=w) ⟨g,i.toNat*(q.nn k).sz,none⟩ zs.length (fun j=>cur.getD (i.toNat*(q.nn k).sz+j) undef) (fun j hj=>by rw [add_lit]; exact hcell j hj);unfold loadCells at hrun;refine ⟨.agg (List.map (fun j=>cur.getD (i.toNat*(q.nn k).sz+j) undef) (List.range zs.length)).toArray,?_,?_⟩
   ·have hrun2:(Instr.loadAt t (a.eval x)).run C.P w=.ok (.agg (List.map (fun j=>cur.getD (i.toNat*(q.nn k).sz+j) undef) (List.range zs.length)).toArray) w:=by
     rw [hgv,hv',Nat.add_zero];simp [Instr.loadAt,Instr.sureAddr,loadVar,isAgg,Go.run_underlying hu,sizeOf,typeInfo,hii,hs2,go_sem,loadCells,hrun]
    unfold execOp;rw [hop];show ((do pure (Next.value (←Instr.loadAt t (a.eval x))):Sem Next)).run C.P w=_;rw [Sem.run_bind,hrun2]; rfl
   refine .agg _ _ (by simp [hz]) fun j d hjd=>?_;have hj:j<zs.length:=by rw [hz]; exact (List.getElem?_eq_some_iff.1 hjd).1
   have:=hc i.toNat j d hi' (by rw [Sq.relem_eq hflat,hd]; exact hjd)
   simpa [hj] using this⟩
end
end
section
open Go.RowKit Go.Deep Go.Sort Go.Shelf
def cmpZq (a b:Int):Int:=if a<b then -1 else if a > b then 1 else 0
def cmpQ (x y:Int×Int):Int:=if cmpZq x.2 y.2≠0 then cmpZq x.2 y.2 else cmpZq x.1 y.1
def encQ (x:Int×Int):List Value:=[.int .i64 x.1,.int .i64 x.2]
theorem ltQ (x y:Int×Int):ltOf cmpQ x y=decide (x.2<y.2∨(x.2=y.2∧x.1<y.1)):=by
 unfold ltOf cmpQ cmpZq;apply decide_eq_decide.2;by_cases h1:x.2<y.2
 ·simp [h1]
 by_cases h2:x.2 > y.2
 ·simp [h1,h2]; omega
 by_cases h3:x.1<y.1
 ·simp [h1,h2,h3]; omega
 by_cases h4:x.1 > y.1
 ·simp [h1,h2,h3,h4]
 simp [h1,h2,h3,h4]
theorem swoQ:SWO (ltOf cmpQ) where
 irrefl x:=by rw [ltQ]; simp
 trans x y z h1 h2:=by rw [ltQ] at *; simp at *; omega
 ntrans x y z h1 h2:=by rw [ltQ] at *; simp at *; omega
theorem totQ (x y:Int×Int) (h1:ltOf cmpQ x y=false) (h2:ltOf cmpQ y x=false):x=y:=by
 rw [ltQ] at *; simp at *;have e1:x.1=y.1:=by omega
 have e2:x.2=y.2:=by omega
 exact Prod.ext e1 e2
def layP_ren:Go.Shelf.Ren:=⟨fun | 6=>92 | 15=>111 | 14=>126 | 28=>145 | 29=>146 | 20=>152 | 21=>153 | 22=>154 | 23=>155 | 24=>156 | 25=>157 | 26=>158 | 27=>159 | 46=>181 | 47=>176 | 48=>177 | 49=>182 | 50=>183 | 57=>195 | n=>n,fun | 22=>45 | 24=>95 | 25=>102 | 3=>3 | 39=>117 | 0=>0 | 53=>141 | 55=>143 | 4=>4 | 46=>133 | 45=>132 | 50=>138 | 5=>5 | 9=>9 | 66=>159 | 70=>163 | 76=>170 | 77=>171 | n=>n,fun | n=>n⟩
theorem layP:Go.Proofs.SlLaysF0.n6 Tryz.prog layP_ren:={
 mixed:=by kernel_rfl
 f6:=⟨Tryz.f92.name,by decide,Tryz.func92.trans (congrArg some (by kernel_rfl))⟩
 f14:=⟨Tryz.f126.name,by decide,Tryz.func126.trans (congrArg some (by kernel_rfl))⟩
 f15:=Tryz.func111.trans (congrArg some (by kernel_rfl))
 f20:=⟨Tryz.f152.name,by decide,Tryz.func152.trans (congrArg some (by kernel_rfl))⟩
 f21:=⟨Tryz.f153.name,by decide,Tryz.func153.trans (congrArg some (by kernel_rfl))⟩
 f22:=⟨Tryz.f154.name,by decide,Tryz.func154.trans (congrArg some (by kernel_rfl))⟩
 f23:=⟨Tryz.f155.name,by decide,Tryz.func155.trans (congrArg some (by kernel_rfl))⟩
 f24:=⟨Tryz.f156.name,by decide,Tryz.func156.trans (congrArg some (by kernel_rfl))⟩
 f25:=⟨Tryz.f157.name,by decide,Tryz.func157.trans (congrArg some (by kernel_rfl))⟩
 f26:=⟨Tryz.f158.name,by decide,Tryz.func158.trans (congrArg some (by kernel_rfl))⟩
 f27:=⟨Tryz.f159.name,by decide,Tryz.func159.trans (congrArg some (by kernel_rfl))⟩
 f28:=Tryz.func145.trans (congrArg some (by kernel_rfl))
 f29:=Tryz.func146.trans (congrArg some (by kernel_rfl))
 f46:=⟨Tryz.f181.name,by decide,Tryz.func181.trans (congrArg some (by kernel_rfl))⟩
 f47:=Tryz.func176.trans (congrArg some (by kernel_rfl))
 f48:=Tryz.func177.trans (congrArg some (by kernel_rfl))
 f49:=⟨Tryz.f182.name,by decide,Tryz.func182.trans (congrArg some (by kernel_rfl))⟩
 f50:=⟨Tryz.f183.name,by decide,Tryz.func183.trans (congrArg some (by kernel_rfl))⟩
 f57:=⟨Tryz.f195.name,by decide,Tryz.func195.trans (congrArg some (by kernel_rfl))⟩
 t0:=Tryz.underlying0
 a0:=Tryz.isAgg0
 z0:=Tryz.sizeOf0
 v0:=Tryz.zeroValue0
 t3:=Tryz.underlying3
 a3:=Tryz.isAgg3
 z3:=Tryz.sizeOf3
 v3:=Tryz.zeroValue3
 t4:=Tryz.underlying4
 a4:=Tryz.isAgg4
 z4:=Tryz.sizeOf4
 v4:=Tryz.zeroValue4
 t5:=Tryz.underlying5
 a5:=Tryz.isAgg5
 z5:=Tryz.sizeOf5
 v5:=Tryz.zeroValue5
 t9:=Tryz.underlying9
 a9:=Tryz.isAgg9
 z9:=Tryz.sizeOf9
 v9:=Tryz.zeroValue9
 t22:=Tryz.underlying45
 a22:=Tryz.isAgg45
 z22:=Tryz.sizeOf45
 v22:=Tryz.zeroValue45
 t25:=Tryz.underlying102
 a25:=Tryz.isAgg102
 z25:=Tryz.sizeOf102
 v25:=Tryz.zeroValue102
 t39:=Tryz.underlying117
 a39:=Tryz.isAgg117
 z39:=Tryz.sizeOf117
 v39:=Tryz.zeroValue117
 t45:=Tryz.underlying132
 a45:=Tryz.isAgg132
 z45:=Tryz.sizeOf132
 v45:=Tryz.zeroValue132
 t46:=Tryz.underlying133
 a46:=Tryz.isAgg133
 z46:=Tryz.sizeOf133
 v46:=Tryz.zeroValue133
 t50:=Tryz.underlying138
 a50:=Tryz.isAgg138
 z50:=Tryz.sizeOf138
 v50:=Tryz.zeroValue138
 t53:=Tryz.underlying141
 a53:=Tryz.isAgg141
 z53:=Tryz.sizeOf141
 v53:=Tryz.zeroValue141
 t55:=Tryz.underlying143
 a55:=Tryz.isAgg143
 z55:=Tryz.sizeOf143
 v55:=Tryz.zeroValue143
 t66:=Tryz.underlying159
 a66:=Tryz.isAgg159
 z66:=Tryz.sizeOf159
 v66:=Tryz.zeroValue159
 t70:=Tryz.underlying163
 a70:=Tryz.isAgg163
 z70:=Tryz.sizeOf163
 v70:=Tryz.zeroValue163
 t76:=Tryz.underlying170
 a76:=Tryz.isAgg170
 z76:=Tryz.sizeOf170
 v76:=Tryz.zeroValue170
 t77:=Tryz.underlying171
 a77:=Tryz.isAgg171
 z77:=Tryz.sizeOf171
 v77:=Tryz.zeroValue171 }
set_option maxHeartbeats 1000000 in
theorem cmpIntsQ_c (x y:Int) (W:World):Calls Tryz.prog 94 #[.int .i64 x,.int .i64 y] W fun e w'=>e=.returned (.int .i64 (cmpZq x y))∧w'=W:=by
 unfold cmpZq
 go_enter Tryz.func94,Tryz.ntmps94
 go_wp2
 all_goals (go_ret; exact ⟨rfl,rfl⟩)
set_option maxHeartbeats 1000000 in
theorem cmpPl_c (x y:Int×Int) (W:World):Calls Tryz.prog 93 #[.agg #[.int .i64 x.1,.int .i64 x.2],.agg #[.int .i64 y.1,.int .i64 y.2]] W fun e w'=>e=.returned (.int .i64 (cmpQ x y))∧∃ q os',w'=grow (W.drewN q) os':=by
 have hcon:=fun a b W'=>cmpIntsQ_c a b W';unfold cmpQ;generalize cmpZq=Z at hcon ⊢
 go_enter Tryz.func93,Tryz.ntmps93
 go_wp2_with (go_at_call 94; refine (hcon _ _ _).mono ?_; rintro e w' ⟨rfl,rfl⟩)
 all_goals first
  | (go_ret; exact ⟨rfl,0,_,by rw [alloc_eq_grow,alloc_eq_grow,grow_grow]; rfl⟩)
  | (exfalso; simp_all; done)
def srtQ (l:List (Int×Int)):List (Int×Int):=l.mergeSort fun x y=>!(ltOf cmpQ) y x
theorem srtQ_len (l:List (Int×Int)):(srtQ l).length=l.length:=by simp [srtQ]
def Fv (N:Nat) (a_0:List (Int×Int)):Option (List (Int×Int)):=
 grd (a_0.length<4611686018427387904) (some (srtQ a_0))
theorem flatQ (l:List (Int×Int)) {t:Nat} (ht:t<l.length*2):(flatK encQ 2 l.toArray)[t]! = Kb (.pairs l) t:=by
 have h1:t / 2<l.length:=by omega
 rw [get_flatK encQ 2 l.toArray t (by simpa using ht)]
 have e:l.toArray[t / 2]! = l.getD (t / 2) (0,0):=by
  rw [getElem!_pos l.toArray (t / 2) (by simpa using h1),List.getD_eq_getElem?_getD,List.getElem?_eq_getElem h1]; rfl
 rw [e];rcases (by omega:t % 2=0∨t % 2=1) with h | h <;> rw [h] <;> simp [Kb,encQ,h]
theorem lays_places (l:List (Int×Int)) (hl2:l.length<4611686018427387904):Lays1 Tryz.prog 92 [.func (.func 93) #[] #[]] (.pairs l) (.pairs (srtQ l)):=by
 refine ⟨fun blk cap w hc hb hl=>?_,fun h p cap w=>?_⟩
 ·have hH:HoldsK encQ 2 w blk 0 l.toArray:=fun j hj=>by
   have hj':j<l.length*2:=by simpa using hj
   have:=hc j hj';simp only [Nat.zero_add];refine ⟨?_,this.2⟩;rw [this.1,←flatQ l hj']; rfl
  have hcon:=AnyQ.slices_SortFunc_total layP 2 Tryz.isAgg95 Tryz.sizeOf95 encQ (fun _=>rfl) (fun x v hv=>by simp [encQ] at hv; rcases hv with rfl | rfl <;> rfl) cmpQ swoQ 93 #[] blk 0 cap l.toArray w (enters_of Tryz.func93 (by kernel_rfl) rfl) (fun _ _ _ _ x y=>cmpPl_c x y _) hH hb (by simpa using hl2) totQ;refine hcon.mono ?_;rintro e w' ⟨rfl,n,os,rfl⟩;refine ⟨O,?_⟩;have h:=Xq (enc:=id) (w:=w) (blk:=blk) (n:=n) (d:=flatK encQ 2 (srtQ l).toArray) (os:=os);refine h.to (by simp [Sq.len,Sq.sz]) fun t ht=>?_;have ht':t<(srtQ l).length*2:=by simpa using ht
  exact flatQ (srtQ l) ht'
 have:=AnyF.slices_SortFunc_none { layP with } p cap (.func (.func 93) #[] #[]) w;exact this
theorem Sd (N:Nat) (a_0:List (Int×Int)) (r:List (Int×Int)) (h:Fv N a_0=some r):MCall Tryz.prog 92 [.row 1000000 0 a_0.length,.val (.func (.func 93) #[] #[])] [1000000] [] [(95,.pairs a_0)] [(95,.pairs r)] [] [] (.tup []):=by
 obtain ⟨h2,h⟩:=Ac h;cases h
 exact Wa (q:=.pairs a_0) (q':=.pairs (srtQ a_0)) (ds:=[.val (.func (.func 93) #[] #[])]) (vs:=[.func (.func 93) #[] #[]]) (enters_of Tryz.func92 (by kernel_rfl) O) O O (by show (srtQ a_0).length=a_0.length; rw [srtQ_len]) O O (fun M A w i d v h hv=>by
  rcases i with _ | i
  ·simp at h; subst h; cases hv; rfl
  simp at h) (lays_places a_0 h2)
end
section
open Go.RowKit Go.Deep
def Er (N:Nat) (joint_1:Int) (v2:(List (List (Int×Int)))×Bool) (v3:List Int) (k:(List (Int×Int))→Option (List (Int×Int))):Nat→((List (Int×Int))×Int)→Option (List (Int×Int))
 | 0,_=>none
 | n+1,(l15,x16)=>
  cnd (decide (x16<(v3.length:Int))) (
   grd (0≤x16∧x16<(v3.length:Int)) <|
   grd (0≤(v3.getD ((x16).toNat) 0)∧(v3.getD ((x16).toNat) 0)<(v2.1.length:Int)) <|
   grd (0≤joint_1∧joint_1<((v2.1.getD (((v3.getD ((x16).toNat) 0)).toNat) []).length:Int)) <|
   (El N l15 ((((v2.1.getD (((v3.getD ((x16).toNat) 0)).toNat) []).getD ((joint_1).toNat) (0,0)).1),(((v2.1.getD (((v3.getD ((x16).toNat) 0)).toNat) []).getD ((joint_1).toNat) (0,0)).2))).bind fun v18=>
   cnd (!v18) (
    grd (l15.length+1≤4294967296) <|
    grd (Bg (x16+(1:Int))) <|
    Er N joint_1 v2 v3 k n ((l15++([((((v2.1.getD (((v3.getD ((x16).toNat) 0)).toNat) []).getD ((joint_1).toNat) (0,0)).1),(((v2.1.getD (((v3.getD ((x16).toNat) 0)).toNat) []).getD ((joint_1).toNat) (0,0)).2))]:List (Int×Int))),(x16+(1:Int)))) (
    grd (Bg (x16+(1:Int))) <|
    Er N joint_1 v2 v3 k n (l15,(x16+(1:Int))))) (
   k l15)
def Mj (N:Nat) (l_0:Lnk) (joint_1:Int):Option (List (Int×Int)):=
 (Gd N l_0.f.g joint_1).bind fun v1=>
 cnd (!v1) (
  some ([]:List (Int×Int))) (
  (Lc N l_0).bind fun v2=>
  (Mx N l_0).bind fun v3=>
  Er N joint_1 v2 v3 (fun (l10 : List (Int × Int)) =>
     (Fv N l10).bind fun v11=>
     grd (l10.length=v11.length) <|
     some v11) N (([]:List (Int×Int)),(0:Int)))
theorem I_TraceOf_w (N:Nat) (l_0:Lnk) (joint_1:Int) (r:List (Int×Int)) (h:Mj N l_0 joint_1=some r):PCall Tryz.prog 40 [lD l_0,.int joint_1] [(95,.pairs r)] (.row 0 0 r.length):=by
 unfold Mj at h;refine Ak (TT:=TT) tt Tryz.func40 O O Tryz.ntmps40 (congrArg Array.toList Tryz.results40) O O fun w0=>(Ah (Ab (Lw O O O O O O O O O (Aa O (Af (Ah (Ab (Cj tt (Ag O) O O O O (Aa O ?_)))))))));refine Af (Ah (Ah (Ab ?_)));iterate 4 refine Aa O ?_
 obtain ⟨v1,hc1,h⟩:=Ad h;refine Bn (Sp N l_0.f.g joint_1 v1 hc1) O O O O O O O O ⟨⟨O,O,Y⟩,O,Y⟩ (Aa O (Af (At O (fun hb2=>?_) (fun hb2=>?_))))
 ·replace h:=Ai hb2 h;refine Ah (Ab (Aa O (Aa O (Af (Gw 4 9001 95 (.pairs []) O O O O (Ay ?_))))));show ∃ _,_;cases h;exact ⟨[9001],_,O,⟨O,Y⟩,O,.eq O,O⟩
 replace h:=Aj hb2 h;refine Ar (Ah (Ab (Aa O ?_)));obtain ⟨v2,hc3,h⟩:=Ad h;refine Xv 10 (Rr N l_0 v2 hc3) O O O O O O O O O O O (fun _ h=>by cases h) ⟨⟨O,O,O,O,Y⟩,Y⟩ ?_;iterate 5 refine Aa O ?_
 refine Af (Ah (Ah (Ab (Aa O ?_))));obtain ⟨v3,hc4,h⟩:=Ad h;refine Bn (Vl N l_0 v3 hc4) O O O O O O O O ⟨⟨O,O,O,O,Y⟩,Y⟩ (Aa O (Aa O (Af (Cb (F:=fun k=>Er N joint_1 v2 v3 k) h (α:=List (Int×Int)) (J:=fun (l10:List (Int×Int))=>(⟨[(5,.row 49 0 l10.length)],[(49,some (95,.pairs l10))],[]⟩:PS)) ?_ ?_))))
 ·rintro l10 h;show VC _ _ _ (⟨[(5,.row 49 0 l10.length)],[(49,some (95,.pairs l10))],[]⟩:PS);refine Ah (Ab (Aa O ?_));obtain ⟨v11,hc5,h⟩:=Ad h;refine Bs (Sd N l10 v11 hc5) [49] [] [49] O O O O O O ⟨O,Y⟩ trivial ⟨⟨O,O⟩,⟨O,O⟩,Y⟩ (Af (Ah (Ab (Aa O (Aa O (Af ?_))))));show VC ..;obtain ⟨hg6,h⟩:=Ac h;refine Ay ?_;show ∃ _,_;cases h;exact ⟨[49],_,O,⟨O,Y⟩,O,(.eq (by simp only [hg6]; rfl)),O⟩
 intro k h;refine Aq (Gw 5 49 95 (.pairs []) rfl rfl rfl rfl (Bh (α:=(List (Int×Int))×Int) (fun | (l15,x16)=>(⟨[(1,.int joint_1),(5,.row 49 0 l15.length),(6,.row 1200 0 v2.1.length),(24,.row 1240 0 v3.length),(25,.int (v3.length:Int)),(26,.int x16)],[(49,some (95,.pairs l15)),(1200,some (45,dR 10 (.pairss v2.1))),(8589934602,some (95,dF (.pairss v2.1))),(1240,some (3,.ints v3))],[]⟩:PS)) (Er N joint_1 v2 v3 k) h (En.of ⟨rfl,rfl,rfl,rfl,rfl,rfl,Y⟩ ⟨rfl,rfl,rfl,rfl,Y⟩ trivial) (fun _=>rfl) ?_));rintro n ⟨l15,x16⟩ h;rw [Er] at h;show VC _ _ _ (⟨[(1,.int joint_1),(5,.row 49 0 l15.length),(6,.row 1200 0 v2.1.length),(24,.row 1240 0 v3.length),(25,.int (v3.length:Int)),(26,.int x16)],[(49,some (95,.pairs l15)),(1200,some (45,dR 10 (.pairss v2.1))),(8589934602,some (95,dF (.pairss v2.1))),(1240,some (3,.ints v3))],[]⟩:PS);refine Ah (Ab (Aa O (Af (Ah (At O (fun hb7=>?_) (fun hb7=>?_))))))
 ·replace h:=Ai hb7 h;refine Ar (Ah (Aq (Ah (Ab ?_))));obtain ⟨hg8,h⟩:=Ac h;refine Ae tt O hg8 (Ae tt O hg8 (Aa O (Af (Ah (Ab (Aa O (Aa O (Aa O ?_))))))));obtain ⟨hg9,h⟩:=Ac h;refine Ae tt O hg9 (oLoadD tt (Ag O) (.pairss v2.1) O O O O O O O O O hg9 (Aa O ?_));obtain ⟨hg10,h⟩:=Ac h;refine oPureF (Ag O) (pIdxI tt (q:=(.pairss v2.1)) O O O O O O (by simp only [Sq.len,List.length_set,List.length_append,List.length_replicate] at *; omega) O hg10) O O (oPureF (Ag O) (pLoadIP tt (q:=(.pairss v2.1)) O O O O O (by simp only [Sq.len,List.length_set,List.length_append,List.length_replicate] at *; omega) hg10 O O) O O ?_);obtain ⟨v18,hc11,h⟩:=Ad h;refine Bn (Sa N l15 ((((v2.1.getD (((v3.getD ((x16).toNat) 0)).toNat) []).getD ((joint_1).toNat) (0,0)).1),(((v2.1.getD (((v3.getD ((x16).toNat) 0)).toNat) []).getD ((joint_1).toNat) (0,0)).2)) v18 hc11) O O O O O O O O ⟨(.inl ⟨O,O⟩),⟨O,O,Y⟩,Y⟩ (Aa O (Af (At O (fun hb12=>?_) (fun hb12=>?_))))
  ·replace h:=Ai hb12 h;refine Ab (Aa O (Aa O (Aa O (Ae tt O hg9 (oLoadD tt (Ag O) (.pairss v2.1) O O O O O O O O O hg9 (Aa O (oPureF (Ag O) (pIdxI tt (q:=(.pairss v2.1)) O O O O O O (by simp only [Sq.len,List.length_set,List.length_append,List.length_replicate] at *; omega) O hg10) O O (oPureF (Ag O) (pLoadIP tt (q:=(.pairss v2.1)) O O O O O (by simp only [Sq.len,List.length_set,List.length_append,List.length_replicate] at *; omega) hg10 O O) O O (Dr tt O O O O O O O O O O O ?_)))))))));obtain ⟨hg13,h⟩:=Ac h;refine Cn tt O O O O O O O O O O O O O O O O (Nat.le_of_eq (Nat.zero_add _)) hg13 (Aa O (Af (Ab ?_)));obtain ⟨hg14,h⟩:=Ac h;refine Ae tt O hg14 (Aa O (Af ?_));show ∃ _,_;exact ⟨((l15++([((((v2.1.getD (((v3.getD ((x16).toNat) 0)).toNat) []).getD ((joint_1).toNat) (0,0)).1),(((v2.1.getD (((v3.getD ((x16).toNat) 0)).toNat) []).getD ((joint_1).toNat) (0,0)).2))]:List (Int×Int))),(x16+(1:Int))),(En.of ⟨O,O,O,O,O,O,Y⟩ ⟨O,O,O,O,Y⟩ trivial),h⟩
  replace h:=Aj hb12 h;refine Ar (Ab ?_);obtain ⟨hg15,h⟩:=Ac h;refine Ae tt O hg15 (Aa O (Af ?_));show ∃ _,_;exact ⟨(l15,(x16+(1:Int))),(En.of ⟨O,O,O,O,O,O,Y⟩ ⟨O,O,O,O,Y⟩ trivial),h⟩
 replace h:=Aj hb7 h;refine Br ?_;show ∃ _,_;exact ⟨l15,(En.of ⟨O,Y⟩ ⟨O,Y⟩ trivial),h⟩
end
section
open Go.RowKit
def Hu (N:Nat) (code_0:List Int):Option ((List (Int×Int))×(List (Int×Int))):=
 (Qc N code_0).bind fun v1=>
 (Hm N v1).bind fun v2=>
 (Gj N v2.1).bind fun v3=>
 cnd (decide ((v3.1.length:Int) > (1:Int))) (
  (Bk N (⟨v1.b,v2.2.1,v2.2.2⟩:Cur) (v3.1.length:Int)).bind fun v4=>
  grd (0≤v4.1∧v4.1<(v3.1.length:Int)) <|
  (Bk N (⟨v1.b,v4.2.1,v4.2.2⟩:Cur) (v3.1.length:Int)).bind fun v5=>
  grd (0≤v5.1∧v5.1<(v3.1.length:Int)) <|
  some ((v3.1.getD ((v4.1).toNat) []),(v3.1.getD ((v5.1).toNat) []))) (
  (Tb N (⟨v1.b,v2.2.1,v2.2.2⟩:Cur)).bind fun v6=>
  some (v6.1.places,v2.1.f.places))
theorem Ys (N:Nat) (code_0:List Int) (r:(List (Int×Int))×(List (Int×Int))) (h:Hu N code_0=some r):PCall Tryz.prog 38 [.ro false (.bytes code_0)] [] (.tup [.ro true (.pairs r.1),.ro true (.pairs r.2)]):=by
 unfold Hu at h;refine Ak (TT:=TT) tt Tryz.func38 O O Tryz.ntmps38 (congrArg Array.toList Tryz.results38) O O fun w0=>(Ah (Ab (Aa O (Aa O (Af (Ah (Ab (Aa O ?_))))))));obtain ⟨v1,hc1,h⟩:=Ad h;refine oCallB (Sn N code_0 v1 hc1) O O O O O ⟨O,O,Y⟩ (Aa O (Af (Ah (Ab (Aa O (Kn (En.zero 9505 42 (.pairs []) O O) (Kn (En.zero 9506 95 (.pairs []) O O) (Kn (En.zero 9507 3 (.ints []) O O) ?_))))))));obtain ⟨v2,hc2,h⟩:=Ad h;refine Bs (Rc N v1 v2 hc2) [9505,9506,9507] [11] [1130,1131,1132] O O O O O O ⟨O,O,O,Y⟩ ⟨O,Y⟩ ⟨⟨O,O⟩,Y⟩ (Bq tt O O O O O O O O O (As tt O O O O O O O O O O O ⟨Y,Y,Y,Y,Y⟩ (Af (Ah (Ab (Aa O ?_))))));obtain ⟨v3,hc3,h⟩:=Ad h;refine Bn (Hb N v2.1 v3 hc3) O O O O O O O O ⟨⟨O,(.inl ⟨O,O⟩),(.inl ⟨O,O⟩),(.inl ⟨O,O⟩),Y⟩,Y⟩ ?_;iterate 5 refine Aa O ?_
 refine Af (Ah (Ah (Ab (Aa O (Aa O (Aa O (Af (At O (fun hb4=>?_) (fun hb4=>?_)))))))))
 ·replace h:=Ai hb4 h;refine Ah (Ab ?_);iterate 4 refine Aa O ?_
  obtain ⟨v4,hc5,h⟩:=Ad h;refine Bs (Bc N (⟨v1.b,v2.2.1,v2.2.2⟩:Cur) (v3.1.length:Int) v4 hc5) [] [11] [] O O O O O O Y ⟨O,Y⟩ ⟨⟨O,O⟩,⟨O,O⟩,Y⟩ ?_;obtain ⟨hg6,h⟩:=Ac h;refine Ae tt O hg6 (Ae tt O hg6 (Aa O (Af (Ah (Df 9 [5,1050000011] [0,0,0,0,8,28,62,126,61,511] (by kernel_rfl) (by kernel_rfl) (by kernel_rfl) (by kernel_rfl) (by kernel_rfl) O (by rfl) ?_)))));iterate 5 refine Ei tt O (Ag O) O O O O O Y ?_
  obtain ⟨v5,hc7,h⟩:=Ad h;refine nMCall (rids:=[]) (bids:=[]) (pids:=[]) (Ag rfl) (Bc N (⟨v1.b,v4.2.1,v4.2.2⟩:Cur) (v3.1.length:Int) v5 hc7) [] [11] [] rfl rfl rfl rfl rfl (by first | rfl | kernel_rfl) rfl rfl rfl rfl rfl (by first | rfl | kernel_rfl)  trivial ⟨rfl,Y⟩ ⟨⟨rfl,rfl⟩,⟨rfl,rfl⟩,Y⟩ ?_;obtain ⟨hg8,h⟩:=Ac h;iterate 2 refine Ei tt O (Ag O) O O O O O hg8 ?_
  refine Ei tt O (Ag O) O O O O O Y (Tp ?_);show VO _ _ _ _ _;refine Aa O (Af (Ay ?_));show ∃ _,_;cases h;exact ⟨[],_,O,Y,O,.eq O,O⟩
 replace h:=Aj hb4 h;refine Ar (Ah (Ab (Aa O (Kn (En.zero 9508 42 (.pairs []) O O) ?_))));obtain ⟨v6,hc9,h⟩:=Ad h;refine Bs (S_l10Any_w N (⟨v1.b,v2.2.1,v2.2.2⟩:Cur) v6 hc9) [9508] [11] [1380] O O O O O O ⟨O,Y⟩ ⟨O,Y⟩ ⟨⟨O,O⟩,Y⟩ (Bq tt O O O O O O O O O (As tt O O O O O O O O O O O ⟨Y,Y,Y,Y⟩ (Af (Ah (Bt (by kernel_rfl) (by kernel_rfl) ?_)))));iterate 7 refine Bb tt O (Ag O) O O O Y ?_
 refine Km (vEn (En.freeze 3 O O O O) (Ay ?_));show ∃ _,_;cases h;exact ⟨[],_,O,Y,O,.eq O,O⟩
def Gn (N:Nat) (v20:(List Int)×Bool) (v42:(List (List (Int×Int)))×Bool) (k:Unit→Option (Bool)):Nat→Int→Option (Bool)
 | 0,_=>none
 | n+1,i49=>
  cnd (decide (i49<(v20.1.length:Int))) (
   grd (Bg (i49-(1:Int))) <|
   grd (0≤(i49-(1:Int))∧(i49-(1:Int))<(v20.1.length:Int)) <|
   grd (0≤(v20.1.getD (((i49-(1:Int))).toNat) 0)∧(v20.1.getD (((i49-(1:Int))).toNat) 0)<(v42.1.length:Int)) <|
   grd (0≤i49∧i49<(v20.1.length:Int)) <|
   grd (0≤(v20.1.getD ((i49).toNat) 0)∧(v20.1.getD ((i49).toNat) 0)<(v42.1.length:Int)) <|
   (Fw N (v42.1.getD (((v20.1.getD (((i49-(1:Int))).toNat) 0)).toNat) []) (v42.1.getD (((v20.1.getD ((i49).toNat) 0)).toNat) [])).bind fun v51=>
   cnd (!v51) (
    some false) (
    grd (Bg (i49+(1:Int))) <|
    Gn N v20 v42 k n (i49+(1:Int)))) (
   k ())
def Gl (N:Nat) (v4:(List (List Int))×Bool) (k:Int→Option (Bool)):Nat→(Int×Int)→Option (Bool)
 | 0,_=>none
 | n+1,(n58,i59)=>
  cnd (decide (i59<(v4.1.length:Int))) (
   grd (0≤i59∧i59<(v4.1.length:Int)) <|
   grd (Bg (n58+((v4.1.getD ((i59).toNat) []).length:Int))) <|
   grd (Bg (i59+(1:Int))) <|
   Gl N v4 k n ((n58+((v4.1.getD ((i59).toNat) []).length:Int)),(i59+(1:Int)))) (
   k n58)
def Sf (N:Nat) (code_0:List Int):Option (Bool):=
 (L_big N code_0).bind fun v1=>
 cnd v1 (
  some true) (
  (Hv N code_0).bind fun v2=>
  (Mb N v2).bind fun v3=>
  (Mi N v2).bind fun v4=>
  cnd (v3.2 != v4.2) (
   some false) (
   (Ly N v3.1 v4.1).bind fun v5=>
   cnd (!v5) (
    some false) (
    (Mx N v2).bind fun v6=>
    (Mn N v2).bind fun v7=>
    (Jt N v6 v7).bind fun v8=>
    cnd (!v8) (
     some false) (
     (Qf N v2).bind fun v9=>
     (Pj N v2).bind fun v10=>
     cnd (v9 != v10) (
      some false) (
      jn (fun (_ : Unit) =>
         (Fa N code_0).bind fun v18=>
         (Ht N v18.1 v18.2.1 v18.2.2).bind fun v19=>
         (Fn N v18.1 v18.2.1 v18.2.2).bind fun v20=>
         cnd (v19.2 != v20.2) (
          some false) (
          (Jt N v19.1 v20.1).bind fun v21=>
          cnd (!v21) (
           some false) (
           jn (fun (_ : Unit) =>
              (Jh N code_0).bind fun v32=>
              (Hu N code_0).bind fun v33=>
              (Mj N v32.1 v32.2).bind fun v34=>
              (Pq N v32.1 v32.2).bind fun v35=>
              (Ka N v34 v35).bind fun v36=>
              cnd v36 (
               (Fw N v33.1 v33.2).bind fun v37=>
               (Ma N v33.1 v33.2).bind fun v38=>
               cnd (v37==v38) (
                (Fw N v33.1 v33.2).bind fun v39=>
                (Fw N v33.2 v33.1).bind fun v40=>
                some (v39==v40)) (
                some false)) (
               some false)) fun k41=>
            cnd v19.2 (
             (Gj N v18.1).bind fun v42=>
             grd (0≤(0:Int)∧(0:Int)<(v20.1.length:Int)) <|
             cnd ((v20.1.getD ((0:Int).toNat) 0) != v18.2.1) (
              some false) (
              grd (Bg ((v20.1.length:Int)-(1:Int))) <|
              grd (0≤((v20.1.length:Int)-(1:Int))∧((v20.1.length:Int)-(1:Int))<(v20.1.length:Int)) <|
              cnd ((v20.1.getD ((((v20.1.length:Int)-(1:Int))).toNat) 0) != v18.2.2) (
               some false) (
               Gn N v20 v42 (fun (_ : Unit) =>
                  k41 ()) N (1:Int)))) (
             k41 ())))) fun k52=>
       cnd v3.2 (
        (Gj N v2).bind fun v53=>
        Gl N v4 (fun (n56 : Int) =>
           cnd (n56 != (v53.1.length:Int)) (
            some false) (
            k52 ())) N ((0:Int),(0:Int))) (
        k52 ()))))))
theorem L_FnRooms_w (N:Nat) (code_0:List Int) (r:Bool) (h:Sf N code_0=some r):PCall Tryz.prog 4 [.ro false (.bytes code_0)] [] (.bool r):=by
 unfold Sf at h;refine Ak (TT:=TT) tt Tryz.func4 O O Tryz.ntmps4 (congrArg Array.toList Tryz.results4) O O fun w0=>(Ah (Ab (Aa O (Af (Ah (Ah (Ab (Aa O ?_))))))));obtain ⟨v1,hc1,h⟩:=Ad h;refine Bn (L_big_w N code_0 v1 hc1) O O O O O O O O ⟨O,Y⟩ (Af (At O (fun hb2=>?_) (fun hb2=>?_)))
 ·replace h:=Ai hb2 h;refine Ah (Ab (Aa O (Af (Ay ?_))));show ∃ _,_;cases h;exact ⟨[],_,O,Y,O,.eq O,O⟩
 replace h:=Aj hb2 h;refine Ar (Ah (Ab (Aa O ?_)));obtain ⟨v2,hc3,h⟩:=Ad h;refine Bn (Xi N code_0 v2 hc3) O O O O O O O O ⟨O,Y⟩ (Bq tt O O O O O O O O O (As tt O O O O O O O O O O O ⟨Y,Y,Y,Y,Y⟩ (Af (Ah (Ab (Aa O ?_))))));obtain ⟨v3,hc4,h⟩:=Ad h;refine Xv 10 (Yb N v2 v3 hc4) O O O O O O O O O O O (fun _ h=>by cases h) ⟨⟨O,(.inl ⟨O,O⟩),(.inl ⟨O,O⟩),(.inl ⟨O,O⟩),Y⟩,Y⟩ ?_;iterate 5 refine Aa O ?_
 refine Af (Ah (Ab (Aa O ?_)));obtain ⟨v4,hc5,h⟩:=Ad h;refine Bn (Xc N v2 v4 hc5) O O O O O O O O ⟨⟨O,(.inl ⟨O,O⟩),(.inl ⟨O,O⟩),(.inl ⟨O,O⟩),Y⟩,Y⟩ ?_;iterate 5 refine Aa O ?_
 refine Af (Ah (Ah (Df 21 [11,13] [0,0,3,7,15,15,63,127,255,511,1023,2047,1023,8191,16383,32767,65535,131071,262143,524287,262143,2097151,4194303,8388607] (by kernel_rfl) (by kernel_rfl) (by kernel_rfl) (by kernel_rfl) (by kernel_rfl) O (by rfl) ?_)));iterate 2 refine Ei tt O (Ag O) O O O O O Y ?_
 refine nPure (Ag O) (pNeB Tryz.underlying4 O O O) O O O O (Ei tt O (Ag O) O O O O O Y (Wd O O O (fun hb6=>?_) (fun hb6=>?_)))
 ·replace h:=Ai hb6 h;iterate 4 refine nNoF O O O O hb6 O O ?_
  refine Zs O (Ag O) O O O hb6 O O (Ei tt O (Ag O) O O O O O Y ?_);iterate 6 refine nNoF O O O O O O O ?_
  refine Zs O (Ag O) O O O O O O (Ei tt O (Ag O) O O O O O Y ?_);iterate 3 refine nNoF O O O O O O O ?_
  refine Tp ?_;show VO _ _ _ _ _;iterate 2 refine Fd O O O O O O O ?_
  refine Bd O O O O O O O (Af (Bo O O (Ah (Ab (Aa O (Af (Ay ?_)))))));show ∃ _,_;cases h;exact ⟨[],_,O,Y,O,.eq O,O⟩
 replace h:=Aj hb6 h;iterate 2 refine Ei tt O (Aw O O O O hb6) O O O O O Y ?_
 obtain ⟨v5,hc7,h⟩:=Ad h;refine Zf (L_sameSets_w N v3.1 v4.1 v5 hc7) O (Aw O O O O hb6) O O O O O O O O ⟨(.inr (.inr ⟨10,_,by decide,O,O,O,O⟩)),(.inl ⟨O,O⟩),Y⟩ (Ei tt O (Aw O O O O hb6) O O O O O Y (Zw O (Ag O) O O O hb6 O O (Ei tt O (Ag O) O O O O O Y (Wd O O O (fun hb8=>?_) (fun hb8=>?_)))))
 ·replace h:=Ai hb8 h;iterate 6 refine nNoF O O O O hb8 O O ?_
  refine Zs O (Ag O) O O O hb8 O O (Ei tt O (Ag O) O O O O O Y ?_);iterate 3 refine nNoF O O O O O O O ?_
  refine Tp ?_;show VO _ _ _ _ _;iterate 2 refine Fd O O O O O O O ?_
  refine Bd O O O O O O O (Af (Bo O O (Ah (Ab (Aa O (Af (Ay ?_)))))));show ∃ _,_;cases h;exact ⟨[],_,O,Y,O,.eq O,O⟩
 replace h:=Aj hb8 h;refine Ei tt O (Aw O O O O hb8) O O O O O Y ?_;obtain ⟨v6,hc9,h⟩:=Ad h;refine Qh (Vl N v2 v6 hc9) rfl (Aw rfl rfl rfl rfl hb8) rfl rfl rfl rfl rfl rfl (by first | rfl | kernel_rfl | (simp [nrL,nm,Gq,nmT,Hg]; done)) rfl (by first | rfl | kernel_rfl | (simp [Lt,nrL,nm,Gq,nmT,Hg,hid,Gm,Ed,Cc]; done) | (simp [Lt,nrL,nm,Gq,nmT,Hg,hid,Gm,Ed,Cc]; decide)) ⟨⟨rfl,(.inl ⟨rfl,rfl⟩),(.inl ⟨rfl,rfl⟩),(.inl ⟨rfl,rfl⟩),Y⟩,Y⟩ (Ei tt rfl (Aw rfl rfl rfl rfl hb8) rfl rfl rfl rfl rfl Y ?_);obtain ⟨v7,hc10,h⟩:=Ad h;refine Qh (Wb N v2 v7 hc10) rfl (Aw rfl rfl rfl rfl hb8) rfl rfl rfl rfl rfl rfl (by first | rfl | kernel_rfl | (simp [nrL,nm,Gq,nmT,Hg]; done)) rfl (by first | rfl | kernel_rfl | (simp [Lt,nrL,nm,Gq,nmT,Hg,hid,Gm,Ed,Cc]; done) | (simp [Lt,nrL,nm,Gq,nmT,Hg,hid,Gm,Ed,Cc]; decide)) ⟨⟨rfl,(.inl ⟨rfl,rfl⟩),(.inl ⟨rfl,rfl⟩),(.inl ⟨rfl,rfl⟩),Y⟩,Y⟩ ?_;obtain ⟨v8,hc11,h⟩:=Ad h;refine Zf (Pt N v6 v7 v8 hc11) O (Aw O O O O hb8) O O O O O O O O ⟨(.inl ⟨O,O⟩),(.inl ⟨O,O⟩),Y⟩ (Ei tt O (Aw O O O O hb8) O O O O O Y (Zw O (Ag O) O O O hb8 O O (Ei tt O (Ag O) O O O O O Y (Wd O O O (fun hb12=>?_) (fun hb12=>?_)))))
 ·replace h:=Ai hb12 h;iterate 3 refine nNoF O O O O hb12 O O ?_
  refine Tp ?_;show VO _ _ _ _ _;iterate 2 refine Fd O O O O hb12 O O ?_
  refine Bd O O O O O hb12 O (Af (Bo O O (Ah (Ab (Aa O (Af (Ay ?_)))))));show ∃ _,_;cases h;exact ⟨[],_,O,Y,O,.eq O,O⟩
 replace h:=Aj hb12 h;refine Ei tt O (Aw O O O O hb12) O O O O O Y ?_;obtain ⟨v9,hc13,h⟩:=Ad h;refine Zf (I_IsStuck_w N v2 v9 hc13) O (Aw O O O O hb12) O O O O O O O O ⟨⟨O,(.inl ⟨O,O⟩),(.inl ⟨O,O⟩),(.inl ⟨O,O⟩),Y⟩,Y⟩ (Ei tt O (Aw O O O O hb12) O O O O O Y (Tp ?_));show VO _ _ _ _ _;obtain ⟨v10,hc14,h⟩:=Ad h;refine Hx (S_IsStuck_w N v2 v10 hc14) O O O O hb12 O O O O O O O ⟨⟨O,(.inl ⟨O,O⟩),(.inl ⟨O,O⟩),(.inl ⟨O,O⟩),Y⟩,Y⟩ (Gb (Aw O O O O hb12) (pNeB Tryz.underlying4 O O O) O O (Az O O O O O hb12 O (Af (At O (fun hb15=>?_) (fun hb15=>?_)))))
 ·replace h:=Ai hb15 h;refine Ah (Ab (Aa O (Af (Ay ?_))));show ∃ _,_;cases h;exact ⟨[],_,O,Y,O,.eq O,O⟩
 replace h:=Aj hb15 h;refine Ar (Ah (Ah (Ab (Aa O (Af (vJoinN h (α:=Unit) (J:=fun (_:Unit)=>(⟨[(0,.ro false (.bytes code_0))],[],[]⟩:PS)) ?_ ?_))))))
 ·rintro ⟨⟩ h;show VC _ _ _ (⟨[(0,.ro false (.bytes code_0))],[],[]⟩:PS);refine Ah (Ab (Aa O ?_));obtain ⟨v18,hc16,h⟩:=Ad h;refine Bn (Rv N code_0 v18 hc16) O O O O O O O O ⟨O,Y⟩ ?_;iterate 4 refine Aa O ?_
  refine Bq tt O O O O O O O O O (As tt O O O O O O O O O O O ⟨Y,Y,Y,Y,Y⟩ (Aa O (Aa O (Af (Ah (Ab (Aa O (Aa O (Aa O ?_)))))))));obtain ⟨v19,hc17,h⟩:=Ad h;refine Bn (Ya N v18.1 v18.2.1 v18.2.2 v19 hc17) O O O O O O O O ⟨⟨O,(.inl ⟨O,O⟩),(.inl ⟨O,O⟩),(.inl ⟨O,O⟩),Y⟩,O,O,Y⟩ ?_;iterate 5 refine Aa O ?_
  refine Af (Ah (Ab (Aa O (Aa O (Aa O ?_)))));obtain ⟨v20,hc18,h⟩:=Ad h;refine Bn (Xo N v18.1 v18.2.1 v18.2.2 v20 hc18) O O O O O O O O ⟨⟨O,(.inl ⟨O,O⟩),(.inl ⟨O,O⟩),(.inl ⟨O,O⟩),Y⟩,O,O,Y⟩ ?_;iterate 5 refine Aa O ?_
  refine Af (Ah (Ah (Ab (Aa O (Aa O (Gb (Ag O) (pNeB Tryz.underlying4 O O O) O O (Aa O (Bi O O O (fun hb19=>?_) (fun hb19=>?_)))))))))
  ·replace h:=Ai hb19 h;iterate 4 refine Fd O O O O hb19 O O ?_
   refine Bd O O O O O hb19 O (Af (Bo O O (Ah (Ab (Aa O (Af (Ay ?_)))))));show ∃ _,_;cases h;exact ⟨[],_,O,Y,O,.eq O,O⟩
  replace h:=Aj hb19 h;iterate 2 refine Bj tt O O O O O hb19 O O O Y ?_
  obtain ⟨v21,hc20,h⟩:=Ad h;refine Hx (Pt N v19.1 v20.1 v21 hc20) O O O O hb19 O O O O O O O ⟨(.inl ⟨O,O⟩),(.inl ⟨O,O⟩),Y⟩ (Bj tt O O O O O hb19 O O O Y (Az O O O O O hb19 O (Af (At O (fun hb21=>?_) (fun hb21=>?_)))))
  ·replace h:=Ai hb21 h;refine Ah (Ab (Aa O (Af (Ay ?_))));show ∃ _,_;cases h;exact ⟨[],_,O,Y,O,.eq O,O⟩
  replace h:=Aj hb21 h;refine Ar (Ah (Ah (Ab (Aa O (Af (vJoinN h (α:=Unit) (J:=fun (_:Unit)=>(⟨[(0,.ro false (.bytes code_0))],[],[]⟩:PS)) ?_ ?_))))))
  ·rintro ⟨⟩ h;show VC _ _ _ (⟨[(0,.ro false (.bytes code_0))],[],[]⟩:PS);refine Ah (Ab (Aa O ?_));obtain ⟨v32,hc22,h⟩:=Ad h;refine Bn (Xt N code_0 v32 hc22) O O O O O O O O ⟨O,Y⟩ (Aa O (Aa O (Aa O (Bq tt O O O O O O O O O (As tt O O O O O O O O O O O ⟨Y,Y,Y,Y,Y⟩ (Aa O (Af (Ah (Ab ?_)))))))));refine Aa O ?_;obtain ⟨v33,hc23,h⟩:=Ad h;refine Bn (Ys N code_0 v33 hc23) O O O O O O O O ⟨O,Y⟩ ?_;iterate 5 refine Aa O ?_
   refine Af (Ah (Df 22 [2,5] [0,0,3,0,0,31,63,127,255,255,1023,255,255,8191,16383,32767,65535,131071,131071,524287,131071,131071,4194303,8388607,16777215,33554431] (by kernel_rfl) (by kernel_rfl) (by kernel_rfl) (by kernel_rfl) (by kernel_rfl) O (by rfl) ?_));iterate 2 refine Ei tt O (Ag O) O O O O O Y ?_
   obtain ⟨v34,hc24,h⟩:=Ad h;refine Qh (I_TraceOf_w N v32.1 v32.2 v34 hc24) rfl (Ag rfl) rfl rfl rfl rfl rfl rfl (by first | rfl | kernel_rfl | (simp [nrL,nm,Gq,nmT,Hg]; done)) rfl (by first | rfl | kernel_rfl | (simp [Lt,nrL,nm,Gq,nmT,Hg,hid,Gm,Ed,Cc]; done) | (simp [Lt,nrL,nm,Gq,nmT,Hg,hid,Gm,Ed,Cc]; decide)) ⟨⟨rfl,(.inl ⟨rfl,rfl⟩),(.inl ⟨rfl,rfl⟩),(.inl ⟨rfl,rfl⟩),Y⟩,rfl,Y⟩ ?_;iterate 2 refine Ei tt O (Ag O) O O O O O Y ?_
   obtain ⟨v35,hc25,h⟩:=Ad h;refine Qh (S_TraceOf_w N v32.1 v32.2 v35 hc25) rfl (Ag rfl) rfl rfl rfl rfl rfl rfl (by first | rfl | kernel_rfl | (simp [nrL,nm,Gq,nmT,Hg]; done)) rfl (by first | rfl | kernel_rfl | (simp [Lt,nrL,nm,Gq,nmT,Hg,hid,Gm,Ed,Cc]; done) | (simp [Lt,nrL,nm,Gq,nmT,Hg,hid,Gm,Ed,Cc]; decide)) ⟨⟨rfl,(.inl ⟨rfl,rfl⟩),(.inl ⟨rfl,rfl⟩),(.inl ⟨rfl,rfl⟩),Y⟩,rfl,Y⟩ ?_;obtain ⟨v36,hc26,h⟩:=Ad h;refine Zf (Zb N v34 v35 v36 hc26) O (Ag O) O O O O O O O O ⟨(.inl ⟨O,O⟩),(.inl ⟨O,O⟩),Y⟩ (Ei tt O (Ag O) O O O O O Y (Wd O O O (fun hb27=>?_) (fun hb27=>?_)))
   ·replace h:=Ai hb27 h;iterate 2 refine Ei tt O (Aw O O O O hb27) O O O O O Y ?_
    obtain ⟨v37,hc28,h⟩:=Ad h;refine Zf (Js N v33.1 v33.2 v37 hc28) O (Aw O O O O hb27) O O O O O O O O ⟨O,O,Y⟩ ?_;iterate 2 refine Ei tt O (Aw O O O O hb27) O O O O O Y ?_
    obtain ⟨v38,hc29,h⟩:=Ad h;refine Zf (Yt N v33.1 v33.2 v38 hc29) O (Aw O O O O hb27) O O O O O O O O ⟨O,O,Y⟩ (nPure (Aw O O O O hb27) (pEqB Tryz.underlying4 O O O) O O O O (Zs O (Ag O) O O O hb27 O O (Ei tt O (Ag O) O O O O O Y (Wd O O O (fun hb30=>?_) (fun hb30=>?_)))))
    ·replace h:=Ai hb30 h;iterate 2 refine Ei tt O (Aw O O O O hb30) O O O O O Y ?_
     obtain ⟨v39,hc31,h⟩:=Ad h;refine Zf (Js N v33.1 v33.2 v39 hc31) O (Aw O O O O hb30) O O O O O O O O ⟨O,O,Y⟩ ?_;iterate 2 refine Ei tt O (Aw O O O O hb30) O O O O O Y ?_
     refine Tp ?_;show VO _ _ _ _ _;obtain ⟨v40,hc32,h⟩:=Ad h;refine Hx (Js N v33.2 v33.1 v40 hc32) O O O O hb30 O O O O O O O ⟨O,O,Y⟩ (Gb (Aw O O O O hb30) (pEqB Tryz.underlying4 O O O) O O (Bd O O O O O hb30 O (Aa O (Af (Ay ?_)))));show ∃ _,_;cases h;exact ⟨[],_,O,Y,O,.eq O,O⟩
    replace h:=Aj hb30 h;iterate 5 refine nNoT O O O O hb30 O O ?_
    refine Tp ?_;show VO _ _ _ _ _;iterate 2 refine Qv O O O O hb30 O O ?_
    refine Az O O O O O hb30 O (Aa O (Af (Ay ?_)));show ∃ _,_;cases h;exact ⟨[],_,O,Y,O,.eq O,O⟩
   replace h:=Aj hb27 h;iterate 7 refine nNoT O O O O hb27 O O ?_
   refine Zw O (Ag O) O O O hb27 O O (Ei tt O (Ag O) O O O O O Y ?_);iterate 5 refine nNoT O O O O O O O ?_
   refine Tp ?_;show VO _ _ _ _ _;iterate 2 refine Qv O O O O O O O ?_
   refine Az O O O O O O O (Aa O (Af (Ay ?_)));show ∃ _,_;cases h;exact ⟨[],_,O,Y,O,.eq O,O⟩
  intro k41 h;refine At O (fun hb33=>?_) (fun hb33=>?_)
  ·replace h:=Ai hb33 h;refine Ah (Ab (Aa O ?_));obtain ⟨v42,hc34,h⟩:=Ad h;refine Bn (Hb N v18.1 v42 hc34) O O O O O O O O ⟨⟨O,(.inl ⟨O,O⟩),(.inl ⟨O,O⟩),(.inl ⟨O,O⟩),Y⟩,Y⟩ ?_;iterate 5 refine Aa O ?_
   refine Af (Ah (Ah (Ab (Aa O ?_))));obtain ⟨hg35,h⟩:=Ac h;refine Ae tt O hg35 (Ae tt O hg35 (Aa O (Aa O (Aa O (Bi O O O (fun hb36=>?_) (fun hb36=>?_))))))
   ·replace h:=Ai hb36 h;iterate 8 refine Fd O O O O hb36 O O ?_
    refine Bd O O O O O hb36 O (Af (Bo O O (Ah (Ab (Aa O (Af (Ay ?_)))))));show ∃ _,_;cases h;exact ⟨[],_,O,Y,O,.eq O,O⟩
   replace h:=Aj hb36 h;iterate 3 refine Bj tt O O O O O hb36 O O O Y ?_
   obtain ⟨hg37,h⟩:=Ac h;refine Bj tt O O O O O hb36 O O O hg37 ?_;obtain ⟨hg38,h⟩:=Ac h;iterate 2 refine Bj tt O O O O O hb36 O O O hg38 ?_
   iterate 2 refine Bj tt O O O O O hb36 O O O Y ?_
   refine Az O O O O O hb36 O (Af (At O (fun hb39=>?_) (fun hb39=>?_)))
   ·replace h:=Ai hb39 h;refine Ah (Ab (Aa O (Af (Ay ?_))));show ∃ _,_;cases h;exact ⟨[],_,O,Y,O,.eq O,O⟩
   replace h:=Aj hb39 h;refine Ar (Ah (Ab (Aa O (Af (Cb (F:=fun k=>Gn N v20 v42 k) h (α:=Unit) (J:=fun (_:Unit)=>(⟨[(0,.ro false (.bytes code_0))],[],[]⟩:PS)) ?_ ?_)))))
   ·rintro ⟨⟩ h;show ∃ _,_;exact ⟨(),(En.of ⟨O,Y⟩ trivial trivial),h⟩
   intro k h;refine Aq (Bh (α:=Int) (fun (i49:Int)=>(⟨[(0,.ro false (.bytes code_0)),(17,.row 2040 0 v20.1.length),(19,.row 2190 0 v42.1.length),(21,.int i49)],[(2040,some (3,.ints v20.1)),(2190,some (45,.pairss v42.1))],[]⟩:PS)) (Gn N v20 v42 k) h (En.of ⟨O,O,O,O,Y⟩ ⟨O,O,Y⟩ trivial) (fun _=>O) ?_);rintro n i49 h;rw [Gn] at h;show VC _ _ _ (⟨[(0,.ro false (.bytes code_0)),(17,.row 2040 0 v20.1.length),(19,.row 2190 0 v42.1.length),(21,.int i49)],[(2040,some (3,.ints v20.1)),(2190,some (45,.pairss v42.1))],[]⟩:PS);refine Ah (Ah (Ab ?_));iterate 4 refine Aa O ?_
   refine Af (At O (fun hb40=>?_) (fun hb40=>?_))
   ·replace h:=Ai hb40 h;refine Ar (Ah (Aq (Ah (Bt (by kernel_rfl) (by kernel_rfl) ?_))));iterate 3 refine Bb tt O (Ag O) O O O Y ?_
    obtain ⟨hg41,h⟩:=Ac h;refine Bb tt O (Ag O) O O O hg41 ?_;obtain ⟨hg42,h⟩:=Ac h;iterate 2 refine Bb tt O (Ag O) O O O hg42 ?_
    obtain ⟨hg43,h⟩:=Ac h;iterate 2 refine Bb tt O (Ag O) O O O hg43 ?_
    iterate 3 refine Bb tt O (Ag O) O O O Y ?_
    obtain ⟨hg44,h⟩:=Ac h;iterate 2 refine Bb tt O (Ag O) O O O hg44 ?_
    obtain ⟨hg45,h⟩:=Ac h;iterate 2 refine Bb tt O (Ag O) O O O hg45 ?_
    obtain ⟨v51,hc46,h⟩:=Ad h;refine Ta (Js N (v42.1.getD (((v20.1.getD (((i49-(1:Int))).toNat) 0)).toNat) []) (v42.1.getD (((v20.1.getD ((i49).toNat) 0)).toNat) []) v51 hc46) O (Ag O) O O O O O O ⟨O,O,Y⟩ (Bb tt O (Ag O) O O O Y (Km (At O (fun hb47=>?_) (fun hb47=>?_))))
    ·replace h:=Ai hb47 h;refine Ah (Ab (Aa O (Af (Ay ?_))));show ∃ _,_;cases h;exact ⟨[],_,O,Y,O,.eq O,O⟩
    replace h:=Aj hb47 h;refine Ar (Ab (Aa O ?_));obtain ⟨hg48,h⟩:=Ac h;refine Ae tt O hg48 (Aa O (Af ?_));show ∃ _,_;exact ⟨(i49+(1:Int)),(En.of ⟨O,O,O,O,Y⟩ ⟨O,O,Y⟩ trivial),h⟩
   replace h:=Aj hb40 h;refine Br ?_;show ∃ _,_;exact ⟨(),(En.of ⟨O,Y⟩ trivial trivial),h⟩
  replace h:=Aj hb33 h;refine Ar ?_;show ∃ _,_;exact ⟨(),(En.of ⟨O,Y⟩ trivial trivial),h⟩
 intro k52 h;refine At O (fun hb49=>?_) (fun hb49=>?_)
 ·replace h:=Ai hb49 h;refine Ah (Ab (Aa O ?_));obtain ⟨v53,hc50,h⟩:=Ad h;refine Bn (Hb N v2 v53 hc50) O O O O O O O O ⟨⟨O,(.inl ⟨O,O⟩),(.inl ⟨O,O⟩),(.inl ⟨O,O⟩),Y⟩,Y⟩ ?_;iterate 5 refine Aa O ?_
  refine Af (Ah (Ab (Aa O (Af (Ah (Ah (Ab (Aa O (Af ?_)))))))));refine Cb (F:=fun k=>Gl N v4 k) h (α:=Int) (J:=fun (n56:Int)=>(⟨[(0,.ro false (.bytes code_0)),(8,.row 1670 0 v53.1.length),(10,.int n56)],[(1670,some (45,.pairss v53.1))],[]⟩:PS)) ?_ ?_
  ·rintro n56 h;show VC _ _ _ (⟨[(0,.ro false (.bytes code_0)),(8,.row 1670 0 v53.1.length),(10,.int n56)],[(1670,some (45,.pairss v53.1))],[]⟩:PS);refine Ah (Ab ?_);iterate 4 refine Aa O ?_
   refine Af (At O (fun hb51=>?_) (fun hb51=>?_))
   ·replace h:=Ai hb51 h;refine Ah (Ab (Aa O (Af (Ay ?_))));show ∃ _,_;cases h;exact ⟨[],_,O,Y,O,.eq O,O⟩
   replace h:=Aj hb51 h;refine Ar ?_;show ∃ _,_;exact ⟨(),(En.of ⟨O,Y⟩ trivial trivial),h⟩
  intro k h;refine Aq (Bh (α:=Int×Int) (fun | (n58,i59)=>(⟨[(0,.ro false (.bytes code_0)),(6,.row 1370 0 v4.1.length),(8,.row 1670 0 v53.1.length),(10,.int n58),(11,.int i59)],[(1370,some (27,.intss v4.1)),(1670,some (45,.pairss v53.1))],[]⟩:PS)) (Gl N v4 k) h (En.of ⟨rfl,rfl,rfl,rfl,rfl,Y⟩ ⟨rfl,rfl,Y⟩ trivial) (fun _=>rfl) ?_);rintro n ⟨n58,i59⟩ h;rw [Gl] at h;show VC _ _ _ (⟨[(0,.ro false (.bytes code_0)),(6,.row 1370 0 v4.1.length),(8,.row 1670 0 v53.1.length),(10,.int n58),(11,.int i59)],[(1370,some (27,.intss v4.1)),(1670,some (45,.pairss v53.1))],[]⟩:PS);refine Ah (Ah (Ab ?_));iterate 4 refine Aa O ?_
  refine Af (At O (fun hb52=>?_) (fun hb52=>?_))
  ·replace h:=Ai hb52 h;refine Ar (Ah (Aq (Ab (Aa O (Aa O (Aa O ?_))))));obtain ⟨hg53,h⟩:=Ac h;refine Ae tt O hg53 (Ae tt O hg53 (Aa O ?_));obtain ⟨hg54,h⟩:=Ac h;refine Ae tt O hg54 (Aa O (Af (Ab (Aa O ?_))));obtain ⟨hg55,h⟩:=Ac h;refine Ae tt O hg55 (Aa O (Af ?_));show ∃ _,_;exact ⟨((n58+((v4.1.getD ((i59).toNat) []).length:Int)),(i59+(1:Int))),(En.of ⟨O,O,O,O,O,Y⟩ ⟨O,O,Y⟩ trivial),h⟩
  replace h:=Aj hb52 h;refine Br ?_;show ∃ _,_;exact ⟨n58,(En.of ⟨O,O,O,Y⟩ ⟨O,Y⟩ trivial),h⟩
 replace h:=Aj hb49 h;refine Ar ?_;show ∃ _,_;exact ⟨(),(En.of ⟨O,Y⟩ trivial trivial),h⟩
end
section
open Go.RowKit
variable {N:Nat}
def Xr (R:List (List Int)):Nat:=(R.map List.length).sum
theorem rm_sum (P:List (List (Int×Int))):∀ i,Xr (rmS P i).1=(rmS P i).2.length
 | 0=>rfl
 | i+1=>by
  have ih:=rm_sum P i;rw [rmS]
  cases (rmS P i).2.contains (i:Int) with
  | true=>rw [cnd_true]; exact ih
  | false=>
   rw [cnd_false];simp only [Xr,List.map_append,List.sum_append,List.length_append,List.map_cons,List.map_nil,List.sum_cons,List.sum_nil] at ih ⊢;have:(Yf (Wi P (i:Int))).length=(Wi P (i:Int)).length:=by rw [Yf,List.length_mergeSort]
   omega
theorem rm_has (P:List (List (Int×Int))):∀ i,i≤P.length→∀ j:Nat,j<i→(j:Int)∈(rmS P i).2
 | 0,_,j,h=>by omega
 | i+1,hi,j,h=>by
  have ih:=rm_has P i (by omega);have hr:=Qo P (show i<P.length by omega)
  cases hc:(rmS P i).2.contains (i:Int) with
  | true=>
   have e:rmS P (i+1)=rmS P i:=by rw [rmS,hc,cnd_true]
   rw [e];by_cases e2:j=i
   ·subst e2; simpa using hc
   exact ih j (by omega)
  | false=>
   have e:rmS P (i+1)=((rmS P i).1++[Yf (Wi P (i:Int))],(rmS P i).2++Wi P (i:Int)):=by rw [rmS,hc,cnd_false]
   rw [e];by_cases e2:j=i
   ·subst e2;refine List.mem_append.2 (.inr ?_);have:=hr.hd;have h0:=Cg (d:=0) hr.pos;rw [this] at h0;exact h0
   exact List.mem_append.2 (.inl (ih j (by omega)))
theorem rm_all (P:List (List (Int×Int))):Xr (rmS P P.length).1=P.length:=by
 rw [rm_sum];have h:=rm_inv P P.length (Nat.le_refl _);have a:(rmS P P.length).2.length≤P.length:=Th h.nd h.rg
 have b:((List.range P.length).map fun (i:Nat)=>(i:Int)).length≤(rmS P P.length).2.length:=Su (List.pairwise_map.2 (List.nodup_range.imp fun {a b} h e=>h (by omega))) fun x hx=>by
  obtain ⟨j,hj,rfl⟩:=List.mem_map.1 hx;exact rm_has P P.length (Nat.le_refl _) j (List.mem_range.1 hj)
 simp at b;omega
structure PathOK (P:List (List (Int×Int))) (fr to:Int) (r:List Int):Prop where
 pos:0<r.length
 hd:r.getD 0 0=fr
 lt:r.getD (r.length-1) 0=to
 rg:∀ i,i<r.length→0≤r.getD i 0∧r.getD i 0<(P.length:Int)
 nr:∀ i,0<i→i<r.length→nrP P (r.getD (i-1) 0) (r.getD i 0)=true
theorem PathOK.add {P:List (List (Int×Int))} {fr to x:Int} {r:List Int} (h:PathOK P fr to r) (hx:0≤x∧x<(P.length:Int)) (hn:nrP P to x=true):PathOK P fr x (r++[x]):=by
 have hp:=h.pos;have el:∀ i,i<r.length→(r++[x]).getD i 0=r.getD i 0:=fun i hi=>Cw hi;have er:(r++[x]).getD r.length 0=x:=Pv r x;refine ⟨by simp,by rw [el 0 hp]; exact h.hd,by simp only [List.length_append,List.length_cons,List.length_nil,Nat.zero_add,Nat.add_sub_cancel]; exact er,fun i hi=>?_,fun i h0 hi=>?_⟩
 ·simp at hi;by_cases e:i<r.length
  ·rw [el i e]; exact h.rg i e
  obtain rfl:i=r.length:=by omega
  rw [er]; exact hx
 simp at hi;by_cases e:i<r.length
 ·rw [el i e,el (i-1) (by omega)]; exact h.nr i h0 e
 obtain rfl:i=r.length:=by omega
 rw [er,el _ (by omega),h.lt]; exact hn
theorem chain_ok {P:List (List (Int×Int))} {s:Int} {st:QF} (h:BQ (nrP P) P.length s st st.1.length):∀ (f i:Nat),i≤f→i<st.1.length→PathOK P s (st.1.getD i 0) (st.1.getD i 0::chQ st f i).reverse:=by
 have base:PathOK P s (st.1.getD 0 0) [st.1.getD 0 0]:=by
  have hr:=h.rg _ (Cg (d:=0) h.pos);refine ⟨by simp,by simpa using h.hd,by simp,fun i hi=>?_,fun i h0 hi=>?_⟩
  ·obtain rfl:i=0:=by simp at hi; omega
   exact hr
  simp at hi; omega
 intro f
 induction f with
 | zero=>
  intro i h1 h2;obtain rfl:i=0:=by omega
  simpa [chQ] using base
 | succ f ih=>
  intro i h1 h2;rw [chQ];by_cases h0:i=0
  ·subst h0;rw [Av rfl]; simpa using base
  have hf:=h.fr i (by omega) h2;rw [Au h0,List.reverse_cons];exact (ih (st.2.getD i 0).toNat (by omega) (by omega)).add (h.rg _ (Cg h2)) hf.2.2.2
theorem path_v (hN:4000000≤N) {l:Lnk} (hp:l.f.places.length≤3000000) (hg:l.ground.length≤3000000) {fr to:Int} {r:List Int} (h:Fn N l fr to=some (r,true)):PathOK (Bl l) fr to r:=by
 have hpl:∀ x∈Bl l,x.length≤3000000:=fun x hx=>by have:=Qp hx; omega
 unfold Fn at h;rw [Ll hN hp hg,Option.bind_some] at h;simp only at h
 cases hlk:Qy l with
 | false=>rw [hlk] at h; cases h
 | true=>
 rw [hlk,Bool.not_true,cnd_false] at h;generalize Bl l=P at hpl h;by_cases h100:(P.length:Int) > 100
 ·rw [Av h100] at h; cases h
 rw [Au h100] at h;by_cases h1:fr<0
 ·rw [Av h1] at h; cases h
 rw [Au h1] at h;by_cases h2:to<0
 ·rw [Av h2] at h; cases h
 rw [Au h2] at h;by_cases h3:fr≥(P.length:Int)
 ·rw [Av h3] at h; cases h
 rw [Au h3] at h;by_cases h4:to≥(P.length:Int)
 ·rw [Av h4] at h; cases h
 rw [Au h4,reachP_s hN (by omega) hpl ⟨by omega,by omega⟩,Option.bind_some] at h;have hB:=bfs0_inv (nr:=nrP P) (m:=P.length) (s:=fr) ⟨by omega,by omega⟩;have hql:=hB.qlen
 have key:∀ (fuel i:Nat),i≤(Sm (nrP P) P.length fr).1.length→(Sm (nrP P) P.length fr).1.length<fuel+i→Bm N to (Sm (nrP P) P.length fr) (fun (_:Unit)=>some (([]:List Int),false)) fuel (i:Int)=some (r,true)→PathOK P fr to r:=by
  intro fuel
  induction fuel with
  | zero=>intro i h1 h2; omega
  | succ fuel ih=>
   intro i h1 h2 h;rw [Bm] at h;by_cases hi:i<(Sm (nrP P) P.length fr).1.length
   ·have e1:((i:Int)).toNat=i:=by omega
    rw [Av (by omega),Am (by omega),e1] at h;by_cases hne:(Sm (nrP P) P.length fr).1.getD i 0=to
    ·rw [Ev hne,pathS2_s hN hB _ i N i [] (Nat.le_refl _) (by omega) hi (by simp; omega),List.append_nil] at h;have e:=congrArg Prod.fst (Option.some.inj h);simp only at e;have:=chain_ok hB i i (Nat.le_refl _) hi;rw [e,hne] at this;exact this
    rw [Kl hne,Ci (by omega) (by omega),Al] at h;exact ih (i+1) (by omega) (by omega) h
   rw [Au (by omega)] at h; cases h
 exact key N 0 (by omega) (by omega) h
theorem drawRooms_d (hN:4000000≤N) {code:List Int} (hb:Byt code) (hl:code.length≤1048576):Ok (Hv N code) LD:=by
 unfold Hv;exact Ax (new_s hN hb hl) fun c hc=>Ax (any24_d hN hc.1) fun r hr=>Bx ⟨hr.1.pl,hr.1.bl,hr.1.gl⟩
theorem drawPath_d (hN:4000000≤N) {code:List Int} (hb:Byt code) (hl:code.length≤1048576):Ok (Fa N code) fun r=>LD r.1:=by
 unfold Fa;refine Ax (new_s hN hb hl) fun c hc=>Ax (any24_d hN hc.1) fun r hr=>Ax (Di (hc.1.at hr.2) 8) fun x hx=>?_;have x0:=hx.nn;have x1:=hx.lt (by omega);exact Ba ⟨by omega,by omega⟩ (Ax (Di (hc.1.at hx.cur) 8) fun y hy=>Bx ⟨hr.1.pl,hr.1.bl,hr.1.gl⟩)
theorem drawTrace_d (hN:4000000≤N) {code:List Int} (hb:Byt code) (hl:code.length≤1048576):Ok (Jh N code) fun r=>LD r.1:=by
 unfold Jh;refine Ax (new_s hN hb hl) fun c hc=>Ax (any24_d hN hc.1) fun r hr=>Ax (Di (hc.1.at hr.2) 6) fun x hx=>?_;have x0:=hx.nn;have x1:=hx.lt (by omega);exact Ba ⟨by omega,by omega⟩ (Bx ⟨hr.1.pl,hr.1.bl,hr.1.gl⟩)
theorem drawNear_d (hN:4000000≤N) {code:List Int} (hb:Byt code) (hl:code.length≤1048576):Ok (Hu N code) fun r=>r.1.length≤64∧r.2.length≤64:=by
 unfold Hu;refine Ax (new_s hN hb hl) fun c hc=>Ax (link_d hN hc.1) fun r hr=>?_;obtain ⟨⟨h1,h2,h3⟩,hcur⟩:=hr;rw [Ll hN (by omega) (by omega),Option.bind_some];simp only;have hpl:=Tq r.1;refine Cl (fun c1=>?_) (fun c1=>?_)
 ·rw [decide_eq_true_eq] at c1;refine Ax (Di (hc.1.at hcur) _) fun x hx=>?_;have x0:=hx.nn;have x1:=hx.lt (by omega);refine Ba ⟨x0,x1⟩ (Ax (Di (hc.1.at hx.cur) _) fun y hy=>?_);have y0:=hy.nn;have y1:=hy.lt (by omega);refine Ba ⟨y0,y1⟩ (Bx ⟨?_,?_⟩)
  ·have:=(Kx (Rp (l:=Bl r.1) (i:=x.1.toNat) (d:=[]) (by omega))).1;simp only; omega
  have:=(Kx (Rp (l:=Bl r.1) (i:=y.1.toNat) (d:=[]) (by omega))).1;simp only; omega
 exact Ax (any10_d hN (hc.1.at hcur)) fun f hf=>Bx ⟨by simp only; omega,by simp only; omega⟩
end
section
variable {N:Nat}
theorem rm_rg (P:List (List (Int×Int))):∀ i,i≤P.length→∀ r∈(rmS P i).1,∀ x∈r,0≤x∧x<(P.length:Int)
 | 0,_=>by simp [rmS]
 | i+1,hi=>fun r hr x hx=>by
  have ih:=rm_rg P i (by omega);rw [rmS] at hr
  cases hc:(rmS P i).2.contains (i:Int) with
  | true=>rw [hc,cnd_true] at hr; exact ih r hr x hx
  | false=>
   rw [hc,cnd_false] at hr;rcases List.mem_append.1 hr with hr | hr
   ·exact ih r hr x hx
   rw [List.mem_singleton] at hr;subst hr;exact (Qo P (show i<P.length by omega)).rg x (by simpa [Yf] using hx)
theorem roomOf_rg (l:Lnk):∀ x∈Lq l,0≤x∧x<((Bl l).length:Int):=by
 unfold Lq
 cases h:(Ch l).find? fun r=>r.contains (idxP (Bl l) l.f.places ((Bl l).length+1) 0) with
 | none=>intro x hx; cases hx
 | some r=>
  have hr:=List.mem_of_find?_eq_some h;unfold Ch at hr
  cases h2:rmOk l with
  | false=>rw [h2,cnd_false] at hr; cases hr
  | true=>rw [h2,cnd_true] at hr; exact rm_rg _ _ (Nat.le_refl _) r hr
theorem roomOf_bad {l:Lnk} (h:Qy l=false):Lq l=[]:=by
 unfold Lq Ch rmOk;rw [h]; rfl
def plcT (P:List (List (Int×Int))) (jn:Int) (r:Int):Int×Int:=(P.getD r.toNat []).getD jn.toNat (0,0)
def hitT (P:List (List (Int×Int))) (jn:Int) (x y:Int) (r:Int):Bool:=(plcT P jn r).1==x&&(plcT P jn r).2==y
theorem contPl_s (hN:4000000≤N) {L:List (Int×Int)} (hL:L.length≤1000) (x:Int×Int):El N L x=some (L.contains x):=by
 have key:∀ (fuel i:Nat),i≤L.length→L.length<fuel+i→(∀ j,j<i→L.getD j (0,0)≠x)→∃ z:Int,Dj N L x (fun (_:Unit)=>some (-1:Int)) fuel (i:Int)=some z∧decide (z≥0)=L.contains x:=by
  intro fuel
  induction fuel with
  | zero=>intro i h1 h2; omega
  | succ fuel ih=>
   intro i h1 h2 h3;rw [Dj];by_cases hi:i<L.length
   ·have hm:L.getD i (0,0)∈L:=by rw [List.getD_eq_getElem?_getD,List.getElem?_eq_getElem hi]; exact List.getElem_mem hi
    rw [Av (by omega),Am (by omega),show ((i:Int)).toNat=i from by omega];by_cases he:L.getD i (0,0)=x
    ·refine ⟨(i:Int),?_,?_⟩
     ·rw [he]; simp [cnd_true]
     rw [decide_eq_true (by omega),←he]; symm; rw [List.contains_eq_mem]; exact decide_eq_true hm
    have hb:((x.1==(L.getD i (0,0)).1)&&(x.2==(L.getD i (0,0)).2))=false:=by
     rw [Bool.eq_false_iff]; intro h;rw [Bool.and_eq_true,beq_iff_eq,beq_iff_eq] at h;exact he (Prod.ext h.1.symm h.2.symm)
    rw [hb,cnd_false,Ci (by omega) (by omega)]
    exact ih (i+1) (by omega) (by omega) fun j hj=>by
     by_cases hj2:j=i
     ·subst hj2; exact he
     exact h3 j (by omega)
   rw [Au (by omega)];refine ⟨-1,O,?_⟩;rw [decide_eq_false (by omega)];symm;rw [Bool.eq_false_iff]; intro h;have hx:x∈L:=by simpa using h
   obtain ⟨j,hj,e⟩:=List.mem_iff_getElem.1 hx;exact h3 j (by omega) (by rw [List.getD_eq_getElem?_getD,List.getElem?_eq_getElem hj]; exact e)
 obtain ⟨z,h1,h2⟩:=key N 0 (by omega) (by omega) (by omega);unfold El Kr;rw [show ((0:Int))=((0:Nat):Int) from rfl,h1,Option.bind_some];rw [show decide (z≥((0:Nat):Int))=decide (z≥0) from rfl,h2]
def ddp (P:List (List (Int×Int))) (jn:Int):List Int→List (Int×Int)→List (Int×Int)
 | [],D=>D
 | r::R,D=>ddp P jn R (cnd (D.contains (plcT P jn r)) D (D++[plcT P jn r]))
theorem ddp_mem (P:List (List (Int×Int))) (jn:Int):∀ (R:List Int) (D:List (Int×Int)) (p:Int×Int),p∈ddp P jn R D↔p∈D∨∃ r∈R,p=plcT P jn r
 | [],D,p=>by simp [ddp]
 | r::R,D,p=>by
  rw [ddp,ddp_mem P jn R]
  cases h:D.contains (plcT P jn r) with
  | true=>
   have hm:plcT P jn r∈D:=by simpa using h
   rw [cnd_true];constructor
   ·rintro (h | ⟨q,h1,h2⟩)
    ·exact .inl h
    exact .inr ⟨q,List.mem_cons_of_mem _ h1,h2⟩
   rintro (h | ⟨q,h1,h2⟩)
   ·exact .inl h
   rcases List.mem_cons.1 h1 with rfl | h1
   ·exact .inl (by rw [h2]; exact hm)
   exact .inr ⟨q,h1,h2⟩
  | false=>
   rw [cnd_false];constructor
   ·rintro (h | ⟨q,h1,h2⟩)
    ·rcases List.mem_append.1 h with h | h
     ·exact .inl h
     exact .inr ⟨r,by simp,by simpa using h⟩
    exact .inr ⟨q,List.mem_cons_of_mem _ h1,h2⟩
   rintro (h | ⟨q,h1,h2⟩)
   ·exact .inl (List.mem_append_left _ h)
   rcases List.mem_cons.1 h1 with rfl | h1
   ·exact .inl (List.mem_append_right _ (by simp [h2]))
   exact .inr ⟨q,h1,h2⟩
theorem ddp_nd (P:List (List (Int×Int))) (jn:Int):∀ (R:List Int) (D:List (Int×Int)),D.Nodup→(ddp P jn R D).Nodup
 | [],D,h=>h
 | r::R,D,h=>by
  rw [ddp]
  cases hc:D.contains (plcT P jn r) with
  | true=>rw [cnd_true]; exact ddp_nd P jn R D h
  | false=>
   rw [cnd_false];have hm:plcT P jn r∉D:=by simpa using hc
   exact ddp_nd P jn R _ (List.nodup_append.2 ⟨h,by simp,fun a ha b hb=>by
    rw [List.mem_singleton] at hb; subst hb
    intro e; exact hm (by rw [←e]; exact ha)⟩)
theorem ddp_len (P:List (List (Int×Int))) (jn:Int):∀ (R:List Int) (D:List (Int×Int)),(ddp P jn R D).length≤D.length+R.length
 | [],D=>by simp [ddp]
 | r::R,D=>by
  rw [ddp];have h:=ddp_len P jn R (cnd (D.contains (plcT P jn r)) D (D++[plcT P jn r]))
  cases hc:D.contains (plcT P jn r) with
  | true=>rw [hc,cnd_true] at h; rw [cnd_true]; simp only [List.length_cons]; omega
  | false=>rw [hc,cnd_false] at h; rw [cnd_false]; simp only [List.length_cons,List.length_append,List.length_nil] at h ⊢; omega
theorem traceI1_s (hN:4000000≤N) {P:List (List (Int×Int))} {b:Bool} {jn:Int} {R:List Int} (hR:R.length≤100) (hr:∀ x∈R,0≤x∧x<(P.length:Int)) (hj:∀ x∈P,0≤jn∧jn<(x.length:Int)) (kk:List (Int×Int)→Option (List (Int×Int))) :
  ∀ (fuel i:Nat) (D:List (Int×Int)),i≤R.length→R.length<fuel+i→D.length≤i→Er N jn (P,b) R kk fuel (D,(i:Int))=kk (ddp P jn (R.drop i) D):=by
 intro fuel
 induction fuel with
 | zero=>intro i D h1 h2; omega
 | succ fuel ih=>
  intro i D h1 h2 h3;rw [Er];by_cases hi:i<R.length
  ·have ed:R.drop i=R.getD i 0::R.drop (i+1):=by
    rw [List.drop_eq_getElem_cons hi,List.getD_eq_getElem?_getD,List.getElem?_eq_getElem hi]; rfl
   have hm:R.getD i 0∈R:=by rw [List.getD_eq_getElem?_getD,List.getElem?_eq_getElem hi]; exact List.getElem_mem hi
   have h4:=hr _ hm;have h5:(R.getD i 0).toNat<P.length:=by omega
   have hmp:P.getD (R.getD i 0).toNat []∈P:=by rw [List.getD_eq_getElem?_getD,List.getElem?_eq_getElem h5]; exact List.getElem_mem h5
   have h6:=hj _ hmp;rw [Av (by omega),Am (by omega),show ((i:Int)).toNat=i from by omega];show grd (0≤R.getD i 0∧R.getD i 0<(P.length:Int)) (grd (0≤jn∧jn<((P.getD (R.getD i 0).toNat []).length:Int)) ((El N D (plcT P jn (R.getD i 0))).bind fun v18=>_))=_;rw [Am h4,Am h6,contPl_s hN (by omega),Option.bind_some,ed,ddp]
   cases hc:D.contains (plcT P jn (R.getD i 0)) with
   | true=>
    rw [Bool.not_true,cnd_false,cnd_true,Ci (by omega) (by omega),Al];exact ih (i+1) D (by omega) (by omega) (by omega)
   | false=>
    rw [Bool.not_false,cnd_true,cnd_false,Am (by omega),Ci (by omega) (by omega),Al];exact ih (i+1) _ (by omega) (by omega) (by simp; omega)
  have e:i=R.length:=by omega
  rw [Au (by omega),e,List.drop_length]; rfl
theorem traceS3_s (hN:4000000≤N) {l:Lnk} {P:List (List (Int×Int))} {b:Bool} {jn:Int} {R:List Int} (hR:R.length≤100) (hr:∀ x∈R,0≤x∧x<(P.length:Int)) (hj:∀ x∈P,x.length=l.f.places.length) (h0:0≤jn∧jn<(l.f.places.length:Int)) (y x:Int) (kk:Bool→Option (List (Int×Int))) :
  ∀ (fuel i:Nat) (f:Bool),i≤R.length→R.length<fuel+i→By N l jn R (P,b) y x kk fuel (f,(i:Int))=kk (f || (R.drop i).any (hitT P jn x y)):=by
 intro fuel
 induction fuel with
 | zero=>intro i f h1 h2; omega
 | succ fuel ih=>
  intro i f h1 h2;rw [By];by_cases hi:i<R.length
  ·have ed:R.drop i=R.getD i 0::R.drop (i+1):=by
    rw [List.drop_eq_getElem_cons hi,List.getD_eq_getElem?_getD,List.getElem?_eq_getElem hi]; rfl
   have hm:R.getD i 0∈R:=by rw [List.getD_eq_getElem?_getD,List.getElem?_eq_getElem hi]; exact List.getElem_mem hi
   have h4:=hr _ hm;have h5:(R.getD i 0).toNat<P.length:=by omega
   have hmp:P.getD (R.getD i 0).toNat []∈P:=by rw [List.getD_eq_getElem?_getD,List.getElem?_eq_getElem h5]; exact List.getElem_mem h5
   have h6:=hj _ hmp;rw [Av (by omega),Av (by omega),Av (by omega),ed,List.any_cons]
   cases f with
   | true=>
    rw [cnd_true,Ci (by omega) (by omega),Al];refine (ih (i+1) true (by omega) (by omega)).trans ?_;simp
   | false=>
    rw [cnd_false,Am (by omega),show ((i:Int)).toNat=i from by omega];show grd (0≤R.getD i 0∧R.getD i 0<(P.length:Int)) (grd (0≤jn∧jn<((P.getD (R.getD i 0).toNat []).length:Int)) (grd (Bg ((i:Int)+1)) (By N l jn R (P,b) y x kk fuel (hitT P jn x y (R.getD i 0),(i:Int)+1))))=_;rw [Am h4,Am (by rw [h6]; exact h0),Ci (by omega) (by omega),Al];refine (ih (i+1) _ (by omega) (by omega)).trans ?_;rw [Bool.false_or]
  have e:i=R.length:=by omega
  rw [Au (by omega),e,List.drop_length]; simp
theorem Aab (hN:4000000≤N) {l:Lnk} {v2:List (List (Int×Int))×Bool} {jn:Int} {R:List Int} (h:R=[]∨¬(0≤jn∧jn<(l.f.places.length:Int))) (y x:Int) (kk:Bool→Option (List (Int×Int))):By N l jn R v2 y x kk N (false,(0:Int))=kk false:=by
 obtain ⟨M,rfl⟩:∃ M,N=M+1:=⟨N-1,by omega⟩;rw [By];rcases h with rfl | h
 ·rfl
 by_cases h1:(0:Int)<(R.length:Int)
 ·rw [Av h1];by_cases h2:jn≥0
  ·rw [Av h2,Au (by omega)]
  rw [Au h2]
 rw [Au h1]
def rowT (y n:Nat):List (Int×Int):=(List.range n).map fun (x:Nat)=>((x:Int),(y:Int))
def Pi (n:Nat):List (Int×Int):=(List.range n).flatMap fun (y:Nat)=>rowT y 5
theorem rowT_succ (y n:Nat):rowT y (n+1)=rowT y n++[((n:Int),(y:Int))]:=by simp [rowT,List.range_succ]
theorem Aag (n:Nat):Pi (n+1)=Pi n++rowT n 5:=by simp [Pi,List.range_succ]
theorem rowT_len (y n:Nat):(rowT y n).length=n:=by simp [rowT]
theorem Yw:∀ n,(Pi n).length=5*n
 | 0=>rfl
 | n+1=>by rw [Aag,List.length_append,Yw n,rowT_len]; omega
theorem traceS2_s (hN:4000000≤N) {l:Lnk} {v2:List (List (Int×Int))×Bool} {jn:Int} {R:List Int} {g:Int×Int→Bool} (h3:∀ (x y:Int) (kk:Bool→Option (List (Int×Int))),By N l jn R v2 y x kk N (false,(0:Int))=kk (g (x,y))) (y:Nat) (kk:List (Int×Int)→Option (List (Int×Int))) {L:List (Int×Int)} (hL:L.length≤100) :
  Ck N l jn R v2 (y:Int) kk N (L,(0:Int))=kk (L++(rowT y 5).filter g):=by
 refine Eq.trans ?_ (fold (N:=N) (len:=5) (σ:=List (Int×Int)) (st:=fun x=>L++(rowT y x).filter g) (F:=fun m s=>Ck N l jn R v2 (y:Int) kk m (s.1,s.2)) (fin:=kk (L++(rowT y 5).filter g)) (by omega) (fun m x hx=>?_) fun m=>?_)
 ·simp [rowT]
 ·show Ck N l jn R v2 (y:Int) kk (m+1) (L++(rowT y x).filter g,(x:Int))=Ck N l jn R v2 (y:Int) kk m (L++(rowT y (x+1)).filter g,((x+1:Nat):Int));have hl:((rowT y x).filter g).length≤5:=Nat.le_trans (List.length_filter_le _ _) (by rw [rowT_len]; omega);rw [Ck,Av (by omega),h3,rowT_succ,List.filter_append];show cnd (g ((x:Int),(y:Int))) _ _=_
  cases hg:g ((x:Int),(y:Int)) with
  | true=>
   rw [cnd_true,Am (by rw [List.length_append]; omega),Ci (by omega) (by omega),Al];have e:[((x:Int),(y:Int))].filter g=[((x:Int),(y:Int))]:=by simp [hg]
   rw [e,List.append_assoc]
  | false=>
   rw [cnd_false,Ci (by omega) (by omega),Al];have e:[((x:Int),(y:Int))].filter g=[]:=by simp [hg]
   rw [e,List.append_nil]
 show Ck N l jn R v2 (y:Int) kk (m+1) (L++(rowT y 5).filter g,((5:Nat):Int))=_;rw [Ck,Au (by omega)]
theorem traceS1_s (hN:4000000≤N) {l:Lnk} {v2:List (List (Int×Int))×Bool} {jn:Int} {R:List Int} {g:Int×Int→Bool} (h3:∀ (x y:Int) (kk:Bool→Option (List (Int×Int))),By N l jn R v2 y x kk N (false,(0:Int))=kk (g (x,y))) (kk:List (Int×Int)→Option (List (Int×Int))) :
  Cu N l jn R v2 kk N ([],(0:Int))=kk ((Pi 5).filter g):=by
 refine Eq.trans ?_ (fold (N:=N) (len:=5) (σ:=List (Int×Int)) (st:=fun y=>(Pi y).filter g) (F:=fun m s=>Cu N l jn R v2 kk m (s.1,s.2)) (fin:=kk ((Pi 5).filter g)) (by omega) (fun m y hy=>?_) fun m=>?_)
 ·simp [Pi]
 ·show Cu N l jn R v2 kk (m+1) ((Pi y).filter g,(y:Int))=Cu N l jn R v2 kk m ((Pi (y+1)).filter g,((y+1:Nat):Int));have hl:((Pi y).filter g).length≤100:=Nat.le_trans (List.length_filter_le _ _) (by rw [Yw]; omega);rw [Cu,Av (by omega),traceS2_s hN h3 y _ hl,Aag,List.filter_append];show grd (Bg ((y:Int)+1)) _=_;rw [Ci (by omega) (by omega),Al]
 show Cu N l jn R v2 kk (m+1) ((Pi 5).filter g,((5:Nat):Int))=_;rw [Cu,Au (by omega)]
theorem gridT_srt:(Pi 5).Pairwise fun a b=>a.2<b.2∨(a.2=b.2∧a.1≤b.1):=by decide
theorem gridT_nd:(Pi 5).Nodup:=by decide
theorem gridT_mem {p:Int×Int} (h:Fc p=true):p∈Pi 5:=by
 have:=Gi h;refine List.mem_flatMap.2 ⟨p.2.toNat,by simp; omega,List.mem_map.2 ⟨p.1.toNat,by simp; omega,?_⟩⟩;exact Prod.ext (by simp; omega) (by simp; omega)
theorem srtQ_srt (l:List (Int×Int)):(srtQ l).Pairwise fun a b=>a.2<b.2∨(a.2=b.2∧a.1≤b.1):=by
 have h:=List.pairwise_mergeSort (le:=fun x y:Int×Int=>!(ltOf cmpQ) y x) (fun a b c h1 h2=>by rw [ltQ] at *; simp at *; omega) (fun a b=>by rw [ltQ,ltQ]; simp; omega) l;refine h.imp fun {a b} h=>?_;rw [ltQ] at h;simp at h;omega
theorem trace_eq {P:List (List (Int×Int))} {jn:Int} {R:List Int} (hg:∀ r∈R,Fc (plcT P jn r)=true):srtQ (ddp P jn R [])=(Pi 5).filter fun p=>R.any (hitT P jn p.1 p.2):=by
 refine List.Perm.eq_of_pairwise (le:=fun a b:Int×Int=>a.2<b.2∨(a.2=b.2∧a.1≤b.1)) (fun a b _ _ h1 h2=>Prod.ext (by omega) (by omega)) (srtQ_srt _) (gridT_srt.filter _) ((List.mergeSort_perm _ _).trans ?_);rw [List.perm_ext_iff_of_nodup (ddp_nd P jn R [] List.nodup_nil) (gridT_nd.filter _)];intro p;rw [ddp_mem,List.mem_filter,List.any_eq_true];constructor
 ·rintro (h | ⟨r,h1,rfl⟩)
  ·cases h
  exact ⟨gridT_mem (hg r h1),r,h1,by simp [hitT]⟩
 rintro ⟨_,r,h1,h2⟩;refine .inr ⟨r,h1,?_⟩;simp only [hitT,Bool.and_eq_true,beq_iff_eq] at h2;exact Prod.ext h2.1.symm h2.2.symm
theorem trace_x (hN:4000000≤N) {l:Lnk} (hp:l.f.places.length≤3000000) (hgr:l.ground.length≤3000000) {jn:Int}:∃ r:List (Int×Int),r.length≤100∧Pq N l jn=some r∧Mj N l jn=some r:=by
 have hR:=roomOf_bd l;have hrg:=roomOf_rg l
 have key:∃ g:Int×Int→Bool,(∀ (x y:Int) (kk:Bool→Option (List (Int×Int))),By N l jn (Lq l) (Bl l,Qy l) y x kk N (false,(0:Int))=kk (g (x,y)))∧Mj N l jn=some ((Pi 5).filter g):=by
  unfold Mj;rw [ghasW_s,Option.bind_some,posesI_s hN hp hgr,roomOf_i hN hp hgr,Option.bind_some,Option.bind_some];have hnil:(Pi 5).filter (fun _:Int×Int=>false)=[]:=by simp
  cases hl:Qy l with
  | false=>
   have e:=roomOf_bad hl;refine ⟨fun _=>false,fun x y kk=>Aab hN (.inl e) y x kk,?_⟩;rw [hnil,e]
   cases inB jn 0 (w64 (l.f.g.n-1)) with
   | false=>rfl
   | true=>
    rw [Bool.not_true,cnd_false];obtain ⟨M,rfl⟩:∃ M,N=M+1:=⟨N-1,by omega⟩;rw [Er,Au (by simp)]
    have e5:Fv (M+1) []=some []:=by
     unfold Fv; rw [Am (by simp)]; simp [srtQ]
    rw [e5]; rfl
  | true=>
   obtain ⟨hf,_⟩:=Mg hl;obtain ⟨hgf,h4,h5,_⟩:=Fy hf;have hn:=Kz hgf;rw [w64_id (by omega) (by omega)];by_cases h0:0≤jn∧jn<(l.f.places.length:Int)
   ·refine ⟨fun p=>(Lq l).any (hitT (Bl l) jn p.1 p.2),fun x y kk=>?_,?_⟩
    ·refine (traceS3_s hN hR hrg (fun x hx=>(Kx hx).1) h0 y x kk N 0 false (by omega) (by omega)).trans ?_;rw [Bool.false_or,List.drop_zero]
    rw [show inB jn 0 (l.f.g.n-1)=true from Wt.2 (by omega),Bool.not_true,cnd_false];refine (traceI1_s hN hR hrg (fun x hx=>by rw [(Kx hx).1]; exact h0) _ N 0 [] (by omega) (by omega) (by simp)).trans ?_;rw [List.drop_zero];have hlen:=ddp_len (Bl l) jn (Lq l) [];simp only [List.length_nil,Nat.zero_add] at hlen;unfold Fv;rw [Am (by omega),Option.bind_some,Am (by rw [srtQ_len]),trace_eq];intro r hr;have h6:=hrg r hr;have h7:r.toNat<(Bl l).length:=by omega
    have hmp:(Bl l).getD r.toNat []∈Bl l:=by rw [List.getD_eq_getElem?_getD,List.getElem?_eq_getElem h7]; exact List.getElem_mem h7
    obtain ⟨q1,q2⟩:=Kx hmp;have q3:=((Bool.and_eq_true _ _ ▸ q2).2);simp only [Bool.and_eq_true,decide_eq_true_eq,List.all_eq_true,List.mem_range] at q3;have q4:=q3.2.1 jn.toNat (by omega);exact (Bool.and_eq_true _ _ ▸ q4).1
   refine ⟨fun _=>false,fun x y kk=>Aab hN (.inr h0) y x kk,?_⟩
   rw [hnil,show inB jn 0 (l.f.g.n-1)=false from by
    rw [Bool.eq_false_iff]; intro h; have:=Wt.1 h; omega]
   rfl
 obtain ⟨g,k1,k2⟩:=key;refine ⟨_,?_,?_,k2⟩
 ·exact Nat.le_trans (List.length_filter_le _ _) (by rw [Yw]; omega)
 unfold Pq;rw [roomOf_s hN hp hgr,Option.bind_some,Ll hN hp hgr,Option.bind_some];exact traceS1_s hN k1 _
end
section
open Go.ChangeShapes Go.WideShapes Go.ChangeAt Go.RowKit Go.Deep
section
variable {H:Type} {enc:TypeId×Value→H} {P:Program} {w:World} {spare:Nat→Bool} {held:Bool} {fuel:Nat} {cs:List Value} {x:DataW H×List MemPlace}
theorem open_bytesD {t e:TypeId} (ht:P.underlying t=some (.slice e)) (he:P.underlying e=some (.int .u8)) (hc:P.cellsOf e=1) (h:DataW.trod enc P w 0 spare held fuel t cs=some x) :
  ∃ v l,cs=[v]∧VR M0 R0 w (.ro false (.bytes l)) v∧∀ x∈l,0≤x∧x<256:=by
 obtain ⟨v,rfl,hcap⟩:=trod_cap ht h;rcases open_slice1 ht hc h with ⟨h0,_⟩ | ⟨a,len,cap,m,n,V,D,Pl,h0,hb,hl,hm,hmm,rfl,hx⟩
 ·simp at h0; subst h0;exact ⟨_,[],O,.ro false (.bytes []) _ 0 0 0 (fun _ _=>undef) (Nat.zero_le _) (Nat.le_refl _) (fun h=>absurd h (by simp [Sq.len])) (fun i j d hi=>absurd hi (by simp [Sq.len])) (fun i j d hi=>absurd hi (by simp [Sq.len])),by simp⟩
 simp at h0; subst h0;have hlm:len≤m:=by rw [hmm]; split <;> omega
 have hcell:∀ i,i<len→∃ z:Int,w.cell? (a.add i)=some (.int .u8 z)∧0≤z∧z<256:=fun i hi=>by
  obtain ⟨h1,h2⟩:=hx i (by omega);obtain ⟨z,hz,_,hw⟩:=DataW.trod_int he h2;simp at hz;simp [Lit.wf,IntKind.min,IntKind.max,IntKind.signed,IntKind.bits] at hw;exact ⟨z,by rw [h1,hz],by omega⟩
 obtain ⟨f,hf⟩:=choose_lt hcell;have hlen:((List.range len).map f).length=len:=by simp
 refine ⟨_,(List.range len).map f,O,?_,fun x hx'=>?_⟩
 ·by_cases h0:0<len
  ·have c0:=(hf 0 h0).1;have hs:=cell?_spot c0
   have ha:a=⟨a.block,a.off,none⟩:=by
    have:(a.add 0)=a:=by simp [Addr.add]
    rw [this] at hs; cases a; simp_all
   have hlt:a.block<w.heap.size:=by have:=cell?_lt c0; rwa [add_block] at this
   have hcl:∀ i,i<len→w.cell? ⟨a.block,a.off+i,none⟩=some (.int .u8 (f i)):=fun i hi=>by
    have:=(hf i hi).1;rw [ha,Addr.add_lit] at this;exact this
   have:=VR.ro (M:=M0) (A:=R0) (w:=w) false (.bytes ((List.range len).map f)) (some a) cap a.block a.off (fun i _=>.int .u8 (f i)) (by simp only [Sq.len,hlen]; omega) (by simp only [Sq.len,hlen]; exact hl) (fun _=>⟨by rw [←ha],hlt,Y⟩) (fun i j d hi hd=>by
     simp only [Sq.len,hlen] at hi;rcases j with _ | j <;> simp [Sq.elem] at hd;simp only [Sq.sz,Nat.mul_one,Nat.add_zero]
     exact hcl i hi) (fun i j d hi hd=>by
     simp only [Sq.len,hlen] at hi;rcases j with _ | j <;> simp [Sq.elem,hi] at hd;subst hd
     exact .val _ O)
   simpa only [Sq.len,hlen] using this
  have:=VR.ro (M:=M0) (A:=R0) (w:=w) false (.bytes ((List.range len).map f)) (some a) cap 0 0 (fun _ _=>undef) (by simp only [Sq.len,hlen]; omega) (by simp only [Sq.len,hlen]; exact hl) (fun h=>absurd h (by simp only [Sq.len,hlen]; exact h0)) (fun i j d hi=>absurd hi (by simp only [Sq.len,hlen]; omega)) (fun i j d hi=>absurd hi (by simp only [Sq.len,hlen]; omega));simpa only [Sq.len,hlen] using this
 obtain ⟨i,hi,rfl⟩:=List.mem_map.1 hx';exact (hf i (by simpa using hi)).2
end
end
end Go.Proofs.YtaipbhnpandbkaaGreat
