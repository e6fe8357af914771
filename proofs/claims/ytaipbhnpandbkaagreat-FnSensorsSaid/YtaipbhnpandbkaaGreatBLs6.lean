/- Texts that the proof needs, put together: G72 G73 G75 G76 Qu Qs. -/
import Derived.Test.YtaipbhnpandbkaaGreatBLs3
import Derived.Test.YtaipbhnpandbkaaGreatBLs4
import Derived.Test.YtaipbhnpandbkaaGreatBLs5
set_option maxRecDepth 20000
set_option maxHeartbeats 1600000
set_option linter.unusedVariables false
set_option linter.unusedSimpArgs false
namespace Go.Proofs.YtaipbhnpandbkaaGreat
section
open Go.RowKit
def Gu (N:Nat) (n_0:Int) (mask_1:Int) (k:(List Int)→Option (List Int)):Nat→((List Int)×Int)→Option (List Int)
 | 0,_=>none
 | n+1,(l5,i6)=>
  cnd (decide (i6<n_0)) (
   grd (0≤i6) <|
   cnd ((Wf (shrI mask_1 i6) (1:Int))==(1:Int)) (
    grd (l5.length+1≤4294967296) <|
    grd (Bc (i6+(1:Int))) <|
    Gu N n_0 mask_1 k n ((l5++([i6]:List Int)),(i6+(1:Int)))) (
    grd (Bc (i6+(1:Int))) <|
    Gu N n_0 mask_1 k n (l5,(i6+(1:Int))))) (
   k l5)
def Wy (N:Nat) (n_0:Int) (mask_1:Int):Option (List Int):=
 Gu N n_0 mask_1 (fun (l3 : List Int) =>
    some l3) N (([]:List Int),(0:Int))
theorem Abg (N:Nat) (n_0:Int) (mask_1:Int) (r:List Int) (h:Wy N n_0 mask_1=some r):PCall Tryz.prog 49 [.int n_0,.int mask_1] [(3,.ints r)] (.row 0 0 r.length):=by
 unfold Wy at h;refine Aj (TT:=TT) tt Tryz.func49 O O Tryz.ntmps49 (congrArg Array.toList Tryz.results49) O O fun w0=>(Ag (Ab (Aa O (Af (Ag (Ab (Gr tt (Ai O) O O O O (Aa O (Af ?_)))))))));refine Ag (Ag (Ab (Aa O (Af (Bz (F:=fun k=>Gu N n_0 mask_1 k) h (α:=List Int) (J:=fun (l3:List Int)=>(⟨[(5,.row 21 0 l3.length)],[(21,some (3,.ints l3))],[]⟩:PS)) ?_ ?_)))))
 ·rintro l3 h;show VC _ _ _ (⟨[(5,.row 21 0 l3.length)],[(21,some (3,.ints l3))],[]⟩:PS);refine Ag (Ab (Aa O (Aa O (Af (Bg ?_)))));show ∃ _,_;cases h;exact ⟨[21],_,O,⟨O,Y⟩,O,.eq O,O⟩
 intro k h;refine Ap (Jq 5 21 3 (.ints []) rfl rfl rfl rfl (Bh (α:=(List Int)×Int) (fun | (l5,i6)=>(⟨[(0,.int n_0),(1,.int mask_1),(5,.row 21 0 l5.length),(6,.int i6)],[(21,some (3,.ints l5))],[]⟩:PS)) (Gu N n_0 mask_1 k) h (En.of ⟨rfl,rfl,rfl,rfl,Y⟩ ⟨rfl,Y⟩ trivial) (fun _=>rfl) ?_));rintro n ⟨l5,i6⟩ h;rw [Gu] at h;show VC _ _ _ (⟨[(0,.int n_0),(1,.int mask_1),(5,.row 21 0 l5.length),(6,.int i6)],[(21,some (3,.ints l5))],[]⟩:PS);refine Ag (Ag (Ab (Aa O (Aa O (Aa O (Af (Ar O (fun hb1=>?_) (fun hb1=>?_))))))))
 ·replace h:=Ak hb1 h;refine Aq (Ag (Ap (Ag (Ab (Aa O (Aa O ?_))))));obtain ⟨hg2,h⟩:=Ac h;refine Ad tt O hg2 (Aa O (Aa O (Af (Ar O (fun hb3=>?_) (fun hb3=>?_)))))
  ·replace h:=Ak hb3 h;refine Ab (Aa O (Aa O (Cr tt O O O O O O O O O O O ?_)));obtain ⟨hg4,h⟩:=Ac h;refine Bt tt O O O O O O O O O O O O O O O O (Nat.le_of_eq (Nat.zero_add _)) hg4 (Aa O (Af (Ab (Aa O ?_))));obtain ⟨hg5,h⟩:=Ac h;refine Ad tt O hg5 (Aa O (Af ?_));show ∃ _,_;exact ⟨((l5++([i6]:List Int)),(i6+(1:Int))),(En.of ⟨O,O,O,O,Y⟩ ⟨O,Y⟩ trivial),h⟩
  replace h:=Al hb3 h;refine Aq (Ab (Aa O ?_));obtain ⟨hg6,h⟩:=Ac h;refine Ad tt O hg6 (Aa O (Af ?_));show ∃ _,_;exact ⟨(l5,(i6+(1:Int))),(En.of ⟨O,O,O,O,Y⟩ ⟨O,Y⟩ trivial),h⟩
 replace h:=Al hb1 h;refine Bp ?_;show ∃ _,_;exact ⟨l5,(En.of ⟨O,Y⟩ ⟨O,Y⟩ trivial),h⟩
def Sc (N:Nat) (k_0:Int) (l_1:Int):Option (Bool):=
 (Wi N k_0 (1:Int) (3:Int)).bind fun v1=>
 cnd v1 (
  cnd (decide (l_1≥(0:Int))) (
   grd (Bc ((2:Int)*k_0)) <|
   some (decide (l_1<((2:Int)*k_0)))) (
   some false)) (
  some false)
theorem Abd (N:Nat) (k_0:Int) (l_1:Int) (r:Bool) (h:Sc N k_0 l_1=some r):PCall Tryz.prog 206 [.int k_0,.int l_1] [] (.bool r):=by
 unfold Sc at h;refine Aj (TT:=TT) tt Tryz.func206 O O Tryz.ntmps206 (congrArg Array.toList Tryz.results206) O O fun w0=>(Ag (Ab (Aa O (Af (Ag (Ab (Aa O ?_)))))));obtain ⟨v1,hc1,h⟩:=Ae h;refine Ba (Vy N k_0 (1:Int) (3:Int) v1 hc1) O O O O O O O O ⟨O,O,O,Y⟩ (Aa O (Be O O O (fun hb2=>?_) (fun hb2=>?_)))
 ·replace h:=Ak hb2 h;iterate 2 refine Av tt O O O O O hb2 O O O Y ?_
  refine Bm O O O O O hb2 O (Aa O (Be O O O (fun hb3=>?_) (fun hb3=>?_)))
  ·replace h:=Ak hb3 h;iterate 2 refine Av tt O O O O O hb3 O O O Y ?_
   obtain ⟨hg4,h⟩:=Ac h;refine Av tt O O O O O hb3 O O O hg4 (Av tt O O O O O hb3 O O O Y (Bm O O O O O hb3 O (Aa O (Af (Bg ?_)))));show ∃ _,_;cases h;exact ⟨[],_,O,Y,O,.eq O,O⟩
  replace h:=Al hb3 h;iterate 4 refine Kq O O O O hb3 O O ?_
  refine Aw O O O O O hb3 O (Aa O (Af (Bg ?_)));show ∃ _,_;cases h;exact ⟨[],_,O,Y,O,.eq O,O⟩
 replace h:=Al hb2 h;iterate 2 refine Kq O O O O hb2 O O ?_
 refine Aw O O O O O hb2 O (Aa O ?_);iterate 4 refine Kq O O O O O O O ?_
 refine Aw O O O O O O O (Aa O (Af (Bg ?_)));show ∃ _,_;cases h;exact ⟨[],_,O,Y,O,.eq O,O⟩
def Ft (N:Nat) (p_0:Pbl) (v_1:Int) (k:Int→Option (Int)):Nat→(Int×Int)→Option (Int)
 | 0,_=>none
 | n+1,(n5,i6)=>
  cnd (decide (i6<(p_0.tails.length:Int))) (
   grd (0≤i6∧i6<(p_0.tails.length:Int)) <|
   cnd ((p_0.tails.getD ((i6).toNat) 0)==v_1) (
    grd (Bc (n5+(1:Int))) <|
    grd (Bc (i6+(1:Int))) <|
    Ft N p_0 v_1 k n ((n5+(1:Int)),(i6+(1:Int)))) (
    grd (Bc (i6+(1:Int))) <|
    Ft N p_0 v_1 k n (n5,(i6+(1:Int))))) (
   k n5)
def Xj (N:Nat) (p_0:Pbl) (v_1:Int):Option (Int):=
 Ft N p_0 v_1 (fun (n3 : Int) =>
    some n3) N ((0:Int),(0:Int))
theorem S_l4Tail_w (N:Nat) (p_0:Pbl) (v_1:Int) (r:Int) (h:Xj N p_0 v_1=some r):PCall Tryz.prog 216 [bD p_0,.int v_1] [] (.int r):=by
 unfold Xj at h;refine Aj (TT:=TT) tt Tryz.func216 O O Tryz.ntmps216 (congrArg Array.toList Tryz.results216) O O fun w0=>(Ag (Ab (Hz O O O O O O O O O (Aa O (Af (Ag (Ab (Aa O (Af ?_)))))))));refine Ag (Ag (Ab (Aa O (Af (Bz (F:=fun k=>Ft N p_0 v_1 k) h (α:=Int) (J:=fun (n3:Int)=>(⟨[(5,.int n3)],[],[]⟩:PS)) ?_ ?_)))))
 ·rintro n3 h;show VC _ _ _ (⟨[(5,.int n3)],[],[]⟩:PS);refine Ag (Ab (Aa O (Aa O (Af (Bg ?_)))));show ∃ _,_;cases h;exact ⟨[],_,O,Y,O,.eq O,O⟩
 intro k h;refine Ap (Bh (α:=Int×Int) (fun | (n5,i6)=>(⟨[(1,.int v_1),(2,.ptr 2 0),(5,.int n5),(6,.int i6)],[],[(2,some [.ro false (.ints p_0.free),.ro false (.ints p_0.tails),.ro false (.ints p_0.placed)])]⟩:PS)) (Ft N p_0 v_1 k) h (En.of ⟨rfl,rfl,rfl,rfl,Y⟩ trivial ⟨rfl,Y⟩) (fun _=>rfl) ?_);rintro n ⟨n5,i6⟩ h;rw [Ft] at h;show VC _ _ _ (⟨[(1,.int v_1),(2,.ptr 2 0),(5,.int n5),(6,.int i6)],[],[(2,some [.ro false (.ints p_0.free),.ro false (.ints p_0.tails),.ro false (.ints p_0.placed)])]⟩:PS);refine Ag (Ag (Ab ?_));iterate 5 refine Aa O ?_
 refine Af (Ar O (fun hb1=>?_) (fun hb1=>?_))
 ·replace h:=Ak hb1 h;refine Aq (Ag (Ap (Ag (Ab (Aa O (Aa O (Aa O ?_)))))));obtain ⟨hg2,h⟩:=Ac h;refine Ad tt O hg2 (Aa O (Aa O (Aa O (Af (Ar O (fun hb3=>?_) (fun hb3=>?_))))))
  ·replace h:=Ak hb3 h;refine Ab (Aa O ?_);obtain ⟨hg4,h⟩:=Ac h;refine Ad tt O hg4 (Aa O (Af (Ab (Aa O ?_))));obtain ⟨hg5,h⟩:=Ac h;refine Ad tt O hg5 (Aa O (Af ?_));show ∃ _,_;exact ⟨((n5+(1:Int)),(i6+(1:Int))),(En.of ⟨O,O,O,O,Y⟩ trivial ⟨O,Y⟩),h⟩
  replace h:=Al hb3 h;refine Aq (Ab (Aa O ?_));obtain ⟨hg6,h⟩:=Ac h;refine Ad tt O hg6 (Aa O (Af ?_));show ∃ _,_;exact ⟨(n5,(i6+(1:Int))),(En.of ⟨O,O,O,O,Y⟩ trivial ⟨O,Y⟩),h⟩
 replace h:=Al hb1 h;refine Bp ?_;show ∃ _,_;exact ⟨n5,(En.of ⟨O,Y⟩ trivial trivial),h⟩
def Hj (N:Nat) (g_0:Grf) (k_1:Int) (p_2:Pbl) (k:Unit→Option (Bool)):Nat→Int→Option (Bool)
 | 0,_=>none
 | n+1,v10=>
  cnd (decide (v10<g_0.n)) (
   grd (0≤v10∧v10<(p_2.free.length:Int)) <|
   cnd (decide ((p_2.free.getD ((v10).toNat) 0)<(0:Int))) (
    some false) (
    (Xj N p_2 v10).bind fun v12=>
    grd (Bc ((p_2.free.getD ((v10).toNat) 0)+v12)) <|
    cnd (((p_2.free.getD ((v10).toNat) 0)+v12) != k_1) (
     some false) (
     grd (Bc (v10+(1:Int))) <|
     Hj N g_0 k_1 p_2 k n (v10+(1:Int))))) (
   k ())
def Ek (N:Nat) (g_0:Grf) (p_2:Pbl) (k:Unit→Option (Bool)):Nat→Int→Option (Bool)
 | 0,_=>none
 | n+1,i14=>
  cnd (decide (i14<(p_2.placed.length:Int))) (
   grd (0≤i14∧i14<(p_2.placed.length:Int)) <|
   cnd (decide ((p_2.placed.getD ((i14).toNat) 0)<(0:Int))) (
    some false) (
    cnd (decide ((p_2.placed.getD ((i14).toNat) 0)≥(g_0.bars.length:Int))) (
     some false) (
     cnd (decide (i14 > (0:Int))) (
      grd (Bc (i14-(1:Int))) <|
      grd (0≤(i14-(1:Int))∧(i14-(1:Int))<(p_2.placed.length:Int)) <|
      cnd (decide ((p_2.placed.getD (((i14-(1:Int))).toNat) 0)≥(p_2.placed.getD ((i14).toNat) 0))) (
       some false) (
       grd (0≤i14∧i14<(p_2.tails.length:Int)) <|
       grd (0≤(p_2.placed.getD ((i14).toNat) 0)∧(p_2.placed.getD ((i14).toNat) 0)<(g_0.bars.length:Int)) <|
       cnd ((p_2.tails.getD ((i14).toNat) 0) != ((g_0.bars.getD (((p_2.placed.getD ((i14).toNat) 0)).toNat) (0,0)).1)) (
        cnd ((p_2.tails.getD ((i14).toNat) 0) != ((g_0.bars.getD (((p_2.placed.getD ((i14).toNat) 0)).toNat) (0,0)).2)) (
         some false) (
         grd (Bc (i14+(1:Int))) <|
         Ek N g_0 p_2 k n (i14+(1:Int)))) (
        grd (Bc (i14+(1:Int))) <|
        Ek N g_0 p_2 k n (i14+(1:Int))))) (
      grd (0≤i14∧i14<(p_2.tails.length:Int)) <|
      grd (0≤(p_2.placed.getD ((i14).toNat) 0)∧(p_2.placed.getD ((i14).toNat) 0)<(g_0.bars.length:Int)) <|
      cnd ((p_2.tails.getD ((i14).toNat) 0) != ((g_0.bars.getD (((p_2.placed.getD ((i14).toNat) 0)).toNat) (0,0)).1)) (
       cnd ((p_2.tails.getD ((i14).toNat) 0) != ((g_0.bars.getD (((p_2.placed.getD ((i14).toNat) 0)).toNat) (0,0)).2)) (
        some false) (
        grd (Bc (i14+(1:Int))) <|
        Ek N g_0 p_2 k n (i14+(1:Int)))) (
       grd (Bc (i14+(1:Int))) <|
       Ek N g_0 p_2 k n (i14+(1:Int))))))) (
   k ())
def Qh (N:Nat) (g_0:Grf) (k_1:Int) (p_2:Pbl):Option (Bool):=
 (Dg N g_0).bind fun v1=>
 cnd (!v1) (
  some false) (
  (Wi N k_1 (1:Int) (3:Int)).bind fun v2=>
  cnd (!v2) (
   some false) (
   cnd ((p_2.free.length:Int) != g_0.n) (
    some false) (
    cnd ((p_2.tails.length:Int) != (p_2.placed.length:Int)) (
     some false) (
     Ek N g_0 p_2 (fun (_ : Unit) =>
        Hj N g_0 k_1 p_2 (fun (_ : Unit) =>
           some true) N (0:Int)) N (0:Int)))))
theorem S_IsPebbles_w (N:Nat) (g_0:Grf) (k_1:Int) (p_2:Pbl) (r:Bool) (h:Qh N g_0 k_1 p_2=some r):PCall Tryz.prog 211 [gD g_0,.int k_1,bD p_2] [] (.bool r):=by
 unfold Qh at h;refine Aj (TT:=TT) tt Tryz.func211 O O Tryz.ntmps211 (congrArg Array.toList Tryz.results211) O O fun w0=>(Ag (Ab ?_));iterate 2 refine Hz O O O O O O O O O ?_
 refine Aa O (Af (Ag (Ag (Ab (Aa O ?_)))));obtain ⟨v1,hc1,h⟩:=Ae h;refine Ba (Ez N g_0 v1 hc1) O O O O O O O O ⟨⟨O,O,Y⟩,Y⟩ (Aa O (Aa O (Be O O O (fun hb2=>?_) (fun hb2=>?_))))
 ·replace h:=Ak hb2 h;iterate 3 refine Hg O O O O hb2 O O ?_
  refine Bm O O O O O hb2 O (Aa O ?_);iterate 6 refine Hg O O O O O O O ?_
  refine Bm O O O O O O O (Aa O ?_);iterate 7 refine Hg O O O O O O O ?_
  refine Bm O O O O O O O (Af (Ce O O (Ag (Ab (Aa O (Af (Bg ?_)))))));show ∃ _,_;cases h;exact ⟨[],_,O,Y,O,.eq O,O⟩
 replace h:=Al hb2 h;refine Av tt O O O O O hb2 O O O Y ?_;obtain ⟨v2,hc3,h⟩:=Ae h;refine Eh (Vy N k_1 (1:Int) (3:Int) v2 hc3) O O O O hb2 O O O O O O O ⟨O,O,O,Y⟩ (Av tt O O O O O hb2 O O O Y (Aw O O O O O hb2 O (Aa O (Be O O O (fun hb4=>?_) (fun hb4=>?_)))))
 ·replace h:=Ak hb4 h;iterate 6 refine Hg O O O O hb4 O O ?_
  refine Bm O O O O O hb4 O (Aa O ?_);iterate 7 refine Hg O O O O O O O ?_
  refine Bm O O O O O O O (Af (Ce O O (Ag (Ab (Aa O (Af (Bg ?_)))))));show ∃ _,_;cases h;exact ⟨[],_,O,Y,O,.eq O,O⟩
 replace h:=Al hb4 h;iterate 6 refine Av tt O O O O O hb4 O O O Y ?_
 refine Aw O O O O O hb4 O (Aa O (Be O O O (fun hb5=>?_) (fun hb5=>?_)))
 ·replace h:=Ak hb5 h;iterate 7 refine Hg O O O O hb5 O O ?_
  refine Bm O O O O O hb5 O (Af (Ce O O (Ag (Ab (Aa O (Af (Bg ?_)))))));show ∃ _,_;cases h;exact ⟨[],_,O,Y,O,.eq O,O⟩
 replace h:=Al hb5 h;iterate 7 refine Av tt O O O O O hb5 O O O Y ?_
 refine Aw O O O O O hb5 O (Af (Ar O (fun hb6=>?_) (fun hb6=>?_)))
 ·replace h:=Ak hb6 h;refine Ag (Ab (Aa O (Af (Bg ?_))));show ∃ _,_;cases h;exact ⟨[],_,O,Y,O,.eq O,O⟩
 replace h:=Al hb6 h;refine Aq (Ag (Ag (Ab (Aa O (Af (Bz (F:=fun k=>Ek N g_0 p_2 k) h (α:=Unit) (J:=fun (_:Unit)=>(⟨[(1,.int k_1),(3,.ptr 3 0),(5,.ptr 5 0)],[],[(3,some [.int g_0.n,.ro false (.pairs g_0.bars)]),(5,some [.ro false (.ints p_2.free),.ro false (.ints p_2.tails),.ro false (.ints p_2.placed)])]⟩:PS)) ?_ ?_))))))
 ·rintro ⟨⟩ h;show VC _ _ _ (⟨[(1,.int k_1),(3,.ptr 3 0),(5,.ptr 5 0)],[],[(3,some [.int g_0.n,.ro false (.pairs g_0.bars)]),(5,some [.ro false (.ints p_2.free),.ro false (.ints p_2.tails),.ro false (.ints p_2.placed)])]⟩:PS);refine Ag (Ag (Ab (Aa O (Af (Bz (F:=fun k=>Hj N g_0 k_1 p_2 k) h (α:=Unit) (J:=fun (_:Unit)=>(⟨[],[],[]⟩:PS)) ?_ ?_)))))
  ·rintro ⟨⟩ h;show VC _ _ _ (⟨[],[],[]⟩:PS);refine Ag (Ab (Aa O (Af (Bg ?_))));show ∃ _,_;cases h;exact ⟨[],_,O,Y,O,.eq O,O⟩
  intro k h;refine Ap (Bh (α:=Int) (fun (v10:Int)=>(⟨[(1,.int k_1),(3,.ptr 3 0),(5,.ptr 5 0),(9,.int v10)],[],[(3,some [.int g_0.n,.ro false (.pairs g_0.bars)]),(5,some [.ro false (.ints p_2.free),.ro false (.ints p_2.tails),.ro false (.ints p_2.placed)])]⟩:PS)) (Hj N g_0 k_1 p_2 k) h (En.of ⟨O,O,O,O,Y⟩ trivial ⟨O,O,Y⟩) (fun _=>O) ?_);rintro n v10 h;rw [Hj] at h;show VC _ _ _ (⟨[(1,.int k_1),(3,.ptr 3 0),(5,.ptr 5 0),(9,.int v10)],[],[(3,some [.int g_0.n,.ro false (.pairs g_0.bars)]),(5,some [.ro false (.ints p_2.free),.ro false (.ints p_2.tails),.ro false (.ints p_2.placed)])]⟩:PS);refine Ag (Ag (Ab ?_));iterate 4 refine Aa O ?_
  refine Af (Ar O (fun hb7=>?_) (fun hb7=>?_))
  ·replace h:=Ak hb7 h;refine Aq (Ag (Ap (Ag (Cu (by kernel_rfl) (by kernel_rfl) ?_))));iterate 3 refine Bq tt O (Ai O) O O O Y ?_
   obtain ⟨hg8,h⟩:=Ac h;refine Bq tt O (Ai O) O O O hg8 ?_;iterate 3 refine Bq tt O (Ai O) O O O Y ?_
   refine Ju O O O (fun hb9=>?_) (fun hb9=>?_)
   ·replace h:=Ak hb9 h;iterate 11 refine Sx O O O O hb9 O O ?_
    refine Fk O (Ai O) O O O hb9 O (Ms (Ce O O (Ag (Ab (Aa O (Af (Bg ?_)))))));show ∃ _,_;cases h;exact ⟨[],_,O,Y,O,.eq O,O⟩
   replace h:=Al hb9 h;iterate 3 refine Bq tt O (Bl O O O O hb9) O O O Y ?_
   refine Bq tt O (Bl O O O O hb9) O O O hg8 ?_;iterate 3 refine Bq tt O (Bl O O O O hb9) O O O Y ?_
   obtain ⟨v12,hc10,h⟩:=Ae h;refine Xh (S_l4Tail_w N p_2 v10 v12 hc10) O (Bl O O O O hb9) O O O O O O ⟨⟨O,O,O,Y⟩,O,Y⟩ ?_;obtain ⟨hg11,h⟩:=Ac h;refine Bq tt O (Bl O O O O hb9) O O O hg11 ?_;iterate 2 refine Bq tt O (Bl O O O O hb9) O O O Y ?_
   refine Ge O (Ai O) O O O hb9 O (Ms (Ar O (fun hb12=>?_) (fun hb12=>?_)))
   ·replace h:=Ak hb12 h;refine Ag (Ab (Aa O (Af (Bg ?_))));show ∃ _,_;cases h;exact ⟨[],_,O,Y,O,.eq O,O⟩
   replace h:=Al hb12 h;refine Aq (Ab (Aa O ?_));obtain ⟨hg13,h⟩:=Ac h;refine Ad tt O hg13 (Aa O (Af ?_));show ∃ _,_;exact ⟨(v10+(1:Int)),(En.of ⟨O,O,O,O,Y⟩ trivial ⟨O,O,Y⟩),h⟩
  replace h:=Al hb7 h;refine Bp ?_;show ∃ _,_;exact ⟨(),(En.of trivial trivial trivial),h⟩
 intro k h;refine Ap (Bh (α:=Int) (fun (i14:Int)=>(⟨[(1,.int k_1),(3,.ptr 3 0),(5,.ptr 5 0),(7,.int i14)],[],[(3,some [.int g_0.n,.ro false (.pairs g_0.bars)]),(5,some [.ro false (.ints p_2.free),.ro false (.ints p_2.tails),.ro false (.ints p_2.placed)])]⟩:PS)) (Ek N g_0 p_2 k) h (En.of ⟨O,O,O,O,Y⟩ trivial ⟨O,O,Y⟩) (fun _=>O) ?_);rintro n i14 h;rw [Ek] at h;show VC _ _ _ (⟨[(1,.int k_1),(3,.ptr 3 0),(5,.ptr 5 0),(7,.int i14)],[],[(3,some [.int g_0.n,.ro false (.pairs g_0.bars)]),(5,some [.ro false (.ints p_2.free),.ro false (.ints p_2.tails),.ro false (.ints p_2.placed)])]⟩:PS);refine Ag (Ag (Ab ?_));iterate 5 refine Aa O ?_
 refine Af (Ar O (fun hb14=>?_) (fun hb14=>?_))
 ·replace h:=Ak hb14 h;refine Aq (Ag (Ap (Ag (Ab (Aa O (Aa O (Aa O ?_)))))));obtain ⟨hg15,h⟩:=Ac h;refine Ad tt O hg15 (Aa O (Aa O (Af (Ag (Cu (by kernel_rfl) (by kernel_rfl) ?_)))));iterate 3 refine Bq tt O (Ai O) O O O Y ?_
  refine Ju O O O (fun hb16=>?_) (fun hb16=>?_)
  ·replace h:=Ak hb16 h;iterate 5 refine Sx O O O O hb16 O O ?_
   refine Fk O (Ai O) O O O hb16 O (Bq tt O (Ai O) O O O Y ?_);iterate 3 refine Sx O O O O O O O ?_
   iterate 8 refine cNoU O O O O O ?_
   refine Sx O O O O O O O (Fk O (Ai O) O O O O O (Bq tt O (Ai O) O O O Y ?_));iterate 13 refine Sx O O O O O O O ?_
   iterate 12 refine cNoU O O O O O ?_
   refine Sx O O O O O O O (Fk O (Ai O) O O O O O (Ms (Ce O O (Ag (Ab (Aa O (Af (Bg ?_))))))));show ∃ _,_;cases h;exact ⟨[],_,O,Y,O,.eq O,O⟩
  replace h:=Al hb16 h;iterate 5 refine Bq tt O (Bl O O O O hb16) O O O Y ?_
  refine Ge O (Ai O) O O O hb16 O (Bq tt O (Ai O) O O O Y (Ju O O O (fun hb17=>?_) (fun hb17=>?_)))
  ·replace h:=Ak hb17 h;iterate 3 refine Sx O O O O hb17 O O ?_
   iterate 8 refine cNoU O O O O O ?_
   refine Sx O O O O hb17 O O (Fk O (Ai O) O O O hb17 O (Bq tt O (Ai O) O O O Y ?_));iterate 13 refine Sx O O O O O O O ?_
   iterate 12 refine cNoU O O O O O ?_
   refine Sx O O O O O O O (Fk O (Ai O) O O O O O (Ms (Ce O O (Ag (Ab (Aa O (Af (Bg ?_))))))));show ∃ _,_;cases h;exact ⟨[],_,O,Y,O,.eq O,O⟩
  replace h:=Al hb17 h;iterate 3 refine Bq tt O (Bl O O O O hb17) O O O Y ?_
  refine Ju O O O (fun hb18=>?_) (fun hb18=>?_)
  ·replace h:=Ak hb18 h;iterate 3 refine Bq tt O (Bl O O O O hb18) O O O Y ?_
   obtain ⟨hg19,h⟩:=Ac h;refine Bq tt O (Bl O O O O hb18) O O O hg19 ?_;obtain ⟨hg20,h⟩:=Ac h;refine Bq tt O (Bl O O O O hb18) O O O hg20 ?_;iterate 3 refine Bq tt O (Bl O O O O hb18) O O O Y ?_
   refine Fk O (Bl O O O O hb17) O O O hb18 O (Ge O (Ai O) O O O hb17 O (Bq tt O (Ai O) O O O Y (Ju O O O (fun hb21=>?_) (fun hb21=>?_))))
   ·replace h:=Ak hb21 h;iterate 13 refine Sx O O O O hb21 O O ?_
    iterate 12 refine cNoU O O O O O ?_
    refine Sx O O O O hb21 O O (Fk O (Ai O) O O O hb21 O (Ms (Ce O O (Ag (Ab (Aa O (Af (Bg ?_))))))));show ∃ _,_;cases h;exact ⟨[],_,O,Y,O,.eq O,O⟩
   replace h:=Al hb21 h;iterate 3 refine Bq tt O (Bl O O O O hb21) O O O Y ?_
   obtain ⟨hg22,h⟩:=Ac h;refine Bq tt O (Bl O O O O hb21) O O O hg22 ?_;iterate 4 refine Bq tt O (Bl O O O O hb21) O O O Y ?_
   obtain ⟨hg23,h⟩:=Ac h;refine Bq tt O (Bl O O O O hb21) O O O hg23 ?_;iterate 4 refine Bq tt O (Bl O O O O hb21) O O O Y ?_
   refine Ju O O O (fun hb24=>?_) (fun hb24=>?_)
   ·replace h:=Ak hb24 h;iterate 3 refine Bq tt O (Bl O O O O hb24) O O O Y ?_
    refine Bq tt O (Bl O O O O hb24) O O O hg22 ?_;iterate 4 refine Bq tt O (Bl O O O O hb24) O O O Y ?_
    refine Bq tt O (Bl O O O O hb24) O O O hg23 ?_;iterate 3 refine Bq tt O (Bl O O O O hb24) O O O Y ?_
    refine Fk O (Bl O O O O hb21) O O O hb24 O (Ge O (Ai O) O O O hb21 O (Ms (Ar O (fun hb25=>?_) (fun hb25=>?_))))
    ·replace h:=Ak hb25 h;refine Ag (Ab (Aa O (Af (Bg ?_))));show ∃ _,_;cases h;exact ⟨[],_,O,Y,O,.eq O,O⟩
    replace h:=Al hb25 h;refine Aq (Ab (Aa O ?_));obtain ⟨hg26,h⟩:=Ac h;refine Ad tt O hg26 (Aa O (Af ?_));show ∃ _,_;exact ⟨(i14+(1:Int)),(En.of ⟨O,O,O,O,Y⟩ trivial ⟨O,O,Y⟩),h⟩
   replace h:=Al hb24 h;iterate 12 refine cNoT O O O O hb24 O O ?_
   refine Ge O (Bl O O O O hb21) O O O hb24 O (Ge O (Ai O) O O O hb21 O (Ms (Cp O O (Aq (Ab (Aa O ?_))))));obtain ⟨hg27,h⟩:=Ac h;refine Ad tt O hg27 (Aa O (Af ?_));show ∃ _,_;exact ⟨(i14+(1:Int)),(En.of ⟨O,O,O,O,Y⟩ trivial ⟨O,O,Y⟩),h⟩
  replace h:=Al hb18 h;iterate 8 refine cNoT O O O O hb18 O O ?_
  refine Ge O (Bl O O O O hb17) O O O hb18 O (Ge O (Ai O) O O O hb17 O (Bq tt O (Ai O) O O O Y ?_));iterate 3 refine Bq tt O (Bl O O O O O) O O O Y ?_
  obtain ⟨hg28,h⟩:=Ac h;refine Bq tt O (Bl O O O O O) O O O hg28 ?_;iterate 4 refine Bq tt O (Bl O O O O O) O O O Y ?_
  obtain ⟨hg29,h⟩:=Ac h;refine Bq tt O (Bl O O O O O) O O O hg29 ?_;iterate 4 refine Bq tt O (Bl O O O O O) O O O Y ?_
  refine Ju O O O (fun hb30=>?_) (fun hb30=>?_)
  ·replace h:=Ak hb30 h;iterate 3 refine Bq tt O (Bl O O O O hb30) O O O Y ?_
   refine Bq tt O (Bl O O O O hb30) O O O hg28 ?_;iterate 4 refine Bq tt O (Bl O O O O hb30) O O O Y ?_
   refine Bq tt O (Bl O O O O hb30) O O O hg29 ?_;iterate 3 refine Bq tt O (Bl O O O O hb30) O O O Y ?_
   refine Fk O (Bl O O O O O) O O O hb30 O (Ge O (Ai O) O O O O O (Ms (Ar O (fun hb31=>?_) (fun hb31=>?_))))
   ·replace h:=Ak hb31 h;refine Ag (Ab (Aa O (Af (Bg ?_))));show ∃ _,_;cases h;exact ⟨[],_,O,Y,O,.eq O,O⟩
   replace h:=Al hb31 h;refine Aq (Ab (Aa O ?_));obtain ⟨hg32,h⟩:=Ac h;refine Ad tt O hg32 (Aa O (Af ?_));show ∃ _,_;exact ⟨(i14+(1:Int)),(En.of ⟨O,O,O,O,Y⟩ trivial ⟨O,O,Y⟩),h⟩
  replace h:=Al hb30 h;iterate 12 refine cNoT O O O O hb30 O O ?_
  refine Ge O (Bl O O O O O) O O O hb30 O (Ge O (Ai O) O O O O O (Ms (Cp O O (Aq (Ab (Aa O ?_))))));obtain ⟨hg33,h⟩:=Ac h;refine Ad tt O hg33 (Aa O (Af ?_));show ∃ _,_;exact ⟨(i14+(1:Int)),(En.of ⟨O,O,O,O,Y⟩ trivial ⟨O,O,Y⟩),h⟩
 replace h:=Al hb14 h;refine Bp ?_;show ∃ _,_;exact ⟨(),(En.of ⟨O,O,O,Y⟩ trivial ⟨O,O,Y⟩),h⟩
def Pu (N:Nat) (g_0:Grf) (k_1:Int) (l_2:Int) (p_3:Pbl) (bar_4:Int):Option (Pbl×Bool):=
 (Qh N g_0 k_1 p_3).bind fun v1=>
 cnd (!v1) (
  (Ji N p_3).bind fun v2=>
  some ((⟨v2.free,v2.tails,v2.placed⟩:Pbl),false)) (
  (Sc N k_1 l_2).bind fun v3=>
  cnd (!v3) (
   (Ji N p_3).bind fun v4=>
   some ((⟨v4.free,v4.tails,v4.placed⟩:Pbl),false)) (
   cnd (decide (bar_4<(0:Int))) (
    (Ji N p_3).bind fun v5=>
    some ((⟨v5.free,v5.tails,v5.placed⟩:Pbl),false)) (
    cnd (decide (bar_4≥(g_0.bars.length:Int))) (
     (Ji N p_3).bind fun v6=>
     some ((⟨v6.free,v6.tails,v6.placed⟩:Pbl),false)) (
     cnd (decide ((p_3.placed.length:Int) > (0:Int))) (
      grd (Bc ((p_3.placed.length:Int)-(1:Int))) <|
      grd (0≤((p_3.placed.length:Int)-(1:Int))∧((p_3.placed.length:Int)-(1:Int))<(p_3.placed.length:Int)) <|
      cnd (decide ((p_3.placed.getD ((((p_3.placed.length:Int)-(1:Int))).toNat) 0)≥bar_4)) (
       (Ji N p_3).bind fun v7=>
       some ((⟨v7.free,v7.tails,v7.placed⟩:Pbl),false)) (
       grd (0≤bar_4∧bar_4<(g_0.bars.length:Int)) <|
       grd (Bc (l_2+(1:Int))) <|
       (Kn N g_0 p_3 ((g_0.bars.getD ((bar_4).toNat) (0,0)).1) ((g_0.bars.getD ((bar_4).toNat) (0,0)).2) (l_2+(1:Int))).bind fun v8=>
       cnd (!v8.2) (
        (Ji N p_3).bind fun v9=>
        some ((⟨v9.free,v9.tails,v9.placed⟩:Pbl),false)) (
        grd (0≤((g_0.bars.getD ((bar_4).toNat) (0,0)).1)∧((g_0.bars.getD ((bar_4).toNat) (0,0)).1)<(v8.1.free.length:Int)) <|
        jn (fun (tail10 : Int) =>
           grd (0≤tail10∧tail10<(v8.1.free.length:Int)) <|
           grd (Bc ((v8.1.free.getD ((tail10).toNat) 0)-(1:Int))) <|
           grd (v8.1.tails.length+1≤4294967296) <|
           grd (v8.1.placed.length+1≤4294967296) <|
           grd (v8.1.free.length=(v8.1.free.set ((tail10).toNat) ((v8.1.free.getD ((tail10).toNat) 0)-(1:Int))).length) <|
           some ((⟨(v8.1.free.set ((tail10).toNat) ((v8.1.free.getD ((tail10).toNat) 0)-(1:Int))),(v8.1.tails++([tail10]:List Int)),(v8.1.placed++([bar_4]:List Int))⟩:Pbl),true)) fun k11=>
         cnd ((v8.1.free.getD (((g_0.bars.getD ((bar_4).toNat) (0,0)).1).toNat) 0)==(0:Int)) (
          k11 ((g_0.bars.getD ((bar_4).toNat) (0,0)).2)) (
          k11 ((g_0.bars.getD ((bar_4).toNat) (0,0)).1))))) (
      grd (0≤bar_4∧bar_4<(g_0.bars.length:Int)) <|
      grd (Bc (l_2+(1:Int))) <|
      (Kn N g_0 p_3 ((g_0.bars.getD ((bar_4).toNat) (0,0)).1) ((g_0.bars.getD ((bar_4).toNat) (0,0)).2) (l_2+(1:Int))).bind fun v12=>
      cnd (!v12.2) (
       (Ji N p_3).bind fun v13=>
       some ((⟨v13.free,v13.tails,v13.placed⟩:Pbl),false)) (
       grd (0≤((g_0.bars.getD ((bar_4).toNat) (0,0)).1)∧((g_0.bars.getD ((bar_4).toNat) (0,0)).1)<(v12.1.free.length:Int)) <|
       jn (fun (tail14 : Int) =>
          grd (0≤tail14∧tail14<(v12.1.free.length:Int)) <|
          grd (Bc ((v12.1.free.getD ((tail14).toNat) 0)-(1:Int))) <|
          grd (v12.1.tails.length+1≤4294967296) <|
          grd (v12.1.placed.length+1≤4294967296) <|
          grd (v12.1.free.length=(v12.1.free.set ((tail14).toNat) ((v12.1.free.getD ((tail14).toNat) 0)-(1:Int))).length) <|
          some ((⟨(v12.1.free.set ((tail14).toNat) ((v12.1.free.getD ((tail14).toNat) 0)-(1:Int))),(v12.1.tails++([tail14]:List Int)),(v12.1.placed++([bar_4]:List Int))⟩:Pbl),true)) fun k15=>
        cnd ((v12.1.free.getD (((g_0.bars.getD ((bar_4).toNat) (0,0)).1).toNat) 0)==(0:Int)) (
         k15 ((g_0.bars.getD ((bar_4).toNat) (0,0)).2)) (
         k15 ((g_0.bars.getD ((bar_4).toNat) (0,0)).1))))))))
theorem S_PlaceBar_w (N:Nat) (g_0:Grf) (k_1:Int) (l_2:Int) (p_3:Pbl) (bar_4:Int) (r:Pbl×Bool) (h:Pu N g_0 k_1 l_2 p_3 bar_4=some r):PCall Tryz.prog 207 [gD g_0,.int k_1,.int l_2,bD p_3,.int bar_4] [(3,.ints r.1.free),(3,.ints r.1.tails),(3,.ints r.1.placed)] (.tup [.agg [.row 0 0 r.1.free.length,.row 1 0 r.1.tails.length,.row 2 0 r.1.placed.length],.bool r.2]):=by
 unfold Pu at h;refine Aj (TT:=TT) tt Tryz.func207 O O Tryz.ntmps207 (congrArg Array.toList Tryz.results207) O O fun w0=>(Ag (Ab ?_));iterate 2 refine Hz O O O O O O O O O ?_
 refine Bi tt O O O O O O O O O (Aa O (Af (Ag (Ag (Ab (Aa O (Aa O (Aa O ?_))))))));obtain ⟨v1,hc1,h⟩:=Ae h;refine Ba (S_IsPebbles_w N g_0 k_1 p_3 v1 hc1) O O O O O O O O ⟨⟨O,O,Y⟩,O,⟨O,O,O,Y⟩,Y⟩ (Aa O (Aa O (Be O O O (fun hb2=>?_) (fun hb2=>?_))))
 ·replace h:=Ak hb2 h;iterate 4 refine Hg O O O O hb2 O O ?_
  refine Bm O O O O O hb2 O (Aa O ?_);iterate 2 refine Hg O O O O O O O ?_
  refine Bm O O O O O O O (Aa O ?_);iterate 5 refine Hg O O O O O O O ?_
  refine Bm O O O O O O O (Aa O ?_);iterate 5 refine Hg O O O O O O O ?_
  iterate 10 refine oNoU O O O O O ?_
  refine Hg O O O O O O O (Bm O O O O O O O (Af (Ce O O (Ag (Ab (Aa O ?_))))));obtain ⟨v2,hc3,h⟩:=Ae h;refine Ba (Kh N p_3 v2 hc3) O O O O O O O O ⟨⟨O,O,O,Y⟩,Y⟩ (Ao tt O O O O O O O O O O O ⟨Y,Y,Y,Y⟩ (Aa O (Af (Bg ?_))));show ∃ _,_;cases h;exact ⟨[1570,1571,1572],_,O,⟨O,O,O,Y⟩,O,.eq O,O⟩
 replace h:=Al hb2 h;iterate 2 refine Av tt O O O O O hb2 O O O Y ?_
 obtain ⟨v3,hc4,h⟩:=Ae h;refine Eh (Abd N k_1 l_2 v3 hc4) O O O O hb2 O O O O O O O ⟨O,O,Y⟩ (Av tt O O O O O hb2 O O O Y (Aw O O O O O hb2 O (Aa O (Be O O O (fun hb5=>?_) (fun hb5=>?_)))))
 ·replace h:=Ak hb5 h;iterate 2 refine Hg O O O O hb5 O O ?_
  refine Bm O O O O O hb5 O (Aa O ?_);iterate 5 refine Hg O O O O O O O ?_
  refine Bm O O O O O O O (Aa O ?_);iterate 5 refine Hg O O O O O O O ?_
  iterate 10 refine oNoU O O O O O ?_
  refine Hg O O O O O O O (Bm O O O O O O O (Af (Ce O O (Ag (Ab (Aa O ?_))))));obtain ⟨v4,hc6,h⟩:=Ae h;refine Ba (Kh N p_3 v4 hc6) O O O O O O O O ⟨⟨O,O,O,Y⟩,Y⟩ (Ao tt O O O O O O O O O O O ⟨Y,Y,Y,Y⟩ (Aa O (Af (Bg ?_))));show ∃ _,_;cases h;exact ⟨[1570,1571,1572],_,O,⟨O,O,O,Y⟩,O,.eq O,O⟩
 replace h:=Al hb5 h;iterate 2 refine Av tt O O O O O hb5 O O O Y ?_
 refine Aw O O O O O hb5 O (Aa O (Be O O O (fun hb7=>?_) (fun hb7=>?_)))
 ·replace h:=Ak hb7 h;iterate 5 refine Hg O O O O hb7 O O ?_
  refine Bm O O O O O hb7 O (Aa O ?_);iterate 5 refine Hg O O O O O O O ?_
  iterate 10 refine oNoU O O O O O ?_
  refine Hg O O O O O O O (Bm O O O O O O O (Af (Ce O O (Ag (Ab (Aa O ?_))))));obtain ⟨v5,hc8,h⟩:=Ae h;refine Ba (Kh N p_3 v5 hc8) O O O O O O O O ⟨⟨O,O,O,Y⟩,Y⟩ (Ao tt O O O O O O O O O O O ⟨Y,Y,Y,Y⟩ (Aa O (Af (Bg ?_))));show ∃ _,_;cases h;exact ⟨[1570,1571,1572],_,O,⟨O,O,O,Y⟩,O,.eq O,O⟩
 replace h:=Al hb7 h;iterate 5 refine Av tt O O O O O hb7 O O O Y ?_
 refine Aw O O O O O hb7 O (Aa O (Be O O O (fun hb9=>?_) (fun hb9=>?_)))
 ·replace h:=Ak hb9 h;iterate 5 refine Hg O O O O hb9 O O ?_
  iterate 10 refine oNoU O O O O O ?_
  refine Hg O O O O hb9 O O (Bm O O O O O hb9 O (Af (Ce O O (Ag (Ab (Aa O ?_))))));obtain ⟨v6,hc10,h⟩:=Ae h;refine Ba (Kh N p_3 v6 hc10) O O O O O O O O ⟨⟨O,O,O,Y⟩,Y⟩ (Ao tt O O O O O O O O O O O ⟨Y,Y,Y,Y⟩ (Aa O (Af (Bg ?_))));show ∃ _,_;cases h;exact ⟨[1570,1571,1572],_,O,⟨O,O,O,Y⟩,O,.eq O,O⟩
 replace h:=Al hb9 h;iterate 5 refine Av tt O O O O O hb9 O O O Y ?_
 refine Be O O O (fun hb11=>?_) (fun hb11=>?_)
 ·replace h:=Ak hb11 h;iterate 5 refine Av tt O O O O O hb11 O O O Y ?_
  obtain ⟨hg12,h⟩:=Ac h;refine Av tt O O O O O hb11 O O O hg12 ?_;obtain ⟨hg13,h⟩:=Ac h;refine Av tt O O O O O hb11 O O O hg13 ?_;iterate 3 refine Av tt O O O O O hb11 O O O Y ?_
  refine Rk O O O O hb9 O O O O hb11 O (Aw O O O O O hb9 O (Af (Ar O (fun hb14=>?_) (fun hb14=>?_))))
  ·replace h:=Ak hb14 h;refine Ag (Ab (Aa O ?_));obtain ⟨v7,hc15,h⟩:=Ae h;refine Ba (Kh N p_3 v7 hc15) O O O O O O O O ⟨⟨O,O,O,Y⟩,Y⟩ (Ao tt O O O O O O O O O O O ⟨Y,Y,Y,Y⟩ (Aa O (Af (Bg ?_))));show ∃ _,_;cases h;exact ⟨[1570,1571,1572],_,O,⟨O,O,O,Y⟩,O,.eq O,O⟩
  replace h:=Al hb14 h;refine Aq (Ag (Ab (Aa O (Aa O (Aa O ?_)))));obtain ⟨hg16,h⟩:=Ac h;refine Ad tt O hg16 (Aa O (Bi tt O O O O O O O O O (Ao tt O O O O O O O O O O O ⟨Y,Y,Y⟩ (Af (Ag (Ab ?_))))));iterate 7 refine Aa O ?_
  obtain ⟨hg17,h⟩:=Ac h;refine Ad tt O hg17 ?_;obtain ⟨v8,hc18,h⟩:=Ae h;refine Ba (Zm N g_0 p_3 ((g_0.bars.getD ((bar_4).toNat) (0,0)).1) ((g_0.bars.getD ((bar_4).toNat) (0,0)).2) (l_2+(1:Int)) v8 hc18) O O O O O O O O ⟨⟨O,O,Y⟩,⟨O,O,O,Y⟩,O,O,O,Y⟩ (Aa O (Aa O (Aa O (Bi tt O O O O O O O O O (Ao tt O O O O O O O O O O O ⟨Y,Y,Y,Y⟩ (Aa O (Af (Ag (Ag ?_)))))))));refine Ab (Aa O (Aa O (Af (Ar O (fun hb19=>?_) (fun hb19=>?_)))))
  ·replace h:=Ak hb19 h;refine Ag (Ab (Aa O ?_));obtain ⟨v9,hc20,h⟩:=Ae h;refine Ba (Kh N p_3 v9 hc20) O O O O O O O O ⟨⟨O,O,O,Y⟩,Y⟩ (Ao tt O O O O O O O O O O O ⟨Y,Y,Y,Y⟩ (Aa O (Af (Bg ?_))));show ∃ _,_;cases h;exact ⟨[1780,1781,1782],_,O,⟨O,O,O,Y⟩,O,.eq O,O⟩
  replace h:=Al hb19 h;refine Aq (Ag (Ab (Aa O (Aa O (Aa O (Af (Ag (Ag (Ab ?_)))))))));iterate 4 refine Aa O ?_
  obtain ⟨hg21,h⟩:=Ac h;refine Ad tt O hg21 (Ad tt O hg21 (Aa O (Af (vJoinN h (α:=Int) (J:=fun (tail10:Int)=>(⟨[(4,.int bar_4),(10,.ptr 10 0),(13,.ptr 13 0),(15,.int tail10)],[(1720,some (3,.ints v8.1.free)),(1721,some (3,.ints v8.1.tails)),(1722,some (3,.ints v8.1.placed))],[(10,some [.nil,.nil,.nil]),(13,some [.row 1720 0 v8.1.free.length,.row 1721 0 v8.1.tails.length,.row 1722 0 v8.1.placed.length])]⟩:PS)) ?_ ?_))))
  ·rintro tail10 h;show VC _ _ _ (⟨[(4,.int bar_4),(10,.ptr 10 0),(13,.ptr 13 0),(15,.int tail10)],[(1720,some (3,.ints v8.1.free)),(1721,some (3,.ints v8.1.tails)),(1722,some (3,.ints v8.1.placed))],[(10,some [.nil,.nil,.nil]),(13,some [.row 1720 0 v8.1.free.length,.row 1721 0 v8.1.tails.length,.row 1722 0 v8.1.placed.length])]⟩:PS);refine Ag (Dn 9 [] [0,1,0,0,8,0,56,120,248,511,1023] (by kernel_rfl) (by kernel_rfl) (by kernel_rfl) (by kernel_rfl) (by kernel_rfl) O (by rfl) ?_);iterate 6 refine Fy tt O (Ai O) O O O O O Y ?_
   obtain ⟨hg22,h⟩:=Ac h;iterate 2 refine Fy tt O (Ai O) O O O O O hg22 ?_
   obtain ⟨hg23,h⟩:=Ac h;refine Fy tt O (Ai O) O O O O O hg23 (Tb ?_);show VO _ _ _ _ _;refine Ad tt O hg22 (Ao tt O O O O O O O O O O ⟨_,_,O,hg22.1,hg22.2⟩ ⟨hg22,Y⟩ (Af (Ag (Ab (Aa O (Aa O (Aa O (Cr tt O O O O O O O O O O O ?_))))))));obtain ⟨hg24,h⟩:=Ac h;refine Bt tt O O O O O O O O O O O O O O O O (Nat.le_of_eq (Nat.zero_add _)) hg24 (Aa O (Ao tt O O O O O O O O O O O ⟨Y,Y⟩ (Af (Ag (Ab (Aa O (Aa O (Aa O (Cr tt O O O O O O O O O O O ?_)))))))));obtain ⟨hg25,h⟩:=Ac h;refine Bt tt O O O O O O O O O O O O O O O O (Nat.le_of_eq (Nat.zero_add _)) hg25 (Aa O (Ao tt O O O O O O O O O O O ⟨Y,Y⟩ (Af (Ag (Ab (Aa O (Ao tt O O O O O O O O O O O ⟨Y,Y,Y,Y⟩ (Aa O (Af ?_)))))))));show VC ..;obtain ⟨hg26,h⟩:=Ac h;refine Bg ?_;show ∃ _,_;cases h;exact ⟨[1720,1721,1722],_,O,⟨O,O,O,Y⟩,O,(.eq (by simp only [hg26]; rfl)),O⟩
  intro k11 h;refine Ar O (fun hb27=>?_) (fun hb27=>?_)
  ·replace h:=Ak hb27 h;refine Ab (Aa O (Aa O (Aa O (Af ?_))));show ∃ _,_;exact ⟨(g_0.bars.getD ((bar_4).toNat) (0,0)).2,(En.of ⟨O,O,O,O,Y⟩ ⟨O,O,O,Y⟩ ⟨O,O,Y⟩),h⟩
  replace h:=Al hb27 h;refine Aq ?_;show ∃ _,_;exact ⟨(g_0.bars.getD ((bar_4).toNat) (0,0)).1,(En.of ⟨O,O,O,O,Y⟩ ⟨O,O,O,Y⟩ ⟨O,O,Y⟩),h⟩
 replace h:=Al hb11 h;iterate 10 refine Kq O O O O hb11 O O ?_
 refine Rl O O O O hb9 O O O O hb11 O (Aw O O O O O hb9 O (Af (Cp O O (Aq (Ag (Ab (Aa O (Aa O (Aa O ?_)))))))));obtain ⟨hg28,h⟩:=Ac h;refine Ad tt O hg28 (Aa O (Bi tt O O O O O O O O O (Ao tt O O O O O O O O O O O ⟨Y,Y,Y⟩ (Af (Ag (Ab ?_))))));iterate 7 refine Aa O ?_
 obtain ⟨hg29,h⟩:=Ac h;refine Ad tt O hg29 ?_;obtain ⟨v12,hc30,h⟩:=Ae h;refine Ba (Zm N g_0 p_3 ((g_0.bars.getD ((bar_4).toNat) (0,0)).1) ((g_0.bars.getD ((bar_4).toNat) (0,0)).2) (l_2+(1:Int)) v12 hc30) O O O O O O O O ⟨⟨O,O,Y⟩,⟨O,O,O,Y⟩,O,O,O,Y⟩ (Aa O (Aa O (Aa O (Bi tt O O O O O O O O O (Ao tt O O O O O O O O O O O ⟨Y,Y,Y,Y⟩ (Aa O (Af (Ag (Ag ?_)))))))));refine Ab (Aa O (Aa O (Af (Ar O (fun hb31=>?_) (fun hb31=>?_)))))
 ·replace h:=Ak hb31 h;refine Ag (Ab (Aa O ?_));obtain ⟨v13,hc32,h⟩:=Ae h;refine Ba (Kh N p_3 v13 hc32) O O O O O O O O ⟨⟨O,O,O,Y⟩,Y⟩ (Ao tt O O O O O O O O O O O ⟨Y,Y,Y,Y⟩ (Aa O (Af (Bg ?_))));show ∃ _,_;cases h;exact ⟨[1780,1781,1782],_,O,⟨O,O,O,Y⟩,O,.eq O,O⟩
 replace h:=Al hb31 h;refine Aq (Ag (Ab (Aa O (Aa O (Aa O (Af (Ag (Ag (Ab ?_)))))))));iterate 4 refine Aa O ?_
 obtain ⟨hg33,h⟩:=Ac h;refine Ad tt O hg33 (Ad tt O hg33 (Aa O (Af (vJoinN h (α:=Int) (J:=fun (tail14:Int)=>(⟨[(4,.int bar_4),(10,.ptr 10 0),(13,.ptr 13 0),(15,.int tail14)],[(1720,some (3,.ints v12.1.free)),(1721,some (3,.ints v12.1.tails)),(1722,some (3,.ints v12.1.placed))],[(10,some [.nil,.nil,.nil]),(13,some [.row 1720 0 v12.1.free.length,.row 1721 0 v12.1.tails.length,.row 1722 0 v12.1.placed.length])]⟩:PS)) ?_ ?_))))
 ·rintro tail14 h;show VC _ _ _ (⟨[(4,.int bar_4),(10,.ptr 10 0),(13,.ptr 13 0),(15,.int tail14)],[(1720,some (3,.ints v12.1.free)),(1721,some (3,.ints v12.1.tails)),(1722,some (3,.ints v12.1.placed))],[(10,some [.nil,.nil,.nil]),(13,some [.row 1720 0 v12.1.free.length,.row 1721 0 v12.1.tails.length,.row 1722 0 v12.1.placed.length])]⟩:PS);refine Ag (Dn 9 [] [0,1,0,0,8,0,56,120,248,511,1023] (by kernel_rfl) (by kernel_rfl) (by kernel_rfl) (by kernel_rfl) (by kernel_rfl) O (by rfl) ?_);iterate 6 refine Fy tt O (Ai O) O O O O O Y ?_
  obtain ⟨hg34,h⟩:=Ac h;iterate 2 refine Fy tt O (Ai O) O O O O O hg34 ?_
  obtain ⟨hg35,h⟩:=Ac h;refine Fy tt O (Ai O) O O O O O hg35 (Tb ?_);show VO _ _ _ _ _;refine Ad tt O hg34 (Ao tt O O O O O O O O O O ⟨_,_,O,hg34.1,hg34.2⟩ ⟨hg34,Y⟩ (Af (Ag (Ab (Aa O (Aa O (Aa O (Cr tt O O O O O O O O O O O ?_))))))));obtain ⟨hg36,h⟩:=Ac h;refine Bt tt O O O O O O O O O O O O O O O O (Nat.le_of_eq (Nat.zero_add _)) hg36 (Aa O (Ao tt O O O O O O O O O O O ⟨Y,Y⟩ (Af (Ag (Ab (Aa O (Aa O (Aa O (Cr tt O O O O O O O O O O O ?_)))))))));obtain ⟨hg37,h⟩:=Ac h;refine Bt tt O O O O O O O O O O O O O O O O (Nat.le_of_eq (Nat.zero_add _)) hg37 (Aa O (Ao tt O O O O O O O O O O O ⟨Y,Y⟩ (Af (Ag (Ab (Aa O (Ao tt O O O O O O O O O O O ⟨Y,Y,Y,Y⟩ (Aa O (Af ?_)))))))));show VC ..;obtain ⟨hg38,h⟩:=Ac h;refine Bg ?_;show ∃ _,_;cases h;exact ⟨[1720,1721,1722],_,O,⟨O,O,O,Y⟩,O,(.eq (by simp only [hg38]; rfl)),O⟩
 intro k15 h;refine Ar O (fun hb39=>?_) (fun hb39=>?_)
 ·replace h:=Ak hb39 h;refine Ab (Aa O (Aa O (Aa O (Af ?_))));show ∃ _,_;exact ⟨(g_0.bars.getD ((bar_4).toNat) (0,0)).2,(En.of ⟨O,O,O,O,Y⟩ ⟨O,O,O,Y⟩ ⟨O,O,Y⟩),h⟩
 replace h:=Al hb39 h;refine Aq ?_;show ∃ _,_;exact ⟨(g_0.bars.getD ((bar_4).toNat) (0,0)).1,(En.of ⟨O,O,O,O,Y⟩ ⟨O,O,O,Y⟩ ⟨O,O,Y⟩),h⟩
end
section
open Go.RowKit
def Gj (N:Nat) (g_0:Grf) (k_1:Int) (l_2:Int) (k:((List Int)×(List Int)×(List Int))→Option (Pbl×Bool)):Nat→((List Int)×(List Int)×(List Int)×Int)→Option (Pbl×Bool)
 | 0,_=>none
 | n+1,(l29,l30,l31,i32)=>
  cnd (decide (i32<(g_0.bars.length:Int))) (
   (Pu N g_0 k_1 l_2 (⟨l29,l30,l31⟩:Pbl) i32).bind fun v34=>
   grd (Bc (i32+(1:Int))) <|
   Gj N g_0 k_1 l_2 k n (v34.1.free,v34.1.tails,v34.1.placed,(i32+(1:Int)))) (
   k (l29,l30,l31))
def Jz (N:Nat) (g_0:Grf) (k_1:Int) (l_2:Int):Option (Pbl×Bool):=
 (Lh N g_0 k_1).bind fun v1=>
 cnd (!v1.2) (
  some ((⟨([]:List Int),([]:List Int),([]:List Int)⟩:Pbl),false)) (
  (Sc N k_1 l_2).bind fun v2=>
  cnd (!v2) (
   some ((⟨([]:List Int),([]:List Int),([]:List Int)⟩:Pbl),false)) (
   Gj N g_0 k_1 l_2 (fun (x:(List Int)×(List Int)×(List Int))=>
     match x with
     | (l17,l18,l19)=>
      some ((⟨l17,l18,l19⟩:Pbl),true)) N (v1.1.free,([]:List Int),([]:List Int),(0:Int))))
theorem Acm (N:Nat) (g_0:Grf) (k_1:Int) (l_2:Int) (r:Pbl×Bool) (h:Jz N g_0 k_1 l_2=some r):PCall Tryz.prog 199 [gD g_0,.int k_1,.int l_2] [(3,.ints r.1.free),(3,.ints r.1.tails),(3,.ints r.1.placed)] (.tup [.agg [.row 0 0 r.1.free.length,.row 1 0 r.1.tails.length,.row 2 0 r.1.placed.length],.bool r.2]):=by
 unfold Jz at h;refine Aj (TT:=TT) tt Tryz.func199 O O Tryz.ntmps199 (congrArg Array.toList Tryz.results199) O O fun w0=>(Ag (Ab (Hz O O O O O O O O O (Bi tt O O O O O O O O O (Aa O (Af (Ag (Ab (Aa O ?_)))))))));refine Aa O ?_;obtain ⟨v1,hc1,h⟩:=Ae h;refine Ba (Acs N g_0 k_1 v1 hc1) O O O O O O O O ⟨⟨O,O,Y⟩,O,Y⟩ (Aa O (Aa O (Aa O (Bi tt O O O O O O O O O (Ao tt O O O O O O O O O O O ⟨Y,Y,Y,Y⟩ (Aa O (Af (Ag (Ag ?_)))))))));refine Ab (Aa O (Aa O (Aa O (Be O O O (fun hb2=>?_) (fun hb2=>?_)))))
 ·replace h:=Ak hb2 h;iterate 4 refine Hg O O O O hb2 O O ?_
  refine Bm O O O O O hb2 O (Af (Ce O O (Ag (Ab (Fz (Ai O) (Df Dj O O) O O (Ao tt O O O O O O O O O O O ⟨Y,Y,Y,Y⟩ (Aa O (Af (Kr 6 0 9001 3 (.ints []) O O O O O ?_)))))))));refine Kr 6 1 9002 3 (.ints []) O O O O O (Kr 6 2 9003 3 (.ints []) O O O O O (Bg ?_));show ∃ _,_;cases h;exact ⟨[9001,9002,9003],_,O,⟨O,O,O,Y⟩,O,.eq O,O⟩
 replace h:=Al hb2 h;iterate 2 refine Av tt O O O O O hb2 O O O Y ?_
 obtain ⟨v2,hc3,h⟩:=Ae h;refine Eh (Abd N k_1 l_2 v2 hc3) O O O O hb2 O O O O O O O ⟨O,O,Y⟩ (Av tt O O O O O hb2 O O O Y (Aw O O O O O hb2 O (Af (Ar O (fun hb4=>?_) (fun hb4=>?_)))))
 ·replace h:=Ak hb4 h;refine Ag (Ab (Fz (Ai O) (Df Dj O O) O O (Ao tt O O O O O O O O O O O ⟨Y,Y,Y,Y⟩ (Aa O (Af (Kr 6 0 9001 3 (.ints []) O O O O O (Kr 6 1 9002 3 (.ints []) O O O O O (Kr 6 2 9003 3 (.ints []) O O O O O (Bg ?_)))))))));show ∃ _,_;cases h;exact ⟨[9001,9002,9003],_,O,⟨O,O,O,Y⟩,O,.eq O,O⟩
 replace h:=Al hb4 h;refine Aq (Ag (Ag (Ab (Aa rfl (Af (Bz (F:=fun k=>Gj N g_0 k_1 l_2 k) h (α:=(List Int)×(List Int)×(List Int)) (J:=fun | (l17,l18,l19)=>(⟨[(6,.ptr 6 0),(8,.ptr 8 0)],[(1140,some (3,.ints l17)),(9505,some (3,.ints l18)),(9506,some (3,.ints l19))],[(6,some [.nil,.nil,.nil]),(8,some [.row 1140 0 l17.length,.row 9505 0 l18.length,.row 9506 0 l19.length])]⟩:PS)) ?_ ?_))))))
 ·rintro ⟨l17,l18,l19⟩ h;show VC _ _ _ (⟨[(6,.ptr 6 0),(8,.ptr 8 0)],[(1140,some (3,.ints l17)),(9505,some (3,.ints l18)),(9506,some (3,.ints l19))],[(6,some [.nil,.nil,.nil]),(8,some [.row 1140 0 l17.length,.row 9505 0 l18.length,.row 9506 0 l19.length])]⟩:PS);refine Ag (Ab (Aa O (Ao tt O O O O O O O O O O O ⟨Y,Y,Y,Y⟩ (Aa O (Af (Bg ?_))))));show ∃ _,_;cases h;exact ⟨[1140,9505,9506],_,O,⟨O,O,O,Y⟩,O,.eq O,O⟩
 intro k h;refine Ap (Kr 8 1 9507 3 (.ints []) rfl rfl rfl rfl rfl (Kr 8 2 9508 3 (.ints []) rfl rfl rfl rfl rfl (Bh (α:=(List Int)×(List Int)×(List Int)×Int) (fun | (l29,l30,l31,i32)=>(⟨[(1,.int k_1),(2,.int l_2),(3,.ptr 3 0),(6,.ptr 6 0),(8,.ptr 8 0),(10,.int i32)],[(1140,some (3,.ints l29)),(9507,some (3,.ints l30)),(9508,some (3,.ints l31))],[(3,some [.int g_0.n,.ro false (.pairs g_0.bars)]),(6,some [.nil,.nil,.nil]),(8,some [.row 1140 0 l29.length,.row 9507 0 l30.length,.row 9508 0 l31.length])]⟩:PS)) (Gj N g_0 k_1 l_2 k) h (En.of ⟨rfl,rfl,rfl,rfl,rfl,rfl,Y⟩ ⟨rfl,rfl,rfl,Y⟩ ⟨rfl,rfl,rfl,Y⟩) (fun _=>rfl) ?_)));rintro n ⟨l29,l30,l31,i32⟩ h;rw [Gj] at h;show VC _ _ _ (⟨[(1,.int k_1),(2,.int l_2),(3,.ptr 3 0),(6,.ptr 6 0),(8,.ptr 8 0),(10,.int i32)],[(1140,some (3,.ints l29)),(9507,some (3,.ints l30)),(9508,some (3,.ints l31))],[(3,some [.int g_0.n,.ro false (.pairs g_0.bars)]),(6,some [.nil,.nil,.nil]),(8,some [.row 1140 0 l29.length,.row 9507 0 l30.length,.row 9508 0 l31.length])]⟩:PS);refine Ag (Ag (Ab ?_));iterate 5 refine Aa O ?_
 refine Af (Ar O (fun hb5=>?_) (fun hb5=>?_))
 ·replace h:=Ak hb5 h;refine Aq (Ag (Ap (Ab ?_)));iterate 5 refine Aa O ?_
  obtain ⟨v34,hc6,h⟩:=Ae h;refine Ba (S_PlaceBar_w N g_0 k_1 l_2 (⟨l29,l30,l31⟩:Pbl) i32 v34 hc6) O O O O O O O O ⟨⟨O,O,Y⟩,O,O,⟨(.inl ⟨O,O⟩),(.inl ⟨O,O⟩),(.inl ⟨O,O⟩),Y⟩,O,Y⟩ (Aa O (Aa O (Aa O (Ao tt O O O O O O O O O O O ⟨Y,Y,Y,Y⟩ (Af (Ab (Aa O ?_)))))));obtain ⟨hg7,h⟩:=Ac h;refine Ad tt O hg7 (Aa O (Af ?_));show ∃ _,_;exact ⟨(v34.1.free,v34.1.tails,v34.1.placed,(i32+(1:Int))),(En.ren [1140,9507,9508] [1390,1391,1392] O ⟨.inr O,.inr O,.inr O,.inr O,.inr O,.inr O,Y⟩ ⟨.inr O,.inr O,.inr O,Y⟩ ⟨.inr ⟨_,_,O,O,⟨.inr O,.inr O,Y⟩⟩,.inr ⟨_,_,O,O,⟨.inr O,.inr O,.inr O,Y⟩⟩,.inr ⟨_,_,O,O,⟨.inr O,.inr O,.inr O,Y⟩⟩,Y⟩),h⟩
 replace h:=Al hb5 h;refine Bp ?_;show ∃ _,_;exact ⟨(l29,l30,l31),(En.ren [9505,9506] [9507,9508] O ⟨.inr O,.inr O,Y⟩ ⟨.inr O,.inr O,.inr O,Y⟩ ⟨.inr ⟨_,_,O,O,⟨.inr O,.inr O,.inr O,Y⟩⟩,.inr ⟨_,_,O,O,⟨.inr O,.inr O,.inr O,Y⟩⟩,Y⟩),h⟩
def Lp (N:Nat) (g_0:Grf) (k_1:Int) (l_2:Int):Option (Int):=
 (Jz N g_0 k_1 l_2).bind fun v1=>
 cnd (!v1.2) (
  some (-1:Int)) (
  some (v1.1.placed.length:Int))
theorem Za (N:Nat) (g_0:Grf) (k_1:Int) (l_2:Int) (r:Int) (h:Lp N g_0 k_1 l_2=some r):PCall Tryz.prog 188 [gD g_0,.int k_1,.int l_2] [] (.int r):=by
 unfold Lp at h;refine Aj (TT:=TT) tt Tryz.func188 O O Tryz.ntmps188 (congrArg Array.toList Tryz.results188) O O fun w0=>(Ag (Ab (Hz O O O O O O O O O (Aa O (Af (Ag (Ab (Aa O (Aa O ?_)))))))));refine Aa O ?_;obtain ⟨v1,hc1,h⟩:=Ae h;refine Ba (Acm N g_0 k_1 l_2 v1 hc1) O O O O O O O O ⟨⟨O,O,Y⟩,O,O,Y⟩ (Aa O (Aa O (Aa O (Bi tt O O O O O O O O O (Ao tt O O O O O O O O O O O ⟨Y,Y,Y,Y⟩ (Aa O (Af (Ag (Ag ?_)))))))));refine Ab (Aa O (Aa O (Af (Ar O (fun hb2=>?_) (fun hb2=>?_)))))
 ·replace h:=Ak hb2 h;refine Ag (Ab (Aa O (Af (Bg ?_))));show ∃ _,_;cases h;exact ⟨[],_,O,Y,O,.eq O,O⟩
 replace h:=Al hb2 h;refine Aq (Ag (Ab ?_));iterate 4 refine Aa O ?_
 refine Af (Bg ?_);show ∃ _,_;cases h;exact ⟨[],_,O,Y,O,.eq O,O⟩
def Qd (N:Nat) (g_0:Grf):Option (Int):=
 (Dg N g_0).bind fun v1=>
 cnd (!v1) (
  some (-1:Int)) (
  grd (Bc ((2:Int)*g_0.n)) <|
  grd (Bc (((2:Int)*g_0.n)-(3:Int))) <|
  (Lp N g_0 (2:Int) (3:Int)).bind fun v2=>
  grd (Bc ((max (0:Int) (((2:Int)*g_0.n)-(3:Int)))-v2)) <|
  some ((max (0:Int) (((2:Int)*g_0.n)-(3:Int)))-v2))
theorem S_FreedomOf_w (N:Nat) (g_0:Grf) (r:Int) (h:Qd N g_0=some r):PCall Tryz.prog 164 [gD g_0] [] (.int r):=by
 unfold Qd at h;refine Aj (TT:=TT) tt Tryz.func164 O O Tryz.ntmps164 (congrArg Array.toList Tryz.results164) O O fun w0=>(Ag (Ab (Hz O O O O O O O O O (Aa O (Af (Ag (Ag (Ab (Aa O ?_)))))))));obtain ⟨v1,hc1,h⟩:=Ae h;refine Ba (Ez N g_0 v1 hc1) O O O O O O O O ⟨⟨O,O,Y⟩,Y⟩ (Aa O (Af (Ar O (fun hb2=>?_) (fun hb2=>?_))))
 ·replace h:=Ak hb2 h;refine Ag (Ab (Aa O (Af (Bg ?_))));show ∃ _,_;cases h;exact ⟨[],_,O,Y,O,.eq O,O⟩
 replace h:=Al hb2 h;refine Aq (Ag (Cu (by kernel_rfl) (by kernel_rfl) ?_));iterate 2 refine Bq tt O (Ai O) O O O Y ?_
 obtain ⟨hg3,h⟩:=Ac h;refine Bq tt O (Ai O) O O O hg3 ?_;obtain ⟨hg4,h⟩:=Ac h;refine Bq tt O (Ai O) O O O hg4 ?_;iterate 2 refine Bq tt O (Ai O) O O O Y ?_
 obtain ⟨v2,hc5,h⟩:=Ae h;refine Xh (Za N g_0 (2:Int) (3:Int) v2 hc5) O (Ai O) O O O O O O ⟨⟨O,O,Y⟩,O,O,Y⟩ ?_;obtain ⟨hg6,h⟩:=Ac h;refine Bq tt O (Ai O) O O O hg6 (Bq tt O (Ai O) O O O Y (Ms (Bg ?_)));show ∃ _,_;cases h;exact ⟨[],_,O,Y,O,.eq O,O⟩
def Ls (N:Nat) (g_0:Grf):Option (Bool):=
 (Qd N g_0).bind fun v1=>
 some (v1==(0:Int))
theorem Aa9 (N:Nat) (g_0:Grf) (r:Bool) (h:Ls N g_0=some r):PCall Tryz.prog 131 [gD g_0] [] (.bool r):=by
 unfold Ls at h;refine Aj (TT:=TT) tt Tryz.func131 O O Tryz.ntmps131 (congrArg Array.toList Tryz.results131) O O fun w0=>(Ag (Ab (Hz O O O O O O O O O (Aa O (Af (Ag (Ab (Aa O ?_))))))));obtain ⟨v1,hc1,h⟩:=Ae h;refine Ba (S_FreedomOf_w N g_0 v1 hc1) O O O O O O O O ⟨⟨O,O,Y⟩,Y⟩ (Aa O (Aa O (Af (Bg ?_))));show ∃ _,_;cases h;exact ⟨[],_,O,Y,O,.eq O,O⟩
def Az (N:Nat) (g_0:Grf) (l7:List Int) (k:(List (Int×Int))→Option (Grf)):Nat→((List (Int×Int))×Int)→Option (Grf)
 | 0,_=>none
 | n+1,(l21,i22)=>
  cnd (decide (i22<(g_0.bars.length:Int))) (
   (Dg N g_0).bind fun v24=>
   cnd v24 (
    grd (0≤i22∧i22<(g_0.bars.length:Int)) <|
    grd (0≤((g_0.bars.getD ((i22).toNat) (0,0)).1)∧((g_0.bars.getD ((i22).toNat) (0,0)).1)<((List.replicate (((max (0:Int) (min (8:Int) g_0.n))).toNat) (0:Int)).length:Int)) <|
    grd (0≤((g_0.bars.getD ((i22).toNat) (0,0)).1)∧((g_0.bars.getD ((i22).toNat) (0,0)).1)<(l7.length:Int)) <|
    grd (0≤((g_0.bars.getD ((i22).toNat) (0,0)).2)∧((g_0.bars.getD ((i22).toNat) (0,0)).2)<((List.replicate (((max (0:Int) (min (8:Int) g_0.n))).toNat) (0:Int)).length:Int)) <|
    grd (0≤((g_0.bars.getD ((i22).toNat) (0,0)).2)∧((g_0.bars.getD ((i22).toNat) (0,0)).2)<(l7.length:Int)) <|
    cnd (decide ((l7.getD (((g_0.bars.getD ((i22).toNat) (0,0)).1).toNat) 0)≥(0:Int))) (
     cnd (decide ((l7.getD (((g_0.bars.getD ((i22).toNat) (0,0)).2).toNat) 0)≥(0:Int))) (
      grd (l21.length+1≤4294967296) <|
      grd (Bc (i22+(1:Int))) <|
      Az N g_0 l7 k n ((l21++([((l7.getD (((g_0.bars.getD ((i22).toNat) (0,0)).1).toNat) 0),(l7.getD (((g_0.bars.getD ((i22).toNat) (0,0)).2).toNat) 0))]:List (Int×Int))),(i22+(1:Int)))) (
      grd (Bc (i22+(1:Int))) <|
      Az N g_0 l7 k n (l21,(i22+(1:Int))))) (
     grd (Bc (i22+(1:Int))) <|
     Az N g_0 l7 k n (l21,(i22+(1:Int))))) (
    k l21)) (
   k l21)
def Cm (N:Nat) (g_0:Grf) (set_1:List Int) (k:((List Int)×Int)→Option (Grf)):Nat→((List Int)×Int×Int)→Option (Grf)
 | 0,_=>none
 | n+1,(l27,n28,i29)=>
  cnd (decide (i29<((List.replicate (((max (0:Int) (min (8:Int) g_0.n))).toNat) (0:Int)).length:Int))) (
   grd (0≤i29∧i29<((List.replicate (((max (0:Int) (min (8:Int) g_0.n))).toNat) (0:Int)).length:Int)) <|
   grd (0≤i29∧i29<(l27.length:Int)) <|
   (Qx N set_1 i29).bind fun v31=>
   cnd (!v31) (
    grd (0≤i29∧i29<((l27.set ((i29).toNat) (-1:Int)).length:Int)) <|
    grd (Bc (n28+(1:Int))) <|
    grd (Bc (i29+(1:Int))) <|
    Cm N g_0 set_1 k n (((l27.set ((i29).toNat) (-1:Int)).set ((i29).toNat) n28),(n28+(1:Int)),(i29+(1:Int)))) (
    grd (Bc (i29+(1:Int))) <|
    Cm N g_0 set_1 k n ((l27.set ((i29).toNat) (-1:Int)),n28,(i29+(1:Int))))) (
   k (l27,n28))
def Ct (N:Nat) (g_0:Grf) (set_1:List Int):Option (Grf):=
 grd (0≤(max (0:Int) (min (8:Int) g_0.n))∧(max (0:Int) (min (8:Int) g_0.n))≤4294967296) <|
 Cm N g_0 set_1 (fun (x:(List Int)×Int)=>
   match x with
   | (l7,n8)=>
    Az N g_0 l7 (fun (l16 : List (Int × Int)) =>
       some (⟨n8,l16⟩:Grf)) N (([]:List (Int×Int)),(0:Int))) N ((List.replicate (((max (0:Int) (min (8:Int) g_0.n))).toNat) (0:Int)),(0:Int),(0:Int))
theorem Rr (N:Nat) (g_0:Grf) (set_1:List Int) (r:Grf) (h:Ct N g_0 set_1=some r):PCall Tryz.prog 102 [gD g_0,.ro false (.ints set_1)] [(42,.pairs r.bars)] (.agg [.int r.n,.row 0 0 r.bars.length]):=by
 unfold Ct at h;refine Aj (TT:=TT) tt Tryz.func102 O O Tryz.ntmps102 (congrArg Array.toList Tryz.results102) O O fun w0=>(Ag (Ab (Hz O O O O O O O O O (Bi tt O O O O O O O O O (Af (Ag (Ab ?_)))))));iterate 4 refine Aa O ?_
 obtain ⟨hg1,h⟩:=Ac h;refine oMake tt O O O O O O O O O O O hg1 (Aa O (Af (Ag (Ab (Aa O (Af (Ag (Ag (Ab ?_)))))))));refine Aa rfl (Af (Bz (F:=fun k=>Cm N g_0 set_1 k) h (α:=(List Int)×Int) (J:=fun | (l7,n8)=>(⟨[(2,.ptr 2 0),(4,.ptr 4 0),(5,.row 16 0 ((List.replicate (((max (0:Int) (min (8:Int) g_0.n))).toNat) (0:Int)).length)),(6,.int n8)],[(16,some (3,.ints l7))],[(2,some [.int g_0.n,.ro false (.pairs g_0.bars)]),(4,some [.int (0:Int),.nil])]⟩:PS)) ?_ ?_))
 ·rintro ⟨l7,n8⟩ h;show VC _ _ _ (⟨[(2,.ptr 2 0),(4,.ptr 4 0),(5,.row 16 0 ((List.replicate (((max (0:Int) (min (8:Int) g_0.n))).toNat) (0:Int)).length)),(6,.int n8)],[(16,some (3,.ints l7))],[(2,some [.int g_0.n,.ro false (.pairs g_0.bars)]),(4,some [.int (0:Int),.nil])]⟩:PS);refine Ag (Ab (Aa O (Gr tt (Ai O) O O O O (Fz (Ai O) (Df Cv O O) O O (Bi tt O O O O O O O O O (Ao tt O O O O O O O O O O O ⟨Y,Y,Y⟩ (Af (Ag (Ag ?_)))))))));refine Ab (Aa O (Af (Bz (F:=fun k=>Az N g_0 l7 k) h (α:=List (Int×Int)) (J:=fun (l16:List (Int×Int))=>(⟨[(4,.ptr 4 0),(8,.ptr 8 0)],[(80,some (42,.pairs l16))],[(4,some [.int (0:Int),.nil]),(8,some [.int n8,.row 80 0 l16.length])]⟩:PS)) ?_ ?_)))
  ·rintro l16 h;show VC _ _ _ (⟨[(4,.ptr 4 0),(8,.ptr 8 0)],[(80,some (42,.pairs l16))],[(4,some [.int (0:Int),.nil]),(8,some [.int n8,.row 80 0 l16.length])]⟩:PS);refine Ag (Ab (Aa O (Ao tt O O O O O O O O O O O ⟨Y,Y,Y⟩ (Af (Bg ?_)))));show ∃ _,_;cases h;exact ⟨[80],_,O,⟨O,Y⟩,O,.eq O,O⟩
  intro k h;refine Ap (Kr 8 1 80 42 (.pairs []) rfl rfl rfl rfl rfl (Bh (α:=(List (Int×Int))×Int) (fun | (l21,i22)=>(⟨[(2,.ptr 2 0),(4,.ptr 4 0),(5,.row 16 0 ((List.replicate (((max (0:Int) (min (8:Int) g_0.n))).toNat) (0:Int)).length)),(8,.ptr 8 0),(9,.int i22)],[(16,some (3,.ints l7)),(80,some (42,.pairs l21))],[(2,some [.int g_0.n,.ro false (.pairs g_0.bars)]),(4,some [.int (0:Int),.nil]),(8,some [.int n8,.row 80 0 l21.length])]⟩:PS)) (Az N g_0 l7 k) h (En.of ⟨rfl,rfl,rfl,rfl,rfl,Y⟩ ⟨rfl,rfl,Y⟩ ⟨rfl,rfl,rfl,Y⟩) (fun _=>rfl) ?_));rintro n ⟨l21,i22⟩ h;rw [Az] at h;show VC _ _ _ (⟨[(2,.ptr 2 0),(4,.ptr 4 0),(5,.row 16 0 ((List.replicate (((max (0:Int) (min (8:Int) g_0.n))).toNat) (0:Int)).length)),(8,.ptr 8 0),(9,.int i22)],[(16,some (3,.ints l7)),(80,some (42,.pairs l21))],[(2,some [.int g_0.n,.ro false (.pairs g_0.bars)]),(4,some [.int (0:Int),.nil]),(8,some [.int n8,.row 80 0 l21.length])]⟩:PS);refine Ag (Ag (Ab ?_));iterate 6 refine Aa O ?_
  refine Be O O O (fun hb2=>?_) (fun hb2=>?_)
  ·replace h:=Ak hb2 h;refine Av tt O O O O O hb2 O O O Y ?_;obtain ⟨v24,hc3,h⟩:=Ae h;refine Eh (Ez N g_0 v24 hc3) O O O O hb2 O O O O O O O ⟨⟨O,O,Y⟩,Y⟩ (Bm O O O O O hb2 O (Af (Ar O (fun hb4=>?_) (fun hb4=>?_))))
   ·replace h:=Ak hb4 h;refine Aq (Ag (Ap (Ag (Ab ?_))));iterate 4 refine Aa O ?_
    obtain ⟨hg5,h⟩:=Ac h;refine Ad tt O hg5 (Aa O (Aa O ?_));obtain ⟨hg6,h⟩:=Ac h;refine Ad tt O hg6 ?_;obtain ⟨hg7,h⟩:=Ac h;refine Ad tt O hg7 (Aa O (Af (Ag (Ab ?_))));iterate 4 refine Aa O ?_
    refine Ad tt O hg5 (Aa O (Aa O ?_));obtain ⟨hg8,h⟩:=Ac h;refine Ad tt O hg8 ?_;obtain ⟨hg9,h⟩:=Ac h;refine Ad tt O hg9 (Aa O (Af (Ag (Ab (Aa O (Aa O (Aa O (Be O O O (fun hb10=>?_) (fun hb10=>?_)))))))))
    ·replace h:=Ak hb10 h;iterate 2 refine Av tt O O O O O hb10 O O O Y ?_
     refine Bm O O O O O hb10 O (Af (Ar O (fun hb11=>?_) (fun hb11=>?_)))
     ·replace h:=Ak hb11 h;refine Ab ?_;iterate 4 refine Aa O ?_
      refine Fz (Ai O) (Df Bx O O) O O (Cr tt O O O O O O O O O O O ?_);obtain ⟨hg12,h⟩:=Ac h;refine Bt tt O O O O O O O O O O O O O O O O (Nat.le_of_eq (Nat.zero_add _)) hg12 (Aa O (Ao tt O O O O O O O O O O O ⟨Y,Y⟩ (Af (Ab (Aa O ?_)))));obtain ⟨hg13,h⟩:=Ac h;refine Ad tt O hg13 (Aa O (Af ?_));show ∃ _,_;exact ⟨((l21++([((l7.getD (((g_0.bars.getD ((i22).toNat) (0,0)).1).toNat) 0),(l7.getD (((g_0.bars.getD ((i22).toNat) (0,0)).2).toNat) 0))]:List (Int×Int))),(i22+(1:Int))),(En.of ⟨O,O,O,O,O,Y⟩ ⟨O,O,Y⟩ ⟨O,O,O,Y⟩),h⟩
     replace h:=Al hb11 h;refine Aq (Ab (Aa O ?_));obtain ⟨hg14,h⟩:=Ac h;refine Ad tt O hg14 (Aa O (Af ?_));show ∃ _,_;exact ⟨(l21,(i22+(1:Int))),(En.of ⟨O,O,O,O,O,Y⟩ ⟨O,O,Y⟩ ⟨O,O,O,Y⟩),h⟩
    replace h:=Al hb10 h;iterate 2 refine Kq O O O O hb10 O O ?_
    refine Aw O O O O O hb10 O (Af (Cp O O (Aq (Ab (Aa O ?_)))));obtain ⟨hg15,h⟩:=Ac h;refine Ad tt O hg15 (Aa O (Af ?_));show ∃ _,_;exact ⟨(l21,(i22+(1:Int))),(En.of ⟨O,O,O,O,O,Y⟩ ⟨O,O,Y⟩ ⟨O,O,O,Y⟩),h⟩
   replace h:=Al hb4 h;refine Bp ?_;show ∃ _,_;exact ⟨l21,(En.of ⟨O,O,Y⟩ ⟨O,Y⟩ ⟨O,O,Y⟩),h⟩
  replace h:=Al hb2 h;iterate 2 refine Kq O O O O hb2 O O ?_
  refine Aw O O O O O hb2 O (Af (Cp O O (Bp ?_)));show ∃ _,_;exact ⟨l21,(En.of ⟨O,O,Y⟩ ⟨O,Y⟩ ⟨O,O,Y⟩),h⟩
 intro k h;refine Ap (Bh (α:=(List Int)×Int×Int) (fun | (l27,n28,i29)=>(⟨[(1,.ro false (.ints set_1)),(2,.ptr 2 0),(4,.ptr 4 0),(5,.row 16 0 ((List.replicate (((max (0:Int) (min (8:Int) g_0.n))).toNat) (0:Int)).length)),(6,.int n28),(7,.int i29)],[(16,some (3,.ints l27))],[(2,some [.int g_0.n,.ro false (.pairs g_0.bars)]),(4,some [.int (0:Int),.nil])]⟩:PS)) (Cm N g_0 set_1 k) h (En.of ⟨rfl,rfl,rfl,rfl,rfl,rfl,Y⟩ ⟨rfl,Y⟩ ⟨rfl,rfl,Y⟩) (fun _=>rfl) ?_);rintro n ⟨l27,n28,i29⟩ h;rw [Cm] at h;show VC _ _ _ (⟨[(1,.ro false (.ints set_1)),(2,.ptr 2 0),(4,.ptr 4 0),(5,.row 16 0 ((List.replicate (((max (0:Int) (min (8:Int) g_0.n))).toNat) (0:Int)).length)),(6,.int n28),(7,.int i29)],[(16,some (3,.ints l27))],[(2,some [.int g_0.n,.ro false (.pairs g_0.bars)]),(4,some [.int (0:Int),.nil])]⟩:PS);refine Ag (Ag (Ab ?_));iterate 4 refine Aa O ?_
 refine Af (Ar O (fun hb16=>?_) (fun hb16=>?_))
 ·replace h:=Ak hb16 h;refine Aq (Ag (Ap (Ag (Ab (Aa O (Aa O ?_))))));obtain ⟨hg17,h⟩:=Ac h;refine Ad tt O hg17 ?_;obtain ⟨hg18,h⟩:=Ac h;refine Ao tt O O O O O O O O O O ⟨_,_,O,hg18.1,hg18.2⟩ ⟨hg18,Y⟩ (Af (Ag (Ab (Aa O (Aa O ?_)))));obtain ⟨v31,hc19,h⟩:=Ae h;refine Ba (Qp N set_1 i29 v31 hc19) O O O O O O O O ⟨O,O,Y⟩ (Aa O (Af (Ar O (fun hb20=>?_) (fun hb20=>?_))))
  ·replace h:=Ak hb20 h;refine Ag (Ab (Aa O (Aa O (Aa O (Ad tt O hg17 ?_)))));obtain ⟨hg21,h⟩:=Ac h;refine Ao tt O O O O O O O O O O ⟨_,_,O,hg21.1,hg21.2⟩ ⟨hg21,Y⟩ (Af (Ab (Aa O ?_)));obtain ⟨hg22,h⟩:=Ac h;refine Ad tt O hg22 (Aa O (Af (Ab (Aa O ?_))));obtain ⟨hg23,h⟩:=Ac h;refine Ad tt O hg23 (Aa O (Af ?_));show ∃ _,_;exact ⟨(((l27.set ((i29).toNat) (-1:Int)).set ((i29).toNat) n28),(n28+(1:Int)),(i29+(1:Int))),(En.of ⟨O,O,O,O,O,O,Y⟩ ⟨O,Y⟩ ⟨O,O,Y⟩),h⟩
  replace h:=Al hb20 h;refine Aq (Ab (Aa O ?_));obtain ⟨hg24,h⟩:=Ac h;refine Ad tt O hg24 (Aa O (Af ?_));show ∃ _,_;exact ⟨((l27.set ((i29).toNat) (-1:Int)),n28,(i29+(1:Int))),(En.of ⟨O,O,O,O,O,O,Y⟩ ⟨O,Y⟩ ⟨O,O,Y⟩),h⟩
 replace h:=Al hb16 h;refine Bp ?_;show ∃ _,_;exact ⟨(l27,n28),(En.of ⟨O,O,O,O,Y⟩ ⟨O,Y⟩ ⟨O,O,Y⟩),h⟩
def Fd (N:Nat) (g_0:Grf) (l22:List Bool) (k:(List Int)→Option (List Int)):Nat→((List Int)×Int)→Option (List Int)
 | 0,_=>none
 | n+1,(l27,i28)=>
  cnd (decide (i28<g_0.n)) (
   grd (0≤i28∧i28<((List.replicate ((g_0.n).toNat) (false:Bool)).length:Int)) <|
   grd (0≤i28∧i28<(l22.length:Int)) <|
   cnd (l22.getD ((i28).toNat) false) (
    grd (l27.length+1≤4294967296) <|
    grd (Bc (i28+(1:Int))) <|
    Fd N g_0 l22 k n ((l27++([i28]:List Int)),(i28+(1:Int)))) (
    grd (Bc (i28+(1:Int))) <|
    Fd N g_0 l22 k n (l27,(i28+(1:Int))))) (
   k l27)
def Ha (N:Nat) (g_0:Grf) (k:(List Bool)→Option (List Int)):Nat→((List Bool)×Int)→Option (List Int)
 | 0,_=>none
 | n+1,(l48,i49)=>
  cnd (decide (i49<(g_0.bars.length:Int))) (
   grd (0≤i49∧i49<(g_0.bars.length:Int)) <|
   grd (0≤((g_0.bars.getD ((i49).toNat) (0,0)).1)∧((g_0.bars.getD ((i49).toNat) (0,0)).1)<((List.replicate ((g_0.n).toNat) (false:Bool)).length:Int)) <|
   grd (0≤((g_0.bars.getD ((i49).toNat) (0,0)).1)∧((g_0.bars.getD ((i49).toNat) (0,0)).1)<(l48.length:Int)) <|
   cnd (l48.getD (((g_0.bars.getD ((i49).toNat) (0,0)).1).toNat) false) (
    grd (0≤((g_0.bars.getD ((i49).toNat) (0,0)).2)∧((g_0.bars.getD ((i49).toNat) (0,0)).2)<((List.replicate ((g_0.n).toNat) (false:Bool)).length:Int)) <|
    grd (0≤((g_0.bars.getD ((i49).toNat) (0,0)).2)∧((g_0.bars.getD ((i49).toNat) (0,0)).2)<((l48.set (((g_0.bars.getD ((i49).toNat) (0,0)).1).toNat) true).length:Int)) <|
    grd (Bc (i49+(1:Int))) <|
    Ha N g_0 k n (((l48.set (((g_0.bars.getD ((i49).toNat) (0,0)).1).toNat) true).set (((g_0.bars.getD ((i49).toNat) (0,0)).2).toNat) true),(i49+(1:Int)))) (
    grd (0≤((g_0.bars.getD ((i49).toNat) (0,0)).2)∧((g_0.bars.getD ((i49).toNat) (0,0)).2)<((List.replicate ((g_0.n).toNat) (false:Bool)).length:Int)) <|
    grd (0≤((g_0.bars.getD ((i49).toNat) (0,0)).2)∧((g_0.bars.getD ((i49).toNat) (0,0)).2)<(l48.length:Int)) <|
    cnd (l48.getD (((g_0.bars.getD ((i49).toNat) (0,0)).2).toNat) false) (
     grd (0≤((g_0.bars.getD ((i49).toNat) (0,0)).2)∧((g_0.bars.getD ((i49).toNat) (0,0)).2)<((l48.set (((g_0.bars.getD ((i49).toNat) (0,0)).1).toNat) true).length:Int)) <|
     grd (Bc (i49+(1:Int))) <|
     Ha N g_0 k n (((l48.set (((g_0.bars.getD ((i49).toNat) (0,0)).1).toNat) true).set (((g_0.bars.getD ((i49).toNat) (0,0)).2).toNat) true),(i49+(1:Int)))) (
     grd (Bc (i49+(1:Int))) <|
     Ha N g_0 k n (l48,(i49+(1:Int)))))) (
   k l48)
def Ej (N:Nat) (g_0:Grf) (k:(List Bool)→Option (List Int)):Nat→((List Bool)×Int)→Option (List Int)
 | 0,_=>none
 | n+1,(l36,n37)=>
  cnd (decide (n37<g_0.n)) (
   Ha N g_0 (fun (l46 : List Bool) =>
      grd (Bc (n37+(1:Int))) <|
      Ej N g_0 k n (l46,(n37+(1:Int)))) N (l36,(0:Int))) (
   k l36)
def Qo (N:Nat) (g_0:Grf) (v_1:Int):Option (List Int):=
 (Dg N g_0).bind fun v1=>
 cnd (!v1) (
  some ([]:List Int)) (
  cnd (decide (v_1<(0:Int))) (
   some ([]:List Int)) (
   cnd (decide (v_1≥g_0.n)) (
    some ([]:List Int)) (
    grd (0≤g_0.n∧g_0.n≤4294967296) <|
    grd (0≤v_1∧v_1<((List.replicate ((g_0.n).toNat) (false:Bool)).length:Int)) <|
    Ej N g_0 (fun (l22 : List Bool) =>
       Fd N g_0 l22 (fun (l25 : List Int) =>
          some l25) N (([]:List Int),(0:Int))) N (((List.replicate ((g_0.n).toNat) (false:Bool)).set ((v_1).toNat) true),(0:Int)))))
theorem S_ReachOf_w (N:Nat) (g_0:Grf) (v_1:Int) (r:List Int) (h:Qo N g_0 v_1=some r):PCall Tryz.prog 200 [gD g_0,.int v_1] [(3,.ints r)] (.row 0 0 r.length):=by
 unfold Qo at h;refine Aj (TT:=TT) tt Tryz.func200 O O Tryz.ntmps200 (congrArg Array.toList Tryz.results200) O O fun w0=>(Ag (Ab (Hz O O O O O O O O O (Aa O (Af (Ag (Ab (Gr tt (Ai O) O O O O (Aa O ?_)))))))));refine Af (Ag (Ag (Ab (Aa O ?_))));obtain ⟨v1,hc1,h⟩:=Ae h;refine Ba (Ez N g_0 v1 hc1) O O O O O O O O ⟨⟨O,O,Y⟩,Y⟩ (Aa O (Aa O (Be O O O (fun hb2=>?_) (fun hb2=>?_))))
 ·replace h:=Ak hb2 h;iterate 2 refine Hg O O O O hb2 O O ?_
  refine Bm O O O O O hb2 O (Aa O ?_);iterate 4 refine Hg O O O O O O O ?_
  refine Bm O O O O O O O (Af (Ce O O (Ag (Ab (Aa O (Aa O (Af (Jq 4 9001 3 (.ints []) O O O O (Bg ?_)))))))));show ∃ _,_;cases h;exact ⟨[9001],_,O,⟨O,Y⟩,O,.eq O,O⟩
 replace h:=Al hb2 h;iterate 2 refine Av tt O O O O O hb2 O O O Y ?_
 refine Aw O O O O O hb2 O (Aa O (Be O O O (fun hb3=>?_) (fun hb3=>?_)))
 ·replace h:=Ak hb3 h;iterate 4 refine Hg O O O O hb3 O O ?_
  refine Bm O O O O O hb3 O (Af (Ce O O (Ag (Ab (Aa O (Aa O (Af (Jq 4 9001 3 (.ints []) O O O O (Bg ?_)))))))));show ∃ _,_;cases h;exact ⟨[9001],_,O,⟨O,Y⟩,O,.eq O,O⟩
 replace h:=Al hb3 h;iterate 4 refine Av tt O O O O O hb3 O O O Y ?_
 refine Aw O O O O O hb3 O (Af (Ar O (fun hb4=>?_) (fun hb4=>?_)))
 ·replace h:=Ak hb4 h;refine Ag (Ab (Aa O (Aa O (Af (Jq 4 9001 3 (.ints []) O O O O (Bg ?_))))));show ∃ _,_;cases h;exact ⟨[9001],_,O,⟨O,Y⟩,O,.eq O,O⟩
 replace h:=Al hb4 h;refine Aq (Ag (Ab (Aa O (Aa O ?_))));obtain ⟨hg5,h⟩:=Ac h;refine oMake tt O O O O O O O O O O O hg5 (Aa O (Af (Ag (Ab (Aa O (Aa O ?_))))));obtain ⟨hg6,h⟩:=Ac h;refine Ad tt O hg6 (Ao tt O O O O O O O O O O ⟨_,_,O,hg6.1,hg6.2⟩ ⟨hg6,Y⟩ (Af (Ag (Ag (Ab (Aa O (Af (Bz (F:=fun k=>Ej N g_0 k) h (α:=List Bool) (J:=fun (l22:List Bool)=>(⟨[(2,.ptr 2 0),(5,.nil),(6,.row 27 0 ((List.replicate ((g_0.n).toNat) (false:Bool)).length))],[(27,some (4,.bools l22))],[(2,some [.int g_0.n,.ro false (.pairs g_0.bars)])]⟩:PS)) ?_ ?_))))))))
 ·rintro l22 h;show VC _ _ _ (⟨[(2,.ptr 2 0),(5,.nil),(6,.row 27 0 ((List.replicate ((g_0.n).toNat) (false:Bool)).length))],[(27,some (4,.bools l22))],[(2,some [.int g_0.n,.ro false (.pairs g_0.bars)])]⟩:PS);refine Ag (Ag (Ab (Aa O (Af (Bz (F:=fun k=>Fd N g_0 l22 k) h (α:=List Int) (J:=fun (l25:List Int)=>(⟨[(5,.row 93 0 l25.length)],[(93,some (3,.ints l25))],[]⟩:PS)) ?_ ?_)))))
  ·rintro l25 h;show VC _ _ _ (⟨[(5,.row 93 0 l25.length)],[(93,some (3,.ints l25))],[]⟩:PS);refine Ag (Ab (Aa O (Aa O (Af (Bg ?_)))));show ∃ _,_;cases h;exact ⟨[93],_,O,⟨O,Y⟩,O,.eq O,O⟩
  intro k h;refine Ap (Jq 5 93 3 (.ints []) rfl rfl rfl rfl (Bh (α:=(List Int)×Int) (fun | (l27,i28)=>(⟨[(2,.ptr 2 0),(5,.row 93 0 l27.length),(6,.row 27 0 ((List.replicate ((g_0.n).toNat) (false:Bool)).length)),(9,.int i28)],[(93,some (3,.ints l27)),(27,some (4,.bools l22))],[(2,some [.int g_0.n,.ro false (.pairs g_0.bars)])]⟩:PS)) (Fd N g_0 l22 k) h (En.of ⟨rfl,rfl,rfl,rfl,Y⟩ ⟨rfl,rfl,Y⟩ ⟨rfl,Y⟩) (fun _=>rfl) ?_));rintro n ⟨l27,i28⟩ h;rw [Fd] at h;show VC _ _ _ (⟨[(2,.ptr 2 0),(5,.row 93 0 l27.length),(6,.row 27 0 ((List.replicate ((g_0.n).toNat) (false:Bool)).length)),(9,.int i28)],[(93,some (3,.ints l27)),(27,some (4,.bools l22))],[(2,some [.int g_0.n,.ro false (.pairs g_0.bars)])]⟩:PS);refine Ag (Ag (Ab ?_));iterate 4 refine Aa O ?_
  refine Af (Ar O (fun hb7=>?_) (fun hb7=>?_))
  ·replace h:=Ak hb7 h;refine Aq (Ag (Ap (Ag (Ab (Aa O (Aa O ?_))))));obtain ⟨hg8,h⟩:=Ac h;refine Ad tt O hg8 ?_;obtain ⟨hg9,h⟩:=Ac h;refine Ad tt O hg9 (Af (Ar O (fun hb10=>?_) (fun hb10=>?_)))
   ·replace h:=Ak hb10 h;refine Ab (Aa O (Aa O (Cr tt O O O O O O O O O O O ?_)));obtain ⟨hg11,h⟩:=Ac h;refine Bt tt O O O O O O O O O O O O O O O O (Nat.le_of_eq (Nat.zero_add _)) hg11 (Aa O (Af (Ab (Aa O ?_))));obtain ⟨hg12,h⟩:=Ac h;refine Ad tt O hg12 (Aa O (Af ?_));show ∃ _,_;exact ⟨((l27++([i28]:List Int)),(i28+(1:Int))),(En.of ⟨O,O,O,O,Y⟩ ⟨O,O,Y⟩ ⟨O,Y⟩),h⟩
   replace h:=Al hb10 h;refine Aq (Ab (Aa O ?_));obtain ⟨hg13,h⟩:=Ac h;refine Ad tt O hg13 (Aa O (Af ?_));show ∃ _,_;exact ⟨(l27,(i28+(1:Int))),(En.of ⟨O,O,O,O,Y⟩ ⟨O,O,Y⟩ ⟨O,Y⟩),h⟩
  replace h:=Al hb7 h;refine Bp ?_;show ∃ _,_;exact ⟨l27,(En.of ⟨O,Y⟩ ⟨O,Y⟩ trivial),h⟩
 intro k h;refine Ap (Bh (α:=(List Bool)×Int) (fun | (l36,n37)=>(⟨[(2,.ptr 2 0),(5,.nil),(6,.row 27 0 ((List.replicate ((g_0.n).toNat) (false:Bool)).length)),(7,.int n37)],[(27,some (4,.bools l36))],[(2,some [.int g_0.n,.ro false (.pairs g_0.bars)])]⟩:PS)) (Ej N g_0 k) h (En.of ⟨rfl,rfl,rfl,rfl,Y⟩ ⟨rfl,Y⟩ ⟨rfl,Y⟩) (fun _=>rfl) ?_);rintro n ⟨l36,n37⟩ h;rw [Ej] at h;show VC _ _ _ (⟨[(2,.ptr 2 0),(5,.nil),(6,.row 27 0 ((List.replicate ((g_0.n).toNat) (false:Bool)).length)),(7,.int n37)],[(27,some (4,.bools l36))],[(2,some [.int g_0.n,.ro false (.pairs g_0.bars)])]⟩:PS);refine Ag (Ag (Ab ?_));iterate 4 refine Aa O ?_
 refine Af (Ar O (fun hb14=>?_) (fun hb14=>?_))
 ·replace h:=Ak hb14 h;refine Aq (Ag (Ap (Ag (Ab (Aa O (Af (Bz (F:=fun k=>Ha N g_0 k) h (α:=List Bool) (J:=fun (l46:List Bool)=>(⟨[(2,.ptr 2 0),(5,.nil),(6,.row 27 0 ((List.replicate ((g_0.n).toNat) (false:Bool)).length)),(7,.int n37)],[(27,some (4,.bools l46))],[(2,some [.int g_0.n,.ro false (.pairs g_0.bars)])]⟩:PS)) ?_ ?_)))))))
  ·rintro l46 h;show VC _ _ _ (⟨[(2,.ptr 2 0),(5,.nil),(6,.row 27 0 ((List.replicate ((g_0.n).toNat) (false:Bool)).length)),(7,.int n37)],[(27,some (4,.bools l46))],[(2,some [.int g_0.n,.ro false (.pairs g_0.bars)])]⟩:PS);refine Ab (Aa O ?_);obtain ⟨hg15,h⟩:=Ac h;refine Ad tt O hg15 (Aa O (Af ?_));show ∃ _,_;exact ⟨(l46,(n37+(1:Int))),(En.of ⟨O,O,O,O,Y⟩ ⟨O,Y⟩ ⟨O,Y⟩),h⟩
  intro k h;refine Ap (Bh (α:=(List Bool)×Int) (fun | (l48,i49)=>(⟨[(2,.ptr 2 0),(5,.nil),(6,.row 27 0 ((List.replicate ((g_0.n).toNat) (false:Bool)).length)),(7,.int n37),(8,.int i49)],[(27,some (4,.bools l48))],[(2,some [.int g_0.n,.ro false (.pairs g_0.bars)])]⟩:PS)) (Ha N g_0 k) h (En.of ⟨rfl,rfl,rfl,rfl,rfl,Y⟩ ⟨rfl,Y⟩ ⟨rfl,Y⟩) (fun _=>rfl) ?_);rintro n ⟨l48,i49⟩ h;rw [Ha] at h;show VC _ _ _ (⟨[(2,.ptr 2 0),(5,.nil),(6,.row 27 0 ((List.replicate ((g_0.n).toNat) (false:Bool)).length)),(7,.int n37),(8,.int i49)],[(27,some (4,.bools l48))],[(2,some [.int g_0.n,.ro false (.pairs g_0.bars)])]⟩:PS);refine Ag (Ag (Ab ?_));iterate 5 refine Aa O ?_
  refine Af (Ar O (fun hb16=>?_) (fun hb16=>?_))
  ·replace h:=Ak hb16 h;refine Aq (Ag (Ap (Ag (Ab ?_))));iterate 4 refine Aa O ?_
   obtain ⟨hg17,h⟩:=Ac h;refine Ad tt O hg17 (Aa O (Aa O ?_));obtain ⟨hg18,h⟩:=Ac h;refine Ad tt O hg18 ?_;obtain ⟨hg19,h⟩:=Ac h;refine Ad tt O hg19 (Aa O (Be O O O (fun hb20=>?_) (fun hb20=>?_)))
   ·replace h:=Ak hb20 h;iterate 9 refine Hg O O O O hb20 O O ?_
    refine Bm O O O O O hb20 O (Af (Ce O O (Ag (Ab ?_))));iterate 4 refine Aa O ?_
    refine Ad tt O hg17 (Aa O (Aa O (Ad tt O hg18 (Ao tt O O O O O O O O O O ⟨_,_,O,hg19.1,hg19.2⟩ ⟨hg19,Y⟩ (Af (Ab ?_))))));iterate 4 refine Aa O ?_
    refine Ad tt O hg17 (Aa O (Aa O ?_));obtain ⟨hg21,h⟩:=Ac h;refine Ad tt O hg21 ?_;obtain ⟨hg22,h⟩:=Ac h;refine Ao tt O O O O O O O O O O ⟨_,_,O,hg22.1,hg22.2⟩ ⟨hg22,Y⟩ (Af (Ab (Aa O ?_)));obtain ⟨hg23,h⟩:=Ac h;refine Ad tt O hg23 (Aa O (Af ?_));show ∃ _,_;exact ⟨(((l48.set (((g_0.bars.getD ((i49).toNat) (0,0)).1).toNat) true).set (((g_0.bars.getD ((i49).toNat) (0,0)).2).toNat) true),(i49+(1:Int))),(En.of ⟨O,O,O,O,O,Y⟩ ⟨O,Y⟩ ⟨O,Y⟩),h⟩
   replace h:=Al hb20 h;iterate 4 refine Av tt O O O O O hb20 O O O Y ?_
   refine Av tt O O O O O hb20 O O O hg17 ?_;iterate 2 refine Av tt O O O O O hb20 O O O Y ?_
   obtain ⟨hg24,h⟩:=Ac h;refine Av tt O O O O O hb20 O O O hg24 ?_;obtain ⟨hg25,h⟩:=Ac h;refine Av tt O O O O O hb20 O O O hg25 (Aw O O O O O hb20 O (Af (Ar O (fun hb26=>?_) (fun hb26=>?_))))
   ·replace h:=Ak hb26 h;refine Ag (Ab ?_);iterate 4 refine Aa O ?_
    refine Ad tt O hg17 (Aa O (Aa O (Ad tt O hg18 (Ao tt O O O O O O O O O O ⟨_,_,O,hg19.1,hg19.2⟩ ⟨hg19,Y⟩ (Af (Ab ?_))))));iterate 4 refine Aa O ?_
    refine Ad tt O hg17 (Aa O (Aa O (Ad tt O hg24 ?_)));obtain ⟨hg27,h⟩:=Ac h;refine Ao tt O O O O O O O O O O ⟨_,_,O,hg27.1,hg27.2⟩ ⟨hg27,Y⟩ (Af (Ab (Aa O ?_)));obtain ⟨hg28,h⟩:=Ac h;refine Ad tt O hg28 (Aa O (Af ?_));show ∃ _,_;exact ⟨(((l48.set (((g_0.bars.getD ((i49).toNat) (0,0)).1).toNat) true).set (((g_0.bars.getD ((i49).toNat) (0,0)).2).toNat) true),(i49+(1:Int))),(En.of ⟨O,O,O,O,O,Y⟩ ⟨O,Y⟩ ⟨O,Y⟩),h⟩
   replace h:=Al hb26 h;refine Aq (Ab (Aa O ?_));obtain ⟨hg29,h⟩:=Ac h;refine Ad tt O hg29 (Aa O (Af ?_));show ∃ _,_;exact ⟨(l48,(i49+(1:Int))),(En.of ⟨O,O,O,O,O,Y⟩ ⟨O,Y⟩ ⟨O,Y⟩),h⟩
  replace h:=Al hb16 h;refine Bp ?_;show ∃ _,_;exact ⟨l48,(En.of ⟨O,O,O,O,Y⟩ ⟨O,Y⟩ ⟨O,Y⟩),h⟩
 replace h:=Al hb14 h;refine Bp ?_;show ∃ _,_;exact ⟨l36,(En.of ⟨O,O,O,Y⟩ ⟨O,Y⟩ ⟨O,Y⟩),h⟩
end
section
open Go.RowKit
def Et (N:Nat) (g_0:Grf) (set_1:List Int) (k:(List Int)→Option (Grf)):Nat→((List Int)×Int)→Option (Grf)
 | 0,_=>none
 | n+1,(l12,v13)=>
  cnd (decide (v13<g_0.n)) (
   (Qx N set_1 v13).bind fun v15=>
   cnd (!v15) (
    grd (l12.length+1≤4294967296) <|
    grd (Bc (v13+(1:Int))) <|
    Et N g_0 set_1 k n ((l12++([v13]:List Int)),(v13+(1:Int)))) (
    grd (Bc (v13+(1:Int))) <|
    Et N g_0 set_1 k n (l12,(v13+(1:Int))))) (
   k l12)
def Fg (N:Nat) (g_0:Grf) (set_1:List Int):Option (Grf):=
 Et N g_0 set_1 (fun (l7 : List Int) =>
    (Ct N g_0 l7).bind fun v8=>
    some (⟨v8.n,v8.bars⟩:Grf)) N (([]:List Int),(0:Int))
theorem Acb (N:Nat) (g_0:Grf) (set_1:List Int) (r:Grf) (h:Fg N g_0 set_1=some r):PCall Tryz.prog 52 [gD g_0,.ro false (.ints set_1)] [(42,.pairs r.bars)] (.agg [.int r.n,.row 0 0 r.bars.length]):=by
 unfold Fg at h;refine Aj (TT:=TT) tt Tryz.func52 O O Tryz.ntmps52 (congrArg Array.toList Tryz.results52) O O fun w0=>(Ag (Ab (Hz O O O O O O O O O (Bi tt O O O O O O O O O (Af (Ag (Ab (Gr tt (Ai O) O O O O (Aa O ?_)))))))));refine Af (Ag (Ag (Ab (Aa O (Af (Bz (F:=fun k=>Et N g_0 set_1 k) h (α:=List Int) (J:=fun (l7:List Int)=>(⟨[(2,.ptr 2 0),(4,.ptr 4 0),(5,.row 21 0 l7.length)],[(21,some (3,.ints l7))],[(2,some [.int g_0.n,.ro false (.pairs g_0.bars)]),(4,some [.int (0:Int),.nil])]⟩:PS)) ?_ ?_))))))
 ·rintro l7 h;show VC _ _ _ (⟨[(2,.ptr 2 0),(4,.ptr 4 0),(5,.row 21 0 l7.length)],[(21,some (3,.ints l7))],[(2,some [.int g_0.n,.ro false (.pairs g_0.bars)]),(4,some [.int (0:Int),.nil])]⟩:PS);refine Ag (Ab (Aa O (Aa O ?_)));obtain ⟨v8,hc1,h⟩:=Ae h;refine Ba (Rr N g_0 l7 v8 hc1) O O O O O O O O ⟨⟨O,O,Y⟩,(.inl ⟨O,O⟩),Y⟩ (Ao tt O O O O O O O O O O O ⟨Y,Y,Y⟩ (Af (Bg ?_)));show ∃ _,_;cases h;exact ⟨[1240],_,O,⟨O,Y⟩,O,.eq O,O⟩
 intro k h;refine Ap (Jq 5 21 3 (.ints []) rfl rfl rfl rfl (Bh (α:=(List Int)×Int) (fun | (l12,v13)=>(⟨[(1,.ro false (.ints set_1)),(2,.ptr 2 0),(4,.ptr 4 0),(5,.row 21 0 l12.length),(6,.int v13)],[(21,some (3,.ints l12))],[(2,some [.int g_0.n,.ro false (.pairs g_0.bars)]),(4,some [.int (0:Int),.nil])]⟩:PS)) (Et N g_0 set_1 k) h (En.of ⟨rfl,rfl,rfl,rfl,rfl,Y⟩ ⟨rfl,Y⟩ ⟨rfl,rfl,Y⟩) (fun _=>rfl) ?_));rintro n ⟨l12,v13⟩ h;rw [Et] at h;show VC _ _ _ (⟨[(1,.ro false (.ints set_1)),(2,.ptr 2 0),(4,.ptr 4 0),(5,.row 21 0 l12.length),(6,.int v13)],[(21,some (3,.ints l12))],[(2,some [.int g_0.n,.ro false (.pairs g_0.bars)]),(4,some [.int (0:Int),.nil])]⟩:PS);refine Ag (Ag (Ab ?_));iterate 4 refine Aa O ?_
 refine Af (Ar O (fun hb2=>?_) (fun hb2=>?_))
 ·replace h:=Ak hb2 h;refine Aq (Ag (Ap (Ag (Ab (Aa O (Aa O ?_))))));obtain ⟨v15,hc3,h⟩:=Ae h;refine Ba (Qp N set_1 v13 v15 hc3) O O O O O O O O ⟨O,O,Y⟩ (Aa O (Af (Ar O (fun hb4=>?_) (fun hb4=>?_))))
  ·replace h:=Ak hb4 h;refine Ab (Aa O (Aa O (Cr tt O O O O O O O O O O O ?_)));obtain ⟨hg5,h⟩:=Ac h;refine Bt tt O O O O O O O O O O O O O O O O (Nat.le_of_eq (Nat.zero_add _)) hg5 (Aa O (Af (Ab (Aa O ?_))));obtain ⟨hg6,h⟩:=Ac h;refine Ad tt O hg6 (Aa O (Af ?_));show ∃ _,_;exact ⟨((l12++([v13]:List Int)),(v13+(1:Int))),(En.of ⟨O,O,O,O,O,Y⟩ ⟨O,Y⟩ ⟨O,O,Y⟩),h⟩
  replace h:=Al hb4 h;refine Aq (Ab (Aa O ?_));obtain ⟨hg7,h⟩:=Ac h;refine Ad tt O hg7 (Aa O (Af ?_));show ∃ _,_;exact ⟨(l12,(v13+(1:Int))),(En.of ⟨O,O,O,O,O,Y⟩ ⟨O,Y⟩ ⟨O,O,Y⟩),h⟩
 replace h:=Al hb2 h;refine Bp ?_;show ∃ _,_;exact ⟨l12,(En.of ⟨O,O,O,Y⟩ ⟨O,Y⟩ ⟨O,O,Y⟩),h⟩
def Gt (N:Nat) (mask_0:Int) (n_1:Int) (k:(List Int)→Option (List Int)):Nat→((List Int)×Int)→Option (List Int)
 | 0,_=>none
 | n+1,(l5,x6)=>
  cnd (decide (x6<n_1)) (
   grd (0≤x6) <|
   cnd ((Wf (shrI mask_0 x6) (1:Int))==(1:Int)) (
    grd (l5.length+1≤4294967296) <|
    grd (Bc (x6+(1:Int))) <|
    Gt N mask_0 n_1 k n ((l5++([x6]:List Int)),(x6+(1:Int)))) (
    grd (Bc (x6+(1:Int))) <|
    Gt N mask_0 n_1 k n (l5,(x6+(1:Int))))) (
   k l5)
def Qj (N:Nat) (mask_0:Int) (n_1:Int):Option (List Int):=
 Gt N mask_0 n_1 (fun (l3 : List Int) =>
    some l3) N (([]:List Int),(0:Int))
theorem Yh (N:Nat) (mask_0:Int) (n_1:Int) (r:List Int) (h:Qj N mask_0 n_1=some r):PCall Tryz.prog 45 [.int mask_0,.int n_1] [(3,.ints r)] (.row 0 0 r.length):=by
 unfold Qj at h;refine Aj (TT:=TT) tt Tryz.func45 O O Tryz.ntmps45 (congrArg Array.toList Tryz.results45) O O fun w0=>(Ag (Ab (Aa O (Af (Ag (Ab (Gr tt (Ai O) O O O O (Aa O (Af ?_)))))))));refine Ag (Ag (Ab (Aa O (Aa O (Af (Bz (F:=fun k=>Gt N mask_0 n_1 k) h (α:=List Int) (J:=fun (l3:List Int)=>(⟨[(5,.row 20 0 l3.length)],[(20,some (3,.ints l3))],[]⟩:PS)) ?_ ?_))))))
 ·rintro l3 h;show VC _ _ _ (⟨[(5,.row 20 0 l3.length)],[(20,some (3,.ints l3))],[]⟩:PS);refine Ag (Ab (Aa O (Aa O (Af (Bg ?_)))));show ∃ _,_;cases h;exact ⟨[20],_,O,⟨O,Y⟩,O,.eq O,O⟩
 intro k h;refine Ap (Jq 5 20 3 (.ints []) rfl rfl rfl rfl (Bh (α:=(List Int)×Int) (fun | (l5,x6)=>(⟨[(0,.int mask_0),(5,.row 20 0 l5.length),(8,.int n_1),(9,.int x6)],[(20,some (3,.ints l5))],[]⟩:PS)) (Gt N mask_0 n_1 k) h (En.of ⟨rfl,rfl,rfl,rfl,Y⟩ ⟨rfl,Y⟩ trivial) (fun _=>rfl) ?_));rintro n ⟨l5,x6⟩ h;rw [Gt] at h;show VC _ _ _ (⟨[(0,.int mask_0),(5,.row 20 0 l5.length),(8,.int n_1),(9,.int x6)],[(20,some (3,.ints l5))],[]⟩:PS);refine Ag (Ab (Aa O (Af (Ag (Ar O (fun hb1=>?_) (fun hb1=>?_))))))
 ·replace h:=Ak hb1 h;refine Aq (Ag (Ap (Ag (Ab (Aa O (Aa O (Af (Ag (Ab ?_)))))))));refine Aa O (Aa O ?_);obtain ⟨hg2,h⟩:=Ac h;refine Ad tt O hg2 (Aa O (Aa O (Af (Ar O (fun hb3=>?_) (fun hb3=>?_)))))
  ·replace h:=Ak hb3 h;refine Ab (Aa O (Aa O (Cr tt O O O O O O O O O O O ?_)));obtain ⟨hg4,h⟩:=Ac h;refine Bt tt O O O O O O O O O O O O O O O O (Nat.le_of_eq (Nat.zero_add _)) hg4 (Aa O (Af (Ab ?_)));obtain ⟨hg5,h⟩:=Ac h;refine Ad tt O hg5 (Aa O (Af ?_));show ∃ _,_;exact ⟨((l5++([x6]:List Int)),(x6+(1:Int))),(En.of ⟨O,O,O,O,Y⟩ ⟨O,Y⟩ trivial),h⟩
  replace h:=Al hb3 h;refine Aq (Ab ?_);obtain ⟨hg6,h⟩:=Ac h;refine Ad tt O hg6 (Aa O (Af ?_));show ∃ _,_;exact ⟨(l5,(x6+(1:Int))),(En.of ⟨O,O,O,O,Y⟩ ⟨O,Y⟩ trivial),h⟩
 replace h:=Al hb1 h;refine Bp ?_;show ∃ _,_;exact ⟨l5,(En.of ⟨O,Y⟩ ⟨O,Y⟩ trivial),h⟩
def Cj (N:Nat) (g_0:Grf) (a_1:Int) (b_2:Int) (k:Int→Option (Int)):Nat→(Int×Int)→Option (Int)
 | 0,_=>none
 | n+1,(n5,x6)=>
  cnd (decide (x6<(g_0.bars.length:Int))) (
   grd (0≤x6∧x6<(g_0.bars.length:Int)) <|
   cnd (((g_0.bars.getD ((x6).toNat) (0,0)).1)==a_1) (
    cnd (((g_0.bars.getD ((x6).toNat) (0,0)).2)==b_2) (
     grd (Bc (n5+(1:Int))) <|
     grd (Bc (x6+(1:Int))) <|
     Cj N g_0 a_1 b_2 k n ((n5+(1:Int)),(x6+(1:Int)))) (
     cnd (((g_0.bars.getD ((x6).toNat) (0,0)).1)==b_2) (
      cnd (((g_0.bars.getD ((x6).toNat) (0,0)).2)==a_1) (
       grd (Bc (n5+(1:Int))) <|
       grd (Bc (x6+(1:Int))) <|
       Cj N g_0 a_1 b_2 k n ((n5+(1:Int)),(x6+(1:Int)))) (
       grd (Bc (x6+(1:Int))) <|
       Cj N g_0 a_1 b_2 k n (n5,(x6+(1:Int))))) (
      grd (Bc (x6+(1:Int))) <|
      Cj N g_0 a_1 b_2 k n (n5,(x6+(1:Int)))))) (
    cnd (((g_0.bars.getD ((x6).toNat) (0,0)).1)==b_2) (
     cnd (((g_0.bars.getD ((x6).toNat) (0,0)).2)==a_1) (
      grd (Bc (n5+(1:Int))) <|
      grd (Bc (x6+(1:Int))) <|
      Cj N g_0 a_1 b_2 k n ((n5+(1:Int)),(x6+(1:Int)))) (
      grd (Bc (x6+(1:Int))) <|
      Cj N g_0 a_1 b_2 k n (n5,(x6+(1:Int))))) (
     grd (Bc (x6+(1:Int))) <|
     Cj N g_0 a_1 b_2 k n (n5,(x6+(1:Int)))))) (
   k n5)
def Pv (N:Nat) (g_0:Grf) (a_1:Int) (b_2:Int):Option (Int):=
 Cj N g_0 a_1 b_2 (fun (n3 : Int) =>
    some n3) N ((0:Int),(0:Int))
theorem Zj (N:Nat) (g_0:Grf) (a_1:Int) (b_2:Int) (r:Int) (h:Pv N g_0 a_1 b_2=some r):PCall Tryz.prog 57 [gD g_0,.int a_1,.int b_2] [] (.int r):=by
 unfold Pv at h;refine Aj (TT:=TT) tt Tryz.func57 O O Tryz.ntmps57 (congrArg Array.toList Tryz.results57) O O fun w0=>(Ag (Ab (Hz O O O O O O O O O (Aa O (Af (Ag (Ab (Aa O (Af ?_)))))))));refine Ag (Ag (Ab ?_));iterate 4 refine Aa O ?_
 refine Af (Bz (F:=fun k=>Cj N g_0 a_1 b_2 k) h (α:=Int) (J:=fun (n3:Int)=>(⟨[(7,.int n3)],[],[]⟩:PS)) ?_ ?_)
 ·rintro n3 h;show VC _ _ _ (⟨[(7,.int n3)],[],[]⟩:PS);refine Ag (Ab (Aa O (Aa O (Af (Bg ?_)))));show ∃ _,_;cases h;exact ⟨[],_,O,Y,O,.eq O,O⟩
 intro k h;refine Ap (Bh (α:=Int×Int) (fun | (n5,x6)=>(⟨[(1,.int a_1),(2,.int b_2),(7,.int n5),(11,.ro false (.pairs g_0.bars)),(12,.int (g_0.bars.length:Int)),(13,.int x6)],[],[]⟩:PS)) (Cj N g_0 a_1 b_2 k) h (En.of ⟨rfl,rfl,rfl,rfl,rfl,rfl,Y⟩ trivial trivial) (fun _=>rfl) ?_);rintro n ⟨n5,x6⟩ h;rw [Cj] at h;show VC _ _ _ (⟨[(1,.int a_1),(2,.int b_2),(7,.int n5),(11,.ro false (.pairs g_0.bars)),(12,.int (g_0.bars.length:Int)),(13,.int x6)],[],[]⟩:PS);refine Ag (Ab (Aa O (Af (Ag (Ar O (fun hb1=>?_) (fun hb1=>?_))))))
 ·replace h:=Ak hb1 h;refine Aq (Ag (Ap (Ag (Ab ?_))));obtain ⟨hg2,h⟩:=Ac h;refine Ad tt O hg2 (Aa O (Bi tt O O O O O O O O O (Ao tt O O O O O O O O O O O ⟨Y,Y,Y⟩ (Af (Ag (Ab ?_))))));iterate 5 refine Aa O ?_
  refine Be O O O (fun hb3=>?_) (fun hb3=>?_)
  ·replace h:=Ak hb3 h;iterate 4 refine Av tt O O O O O hb3 O O O Y ?_
   refine Bm O O O O O hb3 O (Aa O (Be O O O (fun hb4=>?_) (fun hb4=>?_)))
   ·replace h:=Ak hb4 h;iterate 5 refine Hg O O O O hb4 O O ?_
    iterate 4 refine oNoU O O O O O ?_
    refine Hg O O O O hb4 O O (Bm O O O O O hb4 O (Af (Ce O O (Ab (Aa O ?_)))));obtain ⟨hg5,h⟩:=Ac h;refine Ad tt O hg5 (Aa O (Af (Ab ?_)));obtain ⟨hg6,h⟩:=Ac h;refine Ad tt O hg6 (Aa O (Af ?_));show ∃ _,_;exact ⟨((n5+(1:Int)),(x6+(1:Int))),(En.of ⟨O,O,O,O,O,O,Y⟩ trivial trivial),h⟩
   replace h:=Al hb4 h;iterate 5 refine Av tt O O O O O hb4 O O O Y ?_
   refine Be O O O (fun hb7=>?_) (fun hb7=>?_)
   ·replace h:=Ak hb7 h;iterate 4 refine Av tt O O O O O hb7 O O O Y ?_
    refine Rk O O O O hb4 O O O O hb7 O (Aw O O O O O hb4 O (Af (Ar O (fun hb8=>?_) (fun hb8=>?_))))
    ·replace h:=Ak hb8 h;refine Ab (Aa O ?_);obtain ⟨hg9,h⟩:=Ac h;refine Ad tt O hg9 (Aa O (Af (Ab ?_)));obtain ⟨hg10,h⟩:=Ac h;refine Ad tt O hg10 (Aa O (Af ?_));show ∃ _,_;exact ⟨((n5+(1:Int)),(x6+(1:Int))),(En.of ⟨O,O,O,O,O,O,Y⟩ trivial trivial),h⟩
    replace h:=Al hb8 h;refine Aq (Ab ?_);obtain ⟨hg11,h⟩:=Ac h;refine Ad tt O hg11 (Aa O (Af ?_));show ∃ _,_;exact ⟨(n5,(x6+(1:Int))),(En.of ⟨O,O,O,O,O,O,Y⟩ trivial trivial),h⟩
   replace h:=Al hb7 h;iterate 4 refine Kq O O O O hb7 O O ?_
   refine Rl O O O O hb4 O O O O hb7 O (Aw O O O O O hb4 O (Af (Cp O O (Aq (Ab ?_)))));obtain ⟨hg12,h⟩:=Ac h;refine Ad tt O hg12 (Aa O (Af ?_));show ∃ _,_;exact ⟨(n5,(x6+(1:Int))),(En.of ⟨O,O,O,O,O,O,Y⟩ trivial trivial),h⟩
  replace h:=Al hb3 h;iterate 4 refine Kq O O O O hb3 O O ?_
  refine Aw O O O O O hb3 O (Aa O ?_);iterate 5 refine Av tt O O O O O O O O O Y ?_
  refine Be O O O (fun hb13=>?_) (fun hb13=>?_)
  ·replace h:=Ak hb13 h;iterate 4 refine Av tt O O O O O hb13 O O O Y ?_
   refine Rk O O O O O O O O O hb13 O (Aw O O O O O O O (Af (Ar O (fun hb14=>?_) (fun hb14=>?_))))
   ·replace h:=Ak hb14 h;refine Ab (Aa O ?_);obtain ⟨hg15,h⟩:=Ac h;refine Ad tt O hg15 (Aa O (Af (Ab ?_)));obtain ⟨hg16,h⟩:=Ac h;refine Ad tt O hg16 (Aa O (Af ?_));show ∃ _,_;exact ⟨((n5+(1:Int)),(x6+(1:Int))),(En.of ⟨O,O,O,O,O,O,Y⟩ trivial trivial),h⟩
   replace h:=Al hb14 h;refine Aq (Ab ?_);obtain ⟨hg17,h⟩:=Ac h;refine Ad tt O hg17 (Aa O (Af ?_));show ∃ _,_;exact ⟨(n5,(x6+(1:Int))),(En.of ⟨O,O,O,O,O,O,Y⟩ trivial trivial),h⟩
  replace h:=Al hb13 h;iterate 4 refine Kq O O O O hb13 O O ?_
  refine Rl O O O O O O O O O hb13 O (Aw O O O O O O O (Af (Cp O O (Aq (Ab ?_)))));obtain ⟨hg18,h⟩:=Ac h;refine Ad tt O hg18 (Aa O (Af ?_));show ∃ _,_;exact ⟨(n5,(x6+(1:Int))),(En.of ⟨O,O,O,O,O,O,Y⟩ trivial trivial),h⟩
 replace h:=Al hb1 h;refine Bp ?_;show ∃ _,_;exact ⟨n5,(En.of ⟨O,Y⟩ trivial trivial),h⟩
def Ev (N:Nat) (g_0:Grf) (x83:Int) (k:(List (Int×Int))→Option (List (Int×Int))):Nat→((List (Int×Int))×Int)→Option (List (Int×Int))
 | 0,_=>none
 | n+1,(l104,b105)=>
  cnd (decide (b105<g_0.n)) (
   (Pv N g_0 x83 b105).bind fun v107=>
   cnd (v107==(0:Int)) (
    grd (l104.length+1≤4294967296) <|
    grd (Bc (b105+(1:Int))) <|
    Ev N g_0 x83 k n ((l104++([(x83,b105)]:List (Int×Int))),(b105+(1:Int)))) (
    grd (Bc (b105+(1:Int))) <|
    Ev N g_0 x83 k n (l104,(b105+(1:Int))))) (
   k l104)
def Ck (N:Nat) (g_0:Grf) (k:(List (Int×Int))→Option (List (Int×Int))):Nat→((List (Int×Int))×Int)→Option (List (Int×Int))
 | 0,_=>none
 | n+1,(l82,x83)=>
  cnd (decide (x83<g_0.n)) (
   grd (Bc (x83+(1:Int))) <|
   Ev N g_0 x83 (fun (l101 : List (Int × Int)) =>
      Ck N g_0 k n (l101,(x83+(1:Int)))) N (l82,(x83+(1:Int)))) (
   k l82)
def Jf (N:Nat) (g_0:Grf):Option (List (Int×Int)):=
 (Cs N g_0).bind fun v1=>
 cnd (!v1) (
  some ([]:List (Int×Int))) (
  Ck N g_0 (fun (l54 : List (Int × Int)) =>
     some l54) N (([]:List (Int×Int)),(0:Int)))
theorem Va (N:Nat) (g_0:Grf) (r:List (Int×Int)) (h:Jf N g_0=some r):PCall Tryz.prog 71 [gD g_0] [(42,.pairs r)] (.row 0 0 r.length):=by
 unfold Jf at h;refine Aj (TT:=TT) tt Tryz.func71 O O Tryz.ntmps71 (congrArg Array.toList Tryz.results71) O O fun w0=>(Ag (Ab (Hz O O O O O O O O O (Aa O (Af (Ag (Ab (Gr tt (Ai O) O O O O (Aa O ?_)))))))));refine Af (Ag (Ag (Ab (Aa O ?_))));obtain ⟨v1,hc1,h⟩:=Ae h;refine Ba (Fx N g_0 v1 hc1) O O O O O O O O ⟨⟨O,O,Y⟩,Y⟩ (Aa O (Af (Ar O (fun hb2=>?_) (fun hb2=>?_))))
 ·replace h:=Ak hb2 h;refine Ag (Ab (Aa O (Aa O (Af (Jq 2 9001 42 (.pairs []) O O O O (Bg ?_))))));show ∃ _,_;cases h;exact ⟨[9001],_,O,⟨O,Y⟩,O,.eq O,O⟩
 replace h:=Al hb2 h;refine Aq (Ag (Ag (Ab (Aa O (Aa O (Aa O (Af (Bz (F:=fun k=>Ck N g_0 k) h (α:=List (Int×Int)) (J:=fun (l54:List (Int×Int))=>(⟨[(3,.row 34 0 l54.length)],[(34,some (42,.pairs l54))],[]⟩:PS)) ?_ ?_))))))))
 ·rintro l54 h;show VC _ _ _ (⟨[(3,.row 34 0 l54.length)],[(34,some (42,.pairs l54))],[]⟩:PS);refine Ag (Ab (Aa O (Aa O (Af (Bg ?_)))));show ∃ _,_;cases h;exact ⟨[34],_,O,⟨O,Y⟩,O,.eq O,O⟩
 intro k h;refine Ap (Jq 3 34 42 (.pairs []) rfl rfl rfl rfl (Bh (α:=(List (Int×Int))×Int) (fun | (l82,x83)=>(⟨[(1,.ptr 1 0),(3,.row 34 0 l82.length),(12,.int g_0.n),(13,.int x83)],[(34,some (42,.pairs l82))],[(1,some [.int g_0.n,.ro false (.pairs g_0.bars)])]⟩:PS)) (Ck N g_0 k) h (En.of ⟨rfl,rfl,rfl,rfl,Y⟩ ⟨rfl,Y⟩ ⟨rfl,Y⟩) (fun _=>rfl) ?_));rintro n ⟨l82,x83⟩ h;rw [Ck] at h;show VC _ _ _ (⟨[(1,.ptr 1 0),(3,.row 34 0 l82.length),(12,.int g_0.n),(13,.int x83)],[(34,some (42,.pairs l82))],[(1,some [.int g_0.n,.ro false (.pairs g_0.bars)])]⟩:PS);refine Ag (Ab (Aa O (Af (Ag (Ar O (fun hb3=>?_) (fun hb3=>?_))))))
 ·replace h:=Ak hb3 h;refine Aq (Ag (Ap (Ag (Ab (Aa O (Aa O (Af (Ag (Ab ?_)))))))));refine Aa O ?_;obtain ⟨hg4,h⟩:=Ac h;refine Ad tt O hg4 (Aa O (Af (Bz (F:=fun k=>Ev N g_0 x83 k) h (α:=List (Int×Int)) (J:=fun (l101:List (Int×Int))=>(⟨[(1,.ptr 1 0),(3,.row 34 0 l101.length),(12,.int g_0.n),(13,.int x83)],[(34,some (42,.pairs l101))],[(1,some [.int g_0.n,.ro false (.pairs g_0.bars)])]⟩:PS)) ?_ ?_)))
  ·rintro l101 h;show VC _ _ _ (⟨[(1,.ptr 1 0),(3,.row 34 0 l101.length),(12,.int g_0.n),(13,.int x83)],[(34,some (42,.pairs l101))],[(1,some [.int g_0.n,.ro false (.pairs g_0.bars)])]⟩:PS);refine Ab (Ad tt O hg4 (Aa O (Af ?_)));show ∃ _,_;exact ⟨(l101,(x83+(1:Int))),(En.of ⟨O,O,O,O,Y⟩ ⟨O,Y⟩ ⟨O,Y⟩),h⟩
  intro k h;refine Ap (Bh (α:=(List (Int×Int))×Int) (fun | (l104,b105)=>(⟨[(1,.ptr 1 0),(3,.row 34 0 l104.length),(4,.int x83),(5,.int b105),(12,.int g_0.n),(13,.int x83)],[(34,some (42,.pairs l104))],[(1,some [.int g_0.n,.ro false (.pairs g_0.bars)])]⟩:PS)) (Ev N g_0 x83 k) h (En.of ⟨rfl,rfl,rfl,rfl,rfl,rfl,Y⟩ ⟨rfl,Y⟩ ⟨rfl,Y⟩) (fun _=>rfl) ?_);rintro n ⟨l104,b105⟩ h;rw [Ev] at h;show VC _ _ _ (⟨[(1,.ptr 1 0),(3,.row 34 0 l104.length),(4,.int x83),(5,.int b105),(12,.int g_0.n),(13,.int x83)],[(34,some (42,.pairs l104))],[(1,some [.int g_0.n,.ro false (.pairs g_0.bars)])]⟩:PS);refine Ag (Ag (Ab ?_));iterate 4 refine Aa O ?_
  refine Af (Ar O (fun hb5=>?_) (fun hb5=>?_))
  ·replace h:=Ak hb5 h;refine Aq (Ag (Ap (Ag (Ab (Aa O (Aa O (Aa O ?_)))))));obtain ⟨v107,hc6,h⟩:=Ae h;refine Ba (Zj N g_0 x83 b105 v107 hc6) O O O O O O O O ⟨⟨O,O,Y⟩,O,O,Y⟩ (Aa O (Af (Ar O (fun hb7=>?_) (fun hb7=>?_))))
   ·replace h:=Ak hb7 h;refine Ab (Aa O (Aa O (Aa O (Fz (Ai O) (Df Bx O O) O O (Cr tt O O O O O O O O O O O ?_)))));obtain ⟨hg8,h⟩:=Ac h;refine Bt tt O O O O O O O O O O O O O O O O (Nat.le_of_eq (Nat.zero_add _)) hg8 (Aa O (Af (Ab (Aa O ?_))));obtain ⟨hg9,h⟩:=Ac h;refine Ad tt O hg9 (Aa O (Af ?_));show ∃ _,_;exact ⟨((l104++([(x83,b105)]:List (Int×Int))),(b105+(1:Int))),(En.of ⟨O,O,O,O,O,O,Y⟩ ⟨O,Y⟩ ⟨O,Y⟩),h⟩
   replace h:=Al hb7 h;refine Aq (Ab (Aa O ?_));obtain ⟨hg10,h⟩:=Ac h;refine Ad tt O hg10 (Aa O (Af ?_));show ∃ _,_;exact ⟨(l104,(b105+(1:Int))),(En.of ⟨O,O,O,O,O,O,Y⟩ ⟨O,Y⟩ ⟨O,Y⟩),h⟩
  replace h:=Al hb5 h;refine Bp ?_;show ∃ _,_;exact ⟨l104,(En.of ⟨O,O,O,O,Y⟩ ⟨O,Y⟩ ⟨O,Y⟩),h⟩
 replace h:=Al hb3 h;refine Bp ?_;show ∃ _,_;exact ⟨l82,(En.of ⟨O,Y⟩ ⟨O,Y⟩ trivial),h⟩
def Tg (N:Nat) (k_0:Int) (l_1:Int):Option (Bool):=
 (Lo N k_0 (1:Int) (3:Int)).bind fun v1=>
 cnd v1 (
  grd (Bc ((2:Int)*k_0)) <|
  grd (Bc (((2:Int)*k_0)-(1:Int))) <|
  (Lo N l_1 (0:Int) (((2:Int)*k_0)-(1:Int))).bind fun v2=>
  some v2) (
  some false)
theorem I_IsRange_w (N:Nat) (k_0:Int) (l_1:Int) (r:Bool) (h:Tg N k_0 l_1=some r):PCall Tryz.prog 208 [.int k_0,.int l_1] [] (.bool r):=by
 unfold Tg at h;refine Aj (TT:=TT) tt Tryz.func208 O O Tryz.ntmps208 (congrArg Array.toList Tryz.results208) O O fun w0=>(Ag (Ab (Aa O (Af (Ag (Ab (Aa O ?_)))))));obtain ⟨v1,hc1,h⟩:=Ae h;refine Ba (Mb N k_0 (1:Int) (3:Int) v1 hc1) O O O O O O O O ⟨O,O,O,Y⟩ (Aa O (Be O O O (fun hb2=>?_) (fun hb2=>?_)))
 ·replace h:=Ak hb2 h;iterate 2 refine Av tt O O O O O hb2 O O O Y ?_
  obtain ⟨hg3,h⟩:=Ac h;refine Av tt O O O O O hb2 O O O hg3 ?_;obtain ⟨hg4,h⟩:=Ac h;refine Av tt O O O O O hb2 O O O hg4 ?_;obtain ⟨v2,hc5,h⟩:=Ae h;refine Eh (Mb N l_1 (0:Int) (((2:Int)*k_0)-(1:Int)) v2 hc5) O O O O hb2 O O O O O O O ⟨O,O,O,Y⟩ (Bm O O O O O hb2 O (Aa O (Af (Bg ?_))));show ∃ _,_;cases h;exact ⟨[],_,O,Y,O,.eq O,O⟩
 replace h:=Al hb2 h;iterate 5 refine Kq O O O O hb2 O O ?_
 refine Aw O O O O O hb2 O (Aa O (Af (Bg ?_)));show ∃ _,_;cases h;exact ⟨[],_,O,Y,O,.eq O,O⟩
def Kc (N:Nat) (g_0:Grf) (k_1:Int) (l_2:Int):Option (Pbl×Bool):=
 (Cs N g_0).bind fun v1=>
 cnd (!v1) (
  some ((⟨([]:List Int),([]:List Int),([]:List Int)⟩:Pbl),false)) (
  (Tg N k_1 l_2).bind fun v2=>
  cnd (!v2) (
   some ((⟨([]:List Int),([]:List Int),([]:List Int)⟩:Pbl),false)) (
   (I_play N g_0.n g_0.bars k_1 l_2).bind fun v3=>
   some ((⟨v3.free,v3.tails,v3.placed⟩:Pbl),true)))
theorem Acr (N:Nat) (g_0:Grf) (k_1:Int) (l_2:Int) (r:Pbl×Bool) (h:Kc N g_0 k_1 l_2=some r):PCall Tryz.prog 202 [gD g_0,.int k_1,.int l_2] [(3,.ints r.1.free),(3,.ints r.1.tails),(3,.ints r.1.placed)] (.tup [.agg [.row 0 0 r.1.free.length,.row 1 0 r.1.tails.length,.row 2 0 r.1.placed.length],.bool r.2]):=by
 unfold Kc at h;refine Aj (TT:=TT) tt Tryz.func202 O O Tryz.ntmps202 (congrArg Array.toList Tryz.results202) O O fun w0=>(Ag (Ab (Hz O O O O O O O O O (Bi tt O O O O O O O O O (Aa O (Af (Ag (Ag (Ab ?_)))))))));refine Aa O ?_;obtain ⟨v1,hc1,h⟩:=Ae h;refine Ba (Fx N g_0 v1 hc1) O O O O O O O O ⟨⟨O,O,Y⟩,Y⟩ (Aa O (Aa O (Be O O O (fun hb2=>?_) (fun hb2=>?_))))
 ·replace h:=Ak hb2 h;iterate 4 refine Hg O O O O hb2 O O ?_
  refine Bm O O O O O hb2 O (Af (Ce O O (Ag (Ab (Fz (Ai O) (Df Dj O O) O O (Ao tt O O O O O O O O O O O ⟨Y,Y,Y,Y⟩ (Aa O (Af (Kr 6 0 9001 3 (.ints []) O O O O O ?_)))))))));refine Kr 6 1 9002 3 (.ints []) O O O O O (Kr 6 2 9003 3 (.ints []) O O O O O (Bg ?_));show ∃ _,_;cases h;exact ⟨[9001,9002,9003],_,O,⟨O,O,O,Y⟩,O,.eq O,O⟩
 replace h:=Al hb2 h;iterate 2 refine Av tt O O O O O hb2 O O O Y ?_
 obtain ⟨v2,hc3,h⟩:=Ae h;refine Eh (I_IsRange_w N k_1 l_2 v2 hc3) O O O O hb2 O O O O O O O ⟨O,O,Y⟩ (Av tt O O O O O hb2 O O O Y (Aw O O O O O hb2 O (Af (Ar O (fun hb4=>?_) (fun hb4=>?_)))))
 ·replace h:=Ak hb4 h;refine Ag (Ab (Fz (Ai O) (Df Dj O O) O O (Ao tt O O O O O O O O O O O ⟨Y,Y,Y,Y⟩ (Aa O (Af (Kr 6 0 9001 3 (.ints []) O O O O O (Kr 6 1 9002 3 (.ints []) O O O O O (Kr 6 2 9003 3 (.ints []) O O O O O (Bg ?_)))))))));show ∃ _,_;cases h;exact ⟨[9001,9002,9003],_,O,⟨O,O,O,Y⟩,O,.eq O,O⟩
 replace h:=Al hb4 h;refine Aq (Ag (Ab ?_));iterate 6 refine Aa O ?_
 obtain ⟨v3,hc5,h⟩:=Ae h;refine Ba (I_play_w N g_0.n g_0.bars k_1 l_2 v3 hc5) O O O O O O O O ⟨O,O,O,O,Y⟩ (Ao tt O O O O O O O O O O O ⟨Y,Y,Y,Y⟩ (Aa O (Af (Bg ?_))));show ∃ _,_;cases h;exact ⟨[1240,1241,1242],_,O,⟨O,O,O,Y⟩,O,.eq O,O⟩
end
section
open Go.RowKit
def Sl (N:Nat) (g_0:Grf) (k_1:Int) (l_2:Int):Option (Int):=
 (Kc N g_0 k_1 l_2).bind fun v1=>
 cnd (!v1.2) (
  some (-1:Int)) (
  some (v1.1.placed.length:Int))
theorem Zc (N:Nat) (g_0:Grf) (k_1:Int) (l_2:Int) (r:Int) (h:Sl N g_0 k_1 l_2=some r):PCall Tryz.prog 196 [gD g_0,.int k_1,.int l_2] [] (.int r):=by
 unfold Sl at h;refine Aj (TT:=TT) tt Tryz.func196 O O Tryz.ntmps196 (congrArg Array.toList Tryz.results196) O O fun w0=>(Ag (Ab (Hz O O O O O O O O O (Aa O (Af (Ag (Ab (Aa O (Aa O ?_)))))))));refine Aa O ?_;obtain ⟨v1,hc1,h⟩:=Ae h;refine Ba (Acr N g_0 k_1 l_2 v1 hc1) O O O O O O O O ⟨⟨O,O,Y⟩,O,O,Y⟩ (Aa O (Aa O (Aa O (Bi tt O O O O O O O O O (Ao tt O O O O O O O O O O O ⟨Y,Y,Y,Y⟩ (Aa O (Af (Ag (Ag ?_)))))))));refine Ab (Aa O (Aa O (Af (Ar O (fun hb2=>?_) (fun hb2=>?_)))))
 ·replace h:=Ak hb2 h;refine Ag (Ab (Aa O (Af (Bg ?_))));show ∃ _,_;cases h;exact ⟨[],_,O,Y,O,.eq O,O⟩
 replace h:=Al hb2 h;refine Aq (Ag (Ab ?_));iterate 4 refine Aa O ?_
 refine Af (Bg ?_);show ∃ _,_;cases h;exact ⟨[],_,O,Y,O,.eq O,O⟩
def Sv (N:Nat) (g_0:Grf):Option (Int):=
 (Cs N g_0).bind fun v1=>
 cnd (!v1) (
  some (-1:Int)) (
  grd (Bc ((2:Int)*g_0.n)) <|
  grd (Bc (((2:Int)*g_0.n)-(3:Int))) <|
  (Sl N g_0 (2:Int) (3:Int)).bind fun v2=>
  grd (Bc ((max (0:Int) (((2:Int)*g_0.n)-(3:Int)))-v2)) <|
  some ((max (0:Int) (((2:Int)*g_0.n)-(3:Int)))-v2))
theorem I_FreedomOf_w (N:Nat) (g_0:Grf) (r:Int) (h:Sv N g_0=some r):PCall Tryz.prog 185 [gD g_0] [] (.int r):=by
 unfold Sv at h;refine Aj (TT:=TT) tt Tryz.func185 O O Tryz.ntmps185 (congrArg Array.toList Tryz.results185) O O fun w0=>(Ag (Ab (Hz O O O O O O O O O (Aa O (Af (Ag (Ag (Ab (Aa O ?_)))))))));obtain ⟨v1,hc1,h⟩:=Ae h;refine Ba (Fx N g_0 v1 hc1) O O O O O O O O ⟨⟨O,O,Y⟩,Y⟩ (Aa O (Af (Ar O (fun hb2=>?_) (fun hb2=>?_))))
 ·replace h:=Ak hb2 h;refine Ag (Ab (Aa O (Af (Bg ?_))));show ∃ _,_;cases h;exact ⟨[],_,O,Y,O,.eq O,O⟩
 replace h:=Al hb2 h;refine Aq (Ag (Cu (by kernel_rfl) (by kernel_rfl) ?_));iterate 2 refine Bq tt O (Ai O) O O O Y ?_
 obtain ⟨hg3,h⟩:=Ac h;refine Bq tt O (Ai O) O O O hg3 ?_;obtain ⟨hg4,h⟩:=Ac h;refine Bq tt O (Ai O) O O O hg4 ?_;iterate 2 refine Bq tt O (Ai O) O O O Y ?_
 obtain ⟨v2,hc5,h⟩:=Ae h;refine Xh (Zc N g_0 (2:Int) (3:Int) v2 hc5) O (Ai O) O O O O O O ⟨⟨O,O,Y⟩,O,O,Y⟩ ?_;obtain ⟨hg6,h⟩:=Ac h;refine Bq tt O (Ai O) O O O hg6 (Bq tt O (Ai O) O O O Y (Ms (Bg ?_)));show ∃ _,_;cases h;exact ⟨[],_,O,Y,O,.eq O,O⟩
def Qy (N:Nat) (g_0:Grf):Option (Bool):=
 (Sv N g_0).bind fun v1=>
 some (v1==(0:Int))
theorem Wr (N:Nat) (g_0:Grf) (r:Bool) (h:Qy N g_0=some r):PCall Tryz.prog 161 [gD g_0] [] (.bool r):=by
 unfold Qy at h;refine Aj (TT:=TT) tt Tryz.func161 O O Tryz.ntmps161 (congrArg Array.toList Tryz.results161) O O fun w0=>(Ag (Ab (Hz O O O O O O O O O (Aa O (Af (Ag (Ab (Aa O ?_))))))));obtain ⟨v1,hc1,h⟩:=Ae h;refine Ba (I_FreedomOf_w N g_0 v1 hc1) O O O O O O O O ⟨⟨O,O,Y⟩,Y⟩ (Aa O (Aa O (Af (Bg ?_))));show ∃ _,_;cases h;exact ⟨[],_,O,Y,O,.eq O,O⟩
def Bo (N:Nat) (g_0:Grf) (l7:List Int) (k:(List (Int×Int))→Option (Grf)):Nat→((List (Int×Int))×Int)→Option (Grf)
 | 0,_=>none
 | n+1,(l16,x17)=>
  cnd (decide (x17<(g_0.bars.length:Int))) (
   grd (0≤x17∧x17<(g_0.bars.length:Int)) <|
   grd (0≤((g_0.bars.getD ((x17).toNat) (0,0)).1)∧((g_0.bars.getD ((x17).toNat) (0,0)).1)<((List.replicate (((max (0:Int) (min g_0.n (8:Int)))).toNat) (0:Int)).length:Int)) <|
   grd (0≤((g_0.bars.getD ((x17).toNat) (0,0)).1)∧((g_0.bars.getD ((x17).toNat) (0,0)).1)<(l7.length:Int)) <|
   grd (0≤((g_0.bars.getD ((x17).toNat) (0,0)).2)∧((g_0.bars.getD ((x17).toNat) (0,0)).2)<((List.replicate (((max (0:Int) (min g_0.n (8:Int)))).toNat) (0:Int)).length:Int)) <|
   grd (0≤((g_0.bars.getD ((x17).toNat) (0,0)).2)∧((g_0.bars.getD ((x17).toNat) (0,0)).2)<(l7.length:Int)) <|
   cnd (decide ((l7.getD (((g_0.bars.getD ((x17).toNat) (0,0)).1).toNat) 0)≥(0:Int))) (
    cnd (decide ((l7.getD (((g_0.bars.getD ((x17).toNat) (0,0)).2).toNat) 0)≥(0:Int))) (
     grd (l16.length+1≤4294967296) <|
     grd (Bc (x17+(1:Int))) <|
     Bo N g_0 l7 k n ((l16++([((l7.getD (((g_0.bars.getD ((x17).toNat) (0,0)).1).toNat) 0),(l7.getD (((g_0.bars.getD ((x17).toNat) (0,0)).2).toNat) 0))]:List (Int×Int))),(x17+(1:Int)))) (
     grd (Bc (x17+(1:Int))) <|
     Bo N g_0 l7 k n (l16,(x17+(1:Int))))) (
    grd (Bc (x17+(1:Int))) <|
    Bo N g_0 l7 k n (l16,(x17+(1:Int))))) (
   k l16)
def Dx (N:Nat) (g_0:Grf) (set_1:List Int) (k:((List Int)×Int)→Option (Grf)):Nat→((List Int)×Int×Int)→Option (Grf)
 | 0,_=>none
 | n+1,(l20,x21,c22)=>
  cnd (decide (x21<((List.replicate (((max (0:Int) (min g_0.n (8:Int)))).toNat) (0:Int)).length:Int))) (
   grd (0≤x21∧x21<((List.replicate (((max (0:Int) (min g_0.n (8:Int)))).toNat) (0:Int)).length:Int)) <|
   grd (0≤x21∧x21<(l20.length:Int)) <|
   (Ks N set_1 x21).bind fun v24=>
   cnd (!v24) (
    grd (0≤x21∧x21<((l20.set ((x21).toNat) (-1:Int)).length:Int)) <|
    grd (Bc (c22+(1:Int))) <|
    grd (Bc (x21+(1:Int))) <|
    Dx N g_0 set_1 k n (((l20.set ((x21).toNat) (-1:Int)).set ((x21).toNat) c22),(x21+(1:Int)),(c22+(1:Int)))) (
    grd (Bc (x21+(1:Int))) <|
    Dx N g_0 set_1 k n ((l20.set ((x21).toNat) (-1:Int)),(x21+(1:Int)),c22))) (
   k (l20,c22))
def Ht (N:Nat) (g_0:Grf) (set_1:List Int):Option (Grf):=
 grd (0≤(max (0:Int) (min g_0.n (8:Int)))∧(max (0:Int) (min g_0.n (8:Int)))≤4294967296) <|
 Dx N g_0 set_1 (fun (x:(List Int)×Int)=>
   match x with
   | (l7,c8)=>
    (Cs N g_0).bind fun v9=>
    cnd (!v9) (
     some (⟨c8,([]:List (Int×Int))⟩:Grf)) (
     Bo N g_0 l7 (fun (l13 : List (Int × Int)) =>
        some (⟨c8,l13⟩:Grf)) N (([]:List (Int×Int)),(0:Int)))) N ((List.replicate (((max (0:Int) (min g_0.n (8:Int)))).toNat) (0:Int)),(0:Int),(0:Int))
theorem Ry (N:Nat) (g_0:Grf) (set_1:List Int) (r:Grf) (h:Ht N g_0 set_1=some r):PCall Tryz.prog 99 [gD g_0,.ro false (.ints set_1)] [(42,.pairs r.bars)] (.agg [.int r.n,.row 0 0 r.bars.length]):=by
 unfold Ht at h;refine Aj (TT:=TT) tt Tryz.func99 O O Tryz.ntmps99 (congrArg Array.toList Tryz.results99) O O fun w0=>(Ag (Ab (Hz O O O O O O O O O (Bi tt O O O O O O O O O (Af (Ag (Ab ?_)))))));iterate 4 refine Aa O ?_
 obtain ⟨hg1,h⟩:=Ac h;refine oMake tt O O O O O O O O O O O hg1 (Aa O (Af (Ag (Ab (Fz (Ai O) (Df Cv O O) O O (Bi tt O O O O O O O O O (Ao tt O O O O O O O O O O O ⟨Y,Y,Y⟩ (Af (Ag ?_)))))))));refine Ag (Ab (Aa rfl (Aa rfl (Aa rfl (Af (Bz (F:=fun k=>Dx N g_0 set_1 k) h (α:=(List Int)×Int) (J:=fun | (l7,c8)=>(⟨[(2,.ptr 2 0),(4,.ptr 4 0),(5,.row 16 0 ((List.replicate (((max (0:Int) (min g_0.n (8:Int)))).toNat) (0:Int)).length)),(6,.ptr 6 0)],[(16,some (3,.ints l7))],[(2,some [.int g_0.n,.ro false (.pairs g_0.bars)]),(4,some [.int (0:Int),.nil]),(6,some [.int c8,.nil])]⟩:PS)) ?_ ?_))))))
 ·rintro ⟨l7,c8⟩ h;show VC _ _ _ (⟨[(2,.ptr 2 0),(4,.ptr 4 0),(5,.row 16 0 ((List.replicate (((max (0:Int) (min g_0.n (8:Int)))).toNat) (0:Int)).length)),(6,.ptr 6 0)],[(16,some (3,.ints l7))],[(2,some [.int g_0.n,.ro false (.pairs g_0.bars)]),(4,some [.int (0:Int),.nil]),(6,some [.int c8,.nil])]⟩:PS);refine Ag (Ag (Ab (Aa O ?_)));obtain ⟨v9,hc2,h⟩:=Ae h;refine Ba (Fx N g_0 v9 hc2) O O O O O O O O ⟨⟨O,O,Y⟩,Y⟩ (Aa O (Af (Ar O (fun hb3=>?_) (fun hb3=>?_))))
  ·replace h:=Ak hb3 h;refine Ag (Ab (Aa O (Ao tt O O O O O O O O O O O ⟨Y,Y,Y⟩ (Af (Kr 4 1 9001 42 (.pairs []) O O O O O (Bg ?_))))));show ∃ _,_;cases h;exact ⟨[9001],_,O,⟨O,Y⟩,O,.eq O,O⟩
  replace h:=Al hb3 h;refine Aq (Ag (Ag (Ab ?_)));iterate 4 refine Aa O ?_
  refine Af (Bz (F:=fun k=>Bo N g_0 l7 k) h (α:=List (Int×Int)) (J:=fun (l13:List (Int×Int))=>(⟨[(4,.ptr 4 0),(6,.ptr 6 0)],[(73,some (42,.pairs l13))],[(4,some [.int (0:Int),.nil]),(6,some [.int c8,.row 73 0 l13.length])]⟩:PS)) ?_ ?_)
  ·rintro l13 h;show VC _ _ _ (⟨[(4,.ptr 4 0),(6,.ptr 6 0)],[(73,some (42,.pairs l13))],[(4,some [.int (0:Int),.nil]),(6,some [.int c8,.row 73 0 l13.length])]⟩:PS);refine Ag (Ab (Aa O (Ao tt O O O O O O O O O O O ⟨Y,Y,Y⟩ (Af (Bg ?_)))));show ∃ _,_;cases h;exact ⟨[73],_,O,⟨O,Y⟩,O,.eq O,O⟩
  intro k h;refine Ap (Kr 6 1 73 42 (.pairs []) rfl rfl rfl rfl rfl (Bh (α:=(List (Int×Int))×Int) (fun | (l16,x17)=>(⟨[(4,.ptr 4 0),(5,.row 16 0 ((List.replicate (((max (0:Int) (min g_0.n (8:Int)))).toNat) (0:Int)).length)),(6,.ptr 6 0),(45,.ro false (.pairs g_0.bars)),(46,.int (g_0.bars.length:Int)),(47,.int x17)],[(16,some (3,.ints l7)),(73,some (42,.pairs l16))],[(4,some [.int (0:Int),.nil]),(6,some [.int c8,.row 73 0 l16.length])]⟩:PS)) (Bo N g_0 l7 k) h (En.of ⟨rfl,rfl,rfl,rfl,rfl,rfl,Y⟩ ⟨rfl,rfl,Y⟩ ⟨rfl,rfl,Y⟩) (fun _=>rfl) ?_));rintro n ⟨l16,x17⟩ h;rw [Bo] at h;show VC _ _ _ (⟨[(4,.ptr 4 0),(5,.row 16 0 ((List.replicate (((max (0:Int) (min g_0.n (8:Int)))).toNat) (0:Int)).length)),(6,.ptr 6 0),(45,.ro false (.pairs g_0.bars)),(46,.int (g_0.bars.length:Int)),(47,.int x17)],[(16,some (3,.ints l7)),(73,some (42,.pairs l16))],[(4,some [.int (0:Int),.nil]),(6,some [.int c8,.row 73 0 l16.length])]⟩:PS);refine Ag (Ab (Aa O (Af (Ag (Ar O (fun hb4=>?_) (fun hb4=>?_))))))
  ·replace h:=Ak hb4 h;refine Aq (Ag (Ap (Ag (Ab ?_))));obtain ⟨hg5,h⟩:=Ac h;refine Ad tt O hg5 (Aa O (Bi tt O O O O O O O O O (Ao tt O O O O O O O O O O O ⟨Y,Y,Y⟩ (Af (Ag (Cu (by kernel_rfl) (by kernel_rfl) ?_))))));iterate 3 refine Bq tt O (Ai O) O O O Y ?_
   obtain ⟨hg6,h⟩:=Ac h;refine Bq tt O (Ai O) O O O hg6 ?_;obtain ⟨hg7,h⟩:=Ac h;refine Bq tt O (Ai O) O O O hg7 ?_;iterate 3 refine Bq tt O (Ai O) O O O Y ?_
   obtain ⟨hg8,h⟩:=Ac h;refine Bq tt O (Ai O) O O O hg8 ?_;obtain ⟨hg9,h⟩:=Ac h;refine Bq tt O (Ai O) O O O hg9 ?_;iterate 2 refine Bq tt O (Ai O) O O O Y ?_
   refine Ms (Ag (Ab (Aa O (Aa O (Aa O (Be O O O (fun hb10=>?_) (fun hb10=>?_)))))))
   ·replace h:=Ak hb10 h;iterate 2 refine Av tt O O O O O hb10 O O O Y ?_
    refine Bm O O O O O hb10 O (Af (Ar O (fun hb11=>?_) (fun hb11=>?_)))
    ·replace h:=Ak hb11 h;refine Ab ?_;iterate 4 refine Aa O ?_
     refine Fz (Ai O) (Df Bx O O) O O (Cr tt O O O O O O O O O O O ?_);obtain ⟨hg12,h⟩:=Ac h;refine Bt tt O O O O O O O O O O O O O O O O (Nat.le_of_eq (Nat.zero_add _)) hg12 (Aa O (Ao tt O O O O O O O O O O O ⟨Y,Y⟩ (Af (Ab ?_))));obtain ⟨hg13,h⟩:=Ac h;refine Ad tt O hg13 (Aa O (Af ?_));show ∃ _,_;exact ⟨((l16++([((l7.getD (((g_0.bars.getD ((x17).toNat) (0,0)).1).toNat) 0),(l7.getD (((g_0.bars.getD ((x17).toNat) (0,0)).2).toNat) 0))]:List (Int×Int))),(x17+(1:Int))),(En.of ⟨O,O,O,O,O,O,Y⟩ ⟨O,O,Y⟩ ⟨O,O,Y⟩),h⟩
    replace h:=Al hb11 h;refine Aq (Ab ?_);obtain ⟨hg14,h⟩:=Ac h;refine Ad tt O hg14 (Aa O (Af ?_));show ∃ _,_;exact ⟨(l16,(x17+(1:Int))),(En.of ⟨O,O,O,O,O,O,Y⟩ ⟨O,O,Y⟩ ⟨O,O,Y⟩),h⟩
   replace h:=Al hb10 h;iterate 2 refine Kq O O O O hb10 O O ?_
   refine Aw O O O O O hb10 O (Af (Cp O O (Aq (Ab ?_))));obtain ⟨hg15,h⟩:=Ac h;refine Ad tt O hg15 (Aa O (Af ?_));show ∃ _,_;exact ⟨(l16,(x17+(1:Int))),(En.of ⟨O,O,O,O,O,O,Y⟩ ⟨O,O,Y⟩ ⟨O,O,Y⟩),h⟩
  replace h:=Al hb4 h;refine Bp ?_;show ∃ _,_;exact ⟨l16,(En.of ⟨O,O,Y⟩ ⟨O,Y⟩ ⟨O,O,Y⟩),h⟩
 intro k h;refine Ap (Bh (α:=(List Int)×Int×Int) (fun | (l20,x21,c22)=>(⟨[(1,.ro false (.ints set_1)),(2,.ptr 2 0),(4,.ptr 4 0),(5,.row 16 0 ((List.replicate (((max (0:Int) (min g_0.n (8:Int)))).toNat) (0:Int)).length)),(6,.ptr 6 0),(19,.int ((List.replicate (((max (0:Int) (min g_0.n (8:Int)))).toNat) (0:Int)).length:Int)),(20,.int x21)],[(16,some (3,.ints l20))],[(2,some [.int g_0.n,.ro false (.pairs g_0.bars)]),(4,some [.int (0:Int),.nil]),(6,some [.int c22,.nil])]⟩:PS)) (Dx N g_0 set_1 k) h (En.of ⟨rfl,rfl,rfl,rfl,rfl,rfl,rfl,Y⟩ ⟨rfl,Y⟩ ⟨rfl,rfl,rfl,Y⟩) (fun _=>rfl) ?_);rintro n ⟨l20,x21,c22⟩ h;rw [Dx] at h;show VC _ _ _ (⟨[(1,.ro false (.ints set_1)),(2,.ptr 2 0),(4,.ptr 4 0),(5,.row 16 0 ((List.replicate (((max (0:Int) (min g_0.n (8:Int)))).toNat) (0:Int)).length)),(6,.ptr 6 0),(19,.int ((List.replicate (((max (0:Int) (min g_0.n (8:Int)))).toNat) (0:Int)).length:Int)),(20,.int x21)],[(16,some (3,.ints l20))],[(2,some [.int g_0.n,.ro false (.pairs g_0.bars)]),(4,some [.int (0:Int),.nil]),(6,some [.int c22,.nil])]⟩:PS);refine Ag (Ab (Aa O (Af (Ag (Ar O (fun hb16=>?_) (fun hb16=>?_))))))
 ·replace h:=Ak hb16 h;refine Aq (Ag (Ap (Ag (Ab (Aa O (Aa O (Af (Ag (Ab ?_)))))))));refine Aa O (Aa O ?_);obtain ⟨hg17,h⟩:=Ac h;refine Ad tt O hg17 ?_;obtain ⟨hg18,h⟩:=Ac h;refine Ao tt O O O O O O O O O O ⟨_,_,O,hg18.1,hg18.2⟩ ⟨hg18,Y⟩ (Af (Ag (Ab (Aa O (Aa O ?_)))));obtain ⟨v24,hc19,h⟩:=Ae h;refine Ba (Zo N set_1 x21 v24 hc19) O O O O O O O O ⟨O,O,Y⟩ (Aa O (Af (Ar O (fun hb20=>?_) (fun hb20=>?_))))
  ·replace h:=Ak hb20 h;refine Ag (Ab ?_);iterate 4 refine Aa O ?_
   refine Ad tt O hg17 ?_;obtain ⟨hg21,h⟩:=Ac h;refine Ao tt O O O O O O O O O O ⟨_,_,O,hg21.1,hg21.2⟩ ⟨hg21,Y⟩ (Af (Ab (Aa O (Aa O ?_))));obtain ⟨hg22,h⟩:=Ac h;refine Ad tt O hg22 (Aa O (Ao tt O O O O O O O O O O O ⟨Y,Y⟩ (Af (Ab ?_))));obtain ⟨hg23,h⟩:=Ac h;refine Ad tt O hg23 (Aa O (Af ?_));show ∃ _,_;exact ⟨(((l20.set ((x21).toNat) (-1:Int)).set ((x21).toNat) c22),(x21+(1:Int)),(c22+(1:Int))),(En.of ⟨O,O,O,O,O,O,O,Y⟩ ⟨O,Y⟩ ⟨O,O,O,Y⟩),h⟩
  replace h:=Al hb20 h;refine Aq (Ab ?_);obtain ⟨hg24,h⟩:=Ac h;refine Ad tt O hg24 (Aa O (Af ?_));show ∃ _,_;exact ⟨((l20.set ((x21).toNat) (-1:Int)),(x21+(1:Int)),c22),(En.of ⟨O,O,O,O,O,O,O,Y⟩ ⟨O,Y⟩ ⟨O,O,O,Y⟩),h⟩
 replace h:=Al hb16 h;refine Bp ?_;show ∃ _,_;exact ⟨(l20,c22),(En.of ⟨O,O,O,O,Y⟩ ⟨O,Y⟩ ⟨O,O,O,Y⟩),h⟩
def Es (N:Nat) (g_0:Grf) (k:((List Bool)×Bool)→Option (List Bool)):Nat→((List Bool)×Bool×Int)→Option (List Bool)
 | 0,_=>none
 | n+1,(l58,again59,x60)=>
  cnd (decide (x60<(g_0.bars.length:Int))) (
   grd (0≤x60∧x60<(g_0.bars.length:Int)) <|
   grd (0≤((g_0.bars.getD ((x60).toNat) (0,0)).1)∧((g_0.bars.getD ((x60).toNat) (0,0)).1)<((List.replicate ((g_0.n).toNat) (false:Bool)).length:Int)) <|
   grd (0≤((g_0.bars.getD ((x60).toNat) (0,0)).1)∧((g_0.bars.getD ((x60).toNat) (0,0)).1)<(l58.length:Int)) <|
   grd (0≤((g_0.bars.getD ((x60).toNat) (0,0)).2)∧((g_0.bars.getD ((x60).toNat) (0,0)).2)<((List.replicate ((g_0.n).toNat) (false:Bool)).length:Int)) <|
   grd (0≤((g_0.bars.getD ((x60).toNat) (0,0)).2)∧((g_0.bars.getD ((x60).toNat) (0,0)).2)<(l58.length:Int)) <|
   cnd ((l58.getD (((g_0.bars.getD ((x60).toNat) (0,0)).1).toNat) false) != (l58.getD (((g_0.bars.getD ((x60).toNat) (0,0)).2).toNat) false)) (
    grd (0≤((g_0.bars.getD ((x60).toNat) (0,0)).2)∧((g_0.bars.getD ((x60).toNat) (0,0)).2)<((l58.set (((g_0.bars.getD ((x60).toNat) (0,0)).1).toNat) true).length:Int)) <|
    grd (Bc (x60+(1:Int))) <|
    Es N g_0 k n (((l58.set (((g_0.bars.getD ((x60).toNat) (0,0)).1).toNat) true).set (((g_0.bars.getD ((x60).toNat) (0,0)).2).toNat) true),true,(x60+(1:Int)))) (
    grd (Bc (x60+(1:Int))) <|
    Es N g_0 k n (l58,again59,(x60+(1:Int))))) (
   k (l58,again59))
def Cd (N:Nat) (g_0:Grf) (k:(List Bool)→Option (List Bool)):Nat→((List Bool)×Bool)→Option (List Bool)
 | 0,_=>none
 | n+1,(l41,again42)=>
  cnd again42 (
   Es N g_0 (fun (x:(List Bool)×Bool)=>
     match x with
     | (l55,again56)=>
      Cd N g_0 k n (l55,again56)) N (l41,false,(0:Int))) (
   k l41)
def Ps (N:Nat) (g_0:Grf) (v_1:Int):Option (List Bool):=
 grd (0≤g_0.n∧g_0.n≤4294967296) <|
 grd (0≤v_1∧v_1<((List.replicate ((g_0.n).toNat) (false:Bool)).length:Int)) <|
 Cd N g_0 (fun (l30 : List Bool) =>
    grd ((List.replicate ((g_0.n).toNat) (false:Bool)).length=l30.length) <|
    some l30) N (((List.replicate ((g_0.n).toNat) (false:Bool)).set ((v_1).toNat) true),true)
theorem Abq (N:Nat) (g_0:Grf) (v_1:Int) (r:List Bool) (h:Ps N g_0 v_1=some r):PCall Tryz.prog 210 [gD g_0,.int v_1] [(4,.bools r)] (.row 0 0 r.length):=by
 unfold Ps at h;refine Aj (TT:=TT) tt Tryz.func210 O O Tryz.ntmps210 (congrArg Array.toList Tryz.results210) O O fun w0=>(Ag (Ab (Hz O O O O O O O O O (Aa O (Af (Ag (Ab (Aa O (Aa O ?_)))))))));obtain ⟨hg1,h⟩:=Ac h;refine oMake tt O O O O O O O O O O O hg1 (Aa O (Af (Ag (Ab (Aa O (Aa O ?_))))));obtain ⟨hg2,h⟩:=Ac h;refine Ad tt O hg2 (Ao tt O O O O O O O O O O ⟨_,_,O,hg2.1,hg2.2⟩ ⟨hg2,Y⟩ (Af (Ag (Ag (Ab (Aa O (Af (Bz (F:=fun k=>Cd N g_0 k) h (α:=List Bool) (J:=fun (l30:List Bool)=>(⟨[(5,.row 11 0 ((List.replicate ((g_0.n).toNat) (false:Bool)).length))],[(11,some (4,.bools l30))],[]⟩:PS)) ?_ ?_))))))))
 ·rintro l30 h;show VC _ _ _ (⟨[(5,.row 11 0 ((List.replicate ((g_0.n).toNat) (false:Bool)).length))],[(11,some (4,.bools l30))],[]⟩:PS);refine Ag (Ab (Aa O (Aa O (Af ?_))));show VC ..;obtain ⟨hg3,h⟩:=Ac h;refine Bg ?_;show ∃ _,_;cases h;exact ⟨[11],_,O,⟨O,Y⟩,O,(.eq (by simp only [hg3]; rfl)),O⟩
 intro k h;refine Ap (Bh (α:=(List Bool)×Bool) (fun | (l41,again42)=>(⟨[(2,.ptr 2 0),(5,.row 11 0 ((List.replicate ((g_0.n).toNat) (false:Bool)).length)),(6,.bool again42)],[(11,some (4,.bools l41))],[(2,some [.int g_0.n,.ro false (.pairs g_0.bars)])]⟩:PS)) (Cd N g_0 k) h (En.of ⟨rfl,rfl,rfl,Y⟩ ⟨rfl,Y⟩ ⟨rfl,Y⟩) (fun _=>rfl) ?_);rintro n ⟨l41,again42⟩ h;rw [Cd] at h;show VC _ _ _ (⟨[(2,.ptr 2 0),(5,.row 11 0 ((List.replicate ((g_0.n).toNat) (false:Bool)).length)),(6,.bool again42)],[(11,some (4,.bools l41))],[(2,some [.int g_0.n,.ro false (.pairs g_0.bars)])]⟩:PS);refine Ag (Ag (Ab (Aa O (Af (Ar O (fun hb4=>?_) (fun hb4=>?_))))))
 ·replace h:=Ak hb4 h;refine Aq (Ap (Ag (Ab (Aa O (Af (Ag (Ab ?_)))))));iterate 4 refine Aa O ?_
  refine Af (Bz (F:=fun k=>Es N g_0 k) h (α:=(List Bool)×Bool) (J:=fun | (l55,again56)=>(⟨[(2,.ptr 2 0),(5,.row 11 0 ((List.replicate ((g_0.n).toNat) (false:Bool)).length)),(6,.bool again56)],[(11,some (4,.bools l55))],[(2,some [.int g_0.n,.ro false (.pairs g_0.bars)])]⟩:PS)) ?_ ?_)
  ·rintro ⟨l55,again56⟩ h;show ∃ _,_;exact ⟨(l55,again56),(En.of ⟨O,O,O,Y⟩ ⟨O,Y⟩ ⟨O,Y⟩),h⟩
  intro k h;refine Ap (Bh (α:=(List Bool)×Bool×Int) (fun | (l58,again59,x60)=>(⟨[(2,.ptr 2 0),(5,.row 11 0 ((List.replicate ((g_0.n).toNat) (false:Bool)).length)),(6,.bool again59),(17,.ro false (.pairs g_0.bars)),(18,.int (g_0.bars.length:Int)),(19,.int x60)],[(11,some (4,.bools l58))],[(2,some [.int g_0.n,.ro false (.pairs g_0.bars)])]⟩:PS)) (Es N g_0 k) h (En.of ⟨rfl,rfl,rfl,rfl,rfl,rfl,Y⟩ ⟨rfl,Y⟩ ⟨rfl,Y⟩) (fun _=>rfl) ?_);rintro n ⟨l58,again59,x60⟩ h;rw [Es] at h;show VC _ _ _ (⟨[(2,.ptr 2 0),(5,.row 11 0 ((List.replicate ((g_0.n).toNat) (false:Bool)).length)),(6,.bool again59),(17,.ro false (.pairs g_0.bars)),(18,.int (g_0.bars.length:Int)),(19,.int x60)],[(11,some (4,.bools l58))],[(2,some [.int g_0.n,.ro false (.pairs g_0.bars)])]⟩:PS);refine Ag (Ab (Aa O (Af (Ag (Ar O (fun hb5=>?_) (fun hb5=>?_))))))
  ·replace h:=Ak hb5 h;refine Aq (Ag (Ap (Ag (Ab ?_))));obtain ⟨hg6,h⟩:=Ac h;refine Ad tt O hg6 (Aa O (Bi tt O O O O O O O O O (Ao tt O O O O O O O O O O O ⟨Y,Y,Y⟩ (Af (Ag (Cu (by kernel_rfl) (by kernel_rfl) ?_))))));iterate 3 refine Bq tt O (Ai O) O O O Y ?_
   obtain ⟨hg7,h⟩:=Ac h;refine Bq tt O (Ai O) O O O hg7 ?_;obtain ⟨hg8,h⟩:=Ac h;refine Bq tt O (Ai O) O O O hg8 ?_;iterate 3 refine Bq tt O (Ai O) O O O Y ?_
   obtain ⟨hg9,h⟩:=Ac h;refine Bq tt O (Ai O) O O O hg9 ?_;obtain ⟨hg10,h⟩:=Ac h;refine Bq tt O (Ai O) O O O hg10 (Abp (Ai O) (pNeB Tryz.underlying4 O O O) O O (Ms (Ar O (fun hb11=>?_) (fun hb11=>?_))))
   ·replace h:=Ak hb11 h;refine Ag (Ab (Aa O (Aa O (Aa O (Ad tt O hg7 (Ao tt O O O O O O O O O O ⟨_,_,O,hg8.1,hg8.2⟩ ⟨hg8,Y⟩ (Af (Ag (Ab ?_)))))))));refine Aa O (Aa O (Aa O (Ad tt O hg9 ?_)));obtain ⟨hg12,h⟩:=Ac h;refine Ao tt O O O O O O O O O O ⟨_,_,O,hg12.1,hg12.2⟩ ⟨hg12,Y⟩ (Af (Ab (Aa O (Af (Ab ?_)))));obtain ⟨hg13,h⟩:=Ac h;refine Ad tt O hg13 (Aa O (Af ?_));show ∃ _,_;exact ⟨(((l58.set (((g_0.bars.getD ((x60).toNat) (0,0)).1).toNat) true).set (((g_0.bars.getD ((x60).toNat) (0,0)).2).toNat) true),true,(x60+(1:Int))),(En.of ⟨O,O,O,O,O,O,Y⟩ ⟨O,Y⟩ ⟨O,Y⟩),h⟩
   replace h:=Al hb11 h;refine Aq (Ab ?_);obtain ⟨hg14,h⟩:=Ac h;refine Ad tt O hg14 (Aa O (Af ?_));show ∃ _,_;exact ⟨(l58,again59,(x60+(1:Int))),(En.of ⟨O,O,O,O,O,O,Y⟩ ⟨O,Y⟩ ⟨O,Y⟩),h⟩
  replace h:=Al hb5 h;refine Bp ?_;show ∃ _,_;exact ⟨(l58,again59),(En.of ⟨O,O,O,Y⟩ ⟨O,Y⟩ ⟨O,Y⟩),h⟩
 replace h:=Al hb4 h;refine Bp ?_;show ∃ _,_;exact ⟨l41,(En.of ⟨O,Y⟩ ⟨O,Y⟩ trivial),h⟩
def Gw (N:Nat) (v3:List Bool) (k:(List Int)→Option (List Int)):Nat→((List Int)×Int)→Option (List Int)
 | 0,_=>none
 | n+1,(l8,x9)=>
  cnd (decide (x9<(v3.length:Int))) (
   grd (0≤x9∧x9<(v3.length:Int)) <|
   cnd (v3.getD ((x9).toNat) false) (
    grd (l8.length+1≤4294967296) <|
    grd (Bc (x9+(1:Int))) <|
    Gw N v3 k n ((l8++([x9]:List Int)),(x9+(1:Int)))) (
    grd (Bc (x9+(1:Int))) <|
    Gw N v3 k n (l8,(x9+(1:Int))))) (
   k l8)
def Tq (N:Nat) (g_0:Grf) (v_1:Int):Option (List Int):=
 (Cs N g_0).bind fun v1=>
 cnd (!v1) (
  some ([]:List Int)) (
  (Kd N g_0 v_1).bind fun v2=>
  cnd (!v2) (
   some ([]:List Int)) (
   (Ps N g_0 v_1).bind fun v3=>
   Gw N v3 (fun (l6 : List Int) =>
      some l6) N (([]:List Int),(0:Int))))
theorem I_ReachOf_w (N:Nat) (g_0:Grf) (v_1:Int) (r:List Int) (h:Tq N g_0 v_1=some r):PCall Tryz.prog 203 [gD g_0,.int v_1] [(3,.ints r)] (.row 0 0 r.length):=by
 unfold Tq at h;refine Aj (TT:=TT) tt Tryz.func203 O O Tryz.ntmps203 (congrArg Array.toList Tryz.results203) O O fun w0=>(Ag (Ab (Hz O O O O O O O O O (Aa O (Af (Ag (Ab (Gr tt (Ai O) O O O O (Aa O ?_)))))))));refine Af (Ag (Ag (Ab (Aa O ?_))));obtain ⟨v1,hc1,h⟩:=Ae h;refine Ba (Fx N g_0 v1 hc1) O O O O O O O O ⟨⟨O,O,Y⟩,Y⟩ (Aa O (Aa O (Be O O O (fun hb2=>?_) (fun hb2=>?_))))
 ·replace h:=Ak hb2 h;iterate 4 refine Hg O O O O hb2 O O ?_
  refine Bm O O O O O hb2 O (Af (Ce O O (Ag (Ab (Aa O (Aa O (Af (Jq 4 9001 3 (.ints []) O O O O (Bg ?_)))))))));show ∃ _,_;cases h;exact ⟨[9001],_,O,⟨O,Y⟩,O,.eq O,O⟩
 replace h:=Al hb2 h;iterate 2 refine Av tt O O O O O hb2 O O O Y ?_
 obtain ⟨v2,hc3,h⟩:=Ae h;refine Eh (Yn N g_0 v_1 v2 hc3) O O O O hb2 O O O O O O O ⟨⟨O,O,Y⟩,O,Y⟩ (Av tt O O O O O hb2 O O O Y (Aw O O O O O hb2 O (Af (Ar O (fun hb4=>?_) (fun hb4=>?_)))))
 ·replace h:=Ak hb4 h;refine Ag (Ab (Aa O (Aa O (Af (Jq 4 9001 3 (.ints []) O O O O (Bg ?_))))));show ∃ _,_;cases h;exact ⟨[9001],_,O,⟨O,Y⟩,O,.eq O,O⟩
 replace h:=Al hb4 h;refine Aq (Ag (Ag (Ab (Aa O (Aa O ?_)))));obtain ⟨v3,hc5,h⟩:=Ae h;refine Ba (Abq N g_0 v_1 v3 hc5) O O O O O O O O ⟨⟨O,O,Y⟩,O,Y⟩ (Aa O (Aa O (Af (Bz (F:=fun k=>Gw N v3 k) h (α:=List Int) (J:=fun (l6:List Int)=>(⟨[(5,.row 32 0 l6.length)],[(32,some (3,.ints l6))],[]⟩:PS)) ?_ ?_))))
 ·rintro l6 h;show VC _ _ _ (⟨[(5,.row 32 0 l6.length)],[(32,some (3,.ints l6))],[]⟩:PS);refine Ag (Ab (Aa O (Aa O (Af (Bg ?_)))));show ∃ _,_;cases h;exact ⟨[32],_,O,⟨O,Y⟩,O,.eq O,O⟩
 intro k h;refine Ap (Jq 5 32 3 (.ints []) rfl rfl rfl rfl (Bh (α:=(List Int)×Int) (fun | (l8,x9)=>(⟨[(5,.row 32 0 l8.length),(21,.row 1210 0 v3.length),(22,.int (v3.length:Int)),(23,.int x9)],[(32,some (3,.ints l8)),(1210,some (4,.bools v3))],[]⟩:PS)) (Gw N v3 k) h (En.of ⟨rfl,rfl,rfl,rfl,Y⟩ ⟨rfl,rfl,Y⟩ trivial) (fun _=>rfl) ?_));rintro n ⟨l8,x9⟩ h;rw [Gw] at h;show VC _ _ _ (⟨[(5,.row 32 0 l8.length),(21,.row 1210 0 v3.length),(22,.int (v3.length:Int)),(23,.int x9)],[(32,some (3,.ints l8)),(1210,some (4,.bools v3))],[]⟩:PS);refine Ag (Ab (Aa O (Af (Ag (Ar O (fun hb6=>?_) (fun hb6=>?_))))))
 ·replace h:=Ak hb6 h;refine Aq (Ag (Ap (Ag (Ab (Aa O ?_)))));obtain ⟨hg7,h⟩:=Ac h;refine Ad tt O hg7 (Ad tt O hg7 (Aa O (Aa O (Af (Ag (Ab (Aa O (Af (Ar O (fun hb8=>?_) (fun hb8=>?_))))))))))
  ·replace h:=Ak hb8 h;refine Ab (Aa O (Aa O (Cr tt O O O O O O O O O O O ?_)));obtain ⟨hg9,h⟩:=Ac h;refine Bt tt O O O O O O O O O O O O O O O O (Nat.le_of_eq (Nat.zero_add _)) hg9 (Aa O (Af (Ab ?_)));obtain ⟨hg10,h⟩:=Ac h;refine Ad tt O hg10 (Aa O (Af ?_));show ∃ _,_;exact ⟨((l8++([x9]:List Int)),(x9+(1:Int))),(En.of ⟨O,O,O,O,Y⟩ ⟨O,O,Y⟩ trivial),h⟩
  replace h:=Al hb8 h;refine Aq (Ab ?_);obtain ⟨hg11,h⟩:=Ac h;refine Ad tt O hg11 (Aa O (Af ?_));show ∃ _,_;exact ⟨(l8,(x9+(1:Int))),(En.of ⟨O,O,O,O,Y⟩ ⟨O,O,Y⟩ trivial),h⟩
 replace h:=Al hb6 h;refine Bp ?_;show ∃ _,_;exact ⟨l8,(En.of ⟨O,Y⟩ ⟨O,Y⟩ trivial),h⟩
end
section
variable {n:Nat} {N:Nat}
theorem tailR_s (hN:4000000≤N) {p:Pbl} (hl:p.tails.length≤3000000) (v:Int):Xj N p v=some (p.tails.count v:Int):=by
 unfold Xj;refine Eq.trans ?_ (fold (N:=N) (len:=p.tails.length) (σ:=Int) (st:=fun i=>((p.tails.take i).count v:Int)) (F:=fun m s=>Ft N p v (fun n3=>some n3) m (s.1,s.2)) (fin:=some (p.tails.count v:Int)) (by omega) (fun m i hi=>?_) fun m=>?_)
 ·simp
 ·show Ft N p v _ (m+1) (((p.tails.take i).count v:Int),(i:Int))=Ft N p v _ m (((p.tails.take (i+1)).count v:Int),((i+1:Nat):Int))
  have e:p.tails.take (i+1)=p.tails.take i++[p.tails.getD i 0]:=by
   rw [List.take_add_one,List.getElem?_eq_getElem hi,List.getD_eq_getElem?_getD,List.getElem?_eq_getElem hi]; rfl
  have hc:=List.count_le_length (a:=v) (l:=p.tails.take i);have ht:(p.tails.take i).length≤i:=by rw [List.length_take]; omega
  rw [Ft,Bb (by omega),Am (by omega),show ((i:Int)).toNat=i from by omega,e,List.count_append];by_cases hv:p.tails.getD i 0=v
  ·have hb:(p.tails.getD i 0==v)=true:=by rw [beq_iff_eq]; exact hv
   rw [hb,cnd_true,Bf (by omega) (by omega),Bf (by omega) (by omega),Ah,hv];simp
  have hb:(p.tails.getD i 0==v)=false:=by rw [beq_eq_false_iff_ne]; exact hv
  have hc2:[p.tails.getD i 0].count v=0:=by rw [List.count_eq_zero]; simpa using fun h=>hv h.symm
  rw [hb,cnd_false,Bf (by omega) (by omega),Ah,hc2]; rfl
 show Ft N p v _ (m+1) (((p.tails.take p.tails.length).count v:Int),(p.tails.length:Int))=_;rw [Ft,Ay (by omega),List.take_length]
structure Asc (p:Pbl) (i:Nat):Prop where
 lt:∀ j,0<j→j<p.placed.length→p.placed.getD (j-1) 0<p.placed.getD j 0
 last:∀ j,j<p.placed.length→p.placed.getD j 0<(i:Int)
theorem isPeb_s (hN:4000000≤N) {g:Grf} (hg:Bd g=true) (hn:g.n=n) {p:Pbl} (hp:PG n g.bars p) {i:Nat} (ha:Asc p i):Qh N g 2 p=some true:=by
 have hgp:=As hg;have fl:=hp.inv.fl;have tl:=hp.inv.tl;simp only [List.length_map] at tl;have t2:=hp.inv.tlen
 have l1:∀ (fuel v:Nat),v≤n→n<fuel+v→Hj N g 2 p (fun (_:Unit)=>some true) fuel (v:Int)=some true:=by
  intro fuel
  induction fuel with
  | zero=>intro v h1 h2; omega
  | succ fuel ih=>
   intro v h1 h2;rw [Hj];by_cases hv:v<n
   ·have h3:=hp.inv.nn v hv;have h4:=hp.inv.sm v hv;rw [Bb (by omega),Am (by omega),show ((v:Int)).toNat=v from by omega,Ay (by omega),tailR_s hN (by omega),Option.bind_some,Bf (by omega) (by omega)];have hb:((p.free.getD v 0+(p.tails.count (v:Int):Int)) != (2:Int))=false:=by rw [h4]; rfl
    rw [hb,cnd_false,Bf (by omega) (by omega),Ah];exact ih (v+1) (by omega) (by omega)
   rw [Ay (by omega)]
 have l2:∀ (fuel j:Nat) (kk:Unit→Option Bool),j≤p.placed.length→p.placed.length<fuel+j→Ek N g p kk fuel (j:Int)=kk ():=by
  intro fuel
  induction fuel with
  | zero=>intro j kk h1 h2; omega
  | succ fuel ih=>
   intro j kk h1 h2;rw [Ek];by_cases hj:j<p.placed.length
   ·have h3:=hp.pl (p.placed.getD j 0) (Fn hj);have h4:=hp.inv.en j (by rw [List.length_map]; exact hj);rw [eAt hj] at h4
    have hend:∀ X:Option Bool,cnd (p.tails.getD j 0 != (g.bars.getD (p.placed.getD j 0).toNat (0,0)).1) (cnd (p.tails.getD j 0 != (g.bars.getD (p.placed.getD j 0).toNat (0,0)).2) (some false) X) X=X:=by
     intro X;rcases h4 with h4 | h4
     ·have hb:(p.tails.getD j 0 != (g.bars.getD (p.placed.getD j 0).toNat (0,0)).1)=false:=by rw [h4]; simp
      rw [hb,cnd_false]
     have hb:(p.tails.getD j 0 != (g.bars.getD (p.placed.getD j 0).toNat (0,0)).2)=false:=by rw [h4]; simp
     rw [hb,cnd_false];cases (p.tails.getD j 0 != (g.bars.getD (p.placed.getD j 0).toNat (0,0)).1) <;> rfl
    rw [Bb (by omega),Am (p:=0≤(j:Int)∧(j:Int)<(p.placed.length:Int)) (by omega),show ((j:Int)).toNat=j from by omega,Ay (by omega),Ay (by omega),Am (p:=0≤(j:Int)∧(j:Int)<(p.tails.length:Int)) (by omega),Am (p:=0≤p.placed.getD j 0∧p.placed.getD j 0<(g.bars.length:Int)) (by omega),Bf (by omega) (by omega),hend,Ah];by_cases h0:0<j
    ·have h5:=ha.lt j h0 hj;rw [Bb (by omega),Bf (by omega) (by omega),Am (by omega),show ((j:Int)-1).toNat=j-1 from by omega,Ay (by omega)];exact ih (j+1) kk (by omega) (by omega)
    rw [Ay (by omega),Bf (by omega) (by omega)];exact ih (j+1) kk (by omega) (by omega)
   rw [Ay (by omega)]
 unfold Qh;have hb1:((p.free.length:Int) != g.n)=false:=by rw [fl,hn]; simp
 have hb2:((p.tails.length:Int) != (p.placed.length:Int))=false:=by rw [tl]; simp
 rw [Ca N hN,Option.bind_some,hg,Bool.not_true,cnd_false,Zg N,Option.bind_some,show inB (2:Int) 1 3=true from by decide,Bool.not_true,cnd_false,hb1,cnd_false,hb2,cnd_false];exact (l2 N 0 _ (by omega) (by omega)).trans (l1 N 0 (by omega) (by omega))
theorem rangeS_s:Sc N 2 3=some true:=by
 unfold Sc;rw [Zg N,Option.bind_some,show inB (2:Int) 1 3=true from by decide,cnd_true,Bb (by omega),Bf (by omega) (by omega)];rfl
theorem rangeI_s:Tg N 2 3=some true:=by
 unfold Tg;rw [Rf N,Option.bind_some,show inB (2:Int) 1 3=true from by decide,cnd_true,Bf (by omega) (by omega),Bf (by omega) (by omega),Rf N];rfl
theorem newPeb_s (hN:4000000≤N) {g:Grf} (hg:Bd g=true) (hn:g.n=n):Lh N g 2=some (⟨List.replicate n 2,[],[]⟩,true):=by
 have hgp:=As hg;unfold Lh;rw [Ca N hN,Option.bind_some,hg,Bool.not_true,cnd_false,Zg N,Option.bind_some,show inB (2:Int) 1 3=true from by decide,Bool.not_true,cnd_false];refine (fold (len:=n) (st:=fun i=>List.replicate i (2:Int)) (by omega) ?_ ?_)
 ·intro m i hi;rw [Gp];simp (disch:=omega) only [pst,List.length_replicate,Ah];rw [List.replicate_succ']
 intro m;rw [Gp,Ay (by omega)]
theorem place_s (hN:4000000≤N) {g:Grf} (hg:Bd g=true) (hn:g.n=n) (hb:∀ e∈g.bars,Bok n e) {p:Pbl} {i:Nat} (hi:i<g.bars.length) (h:Gm n g.bars p i) (ha:Asc p i) :
  ∃ (p':Pbl) (b:Bool),Pu N g 2 3 p (i:Int)=some (p',b)∧Gm n g.bars p' (i+1)∧Asc p' (i+1):=by
 have hgp:=As hg;have hbi:=hb _ (Fn (d:=(0,0)) hi);have r1:=hbi.1;have r2:=hbi.2.1;have r3:=hbi.2.2.1;have r4:=hbi.2.2.2.1;have fl0:=h.pg.inv.fl;have tl0:=h.pg.inv.tl;simp only [List.length_map] at tl0;have t20:=h.pg.inv.tlen
 have hcopy:Ji N p=some p:=by
  unfold Ji;rw [Am (by omega),Am (by omega),Am (by omega)]; rfl
 have hlast:∀ X Y:Option (Pbl×Bool),cnd (decide ((p.placed.length:Int) > 0)) (grd (Bc ((p.placed.length:Int)-1)) (grd (0≤((p.placed.length:Int)-1)∧((p.placed.length:Int)-1)<(p.placed.length:Int)) (cnd (decide (p.placed.getD ((p.placed.length:Int)-1).toNat 0≥(i:Int))) Y X))) X=X:=by
  intro X Y;by_cases h0:(p.placed.length:Int) > 0
  ·have h5:=ha.last (p.placed.length-1) (by omega);rw [Bb h0,Bf (by omega) (by omega),Am (by omega),show ((p.placed.length:Int)-1).toNat=p.placed.length-1 from by omega,Ay (by omega)]
  rw [Ay h0]
 unfold Pu;rw [isPeb_s hN hg hn h.pg ha,Option.bind_some,Bool.not_true,cnd_false,rangeS_s,Option.bind_some,Bool.not_true,cnd_false,Ay (by omega),Ay (by omega),hlast];rw [Am (by omega),Bf (by omega) (by omega),show ((i:Int)).toNat=i from by omega];obtain ⟨p',g1,g2,⟨g3,g4⟩ | ⟨g3,g4⟩⟩:=gather_s hN (by omega) hn (a:=(g.bars.getD i (0,0)).1) (b:=(g.bars.getD i (0,0)).2) hbi h.pg
 ·have le1:=g2.inv.le2 (v:=(g.bars.getD i (0,0)).2.toNat) (by omega);have le2:=g2.inv.le2 (v:=(g.bars.getD i (0,0)).1.toNat) (by omega);have hput:=h.put hi hbi g1 g2 (.inl rfl) (by omega) g4;have fl:=g2.inv.fl;have tl:=g2.inv.tl;simp only [List.length_map] at tl;have t2:=g2.inv.tlen;refine ⟨_,true,?_,hput,?_⟩
  ·show (Kn N g p (g.bars.getD i (0,0)).1 (g.bars.getD i (0,0)).2 4).bind _=_;rw [g3,Option.bind_some];dsimp only [jn];have hb0:((p'.free.getD (g.bars.getD i (0,0)).1.toNat 0)==(0:Int))=false:=by rw [beq_eq_false_iff_ne]; omega
   rw [Bool.not_true,cnd_false,Am (by omega),hb0,cnd_false];rw [Am (by omega),Bf (by omega) (by omega),Am (by omega),Am (by rw [g1]; omega),Am (by rw [List.length_set])]
  constructor
  ·intro j h0 hj;show (p'.placed++[(i:Int)]).getD (j-1) 0<(p'.placed++[(i:Int)]).getD j 0;have hj:j<(p'.placed++[(i:Int)]).length:=hj;rw [g1] at hj ⊢;rw [List.length_append] at hj;simp only [List.length_cons,List.length_nil] at hj;rw [Mq,Mq,if_pos (by omega)];by_cases hjl:j<p.placed.length
   ·rw [if_pos hjl]; exact ha.lt j h0 hjl
   rw [if_neg hjl,if_pos (by omega)]; exact ha.last (j-1) (by omega)
  intro j hj;show (p'.placed++[(i:Int)]).getD j 0<_;have hj:j<(p'.placed++[(i:Int)]).length:=hj;rw [g1] at hj ⊢;rw [List.length_append] at hj;simp only [List.length_cons,List.length_nil] at hj;rw [Mq];by_cases hjl:j<p.placed.length
  ·rw [if_pos hjl]; have:=ha.last j hjl; omega
  rw [if_neg hjl,if_pos (by omega)]; omega
 refine ⟨p,false,?_,h.skip g4,⟨ha.lt,fun j hj=>by have:=ha.last j hj; omega⟩⟩;show (Kn N g p (g.bars.getD i (0,0)).1 (g.bars.getD i (0,0)).2 4).bind _=_;rw [g3,Option.bind_some];show cnd (!false) _ _=_;rw [Bool.not_false,cnd_true,hcopy]; rfl
theorem runS_s (hN:4000000≤N) {g:Grf} (hg:Bd g=true) (hn:g.n=n) (hb:∀ e∈g.bars,Bok n e):∃ p:Pbl,Gm n g.bars p g.bars.length∧Jz N g 2 3=some (p,true):=by
 have hgp:=As hg;unfold Jz;rw [newPeb_s hN hg hn,Option.bind_some];show ∃ p,_∧cnd (!true) _ _=_;rw [Bool.not_true,cnd_false,rangeS_s,Option.bind_some,Bool.not_true,cnd_false]
 have key:∀ (fuel i:Nat) (p:Pbl),i≤g.bars.length→g.bars.length<fuel+i→Gm n g.bars p i→Asc p i→∃ p':Pbl,Gm n g.bars p' g.bars.length ∧
   Gj N g 2 3 (fun (x:(List Int)×(List Int)×(List Int))=>match x with | (l17,l18,l19)=>some ((⟨l17,l18,l19⟩:Pbl),true)) fuel (p.free,p.tails,p.placed,(i:Int))=some (p',true):=by
  intro fuel
  induction fuel with
  | zero=>intro i p h1 h2; omega
  | succ fuel ih=>
   intro i p h1 h2 h3 h4;rw [Gj];by_cases hi:i<g.bars.length
   ·obtain ⟨p',b,k1,k2,k3⟩:=place_s hN hg hn hb hi h3 h4;obtain ⟨q,q1,q2⟩:=ih (i+1) p' (by omega) (by omega) k2 k3;refine ⟨q,q1,?_⟩;rw [Bb (by omega)];show (Pu N g 2 3 p (i:Int)).bind _=_;rw [k1,Option.bind_some];show grd (Bc ((i:Int)+1)) _=_;rw [Bf (by omega) (by omega),Ah];exact q2
   have e:i=g.bars.length:=by omega
   subst e;rw [Ay (by omega)];exact ⟨p,h3,O⟩
 exact key N 0 ⟨List.replicate n 2,[],[]⟩ (by omega) (by omega) (Gm.start g.bars) ⟨fun j h1 h2=>by simp at h2,fun j h2=>by simp at h2⟩
theorem runI_s (hN:4000000≤N) {g:Grf} (hg:Bd g=true) (hn:g.n=n) (hb:∀ e∈g.bars,Bok n e):∃ p:Pbl,Gm n g.bars p g.bars.length∧Kc N g 2 3=some (p,true):=by
 have hgp:=As hg;obtain ⟨p',g1,g2⟩:=play1_s hN (by omega) hb (by omega) (kk:=fun x=>match x with | (l24,l25,l26)=>some (⟨l24,l25,l26⟩:Pbl)) N 0 ⟨List.replicate n 2,[],[]⟩ (by omega) (by omega) (Gm.start g.bars);refine ⟨p',g1,?_⟩
 have e:I_play N n g.bars 2 3=some p':=by
  unfold I_play;refine (fold (len:=n) (st:=fun i=>List.replicate i (2:Int)) (by omega) ?_ ?_)
  ·intro m i hi;rw [Qv];simp (disch:=omega) only [pst,List.length_replicate,Ah];rw [List.replicate_succ']
  intro m;rw [Qv];rw [Ay (by omega)];exact g2
 unfold Kc;rw [Ed N hN,Option.bind_some,hg,Bool.not_true,cnd_false,rangeI_s,Option.bind_some,Bool.not_true,cnd_false,hn,e];rfl
theorem rank_x (hN:4000000≤N) {g:Grf}:∃ r:Int,-1≤r∧r≤24∧Lp N g 2 3=some r∧Sl N g 2 3=some r:=by
 unfold Lp Sl
 cases hg:Bd g with
 | false=>
  refine ⟨-1,by omega,by omega,?_,?_⟩
  ·have:Jz N g 2 3=some (⟨[],[],[]⟩,false):=by
    unfold Jz Lh;rw [Ca N hN,Option.bind_some,hg]; rfl
   rw [this]; rfl
  have:Kc N g 2 3=some (⟨[],[],[]⟩,false):=by
   unfold Kc;rw [Ed N hN,Option.bind_some,hg]; rfl
  rw [this]; rfl
 | true=>
  have hgp:=As hg;have hn:g.n=(g.n.toNat:Int):=by omega
  have hb:∀ e∈g.bars,Bok g.n.toNat e:=fun e he=>by
   have:=Da hg he;exact ⟨by omega,by omega,by omega,by omega,by omega⟩
  obtain ⟨p,k1,k2⟩:=runS_s hN hg hn hb;obtain ⟨q,q1,q2⟩:=runI_s hN hg hn hb;have b1:=k1.bas;have b2:=q1.bas
  have hlen:p.placed.length=q.placed.length:=by
   have a1:=Bas.len hb b1 b2 (fun e he=>b2.1 e he);have a2:=Bas.len hb b2 b1 (fun e he=>b1.1 e he);simp only [List.length_map] at a1 a2;omega
  have t2:=k1.pg.inv.tlen;have tl:=k1.pg.inv.tl;simp only [List.length_map] at tl;refine ⟨(p.placed.length:Int),by omega,by omega,?_,?_⟩
  ·rw [k2]; rfl
  rw [q2,hlen]; rfl
end
section
variable {N:Nat}
def Acj (m:Int) (j:Nat):Bool:=Wf (shrI m (j:Int)) (1:Int)==(1:Int)
def Ec (m:Int) (k:Nat):List Int:=((List.range k).filter (Acj m)).map fun (j:Nat)=>(j:Int)
theorem Ab7 (m:Int) (k:Nat):Ec m (k+1)=cnd (Acj m k) (Ec m k++[(k:Int)]) (Ec m k):=by
 unfold Ec;rw [List.range_succ,List.filter_append,List.map_append];cases h:Acj m k <;> simp [h,cnd]
theorem Jm (m:Int) (k:Nat):(Ec m k).length≤k:=by
 unfold Ec;rw [List.length_map];exact Nat.le_trans (List.length_filter_le _ _) (by simp)
theorem Zb {m:Int} {k:Nat} {x:Int} (h:x∈Ec m k):0≤x∧x<(k:Int):=by
 unfold Ec at h;obtain ⟨j,h1,rfl⟩:=List.mem_map.1 h;have:=(List.mem_filter.1 h1).1;have:=List.mem_range.1 this;omega
theorem setS_s (hN:4000000≤N) {n m:Int} (hn:n≤1000):Wy N n m=some (Ec m n.toNat):=by
 unfold Wy;refine Eq.trans ?_ (fold (N:=N) (len:=n.toNat) (σ:=List Int) (st:=fun i=>Ec m i) (F:=fun f s=>Gu N n m (fun l3=>some l3) f (s.1,s.2)) (fin:=some (Ec m n.toNat)) (by omega) (fun f i hi=>?_) fun f=>?_)
 ·simp [Ec]
 ·show Gu N n m _ (f+1) (Ec m i,(i:Int))=Gu N n m _ f (Ec m (i+1),((i+1:Nat):Int));have hl:=Jm m i;rw [Gu,Bb (by omega),Am (by omega),Ab7];show cnd (Acj m i) _ _=_
  cases Acj m i with
  | true=>rw [cnd_true,cnd_true,Am (by omega),Bf (by omega) (by omega),Ah]
  | false=>rw [cnd_false,cnd_false,Bf (by omega) (by omega),Ah]
 show Gu N n m _ (f+1) (Ec m n.toNat,((n.toNat:Nat):Int))=_;rw [Gu,Ay (by omega)]
theorem setI_s (hN:4000000≤N) {n m:Int} (hn:n≤1000):Qj N m n=some (Ec m n.toNat):=by
 unfold Qj;refine Eq.trans ?_ (fold (N:=N) (len:=n.toNat) (σ:=List Int) (st:=fun i=>Ec m i) (F:=fun f s=>Gt N m n (fun l3=>some l3) f (s.1,s.2)) (fin:=some (Ec m n.toNat)) (by omega) (fun f i hi=>?_) fun f=>?_)
 ·simp [Ec]
 ·show Gt N m n _ (f+1) (Ec m i,(i:Int))=Gt N m n _ f (Ec m (i+1),((i+1:Nat):Int));have hl:=Jm m i;rw [Gt,Bb (by omega),Am (by omega),Ab7];show cnd (Acj m i) _ _=_
  cases Acj m i with
  | true=>rw [cnd_true,cnd_true,Am (by omega),Bf (by omega) (by omega),Ah]
  | false=>rw [cnd_false,cnd_false,Bf (by omega) (by omega),Ah]
 show Gt N m n _ (f+1) (Ec m n.toNat,((n.toNat:Nat):Int))=_;rw [Gt,Ay (by omega)]
def Gc (set:List Int) (i:Nat):Nat:=(List.range i).countP fun (j:Nat)=>!set.contains (j:Int)
theorem Rz (set:List Int) (i:Nat):Gc set (i+1)=Gc set i+(if set.contains (i:Int) then 0 else 1):=by
 unfold Gc;rw [List.range_succ,List.countP_append,List.countP_singleton];cases set.contains (i:Int) <;> rfl
theorem outN_set (m:Int) (k:Nat):Gc (Ec m k) k+(Ec m k).length=k:=by
 have h1:(Ec m k).length=(List.range k).countP (Acj m):=by unfold Ec; rw [List.length_map,List.countP_eq_length_filter]
 have h2:Gc (Ec m k) k=(List.range k).countP fun j=>!Acj m j:=by
  unfold Gc;apply List.countP_congr;intro j hj;have hj:=List.mem_range.1 hj
  have:(Ec m k).contains (j:Int)=Acj m j:=by
   rw [Bool.eq_iff_iff,List.contains_iff_mem];unfold Ec;constructor
   ·intro h;obtain ⟨i,h1,h2⟩:=List.mem_map.1 h;have:i=j:=by omega
    subst this;exact (List.mem_filter.1 h1).2
   intro h;exact List.mem_map.2 ⟨j,List.mem_filter.2 ⟨List.mem_range.2 hj,h⟩,O⟩
  rw [this]
 rw [h1,h2];have:=List.length_eq_countP_add_countP (Acj m) (l:=List.range k);rw [List.length_range] at this
 have h3:(List.range k).countP (fun j=>!Acj m j)=(List.range k).countP (fun a=>decide ¬Acj m a=true):=by
  apply List.countP_congr;intro j _;simp
 rw [h3]; omega
theorem wo_l2 (hN:4000000≤N) {g:Grf} {set:List Int} (hs:set.length≤3000000) {m:Nat} (hm:(max (0:Int) (min (8:Int) g.n)).toNat=m) (hm8:m≤8) {kS:List Int×Int→Option Grf} {kI:List Int×Int→Option Grf} :
  ∀ (fuel i:Nat) (l:List Int) (c:Int),i≤m→m<fuel+i→l.length=m→0≤c∧c≤(i:Int)→c=(Gc set i:Int) →
  ∃ (l':List Int) (c':Int),l'.length=m∧(0≤c'∧c'=(Gc set m:Int))∧c'≤(m:Int)∧Cm N g set kS fuel (l,c,(i:Int))=kS (l',c')∧Dx N g set kI fuel (l,(i:Int),c)=kI (l',c'):=by
 have hm2:(max (0:Int) (min g.n (8:Int))).toNat=m:=by omega
 intro fuel
 induction fuel with
 | zero=>intro i l c h1 h2; omega
 | succ fuel ih=>
  intro i l c h1 h2 h3 h4 h5;have ho:=Rz set i;rw [Cm,Dx,hm,hm2];by_cases hi:i<m
  ·have er:(List.replicate m (0:Int)).length=m:=List.length_replicate;rw [Bb (by rw [er]; omega),Bb (by rw [er]; omega),Am (p:=0≤(i:Int)∧(i:Int)<((List.replicate m (0:Int)).length:Int)) (by rw [er]; omega),Am (p:=0≤(i:Int)∧(i:Int)<(l.length:Int)) (by omega),Am (p:=0≤(i:Int)∧(i:Int)<((List.replicate m (0:Int)).length:Int)) (by rw [er]; omega),Am (p:=0≤(i:Int)∧(i:Int)<(l.length:Int)) (by omega),Vl N hN hs,contains_s N hN hs,Option.bind_some,Option.bind_some,show ((i:Int)).toNat=i from by omega];have el:(l.set i (-1:Int)).length=m:=by rw [List.length_set]; exact h3
   cases hc:set.contains (i:Int) with
   | true=>
    rw [hc] at ho;obtain ⟨l',c',g1,g2,g3,g4,g5⟩:=ih (i+1) (l.set i (-1:Int)) c (by omega) (by omega) el (by omega) (by simp at ho; omega);refine ⟨l',c',g1,g2,g3,?_,?_⟩
    ·rw [Bool.not_true,cnd_false,Bf (by omega) (by omega),Ah]; exact g4
    rw [Bool.not_true,cnd_false,Bf (by omega) (by omega),Ah]; exact g5
   | false=>
    rw [hc] at ho;obtain ⟨l',c',g1,g2,g3,g4,g5⟩:=ih (i+1) ((l.set i (-1:Int)).set i c) (c+1) (by omega) (by omega) (by rw [List.length_set]; exact el) (by omega) (by simp at ho; omega);refine ⟨l',c',g1,g2,g3,?_,?_⟩
    ·rw [Bool.not_false,cnd_true,Am (by omega),Bf (by omega) (by omega),Bf (by omega) (by omega),Ah]; exact g4
    rw [Bool.not_false,cnd_true,Am (by omega),Bf (by omega) (by omega),Bf (by omega) (by omega),Ah]; exact g5
  have er:(List.replicate m (0:Int)).length=m:=List.length_replicate;rw [Ay (by rw [er]; omega),Ay (by rw [er]; omega)];have e:i=m:=by omega
  exact ⟨l,c,h3,⟨h4.1,by rw [h5,e]⟩,by omega,O,O⟩
theorem wo_l1 (hN:4000000≤N) {g:Grf} (hg:Bd g=true) {l:List Int} (hl:(l.length:Int)=g.n) {kS kI:List (Int×Int)→Option Grf} :
  ∀ (fuel i:Nat) (L:List (Int×Int)),i≤g.bars.length→g.bars.length<fuel+i→L.length≤i →
  ∃ L',L'.length≤g.bars.length∧Az N g l kS fuel (L,(i:Int))=kS L'∧Bo N g l kI fuel (L,(i:Int))=kI L':=by
 have hp:=As hg;have hmS:(((max (0:Int) (min (8:Int) g.n))).toNat:Int)=g.n:=by omega
 have hmI:(((max (0:Int) (min g.n (8:Int)))).toNat:Int)=g.n:=by omega
 intro fuel
 induction fuel with
 | zero=>intro i L h1 h2; omega
 | succ fuel ih=>
  intro i L h1 h2 h3;by_cases hi:i<g.bars.length
  ·have hb:=Da hg (p:=g.bars.getD i (0,0)) (by rw [List.getD_eq_getElem?_getD,List.getElem?_eq_getElem hi]; exact List.getElem_mem hi);obtain ⟨e,he⟩:∃ e,e=g.bars.getD i (0,0):=⟨_,rfl⟩;rw [←he] at hb
   have hS:Az N g l kS (fuel+1) (L,(i:Int))=cnd (decide (l.getD e.1.toNat 0≥0)) (cnd (decide (l.getD e.2.toNat 0≥0)) (Az N g l kS fuel (L++[(l.getD e.1.toNat 0,l.getD e.2.toNat 0)],((i+1:Nat):Int))) (Az N g l kS fuel (L,((i+1:Nat):Int)))) (Az N g l kS fuel (L,((i+1:Nat):Int))):=by
    rw [Az,Bb (by omega),Ca N hN,Option.bind_some,hg,cnd_true,List.length_replicate,show ((i:Int)).toNat=i from by omega,←he];rw [Am (p:=0≤(i:Int)∧(i:Int)<(g.bars.length:Int)) (by omega)];rw [Am (p:=0≤e.1∧e.1<((((max (0:Int) (min (8:Int) g.n))).toNat:Nat):Int)) (by omega),Am (p:=0≤e.1∧e.1<(l.length:Int)) (by omega),Am (p:=0≤e.2∧e.2<((((max (0:Int) (min (8:Int) g.n))).toNat:Nat):Int)) (by omega),Am (p:=0≤e.2∧e.2<(l.length:Int)) (by omega)];rw [Am (p:=L.length+1≤4294967296) (by omega),Bf (by omega) (by omega),Bf (by omega) (by omega),Ah]
   have hI:Bo N g l kI (fuel+1) (L,(i:Int))=cnd (decide (l.getD e.1.toNat 0≥0)) (cnd (decide (l.getD e.2.toNat 0≥0)) (Bo N g l kI fuel (L++[(l.getD e.1.toNat 0,l.getD e.2.toNat 0)],((i+1:Nat):Int))) (Bo N g l kI fuel (L,((i+1:Nat):Int)))) (Bo N g l kI fuel (L,((i+1:Nat):Int))):=by
    rw [Bo,Bb (by omega),List.length_replicate,show ((i:Int)).toNat=i from by omega,←he];rw [Am (p:=0≤(i:Int)∧(i:Int)<(g.bars.length:Int)) (by omega)];rw [Am (p:=0≤e.1∧e.1<((((max (0:Int) (min g.n (8:Int)))).toNat:Nat):Int)) (by omega),Am (p:=0≤e.1∧e.1<(l.length:Int)) (by omega),Am (p:=0≤e.2∧e.2<((((max (0:Int) (min g.n (8:Int)))).toNat:Nat):Int)) (by omega),Am (p:=0≤e.2∧e.2<(l.length:Int)) (by omega)];rw [Am (p:=L.length+1≤4294967296) (by omega),Bf (by omega) (by omega),Bf (by omega) (by omega),Ah]
   rw [hS,hI];obtain ⟨L1,a1,a2,a3⟩:=ih (i+1) L (by omega) (by omega) (by omega);obtain ⟨L2,b1,b2,b3⟩:=ih (i+1) (L++[(l.getD e.1.toNat 0,l.getD e.2.toNat 0)]) (by omega) (by omega) (by simp; omega);cases decide (l.getD e.1.toNat 0≥0) <;> cases decide (l.getD e.2.toNat 0≥0) <;> simp only [cnd_true,cnd_false]
   ·exact ⟨L1,a1,a2,a3⟩
   ·exact ⟨L1,a1,a2,a3⟩
   ·exact ⟨L1,a1,a2,a3⟩
   exact ⟨L2,b1,b2,b3⟩
  rw [Az,Bo,Ay (by omega),Ay (by omega)];exact ⟨L,by omega,O,O⟩
theorem without_x (hN:4000000≤N) {g:Grf} (hgb:g.bars.length≤3000000) {set:List Int} (hs:set.length≤3000000):∃ h:Grf,h.bars.length≤24∧(0≤h.n∧h.n=(Gc set (max (0:Int) (min (8:Int) g.n)).toNat:Int))∧h.n≤8∧Ct N g set=some h∧Ht N g set=some h:=by
 unfold Ct Ht;rw [Am (by omega),Am (by omega)];obtain ⟨m,hm⟩:∃ m,(max (0:Int) (min (8:Int) g.n)).toNat=m:=⟨_,rfl⟩;have hm2:(max (0:Int) (min g.n (8:Int))).toNat=m:=by omega
 obtain ⟨l',c',h1,h2,h3,h4,h5⟩:=wo_l2 hN (g:=g) hs hm (by omega)
  (kS:=fun x=>match x with | (l7,n8)=>Az N g l7 (fun (l16:List (Int×Int))=>some (⟨n8,l16⟩:Grf)) N (([]:List (Int×Int)),(0:Int)))
  (kI:=fun x=>match x with | (l7,c8)=>(Cs N g).bind fun v9=>cnd (!v9) (some (⟨c8,([]:List (Int×Int))⟩:Grf)) (Bo N g l7 (fun (l13:List (Int×Int))=>some (⟨c8,l13⟩:Grf)) N (([]:List (Int×Int)),(0:Int))))
  N 0 (List.replicate m (0:Int)) 0 (by omega) (by omega) List.length_replicate (by omega) (by simp [Gc])
 rw [hm,hm2]
 cases hg:Bd g with
 | false=>
  refine ⟨⟨c',[]⟩,by simp,h2,by show c'≤8; omega,h4.trans ?_,h5.trans ?_⟩
  ·obtain ⟨M,rfl⟩:∃ M,N=M+1:=⟨N-1,by omega⟩;show Az (M+1) g l' _ (M+1) ([],0)=_;rw [Az,Ca _ hN,Option.bind_some,hg,cnd_false];cases decide ((0:Int)<(g.bars.length:Int)) <;> rfl
  show (Cs N g).bind _=_;rw [Ed N hN,hg]; rfl
 | true=>
  have hp:=As hg;obtain ⟨L',k1,k2,k3⟩:=wo_l1 hN hg (l:=l') (by omega) (kS:=fun l16=>some (⟨c',l16⟩:Grf)) (kI:=fun l13=>some (⟨c',l13⟩:Grf)) N 0 [] (by omega) (by omega) (by simp);refine ⟨⟨c',L'⟩,by show L'.length≤24; omega,h2,by show c'≤8; omega,h4.trans k2,h5.trans ?_⟩;show (Cs N g).bind _=_;rw [Ed N hN,hg,Option.bind_some,Bool.not_true,cnd_false];exact k3
end
end Go.Proofs.YtaipbhnpandbkaaGreat
