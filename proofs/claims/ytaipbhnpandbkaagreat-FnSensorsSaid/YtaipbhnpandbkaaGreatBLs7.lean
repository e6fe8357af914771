/- Texts that the proof needs, put together: G74 G77 Qt G78 Qv Ph Sm SoB G99 G101 Qo G10 G11 G12 G19 G20 G17 G22 G3 G64 G65 G66. -/
import Derived.Sort.Grow
import Derived.WalkKit
import Derived.Shelf.SlSortCmp.NoneTotal
import Derived.Ground.SlsfProg
import Derived.Test.YtaipbhnpandbkaaGreatBLs3
import Derived.Test.YtaipbhnpandbkaaGreatBLs4
import Derived.Test.YtaipbhnpandbkaaGreatBLs5
import Derived.Test.YtaipbhnpandbkaaGreatBLs6
set_option maxRecDepth 20000
set_option maxHeartbeats 1600000
set_option linter.unusedVariables false
set_option linter.unusedSimpArgs false
namespace Go.Proofs.YtaipbhnpandbkaaGreat
section
open Go.RowKit
def Gz (N:Nat) (g_0:Grf):Option (Bool):=
 (Dg N g_0).bind fun v1=>
 cnd v1 (
  (Qo N g_0 (0:Int)).bind fun v2=>
  some ((v2.length:Int)==g_0.n)) (
  some false)
theorem Acg (N:Nat) (g_0:Grf) (r:Bool) (h:Gz N g_0=some r):PCall Tryz.prog 189 [gD g_0] [] (.bool r):=by
 unfold Gz at h;refine Aj (TT:=TT) tt Tryz.func189 O O Tryz.ntmps189 (congrArg Array.toList Tryz.results189) O O fun w0=>(Ag (Ab (Hz O O O O O O O O O (Aa O (Af (Ag (Dn 8 [4] [0,1,3,7,15,31,7,71,255,511,1023] (by kernel_rfl) (by kernel_rfl) (by kernel_rfl) (by kernel_rfl) (by kernel_rfl) O (by rfl) (Fy tt O (Ai O) O O O O O Y ?_))))))));obtain ⟨v1,hc1,h⟩:=Ae h;refine nCall (Ez N g_0 v1 hc1) O (Ai O) O O O O O O O O ⟨⟨O,O,Y⟩,Y⟩ (Fy tt O (Ai O) O O O O O Y (Yd O O O (fun hb2=>?_) (fun hb2=>?_)))
 ·replace h:=Ak hb2 h;refine Fy tt O (Bl O O O O hb2) O O O O O Y ?_;obtain ⟨v2,hc3,h⟩:=Ae h;refine Rd (S_ReachOf_w N g_0 (0:Int) v2 hc3) rfl (Bl rfl rfl rfl rfl hb2) rfl rfl rfl rfl rfl rfl (by first | rfl | kernel_rfl | (simp [nrL,nm,Hy,nmT,Jv]; done)) rfl (by first | rfl | kernel_rfl | (simp [Pr,nrL,nm,Hy,nmT,Jv,hid,Jp,Fb,Dh]; done) | (simp [Pr,nrL,nm,Hy,nmT,Jv,hid,Jp,Fb,Dh]; decide)) ⟨⟨rfl,rfl,Y⟩,rfl,Y⟩ ?_;iterate 3 refine Fy tt O (Bl O O O O hb2) O O O O O Y ?_
  refine Tb ?_;show VO _ _ _ _ _;refine Av tt O O O O O hb2 O O O Y (Bm O O O O O hb2 O (Aa O (Af (Bg ?_))));show ∃ _,_;cases h;exact ⟨[],_,O,Y,O,.eq O,O⟩
 replace h:=Al hb2 h;iterate 5 refine nNoT O O O O hb2 O O ?_
 refine Tb ?_;show VO _ _ _ _ _;refine Kq O O O O hb2 O O (Aw O O O O O hb2 O (Aa O (Af (Bg ?_))));show ∃ _,_;cases h;exact ⟨[],_,O,Y,O,.eq O,O⟩
def Dz (N:Nat) (g_0:Grf) (k_1:Int) (k:(List (List Int))→Option (List (List Int))):Nat→((List (List Int))×Int)→Option (List (List Int))
 | 0,_=>none
 | n+1,(l25,mask26)=>
  grd (0≤g_0.n∧g_0.n<64∧Bc ((1:Int)*2 ^ ((g_0.n).toNat))) <|
  cnd (decide (mask26<((1:Int)*2 ^ ((g_0.n).toNat)))) (
   (Wy N g_0.n mask26).bind fun v30=>
   cnd ((v30.length:Int)==k_1) (
    grd (Bc (g_0.n-k_1)) <|
    cnd (decide ((g_0.n-k_1)≥(2:Int))) (
     (Ct N g_0 v30).bind fun v31=>
     (Gz N v31).bind fun v32=>
     cnd (!v32) (
      grd (l25.length+1≤4294967296) <|
      grd (Bc (mask26+(1:Int))) <|
      Dz N g_0 k_1 k n ((l25++([v30]:List (List Int))),(mask26+(1:Int)))) (
      grd (Bc (mask26+(1:Int))) <|
      Dz N g_0 k_1 k n (l25,(mask26+(1:Int))))) (
     grd (Bc (mask26+(1:Int))) <|
     Dz N g_0 k_1 k n (l25,(mask26+(1:Int))))) (
    grd (Bc (mask26+(1:Int))) <|
    Dz N g_0 k_1 k n (l25,(mask26+(1:Int))))) (
   k l25)
def Qs (N:Nat) (g_0:Grf) (k_1:Int):Option (List (List Int)):=
 (Dg N g_0).bind fun v1=>
 cnd (!v1) (
  some ([]:List (List Int))) (
  (Wi N k_1 (0:Int) (3:Int)).bind fun v2=>
  cnd (!v2) (
   some ([]:List (List Int))) (
   Dz N g_0 k_1 (fun (l17 : List (List Int)) =>
      some l17) N (([]:List (List Int)),(0:Int))))
theorem S_CutSets_w (N:Nat) (g_0:Grf) (k_1:Int) (r:List (List Int)) (h:Qs N g_0 k_1=some r):PCall Tryz.prog 165 [gD g_0,.int k_1] [(27,.intss r)] (.row 0 0 r.length):=by
 unfold Qs at h;refine Aj (TT:=TT) tt Tryz.func165 O O Tryz.ntmps165 (congrArg Array.toList Tryz.results165) O O fun w0=>(Ag (Ab (Hz O O O O O O O O O (Aa O (Af (Ag (Ab (Gr tt (Ai O) O O O O (Aa O ?_)))))))));refine Af (Ag (Ag (Ab (Aa O ?_))));obtain ⟨v1,hc1,h⟩:=Ae h;refine Ba (Ez N g_0 v1 hc1) O O O O O O O O ⟨⟨O,O,Y⟩,Y⟩ (Aa O (Aa O (Be O O O (fun hb2=>?_) (fun hb2=>?_))))
 ·replace h:=Ak hb2 h;iterate 3 refine Hg O O O O hb2 O O ?_
  refine Bm O O O O O hb2 O (Af (Ce O O (Ag (Ab (Aa O (Aa O (Af (Jq 4 9001 27 (.intss []) O O O O (Bg ?_)))))))));show ∃ _,_;cases h;exact ⟨[9001],_,O,⟨O,Y⟩,O,.eq O,O⟩
 replace h:=Al hb2 h;refine Av tt O O O O O hb2 O O O Y ?_;obtain ⟨v2,hc3,h⟩:=Ae h;refine Eh (Vy N k_1 (0:Int) (3:Int) v2 hc3) O O O O hb2 O O O O O O O ⟨O,O,O,Y⟩ (Av tt O O O O O hb2 O O O Y (Aw O O O O O hb2 O (Af (Ar O (fun hb4=>?_) (fun hb4=>?_)))))
 ·replace h:=Ak hb4 h;refine Ag (Ab (Aa O (Aa O (Af (Jq 4 9001 27 (.intss []) O O O O (Bg ?_))))));show ∃ _,_;cases h;exact ⟨[9001],_,O,⟨O,Y⟩,O,.eq O,O⟩
 replace h:=Al hb4 h;refine Aq (Ag (Ag (Ab (Aa O (Af (Bz (F:=fun k=>Dz N g_0 k_1 k) h (α:=List (List Int)) (J:=fun (l17:List (List Int))=>(⟨[(5,.row 50 0 l17.length)],[(50,some (27,.intss l17))],[]⟩:PS)) ?_ ?_))))))
 ·rintro l17 h;show VC _ _ _ (⟨[(5,.row 50 0 l17.length)],[(50,some (27,.intss l17))],[]⟩:PS);refine Ag (Ab (Aa O (Aa O (Af (Bg ?_)))));show ∃ _,_;cases h;exact ⟨[50],_,O,⟨O,Y⟩,O,.eq O,O⟩
 intro k h;refine Ap (Jq 5 50 27 (.intss []) rfl rfl rfl rfl (Bh (α:=(List (List Int))×Int) (fun | (l25,mask26)=>(⟨[(1,.int k_1),(2,.ptr 2 0),(5,.row 50 0 l25.length),(6,.int mask26)],[(50,some (27,.intss l25))],[(2,some [.int g_0.n,.ro false (.pairs g_0.bars)])]⟩:PS)) (Dz N g_0 k_1 k) h (En.of ⟨rfl,rfl,rfl,rfl,Y⟩ ⟨rfl,Y⟩ ⟨rfl,Y⟩) (fun _=>rfl) ?_));rintro n ⟨l25,mask26⟩ h;rw [Dz] at h;show VC _ _ _ (⟨[(1,.int k_1),(2,.ptr 2 0),(5,.row 50 0 l25.length),(6,.int mask26)],[(50,some (27,.intss l25))],[(2,some [.int g_0.n,.ro false (.pairs g_0.bars)])]⟩:PS);refine Ag (Ag (Ab (Aa O (Aa O (Aa O ?_)))));obtain ⟨hg5,h⟩:=Ac h;refine Ad tt O hg5 (Aa O (Af (Ar O (fun hb6=>?_) (fun hb6=>?_))))
 ·replace h:=Ak hb6 h;refine Aq (Ag (Ap (Ag (Ab (Aa O (Aa O (Aa O ?_)))))));obtain ⟨v30,hc7,h⟩:=Ae h;refine Ba (Abg N g_0.n mask26 v30 hc7) O O O O O O O O ⟨O,O,Y⟩ (Aa O (Af (Ag (Ab ?_))));iterate 5 refine Aa O ?_
  refine Be O O O (fun hb8=>?_) (fun hb8=>?_)
  ·replace h:=Ak hb8 h;iterate 3 refine Av tt O O O O O hb8 O O O Y ?_
   obtain ⟨hg9,h⟩:=Ac h;refine Av tt O O O O O hb8 O O O hg9 (Av tt O O O O O hb8 O O O Y (Bm O O O O O hb8 O (Aa O (Be O O O (fun hb10=>?_) (fun hb10=>?_)))))
   ·replace h:=Ak hb10 h;iterate 2 refine Av tt O O O O O hb10 O O O Y ?_
    obtain ⟨v31,hc11,h⟩:=Ae h;refine Eh (Rr N g_0 v30 v31 hc11) O O O O hb10 O O O O O O O ⟨⟨O,O,Y⟩,(.inl ⟨O,O⟩),Y⟩ ?_;obtain ⟨v32,hc12,h⟩:=Ae h;refine Eh (Acg N v31 v32 hc12) O O O O hb10 O O O O O O O ⟨⟨O,(.inl ⟨O,O⟩),Y⟩,Y⟩ (Av tt O O O O O hb10 O O O Y (Bm O O O O O hb10 O (Af (Ar O (fun hb13=>?_) (fun hb13=>?_)))))
    ·replace h:=Ak hb13 h;refine Ab (Aa O (Aa O (oFreeze (t:=48) O O O O (Cr tt O O O O O O O O O O O ?_))));obtain ⟨hg14,h⟩:=Ac h;refine Bt tt O O O O O O O O O O O O O O O O (Nat.le_of_eq (Nat.zero_add _)) hg14 (Aa O (Af (Ab (Aa O ?_))));obtain ⟨hg15,h⟩:=Ac h;refine Ad tt O hg15 (Aa O (Af ?_));show ∃ _,_;exact ⟨((l25++([v30]:List (List Int))),(mask26+(1:Int))),(En.of ⟨O,O,O,O,Y⟩ ⟨O,Y⟩ ⟨O,Y⟩),h⟩
    replace h:=Al hb13 h;refine Aq (Ab (Aa O ?_));obtain ⟨hg16,h⟩:=Ac h;refine Ad tt O hg16 (Aa O (Af ?_));show ∃ _,_;exact ⟨(l25,(mask26+(1:Int))),(En.of ⟨O,O,O,O,Y⟩ ⟨O,Y⟩ ⟨O,Y⟩),h⟩
   replace h:=Al hb10 h;iterate 5 refine Kq O O O O hb10 O O ?_
   refine Aw O O O O O hb10 O (Af (Cp O O (Aq (Ab (Aa O ?_)))));obtain ⟨hg17,h⟩:=Ac h;refine Ad tt O hg17 (Aa O (Af ?_));show ∃ _,_;exact ⟨(l25,(mask26+(1:Int))),(En.of ⟨O,O,O,O,Y⟩ ⟨O,Y⟩ ⟨O,Y⟩),h⟩
  replace h:=Al hb8 h;iterate 5 refine Kq O O O O hb8 O O ?_
  refine Aw O O O O O hb8 O (Aa O ?_);iterate 5 refine Kq O O O O O O O ?_
  refine Aw O O O O O O O (Af (Cp O O (Aq (Ab (Aa O ?_)))));obtain ⟨hg18,h⟩:=Ac h;refine Ad tt O hg18 (Aa O (Af ?_));show ∃ _,_;exact ⟨(l25,(mask26+(1:Int))),(En.of ⟨O,O,O,O,Y⟩ ⟨O,Y⟩ ⟨O,Y⟩),h⟩
 replace h:=Al hb6 h;refine Bp ?_;show ∃ _,_;exact ⟨l25,(En.of ⟨O,Y⟩ ⟨O,Y⟩ trivial),h⟩
def Dm (N:Nat) (g_0:Grf) (k_1:Int) (k:Unit→Option (Bool)):Nat→Int→Option (Bool)
 | 0,_=>none
 | n+1,i9=>
  cnd (decide (i9<k_1)) (
   (Qs N g_0 i9).bind fun v11=>
   cnd (decide ((v11.length:Int) > (0:Int))) (
    some false) (
    grd (Bc (i9+(1:Int))) <|
    Dm N g_0 k_1 k n (i9+(1:Int)))) (
   k ())
def Hm (N:Nat) (g_0:Grf) (k_1:Int):Option (Bool):=
 (Dg N g_0).bind fun v1=>
 cnd (!v1) (
  some false) (
  (Wi N k_1 (1:Int) (3:Int)).bind fun v2=>
  cnd (!v2) (
   some false) (
   cnd (decide (g_0.n≤k_1)) (
    some false) (
    Dm N g_0 k_1 (fun (_ : Unit) =>
       some true) N (0:Int))))
theorem Zq (N:Nat) (g_0:Grf) (k_1:Int) (r:Bool) (h:Hm N g_0 k_1=some r):PCall Tryz.prog 132 [gD g_0,.int k_1] [] (.bool r):=by
 unfold Hm at h;refine Aj (TT:=TT) tt Tryz.func132 O O Tryz.ntmps132 (congrArg Array.toList Tryz.results132) O O fun w0=>(Ag (Ab (Hz O O O O O O O O O (Aa O (Af (Ag (Ag (Ab (Aa O ?_)))))))));obtain ⟨v1,hc1,h⟩:=Ae h;refine Ba (Ez N g_0 v1 hc1) O O O O O O O O ⟨⟨O,O,Y⟩,Y⟩ (Aa O (Aa O (Be O O O (fun hb2=>?_) (fun hb2=>?_))))
 ·replace h:=Ak hb2 h;iterate 3 refine Hg O O O O hb2 O O ?_
  refine Bm O O O O O hb2 O (Aa O ?_);iterate 4 refine Hg O O O O O O O ?_
  refine Bm O O O O O O O (Af (Ce O O (Ag (Ab (Aa O (Af (Bg ?_)))))));show ∃ _,_;cases h;exact ⟨[],_,O,Y,O,.eq O,O⟩
 replace h:=Al hb2 h;refine Av tt O O O O O hb2 O O O Y ?_;obtain ⟨v2,hc3,h⟩:=Ae h;refine Eh (Vy N k_1 (1:Int) (3:Int) v2 hc3) O O O O hb2 O O O O O O O ⟨O,O,O,Y⟩ (Av tt O O O O O hb2 O O O Y (Aw O O O O O hb2 O (Aa O (Be O O O (fun hb4=>?_) (fun hb4=>?_)))))
 ·replace h:=Ak hb4 h;iterate 4 refine Hg O O O O hb4 O O ?_
  refine Bm O O O O O hb4 O (Af (Ce O O (Ag (Ab (Aa O (Af (Bg ?_)))))));show ∃ _,_;cases h;exact ⟨[],_,O,Y,O,.eq O,O⟩
 replace h:=Al hb4 h;iterate 4 refine Av tt O O O O O hb4 O O O Y ?_
 refine Aw O O O O O hb4 O (Af (Ar O (fun hb5=>?_) (fun hb5=>?_)))
 ·replace h:=Ak hb5 h;refine Ag (Ab (Aa O (Af (Bg ?_))));show ∃ _,_;cases h;exact ⟨[],_,O,Y,O,.eq O,O⟩
 replace h:=Al hb5 h;refine Aq (Ag (Ag (Ab (Aa O (Af (Bz (F:=fun k=>Dm N g_0 k_1 k) h (α:=Unit) (J:=fun (_:Unit)=>(⟨[],[],[]⟩:PS)) ?_ ?_))))))
 ·rintro ⟨⟩ h;show VC _ _ _ (⟨[],[],[]⟩:PS);refine Ag (Ab (Aa O (Af (Bg ?_))));show ∃ _,_;cases h;exact ⟨[],_,O,Y,O,.eq O,O⟩
 intro k h;refine Ap (Bh (α:=Int) (fun (i9:Int)=>(⟨[(1,.int k_1),(2,.ptr 2 0),(5,.int i9)],[],[(2,some [.int g_0.n,.ro false (.pairs g_0.bars)])]⟩:PS)) (Dm N g_0 k_1 k) h (En.of ⟨O,O,O,Y⟩ trivial ⟨O,Y⟩) (fun _=>O) ?_);rintro n i9 h;rw [Dm] at h;show VC _ _ _ (⟨[(1,.int k_1),(2,.ptr 2 0),(5,.int i9)],[],[(2,some [.int g_0.n,.ro false (.pairs g_0.bars)])]⟩:PS);refine Ag (Ag (Ab (Aa O (Aa O (Aa O (Af (Ar O (fun hb6=>?_) (fun hb6=>?_))))))))
 ·replace h:=Ak hb6 h;refine Aq (Ag (Ap (Ag (Ab (Aa O (Aa O ?_))))));obtain ⟨v11,hc7,h⟩:=Ae h;refine Ba (S_CutSets_w N g_0 i9 v11 hc7) O O O O O O O O ⟨⟨O,O,Y⟩,O,Y⟩ (Aa O (Aa O (Af (Ar O (fun hb8=>?_) (fun hb8=>?_)))))
  ·replace h:=Ak hb8 h;refine Ag (Ab (Aa O (Af (Bg ?_))));show ∃ _,_;cases h;exact ⟨[],_,O,Y,O,.eq O,O⟩
  replace h:=Al hb8 h;refine Aq (Ab (Aa O ?_));obtain ⟨hg9,h⟩:=Ac h;refine Ad tt O hg9 (Aa O (Af ?_));show ∃ _,_;exact ⟨(i9+(1:Int)),(En.of ⟨O,O,O,Y⟩ trivial ⟨O,Y⟩),h⟩
 replace h:=Al hb6 h;refine Bp ?_;show ∃ _,_;exact ⟨(),(En.of trivial trivial trivial),h⟩
def Di (N:Nat) (g_0:Grf) (k_1:Int) (l_2:Int) (v1:Int) (k:(List Int)→Option (List Int)):Nat→((List Int)×Int)→Option (List Int)
 | 0,_=>none
 | n+1,(l18,i19)=>
  cnd (decide (i19<(g_0.bars.length:Int))) (
   cnd (decide (v1≥(0:Int))) (
    (Fo N g_0 i19).bind fun v22=>
    (Lp N v22.1 k_1 l_2).bind fun v23=>
    cnd (decide (v23<v1)) (
     grd (l18.length+1≤4294967296) <|
     grd (Bc (i19+(1:Int))) <|
     Di N g_0 k_1 l_2 v1 k n ((l18++([i19]:List Int)),(i19+(1:Int)))) (
     grd (Bc (i19+(1:Int))) <|
     Di N g_0 k_1 l_2 v1 k n (l18,(i19+(1:Int))))) (
    k l18)) (
   k l18)
def Mg (N:Nat) (g_0:Grf) (k_1:Int) (l_2:Int):Option (List Int):=
 (Lp N g_0 k_1 l_2).bind fun v1=>
 Di N g_0 k_1 l_2 v1 (fun (l12 : List Int) =>
    some l12) N (([]:List Int),(0:Int))
theorem S_BridgesOf_w (N:Nat) (g_0:Grf) (k_1:Int) (l_2:Int) (r:List Int) (h:Mg N g_0 k_1 l_2=some r):PCall Tryz.prog 190 [gD g_0,.int k_1,.int l_2] [(3,.ints r)] (.row 0 0 r.length):=by
 unfold Mg at h;refine Aj (TT:=TT) tt Tryz.func190 O O Tryz.ntmps190 (congrArg Array.toList Tryz.results190) O O fun w0=>(Ag (Ab (Hz O O O O O O O O O (Aa O (Af (Ag (Ab (Gr tt (Ai O) O O O O (Aa O ?_)))))))));refine Af (Ag (Ab (Aa O (Aa O (Aa O ?_)))));obtain ⟨v1,hc1,h⟩:=Ae h;refine Ba (Za N g_0 k_1 l_2 v1 hc1) O O O O O O O O ⟨⟨O,O,Y⟩,O,O,Y⟩ (Aa O (Af (Ag (Ag (Ab (Aa O (Af (Bz (F:=fun k=>Di N g_0 k_1 l_2 v1 k) h (α:=List Int) (J:=fun (l12:List Int)=>(⟨[(7,.row 43 0 l12.length)],[(43,some (3,.ints l12))],[]⟩:PS)) ?_ ?_))))))))
 ·rintro l12 h;show VC _ _ _ (⟨[(7,.row 43 0 l12.length)],[(43,some (3,.ints l12))],[]⟩:PS);refine Ag (Ab (Aa O (Aa O (Af (Bg ?_)))));show ∃ _,_;cases h;exact ⟨[43],_,O,⟨O,Y⟩,O,.eq O,O⟩
 intro k h;refine Ap (Jq 7 43 3 (.ints []) rfl rfl rfl rfl (Bh (α:=(List Int)×Int) (fun | (l18,i19)=>(⟨[(1,.int k_1),(2,.int l_2),(3,.ptr 3 0),(7,.row 43 0 l18.length),(8,.int v1),(9,.int i19)],[(43,some (3,.ints l18))],[(3,some [.int g_0.n,.ro false (.pairs g_0.bars)])]⟩:PS)) (Di N g_0 k_1 l_2 v1 k) h (En.of ⟨rfl,rfl,rfl,rfl,rfl,rfl,Y⟩ ⟨rfl,Y⟩ ⟨rfl,Y⟩) (fun _=>rfl) ?_));rintro n ⟨l18,i19⟩ h;rw [Di] at h;show VC _ _ _ (⟨[(1,.int k_1),(2,.int l_2),(3,.ptr 3 0),(7,.row 43 0 l18.length),(8,.int v1),(9,.int i19)],[(43,some (3,.ints l18))],[(3,some [.int g_0.n,.ro false (.pairs g_0.bars)])]⟩:PS);refine Ag (Ag (Ab ?_));iterate 6 refine Aa O ?_
 refine Be O O O (fun hb2=>?_) (fun hb2=>?_)
 ·replace h:=Ak hb2 h;iterate 2 refine Av tt O O O O O hb2 O O O Y ?_
  refine Bm O O O O O hb2 O (Af (Ar O (fun hb3=>?_) (fun hb3=>?_)))
  ·replace h:=Ak hb3 h;refine Aq (Ag (Ap (Ag (Ab (Aa O (Aa O ?_))))));obtain ⟨v22,hc4,h⟩:=Ae h;refine Ba (St N g_0 i19 v22 hc4) O O O O O O O O ⟨⟨O,O,Y⟩,O,Y⟩ (Aa O (Aa O (Aa O (Bi tt O O O O O O O O O (Ao tt O O O O O O O O O O O ⟨Y,Y,Y⟩ (Aa O (Af (Ag (Ab ?_)))))))));refine Aa O (Aa O (Aa O ?_));obtain ⟨v23,hc5,h⟩:=Ae h;refine Ba (Za N v22.1 k_1 l_2 v23 hc5) O O O O O O O O ⟨⟨O,(.inl ⟨O,O⟩),Y⟩,O,O,Y⟩ (Aa O (Aa O (Af (Ar O (fun hb6=>?_) (fun hb6=>?_)))))
   ·replace h:=Ak hb6 h;refine Ab (Aa O (Aa O (Cr tt O O O O O O O O O O O ?_)));obtain ⟨hg7,h⟩:=Ac h;refine Bt tt O O O O O O O O O O O O O O O O (Nat.le_of_eq (Nat.zero_add _)) hg7 (Aa O (Af (Ab (Aa O ?_))));obtain ⟨hg8,h⟩:=Ac h;refine Ad tt O hg8 (Aa O (Af ?_));show ∃ _,_;exact ⟨((l18++([i19]:List Int)),(i19+(1:Int))),(En.of ⟨O,O,O,O,O,O,Y⟩ ⟨O,Y⟩ ⟨O,Y⟩),h⟩
   replace h:=Al hb6 h;refine Aq (Ab (Aa O ?_));obtain ⟨hg9,h⟩:=Ac h;refine Ad tt O hg9 (Aa O (Af ?_));show ∃ _,_;exact ⟨(l18,(i19+(1:Int))),(En.of ⟨O,O,O,O,O,O,Y⟩ ⟨O,Y⟩ ⟨O,Y⟩),h⟩
  replace h:=Al hb3 h;refine Bp ?_;show ∃ _,_;exact ⟨l18,(En.of ⟨O,Y⟩ ⟨O,Y⟩ trivial),h⟩
 replace h:=Al hb2 h;iterate 2 refine Kq O O O O hb2 O O ?_
 refine Aw O O O O O hb2 O (Af (Cp O O (Bp ?_)));show ∃ _,_;exact ⟨l18,(En.of ⟨O,Y⟩ ⟨O,Y⟩ trivial),h⟩
def Lu (N:Nat) (g_0:Grf):Option (List Int):=
 (Mg N g_0 (2:Int) (3:Int)).bind fun v1=>
 some v1
theorem Ab6 (N:Nat) (g_0:Grf) (r:List Int) (h:Lu N g_0=some r):PCall Tryz.prog 166 [gD g_0] [(3,.ints r)] (.row 0 0 r.length):=by
 unfold Lu at h;refine Aj (TT:=TT) tt Tryz.func166 O O Tryz.ntmps166 (congrArg Array.toList Tryz.results166) O O fun w0=>(Ag (Ab (Hz O O O O O O O O O (Aa O (Af (Ag (Ab (Aa O ?_))))))));obtain ⟨v1,hc1,h⟩:=Ae h;refine Ba (S_BridgesOf_w N g_0 (2:Int) (3:Int) v1 hc1) O O O O O O O O ⟨⟨O,O,Y⟩,O,O,Y⟩ (Aa O (Af (Bg ?_)));show ∃ _,_;cases h;exact ⟨[1040],_,O,⟨O,Y⟩,O,.eq O,O⟩
def Ds (N:Nat) (g_0:Grf):Option (Bool):=
 (Ls N g_0).bind fun v1=>
 cnd v1 (
  (Lu N g_0).bind fun v2=>
  some ((v2.length:Int)==(0:Int))) (
  some false)
theorem Sy (N:Nat) (g_0:Grf) (r:Bool) (h:Ds N g_0=some r):PCall Tryz.prog 133 [gD g_0] [] (.bool r):=by
 unfold Ds at h;refine Aj (TT:=TT) tt Tryz.func133 O O Tryz.ntmps133 (congrArg Array.toList Tryz.results133) O O fun w0=>(Ag (Ab (Hz O O O O O O O O O (Aa O (Af (Ag (Ab (Aa O ?_))))))));obtain ⟨v1,hc1,h⟩:=Ae h;refine Ba (Aa9 N g_0 v1 hc1) O O O O O O O O ⟨⟨O,O,Y⟩,Y⟩ (Aa O (Be O O O (fun hb2=>?_) (fun hb2=>?_)))
 ·replace h:=Ak hb2 h;refine Av tt O O O O O hb2 O O O Y ?_;obtain ⟨v2,hc3,h⟩:=Ae h;refine Eh (Ab6 N g_0 v2 hc3) O O O O hb2 O O O O O O O ⟨⟨O,O,Y⟩,Y⟩ ?_;iterate 2 refine Av tt O O O O O hb2 O O O Y ?_
  refine Bm O O O O O hb2 O (Aa O (Af (Bg ?_)));show ∃ _,_;cases h;exact ⟨[],_,O,Y,O,.eq O,O⟩
 replace h:=Al hb2 h;iterate 4 refine Kq O O O O hb2 O O ?_
 refine Aw O O O O O hb2 O (Aa O (Af (Bg ?_)));show ∃ _,_;cases h;exact ⟨[],_,O,Y,O,.eq O,O⟩
end
section
open Go.RowKit
def Lq (N:Nat) (g_0:Grf):Option (Bool):=
 (Cs N g_0).bind fun v1=>
 cnd v1 (
  (Tq N g_0 (0:Int)).bind fun v2=>
  some ((v2.length:Int)==g_0.n)) (
  some false)
theorem Aao (N:Nat) (g_0:Grf) (r:Bool) (h:Lq N g_0=some r):PCall Tryz.prog 197 [gD g_0] [] (.bool r):=by
 unfold Lq at h;refine Aj (TT:=TT) tt Tryz.func197 O O Tryz.ntmps197 (congrArg Array.toList Tryz.results197) O O fun w0=>(Ag (Ab (Hz O O O O O O O O O (Aa O (Af (Ag (Dn 8 [4] [0,1,3,7,15,31,7,71,255,511,1023] (by kernel_rfl) (by kernel_rfl) (by kernel_rfl) (by kernel_rfl) (by kernel_rfl) O (by rfl) (Fy tt O (Ai O) O O O O O Y ?_))))))));obtain ⟨v1,hc1,h⟩:=Ae h;refine nCall (Fx N g_0 v1 hc1) O (Ai O) O O O O O O O O ⟨⟨O,O,Y⟩,Y⟩ (Fy tt O (Ai O) O O O O O Y (Yd O O O (fun hb2=>?_) (fun hb2=>?_)))
 ·replace h:=Ak hb2 h;refine Fy tt O (Bl O O O O hb2) O O O O O Y ?_;obtain ⟨v2,hc3,h⟩:=Ae h;refine Rd (I_ReachOf_w N g_0 (0:Int) v2 hc3) rfl (Bl rfl rfl rfl rfl hb2) rfl rfl rfl rfl rfl rfl (by first | rfl | kernel_rfl | (simp [nrL,nm,Hy,nmT,Jv]; done)) rfl (by first | rfl | kernel_rfl | (simp [Pr,nrL,nm,Hy,nmT,Jv,hid,Jp,Fb,Dh]; done) | (simp [Pr,nrL,nm,Hy,nmT,Jv,hid,Jp,Fb,Dh]; decide)) ⟨⟨rfl,rfl,Y⟩,rfl,Y⟩ ?_;iterate 3 refine Fy tt O (Bl O O O O hb2) O O O O O Y ?_
  refine Tb ?_;show VO _ _ _ _ _;refine Av tt O O O O O hb2 O O O Y (Bm O O O O O hb2 O (Aa O (Af (Bg ?_))));show ∃ _,_;cases h;exact ⟨[],_,O,Y,O,.eq O,O⟩
 replace h:=Al hb2 h;iterate 5 refine nNoT O O O O hb2 O O ?_
 refine Tb ?_;show VO _ _ _ _ _;refine Kq O O O O hb2 O O (Aw O O O O O hb2 O (Aa O (Af (Bg ?_))));show ∃ _,_;cases h;exact ⟨[],_,O,Y,O,.eq O,O⟩
def Gg (N:Nat) (g_0:Grf) (k_1:Int) (k:(List (List Int))→Option (List (List Int))):Nat→((List (List Int))×Int)→Option (List (List Int))
 | 0,_=>none
 | n+1,(l25,x26)=>
  cnd (decide (x26<((1:Int)*2 ^ ((g_0.n).toNat)))) (
   (Qj N x26 g_0.n).bind fun v30=>
   cnd ((v30.length:Int) != k_1) (
    grd (Bc (x26+(1:Int))) <|
    Gg N g_0 k_1 k n (l25,(x26+(1:Int)))) (
    (Ht N g_0 v30).bind fun v31=>
    cnd (decide (v31.n≥(2:Int))) (
     (Lq N v31).bind fun v32=>
     cnd (!v32) (
      grd (l25.length+1≤4294967296) <|
      grd (Bc (x26+(1:Int))) <|
      Gg N g_0 k_1 k n ((l25++([v30]:List (List Int))),(x26+(1:Int)))) (
      grd (Bc (x26+(1:Int))) <|
      Gg N g_0 k_1 k n (l25,(x26+(1:Int))))) (
     grd (Bc (x26+(1:Int))) <|
     Gg N g_0 k_1 k n (l25,(x26+(1:Int)))))) (
   k l25)
def Td (N:Nat) (g_0:Grf) (k_1:Int):Option (List (List Int)):=
 (Cs N g_0).bind fun v1=>
 cnd (!v1) (
  some ([]:List (List Int))) (
  (Lo N k_1 (0:Int) (3:Int)).bind fun v2=>
  cnd (!v2) (
   some ([]:List (List Int))) (
   grd (0≤g_0.n∧g_0.n<64∧Bc ((1:Int)*2 ^ ((g_0.n).toNat))) <|
   Gg N g_0 k_1 (fun (l17 : List (List Int)) =>
      some l17) N (([]:List (List Int)),(0:Int))))
theorem I_CutSets_w (N:Nat) (g_0:Grf) (k_1:Int) (r:List (List Int)) (h:Td N g_0 k_1=some r):PCall Tryz.prog 186 [gD g_0,.int k_1] [(27,.intss r)] (.row 0 0 r.length):=by
 unfold Td at h;refine Aj (TT:=TT) tt Tryz.func186 O O Tryz.ntmps186 (congrArg Array.toList Tryz.results186) O O fun w0=>(Ag (Ab (Hz O O O O O O O O O (Aa O (Af (Ag (Ab (Gr tt (Ai O) O O O O (Aa O ?_)))))))));refine Af (Ag (Ag (Ab (Aa O ?_))));obtain ⟨v1,hc1,h⟩:=Ae h;refine Ba (Fx N g_0 v1 hc1) O O O O O O O O ⟨⟨O,O,Y⟩,Y⟩ (Aa O (Aa O (Be O O O (fun hb2=>?_) (fun hb2=>?_))))
 ·replace h:=Ak hb2 h;iterate 3 refine Hg O O O O hb2 O O ?_
  refine Bm O O O O O hb2 O (Af (Ce O O (Ag (Ab (Aa O (Aa O (Af (Jq 4 9001 27 (.intss []) O O O O (Bg ?_)))))))));show ∃ _,_;cases h;exact ⟨[9001],_,O,⟨O,Y⟩,O,.eq O,O⟩
 replace h:=Al hb2 h;refine Av tt O O O O O hb2 O O O Y ?_;obtain ⟨v2,hc3,h⟩:=Ae h;refine Eh (Mb N k_1 (0:Int) (3:Int) v2 hc3) O O O O hb2 O O O O O O O ⟨O,O,O,Y⟩ (Av tt O O O O O hb2 O O O Y (Aw O O O O O hb2 O (Af (Ar O (fun hb4=>?_) (fun hb4=>?_)))))
 ·replace h:=Ak hb4 h;refine Ag (Ab (Aa O (Aa O (Af (Jq 4 9001 27 (.intss []) O O O O (Bg ?_))))));show ∃ _,_;cases h;exact ⟨[9001],_,O,⟨O,Y⟩,O,.eq O,O⟩
 replace h:=Al hb4 h;refine Aq (Ag (Ag (Ab (Aa O (Aa O ?_)))));obtain ⟨hg5,h⟩:=Ac h;refine Ad tt O hg5 (Aa O (Af (Bz (F:=fun k=>Gg N g_0 k_1 k) h (α:=List (List Int)) (J:=fun (l17:List (List Int))=>(⟨[(5,.row 47 0 l17.length)],[(47,some (27,.intss l17))],[]⟩:PS)) ?_ ?_)))
 ·rintro l17 h;show VC _ _ _ (⟨[(5,.row 47 0 l17.length)],[(47,some (27,.intss l17))],[]⟩:PS);refine Ag (Ab (Aa O (Aa O (Af (Bg ?_)))));show ∃ _,_;cases h;exact ⟨[47],_,O,⟨O,Y⟩,O,.eq O,O⟩
 intro k h;refine Ap (Jq 5 47 27 (.intss []) rfl rfl rfl rfl (Bh (α:=(List (List Int))×Int) (fun | (l25,x26)=>(⟨[(1,.int k_1),(2,.ptr 2 0),(5,.row 47 0 l25.length),(21,.int ((1:Int)*2 ^ ((g_0.n).toNat))),(22,.int x26)],[(47,some (27,.intss l25))],[(2,some [.int g_0.n,.ro false (.pairs g_0.bars)])]⟩:PS)) (Gg N g_0 k_1 k) h (En.of ⟨rfl,rfl,rfl,rfl,rfl,Y⟩ ⟨rfl,Y⟩ ⟨rfl,Y⟩) (fun _=>rfl) ?_));rintro n ⟨l25,x26⟩ h;rw [Gg] at h;show VC _ _ _ (⟨[(1,.int k_1),(2,.ptr 2 0),(5,.row 47 0 l25.length),(21,.int ((1:Int)*2 ^ ((g_0.n).toNat))),(22,.int x26)],[(47,some (27,.intss l25))],[(2,some [.int g_0.n,.ro false (.pairs g_0.bars)])]⟩:PS);refine Ag (Ab (Aa O (Af (Ag (Ar O (fun hb6=>?_) (fun hb6=>?_))))))
 ·replace h:=Ak hb6 h;refine Aq (Ag (Ap (Ag (Ab (Aa O (Aa O (Af (Ag (Ab ?_)))))))));refine Aa O (Aa O (Aa O ?_));obtain ⟨v30,hc7,h⟩:=Ae h;refine Ba (Yh N x26 g_0.n v30 hc7) O O O O O O O O ⟨O,O,Y⟩ (Aa O (Af (Ag (Ag (Ab ?_)))));iterate 4 refine Aa O ?_
  refine Af (Ar O (fun hb8=>?_) (fun hb8=>?_))
  ·replace h:=Ak hb8 h;refine Bp (Ab ?_);obtain ⟨hg9,h⟩:=Ac h;refine Ad tt O hg9 (Aa O (Af ?_));show ∃ _,_;exact ⟨(l25,(x26+(1:Int))),(En.of ⟨O,O,O,O,O,Y⟩ ⟨O,Y⟩ ⟨O,Y⟩),h⟩
  replace h:=Al hb8 h;refine Aq (Ag (Ab (Aa O (Aa O ?_))));obtain ⟨v31,hc10,h⟩:=Ae h;refine Ba (Ry N g_0 v30 v31 hc10) O O O O O O O O ⟨⟨O,O,Y⟩,(.inl ⟨O,O⟩),Y⟩ (Bi tt O O O O O O O O O (Ao tt O O O O O O O O O O O ⟨Y,Y,Y⟩ (Af (Ag (Ab ?_)))));iterate 4 refine Aa O ?_
  refine Be O O O (fun hb11=>?_) (fun hb11=>?_)
  ·replace h:=Ak hb11 h;refine Av tt O O O O O hb11 O O O Y ?_;obtain ⟨v32,hc12,h⟩:=Ae h;refine Eh (Aao N v31 v32 hc12) O O O O hb11 O O O O O O O ⟨⟨O,(.inl ⟨O,O⟩),Y⟩,Y⟩ (Av tt O O O O O hb11 O O O Y (Bm O O O O O hb11 O (Af (Ar O (fun hb13=>?_) (fun hb13=>?_)))))
   ·replace h:=Ak hb13 h;refine Ab (Aa O (Aa O (oFreeze (t:=45) O O O O (Cr tt O O O O O O O O O O O ?_))));obtain ⟨hg14,h⟩:=Ac h;refine Bt tt O O O O O O O O O O O O O O O O (Nat.le_of_eq (Nat.zero_add _)) hg14 (Aa O (Af (Ab ?_)));obtain ⟨hg15,h⟩:=Ac h;refine Ad tt O hg15 (Aa O (Af ?_));show ∃ _,_;exact ⟨((l25++([v30]:List (List Int))),(x26+(1:Int))),(En.of ⟨O,O,O,O,O,Y⟩ ⟨O,Y⟩ ⟨O,Y⟩),h⟩
   replace h:=Al hb13 h;refine Aq (Ab ?_);obtain ⟨hg16,h⟩:=Ac h;refine Ad tt O hg16 (Aa O (Af ?_));show ∃ _,_;exact ⟨(l25,(x26+(1:Int))),(En.of ⟨O,O,O,O,O,Y⟩ ⟨O,Y⟩ ⟨O,Y⟩),h⟩
  replace h:=Al hb11 h;iterate 3 refine Kq O O O O hb11 O O ?_
  refine Aw O O O O O hb11 O (Af (Cp O O (Aq (Ab ?_))));obtain ⟨hg17,h⟩:=Ac h;refine Ad tt O hg17 (Aa O (Af ?_));show ∃ _,_;exact ⟨(l25,(x26+(1:Int))),(En.of ⟨O,O,O,O,O,Y⟩ ⟨O,Y⟩ ⟨O,Y⟩),h⟩
 replace h:=Al hb6 h;refine Bp ?_;show ∃ _,_;exact ⟨l25,(En.of ⟨O,Y⟩ ⟨O,Y⟩ trivial),h⟩
def Ey (N:Nat) (g_0:Grf) (k_1:Int) (k:Unit→Option (Bool)):Nat→Int→Option (Bool)
 | 0,_=>none
 | n+1,x9=>
  cnd (decide (x9<k_1)) (
   (Td N g_0 x9).bind fun v11=>
   cnd (decide ((v11.length:Int) > (0:Int))) (
    some false) (
    grd (Bc (x9+(1:Int))) <|
    Ey N g_0 k_1 k n (x9+(1:Int)))) (
   k ())
def Jr (N:Nat) (g_0:Grf) (k_1:Int):Option (Bool):=
 (Cs N g_0).bind fun v1=>
 cnd (!v1) (
  some false) (
  (Lo N k_1 (1:Int) (3:Int)).bind fun v2=>
  cnd (!v2) (
   some false) (
   cnd (decide (g_0.n≤k_1)) (
    some false) (
    Ey N g_0 k_1 (fun (_ : Unit) =>
       some true) N (0:Int))))
theorem Sw (N:Nat) (g_0:Grf) (k_1:Int) (r:Bool) (h:Jr N g_0 k_1=some r):PCall Tryz.prog 162 [gD g_0,.int k_1] [] (.bool r):=by
 unfold Jr at h;refine Aj (TT:=TT) tt Tryz.func162 O O Tryz.ntmps162 (congrArg Array.toList Tryz.results162) O O fun w0=>(Ag (Ab (Hz O O O O O O O O O (Aa O (Af (Ag (Ag (Ab (Aa O ?_)))))))));obtain ⟨v1,hc1,h⟩:=Ae h;refine Ba (Fx N g_0 v1 hc1) O O O O O O O O ⟨⟨O,O,Y⟩,Y⟩ (Aa O (Aa O (Be O O O (fun hb2=>?_) (fun hb2=>?_))))
 ·replace h:=Ak hb2 h;iterate 3 refine Hg O O O O hb2 O O ?_
  refine Bm O O O O O hb2 O (Aa O ?_);iterate 4 refine Hg O O O O O O O ?_
  refine Bm O O O O O O O (Af (Ce O O (Ag (Ab (Aa O (Af (Bg ?_)))))));show ∃ _,_;cases h;exact ⟨[],_,O,Y,O,.eq O,O⟩
 replace h:=Al hb2 h;refine Av tt O O O O O hb2 O O O Y ?_;obtain ⟨v2,hc3,h⟩:=Ae h;refine Eh (Mb N k_1 (1:Int) (3:Int) v2 hc3) O O O O hb2 O O O O O O O ⟨O,O,O,Y⟩ (Av tt O O O O O hb2 O O O Y (Aw O O O O O hb2 O (Aa O (Be O O O (fun hb4=>?_) (fun hb4=>?_)))))
 ·replace h:=Ak hb4 h;iterate 4 refine Hg O O O O hb4 O O ?_
  refine Bm O O O O O hb4 O (Af (Ce O O (Ag (Ab (Aa O (Af (Bg ?_)))))));show ∃ _,_;cases h;exact ⟨[],_,O,Y,O,.eq O,O⟩
 replace h:=Al hb4 h;iterate 4 refine Av tt O O O O O hb4 O O O Y ?_
 refine Aw O O O O O hb4 O (Af (Ar O (fun hb5=>?_) (fun hb5=>?_)))
 ·replace h:=Ak hb5 h;refine Ag (Ab (Aa O (Af (Bg ?_))));show ∃ _,_;cases h;exact ⟨[],_,O,Y,O,.eq O,O⟩
 replace h:=Al hb5 h;refine Aq (Ag (Ag (Ab (Aa O (Aa O (Af (Bz (F:=fun k=>Ey N g_0 k_1 k) h (α:=Unit) (J:=fun (_:Unit)=>(⟨[],[],[]⟩:PS)) ?_ ?_)))))))
 ·rintro ⟨⟩ h;show VC _ _ _ (⟨[],[],[]⟩:PS);refine Ag (Ab (Aa O (Af (Bg ?_))));show ∃ _,_;cases h;exact ⟨[],_,O,Y,O,.eq O,O⟩
 intro k h;refine Ap (Bh (α:=Int) (fun (x9:Int)=>(⟨[(2,.ptr 2 0),(20,.int k_1),(21,.int x9)],[],[(2,some [.int g_0.n,.ro false (.pairs g_0.bars)])]⟩:PS)) (Ey N g_0 k_1 k) h (En.of ⟨O,O,O,Y⟩ trivial ⟨O,Y⟩) (fun _=>O) ?_);rintro n x9 h;rw [Ey] at h;show VC _ _ _ (⟨[(2,.ptr 2 0),(20,.int k_1),(21,.int x9)],[],[(2,some [.int g_0.n,.ro false (.pairs g_0.bars)])]⟩:PS);refine Ag (Ab (Aa O (Af (Ag (Ar O (fun hb6=>?_) (fun hb6=>?_))))))
 ·replace h:=Ak hb6 h;refine Aq (Ag (Ap (Ag (Ab (Aa O (Aa O (Af (Ag (Ab ?_)))))))));refine Aa O (Aa O ?_);obtain ⟨v11,hc7,h⟩:=Ae h;refine Ba (I_CutSets_w N g_0 x9 v11 hc7) O O O O O O O O ⟨⟨O,O,Y⟩,O,Y⟩ (Aa O (Aa O (Af (Ar O (fun hb8=>?_) (fun hb8=>?_)))))
  ·replace h:=Ak hb8 h;refine Ag (Ab (Aa O (Af (Bg ?_))));show ∃ _,_;cases h;exact ⟨[],_,O,Y,O,.eq O,O⟩
  replace h:=Al hb8 h;refine Aq (Ab ?_);obtain ⟨hg9,h⟩:=Ac h;refine Ad tt O hg9 (Aa O (Af ?_));show ∃ _,_;exact ⟨(x9+(1:Int)),(En.of ⟨O,O,O,Y⟩ trivial ⟨O,Y⟩),h⟩
 replace h:=Al hb6 h;refine Bp ?_;show ∃ _,_;exact ⟨(),(En.of trivial trivial trivial),h⟩
def Qu (N:Nat) (g_0:Grf) (k_1:Int):Option (Grf×Bool):=
 (Jl N g_0).bind fun v1=>
 (Cs N g_0).bind fun v2=>
 cnd (!v2) (
  some ((⟨v1.n,v1.bars⟩:Grf),false)) (
  grd (Bc ((g_0.bars.length:Int)-(1:Int))) <|
  (Lo N k_1 (0:Int) ((g_0.bars.length:Int)-(1:Int))).bind fun v3=>
  cnd (!v3) (
   some ((⟨v1.n,v1.bars⟩:Grf),false)) (
   grd (0≤k_1∧k_1≤(v1.bars.length:Int)) <|
   grd (Bc (k_1+(1:Int))) <|
   grd (0≤(k_1+(1:Int))∧(k_1+(1:Int))≤(v1.bars.length:Int)) <|
   grd ((0+(((k_1+(1:Int))).toNat))+(v1.bars.length-(((k_1+(1:Int))).toNat))≤v1.bars.length) <|
   grd (((k_1).toNat)≤v1.bars.length) <|
   grd (((k_1).toNat)+((v1.bars.take ((0+(((k_1+(1:Int))).toNat))+(v1.bars.length-(((k_1+(1:Int))).toNat)))).drop (0+(((k_1+(1:Int))).toNat))).length≤4294967296) <|
   some ((⟨v1.n,((v1.bars.take ((k_1).toNat))++((v1.bars.take ((0+(((k_1+(1:Int))).toNat))+(v1.bars.length-(((k_1+(1:Int))).toNat)))).drop (0+(((k_1+(1:Int))).toNat))))⟩:Grf),true)))
theorem I_RemoveBar_w (N:Nat) (g_0:Grf) (k_1:Int) (r:Grf×Bool) (h:Qu N g_0 k_1=some r):PCall Tryz.prog 204 [gD g_0,.int k_1] [(42,.pairs r.1.bars)] (.tup [.agg [.int r.1.n,.row 0 0 r.1.bars.length],.bool r.2]):=by
 unfold Qu at h;refine Aj (TT:=TT) tt Tryz.func204 O O Tryz.ntmps204 (congrArg Array.toList Tryz.results204) O O fun w0=>(Ag (Ab (Hz O O O O O O O O O (Bi tt O O O O O O O O O (Aa O (Af (Ag (Ab (Aa O ?_)))))))));obtain ⟨v1,hc1,h⟩:=Ae h;refine Ba (Sf N g_0 v1 hc1) O O O O O O O O ⟨⟨O,O,Y⟩,Y⟩ (Bi tt O O O O O O O O O (Ao tt O O O O O O O O O O O ⟨Y,Y,Y⟩ (Af (Ag (Ag (Ab (Aa O ?_)))))));obtain ⟨v2,hc2,h⟩:=Ae h;refine Ba (Fx N g_0 v2 hc2) O O O O O O O O ⟨⟨O,O,Y⟩,Y⟩ (Aa O (Aa O (Be O O O (fun hb3=>?_) (fun hb3=>?_))))
 ·replace h:=Ak hb3 h;iterate 7 refine Hg O O O O hb3 O O ?_
  refine Bm O O O O O hb3 O (Af (Ce O O (Ag (Ab (Aa O (Ao tt O O O O O O O O O O O ⟨Y,Y,Y⟩ (Aa O (Af (Bg ?_)))))))));show ∃ _,_;cases h;exact ⟨[1080],_,O,⟨O,Y⟩,O,.eq O,O⟩
 replace h:=Al hb3 h;iterate 4 refine Av tt O O O O O hb3 O O O Y ?_
 obtain ⟨hg4,h⟩:=Ac h;refine Av tt O O O O O hb3 O O O hg4 ?_;obtain ⟨v3,hc5,h⟩:=Ae h;refine Eh (Mb N k_1 (0:Int) ((g_0.bars.length:Int)-(1:Int)) v3 hc5) O O O O hb3 O O O O O O O ⟨O,O,O,Y⟩ (Av tt O O O O O hb3 O O O Y (Aw O O O O O hb3 O (Af (Ar O (fun hb6=>?_) (fun hb6=>?_)))))
 ·replace h:=Ak hb6 h;refine Ag (Ab (Aa O (Ao tt O O O O O O O O O O O ⟨Y,Y,Y⟩ (Aa O (Af (Bg ?_))))));show ∃ _,_;cases h;exact ⟨[1080],_,O,⟨O,Y⟩,O,.eq O,O⟩
 replace h:=Al hb6 h;refine Aq (Ag (Dn 9 [] [0,1,0,7,0,16,0,64,240,511,1023,2047] (by kernel_rfl) (by kernel_rfl) (by kernel_rfl) (by kernel_rfl) (by kernel_rfl) O (by rfl) ?_));iterate 3 refine Fy tt O (Ai O) O O O O O Y ?_
 obtain ⟨hg7,h⟩:=Ac h;refine Fy tt O (Ai O) O O O O O hg7 ?_;iterate 3 refine Fy tt O (Ai O) O O O O O Y ?_
 obtain ⟨hg8,h⟩:=Ac h;refine Fy tt O (Ai O) O O O O O hg8 ?_;obtain ⟨hg9,h⟩:=Ac h;refine Fy tt O (Ai O) O O O O O hg9 (Tb ?_);show VO _ _ _ _ _;obtain ⟨hg10,h⟩:=Ac h;obtain ⟨hg11,h⟩:=Ac h;obtain ⟨hg12,h⟩:=Ac h;refine oAppendP tt O O O O O O O O O O O O O O O hg11 hg10 hg12 (Aa O (Ao tt O O O O O O O O O O O ⟨Y,Y⟩ (Af (Ag (Ab (Aa O (Ao tt O O O O O O O O O O O ⟨Y,Y,Y⟩ (Aa O (Af ?_)))))))));refine Bg ?_;show ∃ _,_;cases h;exact ⟨[1080],_,O,⟨O,Y⟩,O,.eq O,O⟩
def Gf (N:Nat) (g_0:Grf) (k_1:Int) (l_2:Int) (v1:Int) (k:(List Int)→Option (List Int)):Nat→((List Int)×Int)→Option (List Int)
 | 0,_=>none
 | n+1,(l18,x19)=>
  cnd (decide (x19<(g_0.bars.length:Int))) (
   (Qu N g_0 x19).bind fun v22=>
   (Sl N v22.1 k_1 l_2).bind fun v23=>
   cnd (decide (v23<v1)) (
    grd (l18.length+1≤4294967296) <|
    grd (Bc (x19+(1:Int))) <|
    Gf N g_0 k_1 l_2 v1 k n ((l18++([x19]:List Int)),(x19+(1:Int)))) (
    grd (Bc (x19+(1:Int))) <|
    Gf N g_0 k_1 l_2 v1 k n (l18,(x19+(1:Int))))) (
   k l18)
def Qr (N:Nat) (g_0:Grf) (k_1:Int) (l_2:Int):Option (List Int):=
 (Sl N g_0 k_1 l_2).bind fun v1=>
 cnd (decide (v1<(0:Int))) (
  some ([]:List Int)) (
  Gf N g_0 k_1 l_2 v1 (fun (l12 : List Int) =>
     some l12) N (([]:List Int),(0:Int)))
theorem I_BridgesOf_w (N:Nat) (g_0:Grf) (k_1:Int) (l_2:Int) (r:List Int) (h:Qr N g_0 k_1 l_2=some r):PCall Tryz.prog 198 [gD g_0,.int k_1,.int l_2] [(3,.ints r)] (.row 0 0 r.length):=by
 unfold Qr at h;refine Aj (TT:=TT) tt Tryz.func198 O O Tryz.ntmps198 (congrArg Array.toList Tryz.results198) O O fun w0=>(Ag (Ab (Hz O O O O O O O O O (Aa O (Af (Ag (Ab (Gr tt (Ai O) O O O O (Aa O ?_)))))))));refine Af (Ag (Ab (Aa O (Aa O (Aa O ?_)))));obtain ⟨v1,hc1,h⟩:=Ae h;refine Ba (Zc N g_0 k_1 l_2 v1 hc1) O O O O O O O O ⟨⟨O,O,Y⟩,O,O,Y⟩ (Aa O (Af (Ag (Ag (Ab (Aa O (Aa O (Af (Ar O (fun hb2=>?_) (fun hb2=>?_))))))))))
 ·replace h:=Ak hb2 h;refine Ag (Ab (Aa O (Aa O (Af (Jq 6 9001 3 (.ints []) O O O O (Bg ?_))))));show ∃ _,_;cases h;exact ⟨[9001],_,O,⟨O,Y⟩,O,.eq O,O⟩
 replace h:=Al hb2 h;refine Aq (Ag (Ag (Ab ?_)));iterate 4 refine Aa O ?_
 refine Af (Bz (F:=fun k=>Gf N g_0 k_1 l_2 v1 k) h (α:=List Int) (J:=fun (l12:List Int)=>(⟨[(7,.row 41 0 l12.length)],[(41,some (3,.ints l12))],[]⟩:PS)) ?_ ?_)
 ·rintro l12 h;show VC _ _ _ (⟨[(7,.row 41 0 l12.length)],[(41,some (3,.ints l12))],[]⟩:PS);refine Ag (Ab (Aa O (Aa O (Af (Bg ?_)))));show ∃ _,_;cases h;exact ⟨[41],_,O,⟨O,Y⟩,O,.eq O,O⟩
 intro k h;refine Ap (Jq 7 41 3 (.ints []) rfl rfl rfl rfl (Bh (α:=(List Int)×Int) (fun | (l18,x19)=>(⟨[(1,.int k_1),(2,.int l_2),(3,.ptr 3 0),(7,.row 41 0 l18.length),(8,.int v1),(22,.int (g_0.bars.length:Int)),(23,.int x19)],[(41,some (3,.ints l18))],[(3,some [.int g_0.n,.ro false (.pairs g_0.bars)])]⟩:PS)) (Gf N g_0 k_1 l_2 v1 k) h (En.of ⟨rfl,rfl,rfl,rfl,rfl,rfl,rfl,Y⟩ ⟨rfl,Y⟩ ⟨rfl,Y⟩) (fun _=>rfl) ?_));rintro n ⟨l18,x19⟩ h;rw [Gf] at h;show VC _ _ _ (⟨[(1,.int k_1),(2,.int l_2),(3,.ptr 3 0),(7,.row 41 0 l18.length),(8,.int v1),(22,.int (g_0.bars.length:Int)),(23,.int x19)],[(41,some (3,.ints l18))],[(3,some [.int g_0.n,.ro false (.pairs g_0.bars)])]⟩:PS);refine Ag (Ab (Aa O (Af (Ag (Ar O (fun hb3=>?_) (fun hb3=>?_))))))
 ·replace h:=Ak hb3 h;refine Aq (Ag (Ap (Ag (Ab (Aa O (Aa O (Af (Ag (Ab ?_)))))))));refine Aa O (Aa O ?_);obtain ⟨v22,hc4,h⟩:=Ae h;refine Ba (I_RemoveBar_w N g_0 x19 v22 hc4) O O O O O O O O ⟨⟨O,O,Y⟩,O,Y⟩ (Aa O (Aa O (Aa O (Bi tt O O O O O O O O O (Ao tt O O O O O O O O O O O ⟨Y,Y,Y⟩ (Aa O (Af (Ag (Ab ?_)))))))));refine Aa O (Aa O (Aa O ?_));obtain ⟨v23,hc5,h⟩:=Ae h;refine Ba (Zc N v22.1 k_1 l_2 v23 hc5) O O O O O O O O ⟨⟨O,(.inl ⟨O,O⟩),Y⟩,O,O,Y⟩ (Aa O (Aa O (Af (Ar O (fun hb6=>?_) (fun hb6=>?_)))))
  ·replace h:=Ak hb6 h;refine Ab (Aa O (Aa O (Cr tt O O O O O O O O O O O ?_)));obtain ⟨hg7,h⟩:=Ac h;refine Bt tt O O O O O O O O O O O O O O O O (Nat.le_of_eq (Nat.zero_add _)) hg7 (Aa O (Af (Ab ?_)));obtain ⟨hg8,h⟩:=Ac h;refine Ad tt O hg8 (Aa O (Af ?_));show ∃ _,_;exact ⟨((l18++([x19]:List Int)),(x19+(1:Int))),(En.of ⟨O,O,O,O,O,O,O,Y⟩ ⟨O,Y⟩ ⟨O,Y⟩),h⟩
  replace h:=Al hb6 h;refine Aq (Ab ?_);obtain ⟨hg9,h⟩:=Ac h;refine Ad tt O hg9 (Aa O (Af ?_));show ∃ _,_;exact ⟨(l18,(x19+(1:Int))),(En.of ⟨O,O,O,O,O,O,O,Y⟩ ⟨O,Y⟩ ⟨O,Y⟩),h⟩
 replace h:=Al hb3 h;refine Bp ?_;show ∃ _,_;exact ⟨l18,(En.of ⟨O,Y⟩ ⟨O,Y⟩ trivial),h⟩
def Pm (N:Nat) (g_0:Grf):Option (List Int):=
 (Qr N g_0 (2:Int) (3:Int)).bind fun v1=>
 some v1
theorem Ab3 (N:Nat) (g_0:Grf) (r:List Int) (h:Pm N g_0=some r):PCall Tryz.prog 187 [gD g_0] [(3,.ints r)] (.row 0 0 r.length):=by
 unfold Pm at h;refine Aj (TT:=TT) tt Tryz.func187 O O Tryz.ntmps187 (congrArg Array.toList Tryz.results187) O O fun w0=>(Ag (Ab (Hz O O O O O O O O O (Aa O (Af (Ag (Ab (Aa O ?_))))))));obtain ⟨v1,hc1,h⟩:=Ae h;refine Ba (I_BridgesOf_w N g_0 (2:Int) (3:Int) v1 hc1) O O O O O O O O ⟨⟨O,O,Y⟩,O,O,Y⟩ (Aa O (Af (Bg ?_)));show ∃ _,_;cases h;exact ⟨[1040],_,O,⟨O,Y⟩,O,.eq O,O⟩
end
section
variable {N:Nat}
def Acl (l:List Bool) (e:Int×Int):List Bool:=cnd (l.getD e.1.toNat false || l.getD e.2.toNat false) ((l.set e.1.toNat true).set e.2.toNat true) l
theorem relB_len (l:List Bool) (e:Int×Int):(Acl l e).length=l.length:=by
 unfold Acl;cases (l.getD e.1.toNat false || l.getD e.2.toNat false) <;> simp [cnd]
def Pb (bars:List (Int×Int)) (l:List Bool):List Bool:=bars.foldl Acl l
theorem Aa3 (bars:List (Int×Int)):∀ l,(Pb bars l).length=l.length:=by
 induction bars with
 | nil=>intro l; rfl
 | cons e bars ih=>intro l; show (Pb bars (Acl l e)).length=_; rw [ih,relB_len]
def itB (bars:List (Int×Int)):Nat→List Bool→List Bool
 | 0,l=>l
 | k+1,l=>itB bars k (Pb bars l)
theorem itB_succ (bars:List (Int×Int)):∀ k l,itB bars (k+1) l=Pb bars (itB bars k l)
 | 0,l=>rfl
 | k+1,l=>by
  show itB bars (k+1) (Pb bars l)=_;rw [itB_succ bars k (Pb bars l)]; rfl
theorem itB_len (bars:List (Int×Int)):∀ k l,(itB bars k l).length=l.length
 | 0,l=>rfl
 | k+1,l=>by rw [itB,itB_len bars k,Aa3]
theorem itB_same {bars:List (Int×Int)} {l:List Bool} (h:Pb bars l=l):∀ k,itB bars k l=l
 | 0=>rfl
 | k+1=>by rw [itB,h,itB_same h k]
def fcB (l:List Bool):Nat:=l.countP fun b=>!b
theorem fcB_set (l:List Bool) (i:Nat):fcB (l.set i true)≤fcB l:=by
 unfold fcB;by_cases hi:i<l.length
 ·rw [List.countP_set hi]; simp
 rw [List.set_eq_of_length_le (by omega)]; exact Nat.le_refl _
theorem fcB_lt {l:List Bool} {i:Nat} (hi:i<l.length) (h:l.getD i false=false):fcB (l.set i true)<fcB l:=by
 have hg:l[i]=false:=by rw [List.getD_eq_getElem?_getD,List.getElem?_eq_getElem hi] at h; exact h
 unfold fcB;rw [List.countP_set hi,hg];have:0<l.countP fun b=>!b:=List.countP_pos_iff.2 ⟨l[i],List.getElem_mem hi,by rw [hg]; rfl⟩;simp; omega
theorem set_self {l:List Bool} {i:Nat} (h:l.getD i false=true):l.set i true=l:=by
 by_cases hi:i<l.length
 ·have hg:l[i]=true:=by rw [List.getD_eq_getElem?_getD,List.getElem?_eq_getElem hi] at h; exact h
  rw [←hg,List.set_getElem_self]
 rw [List.set_eq_of_length_le (by omega)]
theorem getD_setB {l:List Bool} {i j:Nat} (h:l.getD j false=true):(l.set i true).getD j false=true:=by
 rw [List.getD_eq_getElem?_getD] at h ⊢;rw [List.getElem?_set];by_cases hij:i=j
 ·subst hij;by_cases hi:i<l.length
  ·simp [hi]
  rw [List.getElem?_eq_none (by omega)] at h; cases h
 simp [hij]; simpa using h
theorem relB_eq {l:List Bool} {e:Int×Int} (h:l.getD e.1.toNat false=l.getD e.2.toNat false):Acl l e=l:=by
 unfold Acl
 cases h2:l.getD e.2.toNat false with
 | true=>
  rw [h2] at h;rw [h,Bool.true_or,cnd_true,set_self h,set_self h2]
 | false=>rw [h,h2]; rfl
theorem relB_ne {l:List Bool} {e:Int×Int} (h1:e.1.toNat<l.length) (h2:e.2.toNat<l.length) (h:¬ l.getD e.1.toNat false=l.getD e.2.toNat false):Acl l e=(l.set e.1.toNat true).set e.2.toNat true∧fcB (Acl l e)<fcB l:=by
 unfold Acl
 cases a:l.getD e.1.toNat false with
 | true=>
  cases b:l.getD e.2.toNat false with
  | true=>exact absurd (by rw [a,b]) h
  | false=>
   refine ⟨O,?_⟩;show fcB ((l.set e.1.toNat true).set e.2.toNat true)<_;rw [set_self a];exact fcB_lt h2 b
 | false=>
  cases b:l.getD e.2.toNat false with
  | true=>
   refine ⟨O,?_⟩;show fcB ((l.set e.1.toNat true).set e.2.toNat true)<_;exact Nat.lt_of_le_of_lt (fcB_set _ _) (fcB_lt h1 a)
  | false=>exact absurd (by rw [a,b]) h
theorem Adb {l:List (Int×Int)} {i:Nat} (hi:i<l.length):l.drop i=l.getD i (0,0)::l.drop (i+1):=by
 rw [List.drop_eq_getElem_cons hi,List.getD_eq_getElem?_getD,List.getElem?_eq_getElem hi]; rfl
theorem bar_in {g:Grf} (hg:Bd g=true) {i:Nat} (hi:i<g.bars.length):0≤(g.bars.getD i (0,0)).1∧(g.bars.getD i (0,0)).1<(g.bars.getD i (0,0)).2∧(g.bars.getD i (0,0)).2<g.n:=
 Da hg (p:=g.bars.getD i (0,0)) (by rw [List.getD_eq_getElem?_getD,List.getElem?_eq_getElem hi]; exact List.getElem_mem hi)
theorem reachS3_s (hN:4000000≤N) {g:Grf} (hg:Bd g=true) (kk:List Bool→Option (List Int)):∀ (fuel i:Nat) (l:List Bool),i≤g.bars.length→g.bars.length<fuel+i→(l.length:Int)=g.n →
  Ha N g kk fuel (l,(i:Int))=kk ((g.bars.drop i).foldl Acl l):=by
 have hp:=As hg;intro fuel
 induction fuel with
 | zero=>intro i l h1 h2; omega
 | succ fuel ih=>
  intro i l h1 h2 h3;rw [Ha];by_cases hi:i<g.bars.length
  ·have hb:=bar_in hg hi;rw [Bb (by omega),Am (by omega),show ((i:Int)).toNat=i from by omega,Adb hi,List.foldl_cons,List.length_replicate];have hrl:=relB_len l (g.bars.getD i (0,0));have hih:=ih (i+1) (Acl l (g.bars.getD i (0,0))) (by omega) (by omega) (by omega);rw [←hih];unfold Acl;generalize g.bars.getD i (0,0)=e at hb;have hn:((g.n.toNat:Nat):Int)=g.n:=by omega
   rw [Am (p:=0≤e.1∧e.1<((g.n.toNat:Nat):Int)) (by omega),Am (p:=0≤e.1∧e.1<(l.length:Int)) (by omega)]
   cases a:l.getD e.1.toNat false with
   | true=>
    rw [cnd_true,Bool.true_or,cnd_true,Am (p:=0≤e.2∧e.2<((g.n.toNat:Nat):Int)) (by omega),Am (by rw [List.length_set]; omega),Bf (by omega) (by omega),Ah]
   | false=>
    rw [cnd_false,Bool.false_or,Am (p:=0≤e.2∧e.2<((g.n.toNat:Nat):Int)) (by omega),Am (p:=0≤e.2∧e.2<(l.length:Int)) (by omega)]
    cases b:l.getD e.2.toNat false with
    | true=>rw [cnd_true,cnd_true,Am (by rw [List.length_set]; omega),Bf (by omega) (by omega),Ah]
    | false=>rw [cnd_false,cnd_false,Bf (by omega) (by omega),Ah]
  have e:i=g.bars.length:=by omega
  rw [Ay (by omega),e,List.drop_length]; rfl
theorem reachS2_s (hN:4000000≤N) {g:Grf} (hg:Bd g=true) (kk:List Bool→Option (List Int)) {l:List Bool} (hl:(l.length:Int)=g.n):Ej N g kk N (l,(0:Int))=kk (itB g.bars g.n.toNat l):=by
 have hp:=As hg;refine fold (N:=N) (len:=g.n.toNat) (σ:=List Bool) (st:=fun i=>itB g.bars i l) (F:=fun m s=>Ej N g kk m (s.1,s.2)) (fin:=kk (itB g.bars g.n.toNat l)) (by omega) (fun m i hi=>?_) fun m=>?_
 ·show Ej N g kk (m+1) (itB g.bars i l,(i:Int))=Ej N g kk m (itB g.bars (i+1) l,((i+1:Nat):Int));rw [Ej,Bb (by omega)];have h:=reachS3_s hN hg (fun (l46:List Bool)=>grd (Bc ((i:Int)+(1:Int))) <| Ej N g kk m (l46,((i:Int)+(1:Int)))) N 0 (itB g.bars i l) (by omega) (by omega) (by rw [itB_len]; exact hl);refine h.trans ?_;rw [List.drop_zero,itB_succ];show grd (Bc ((i:Int)+1)) _=_;rw [Bf (by omega) (by omega),Ah]; rfl
 show Ej N g kk (m+1) (itB g.bars g.n.toNat l,((g.n.toNat:Nat):Int))=_;rw [Ej,Ay (by omega)]
theorem reachI2_s (hN:4000000≤N) {g:Grf} (hg:Bd g=true) (kk:List Bool×Bool→Option (List Bool)):∀ (fuel i:Nat) (l:List Bool) (ag:Bool),i≤g.bars.length→g.bars.length<fuel+i→(l.length:Int)=g.n →
  ∃ ag':Bool,Es N g kk fuel (l,ag,(i:Int))=kk ((g.bars.drop i).foldl Acl l,ag')∧((ag'=ag∧(g.bars.drop i).foldl Acl l=l)∨(ag'=true∧fcB ((g.bars.drop i).foldl Acl l)<fcB l)):=by
 have hp:=As hg;intro fuel
 induction fuel with
 | zero=>intro i l ag h1 h2; omega
 | succ fuel ih=>
  intro i l ag h1 h2 h3;rw [Es];by_cases hi:i<g.bars.length
  ·have hb:=bar_in hg hi;rw [Bb (by omega),Am (by omega),show ((i:Int)).toNat=i from by omega,Adb hi,List.foldl_cons,List.length_replicate];have hrl:=relB_len l (g.bars.getD i (0,0));generalize g.bars.getD i (0,0)=e at hb hrl;have hn:((g.n.toNat:Nat):Int)=g.n:=by omega
   rw [Am (p:=0≤e.1∧e.1<((g.n.toNat:Nat):Int)) (by omega),Am (p:=0≤e.1∧e.1<(l.length:Int)) (by omega),Am (p:=0≤e.2∧e.2<((g.n.toNat:Nat):Int)) (by omega),Am (p:=0≤e.2∧e.2<(l.length:Int)) (by omega)];by_cases hq:l.getD e.1.toNat false=l.getD e.2.toNat false
   ·have hb2:(l.getD e.1.toNat false != l.getD e.2.toNat false)=false:=by rw [hq]; simp
    rw [hb2,cnd_false,Bf (by omega) (by omega),Ah,relB_eq hq];exact ih (i+1) l ag (by omega) (by omega) h3
   have hb2:(l.getD e.1.toNat false != l.getD e.2.toNat false)=true:=by simpa using hq
   obtain ⟨r1,r2⟩:=relB_ne (l:=l) (e:=e) (by omega) (by omega) hq;rw [hb2,cnd_true,Am (by rw [List.length_set]; omega),Bf (by omega) (by omega),Ah,←r1];obtain ⟨ag',k1,k2⟩:=ih (i+1) (Acl l e) true (by omega) (by omega) (by omega);refine ⟨ag',k1,.inr ?_⟩;rcases k2 with ⟨k2,k3⟩ | ⟨k2,k3⟩
   ·exact ⟨k2,by rw [k3]; exact r2⟩
   exact ⟨k2,by omega⟩
  have e:i=g.bars.length:=by omega
  rw [Ay (by omega),e,List.drop_length];exact ⟨ag,O,.inl ⟨O,O⟩⟩
theorem reachI1_s (hN:4000000≤N) {g:Grf} (hg:Bd g=true) (kk:List Bool→Option (List Bool)):∀ (k fuel:Nat) (l:List Bool),fcB l≤k→k+2≤fuel→(l.length:Int)=g.n →
  Cd N g kk fuel (l,true)=kk (itB g.bars k l):=by
 have hp:=As hg;intro k
 induction k with
 | zero=>
  intro fuel l h1 h2 h3;obtain ⟨f,rfl⟩:∃ f,fuel=f+2:=⟨fuel-2,by omega⟩;rw [Cd,cnd_true];obtain ⟨ag',k1,k2⟩:=reachI2_s hN hg (fun x=>match x with | (l55,again56)=>Cd N g kk (f+1) (l55,again56)) N 0 l false (by omega) (by omega) h3;refine k1.trans ?_;rw [List.drop_zero] at k2 ⊢;rcases k2 with ⟨k2,k3⟩ | ⟨k2,k3⟩
  ·show Cd N g kk (f+1) (_,ag')=_;rw [k2,k3,Cd,cnd_false]; rfl
  omega
 | succ k ih=>
  intro fuel l h1 h2 h3;obtain ⟨f,rfl⟩:∃ f,fuel=f+2:=⟨fuel-2,by omega⟩;rw [Cd,cnd_true];obtain ⟨ag',k1,k2⟩:=reachI2_s hN hg (fun x=>match x with | (l55,again56)=>Cd N g kk (f+1) (l55,again56)) N 0 l false (by omega) (by omega) h3;refine k1.trans ?_;rw [List.drop_zero] at k2 ⊢;show Cd N g kk (f+1) (Pb g.bars l,ag')=kk (itB g.bars k (Pb g.bars l));rcases k2 with ⟨k2,k3⟩ | ⟨k2,k3⟩
  ·have k3:Pb g.bars l=l:=k3;rw [k2,k3,Cd,cnd_false,itB_same k3]
  have k3:fcB (Pb g.bars l)<fcB l:=k3;rw [k2];exact ih (f+1) (Pb g.bars l) (by omega) (by omega) (by rw [Aa3]; exact h3)
theorem coll_x (hN:4000000≤N) {g:Grf} {l:List Bool} (hl:(l.length:Int)=g.n) (h8:l.length≤8):∃ L:List Int,L.length≤8∧Fd N g l (fun (l25:List Int)=>some l25) N (([]:List Int),(0:Int))=some L∧Gw N l (fun (l6:List Int)=>some l6) N (([]:List Int),(0:Int))=some L:=by
 have key:∀ (fuel i:Nat) (L:List Int),i≤l.length→l.length<fuel+i→L.length≤i→∃ L':List Int,L'.length≤8∧Fd N g l (fun (l25:List Int)=>some l25) fuel (L,(i:Int))=some L'∧Gw N l (fun (l6:List Int)=>some l6) fuel (L,(i:Int))=some L':=by
  intro fuel
  induction fuel with
  | zero=>intro i L h1 h2; omega
  | succ fuel ih=>
   intro i L h1 h2 h3;rw [Fd,Gw];by_cases hi:i<l.length
   ·rw [Bb (by omega),Bb (by omega),List.length_replicate,show ((i:Int)).toNat=i from by omega,Am (p:=0≤(i:Int)∧(i:Int)<((g.n.toNat:Nat):Int)) (by omega),Am (p:=0≤(i:Int)∧(i:Int)<(l.length:Int)) (by omega),Am (p:=0≤(i:Int)∧(i:Int)<(l.length:Int)) (by omega)]
    cases l.getD i false with
    | true=>
     obtain ⟨L',a1,a2,a3⟩:=ih (i+1) (L++[(i:Int)]) (by omega) (by omega) (by simp; omega);refine ⟨L',a1,?_,?_⟩
     ·rw [cnd_true,Am (by omega),Bf (by omega) (by omega),Ah]; exact a2
     rw [cnd_true,Am (by omega),Bf (by omega) (by omega),Ah]; exact a3
    | false=>
     obtain ⟨L',a1,a2,a3⟩:=ih (i+1) L (by omega) (by omega) (by omega);refine ⟨L',a1,?_,?_⟩
     ·rw [cnd_false,Bf (by omega) (by omega),Ah]; exact a2
     rw [cnd_false,Bf (by omega) (by omega),Ah]; exact a3
   rw [Ay (by omega),Ay (by omega)];exact ⟨L,by omega,O,O⟩
 exact key N 0 [] (by omega) (by omega) (by simp)
theorem reach_x (hN:4000000≤N) {g:Grf} {v:Int}:∃ L:List Int,L.length≤8∧Qo N g v=some L∧Tq N g v=some L:=by
 unfold Qo Tq;rw [Ca N hN,Ed N hN,Option.bind_some,Option.bind_some]
 cases hg:Bd g with
 | false=>exact ⟨[],by simp,rfl,rfl⟩
 | true=>
  have hp:=As hg;rw [Bool.not_true,cnd_false,cnd_false,ghas_s N (g:=g) (by omega) (by omega) v,Option.bind_some];by_cases hv:0≤v∧v<g.n
  ·rw [Ay (by omega),Ay (by omega),inB_true.2 (show 0≤v∧v≤g.n-1 by omega),Bool.not_true,cnd_false,Am (by omega),Am (by rw [List.length_replicate]; omega)];have hl:((((List.replicate g.n.toNat false).set v.toNat true).length:Nat):Int)=g.n:=by rw [List.length_set,List.length_replicate]; omega
   have hf:fcB ((List.replicate g.n.toNat false).set v.toNat true)≤g.n.toNat:=by
    unfold fcB;refine Nat.le_trans List.countP_le_length ?_;rw [List.length_set,List.length_replicate]; exact Nat.le_refl _
   have hl2:(((itB g.bars g.n.toNat ((List.replicate g.n.toNat false).set v.toNat true)).length:Nat):Int)=g.n:=by rw [itB_len]; exact hl
   obtain ⟨L,a1,a2,a3⟩:=coll_x hN (g:=g) hl2 (by omega);refine ⟨L,a1,(reachS2_s hN hg _ hl).trans a2,?_⟩;unfold Ps;rw [Am (by omega),Am (by rw [List.length_replicate]; omega),reachI1_s hN hg _ g.n.toNat N _ hf (by omega) hl];rw [Am (by rw [List.length_replicate]; omega),Option.bind_some];exact a3
  refine ⟨[],by simp,?_,?_⟩
  ·by_cases h0:v<0
   ·rw [Bb h0]
   rw [Ay h0,Bb (by omega)]
  have:inB v 0 (g.n-1)=false:=by rw [Bool.eq_false_iff]; intro h; have:=inB_true.1 h; omega
  rw [this]; rfl
theorem conn_x (hN:4000000≤N) {g:Grf}:∃ b:Bool,Gz N g=some b∧Lq N g=some b:=by
 unfold Gz Lq;rw [Ca N hN,Ed N hN,Option.bind_some,Option.bind_some]
 cases Bd g with
 | false=>exact ⟨false,rfl,rfl⟩
 | true=>
  obtain ⟨L,a1,a2,a3⟩:=reach_x hN (g:=g) (v:=0);rw [cnd_true,cnd_true,a2,a3,Option.bind_some];exact ⟨_,O,O⟩
theorem cut_x (hN:4000000≤N) {g:Grf} (hgb:g.bars.length≤3000000) (hg:Bd g=true) {k:Int} (hk:0≤k∧k≤8) {kS kI:List (List Int)→Option (List (List Int))} :
  ∀ (fuel i:Nat) (L:List (List Int)),i≤2 ^ g.n.toNat→2 ^ g.n.toNat<fuel+i→L.length≤i →
  ∃ L',L'.length≤256∧Dz N g k kS fuel (L,(i:Int))=kS L'∧Gg N g k kI fuel (L,(i:Int))=kI L':=by
 have hp:=As hg;have h8:2 ^ g.n.toNat≤2 ^ 8:=Nat.pow_le_pow_right (by omega) (by omega);have h88:(2:Nat) ^ 8=256:=by decide
 have hpw:(1:Int)*2 ^ g.n.toNat=((2 ^ g.n.toNat:Nat):Int):=by rw [Int.one_mul]; simp
 intro fuel
 induction fuel with
 | zero=>intro i L h1 h2; omega
 | succ fuel ih=>
  intro i L h1 h2 h3;have hR:Bc ((1:Int)*2 ^ g.n.toNat):=by rw [hpw]; exact ⟨by omega,by omega⟩
  rw [Dz,Gg,Am (p:=0≤g.n∧g.n<64∧Bc ((1:Int)*2 ^ g.n.toNat)) ⟨by omega,by omega,hR⟩,hpw];by_cases hi:i<2 ^ g.n.toNat
  ·rw [Bb (by omega),Bb (by omega),setS_s hN (by omega),setI_s hN (by omega),Option.bind_some,Option.bind_some];have hsl:=Jm (i:Int) g.n.toNat;have hso:=outN_set (i:Int) g.n.toNat;generalize Ec (i:Int) g.n.toNat=U at hsl hso;obtain ⟨L1,a1,a2,a3⟩:=ih (i+1) L (by omega) (by omega) (by omega);obtain ⟨L2,b1,b2,b3⟩:=ih (i+1) (L++[U]) (by omega) (by omega) (by simp; omega);by_cases hkk:(U.length:Int)=k
   ·have e1:((U.length:Int)==k)=true:=by rw [beq_iff_eq]; exact hkk
    have e2:((U.length:Int) != k)=false:=by simp [hkk]
    obtain ⟨h,w1,w2,w3,w4,w5⟩:=without_x hN hgb (set:=U) (by omega);have hmn:(max (0:Int) (min (8:Int) g.n)).toNat=g.n.toNat:=by omega
    rw [hmn] at w2;rw [e1,e2,cnd_true,cnd_false,w5,Option.bind_some];obtain ⟨b,c1,c2⟩:=conn_x hN (g:=h);by_cases h2k:g.n-k≥2
    ·have hS:Dz N g k kS (fuel+1) (L,(i:Int))=Dz N g k kS (fuel+1) (L,(i:Int)):=rfl;rw [Bb h2k,Bb (show h.n≥2 by omega),w4,Option.bind_some,c1,c2,Option.bind_some,Option.bind_some,Bf (by omega) (by omega)]
     cases b with
     | true=>
      refine ⟨L1,a1,?_,?_⟩
      ·rw [Bool.not_true,cnd_false,Bf (by omega) (by omega),Ah]; exact a2
      rw [Bool.not_true,cnd_false,Bf (by omega) (by omega),Ah]; exact a3
     | false=>
      refine ⟨L2,b1,?_,?_⟩
      ·rw [Bool.not_false,cnd_true,Am (by omega),Bf (by omega) (by omega),Ah]; exact b2
      rw [Bool.not_false,cnd_true,Am (by omega),Bf (by omega) (by omega),Ah]; exact b3
    refine ⟨L1,a1,?_,?_⟩
    ·rw [Bf (by omega) (by omega),Ay h2k,Bf (by omega) (by omega),Ah]; exact a2
    rw [Ay (show ¬ h.n≥2 by omega),Bf (by omega) (by omega),Ah]; exact a3
   have e1:((U.length:Int)==k)=false:=by rw [beq_eq_false_iff_ne]; exact hkk
   have e2:((U.length:Int) != k)=true:=by simp [hkk]
   refine ⟨L1,a1,?_,?_⟩
   ·rw [e1,cnd_false,Bf (by omega) (by omega),Ah]; exact a2
   rw [e2,cnd_true,Bf (by omega) (by omega),Ah]; exact a3
  rw [Ay (by omega),Ay (by omega)];exact ⟨L,by omega,O,O⟩
theorem cutSets_x (hN:4000000≤N) {g:Grf} (hgb:g.bars.length≤3000000) {k:Int}:∃ L:List (List Int),L.length≤256∧Qs N g k=some L∧Td N g k=some L:=by
 unfold Qs Td;rw [Ca N hN,Ed N hN,Option.bind_some,Option.bind_some]
 cases hg:Bd g with
 | false=>exact ⟨[],by simp,rfl,rfl⟩
 | true=>
  have hp:=As hg;rw [Bool.not_true,cnd_false,cnd_false,Zg N,Rf N,Option.bind_some,Option.bind_some]
  cases hk:inB k 0 3 with
  | false=>exact ⟨[],by simp,rfl,rfl⟩
  | true=>
   have hk2:=inB_true.1 hk;have h8:2 ^ g.n.toNat≤2 ^ 8:=Nat.pow_le_pow_right (by omega) (by omega);have h88:(2:Nat) ^ 8=256:=by decide
   have hpw:(1:Int)*2 ^ g.n.toNat=((2 ^ g.n.toNat:Nat):Int):=by rw [Int.one_mul]; simp
   have hpos:(0:Int)≤((2 ^ g.n.toNat:Nat):Int):=Int.natCast_nonneg _;have hR:Bc ((1:Int)*2 ^ g.n.toNat):=by rw [hpw]; exact ⟨by omega,by omega⟩
   obtain ⟨L,a1,a2,a3⟩:=cut_x hN hgb hg (k:=k) (by omega) (kS:=fun l17=>some l17) (kI:=fun l17=>some l17) N 0 [] (Nat.zero_le _) (by omega) (by simp);refine ⟨L,a1,?_,?_⟩
   ·rw [Bool.not_true,cnd_false]; exact a2
   rw [Bool.not_true,cnd_false,Am (p:=0≤g.n∧g.n<64∧Bc ((1:Int)*2 ^ g.n.toNat)) ⟨by omega,by omega,hR⟩]; exact a3
theorem kconn_x (hN:4000000≤N) {g:Grf} (hgb:g.bars.length≤3000000) {k:Int}:∃ b:Bool,Hm N g k=some b∧Jr N g k=some b:=by
 unfold Hm Jr;rw [Ca N hN,Ed N hN,Option.bind_some,Option.bind_some]
 cases hg:Bd g with
 | false=>exact ⟨false,rfl,rfl⟩
 | true=>
  have hp:=As hg;rw [Bool.not_true,cnd_false,cnd_false,Zg N,Rf N,Option.bind_some,Option.bind_some]
  cases hk:inB k 1 3 with
  | false=>exact ⟨false,rfl,rfl⟩
  | true=>
   have hk2:=inB_true.1 hk;rw [Bool.not_true,cnd_false,cnd_false];by_cases hnk:g.n≤k
   ·rw [Bb hnk,Bb hnk]; exact ⟨false,rfl,rfl⟩
   rw [Ay hnk,Ay hnk]
   have key:∀ (fuel i:Nat),(i:Int)≤k→k<(fuel:Int)+(i:Int)→∃ b:Bool,Dm N g k (fun (_:Unit)=>some true) fuel (i:Int)=some b∧Ey N g k (fun (_:Unit)=>some true) fuel (i:Int)=some b:=by
    intro fuel
    induction fuel with
    | zero=>intro i h1 h2; omega
    | succ fuel ih=>
     intro i h1 h2;rw [Dm,Ey];by_cases hi:(i:Int)<k
     ·obtain ⟨L,a1,a2,a3⟩:=cutSets_x hN hgb (g:=g) (k:=(i:Int));rw [Bb hi,Bb hi,a2,a3,Option.bind_some,Option.bind_some];by_cases hL:(L.length:Int) > 0
      ·exact ⟨false,by rw [Bb hL],by rw [Bb hL]⟩
      obtain ⟨b,b1,b2⟩:=ih (i+1) (by omega) (by omega);refine ⟨b,?_,?_⟩
      ·rw [Ay hL,Bf (by omega) (by omega),Ah]; exact b1
      rw [Ay hL,Bf (by omega) (by omega),Ah]; exact b2
     rw [Ay hi,Ay hi]; exact ⟨true,rfl,rfl⟩
   exact key N 0 (by omega) (by omega)
end
section
open Go.RowKit
def Ep (N:Nat) (g_0:Grf):Option (Bool):=
 (Qy N g_0).bind fun v1=>
 cnd v1 (
  (Pm N g_0).bind fun v2=>
  some ((v2.length:Int)==(0:Int))) (
  some false)
theorem Lx (N:Nat) (g_0:Grf) (r:Bool) (h:Ep N g_0=some r):PCall Tryz.prog 163 [gD g_0] [] (.bool r):=by
 unfold Ep at h;refine Aj (TT:=TT) tt Tryz.func163 O O Tryz.ntmps163 (congrArg Array.toList Tryz.results163) O O fun w0=>(Ag (Ab (Hz O O O O O O O O O (Aa O (Af (Ag (Ab (Aa O ?_))))))));obtain ⟨v1,hc1,h⟩:=Ae h;refine Ba (Wr N g_0 v1 hc1) O O O O O O O O ⟨⟨O,O,Y⟩,Y⟩ (Aa O (Be O O O (fun hb2=>?_) (fun hb2=>?_)))
 ·replace h:=Ak hb2 h;refine Av tt O O O O O hb2 O O O Y ?_;obtain ⟨v2,hc3,h⟩:=Ae h;refine Eh (Ab3 N g_0 v2 hc3) O O O O hb2 O O O O O O O ⟨⟨O,O,Y⟩,Y⟩ ?_;iterate 2 refine Av tt O O O O O hb2 O O O Y ?_
  refine Bm O O O O O hb2 O (Aa O (Af (Bg ?_)));show ∃ _,_;cases h;exact ⟨[],_,O,Y,O,.eq O,O⟩
 replace h:=Al hb2 h;iterate 4 refine Kq O O O O hb2 O O ?_
 refine Aw O O O O O hb2 O (Aa O (Af (Bg ?_)));show ∃ _,_;cases h;exact ⟨[],_,O,Y,O,.eq O,O⟩
end
section
variable {N:Nat}
theorem rigid_x (hN:4000000≤N) {g:Grf}:∃ b:Bool,Ls N g=some b∧Qy N g=some b:=by
 unfold Ls Qy Qd Sv;rw [Ca N hN,Ed N hN,Option.bind_some,Option.bind_some]
 cases hg:Bd g with
 | false=>exact ⟨_,rfl,rfl⟩
 | true=>
  have hp:=As hg;obtain ⟨r,r1,r2,r3,r4⟩:=rank_x hN (g:=g);have hx:(max (0:Int) (((2:Int)*g.n)-(3:Int)))≤20∧0≤(max (0:Int) (((2:Int)*g.n)-(3:Int))):=by omega
  generalize hm:(max (0:Int) (((2:Int)*g.n)-(3:Int)))=m at hx;refine ⟨(m-r)==0,?_,?_⟩
  ·rw [Bool.not_true,cnd_false,Bf (by omega) (by omega),Bf (by omega) (by omega),r3,Option.bind_some,Bf (by omega) (by omega)]; rfl
  rw [Bool.not_true,cnd_false,Bf (by omega) (by omega),Bf (by omega) (by omega),r4,Option.bind_some,Bf (by omega) (by omega)]; rfl
theorem remove_x (hN:4000000≤N) {g:Grf} (hb:g.bars.length≤3000000) {i:Nat} (hi:i<g.bars.length):∃ (h:Grf) (b:Bool),Fo N g (i:Int)=some (h,b)∧Qu N g (i:Int)=some (h,b):=by
 unfold Fo Qu Fm Jl;rw [Ca N hN,Ed N hN,Am (by omega),Am (by omega),Option.bind_some,Option.bind_some,Option.bind_some,Option.bind_some]
 cases hg:Bd g with
 | false=>exact ⟨⟨g.n,[]++g.bars⟩,false,rfl,rfl⟩
 | true=>
  have hp:=As hg;have e1:((i:Int)+1).toNat=i+1:=by omega
  have e2:((i:Int)).toNat=i:=by omega
  have el:(([]:List (Int×Int))++g.bars).length=g.bars.length:=by simp
  have hT:(g.bars.take i).length=i:=by rw [List.length_take]; omega
  have hD:(g.bars.drop (i+1)).length=g.bars.length-(i+1):=List.length_drop;have e3:0+(i+1)+(g.bars.length-(i+1))=g.bars.length:=by omega
  refine ⟨⟨g.n,g.bars.take i++g.bars.drop (i+1)⟩,true,?_,?_⟩
  ·rw [Bool.not_true,cnd_false,Ay (by omega),Ay (by omega),e1,e2,List.drop_zero,List.take_length,List.nil_append,Am (by omega),Bf (by omega) (by omega),Am (by omega),Am (by omega)]
  rw [Bool.not_true,cnd_false,Bf (by omega) (by omega),Rf N,Option.bind_some,inB_true.2 (show (0:Int)≤(i:Int)∧(i:Int)≤(g.bars.length:Int)-1 by omega),Bool.not_true,cnd_false];dsimp only;rw [List.nil_append,e1,e2,e3,List.take_length,Nat.zero_add,Am (by omega),Bf (by omega) (by omega),Am (by omega),Am (by omega),Am (by omega),Am (by omega)]
theorem bridges_x (hN:4000000≤N) {g:Grf} (hb:g.bars.length≤3000000):∃ L:List Int,Mg N g 2 3=some L∧Qr N g 2 3=some L:=by
 unfold Mg Qr;obtain ⟨r,r1,r2,r3,r4⟩:=rank_x hN (g:=g);rw [r3,r4,Option.bind_some,Option.bind_some];by_cases h0:r<0
 ·refine ⟨[],?_,by rw [Bb h0]⟩;obtain ⟨M,rfl⟩:∃ M,N=M+1:=⟨N-1,by omega⟩;rw [Di,Ay (show ¬ r≥0 by omega)];cases decide ((0:Int)<(g.bars.length:Int)) <;> rfl
 rw [Ay h0]
 have key:∀ (fuel i:Nat) (L:List Int),i≤g.bars.length→g.bars.length<fuel+i→L.length≤i→∃ L':List Int,Di N g 2 3 r (fun (l12:List Int)=>some l12) fuel (L,(i:Int))=some L'∧Gf N g 2 3 r (fun (l12:List Int)=>some l12) fuel (L,(i:Int))=some L':=by
  intro fuel
  induction fuel with
  | zero=>intro i L h1 h2; omega
  | succ fuel ih=>
   intro i L h1 h2 h3;rw [Di,Gf];by_cases hi:i<g.bars.length
   ·obtain ⟨h,b,w1,w2⟩:=remove_x hN hb hi;obtain ⟨s,s1,s2,s3,s4⟩:=rank_x hN (g:=h);rw [Bb (show (i:Int)<(g.bars.length:Int) by omega),Bb (show r≥0 by omega),Bb (show (i:Int)<(g.bars.length:Int) by omega),w1,w2,Option.bind_some,Option.bind_some];dsimp only;rw [s3,s4,Option.bind_some,Option.bind_some];by_cases hs:s<r
    ·obtain ⟨L',k1,k2⟩:=ih (i+1) (L++[(i:Int)]) (by omega) (by omega) (by simp; omega);refine ⟨L',?_,?_⟩
     ·rw [Bb hs,Am (by omega),Bf (by omega) (by omega),Ah]; exact k1
     rw [Bb hs,Am (by omega),Bf (by omega) (by omega),Ah]; exact k2
    obtain ⟨L',k1,k2⟩:=ih (i+1) L (by omega) (by omega) (by omega);refine ⟨L',?_,?_⟩
    ·rw [Ay hs,Bf (by omega) (by omega),Ah]; exact k1
    rw [Ay hs,Bf (by omega) (by omega),Ah]; exact k2
   rw [Ay (by omega),Ay (by omega)];exact ⟨L,O,O⟩
 exact key N 0 [] (by omega) (by omega) (by simp)
theorem redundant_x (hN:4000000≤N) {g:Grf} (hb:g.bars.length≤3000000):∃ b:Bool,Ds N g=some b∧Ep N g=some b:=by
 unfold Ds Ep Lu Pm;obtain ⟨b,h1,h2⟩:=rigid_x hN (g:=g);rw [h1,h2,Option.bind_some,Option.bind_some]
 cases b with
 | false=>exact ⟨false,rfl,rfl⟩
 | true=>
  obtain ⟨L,k1,k2⟩:=bridges_x hN hb;rw [cnd_true,cnd_true,k1,k2];exact ⟨_,O,O⟩
end
section
variable (N:Nat)
theorem Gn {g:Grf} (h:Bd g=true):1≤g.n∧g.n≤8∧g.bars.length≤24:=by
 have:=As h; omega
def Fl (g:Grf) (l:List Int):Bool:=Cc g&&asc g.n l
theorem Wq (hN:4000000≤N) {g:Grf} (hb:g.bars.length≤3000000) {l:List Int} (hl:l.length≤3000000):Jd N g l=some (Fl g l):=by
 unfold Jd Fl;refine (srch (len:=l.length) (ok:=Ta g.n l) (bad:=some false) (fin:=some (Cc g)) (by omega) ?_ ?_).trans ?_
 ·intro n i hi _;rw [Fh];by_cases h0:i=0
  ·subst h0;simp (disch:=omega) only [pst,Ab0,Ah];refine Ki ?_ _ _;simp only [Ta,inB];rw [Bool.eq_iff_iff]; simp; omega
  simp (disch:=omega) only [pst,Ah,Ab0,show ((i:Int)-1).toNat=i-1 from by omega];refine Ki ?_ _ _;simp only [Ta,inB,decide_eq_false h0,Bool.false_or];rw [Bool.eq_iff_iff]; simp; omega
 ·intro n _;rw [Fh];simp (disch:=omega) only [pst,Qm N hN hb]
 rw [La,show (List.range l.length).all (Ta g.n l)=asc g.n l from rfl];cases asc g.n l <;> cases Cc g <;> rfl
theorem Wz (hN:4000000≤N) {g:Grf} (hb:g.bars.length≤3000000) {l:List Int} (hl:l.length≤3000000):He N g l=some (Fl g l):=by
 unfold He Fl;refine (srch (len:=l.length) (ok:=fun i=>inB (l.getD i 0) 0 (w64 (g.n-1))&&(decide (i=0) || decide (l.getD (i-1) 0<l.getD i 0))) (bad:=some false) (fin:=some (Cc g)) (by omega) ?_ ?_).trans ?_
 ·intro n i hi _;rw [Fi];by_cases h0:i=0
  ·subst h0;simp (disch:=omega) only [pst,ghasW_s,Yp,Ah];refine cnd_congr ?_ _ _;simp
  simp (disch:=omega) only [pst,ghasW_s,Ah,Ab0,show ((i:Int)-1).toNat=i-1 from by omega];refine Ki ?_ _ _;simp only [decide_eq_false h0,Bool.false_or];cases inB (l.getD i 0) 0 (w64 (g.n-1)) <;> (rw [Bool.eq_iff_iff]; simp)
 ·intro n _;rw [Fi];simp (disch:=omega) only [pst,Ed N hN,Zi N hN hb];unfold Cc;cases Bd g <;> rfl
 rw [La]
 cases hg:Bd g with
 | false=>
  have:Cc g=false:=by unfold Cc; rw [hg]; rfl
  rw [this,cnd_same]; rfl
 | true=>
  have hn:=Gn hg;rw [Acz (by omega) (by omega)];rw [show ((List.range l.length).all fun i=>inB (l.getD i 0) 0 (g.n-1)&&(decide (i=0) || decide (l.getD (i-1) 0<l.getD i 0)))=asc g.n l from rfl];cases asc g.n l <;> cases Cc g <;> rfl
def Wh (K:Int→Bool) (v:Int) (b:Int×Int):Bool:=Pg b v&&K (Hb b v)
def Rh (bars:List (Int×Int)) (K:Int→Bool) (v:Int):Nat:=bars.countP (Wh K v)
theorem Ab2 {α:Type} (p:α→Bool) (l:List α) (d:α) (i:Nat) (h:i<l.length):(l.take (i+1)).countP p=cnd (p (l.getD i d)) ((l.take i).countP p+1) ((l.take i).countP p):=by
 rw [List.take_succ_eq_append_getElem h,List.countP_append,List.countP_singleton];have:l.getD i d=l[i]:=by simp [List.getD_eq_getElem?_getD,h]
 rw [this];cases p l[i] <;> simp [cnd]
theorem Ac5 {α:Type} (p:α→Bool) (l:List α) (i:Nat):(l.take i).countP p≤i:=Nat.le_trans List.countP_le_length (by simp; omega)
theorem bar_bd {g:Grf} (hg:Bd g=true) {i:Nat} (hi:i<g.bars.length):0≤(g.bars.getD i (0,0)).1∧(g.bars.getD i (0,0)).1<g.n∧0≤(g.bars.getD i (0,0)).2∧(g.bars.getD i (0,0)).2<g.n∧g.n≤8:=by
 have h2:=Da hg (List.getElem_mem hi);have h3:=Gn hg;simp [List.getD_eq_getElem?_getD,hi];omega
theorem Abo {g:Grf} (hg:Bd g=true) {i:Nat} (hi:i<g.bars.length) (v:Int):0≤Hb (g.bars.getD i (0,0)) v∧Hb (g.bars.getD i (0,0)) v<g.n:=by
 have:=bar_bd hg hi;unfold Hb;cases (g.bars.getD i (0,0)).1==v <;> simp only [cnd_true,cnd_false] <;> omega
def Xa (bars:List (Int×Int)) (v:Int):List Int:=(bars.filter fun b=>Pg b v).map fun b=>Hb b v
theorem nearL_take (bars:List (Int×Int)) (v:Int) (i:Nat) (h:i<bars.length):Xa (bars.take (i+1)) v=cnd (Pg (bars.getD i (0,0)) v) (Xa (bars.take i) v++[Hb (bars.getD i (0,0)) v]) (Xa (bars.take i) v):=by
 unfold Xa;rw [List.take_succ_eq_append_getElem h,List.filter_append,List.map_append];have:bars.getD i (0,0)=bars[i]:=by simp [List.getD_eq_getElem?_getD,h]
 rw [this];cases h:Pg bars[i] v <;> simp [cnd,h]
theorem nearL_len (bars:List (Int×Int)) (v:Int):(Xa bars v).length≤bars.length:=by
 unfold Xa; rw [List.length_map]; exact List.length_filter_le _ _
theorem nearL_count (bars:List (Int×Int)) (K:Int→Bool) (v:Int):(Xa bars v).countP K=Rh bars K v:=by
 unfold Xa Rh;rw [List.countP_map,List.countP_filter];congr 1; funext b; simp [Wh,Bool.and_comm]
theorem near_s (hN:4000000≤N) {g:Grf} (hg:Bd g=true) (v:Int):Yb N g v=some (Xa g.bars v):=by
 have hn:=Gn hg;unfold Yb;refine (fold (len:=g.bars.length) (st:=fun i=>Xa (g.bars.take i) v) (fin:=some (Xa g.bars v)) (by omega) ?_ ?_)
 ·intro n i hi;have hl:=nearL_len (g.bars.take i) v;have hb:=bar_bd hg hi;rw [List.length_take] at hl;rw [Jh,nearL_take _ _ _ hi];by_cases h1:(g.bars.getD i (0,0)).1=v
  ·have he:=hasEnd_1 h1;rw [he,cnd_true];simp (disch:=omega) only [pst,Tt h1,l4Other_s N (b:=g.bars.getD i (0,0)) (by omega) (by omega) (by omega) (by omega) he,Ah]
  by_cases h2:(g.bars.getD i (0,0)).2=v
  ·have he:=hasEnd_2 h2;rw [he,cnd_true];simp (disch:=omega) only [pst,Rj h1,Tt h2,l4Other_s N (b:=g.bars.getD i (0,0)) (by omega) (by omega) (by omega) (by omega) he,Ah]
  rw [hasEnd_0 h1 h2,cnd_false];simp (disch:=omega) only [pst,Rj h1,Rj h2,Ah]
 intro n;rw [Jh];simp (disch:=omega) only [pst,List.take_length]
theorem known_s (hN:4000000≤N) {g:Grf} (hg:Bd g=true) (v:Int) {l:List Int} (hl:l.length≤3000000):Ru N g v l=some ((Rh g.bars (l.contains ·) v:Nat):Int):=by
 have hn:=Gn hg;have hlen:=nearL_len g.bars v;unfold Ru;rw [near_s N hN hg,Option.bind_some];refine (fold (len:=(Xa g.bars v).length) (st:=fun i=>(((Xa g.bars v).take i).countP (l.contains ·):Int)) (fin:=some ((Rh g.bars (l.contains ·) v:Nat):Int)) (by omega) ?_ ?_)
 ·intro n i hi;have hc:=Ac5 (l.contains ·) (Xa g.bars v) i;rw [Gv,Ab2 _ _ 0 _ hi];simp (disch:=omega) only [pst,Vl N hN hl,Ah];cases l.contains ((Xa g.bars v).getD i 0) <;> rfl
 intro n;rw [Gv];simp (disch:=omega) only [pst,List.take_length,nearL_count]
def Acq (bars:List (Int×Int)) (K:Int→Bool) (v:Int):Bool:=!K v&&decide (3≤Rh bars K v)
def Wc (bars:List (Int×Int)) (K:Int→Bool) (i:Nat):Nat→Option Nat
 | 0=>none
 | m+1=>cnd (Acq bars K i) (some i) (Wc bars K (i+1) m)
def tril (bars:List (Int×Int)) (n:Nat):Nat→List Int→List Int→List Int
 | 0,_,out=>out
 | m+1,kn,out=>match Wc bars (kn.contains ·) 0 n with
  | none=>out
  | some v=>tril bars n m (kn++[(v:Int)]) (out++[(v:Int)])
theorem nextF_lt {bars:List (Int×Int)} {K:Int→Bool}:∀ {m i v:Nat},Wc bars K i m=some v→i≤v∧v<i+m∧Acq bars K v=true
 | 0,i,v,h=>by simp [Wc] at h
 | m+1,i,v,h=>by
  simp only [Wc] at h
  cases hp:Acq bars K i with
  | true=>rw [hp,cnd_true] at h; cases h; exact ⟨Nat.le_refl _,by omega,hp⟩
  | false=>
   rw [hp,cnd_false] at h;have:=nextF_lt h;exact ⟨by omega,by omega,this.2.2⟩
theorem Aag (bars:List (Int×Int)) (n:Nat):∀ m kn out,(tril bars n m kn out).length≤out.length+m
 | 0,kn,out=>by simp [tril]
 | m+1,kn,out=>by
  simp only [tril];split
  ·omega
  have:=Aag bars n m (kn++[((by assumption:Nat):Int)]) (out++[((by assumption:Nat):Int)]);simp at this; omega
theorem knownN_congr {g:Grf} (hg:Bd g=true) {K K':Int→Bool} (h:∀ x:Int,0≤x→x<g.n→K x=K' x) (v:Int):Rh g.bars K v=Rh g.bars K' v:=by
 unfold Rh;apply List.countP_congr;intro b hb;obtain ⟨i,hi,rfl⟩:=List.getElem_of_mem hb;have:=Abo hg hi v;simp only [List.getD_eq_getElem?_getD,List.getElem?_eq_getElem hi,Option.getD_some] at this;unfold Wh;rw [h _ this.1 this.2]
theorem trilS_l2 (hN:4000000≤N) {g:Grf} (hg:Bd g=true) {kn out:List Int} (hk:kn.length≤100) (ho:out.length≤100) (k:List Int×List Int→Option (List Int)):∀ n i:Nat,i≤g.n.toNat→g.n.toNat<n+i →
  Ci N g kn out k n (i:Int)=match Wc g.bars (kn.contains ·) i (g.n.toNat-i) with | none=>k (kn,out) | some v=>k (kn++[(v:Int)],out++[(v:Int)]):=by
 have hn:=Gn hg;intro n
 induction n with
 | zero=>intro i h1 h2; omega
 | succ n ih=>
  intro i h1 h2;rw [Ci];by_cases hi:i<g.n.toNat
  ·have ih':=ih (i+1) (by omega) (by omega);rw [show g.n.toNat-i=(g.n.toNat-(i+1))+1 by omega,Wc];simp (disch:=omega) only [pst,Vl N hN (show kn.length≤3000000 by omega),known_s N hN hg _ (show kn.length≤3000000 by omega),Ah,Yp];rw [ih'];unfold Acq;dsimp only
   cases kn.contains (i:Int) with
   | true=>rfl
   | false=>
    by_cases h3:3≤Rh g.bars (kn.contains ·) (i:Int)
    ·rw [cnd_false,Bb (by omega),decide_eq_true h3]; rfl
    rw [cnd_false,Ay (by omega),decide_eq_false h3]; rfl
  simp (disch:=omega) only [pst];rw [show g.n.toNat-i=0 by omega]; rfl
theorem trilS_s (hN:4000000≤N) {g:Grf} (hb:g.bars.length≤3000000) {l:List Int} (hl:l.length≤3000000) (ha:Fl g l=true):Cy N g l=some (tril g.bars g.n.toNat g.n.toNat l []):=by
 have ha':=ha;simp only [Fl,Cc,Bool.and_eq_true] at ha';have hg:=ha'.1.1;have hn:=Gn hg;have hal:=asc_len ha'.2 (by omega);unfold Cy;simp (disch:=omega) only [pst]
 have key:∀ (m i:Nat) (kn out:List Int),i+m=g.n.toNat→kn.length≤l.length+i→out.length≤i→∀ n,m<n →
   Bv N g l (fun l174=>some l174) n (kn,out,(i:Int))=some (tril g.bars g.n.toNat m kn out):=by
  intro m
  induction m with
  | zero=>
   intro i kn out h1 h2 h3 n h4;obtain ⟨n,rfl⟩:∃ n',n=n'+1:=⟨n-1,by omega⟩;rw [Bv];simp (disch:=omega) only [pst];rfl
  | succ m ih=>
   intro i kn out h1 h2 h3 n h4;obtain ⟨n,rfl⟩:∃ n',n=n'+1:=⟨n-1,by omega⟩;rw [Bv];simp (disch:=omega) only [pst,Wq N hN hb hl,ha];refine (trilS_l2 N hN hg (kn:=kn) (out:=out) (by omega) (by omega) _ N 0 (by omega) (by omega)).trans ?_;rw [tril]
   cases hx:Wc g.bars (kn.contains ·) 0 g.n.toNat with
   | none=>
    simp only [Nat.sub_zero,hx];simp (disch:=omega) only [pst,Ah];rw [ih (i+1) kn out (by omega) (by omega) (by omega) n (by omega)]
    cases m with
    | zero=>rfl
    | succ m=>rw [tril,hx]
   | some v=>
    simp only [Nat.sub_zero,hx];simp (disch:=omega) only [pst,Ah];exact ih (i+1) _ _ (by omega) (by simp; omega) (by simp; omega) n (by omega)
 exact key g.n.toNat 0 l [] (by omega) (by omega) (by simp) N (by omega)
theorem countP_lt {α:Type} {p q:α→Bool}:∀ {l:List α} {x:α},(∀ y,q y=true→p y=true)→x∈l→p x=true→q x=false→l.countP q<l.countP p
 | [],x,h,hx,_,_=>by simp at hx
 | a::l,x,h,hx,hp,hq=>by
  have hm:l.countP q≤l.countP p:=List.countP_mono_left fun y _ hy=>h y hy;rcases List.mem_cons.1 hx with rfl | hx
  ·rw [List.countP_cons_of_pos hp,List.countP_cons_of_neg (by simp [hq])]; omega
  have ih:=countP_lt h hx hp hq
  cases ha:q a with
  | true=>rw [List.countP_cons_of_pos ha,List.countP_cons_of_pos (h a ha)]; omega
  | false=>
   rw [List.countP_cons_of_neg (by simp [ha])]
   cases hb:p a with
   | true=>rw [List.countP_cons_of_pos hb]; omega
   | false=>rw [List.countP_cons_of_neg (by simp [hb])]; exact ih
def unk (n:Nat) (kn:List Int):Nat:=(List.range n).countP fun (j:Nat)=>!kn.contains (j:Int)
theorem unk_lt {n:Nat} {kn:List Int} {v:Nat} (hv:v<n) (h:kn.contains (v:Int)=false):unk n (kn++[(v:Int)])<unk n kn:=by
 refine countP_lt (x:=v) (fun y hy=>?_) (by simpa using hv) (by simp only [h]; rfl) (by simp);simp only [Bool.not_eq_true',List.contains_eq_mem,decide_eq_false_iff_not,List.mem_append] at hy ⊢;exact fun h=>hy (.inl h)
theorem Ac0 {bars:List (Int×Int)} {K:Int→Bool}:∀ {m i:Nat},(∀ j,i≤j→j<i+m→K (j:Int)=true)→Wc bars K i m=none
 | 0,i,h=>rfl
 | m+1,i,h=>by
  simp only [Wc,Acq,h i (Nat.le_refl _) (by omega)];exact Ac0 fun j h1 h2=>h j (by omega) (by omega)
structure RK (g:Grf) (kn:List Bool) (known:List Int):Prop where
 len:kn.length=g.n.toNat
 get:∀ j:Nat,j<g.n.toNat→kn.getD j false=known.contains (j:Int)
theorem RK.set {g:Grf} {kn:List Bool} {known:List Int} (h:RK g kn known) {v:Nat} (hv:v<g.n.toNat):RK g (kn.set v true) (known++[(v:Int)]):=by
 refine ⟨by simp [h.len],fun j hj=>?_⟩;have h0:=h.get j hj;have hl:=h.len;simp only [List.getD_eq_getElem?_getD,List.getElem?_set,List.contains_eq_mem,List.mem_append,List.mem_singleton] at h0 ⊢;by_cases hjv:v=j
 ·subst hjv; simp [hl,hv]
 rw [if_neg hjv,h0];simp only [decide_eq_decide];constructor
 ·exact .inl
 rintro (h | h)
 ·exact h
 omega
theorem trilI_l2 {g:Grf} (hg:Bd g=true) {kn:List Bool} (hk:kn.length=g.n.toNat) (v:Int) (hN:4000000≤N) (k:Int→Option (List Int)) :
  Br N g kn v k N (0,0)=k ((Rh g.bars (fun x=>kn.getD x.toNat false) v:Nat):Int):=by
 have hn:=Gn hg;refine (fold (len:=g.bars.length) (st:=fun i=>((g.bars.take i).countP (Wh (fun x=>kn.getD x.toNat false) v):Int)) (fin:=k ((Rh g.bars (fun x=>kn.getD x.toNat false) v:Nat):Int)) (by omega) ?_ ?_)
 ·intro n i hi;have hc:=Ac5 (Wh (fun x=>kn.getD x.toNat false) v) g.bars i;have ho:=Abo hg hi v;rw [Br,Ab2 _ _ (0,0) _ hi];simp (disch:=omega) only [pst,bhas_s,bother_s,List.length_replicate,Ah];unfold Wh
  cases Pg (g.bars.getD i (0,0)) v with
  | false=>rfl
  | true=>
   simp (disch:=omega) only [pst,bother_s,List.length_replicate,Ah,Bool.true_and];cases kn.getD (Hb (g.bars.getD i (0,0)) v).toNat false <;> rfl
 intro n;rw [Br];simp (disch:=omega) only [pst,List.take_length];rfl
theorem Add (hN:4000000≤N) {g:Grf} (hg:Bd g=true) {kn:List Bool} {known out:List Int} (hR:RK g kn known) (ho:out.length≤100) (k:List Int→Option (List Int)):∀ f i:Nat,i≤g.n.toNat→g.n.toNat<f+i →
  match Wc g.bars (known.contains ·) i (g.n.toNat-i) with
  | none=>Ax N g k f (out,kn,(i:Int))=k out
  | some v=>∃ f',f≤f'+(g.n.toNat+1-i)∧Ax N g k f (out,kn,(i:Int))=Ax N g k f' (out++[(v:Int)],kn.set v true,0):=by
 have hn:=Gn hg;intro f
 induction f with
 | zero=>intro i h1 h2; omega
 | succ f ih=>
  intro i h1 h2;by_cases hi:i<g.n.toNat
  ·have ih':=ih (i+1) (by omega) (by omega);have hl:=hR.len
   have step:Ax N g k (f+1) (out,kn,(i:Int))=cnd (Acq g.bars (known.contains ·) i) (Ax N g k f (out++[(i:Int)],kn.set i true,0)) (Ax N g k f (out,kn,((i+1:Nat):Int))):=by
    rw [Ax];simp (disch:=omega) only [pst];refine (trilI_l2 N hg hl _ hN _).trans ?_;rw [knownN_congr hg (K':=(known.contains ·)) (fun x h1 h2=>by rw [hR.get x.toNat (by omega)]; simp only [show ((x.toNat:Nat):Int)=x by omega])];simp (disch:=omega) only [pst,List.length_replicate,hR.get i hi,Yp,Ah];unfold Acq;dsimp only
    cases known.contains (i:Int) with
    | true=>rfl
    | false=>
     by_cases h3:3≤Rh g.bars (known.contains ·) (i:Int)
     ·rw [cnd_false,Bb (by omega),decide_eq_true h3]; rfl
     rw [cnd_false,Ay (by omega),decide_eq_false h3]; rfl
   rw [show g.n.toNat-i=(g.n.toNat-(i+1))+1 by omega,Wc,step]
   cases Acq g.bars (known.contains ·) i with
   | true=>exact ⟨f,by omega,rfl⟩
   | false=>
    rw [cnd_false,cnd_false]
    revert ih'
    cases Wc g.bars (known.contains ·) (i+1) (g.n.toNat-(i+1)) with
    | none=>exact fun h=>h
    | some v=>exact fun ⟨f',h1,h2⟩=>⟨f',by omega,h2⟩
  rw [show g.n.toNat-i=0 by omega];show _=_;rw [Ax];simp (disch:=omega) only [pst]
theorem trilI_l1 (hN:4000000≤N) {g:Grf} (hg:Bd g=true):∀ (m:Nat) (kn:List Bool) (known out:List Int),RK g kn known→unk g.n.toNat known≤m→m≤8→out.length+m≤100→∀ f,(m+1)*10≤f →
  Ax N g (fun l185=>some l185) f (out,kn,(0:Int))=some (tril g.bars g.n.toNat m known out):=by
 have hn:=Gn hg;intro m
 induction m with
 | zero=>
  intro kn known out hR hu hm ho f hf
  have hall:Wc g.bars (known.contains ·) 0 (g.n.toNat-0)=none:=Ac0 fun j _ hj=>by
   have h0:unk g.n.toNat known=0:=by omega
   unfold unk at h0;have:=List.countP_eq_zero.1 h0 j (by simp; omega);simpa using this
  have:=Add N hN hg (out:=out) hR (by omega) (fun l185=>some l185) f 0 (by omega) (by omega);rw [hall] at this;exact this
 | succ m ih=>
  intro kn known out hR hu hm ho f hf;have:=Add N hN hg (out:=out) hR (by omega) (fun l185=>some l185) f 0 (by omega) (by omega);rw [tril];rw [Nat.sub_zero] at this
  cases hx:Wc g.bars (known.contains ·) 0 g.n.toNat with
  | none=>rw [hx] at this; exact this
  | some v=>
   rw [hx] at this;obtain ⟨f',h1,h2⟩:=this;obtain ⟨h3,h4,h5⟩:=nextF_lt hx
   have hkv:known.contains (v:Int)=false:=by
    unfold Acq at h5;rw [Bool.and_eq_true] at h5;simpa using h5.1
   have hul:=unk_lt (n:=g.n.toNat) (by omega) hkv;refine h2.trans ?_;have hv:v<g.n.toNat:=by omega
   have ho':(out++[(v:Int)]).length+m≤100:=by rw [List.length_append,List.length_singleton]; omega
   have hu':unk g.n.toNat (known++[(v:Int)])≤m:=by omega
   exact ih _ _ _ (hR.set hv) hu' (by omega) ho' f' (by omega)
theorem trilI_s (hN:4000000≤N) {g:Grf} (hb:g.bars.length≤3000000) {l:List Int} (hl:l.length≤3000000) (ha:Fl g l=true):Cw N g l=some (tril g.bars g.n.toNat g.n.toNat l []):=by
 have ha':=ha;simp only [Fl,Cc,Bool.and_eq_true] at ha';have hg:=ha'.1.1;have hn:=Gn hg;have hal:=asc_len ha'.2 (by omega);unfold Cw;simp (disch:=omega) only [pst,Wz N hN hb hl,ha,Bool.not_true]
 have key:∀ (n i:Nat) (kn:List Bool),i≤l.length→l.length<n+i→RK g kn (l.take i)→Cq N g l (fun l127=>Ax N g (fun l185=>some l185) N ([],l127,0)) n (kn,(i:Int))=some (tril g.bars g.n.toNat g.n.toNat l []):=by
  intro n
  induction n with
  | zero=>intro i kn h1 h2; omega
  | succ n ih=>
   intro i kn h1 h2 hR;rw [Cq];by_cases hi:i<l.length
   ·have hx:=asc_in ha'.2 (List.getElem_mem hi);have e:l.getD i 0=l[i]:=by simp [List.getD_eq_getElem?_getD,hi]
    have hl:=hR.len;simp only [Int.toNat_natCast,e];simp (disch:=omega) only [pst,List.length_replicate,Ah];refine ih (i+1) _ (by omega) (by omega) ?_;rw [List.take_succ_eq_append_getElem hi];have:=hR.set (v:=l[i].toNat) (by omega)
    rwa [show ((l[i].toNat:Nat):Int)=l[i] by omega] at this
   simp (disch:=omega) only [pst];rw [List.take_of_length_le (by omega)] at hR;refine trilI_l1 N hN hg g.n.toNat kn l [] hR ?_ (by omega) (by simp; omega) N (by omega);unfold unk;exact Nat.le_trans List.countP_le_length (by simp)
 exact key N 0 _ (by omega) (by omega) ⟨by simp,fun j hj=>by simp [List.getD_eq_getElem?_getD,List.getElem?_replicate,hj]⟩
def isTril (g:Grf) (l:List Int):Bool:=Fl g l&&((((tril g.bars g.n.toNat g.n.toNat l []).length:Int)+(l.length:Int))==g.n)
theorem isTrilS_s (hN:4000000≤N) {g:Grf} (hb:g.bars.length≤3000000) {l:List Int} (hl:l.length≤3000000):Hr N g l=some (isTril g l):=by
 unfold Hr isTril;rw [Wq N hN hb hl,Option.bind_some]
 cases ha:Fl g l with
 | false=>rfl
 | true=>
  have ha':=ha;simp only [Fl,Cc,Bool.and_eq_true] at ha';have hn:=Gn ha'.1.1;have ht:=Aag g.bars g.n.toNat g.n.toNat l [];simp only [List.length_nil] at ht;simp (disch:=omega) only [pst,trilS_s N hN hb hl ha];rfl
theorem isTrilI_s (hN:4000000≤N) {g:Grf} (hb:g.bars.length≤3000000) {l:List Int} (hl:l.length≤3000000):Hs N g l=some (isTril g l):=by
 unfold Hs isTril;rw [Wz N hN hb hl,Option.bind_some]
 cases ha:Fl g l with
 | false=>rfl
 | true=>
  have ha':=ha;simp only [Fl,Cc,Bool.and_eq_true] at ha';have hn:=Gn ha'.1.1;have ht:=Aag g.bars g.n.toNat g.n.toNat l [];simp only [List.length_nil] at ht;simp (disch:=omega) only [pst,trilI_s N hN hb hl ha];rw [Int.add_comm]; rfl
end
section
open Go.RowKit Go.Deep Go.Sort
structure RowPut (w w':World) (blk m:Nat) (F':Nat→Value):Prop where
 os:w'.os=w.os
 tape:w'.tape=w.tape
 output:w'.output=w.output
 size:w.heap.size≤w'.heap.size
 else_:∀ k,k<w.heap.size→k≠blk→w'.heap[k]? = w.heap[k]?
 here:∀ cur e fr,w.heap[blk]? = some (.cells cur e fr)→∃ cur':Array Value,w'.heap[blk]? = some (.cells cur' e fr)∧cur'.size=cur.size∧∀ t,t<m→t<cur.size→cur'.getD t undef=F' t
theorem RowPut.to {w w':World} {blk m m':Nat} {F F':Nat→Value} (h:RowPut w w' blk m F) (hm:m'=m) (hF:∀ t,t<m→F t=F' t):RowPut w w' blk m' F':=
 ⟨h.os,h.tape,h.output,h.size,h.else_,fun cur e fr hb=>by
  obtain ⟨c,h1,h2,h3⟩:=h.here cur e fr hb
  exact ⟨c,h1,h2,fun t h4 h5=>by rw [h3 t (by omega) h5,hF t (by omega)]⟩⟩
theorem rowPut_of {α:Type} [Inhabited α] {enc:α→Value} {w:World} {blk n:Nat} {d:Array α} {os:Array Obj}:RowPut w (grow (putRow enc (Sort.ahead w n) blk 0 d) os) blk d.size (fun t=>enc d[t]!):=by
 refine ⟨O,O,O,by simp,fun k hk hne=>?_,fun cur e fr h=>?_⟩
 ·rw [heap_grow_old _ _ (by simpa using hk)];simp [putRow,mapBlock,Sort.ahead,Array.getElem?_modify,Ne.symm hne]
 refine ⟨putCells enc 0 d cur,?_,by simp [putCells],fun t h1 h2=>?_⟩
 ·have hg:blk<w.heap.size:=(Array.getElem?_eq_some_iff.1 h).1;rw [heap_grow_old _ _ (by simpa using hg)];simp [putRow,mapBlock,Sort.ahead,Array.getElem?_modify,h,onCells]
 simp [putCells,h1,h2]
def Ro:Sq→Nat→Value
 | .ints l,t=>.int .i64 (l.getD t 0)
 | .pairs l,t=>.int .i64 (match t % 2 with | 0=>(l.getD (t / 2) (0,0)).1 | _=>(l.getD (t / 2) (0,0)).2)
 | _,_=>undef
def isIP:Sq→Bool
 | .ints _ | .pairs _=>true
 | _=>false
theorem cellsQ_rel {q:Sq} (hq:isIP q=true) {M:Mp} {A:Bool→Nat→Prop} {w:World} {i j:Nat} {d:D} (hi:i<q.len) (hd:(q.relem i)[j]? = some d):VR M A w d (Ro q (i*q.sz+j)):=by
 cases q <;> first | (cases hq; done) | skip
 ·rename_i l;rcases j with _ | j <;> simp [Sq.relem,Sq.elem] at hd;subst hd;simp only [Ro,Sq.sz,Nat.mul_one,Nat.add_zero];simp only [List.getD_eq_getElem?_getD];exact .int _
 rename_i l;rcases j with _ | _ | j <;> simp [Sq.relem,Sq.elem] at hd
 ·subst hd;have e1:(i*2+0) % 2=0:=by omega
  have e2:(i*2+0) / 2=i:=by omega
  simp only [Ro,Sq.sz,e1,e2];simp only [List.getD_eq_getElem?_getD];exact .int _
 subst hd;have e1:(i*2+(0+1)) % 2=1:=by omega
 have e2:(i*2+(0+1)) / 2=i:=by omega
 simp only [Ro,Sq.sz,e1,e2];simp only [List.getD_eq_getElem?_getD];exact .int _
theorem VR.int_val {M:Mp} {A:Bool→Nat→Prop} {w:World} {n:Int} {v:Value} (h:VR M A w (.int n) v):v=.int .i64 n:=by cases h; rfl
theorem cellsQ_read {q:Sq} (hq:isIP q=true) {M:Mp} {A:Bool→Nat→Prop} {w:World} {f:Nat→Value} (h:∀ i j d,i<q.len→(q.relem i)[j]? = some d→VR M A w d (f (i*q.sz+j))) {t:Nat} (ht:t<q.len*q.sz):f t=Ro q t:=by
 cases q <;> first | (cases hq; done) | skip
 ·rename_i l;simp only [Sq.len,Sq.sz,Nat.mul_one] at ht h;have:=(h t 0 (.int (l.getD t 0)) ht (by simp [Sq.relem,Sq.elem,List.getD_eq_getElem?_getD])).int_val;simpa [Ro] using this
 rename_i l;simp only [Sq.len,Sq.sz] at ht h;have h0:t / 2<l.length:=by omega
 rcases (by omega:t % 2=0∨t % 2=1) with e | e
 ·have:=(h (t / 2) 0 (.int (l.getD (t / 2) (0,0)).1) h0 (by simp [Sq.relem,Sq.elem,List.getD_eq_getElem?_getD])).int_val;rw [show t / 2*2+0=t by omega] at this;rw [this]; simp [Ro,e]
 have:=(h (t / 2) 1 (.int (l.getD (t / 2) (0,0)).2) h0 (by simp [Sq.relem,Sq.elem,List.getD_eq_getElem?_getD])).int_val;rw [show t / 2*2+1=t by omega] at this;rw [this]; simp [Ro,e]
structure Lays1 (P:Program) (f:FuncId) (vs:List Value) (q q':Sq):Prop where
 some_:∀ (blk cap:Nat) (w:World),(∀ t,t<q.len*q.sz→w.cell? ⟨blk,t,none⟩=some (Ro q t)∧w.frozen? ⟨blk,t,none⟩=false)→blk<w.heap.size→q.len≤maxLen →
  Calls P f (Value.slice (some ⟨blk,0,none⟩) q.len cap::vs).toArray w fun e w'=>e=.returned (.tuple #[])∧RowPut w w' blk (q'.len*q'.sz) (Ro q')
 none_:q.len=0→∀ (p:Option Addr) (cap:Nat) (w:World),Calls P f (Value.slice p 0 cap::vs).toArray w fun e w'=>e=.returned (.tuple #[])∧w'=w
theorem mcall_lays {P:Program} {f:FuncId} (en:∀ args w,(callFunc f args).run P w=.ok (.enter f args) w) {ds:List D} {vs:List Value} {e:TypeId} {q q':Sq} (hq:isIP q=true) (hq':isIP q'=true) (hl:q'.len=q.len) (hz:q'.sz=q.sz)
  (hvs:ds.length=vs.length) (hds:∀ M A w i d v,ds[i]? = some d→VR M A w d v→vs.getD i undef=v) (hL:Lays1 P f vs q q') :
  MCall P f (.row 1000000 0 q.len::ds) [1000000] [] [(e,q)] [(e,q')] [] [] (.tup []):=by
 have hrf:q'.refF=none:=by cases q' <;> first | (cases hq'; done) | rfl
 refine ⟨en,⟨O,O,O,O⟩,O,O,by simp [conR,hrf],O,⟨O,O⟩,fun w N args A hA1 hA2 hM hargs=>?_⟩;obtain ⟨ha,hv⟩:=hargs;have h0:=hv 0 _ rfl
 have hargs':args=(args.getD 0 undef::vs).toArray:=by
  apply Array.ext
  ·simpa [hvs] using ha
  intro i h1 h2;rcases i with _ | i
  ·simp [Array.getD_eq_getD_getElem?,h1]
  have hi:i<vs.length:=by simpa using h2
  have hi':i<ds.length:=by omega
  have:=hds N A w i ds[i] _ (by simp [hi']) (hv (i+1) ds[i] (by simp [hi']));rw [Array.getD_eq_getD_getElem?,Array.getElem?_eq_getElem h1] at this;simp [List.getD_eq_getElem?_getD,hi] at this;simp [this]
 have hrow:=hM.row 1000000 e q (by rfl);have hvr:∀ x,N.γ 1000000=some x→Zy x 0 q.len (args.getD 0 undef):=by cases h0 with | row _ _ _ _ _ h=>exact h
 have hγ:∀ r,r≠1000000→N.γ r=none:=fun r hr=>hM.rown r (by
  show PS.r ⟨[],[(1000000,some (e,q))],[]⟩ r=none;unfold PS.r
  cases hb:Nat.ble BIG r with
  | true=>
   simp only [PS.inn];have:Bw [(1000000,some (e,q))] (FK+unF r)=none:=by rw [Au (by have:FK=8589934592:=rfl; omega)]; rfl
   rw [this]; rfl
  | false=>simp only; rw [Au (Ne.symm hr)]; rfl)
 rcases hrow with ⟨hn,h00⟩ | ⟨g,cap,cur,hg,hblk,hlc,hcm,hcs,hcells⟩
 ·have hv2:=hvr _ hn;obtain ⟨⟨ao,hv3⟩,h3,_⟩:=hv2;rw [hargs',hv3];refine (hL.none_ h00 ao 0 w).mono ?_;rintro x w' ⟨rfl,rfl⟩;refine ⟨_,O,N,⟨?_,hM.boxn,fun r e' q'' hr=>?_,fun r hr=>?_,hM.inj1,hM.inj2,hM.inj3⟩,fun _=>O,fun _ _ _=>O,fun k hk=>.inl hk,O,O,O,Nat.le_refl _,fun _ _ _=>O,?_⟩
  ·intro b cs hb; cases hb
  ·by_cases hr1:r=1000000
   ·subst hr1;have:(e,q')=(e',q''):=by simpa [PS.r,asL,At,show Nat.ble BIG 1000000=false from rfl] using hr
    cases this;exact .inl ⟨hn,by omega⟩
   exfalso
   have:PS.r ⟨[],[(1000000,some (e,q'))],[]⟩ r=none:=by
    unfold PS.r
    cases hb:Nat.ble BIG r with
    | true=>
     simp only [PS.inn];have:Bw [(1000000,some (e,q'))] (FK+unF r)=none:=by rw [Au (by have:FK=8589934592:=rfl; omega)]; rfl
     rw [this]; rfl
    | false=>simp only; rw [Au (Ne.symm hr1)]; rfl
   have hr':PS.r ⟨[],[(1000000,some (e,q'))],[]⟩ r=some (e',q''):=hr;rw [this] at hr'; cases hr'
  ·by_cases hr1:r=1000000
   ·subst hr1;have hr':PS.r ⟨[],[(1000000,some (e,q'))],[]⟩ 1000000=none:=hr;simp [PS.r,At,show Nat.ble BIG 1000000=false from rfl] at hr'
   exact hγ r hr1
  exact .tup [] #[] O (fun i d h=>by simp at h)
 obtain ⟨_,ao,hv3,hao⟩:=hvr _ hg;have hao':=hao (.inr rfl);subst hao';have hgs:g<w.heap.size:=Th hblk;have hlen:q.len≤maxLen:=Nat.le_trans hlc hcm;rw [Nat.zero_mul] at hv3;rw [hargs',hv3];have hsz:q.len*q.sz≤cur.size:=by rw [hcs]; exact Nat.mul_le_mul_right _ hlc
 have hcq:∀ t,t<q.len*q.sz→cur.getD t undef=Ro q t:=fun t ht=>cellsQ_read hq (f:=fun t=>cur.getD t undef) hcells ht;refine (hL.some_ g (cap-0) w (fun t ht=>?_) hgs hlen).mono ?_
 ·have h1:=hcq t ht;have ht2:t<cur.size:=by omega
  rw [Array.getD_eq_getD_getElem?,Array.getElem?_eq_getElem ht2] at h1;refine ⟨?_,by simp [World.frozen?,hblk]⟩;simp only [World.cell?,hblk];simp only [Option.isSome_none,Bool.false_eq_true,if_false];rw [Array.getElem?_eq_getElem ht2];simpa using h1
 rintro x w' ⟨rfl,hP⟩;obtain ⟨cur',hb',hs',hc'⟩:=hP.here _ _ _ hblk;refine ⟨_,O,N,⟨?_,hM.boxn,fun r e' q'' hr=>?_,fun r hr=>?_,hM.inj1,hM.inj2,hM.inj3⟩,fun _=>O,fun _ _ _=>O,fun k hk=>.inl hk,hP.os,hP.tape,hP.output,hP.size,fun k hk hno=>hP.else_ k hk fun e1=>hno (.inr ⟨1000000,cap,q.sz,by rw [hg,e1]⟩),?_⟩
 ·intro b cs hb; cases hb
 ·by_cases hr1:r=1000000
  ·subst hr1;have:(e,q')=(e',q''):=by simpa [PS.r,asL,At,show Nat.ble BIG 1000000=false from rfl] using hr
   cases this;refine .inr ⟨g,cap,cur',by rw [hg,hz],hb',by omega,hcm,by rw [hs',hcs,hz],fun i j d hi hd=>?_⟩
   have hj:j<q'.sz:=by
    cases q' <;> first | (cases hq'; done) | skip
    ·rcases j with _ | j <;> simp [Sq.relem,Sq.elem] at hd; simp [Sq.sz]
    rcases j with _ | _ | j <;> simp [Sq.relem,Sq.elem] at hd <;> simp [Sq.sz]
   have hin:i*q'.sz+j<q'.len*q'.sz:=by
    have h5:=Nat.mul_le_mul_right q'.sz (show i+1≤q'.len from hi);rw [Nat.add_mul,Nat.one_mul] at h5; omega
   rw [hc' _ hin (by rw [hl,hz] at hin; rw [hz]; omega)];exact cellsQ_rel hq' hi hd
  exfalso
  have:PS.r ⟨[],[(1000000,some (e,q'))],[]⟩ r=none:=by
   unfold PS.r
   cases hb:Nat.ble BIG r with
   | true=>
    simp only [PS.inn];have:Bw [(1000000,some (e,q'))] (FK+unF r)=none:=by rw [Au (by have:FK=8589934592:=rfl; omega)]; rfl
    rw [this]; rfl
   | false=>simp only; rw [Au (Ne.symm hr1)]; rfl
  have hr':PS.r ⟨[],[(1000000,some (e,q'))],[]⟩ r=some (e',q''):=hr;rw [this] at hr'; cases hr'
 ·by_cases hr1:r=1000000
  ·subst hr1;have hr':PS.r ⟨[],[(1000000,some (e,q'))],[]⟩ 1000000=none:=hr;simp [PS.r,At,show Nat.ble BIG 1000000=false from rfl] at hr'
  exact hγ r hr1
 exact .tup [] #[] O (fun i d h=>by simp at h)
end
section
open Go.RowKit Go.Deep Go.Sort Go.Shelf
def cmpZ (a b:Int):Int:=if a<b then -1 else if a > b then 1 else 0
def cmpB (x y:Int×Int):Int:=if cmpZ x.1 y.1≠0 then cmpZ x.1 y.1 else cmpZ x.2 y.2
def encB (x:Int×Int):List Value:=[.int .i64 x.1,.int .i64 x.2]
theorem ltB (x y:Int×Int):ltOf cmpB x y=decide (x.1<y.1∨(x.1=y.1∧x.2<y.2)):=by
 unfold ltOf cmpB cmpZ;apply decide_eq_decide.2;by_cases h1:x.1<y.1
 ·simp [h1]
 by_cases h2:x.1 > y.1
 ·simp [h1,h2]; omega
 by_cases h3:x.2<y.2
 ·simp [h1,h2,h3]; omega
 by_cases h4:x.2 > y.2
 ·simp [h1,h2,h3,h4]
 simp [h1,h2,h3,h4]
theorem swoB:SWO (ltOf cmpB) where
 irrefl x:=by rw [ltB]; simp
 trans x y z h1 h2:=by rw [ltB] at *; simp at *; omega
 ntrans x y z h1 h2:=by rw [ltB] at *; simp at *; omega
theorem totB (x y:Int×Int) (h1:ltOf cmpB x y=false) (h2:ltOf cmpB y x=false):x=y:=by
 rw [ltB] at *; simp at *;have e1:x.1=y.1:=by omega
 have e2:x.2=y.2:=by omega
 exact Prod.ext e1 e2
def layB_ren:Go.Shelf.Ren:=⟨fun | 6=>104 | 15=>111 | 14=>135 | 28=>145 | 29=>146 | 20=>167 | 21=>168 | 22=>169 | 23=>170 | 24=>171 | 25=>172 | 26=>173 | 27=>174 | 46=>191 | 47=>176 | 48=>177 | 49=>192 | 50=>193 | 57=>201 | n=>n,fun | 22=>24 | 24=>42 | 25=>109 | 3=>3 | 39=>117 | 0=>0 | 53=>141 | 55=>143 | 4=>4 | 46=>133 | 45=>132 | 50=>138 | 5=>5 | 9=>9 | 66=>159 | 70=>163 | 76=>170 | 77=>171 | n=>n,fun | n=>n⟩
theorem layB:Go.Proofs.SlLaysF0.n6 Tryz.prog layB_ren:={
 mixed:=by kernel_rfl
 f6:=⟨Tryz.f104.name,by decide,Tryz.func104.trans (congrArg some (by kernel_rfl))⟩
 f14:=⟨Tryz.f135.name,by decide,Tryz.func135.trans (congrArg some (by kernel_rfl))⟩
 f15:=Tryz.func111.trans (congrArg some (by kernel_rfl))
 f20:=⟨Tryz.f167.name,by decide,Tryz.func167.trans (congrArg some (by kernel_rfl))⟩
 f21:=⟨Tryz.f168.name,by decide,Tryz.func168.trans (congrArg some (by kernel_rfl))⟩
 f22:=⟨Tryz.f169.name,by decide,Tryz.func169.trans (congrArg some (by kernel_rfl))⟩
 f23:=⟨Tryz.f170.name,by decide,Tryz.func170.trans (congrArg some (by kernel_rfl))⟩
 f24:=⟨Tryz.f171.name,by decide,Tryz.func171.trans (congrArg some (by kernel_rfl))⟩
 f25:=⟨Tryz.f172.name,by decide,Tryz.func172.trans (congrArg some (by kernel_rfl))⟩
 f26:=⟨Tryz.f173.name,by decide,Tryz.func173.trans (congrArg some (by kernel_rfl))⟩
 f27:=⟨Tryz.f174.name,by decide,Tryz.func174.trans (congrArg some (by kernel_rfl))⟩
 f28:=Tryz.func145.trans (congrArg some (by kernel_rfl))
 f29:=Tryz.func146.trans (congrArg some (by kernel_rfl))
 f46:=⟨Tryz.f191.name,by decide,Tryz.func191.trans (congrArg some (by kernel_rfl))⟩
 f47:=Tryz.func176.trans (congrArg some (by kernel_rfl))
 f48:=Tryz.func177.trans (congrArg some (by kernel_rfl))
 f49:=⟨Tryz.f192.name,by decide,Tryz.func192.trans (congrArg some (by kernel_rfl))⟩
 f50:=⟨Tryz.f193.name,by decide,Tryz.func193.trans (congrArg some (by kernel_rfl))⟩
 f57:=⟨Tryz.f201.name,by decide,Tryz.func201.trans (congrArg some (by kernel_rfl))⟩
 t0:=Tryz.underlying0
 a0:=Tryz.isAgg0
 z0:=Tryz.sizeOf0
 v0:=Tryz.zeroValue0
 t3:=Tryz.underlying3
 a3:=Tryz.isAgg3
 z3:=Tryz.sizeOf3
 v3:=Tryz.zeroValue3
 t4:=Tryz.underlying4
 a4:=Tryz.isAgg4
 z4:=Tryz.sizeOf4
 v4:=Tryz.zeroValue4
 t5:=Tryz.underlying5
 a5:=Tryz.isAgg5
 z5:=Tryz.sizeOf5
 v5:=Tryz.zeroValue5
 t9:=Tryz.underlying9
 a9:=Tryz.isAgg9
 z9:=Tryz.sizeOf9
 v9:=Tryz.zeroValue9
 t22:=Tryz.underlying24
 a22:=Tryz.isAgg24
 z22:=Tryz.sizeOf24
 v22:=Tryz.zeroValue24
 t25:=Tryz.underlying109
 a25:=Tryz.isAgg109
 z25:=Tryz.sizeOf109
 v25:=Tryz.zeroValue109
 t39:=Tryz.underlying117
 a39:=Tryz.isAgg117
 z39:=Tryz.sizeOf117
 v39:=Tryz.zeroValue117
 t45:=Tryz.underlying132
 a45:=Tryz.isAgg132
 z45:=Tryz.sizeOf132
 v45:=Tryz.zeroValue132
 t46:=Tryz.underlying133
 a46:=Tryz.isAgg133
 z46:=Tryz.sizeOf133
 v46:=Tryz.zeroValue133
 t50:=Tryz.underlying138
 a50:=Tryz.isAgg138
 z50:=Tryz.sizeOf138
 v50:=Tryz.zeroValue138
 t53:=Tryz.underlying141
 a53:=Tryz.isAgg141
 z53:=Tryz.sizeOf141
 v53:=Tryz.zeroValue141
 t55:=Tryz.underlying143
 a55:=Tryz.isAgg143
 z55:=Tryz.sizeOf143
 v55:=Tryz.zeroValue143
 t66:=Tryz.underlying159
 a66:=Tryz.isAgg159
 z66:=Tryz.sizeOf159
 v66:=Tryz.zeroValue159
 t70:=Tryz.underlying163
 a70:=Tryz.isAgg163
 z70:=Tryz.sizeOf163
 v70:=Tryz.zeroValue163
 t76:=Tryz.underlying170
 a76:=Tryz.isAgg170
 z76:=Tryz.sizeOf170
 v76:=Tryz.zeroValue170
 t77:=Tryz.underlying171
 a77:=Tryz.isAgg171
 z77:=Tryz.sizeOf171
 v77:=Tryz.zeroValue171 }
set_option maxHeartbeats 1000000 in
theorem cmpInts_c (x y:Int) (W:World):Calls Tryz.prog 94 #[.int .i64 x,.int .i64 y] W fun e w'=>e=.returned (.int .i64 (cmpZ x y))∧w'=W:=by
 unfold cmpZ
 go_enter Tryz.func94,Tryz.ntmps94
 go_wp2
 all_goals (go_ret; exact ⟨rfl,rfl⟩)
set_option maxHeartbeats 1000000 in
theorem cmpBars_c (x y:Int×Int) (W:World):Calls Tryz.prog 105 #[.agg #[.int .i64 x.1,.int .i64 x.2],.agg #[.int .i64 y.1,.int .i64 y.2]] W fun e w'=>e=.returned (.int .i64 (cmpB x y))∧∃ q os',w'=grow (W.drewN q) os':=by
 have hcon:=fun a b W'=>cmpInts_c a b W';unfold cmpB;generalize cmpZ=Z at hcon ⊢
 go_enter Tryz.func105,Tryz.ntmps105
 go_wp2_with (go_at_call 94; refine (hcon _ _ _).mono ?_; rintro e w' ⟨rfl,rfl⟩)
 all_goals first
  | (go_ret; exact ⟨rfl,0,_,by rw [alloc_eq_grow,alloc_eq_grow,grow_grow]; rfl⟩)
  | (exfalso; simp_all; done)
def Ack (l:List (Int×Int)):List (Int×Int):=l.mergeSort fun x y=>!(ltOf cmpB) y x
theorem Aaa (l:List (Int×Int)):(Ack l).length=l.length:=by simp [Ack]
def Mr (N:Nat) (a_0:List (Int×Int)):Option (List (Int×Int)):=
 grd (a_0.length<4611686018427387904) (some (Ack a_0))
theorem flatB (l:List (Int×Int)) {t:Nat} (ht:t<l.length*2):(flatK encB 2 l.toArray)[t]! = Ro (.pairs l) t:=by
 have h1:t / 2<l.length:=by omega
 rw [get_flatK encB 2 l.toArray t (by simpa using ht)]
 have e:l.toArray[t / 2]! = l.getD (t / 2) (0,0):=by
  rw [getElem!_pos l.toArray (t / 2) (by simpa using h1),List.getD_eq_getElem?_getD,List.getElem?_eq_getElem h1]; rfl
 rw [e];rcases (by omega:t % 2=0∨t % 2=1) with h | h <;> rw [h] <;> simp [Ro,encB,h]
theorem lays_bars (l:List (Int×Int)) (hl2:l.length<4611686018427387904):Lays1 Tryz.prog 104 [.func (.func 105) #[] #[]] (.pairs l) (.pairs (Ack l)):=by
 refine ⟨fun blk cap w hc hb hl=>?_,fun h p cap w=>?_⟩
 ·have hH:HoldsK encB 2 w blk 0 l.toArray:=fun j hj=>by
   have hj':j<l.length*2:=by simpa using hj
   have:=hc j hj';simp only [Nat.zero_add];refine ⟨?_,this.2⟩;rw [this.1,←flatB l hj']; rfl
  have hcon:=AnyQ.slices_SortFunc_total layB 2 Tryz.isAgg42 Tryz.sizeOf42 encB (fun _=>rfl) (fun x v hv=>by simp [encB] at hv; rcases hv with rfl | rfl <;> rfl) cmpB swoB 105 #[] blk 0 cap l.toArray w (enters_of Tryz.func105 (by kernel_rfl) rfl) (fun _ _ _ _ x y=>cmpBars_c x y _) hH hb (by simpa using hl2) totB;refine hcon.mono ?_;rintro e w' ⟨rfl,n,os,rfl⟩;refine ⟨O,?_⟩;have h:=rowPut_of (enc:=id) (w:=w) (blk:=blk) (n:=n) (d:=flatK encB 2 (Ack l).toArray) (os:=os);refine h.to (by simp [Sq.len,Sq.sz]) fun t ht=>?_;have ht':t<(Ack l).length*2:=by simpa using ht
  exact flatB (Ack l) ht'
 have:=AnyF.slices_SortFunc_none { layB with } p cap (.func (.func 105) #[] #[]) w;exact this
theorem Zv (N:Nat) (a_0:List (Int×Int)) (r:List (Int×Int)) (h:Mr N a_0=some r):MCall Tryz.prog 104 [.row 1000000 0 a_0.length,.val (.func (.func 105) #[] #[])] [1000000] [] [(42,.pairs a_0)] [(42,.pairs r)] [] [] (.tup []):=by
 obtain ⟨h2,h⟩:=Ac h;cases h
 exact mcall_lays (q:=.pairs a_0) (q':=.pairs (Ack a_0)) (ds:=[.val (.func (.func 105) #[] #[])]) (vs:=[.func (.func 105) #[] #[]]) (enters_of Tryz.func104 (by kernel_rfl) O) O O (by show (Ack a_0).length=a_0.length; rw [Aaa]) O O (fun M A w i d v h hv=>by
  rcases i with _ | i
  ·simp at h; subst h; cases hv; rfl
  simp at h) (lays_bars a_0 h2)
end
section
open Go.RowKit
def Md (N:Nat) (g_0:Grf) (l_1:List (Int×Int)):Option (Grf):=
 (Jl N g_0).bind fun v1=>
 grd (v1.bars.length+l_1.length≤4294967296) <|
 (Mr N (v1.bars++l_1)).bind fun v2=>
 grd ((v1.bars++l_1).length=v2.length) <|
 some (⟨v1.n,v2⟩:Grf)
theorem Zl (N:Nat) (g_0:Grf) (l_1:List (Int×Int)) (r:Grf) (h:Md N g_0 l_1=some r):PCall Tryz.prog 58 [gD g_0,.ro false (.pairs l_1)] [(42,.pairs r.bars)] (.agg [.int r.n,.row 0 0 r.bars.length]):=by
 unfold Md at h;refine Aj (TT:=TT) tt Tryz.func58 O O Tryz.ntmps58 (congrArg Array.toList Tryz.results58) O O fun w0=>(Ag (Ab (Hz O O O O O O O O O (Bi tt O O O O O O O O O (Af (Ag (Ab (Aa O ?_))))))));obtain ⟨v1,hc1,h⟩:=Ae h;refine Ba (Sf N g_0 v1 hc1) O O O O O O O O ⟨⟨O,O,Y⟩,Y⟩ (Bi tt O O O O O O O O O (Ao tt O O O O O O O O O O O ⟨Y,Y,Y⟩ (Af (Ag (Ab (Aa O (Aa O (Aa O ?_))))))));obtain ⟨hg2,h⟩:=Ac h;refine Bt tt O O O O O O O O O O O O O O O O Y hg2 (Aa O (Ao tt O O O O O O O O O O O ⟨Y,Y⟩ (Af (Ag (Ab (Aa O (Aa O ?_)))))));obtain ⟨v2,hc3,h⟩:=Ae h;refine Co (Zv N (v1.bars++l_1) v2 hc3) [1070] [] [1070] O O O O O O ⟨O,Y⟩ trivial ⟨⟨O,O⟩,⟨O,O⟩,Y⟩ (Af (Ag (Ab (Aa O (Ao tt O O O O O O O O O O O ⟨Y,Y,Y⟩ (Af ?_))))));show VC ..;obtain ⟨hg4,h⟩:=Ac h;refine Bg ?_;show ∃ _,_;cases h;exact ⟨[1070],_,O,⟨O,Y⟩,O,(.eq (by simp only [hg4]; rfl)),O⟩
def Du (N:Nat) (g_0:Grf) (anchors_1:List Int) (x119:Int) (k:((List (Int×Int))×Int)→Option (Grf×Bool)):Nat→((List (Int×Int))×Int×Int)→Option (Grf×Bool)
 | 0,_=>none
 | n+1,(l166,x167,c168)=>
  cnd (decide (x167<(((anchors_1.take anchors_1.length).drop (((x119+(1:Int))).toNat)).length:Int))) (
   grd (0≤x167∧x167<(((anchors_1.take anchors_1.length).drop (((x119+(1:Int))).toNat)).length:Int)) <|
   (Pv N g_0 (anchors_1.getD ((x119).toNat) 0) (((anchors_1.take anchors_1.length).drop (((x119+(1:Int))).toNat)).getD ((x167).toNat) 0)).bind fun v172=>
   cnd (v172==(0:Int)) (
    (I_bar N (anchors_1.getD ((x119).toNat) 0) (((anchors_1.take anchors_1.length).drop (((x119+(1:Int))).toNat)).getD ((x167).toNat) 0)).bind fun v173=>
    (Md N (⟨c168,l166⟩:Grf) ([(v173.1,v173.2)]:List (Int×Int))).bind fun v174=>
    grd (Bc (x167+(1:Int))) <|
    Du N g_0 anchors_1 x119 k n (v174.bars,(x167+(1:Int)),v174.n)) (
    grd (Bc (x167+(1:Int))) <|
    Du N g_0 anchors_1 x119 k n (l166,(x167+(1:Int)),c168))) (
   k (l166,c168))
def Dt (N:Nat) (g_0:Grf) (anchors_1:List Int) (k:((List (Int×Int))×Int)→Option (Grf×Bool)):Nat→((List (Int×Int))×Int×Int)→Option (Grf×Bool)
 | 0,_=>none
 | n+1,(l118,x119,c120)=>
  cnd (decide (x119<(anchors_1.length:Int))) (
   grd (0≤x119∧x119<(anchors_1.length:Int)) <|
   grd (Bc (x119+(1:Int))) <|
   grd (0≤(x119+(1:Int))∧(x119+(1:Int))≤(anchors_1.length:Int)) <|
   Du N g_0 anchors_1 x119 (fun (x:(List (Int×Int))×Int)=>
     match x with
     | (l160,c161)=>
      Dt N g_0 anchors_1 k n (l160,(x119+(1:Int)),c161)) N (l118,(0:Int),c120)) (
   k (l118,c120))
def Fj (N:Nat) (g_0:Grf) (anchors_1:List Int):Option (Grf×Bool):=
 (He N g_0 anchors_1).bind fun v1=>
 cnd (!v1) (
  some ((⟨(0:Int),([]:List (Int×Int))⟩:Grf),false)) (
  (Jl N g_0).bind fun v2=>
  Dt N g_0 anchors_1 (fun (x:(List (Int×Int))×Int)=>
    match x with
    | (l87,c88)=>
     (Cs N (⟨c88,l87⟩:Grf)).bind fun v89=>
     cnd (!v89) (
      some ((⟨(0:Int),([]:List (Int×Int))⟩:Grf),false)) (
      some ((⟨c88,l87⟩:Grf),true))) N (v2.bars,(0:Int),v2.n))
theorem Rw (N:Nat) (g_0:Grf) (anchors_1:List Int) (r:Grf×Bool) (h:Fj N g_0 anchors_1=some r):PCall Tryz.prog 15 [gD g_0,.ro false (.ints anchors_1)] [(42,.pairs r.1.bars)] (.tup [.agg [.int r.1.n,.row 0 0 r.1.bars.length],.bool r.2]):=by
 unfold Fj at h;refine Aj (TT:=TT) tt Tryz.func15 O O Tryz.ntmps15 (congrArg Array.toList Tryz.results15) O O fun w0=>(Ag (Ab (Hz O O O O O O O O O (Bi tt O O O O O O O O O (Aa O (Af (Ag (Ag (Ab ?_)))))))));refine Aa O (Aa O ?_);obtain ⟨v1,hc1,h⟩:=Ae h;refine Ba (Kv N g_0 anchors_1 v1 hc1) O O O O O O O O ⟨⟨O,O,Y⟩,O,Y⟩ (Aa O (Af (Ar O (fun hb2=>?_) (fun hb2=>?_))))
 ·replace h:=Ak hb2 h;refine Ag (Ab (Fz (Ai O) (Df Cv O O) O O (Ao tt O O O O O O O O O O O ⟨Y,Y,Y⟩ (Aa O (Af (Kr 4 1 9001 42 (.pairs []) O O O O O (Bg ?_)))))));show ∃ _,_;cases h;exact ⟨[9001],_,O,⟨O,Y⟩,O,.eq O,O⟩
 replace h:=Al hb2 h;refine Aq (Ag (Ab (Aa O ?_)));obtain ⟨v2,hc3,h⟩:=Ae h;refine Ba (Sf N g_0 v2 hc3) O O O O O O O O ⟨⟨O,O,Y⟩,Y⟩ (Bi tt O O O O O O O O O (Ao tt O O O O O O O O O O O ⟨Y,Y,Y⟩ (Af (Ag (Ag (Ab (Aa O (Aa O (Aa O ?_)))))))));refine Af (Bz (F:=fun k=>Dt N g_0 anchors_1 k) h (α:=(List (Int×Int))×Int) (J:=fun | (l87,c88)=>(⟨[(4,.ptr 4 0),(6,.ptr 6 0)],[(1170,some (42,.pairs l87))],[(4,some [.int (0:Int),.nil]),(6,some [.int c88,.row 1170 0 l87.length])]⟩:PS)) ?_ ?_)
 ·rintro ⟨l87,c88⟩ h;show VC _ _ _ (⟨[(4,.ptr 4 0),(6,.ptr 6 0)],[(1170,some (42,.pairs l87))],[(4,some [.int (0:Int),.nil]),(6,some [.int c88,.row 1170 0 l87.length])]⟩:PS);refine Ag (Ag (Ab (Aa O ?_)));obtain ⟨v89,hc4,h⟩:=Ae h;refine Ba (Fx N (⟨c88,l87⟩:Grf) v89 hc4) O O O O O O O O ⟨⟨O,(.inl ⟨O,O⟩),Y⟩,Y⟩ (Aa O (Af (Ar O (fun hb5=>?_) (fun hb5=>?_))))
  ·replace h:=Ak hb5 h;refine Ag (Ab (Fz (Ai O) (Df Cv O O) O O (Ao tt O O O O O O O O O O O ⟨Y,Y,Y⟩ (Aa O (Af (Kr 4 1 9001 42 (.pairs []) O O O O O (Bg ?_)))))));show ∃ _,_;cases h;exact ⟨[9001],_,O,⟨O,Y⟩,O,.eq O,O⟩
  replace h:=Al hb5 h;refine Aq (Ag (Ab (Aa O (Ao tt O O O O O O O O O O O ⟨Y,Y,Y⟩ (Aa O (Af (Bg ?_)))))));show ∃ _,_;cases h;exact ⟨[1170],_,O,⟨O,Y⟩,O,.eq O,O⟩
 intro k h;refine Ap (Bh (α:=(List (Int×Int))×Int×Int) (fun | (l118,x119,c120)=>(⟨[(1,.ro false (.ints anchors_1)),(2,.ptr 2 0),(4,.ptr 4 0),(6,.ptr 6 0),(18,.ro false (.ints anchors_1)),(19,.int (anchors_1.length:Int)),(20,.int x119)],[(1170,some (42,.pairs l118))],[(2,some [.int g_0.n,.ro false (.pairs g_0.bars)]),(4,some [.int (0:Int),.nil]),(6,some [.int c120,.row 1170 0 l118.length])]⟩:PS)) (Dt N g_0 anchors_1 k) h (En.of ⟨rfl,rfl,rfl,rfl,rfl,rfl,rfl,Y⟩ ⟨rfl,Y⟩ ⟨rfl,rfl,rfl,Y⟩) (fun _=>rfl) ?_);rintro n ⟨l118,x119,c120⟩ h;rw [Dt] at h;show VC _ _ _ (⟨[(1,.ro false (.ints anchors_1)),(2,.ptr 2 0),(4,.ptr 4 0),(6,.ptr 6 0),(18,.ro false (.ints anchors_1)),(19,.int (anchors_1.length:Int)),(20,.int x119)],[(1170,some (42,.pairs l118))],[(2,some [.int g_0.n,.ro false (.pairs g_0.bars)]),(4,some [.int (0:Int),.nil]),(6,some [.int c120,.row 1170 0 l118.length])]⟩:PS);refine Ag (Ab (Aa O (Af (Ag (Ar O (fun hb6=>?_) (fun hb6=>?_))))))
 ·replace h:=Ak hb6 h;refine Aq (Ag (Ap (Ag (Ab (Aa O ?_)))));obtain ⟨hg7,h⟩:=Ac h;refine Ad tt O hg7 (Aa O (Aa O (Aa O (Af (Ag (Ab (Aa O (Aa O ?_))))))));obtain ⟨hg8,h⟩:=Ac h;refine Ad tt O hg8 ?_;obtain ⟨hg9,h⟩:=Ac h;refine Ad tt rfl hg9 (Aa rfl (Aa rfl (Af (Bz (F:=fun k=>Du N g_0 anchors_1 x119 k) h (α:=(List (Int×Int))×Int) (J:=fun | (l160,c161)=>(⟨[(1,.ro false (.ints anchors_1)),(2,.ptr 2 0),(4,.ptr 4 0),(6,.ptr 6 0),(18,.ro false (.ints anchors_1)),(19,.int (anchors_1.length:Int)),(20,.int x119)],[(1170,some (42,.pairs l160))],[(2,some [.int g_0.n,.ro false (.pairs g_0.bars)]),(4,some [.int (0:Int),.nil]),(6,some [.int c161,.row 1170 0 l160.length])]⟩:PS)) ?_ ?_))))
  ·rintro ⟨l160,c161⟩ h;show VC _ _ _ (⟨[(1,.ro false (.ints anchors_1)),(2,.ptr 2 0),(4,.ptr 4 0),(6,.ptr 6 0),(18,.ro false (.ints anchors_1)),(19,.int (anchors_1.length:Int)),(20,.int x119)],[(1170,some (42,.pairs l160))],[(2,some [.int g_0.n,.ro false (.pairs g_0.bars)]),(4,some [.int (0:Int),.nil]),(6,some [.int c161,.row 1170 0 l160.length])]⟩:PS);refine Ab (Ad tt O hg8 (Aa O (Af ?_)));show ∃ _,_;exact ⟨(l160,(x119+(1:Int)),c161),(En.of ⟨O,O,O,O,O,O,O,Y⟩ ⟨O,Y⟩ ⟨O,O,O,Y⟩),h⟩
  intro k h;refine Ap (Bh (α:=(List (Int×Int))×Int×Int) (fun | (l166,x167,c168)=>(⟨[(1,.ro false (.ints anchors_1)),(2,.ptr 2 0),(4,.ptr 4 0),(6,.ptr 6 0),(8,.int (anchors_1.getD ((x119).toNat) 0)),(18,.ro false (.ints anchors_1)),(19,.int (anchors_1.length:Int)),(20,.int x119),(28,.ro false (.ints ((anchors_1.take anchors_1.length).drop (((x119+(1:Int))).toNat)))),(29,.int (((anchors_1.take anchors_1.length).drop (((x119+(1:Int))).toNat)).length:Int)),(30,.int x167)],[(1170,some (42,.pairs l166))],[(2,some [.int g_0.n,.ro false (.pairs g_0.bars)]),(4,some [.int (0:Int),.nil]),(6,some [.int c168,.row 1170 0 l166.length])]⟩:PS)) (Du N g_0 anchors_1 x119 k) h (En.of ⟨rfl,rfl,rfl,rfl,rfl,rfl,rfl,rfl,rfl,rfl,rfl,Y⟩ ⟨rfl,Y⟩ ⟨rfl,rfl,rfl,Y⟩) (fun _=>rfl) ?_);rintro n ⟨l166,x167,c168⟩ h;rw [Du] at h;show VC _ _ _ (⟨[(1,.ro false (.ints anchors_1)),(2,.ptr 2 0),(4,.ptr 4 0),(6,.ptr 6 0),(8,.int (anchors_1.getD ((x119).toNat) 0)),(18,.ro false (.ints anchors_1)),(19,.int (anchors_1.length:Int)),(20,.int x119),(28,.ro false (.ints ((anchors_1.take anchors_1.length).drop (((x119+(1:Int))).toNat)))),(29,.int (((anchors_1.take anchors_1.length).drop (((x119+(1:Int))).toNat)).length:Int)),(30,.int x167)],[(1170,some (42,.pairs l166))],[(2,some [.int g_0.n,.ro false (.pairs g_0.bars)]),(4,some [.int (0:Int),.nil]),(6,some [.int c168,.row 1170 0 l166.length])]⟩:PS);refine Ag (Ab (Aa O (Af (Ag (Ar O (fun hb10=>?_) (fun hb10=>?_))))))
  ·replace h:=Ak hb10 h;refine Aq (Ag (Ap (Ag (Ab ?_))));obtain ⟨hg11,h⟩:=Ac h;refine Ad tt O hg11 (Aa O (Aa O (Af (Ag (Ab (Aa O (Aa O (Aa O ?_))))))));obtain ⟨v172,hc12,h⟩:=Ae h;refine Ba (Zj N g_0 (anchors_1.getD ((x119).toNat) 0) (((anchors_1.take anchors_1.length).drop (((x119+(1:Int))).toNat)).getD ((x167).toNat) 0) v172 hc12) O O O O O O O O ⟨⟨O,O,Y⟩,O,O,Y⟩ (Aa O (Af (Ar O (fun hb13=>?_) (fun hb13=>?_))))
   ·replace h:=Ak hb13 h;refine Dn 5 [4] [0,0,0,6,14,31,63] (by kernel_rfl) (by kernel_rfl) (by kernel_rfl) (by kernel_rfl) (by kernel_rfl) O (by rfl) ?_;iterate 3 refine Fy tt O (Ai O) O O O O O Y ?_
    obtain ⟨v173,hc14,h⟩:=Ae h;refine nCall (I_bar_w N (anchors_1.getD ((x119).toNat) 0) (((anchors_1.take anchors_1.length).drop (((x119+(1:Int))).toNat)).getD ((x167).toNat) 0) v173 hc14) O (Ai O) O O O O O O O O ⟨O,O,Y⟩ (Adl tt (Ai O) O O O O O O O O O O O O (Tb ?_));show VO _ _ _ _ _;obtain ⟨v174,hc15,h⟩:=Ae h;refine Ba (Zl N (⟨c168,l166⟩:Grf) ([(v173.1,v173.2)]:List (Int×Int)) v174 hc15) O O O O O O O O ⟨⟨O,(.inl ⟨O,O⟩),Y⟩,(.inl ⟨O,O⟩),Y⟩ (Ao tt O O O O O O O O O O O ⟨Y,Y,Y⟩ (Af (Ab ?_)));obtain ⟨hg16,h⟩:=Ac h;refine Ad tt O hg16 (Aa O (Af ?_));show ∃ _,_;exact ⟨(v174.bars,(x167+(1:Int)),v174.n),(En.ren [1170] [1440] O ⟨.inr O,.inr O,.inr O,.inr O,.inr O,.inr O,.inr O,.inr O,.inr O,.inr O,.inr O,Y⟩ ⟨.inr O,Y⟩ ⟨.inr ⟨_,_,O,O,⟨.inr O,.inr O,Y⟩⟩,.inr ⟨_,_,O,O,⟨.inr O,.inr O,Y⟩⟩,.inr ⟨_,_,O,O,⟨.inr O,.inr O,Y⟩⟩,Y⟩),h⟩
   replace h:=Al hb13 h;refine Aq (Ab ?_);obtain ⟨hg17,h⟩:=Ac h;refine Ad tt O hg17 (Aa O (Af ?_));show ∃ _,_;exact ⟨(l166,(x167+(1:Int)),c168),(En.of ⟨O,O,O,O,O,O,O,O,O,O,O,Y⟩ ⟨O,Y⟩ ⟨O,O,O,Y⟩),h⟩
  replace h:=Al hb10 h;refine Bp ?_;show ∃ _,_;exact ⟨(l166,c168),(En.of ⟨O,O,O,O,O,O,O,Y⟩ ⟨O,Y⟩ ⟨O,O,O,Y⟩),h⟩
 replace h:=Al hb6 h;refine Bp ?_;show ∃ _,_;exact ⟨(l118,c120),(En.of ⟨O,O,Y⟩ ⟨O,Y⟩ ⟨O,O,Y⟩),h⟩
end
section
open Go.RowKit
def Ch (N:Nat) (g_0:Grf) (a_1:Int) (b_2:Int) (k:Int→Option (Int)):Nat→(Int×Int)→Option (Int)
 | 0,_=>none
 | n+1,(n5,i6)=>
  cnd (decide (i6<(g_0.bars.length:Int))) (
   grd (0≤i6∧i6<(g_0.bars.length:Int)) <|
   cnd (((g_0.bars.getD ((i6).toNat) (0,0)).1)==a_1) (
    cnd (((g_0.bars.getD ((i6).toNat) (0,0)).2)==b_2) (
     grd (Bc (n5+(1:Int))) <|
     grd (Bc (i6+(1:Int))) <|
     Ch N g_0 a_1 b_2 k n ((n5+(1:Int)),(i6+(1:Int)))) (
     cnd (((g_0.bars.getD ((i6).toNat) (0,0)).1)==b_2) (
      cnd (((g_0.bars.getD ((i6).toNat) (0,0)).2)==a_1) (
       grd (Bc (n5+(1:Int))) <|
       grd (Bc (i6+(1:Int))) <|
       Ch N g_0 a_1 b_2 k n ((n5+(1:Int)),(i6+(1:Int)))) (
       grd (Bc (i6+(1:Int))) <|
       Ch N g_0 a_1 b_2 k n (n5,(i6+(1:Int))))) (
      grd (Bc (i6+(1:Int))) <|
      Ch N g_0 a_1 b_2 k n (n5,(i6+(1:Int)))))) (
    cnd (((g_0.bars.getD ((i6).toNat) (0,0)).1)==b_2) (
     cnd (((g_0.bars.getD ((i6).toNat) (0,0)).2)==a_1) (
      grd (Bc (n5+(1:Int))) <|
      grd (Bc (i6+(1:Int))) <|
      Ch N g_0 a_1 b_2 k n ((n5+(1:Int)),(i6+(1:Int)))) (
      grd (Bc (i6+(1:Int))) <|
      Ch N g_0 a_1 b_2 k n (n5,(i6+(1:Int))))) (
     grd (Bc (i6+(1:Int))) <|
     Ch N g_0 a_1 b_2 k n (n5,(i6+(1:Int)))))) (
   k n5)
def Mo (N:Nat) (g_0:Grf) (a_1:Int) (b_2:Int):Option (Int):=
 Ch N g_0 a_1 b_2 (fun (n3 : Int) =>
    some n3) N ((0:Int),(0:Int))
theorem Tu (N:Nat) (g_0:Grf) (a_1:Int) (b_2:Int) (r:Int) (h:Mo N g_0 a_1 b_2=some r):PCall Tryz.prog 62 [gD g_0,.int a_1,.int b_2] [] (.int r):=by
 unfold Mo at h;refine Aj (TT:=TT) tt Tryz.func62 O O Tryz.ntmps62 (congrArg Array.toList Tryz.results62) O O fun w0=>(Ag (Ab (Hz O O O O O O O O O (Aa O (Af (Ag (Ab (Aa O (Af ?_)))))))));refine Ag (Ag (Ab (Aa O (Af (Bz (F:=fun k=>Ch N g_0 a_1 b_2 k) h (α:=Int) (J:=fun (n3:Int)=>(⟨[(7,.int n3)],[],[]⟩:PS)) ?_ ?_)))))
 ·rintro n3 h;show VC _ _ _ (⟨[(7,.int n3)],[],[]⟩:PS);refine Ag (Ab (Aa O (Aa O (Af (Bg ?_)))));show ∃ _,_;cases h;exact ⟨[],_,O,Y,O,.eq O,O⟩
 intro k h;refine Ap (Bh (α:=Int×Int) (fun | (n5,i6)=>(⟨[(1,.int a_1),(2,.int b_2),(3,.ptr 3 0),(7,.int n5),(8,.int i6)],[],[(3,some [.int g_0.n,.ro false (.pairs g_0.bars)])]⟩:PS)) (Ch N g_0 a_1 b_2 k) h (En.of ⟨rfl,rfl,rfl,rfl,rfl,Y⟩ trivial ⟨rfl,Y⟩) (fun _=>rfl) ?_);rintro n ⟨n5,i6⟩ h;rw [Ch] at h;show VC _ _ _ (⟨[(1,.int a_1),(2,.int b_2),(3,.ptr 3 0),(7,.int n5),(8,.int i6)],[],[(3,some [.int g_0.n,.ro false (.pairs g_0.bars)])]⟩:PS);refine Ag (Ag (Ab ?_));iterate 5 refine Aa O ?_
 refine Af (Ar O (fun hb1=>?_) (fun hb1=>?_))
 ·replace h:=Ak hb1 h;refine Aq (Ag (Ap (Ag (Ab (Aa O (Aa O (Aa O ?_)))))));obtain ⟨hg2,h⟩:=Ac h;refine Ad tt O hg2 ?_;iterate 5 refine Aa O ?_
  refine Be O O O (fun hb3=>?_) (fun hb3=>?_)
  ·replace h:=Ak hb3 h;iterate 3 refine Av tt O O O O O hb3 O O O Y ?_
   refine Av tt O O O O O hb3 O O O hg2 ?_;iterate 4 refine Av tt O O O O O hb3 O O O Y ?_
   refine Bm O O O O O hb3 O (Aa O (Be O O O (fun hb4=>?_) (fun hb4=>?_)))
   ·replace h:=Ak hb4 h;iterate 9 refine Hg O O O O hb4 O O ?_
    iterate 8 refine oNoU O O O O O ?_
    refine Hg O O O O hb4 O O (Bm O O O O O hb4 O (Af (Ce O O (Ab (Aa O ?_)))));obtain ⟨hg5,h⟩:=Ac h;refine Ad tt O hg5 (Aa O (Af (Ab (Aa O ?_))));obtain ⟨hg6,h⟩:=Ac h;refine Ad tt O hg6 (Aa O (Af ?_));show ∃ _,_;exact ⟨((n5+(1:Int)),(i6+(1:Int))),(En.of ⟨O,O,O,O,O,Y⟩ trivial ⟨O,Y⟩),h⟩
   replace h:=Al hb4 h;iterate 3 refine Av tt O O O O O hb4 O O O Y ?_
   refine Av tt O O O O O hb4 O O O hg2 ?_;iterate 5 refine Av tt O O O O O hb4 O O O Y ?_
   refine Be O O O (fun hb7=>?_) (fun hb7=>?_)
   ·replace h:=Ak hb7 h;iterate 3 refine Av tt O O O O O hb7 O O O Y ?_
    refine Av tt O O O O O hb7 O O O hg2 ?_;iterate 4 refine Av tt O O O O O hb7 O O O Y ?_
    refine Rk O O O O hb4 O O O O hb7 O (Aw O O O O O hb4 O (Af (Ar O (fun hb8=>?_) (fun hb8=>?_))))
    ·replace h:=Ak hb8 h;refine Ab (Aa O ?_);obtain ⟨hg9,h⟩:=Ac h;refine Ad tt O hg9 (Aa O (Af (Ab (Aa O ?_))));obtain ⟨hg10,h⟩:=Ac h;refine Ad tt O hg10 (Aa O (Af ?_));show ∃ _,_;exact ⟨((n5+(1:Int)),(i6+(1:Int))),(En.of ⟨O,O,O,O,O,Y⟩ trivial ⟨O,Y⟩),h⟩
    replace h:=Al hb8 h;refine Aq (Ab (Aa O ?_));obtain ⟨hg11,h⟩:=Ac h;refine Ad tt O hg11 (Aa O (Af ?_));show ∃ _,_;exact ⟨(n5,(i6+(1:Int))),(En.of ⟨O,O,O,O,O,Y⟩ trivial ⟨O,Y⟩),h⟩
   replace h:=Al hb7 h;iterate 8 refine Kq O O O O hb7 O O ?_
   refine Rl O O O O hb4 O O O O hb7 O (Aw O O O O O hb4 O (Af (Cp O O (Aq (Ab (Aa O ?_))))));obtain ⟨hg12,h⟩:=Ac h;refine Ad tt O hg12 (Aa O (Af ?_));show ∃ _,_;exact ⟨(n5,(i6+(1:Int))),(En.of ⟨O,O,O,O,O,Y⟩ trivial ⟨O,Y⟩),h⟩
  replace h:=Al hb3 h;iterate 8 refine Kq O O O O hb3 O O ?_
  refine Aw O O O O O hb3 O (Aa O ?_);iterate 3 refine Av tt O O O O O O O O O Y ?_
  refine Av tt O O O O O O O O O hg2 ?_;iterate 5 refine Av tt O O O O O O O O O Y ?_
  refine Be O O O (fun hb13=>?_) (fun hb13=>?_)
  ·replace h:=Ak hb13 h;iterate 3 refine Av tt O O O O O hb13 O O O Y ?_
   refine Av tt O O O O O hb13 O O O hg2 ?_;iterate 4 refine Av tt O O O O O hb13 O O O Y ?_
   refine Rk O O O O O O O O O hb13 O (Aw O O O O O O O (Af (Ar O (fun hb14=>?_) (fun hb14=>?_))))
   ·replace h:=Ak hb14 h;refine Ab (Aa O ?_);obtain ⟨hg15,h⟩:=Ac h;refine Ad tt O hg15 (Aa O (Af (Ab (Aa O ?_))));obtain ⟨hg16,h⟩:=Ac h;refine Ad tt O hg16 (Aa O (Af ?_));show ∃ _,_;exact ⟨((n5+(1:Int)),(i6+(1:Int))),(En.of ⟨O,O,O,O,O,Y⟩ trivial ⟨O,Y⟩),h⟩
   replace h:=Al hb14 h;refine Aq (Ab (Aa O ?_));obtain ⟨hg17,h⟩:=Ac h;refine Ad tt O hg17 (Aa O (Af ?_));show ∃ _,_;exact ⟨(n5,(i6+(1:Int))),(En.of ⟨O,O,O,O,O,Y⟩ trivial ⟨O,Y⟩),h⟩
  replace h:=Al hb13 h;iterate 8 refine Kq O O O O hb13 O O ?_
  refine Rl O O O O O O O O O hb13 O (Aw O O O O O O O (Af (Cp O O (Aq (Ab (Aa O ?_))))));obtain ⟨hg18,h⟩:=Ac h;refine Ad tt O hg18 (Aa O (Af ?_));show ∃ _,_;exact ⟨(n5,(i6+(1:Int))),(En.of ⟨O,O,O,O,O,Y⟩ trivial ⟨O,Y⟩),h⟩
 replace h:=Al hb1 h;refine Bp ?_;show ∃ _,_;exact ⟨n5,(En.of ⟨O,Y⟩ trivial trivial),h⟩
def Dw (N:Nat) (anchors_1:List Int) (i95:Int) (k:((List (Int×Int))×Int)→Option (Grf×Bool)):Nat→((List (Int×Int))×Int×Int)→Option (Grf×Bool)
 | 0,_=>none
 | n+1,(l132,k133,c134)=>
  cnd (decide (k133<(anchors_1.length:Int))) (
   grd (0≤i95∧i95<(anchors_1.length:Int)) <|
   grd (0≤k133∧k133<(anchors_1.length:Int)) <|
   (Mo N (⟨c134,l132⟩:Grf) (anchors_1.getD ((i95).toNat) 0) (anchors_1.getD ((k133).toNat) 0)).bind fun v137=>
   cnd (v137==(0:Int)) (
    (Fv N (⟨c134,l132⟩:Grf) ((anchors_1.getD ((i95).toNat) 0),(anchors_1.getD ((k133).toNat) 0))).bind fun v138=>
    grd (Bc (k133+(1:Int))) <|
    Dw N anchors_1 i95 k n (v138.bars,(k133+(1:Int)),v138.n)) (
    grd (Bc (k133+(1:Int))) <|
    Dw N anchors_1 i95 k n (l132,(k133+(1:Int)),c134))) (
   k (l132,c134))
def Dv (N:Nat) (anchors_1:List Int) (k:((List (Int×Int))×Int)→Option (Grf×Bool)):Nat→((List (Int×Int))×Int×Int)→Option (Grf×Bool)
 | 0,_=>none
 | n+1,(l94,i95,c96)=>
  cnd (decide (i95<(anchors_1.length:Int))) (
   grd (Bc (i95+(1:Int))) <|
   Dw N anchors_1 i95 (fun (x:(List (Int×Int))×Int)=>
     match x with
     | (l127,c128)=>
      Dv N anchors_1 k n (l127,(i95+(1:Int)),c128)) N (l94,(i95+(1:Int)),c96)) (
   k (l94,c96))
def De (N:Nat) (g_0:Grf) (anchors_1:List Int):Option (Grf×Bool):=
 (Fm N g_0).bind fun v1=>
 (Jd N g_0 anchors_1).bind fun v2=>
 cnd (!v2) (
  some ((⟨(0:Int),([]:List (Int×Int))⟩:Grf),false)) (
  Dv N anchors_1 (fun (x:(List (Int×Int))×Int)=>
    match x with
    | (l69,c70)=>
     (Dg N (⟨c70,l69⟩:Grf)).bind fun v71=>
     cnd (!v71) (
      some ((⟨(0:Int),([]:List (Int×Int))⟩:Grf),false)) (
      some ((⟨c70,l69⟩:Grf),true))) N (v1.bars,(0:Int),v1.n))
theorem Rv (N:Nat) (g_0:Grf) (anchors_1:List Int) (r:Grf×Bool) (h:De N g_0 anchors_1=some r):PCall Tryz.prog 16 [gD g_0,.ro false (.ints anchors_1)] [(42,.pairs r.1.bars)] (.tup [.agg [.int r.1.n,.row 0 0 r.1.bars.length],.bool r.2]):=by
 unfold De at h;refine Aj (TT:=TT) tt Tryz.func16 O O Tryz.ntmps16 (congrArg Array.toList Tryz.results16) O O fun w0=>(Ag (Ab (Hz O O O O O O O O O (Bi tt O O O O O O O O O (Aa O (Af (Ag (Ab (Aa O ?_)))))))));obtain ⟨v1,hc1,h⟩:=Ae h;refine Ba (Hv N g_0 v1 hc1) O O O O O O O O ⟨⟨O,O,Y⟩,Y⟩ (Bi tt O O O O O O O O O (Ao tt O O O O O O O O O O O ⟨Y,Y,Y⟩ (Af (Ag (Ag (Ab (Aa O (Aa O ?_))))))));obtain ⟨v2,hc2,h⟩:=Ae h;refine Ba (Mw N g_0 anchors_1 v2 hc2) O O O O O O O O ⟨⟨O,O,Y⟩,O,Y⟩ (Aa O (Af (Ar O (fun hb3=>?_) (fun hb3=>?_))))
 ·replace h:=Ak hb3 h;refine Ag (Ab (Fz (Ai O) (Df Cv O O) O O (Ao tt O O O O O O O O O O O ⟨Y,Y,Y⟩ (Aa O (Af (Kr 4 1 9001 42 (.pairs []) O O O O O (Bg ?_)))))));show ∃ _,_;cases h;exact ⟨[9001],_,O,⟨O,Y⟩,O,.eq O,O⟩
 replace h:=Al hb3 h;refine Aq (Ag (Ag (Ab (Aa rfl (Af (Bz (F:=fun k=>Dv N anchors_1 k) h (α:=(List (Int×Int))×Int) (J:=fun | (l69,c70)=>(⟨[(4,.ptr 4 0),(6,.ptr 6 0)],[(1100,some (42,.pairs l69))],[(4,some [.int (0:Int),.nil]),(6,some [.int c70,.row 1100 0 l69.length])]⟩:PS)) ?_ ?_))))))
 ·rintro ⟨l69,c70⟩ h;show VC _ _ _ (⟨[(4,.ptr 4 0),(6,.ptr 6 0)],[(1100,some (42,.pairs l69))],[(4,some [.int (0:Int),.nil]),(6,some [.int c70,.row 1100 0 l69.length])]⟩:PS);refine Ag (Ag (Ab (Aa O ?_)));obtain ⟨v71,hc4,h⟩:=Ae h;refine Ba (Ez N (⟨c70,l69⟩:Grf) v71 hc4) O O O O O O O O ⟨⟨O,(.inl ⟨O,O⟩),Y⟩,Y⟩ (Aa O (Af (Ar O (fun hb5=>?_) (fun hb5=>?_))))
  ·replace h:=Ak hb5 h;refine Ag (Ab (Fz (Ai O) (Df Cv O O) O O (Ao tt O O O O O O O O O O O ⟨Y,Y,Y⟩ (Aa O (Af (Kr 4 1 9001 42 (.pairs []) O O O O O (Bg ?_)))))));show ∃ _,_;cases h;exact ⟨[9001],_,O,⟨O,Y⟩,O,.eq O,O⟩
  replace h:=Al hb5 h;refine Aq (Ag (Ab (Aa O (Ao tt O O O O O O O O O O O ⟨Y,Y,Y⟩ (Aa O (Af (Bg ?_)))))));show ∃ _,_;cases h;exact ⟨[1100],_,O,⟨O,Y⟩,O,.eq O,O⟩
 intro k h;refine Ap (Bh (α:=(List (Int×Int))×Int×Int) (fun | (l94,i95,c96)=>(⟨[(1,.ro false (.ints anchors_1)),(4,.ptr 4 0),(6,.ptr 6 0),(7,.int i95)],[(1100,some (42,.pairs l94))],[(4,some [.int (0:Int),.nil]),(6,some [.int c96,.row 1100 0 l94.length])]⟩:PS)) (Dv N anchors_1 k) h (En.of ⟨rfl,rfl,rfl,rfl,Y⟩ ⟨rfl,Y⟩ ⟨rfl,rfl,Y⟩) (fun _=>rfl) ?_);rintro n ⟨l94,i95,c96⟩ h;rw [Dv] at h;show VC _ _ _ (⟨[(1,.ro false (.ints anchors_1)),(4,.ptr 4 0),(6,.ptr 6 0),(7,.int i95)],[(1100,some (42,.pairs l94))],[(4,some [.int (0:Int),.nil]),(6,some [.int c96,.row 1100 0 l94.length])]⟩:PS);refine Ag (Ag (Ab ?_));iterate 4 refine Aa O ?_
 refine Af (Ar O (fun hb6=>?_) (fun hb6=>?_))
 ·replace h:=Ak hb6 h;refine Aq (Ag (Ap (Ag (Ab (Aa O ?_)))));obtain ⟨hg7,h⟩:=Ac h;refine Ad tt rfl hg7 (Aa rfl (Af (Bz (F:=fun k=>Dw N anchors_1 i95 k) h (α:=(List (Int×Int))×Int) (J:=fun | (l127,c128)=>(⟨[(1,.ro false (.ints anchors_1)),(4,.ptr 4 0),(6,.ptr 6 0),(7,.int i95)],[(1100,some (42,.pairs l127))],[(4,some [.int (0:Int),.nil]),(6,some [.int c128,.row 1100 0 l127.length])]⟩:PS)) ?_ ?_)))
  ·rintro ⟨l127,c128⟩ h;show VC _ _ _ (⟨[(1,.ro false (.ints anchors_1)),(4,.ptr 4 0),(6,.ptr 6 0),(7,.int i95)],[(1100,some (42,.pairs l127))],[(4,some [.int (0:Int),.nil]),(6,some [.int c128,.row 1100 0 l127.length])]⟩:PS);refine Ab (Aa O (Ad tt O hg7 (Aa O (Af ?_))));show ∃ _,_;exact ⟨(l127,(i95+(1:Int)),c128),(En.of ⟨O,O,O,O,Y⟩ ⟨O,Y⟩ ⟨O,O,Y⟩),h⟩
  intro k h;refine Ap (Bh (α:=(List (Int×Int))×Int×Int) (fun | (l132,k133,c134)=>(⟨[(1,.ro false (.ints anchors_1)),(4,.ptr 4 0),(6,.ptr 6 0),(7,.int i95),(8,.int k133)],[(1100,some (42,.pairs l132))],[(4,some [.int (0:Int),.nil]),(6,some [.int c134,.row 1100 0 l132.length])]⟩:PS)) (Dw N anchors_1 i95 k) h (En.of ⟨rfl,rfl,rfl,rfl,rfl,Y⟩ ⟨rfl,Y⟩ ⟨rfl,rfl,Y⟩) (fun _=>rfl) ?_);rintro n ⟨l132,k133,c134⟩ h;rw [Dw] at h;show VC _ _ _ (⟨[(1,.ro false (.ints anchors_1)),(4,.ptr 4 0),(6,.ptr 6 0),(7,.int i95),(8,.int k133)],[(1100,some (42,.pairs l132))],[(4,some [.int (0:Int),.nil]),(6,some [.int c134,.row 1100 0 l132.length])]⟩:PS);refine Ag (Ag (Ab ?_));iterate 4 refine Aa O ?_
  refine Af (Ar O (fun hb8=>?_) (fun hb8=>?_))
  ·replace h:=Ak hb8 h;refine Aq (Ag (Ap (Ag (Cu (by kernel_rfl) (by kernel_rfl) ?_))));iterate 3 refine Bq tt O (Ai O) O O O Y ?_
   obtain ⟨hg9,h⟩:=Ac h;refine Bq tt O (Ai O) O O O hg9 ?_;iterate 3 refine Bq tt O (Ai O) O O O Y ?_
   obtain ⟨hg10,h⟩:=Ac h;refine Bq tt O (Ai O) O O O hg10 (Bq tt O (Ai O) O O O Y ?_);obtain ⟨v137,hc11,h⟩:=Ae h;refine Xh (Tu N (⟨c134,l132⟩:Grf) (anchors_1.getD ((i95).toNat) 0) (anchors_1.getD ((k133).toNat) 0) v137 hc11) O (Ai O) O O O O O O ⟨⟨O,(.inl ⟨O,O⟩),Y⟩,O,O,Y⟩ (Bq tt O (Ai O) O O O Y (Ms (Ar O (fun hb12=>?_) (fun hb12=>?_))))
   ·replace h:=Ak hb12 h;refine Dn 10 [] [0,0,0,6,14,0,0,96,224,510,1023,2047] (by kernel_rfl) (by kernel_rfl) (by kernel_rfl) (by kernel_rfl) (by kernel_rfl) O (by rfl) ?_;iterate 3 refine Fy tt O (Ai O) O O O O O Y ?_
    refine Fy tt O (Ai O) O O O O O hg9 ?_;iterate 3 refine Fy tt O (Ai O) O O O O O Y ?_
    refine Fy tt O (Ai O) O O O O O hg10 (Fy tt O (Ai O) O O O O O Y (nPure (Ai O) (Df Bx O O) O O O O (Tb ?_)));show VO _ _ _ _ _;obtain ⟨v138,hc13,h⟩:=Ae h;refine Ba (Ke N (⟨c134,l132⟩:Grf) ((anchors_1.getD ((i95).toNat) 0),(anchors_1.getD ((k133).toNat) 0)) v138 hc13) O O O O O O O O ⟨⟨O,(.inl ⟨O,O⟩),Y⟩,⟨O,O,Y⟩,Y⟩ (Ao tt O O O O O O O O O O O ⟨Y,Y,Y⟩ (Af (Ab (Aa O ?_))));obtain ⟨hg14,h⟩:=Ac h;refine Ad tt O hg14 (Aa O (Af ?_));show ∃ _,_;exact ⟨(v138.bars,(k133+(1:Int)),v138.n),(En.ren [1100] [1510] O ⟨.inr O,.inr O,.inr O,.inr O,.inr O,Y⟩ ⟨.inr O,Y⟩ ⟨.inr ⟨_,_,O,O,⟨.inr O,.inr O,Y⟩⟩,.inr ⟨_,_,O,O,⟨.inr O,.inr O,Y⟩⟩,Y⟩),h⟩
   replace h:=Al hb12 h;refine Aq (Ab (Aa O ?_));obtain ⟨hg15,h⟩:=Ac h;refine Ad tt O hg15 (Aa O (Af ?_));show ∃ _,_;exact ⟨(l132,(k133+(1:Int)),c134),(En.of ⟨O,O,O,O,O,Y⟩ ⟨O,Y⟩ ⟨O,O,Y⟩),h⟩
  replace h:=Al hb8 h;refine Bp ?_;show ∃ _,_;exact ⟨(l132,c134),(En.of ⟨O,O,O,O,Y⟩ ⟨O,Y⟩ ⟨O,O,Y⟩),h⟩
 replace h:=Al hb6 h;refine Bp ?_;show ∃ _,_;exact ⟨(l94,c96),(En.of ⟨O,O,Y⟩ ⟨O,Y⟩ ⟨O,O,Y⟩),h⟩
end
section
variable {n:Nat} {N:Nat}
def Xv (a b:Int) (e:Int×Int):Bool:=(e.1==a&&e.2==b) || (e.1==b&&e.2==a)
def So (l:List (Int×Int)) (a b:Int):Int:=(l.countP (Xv a b):Int)
theorem cntB_take {l:List (Int×Int)} {a b:Int} {i:Nat} (hi:i<l.length):So (l.take (i+1)) a b=So (l.take i) a b+(if Xv a b (l.getD i (0,0)) then 1 else 0):=by
 have e:l.take (i+1)=l.take i++[l.getD i (0,0)]:=by
  rw [List.take_add_one,List.getElem?_eq_getElem hi,List.getD_eq_getElem?_getD,List.getElem?_eq_getElem hi]; rfl
 rw [e]; unfold So;rw [List.countP_append,List.countP_singleton];split <;> simp
theorem Xm {l:List (Int×Int)} {a b:Int}:(So l a b==0)=l.all fun e=>!Xv a b e:=by
 rw [Bool.eq_iff_iff,beq_iff_eq,List.all_eq_true];unfold So;constructor
 ·intro h e he;have h2:l.countP (Xv a b)=0:=by omega
  rw [List.countP_eq_zero] at h2;have:=h2 e he;simpa using this
 intro h;have h2:l.countP (Xv a b)=0:=List.countP_eq_zero.2 fun e he=>by have:=h e he; simpa using this
 omega
theorem countS_s (hN:4000000≤N) {g:Grf} (hb:g.bars.length≤3000000) (a b:Int):Mo N g a b=some (So g.bars a b):=by
 unfold Mo;refine Eq.trans ?_ ((fold (N:=N) (len:=g.bars.length) (σ:=Int) (st:=fun i=>So (g.bars.take i) a b) (F:=fun m s=>Ch N g a b (fun n3=>some n3) m (s.1,s.2)) (fin:=some (So g.bars a b)) (by omega) (fun m i hi=>?_) fun m=>?_))
 ·simp [So]
 ·show Ch N g a b _ (m+1) (So (g.bars.take i) a b,(i:Int))=Ch N g a b _ m (So (g.bars.take (i+1)) a b,((i+1:Nat):Int));have hc:=cntB_take (a:=a) (b:=b) hi
  have hn:0≤So (g.bars.take i) a b∧So (g.bars.take i) a b≤3000000:=by
   unfold So;have h1:=List.countP_le_length (p:=Xv a b) (l:=g.bars.take i);have h2:(g.bars.take i).length≤g.bars.length:=by rw [List.length_take]; omega
   omega
  rw [Ch,Bb (by omega),Am (by omega),show ((i:Int)).toNat=i from by omega,hc];generalize g.bars.getD i (0,0)=e;generalize So (g.bars.take i) a b=c at hn;have g1:∀ x:Option Int,grd (Bc (c+1)) x=x:=fun x=>Bf (by omega) (by omega) x;have g2:∀ x:Option Int,grd (Bc ((i:Int)+1)) x=x:=fun x=>Bf (by omega) (by omega) x;have e9:(((i+1:Nat)):Int)=(i:Int)+1:=by omega
  simp only [g1,g2,Xv,e9]
  rcases Bool.eq_false_or_eq_true (e.1==a) with h1 | h1 <;> rcases Bool.eq_false_or_eq_true (e.2==b) with h2 | h2 <;> rcases Bool.eq_false_or_eq_true (e.1==b) with h3 | h3 <;> rcases Bool.eq_false_or_eq_true (e.2==a) with h4 | h4 <;>
   simp only [h1,h2,h3,h4,cnd_true,cnd_false,Bool.and_true,Bool.and_false,Bool.true_and,Bool.false_and,Bool.or_true,Bool.or_false,Bool.true_or,Bool.false_or,Bool.and_self,Bool.or_self,if_true,Bool.false_eq_true,if_false,Int.add_zero]
 show Ch N g a b _ (m+1) (So (g.bars.take g.bars.length) a b,(g.bars.length:Int))=_;rw [Ch,Ay (by omega),List.take_length]
theorem countI_s (hN:4000000≤N) {g:Grf} (hb:g.bars.length≤3000000) (a b:Int):Pv N g a b=some (So g.bars a b):=by
 unfold Pv;refine Eq.trans ?_ ((fold (N:=N) (len:=g.bars.length) (σ:=Int) (st:=fun i=>So (g.bars.take i) a b) (F:=fun m s=>Cj N g a b (fun n3=>some n3) m (s.1,s.2)) (fin:=some (So g.bars a b)) (by omega) (fun m i hi=>?_) fun m=>?_))
 ·simp [So]
 ·show Cj N g a b _ (m+1) (So (g.bars.take i) a b,(i:Int))=Cj N g a b _ m (So (g.bars.take (i+1)) a b,((i+1:Nat):Int));have hc:=cntB_take (a:=a) (b:=b) hi
  have hn:0≤So (g.bars.take i) a b∧So (g.bars.take i) a b≤3000000:=by
   unfold So;have h1:=List.countP_le_length (p:=Xv a b) (l:=g.bars.take i);have h2:(g.bars.take i).length≤g.bars.length:=by rw [List.length_take]; omega
   omega
  rw [Cj,Bb (by omega),Am (by omega),show ((i:Int)).toNat=i from by omega,hc];generalize g.bars.getD i (0,0)=e;generalize So (g.bars.take i) a b=c at hn;have g1:∀ x:Option Int,grd (Bc (c+1)) x=x:=fun x=>Bf (by omega) (by omega) x;have g2:∀ x:Option Int,grd (Bc ((i:Int)+1)) x=x:=fun x=>Bf (by omega) (by omega) x;have e9:(((i+1:Nat)):Int)=(i:Int)+1:=by omega
  simp only [g1,g2,Xv,e9]
  rcases Bool.eq_false_or_eq_true (e.1==a) with h1 | h1 <;> rcases Bool.eq_false_or_eq_true (e.2==b) with h2 | h2 <;> rcases Bool.eq_false_or_eq_true (e.1==b) with h3 | h3 <;> rcases Bool.eq_false_or_eq_true (e.2==a) with h4 | h4 <;>
   simp only [h1,h2,h3,h4,cnd_true,cnd_false,Bool.and_true,Bool.and_false,Bool.true_and,Bool.false_and,Bool.or_true,Bool.or_false,Bool.true_or,Bool.false_or,Bool.and_self,Bool.or_self,if_true,Bool.false_eq_true,if_false,Int.add_zero]
 show Cj N g a b _ (m+1) (So (g.bars.take g.bars.length) a b,(g.bars.length:Int))=_;rw [Cj,Ay (by omega),List.take_length]
theorem putP_s (hN:4000000≤N) {g:Grf} (hl:g.bars.length≤1000) (x:Int×Int) (hs:Srt g.bars):∃ L,Fv N g x=some ⟨g.n,L⟩∧Srt L∧L.Perm (x::g.bars):=by
 have keyT:∀ {kk:(List (Int×Int)×Bool)→Option Grf} (fuel i:Nat) (l:List (Int×Int)),i≤g.bars.length→g.bars.length<fuel+i→l.length≤i+1 →
   Do N g x kk fuel (l,true,(i:Int))=kk (l++g.bars.drop i,true):=by
  intro kk fuel
  induction fuel with
  | zero=>intro i l h1 h2; omega
  | succ fuel ih=>
   intro i l h1 h2 h3;rw [Do];by_cases hi:i<g.bars.length
   ·have e:g.bars.drop i=g.bars.getD i (0,0)::g.bars.drop (i+1):=by
     rw [List.drop_eq_getElem_cons hi];simp [List.getD_eq_getElem?_getD,List.getElem?_eq_getElem hi]
    have:=ih (i+1) (l++[g.bars.getD i (0,0)]) (by omega) (by omega) (by simp; omega);rw [e];simp (disch:=omega) only [pst,Bool.not_true,Ah];refine this.trans ?_;simp
   have e:i=g.bars.length:=by omega
   subst e;simp (disch:=omega) only [pst];simp
 have keyF:∀ {kk:(List (Int×Int)×Bool)→Option Grf} (fuel i:Nat),i≤g.bars.length→g.bars.length<fuel+i→(∀ e∈g.bars.take i,Ee e x=true) →
   (∃ A B,g.bars=A++B∧(∀ e∈A,Ee e x=true)∧(∀ b l,B=b::l→Ee b x=false)∧Do N g x kk fuel (g.bars.take i,false,(i:Int))=kk (A++x::B,true)) ∨
   ((∀ e∈g.bars,Ee e x=true)∧Do N g x kk fuel (g.bars.take i,false,(i:Int))=kk (g.bars,false)):=by
  intro kk fuel
  induction fuel with
  | zero=>intro i h1 h2; omega
  | succ fuel ih=>
   intro i h1 h2 h3;by_cases hi:i<g.bars.length
   ·have hd:g.bars.getD i (0,0)=g.bars[i]:=by simp [List.getD_eq_getElem?_getD,List.getElem?_eq_getElem hi]
    have htl:(g.bars.take i).length=i:=by simp; omega
    have etk:g.bars.take i++[g.bars.getD i (0,0)]=g.bars.take (i+1):=by
     rw [List.take_add_one,List.getElem?_eq_getElem hi,hd]; rfl
    cases hb:Ee (g.bars.getD i (0,0)) x with
    | false=>
     left;refine ⟨g.bars.take i,g.bars.drop i,(List.take_append_drop i g.bars).symm,h3,fun b l e=>?_,?_⟩
     ·rw [List.drop_eq_getElem_cons hi] at e;cases e;rw [←hd]; exact hb
     rw [Do];have:=keyT (kk:=kk) fuel (i+1) (g.bars.take i++[x]++[g.bars.getD i (0,0)]) (by omega) (by omega) (by simp; omega);simp (disch:=omega) only [pst,Bool.not_false,Rm,hb,List.length_append,Ah,htl];refine this.trans ?_;congr 2;have:g.bars.drop i=g.bars.getD i (0,0)::g.bars.drop (i+1):=by rw [List.drop_eq_getElem_cons hi,hd]
     rw [this]; simp
    | true=>
     have step:Do N g x kk (fuel+1) (g.bars.take i,false,(i:Int))=Do N g x kk fuel (g.bars.take (i+1),false,((i+1:Nat):Int)):=by
      rw [Do];simp (disch:=omega) only [pst,Bool.not_false,Bool.not_true,Rm,hb,Ah,htl];rw [show ((g.bars.getD i (0,0)).1,(g.bars.getD i (0,0)).2)=g.bars.getD i (0,0) from rfl,etk]
     rw [step];refine ih (i+1) (by omega) (by omega) fun e he=>?_;rw [←etk] at he;rcases List.mem_append.1 he with he | he
     ·exact h3 e he
     rw [List.mem_singleton] at he; subst he; exact hb
   have e:i=g.bars.length:=by omega
   subst e;right;rw [List.take_length] at h3 ⊢;refine ⟨h3,?_⟩;rw [Do];simp (disch:=omega) only [pst]
 have e0:Fv N g x=Do N g x (fun (x_:(List (Int×Int))×Bool)=>
   match x_ with
   | (l10,placed11)=>
    cnd (!placed11) (
     grd (l10.length+1≤4294967296) <|
     some (⟨g.n,(l10++([(x.1,x.2)]:List (Int×Int)))⟩:Grf)) (
     some (⟨g.n,l10⟩:Grf))) N (g.bars.take 0,false,((0:Nat):Int)):=rfl
 rcases keyF (kk:=fun (x_:(List (Int×Int))×Bool)=>
   match x_ with
   | (l10,placed11)=>
    cnd (!placed11) (
     grd (l10.length+1≤4294967296) <|
     some (⟨g.n,(l10++([(x.1,x.2)]:List (Int×Int)))⟩:Grf)) (
     some (⟨g.n,l10⟩:Grf))) N 0 (by omega) (by omega) (fun e he=>by simp at he) with ⟨A,B,h1,h2,h3,h4⟩ | ⟨h1,h2⟩
 ·refine ⟨A++x::B,e0.trans (h4.trans O),srt_put (by rw [←h1]; exact hs) h2 h3,?_⟩;rw [h1]; exact List.perm_middle
 refine ⟨g.bars++[x],e0.trans (h2.trans ?_),?_,List.perm_append_singleton x g.bars⟩
 ·simp (disch:=omega) only [pst,Bool.not_false]
 have:=srt_put (A:=g.bars) (B:=[]) (x:=x) (by simpa using hs) h1 (fun b l h=>by cases h);exact this
theorem srtB_srt (l:List (Int×Int)):Srt (Ack l):=by
 have h:=List.pairwise_mergeSort (le:=fun x y:Int×Int=>!(ltOf cmpB) y x) (fun a b c h1 h2=>by rw [ltB] at *; simp at *; omega) (fun a b=>by rw [ltB,ltB]; simp; omega) l;refine h.imp fun {a b} h=>?_;rw [ltB] at h;simp only [Ee,Bool.or_eq_true,Bool.and_eq_true,decide_eq_true_eq,beq_iff_eq];simp at h;omega
theorem srt_uniq {l l':List (Int×Int)} (h:Srt l) (h':Srt l') (hp:l.Perm l'):l=l':=
 List.Perm.eq_of_pairwise (le:=fun x y=>Ee x y=true) (fun a b _ _ h1 h2=>by
  simp only [Ee,Bool.or_eq_true,Bool.and_eq_true,decide_eq_true_eq,beq_iff_eq] at h1 h2
  exact Prod.ext (by omega) (by omega)) h h' hp
theorem put_srt (hN:4000000≤N) {c:Int} {L:List (Int×Int)} (hl:L.length≤1000) (hs:Srt L) (x:Int×Int):Fv N ⟨c,L⟩ x=some ⟨c,Ack (L++[x])⟩:=by
 obtain ⟨L',h1,h2,h3⟩:=putP_s hN (g:=⟨c,L⟩) hl x hs;rw [h1,srt_uniq h2 (srtB_srt (L++[x])) (h3.trans ?_)];exact ((List.perm_append_singleton x L).symm.trans (List.mergeSort_perm _ _).symm)
theorem Ac9 (hN:4000000≤N) {c:Int} {L:List (Int×Int)} (hl:L.length≤1000) (x:Int×Int):Md N ⟨c,L⟩ [x]=some ⟨c,Ack (L++[x])⟩:=by
 unfold Md Jl;have hl2:(L++[x]).length≤1001:=by simp; omega
 rw [Am (by show L.length≤_; omega),Option.bind_some];show grd ((([]:List (Int×Int))++L).length+[x].length≤4294967296) ((Mr N (([]++L)++[x])).bind _)=_;rw [List.nil_append,Am (by simp; omega)];unfold Mr;rw [Am (by omega),Option.bind_some];show grd (([]++L++[x]).length=(Ack (L++[x])).length) _=_;rw [Am (by rw [Aaa,List.nil_append])]
theorem Aa6 {g:Grf} (h:Bd g=true):Srt g.bars:=by
 have hp:=(As h).2.2
 have ad:∀ i,i+1<g.bars.length→Ee (g.bars.getD i (0,0)) (g.bars.getD (i+1) (0,0))=true:=by
  intro i hi;have:=hp (i+1) hi;simp only [Xo,Bool.and_eq_true,Bool.or_eq_true,decide_eq_true_eq,Nat.add_sub_cancel] at this;rcases this.2 with h | h
  ·omega
  exact h
 have key:∀ d i,i+d+1<g.bars.length→Ee (g.bars.getD i (0,0)) (g.bars.getD (i+d+1) (0,0))=true:=by
  intro d
  induction d with
  | zero=>intro i hi; exact ad i hi
  | succ d ih=>intro i hi; exact Abm (ih i (by omega)) (ad (i+d+1) (by omega))
 unfold Srt;rw [List.pairwise_iff_getElem];intro i j hi hj hij;have:=key (j-i-1) i (by omega);rw [show i+(j-i-1)+1=j from by omega] at this;simpa [List.getD_eq_getElem?_getD,hi,hj] using this
theorem Aa5 {n:Int} {A:List Int} (h:asc n A=true):∀ p q:Nat,p<q→q<A.length→A.getD p 0<A.getD q 0:=by
 have h1:∀ i,i<A.length→Ta n A i=true:=by
  simpa [asc,List.all_eq_true] using h
 have h2:∀ d p,p+d+1<A.length→A.getD p 0<A.getD (p+d+1) 0:=by
  intro d
  induction d with
  | zero=>
   intro p hp;have:=h1 (p+1) hp;simp only [Ta,Bool.and_eq_true,Bool.or_eq_true,decide_eq_true_eq,Nat.add_sub_cancel] at this;show A.getD p 0<A.getD (p+1) 0;rcases this.2 with h | h
   ·omega
   exact h
  | succ d ih=>
   intro p hp;have a1:=ih p (by omega);have:=h1 (p+d+1+1) (by omega);simp only [Ta,Bool.and_eq_true,Bool.or_eq_true,decide_eq_true_eq,Nat.add_sub_cancel] at this;show A.getD p 0<A.getD (p+d+1+1) 0;rcases this.2 with h | h
   ·omega
   omega
 intro p q hpq hq;have:=h2 (q-p-1) p (by omega)
 rwa [show p+(q-p-1)+1=q from by omega] at this
theorem asc_len8 {n:Int} {A:List Int} (h:asc n A=true) (hn:n≤8):A.length≤8:=by
 have h1:∀ i,i<A.length→Ta n A i=true:=by
  simpa [asc,List.all_eq_true] using h
 have h2:∀ i,i<A.length→(i:Int)≤A.getD i 0:=by
  intro i
  induction i with
  | zero=>
   intro hi;have:=h1 0 hi;simp only [Ta,inB,Bool.and_eq_true,decide_eq_true_eq] at this;omega
  | succ i ih=>
   intro hi;have:=ih (by omega);have:=Aa5 h i (i+1) (by omega) hi;omega
 by_cases h0:A.length=0
 ·omega
 have a:=h2 (A.length-1) (by omega);have b:=h1 (A.length-1) (by omega);simp only [Ta,inB,Bool.and_eq_true,decide_eq_true_eq] at b;omega
structure AInv (g:Grf) (A:List Int) (i k:Nat) (L:List (Int×Int)):Prop where
 srt:Srt L
 len:L.length≤24+10*i+k
 sub:∀ e∈g.bars,e∈L
 orig:∀ e∈L,e∈g.bars∨∃ p q:Nat,p<q∧q<A.length∧(p<i∨(p=i∧q<k))∧e=(A.getD p 0,A.getD q 0)
 nd:(∀ p q:Nat,p<q→q<A.length→A.getD p 0<A.getD q 0)→g.bars.Nodup→L.Nodup
 has:(∀ p q:Nat,p<q→q<A.length→A.getD p 0<A.getD q 0)→(∀ e∈g.bars,e.1<e.2)→∀ p q:Nat,p<q→q<A.length→(p<i∨(p=i∧q<k))→(A.getD p 0,A.getD q 0)∈L
theorem AInv.cnt {g:Grf} {A:List Int} {i k:Nat} {L:List (Int×Int)} (h:AInv g A i k L) (ha:∀ p q:Nat,p<q→q<A.length→A.getD p 0<A.getD q 0) (hik:i<k) (hk:k<A.length) :
  (So L (A.getD i 0) (A.getD k 0)==0)=(So g.bars (A.getD i 0) (A.getD k 0)==0):=by
 rw [Xm,Xm,Bool.eq_iff_iff,List.all_eq_true,List.all_eq_true];constructor
 ·intro h2 e he; exact h2 e (h.sub e he)
 intro h2 e he;rcases h.orig e he with he | ⟨p,q,h3,h4,h5,rfl⟩
 ·exact h2 e he
 have a1:=ha p q h3 h4;have a2:=ha i k hik hk;simp only [Xv,Bool.not_eq_true',Bool.or_eq_false_iff,Bool.and_eq_false_iff,beq_eq_false_iff_ne];rcases h5 with h5 | ⟨rfl,h5⟩
 ·have a3:=ha p i h5 (by omega);exact ⟨.inl (by omega),.inl (by omega)⟩
 have a3:=ha q k h5 hk;exact ⟨.inr (by omega),.inl (by omega)⟩
def aStep (g:Grf) (A:List Int) (i k:Nat) (L:List (Int×Int)):List (Int×Int):=cnd (So g.bars (A.getD i 0) (A.getD k 0)==0) (Ack (L++[(A.getD i 0,A.getD k 0)])) L
theorem AInv.step {g:Grf} {A:List Int} {i k:Nat} {L:List (Int×Int)} (h:AInv g A i k L) (hik:i<k) (hk:k<A.length):AInv g A i (k+1) (aStep g A i k L):=by
 unfold aStep
 cases hz:(So g.bars (A.getD i 0) (A.getD k 0)==0) with
 | true=>
  rw [cnd_true];have hm:∀ e,e∈Ack (L++[(A.getD i 0,A.getD k 0)])↔e∈L∨e=(A.getD i 0,A.getD k 0):=fun e=>by simp [Ack]
  refine ⟨srtB_srt _,?_,fun e he=>(hm e).2 (.inl (h.sub e he)),fun e he=>?_,fun ha hd=>?_,fun ha hl p q h3 h4 h5=>?_⟩
  ·rw [Aaa]; have:=h.len; simp; omega
  ·rcases (hm e).1 he with he | rfl
   ·rcases h.orig e he with he | ⟨p,q,h3,h4,h5,rfl⟩
    ·exact .inl he
    exact .inr ⟨p,q,h3,h4,by omega,O⟩
   exact .inr ⟨i,k,hik,hk,by omega,O⟩
  ·have hc:=h.cnt ha hik hk;rw [hz,Xm,List.all_eq_true] at hc
   have hn:(A.getD i 0,A.getD k 0)∉L:=fun hh=>by
    have:=hc _ hh;simp [Xv] at this
   have hq:(Ack (L++[(A.getD i 0,A.getD k 0)])).Perm (L++[(A.getD i 0,A.getD k 0)]):=by unfold Ack; exact List.mergeSort_perm _ _
   rw [hq.nodup_iff,List.nodup_append];exact ⟨h.nd ha hd,by simp,fun a h1 b h2=>by simp at h2; subst h2; exact fun e=>hn (e ▸ h1)⟩
  rw [hm];by_cases e:p=i∧q=k
  ·right; rw [e.1,e.2]
  left; exact h.has ha hl p q h3 h4 (by omega)
 | false=>
  rw [cnd_false];refine ⟨h.srt,by have:=h.len; omega,h.sub,fun e he=>?_,h.nd,fun ha hl p q h3 h4 h5=>?_⟩
  ·rcases h.orig e he with he | ⟨p,q,h3,h4,h5,rfl⟩
   ·exact .inl he
   exact .inr ⟨p,q,h3,h4,by omega,O⟩
  by_cases e:p=i∧q=k
  ·rw [e.1,e.2];rw [Xm,List.all_eq_false] at hz;obtain ⟨b,hb,hs⟩:=hz;have h1:=hl b hb;have h2:=ha i k hik hk
   have h6:Xv (A.getD i 0) (A.getD k 0) b=true:=by
    cases hsb:Xv (A.getD i 0) (A.getD k 0) b with
    | true=>rfl
    | false=>rw [hsb] at hs; simp at hs
   simp only [Xv,Bool.or_eq_true,Bool.and_eq_true,beq_iff_eq] at h6
   have h7:b=(A.getD i 0,A.getD k 0):=by
    rcases h6 with ⟨a,c⟩ | ⟨a,c⟩
    ·exact Prod.ext a c
    omega
   rw [←h7]; exact h.sub b hb
  exact h.has ha hl p q h3 h4 (by omega)
theorem AInv.next {g:Grf} {A:List Int} {i:Nat} {L:List (Int×Int)} (h8:A.length≤8) (h:AInv g A i A.length L):AInv g A (i+1) (i+2) L:=
 ⟨h.srt,by have:=h.len; omega,h.sub,fun e he=>by
  rcases h.orig e he with he | ⟨p,q,h3,h4,h5,rfl⟩
  ·exact .inl he
  exact .inr ⟨p,q,h3,h4,by omega,O⟩,h.nd,fun ha hl p q h3 h4 h5=>h.has ha hl p q h3 h4 (by omega)⟩
theorem anch_l2 (hN:4000000≤N) {g:Grf} (hb:g.bars.length≤24) {A:List Int} (h8:A.length≤8) (ha:∀ p q:Nat,p<q→q<A.length→A.getD p 0<A.getD q 0) {i:Nat} (hi:i<A.length) {kS kI:List (Int×Int)×Int→Option (Grf×Bool)} :
  ∀ (fuel x:Nat) (L:List (Int×Int)),i+1+x≤A.length→A.length<fuel+(i+1+x)→AInv g A i (i+1+x) L →
  ∃ L',AInv g A i A.length L'∧Dw N A (i:Int) kS fuel (L,((i+1+x:Nat):Int),g.n)=kS (L',g.n)∧Du N g A (i:Int) kI fuel (L,(x:Int),g.n)=kI (L',g.n):=by
 intro fuel
 induction fuel with
 | zero=>intro x L h1 h2; omega
 | succ fuel ih=>
  intro x L h1 h2 hI;have et:(A.take A.length).drop (((i:Int)+1).toNat)=A.drop (i+1):=by rw [List.take_length,show ((i:Int)+1).toNat=i+1 from by omega]
  have el:(A.drop (i+1)).length=A.length-(i+1):=List.length_drop;have eg:(A.drop (i+1)).getD x 0=A.getD (i+1+x) 0:=by rw [List.getD_eq_getElem?_getD,List.getElem?_drop,←List.getD_eq_getElem?_getD]
  have ei:((i:Int)).toNat=i:=by omega
  have ex:((x:Int)).toNat=x:=by omega
  have ek:(((i+1+x:Nat):Int)).toNat=i+1+x:=by omega
  have hlL:=hI.len;rw [Dw,Du,et,el,ei,ex,ek,eg];by_cases hk:i+1+x<A.length
  ·have hst:=hI.step (by omega) hk;have hc:=hI.cnt ha (by omega) hk;have hab:=ha i (i+1+x) (by omega) hk;rw [Bb (by omega),Bb (by omega),Am (by omega),Am (by omega),Am (p:=0≤(x:Int)∧(x:Int)<((A.length-(i+1):Nat):Int)) (by omega),countS_s hN (g:=⟨g.n,L⟩) (by show L.length≤_; omega),countI_s hN (by omega),Option.bind_some,Option.bind_some];rw [show So (Grf.mk g.n L).bars (A.getD i 0) (A.getD (i+1+x) 0)=So L (A.getD i 0) (A.getD (i+1+x) 0) from rfl,hc]
   have ebar:I_bar N (A.getD i 0) (A.getD (i+1+x) 0)=some (A.getD i 0,A.getD (i+1+x) 0):=by
    unfold I_bar; rw [show min (A.getD i 0) (A.getD (i+1+x) 0)=A.getD i 0 from by omega,show max (A.getD i 0) (A.getD (i+1+x) 0)=A.getD (i+1+x) 0 from by omega]
   rw [ebar,Option.bind_some,put_srt hN (by omega) hI.srt,Ac9 hN (by omega),Option.bind_some,Option.bind_some];obtain ⟨L',g1,g2,g3⟩:=ih (x+1) (aStep g A i (i+1+x) L) (by omega) (by omega) hst;refine ⟨L',g1,?_,?_⟩
   ·rw [←g2];unfold aStep
    cases (So g.bars (A.getD i 0) (A.getD (i+1+x) 0)==0) with
    | true=>rw [cnd_true,cnd_true,Bf (by omega) (by omega)]; rfl
    | false=>rw [cnd_false,cnd_false,Bf (by omega) (by omega)]; rfl
   rw [←g3];unfold aStep
   cases (So g.bars (A.getD i 0) (A.getD (i+1+x) 0)==0) with
   | true=>rw [cnd_true,cnd_true,Bf (by omega) (by omega)]; rfl
   | false=>rw [cnd_false,cnd_false,Bf (by omega) (by omega)]; rfl
  have e:i+1+x=A.length:=by omega
  rw [Ay (by omega),Ay (by omega)];exact ⟨L,by rw [←e]; exact hI,O,O⟩
theorem anch_l1 (hN:4000000≤N) {g:Grf} (hb:g.bars.length≤24) {A:List Int} (h8:A.length≤8) (ha:∀ p q:Nat,p<q→q<A.length→A.getD p 0<A.getD q 0) {kS kI:List (Int×Int)×Int→Option (Grf×Bool)} :
  ∀ (fuel i:Nat) (L:List (Int×Int)),i≤A.length→A.length<fuel+i→AInv g A i (i+1) L →
  ∃ L',L'.length≤1000∧Dv N A kS fuel (L,(i:Int),g.n)=kS (L',g.n)∧Dt N g A kI fuel (L,(i:Int),g.n)=kI (L',g.n)∧AInv g A A.length (A.length+1) L':=by
 intro fuel
 induction fuel with
 | zero=>intro i L h1 h2; omega
 | succ fuel ih=>
  intro i L h1 h2 hI;rw [Dv,Dt];by_cases hi:i<A.length
  ·rw [Bb (by omega),Bb (by omega),Bf (by omega) (by omega),Am (by omega),Bf (by omega) (by omega),Am (by omega)];obtain ⟨L1,g1,g2,g3⟩:=anch_l2 hN hb h8 ha hi (kS:=fun x=>match x with | (l127,c128)=>Dv N A kS fuel (l127,((i:Int)+1),c128)) (kI:=fun x=>match x with | (l160,c161)=>Dt N g A kI fuel (l160,((i:Int)+1),c161)) N 0 L (by omega) (by omega) hI;obtain ⟨L',k1,k2,k3,k4⟩:=ih (i+1) L1 (by omega) (by omega) (g1.next h8);exact ⟨L',k1,g2.trans k2,g3.trans k3,k4⟩
  rw [Ay (by omega),Ay (by omega)];have e:i=A.length:=by omega
  exact ⟨L,by have:=hI.len; omega,O,O,e ▸ hI⟩
theorem anch_x (hN:4000000≤N) {g:Grf} (hb:g.bars.length≤3000000) {A:List Int} (hA:A.length≤3000000):∃ (r:Grf) (b:Bool),r.bars.length≤1000∧De N g A=some (r,b)∧Fj N g A=some (r,b):=by
 unfold De Fj Fm Jl;rw [Am (by omega),Option.bind_some,Wq N hN hb hA,Wz N hN hb hA,Option.bind_some,Option.bind_some]
 cases ho:Fl g A with
 | false=>exact ⟨⟨0,[]⟩,false,by simp,rfl,rfl⟩
 | true=>
  rw [Bool.not_true,cnd_false,cnd_false,Option.bind_some];simp only [Fl,Cc,Bool.and_eq_true] at ho;have hg:=ho.1.1;have hn:=Gn hg;have h8:=asc_len8 ho.2 (by omega);have hs:=Aa6 hg
  obtain ⟨L',k1,k2,k3,_⟩:=anch_l1 hN (by omega) h8 (Aa5 ho.2) (kS:=fun x=>match x with | (l69,c70)=>(Dg N (⟨c70,l69⟩:Grf)).bind fun v71=>cnd (!v71) (some ((⟨(0:Int),([]:List (Int×Int))⟩:Grf),false)) (some ((⟨c70,l69⟩:Grf),true)))
   (kI:=fun x=>match x with | (l87,c88)=>(Cs N (⟨c88,l87⟩:Grf)).bind fun v89=>cnd (!v89) (some ((⟨(0:Int),([]:List (Int×Int))⟩:Grf),false)) (some ((⟨c88,l87⟩:Grf),true))) N 0 g.bars (by omega) (by omega) ⟨hs,by omega,fun e he=>he,fun e he=>.inl he,fun _ h=>h,fun _ _ p q h1 h2 h3=>by omega⟩
  have e:∀ X:Option (Grf×Bool),X=X:=fun _=>rfl;by_cases h2:Bd ⟨g.n,L'⟩=true
  ·refine ⟨⟨g.n,L'⟩,true,k1,k2.trans ?_,k3.trans ?_⟩
   ·show (Dg N ⟨g.n,L'⟩).bind _=_;rw [Ca N hN,h2]; rfl
   show (Cs N ⟨g.n,L'⟩).bind _=_;rw [Ed N hN,h2]; rfl
  have h2:Bd ⟨g.n,L'⟩=false:=by simpa using h2
  refine ⟨⟨0,[]⟩,false,by simp,k2.trans ?_,k3.trans ?_⟩
  ·show (Dg N ⟨g.n,L'⟩).bind _=_;rw [Ca N hN,h2]; rfl
  show (Cs N ⟨g.n,L'⟩).bind _=_;rw [Ed N hN,h2]; rfl
end
section
open Go.RowKit
end
section
open Go.RowKit
end
section
open Go.RowKit
end
section
open Go.RowKit
def Fu (N:Nat) (a_0:Grf) (b_1:Grf) (k:Unit→Option (Bool)):Nat→Int→Option (Bool)
 | 0,_=>none
 | n+1,i3=>
  cnd (decide (i3<(a_0.bars.length:Int))) (
   grd (0≤i3∧i3<(a_0.bars.length:Int)) <|
   grd (0≤i3∧i3<(b_1.bars.length:Int)) <|
   cnd (!(((a_0.bars.getD ((i3).toNat) (0,0)).1==(b_1.bars.getD ((i3).toNat) (0,0)).1)&&((a_0.bars.getD ((i3).toNat) (0,0)).2==(b_1.bars.getD ((i3).toNat) (0,0)).2))) (
    some false) (
    grd (Bc (i3+(1:Int))) <|
    Fu N a_0 b_1 k n (i3+(1:Int)))) (
   k ())
def Lm (N:Nat) (a_0:Grf) (b_1:Grf):Option (Bool):=
 cnd (a_0.n != b_1.n) (
  some false) (
  cnd ((a_0.bars.length:Int) != (b_1.bars.length:Int)) (
   some false) (
   Fu N a_0 b_1 (fun (_ : Unit) =>
      some true) N (0:Int)))
theorem Aaz (N:Nat) (a_0:Grf) (b_1:Grf) (r:Bool) (h:Lm N a_0 b_1=some r):PCall Tryz.prog 17 [gD a_0,gD b_1] [] (.bool r):=by
 unfold Lm at h;refine Aj (TT:=TT) tt Tryz.func17 O O Tryz.ntmps17 (congrArg Array.toList Tryz.results17) O O fun w0=>(Ag (Ab ?_));iterate 2 refine Hz O O O O O O O O O ?_
 refine Aa O (Af (Ag (Ag (Ab ?_))));iterate 6 refine Aa O ?_
 refine Be O O O (fun hb1=>?_) (fun hb1=>?_)
 ·replace h:=Ak hb1 h;iterate 7 refine Hg O O O O hb1 O O ?_
  refine Bm O O O O O hb1 O (Af (Ce O O (Ag (Ab (Aa O (Af (Bg ?_)))))));show ∃ _,_;cases h;exact ⟨[],_,O,Y,O,.eq O,O⟩
 replace h:=Al hb1 h;iterate 7 refine Av tt O O O O O hb1 O O O Y ?_
 refine Aw O O O O O hb1 O (Af (Ar O (fun hb2=>?_) (fun hb2=>?_)))
 ·replace h:=Ak hb2 h;refine Ag (Ab (Aa O (Af (Bg ?_))));show ∃ _,_;cases h;exact ⟨[],_,O,Y,O,.eq O,O⟩
 replace h:=Al hb2 h;refine Aq (Ag (Ag (Ab (Aa O (Af (Bz (F:=fun k=>Fu N a_0 b_1 k) h (α:=Unit) (J:=fun (_:Unit)=>(⟨[],[],[]⟩:PS)) ?_ ?_))))))
 ·rintro ⟨⟩ h;show VC _ _ _ (⟨[],[],[]⟩:PS);refine Ag (Ab (Aa O (Af (Bg ?_))));show ∃ _,_;cases h;exact ⟨[],_,O,Y,O,.eq O,O⟩
 intro k h;refine Ap (Bh (α:=Int) (fun (i3:Int)=>(⟨[(2,.ptr 2 0),(3,.ptr 3 0),(5,.int i3)],[],[(2,some [.int a_0.n,.ro false (.pairs a_0.bars)]),(3,some [.int b_1.n,.ro false (.pairs b_1.bars)])]⟩:PS)) (Fu N a_0 b_1 k) h (En.of ⟨O,O,O,Y⟩ trivial ⟨O,O,Y⟩) (fun _=>O) ?_);rintro n i3 h;rw [Fu] at h;show VC _ _ _ (⟨[(2,.ptr 2 0),(3,.ptr 3 0),(5,.int i3)],[],[(2,some [.int a_0.n,.ro false (.pairs a_0.bars)]),(3,some [.int b_1.n,.ro false (.pairs b_1.bars)])]⟩:PS);refine Ag (Ag (Ab ?_));iterate 5 refine Aa O ?_
 refine Af (Ar O (fun hb3=>?_) (fun hb3=>?_))
 ·replace h:=Ak hb3 h;refine Aq (Ag (Ap (Ag (Cu (by kernel_rfl) (by kernel_rfl) ?_))));iterate 3 refine Bq tt O (Ai O) O O O Y ?_
  obtain ⟨hg4,h⟩:=Ac h;refine Bq tt O (Ai O) O O O hg4 ?_;iterate 4 refine Bq tt O (Ai O) O O O Y ?_
  obtain ⟨hg5,h⟩:=Ac h;refine Bq tt O (Ai O) O O O hg5 (Bq tt O (Ai O) O O O Y (Abp (Ai O) (pNeP Pa O O O) O O (Ms (Ar O (fun hb6=>?_) (fun hb6=>?_)))))
  ·replace h:=Ak hb6 h;refine Ag (Ab (Aa O (Af (Bg ?_))));show ∃ _,_;cases h;exact ⟨[],_,O,Y,O,.eq O,O⟩
  replace h:=Al hb6 h;refine Aq (Ab (Aa O ?_));obtain ⟨hg7,h⟩:=Ac h;refine Ad tt O hg7 (Aa O (Af ?_));show ∃ _,_;exact ⟨(i3+(1:Int)),(En.of ⟨O,O,O,Y⟩ trivial ⟨O,O,Y⟩),h⟩
 replace h:=Al hb3 h;refine Bp ?_;show ∃ _,_;exact ⟨(),(En.of trivial trivial trivial),h⟩
end
section
open Go.RowKit
end
section
open Go.RowKit
end
section
open Go.RowKit
end
section
open Go.RowKit
end
section
open Go.RowKit
end
section
open Go.RowKit Go.Deep
end
section
open Go.RowKit
end
end Go.Proofs.YtaipbhnpandbkaaGreat
