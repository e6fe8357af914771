/- Texts that the proof needs, put together: G67 G105 G106 G108 Qx Qy Pj Pk G88 Qj G68 Ql Qz Ep. -/
import Derived.Test.YtaipbhnpandbkaaGreatBLs3
import Derived.Test.YtaipbhnpandbkaaGreatBLs4
import Derived.Test.YtaipbhnpandbkaaGreatBLs5
import Derived.Test.YtaipbhnpandbkaaGreatBLs6
import Derived.Test.YtaipbhnpandbkaaGreatBLs7
set_option maxRecDepth 20000
set_option maxHeartbeats 1600000
set_option linter.unusedVariables false
set_option linter.unusedSimpArgs false
namespace Go.Proofs.YtaipbhnpandbkaaGreat
section
open Go.RowKit
def Fp (N:Nat) (l_0:List Int) (x_1:Int) (k:((List Int)×Bool)→Option (List Int)):Nat→((List Int)×Bool×Int)→Option (List Int)
 | 0,_=>none
 | n+1,(l19,placed20,i21)=>
  cnd (decide (i21<(l_0.length:Int))) (
   grd (0≤i21∧i21<(l_0.length:Int)) <|
   jn (fun (placed24 : Bool) =>
      cnd (decide ((l_0.getD ((i21).toNat) 0) > x_1)) (
       cnd (!placed24) (
        grd (l19.length+1≤4294967296) <|
        grd ((l19++([x_1]:List Int)).length+1≤4294967296) <|
        grd (Bc (i21+(1:Int))) <|
        Fp N l_0 x_1 k n (((l19++([x_1]:List Int))++([(l_0.getD ((i21).toNat) 0)]:List Int)),true,(i21+(1:Int)))) (
        grd (l19.length+1≤4294967296) <|
        grd (Bc (i21+(1:Int))) <|
        Fp N l_0 x_1 k n ((l19++([(l_0.getD ((i21).toNat) 0)]:List Int)),placed24,(i21+(1:Int))))) (
       grd (l19.length+1≤4294967296) <|
       grd (Bc (i21+(1:Int))) <|
       Fp N l_0 x_1 k n ((l19++([(l_0.getD ((i21).toNat) 0)]:List Int)),placed24,(i21+(1:Int))))) fun k25=>
    cnd ((l_0.getD ((i21).toNat) 0)==x_1) (
     k25 true) (
     k25 placed20)) (
   k (l19,placed20))
def Aae (N:Nat) (l_0:List Int) (x_1:Int):Option (List Int):=
 Fp N l_0 x_1 (fun (x:(List Int)×Bool)=>
   match x with
   | (l12,placed13)=>
    cnd (!placed13) (
     grd (l12.length+1≤4294967296) <|
     some (l12++([x_1]:List Int))) (
     some l12)) N (([]:List Int),false,(0:Int))
theorem S_l5With_w (N:Nat) (l_0:List Int) (x_1:Int) (r:List Int) (h:Aae N l_0 x_1=some r):PCall Tryz.prog 53 [.ro false (.ints l_0),.int x_1] [(3,.ints r)] (.row 0 0 r.length):=by
 unfold Aae at h;refine Aj (TT:=TT) tt Tryz.func53 O O Tryz.ntmps53 (congrArg Array.toList Tryz.results53) O O fun w0=>(Ag (Ab (Aa O (Af (Ag (Ab (Gr tt (Ai O) O O O O (Aa O (Af ?_)))))))));refine Ag (Ab (Aa rfl (Af (Ag (Ag (Ab (Aa rfl (Af (Bz (F:=fun k=>Fp N l_0 x_1 k) h (α:=(List Int)×Bool) (J:=fun | (l12,placed13)=>(⟨[(1,.int x_1),(5,.row 34 0 l12.length),(6,.bool placed13)],[(34,some (3,.ints l12))],[]⟩:PS)) ?_ ?_)))))))))
 ·rintro ⟨l12,placed13⟩ h;show VC _ _ _ (⟨[(1,.int x_1),(5,.row 34 0 l12.length),(6,.bool placed13)],[(34,some (3,.ints l12))],[]⟩:PS);refine Ag (Ag (Ab (Aa O (Aa O (Af (Ar O (fun hb1=>?_) (fun hb1=>?_)))))))
  ·replace h:=Ak hb1 h;refine Ab (Aa O (Aa O (Cr tt O O O O O O O O O O O ?_)));obtain ⟨hg2,h⟩:=Ac h;refine Bt tt O O O O O O O O O O O O O O O O (Nat.le_of_eq (Nat.zero_add _)) hg2 (Aa O (Af (Ag (Ab (Aa O (Aa O (Af (Bg ?_))))))));show ∃ _,_;cases h;exact ⟨[34],_,O,⟨O,Y⟩,O,.eq O,O⟩
  replace h:=Al hb1 h;refine Aq (Ag (Ab (Aa O (Aa O (Af (Bg ?_))))));show ∃ _,_;cases h;exact ⟨[34],_,O,⟨O,Y⟩,O,.eq O,O⟩
 intro k h;refine Ap (Jq 5 34 3 (.ints []) rfl rfl rfl rfl (Bh (α:=(List Int)×Bool×Int) (fun | (l19,placed20,i21)=>(⟨[(0,.ro false (.ints l_0)),(1,.int x_1),(5,.row 34 0 l19.length),(6,.bool placed20),(7,.int i21)],[(34,some (3,.ints l19))],[]⟩:PS)) (Fp N l_0 x_1 k) h (En.of ⟨rfl,rfl,rfl,rfl,rfl,Y⟩ ⟨rfl,Y⟩ trivial) (fun _=>rfl) ?_));rintro n ⟨l19,placed20,i21⟩ h;rw [Fp] at h;show VC _ _ _ (⟨[(0,.ro false (.ints l_0)),(1,.int x_1),(5,.row 34 0 l19.length),(6,.bool placed20),(7,.int i21)],[(34,some (3,.ints l19))],[]⟩:PS);refine Ag (Ag (Ab ?_));iterate 4 refine Aa O ?_
 refine Af (Ar O (fun hb3=>?_) (fun hb3=>?_))
 ·replace h:=Ak hb3 h;refine Aq (Ag (Ap (Ag (Ag (Ab (Aa O (Aa O ?_)))))));obtain ⟨hg4,h⟩:=Ac h;refine Ad tt O hg4 (Aa O (Aa O (Aa O (Af (vJoinN h (α:=Bool) (J:=fun (placed24:Bool)=>(⟨[(0,.ro false (.ints l_0)),(1,.int x_1),(5,.row 34 0 l19.length),(6,.bool placed24),(7,.int i21)],[(34,some (3,.ints l19))],[]⟩:PS)) ?_ ?_)))))
  ·rintro placed24 h;show VC _ _ _ (⟨[(0,.ro false (.ints l_0)),(1,.int x_1),(5,.row 34 0 l19.length),(6,.bool placed24),(7,.int i21)],[(34,some (3,.ints l19))],[]⟩:PS);refine Ag (Ag (Ab (Aa O (Aa O (Ad tt O hg4 ?_)))));iterate 4 refine Aa O ?_
   refine Be O O O (fun hb5=>?_) (fun hb5=>?_)
   ·replace h:=Ak hb5 h;iterate 2 refine Av tt O O O O O hb5 O O O Y ?_
    refine Bm O O O O O hb5 O (Af (Ar O (fun hb6=>?_) (fun hb6=>?_)))
    ·replace h:=Ak hb6 h;refine Ag (Ab (Aa O (Aa O (Cr tt O O O O O O O O O O O ?_))));obtain ⟨hg7,h⟩:=Ac h;refine Bt tt O O O O O O O O O O O O O O O O (Nat.le_of_eq (Nat.zero_add _)) hg7 (Aa O (Af (Ab (Aa O (Af (Ab (Aa O (Aa O (Aa O ?_)))))))));refine Ad tt O hg4 (Aa O (Cr tt O O O O O O O O O O O ?_));obtain ⟨hg8,h⟩:=Ac h;refine Bt tt O O O O O O O O O O O O O O O O (Nat.le_of_eq (Nat.zero_add _)) hg8 (Aa O (Af (Ab (Aa O ?_))));obtain ⟨hg9,h⟩:=Ac h;refine Ad tt O hg9 (Aa O (Af ?_));show ∃ _,_;exact ⟨(((l19++([x_1]:List Int))++([(l_0.getD ((i21).toNat) 0)]:List Int)),true,(i21+(1:Int))),(En.of ⟨O,O,O,O,O,Y⟩ ⟨O,Y⟩ trivial),h⟩
    replace h:=Al hb6 h;refine Aq (Ab (Aa O (Aa O (Aa O (Ad tt O hg4 (Aa O (Cr tt O O O O O O O O O O O ?_)))))));obtain ⟨hg10,h⟩:=Ac h;refine Bt tt O O O O O O O O O O O O O O O O (Nat.le_of_eq (Nat.zero_add _)) hg10 (Aa O (Af (Ab (Aa O ?_))));obtain ⟨hg11,h⟩:=Ac h;refine Ad tt O hg11 (Aa O (Af ?_));show ∃ _,_;exact ⟨((l19++([(l_0.getD ((i21).toNat) 0)]:List Int)),placed24,(i21+(1:Int))),(En.of ⟨O,O,O,O,O,Y⟩ ⟨O,Y⟩ trivial),h⟩
   replace h:=Al hb5 h;iterate 2 refine Kq O O O O hb5 O O ?_
   refine Aw O O O O O hb5 O (Af (Cp O O (Aq (Ab (Aa O (Aa O (Aa O (Ad tt O hg4 (Aa O ?_)))))))));refine Cr tt O O O O O O O O O O O ?_;obtain ⟨hg12,h⟩:=Ac h;refine Bt tt O O O O O O O O O O O O O O O O (Nat.le_of_eq (Nat.zero_add _)) hg12 (Aa O (Af (Ab (Aa O ?_))));obtain ⟨hg13,h⟩:=Ac h;refine Ad tt O hg13 (Aa O (Af ?_));show ∃ _,_;exact ⟨((l19++([(l_0.getD ((i21).toNat) 0)]:List Int)),placed24,(i21+(1:Int))),(En.of ⟨O,O,O,O,O,Y⟩ ⟨O,Y⟩ trivial),h⟩
  intro k25 h;refine Ar O (fun hb14=>?_) (fun hb14=>?_)
  ·replace h:=Ak hb14 h;refine Ab (Aa O (Af ?_));show ∃ _,_;exact ⟨true,(En.of ⟨O,O,O,O,O,Y⟩ ⟨O,Y⟩ trivial),h⟩
  replace h:=Al hb14 h;refine Aq ?_;show ∃ _,_;exact ⟨placed20,(En.of ⟨O,O,O,O,O,Y⟩ ⟨O,Y⟩ trivial),h⟩
 replace h:=Al hb3 h;refine Bp ?_;show ∃ _,_;exact ⟨(l19,placed20),(En.of ⟨O,O,O,Y⟩ ⟨O,Y⟩ trivial),h⟩
end
section
open Go.RowKit
def Fa (N:Nat) (g_0:Grf):Option (ByteArray):=
 (Lb N g_0).bind fun v1=>
 cnd (!v1) (
  some (ByteArray.mk #[103,114,97,112,104])) (
  cnd (decide (g_0.n≤(3:Int))) (
   grd (Bc (g_0.n-(1:Int))) <|
   grd (Bc (g_0.n*(g_0.n-(1:Int)))) <|
   grd ((2:Int)≠0∧Bc (Int.tdiv (g_0.n*(g_0.n-(1:Int))) (2:Int))) <|
   cnd (decide ((g_0.bars.length:Int)<(Int.tdiv (g_0.n*(g_0.n-(1:Int))) (2:Int)))) (
    some (ByteArray.mk #[114,105,103,105,100])) (
    some (ByteArray.mk #[]))) (
   (Ls N g_0).bind fun v2=>
   cnd (!v2) (
    some (ByteArray.mk #[114,105,103,105,100])) (
    (Hm N g_0 (3:Int)).bind fun v3=>
    cnd (!v3) (
     some (ByteArray.mk #[99,111,110,110,101,99,116,101,100])) (
     (Ds N g_0).bind fun v4=>
     cnd (!v4) (
      some (ByteArray.mk #[114,101,100,117,110,100,97,110,116])) (
      some (ByteArray.mk #[]))))))
theorem Zn (N:Nat) (g_0:Grf) (r:ByteArray) (h:Fa N g_0=some r):PCall Tryz.prog 101 [gD g_0] [] (.val (.string r)):=by
 unfold Fa at h;refine Aj (TT:=TT) tt Tryz.func101 O O Tryz.ntmps101 (congrArg Array.toList Tryz.results101) O O fun w0=>(Ag (Ab (Hz O O O O O O O O O (Aa O (Af (Ag (Ap (Ag (Ab ?_)))))))));refine Aa O ?_;obtain ⟨v1,hc1,h⟩:=Ae h;refine Ba (Se N g_0 v1 hc1) O O O O O O O O ⟨⟨O,O,Y⟩,Y⟩ (Aa O (Aa O (Af (Ar O (fun hb2=>?_) (fun hb2=>?_)))))
 ·replace h:=Ak hb2 h;refine Ag (Ab (Aa O (Af (Bg ?_))));show ∃ _,_;cases h;exact ⟨[],_,O,Y,O,.eq O,O⟩
 replace h:=Al hb2 h;refine Ag (Ab ?_);iterate 4 refine Aa O ?_
 refine Af (Ar O (fun hb3=>?_) (fun hb3=>?_))
 ·replace h:=Ak hb3 h;refine Ag (Ag (Ab ?_));iterate 7 refine Aa O ?_
  obtain ⟨hg4,h⟩:=Ac h;refine Ad tt O hg4 ?_;obtain ⟨hg5,h⟩:=Ac h;refine Ad tt O hg5 ?_;obtain ⟨hg6,h⟩:=Ac h;refine Ad tt O hg6 (Aa O (Af (Ar O (fun hb7=>?_) (fun hb7=>?_))))
  ·replace h:=Ak hb7 h;refine Ag (Ab (Aa O (Af (Bg ?_))));show ∃ _,_;cases h;exact ⟨[],_,O,Y,O,.eq O,O⟩
  replace h:=Al hb7 h;refine Aq (Ag (Ab (Aa O (Af (Bg ?_)))));show ∃ _,_;cases h;exact ⟨[],_,O,Y,O,.eq O,O⟩
 replace h:=Al hb3 h;refine Ag (Ab (Aa O ?_));obtain ⟨v2,hc8,h⟩:=Ae h;refine Ba (Aa9 N g_0 v2 hc8) O O O O O O O O ⟨⟨O,O,Y⟩,Y⟩ (Aa O (Aa O (Af (Ar O (fun hb9=>?_) (fun hb9=>?_)))))
 ·replace h:=Ak hb9 h;refine Ag (Ab (Aa O (Af (Bg ?_))));show ∃ _,_;cases h;exact ⟨[],_,O,Y,O,.eq O,O⟩
 replace h:=Al hb9 h;refine Ag (Ab (Aa O ?_));obtain ⟨v3,hc10,h⟩:=Ae h;refine Ba (Zq N g_0 (3:Int) v3 hc10) O O O O O O O O ⟨⟨O,O,Y⟩,O,Y⟩ (Aa O (Aa O (Af (Ar O (fun hb11=>?_) (fun hb11=>?_)))))
 ·replace h:=Ak hb11 h;refine Ag (Ab (Aa O (Af (Bg ?_))));show ∃ _,_;cases h;exact ⟨[],_,O,Y,O,.eq O,O⟩
 replace h:=Al hb11 h;refine Ag (Ab (Aa O ?_));obtain ⟨v4,hc12,h⟩:=Ae h;refine Ba (Sy N g_0 v4 hc12) O O O O O O O O ⟨⟨O,O,Y⟩,Y⟩ (Aa O (Aa O (Af (Ar O (fun hb13=>?_) (fun hb13=>?_)))))
 ·replace h:=Ak hb13 h;refine Ag (Ab (Aa O (Af (Bg ?_))));show ∃ _,_;cases h;exact ⟨[],_,O,Y,O,.eq O,O⟩
 replace h:=Al hb13 h;refine Aq (Ag (Ab (Aa O (Af (Bg ?_)))));show ∃ _,_;cases h;exact ⟨[],_,O,Y,O,.eq O,O⟩
def Bj (N:Nat) (g_0:Grf):Option (Bool):=
 (Fa N g_0).bind fun v1=>
 some (v1.toList==(ByteArray.mk #[]).toList)
theorem Qk (N:Nat) (g_0:Grf) (r:Bool) (h:Bj N g_0=some r):PCall Tryz.prog 51 [gD g_0] [] (.bool r):=by
 unfold Bj at h;refine Aj (TT:=TT) tt Tryz.func51 O O Tryz.ntmps51 (congrArg Array.toList Tryz.results51) O O fun w0=>(Ag (Ab (Hz O O O O O O O O O (Aa O (Af (Ag (Ab (Aa O ?_))))))));obtain ⟨v1,hc1,h⟩:=Ae h;refine Ba (Zn N g_0 v1 hc1) O O O O O O O O ⟨⟨O,O,Y⟩,Y⟩ (Fz (Ai O) (pStrEq O O O) O O (Aa O (Af (Bg ?_))));show ∃ _,_;cases h;exact ⟨[],_,O,Y,O,.eq O,O⟩
def Dd (N:Nat) (v247:List Int) (k:(List Int)→Option (List Int)):Nat→((List Int)×Int)→Option (List Int)
 | 0,_=>none
 | n+1,(l268,i269)=>
  cnd (decide (i269<(v247.length:Int))) (
   grd (0≤i269∧i269<(v247.length:Int)) <|
   (Qx N l268 (v247.getD ((i269).toNat) 0)).bind fun v272=>
   cnd (!v272) (
    (Aae N l268 (v247.getD ((i269).toNat) 0)).bind fun v273=>
    grd (Bc (i269+(1:Int))) <|
    Dd N v247 k n (v273,(i269+(1:Int)))) (
    grd (Bc (i269+(1:Int))) <|
    Dd N v247 k n (l268,(i269+(1:Int))))) (
   k l268)
def Dc (N:Nat) (anchors_1:List Int) (v247:List Int) (k:Bool→Option (List Int)):Nat→(Bool×Int)→Option (List Int)
 | 0,_=>none
 | n+1,(all276,i277)=>
  cnd (decide (i277<(anchors_1.length:Int))) (
   cnd all276 (
    grd (0≤i277∧i277<(anchors_1.length:Int)) <|
    (Qx N v247 (anchors_1.getD ((i277).toNat) 0)).bind fun v279=>
    grd (Bc (i277+(1:Int))) <|
    Dc N anchors_1 v247 k n (v279,(i277+(1:Int)))) (
    grd (Bc (i277+(1:Int))) <|
    Dc N anchors_1 v247 k n (false,(i277+(1:Int))))) (
   k all276)
def Cn (N:Nat) (g_0:Grf) (anchors_1:List Int) (v1:Grf×Bool) (k:(List Int)→Option (List Int)):Nat→((List Int)×Int)→Option (List Int)
 | 0,_=>none
 | n+1,(l212,mask213)=>
  grd (0≤g_0.n∧g_0.n<64∧Bc ((1:Int)*2 ^ ((g_0.n).toNat))) <|
  cnd (decide (mask213<((1:Int)*2 ^ ((g_0.n).toNat)))) (
   (Wy N g_0.n mask213).bind fun v247=>
   Dc N anchors_1 v247 (fun (all253 : Bool) =>
      cnd all253 (
       (Fg N v1.1 v247).bind fun v254=>
       (Bj N v254).bind fun v255=>
       cnd v255 (
        Dd N v247 (fun (l264 : List Int) =>
           grd (Bc (mask213+(1:Int))) <|
           Cn N g_0 anchors_1 v1 k n (l264,(mask213+(1:Int)))) N (l212,(0:Int))) (
        grd (Bc (mask213+(1:Int))) <|
        Cn N g_0 anchors_1 v1 k n (l212,(mask213+(1:Int))))) (
       grd (Bc (mask213+(1:Int))) <|
       Cn N g_0 anchors_1 v1 k n (l212,(mask213+(1:Int))))) N (true,(0:Int))) (
   k l212)
def Ff (N:Nat) (g_0:Grf) (anchors_1:List Int):Option (List Int):=
 (De N g_0 anchors_1).bind fun v1=>
 cnd (!v1.2) (
  some ([]:List Int)) (
  cnd (decide ((anchors_1.length:Int)<(3:Int))) (
   some ([]:List Int)) (
   Cn N g_0 anchors_1 v1 (fun (l140 : List Int) =>
      some l140) N (([]:List Int),(1:Int))))
theorem Mi (N:Nat) (g_0:Grf) (anchors_1:List Int) (r:List Int) (h:Ff N g_0 anchors_1=some r):PCall Tryz.prog 10 [gD g_0,.ro false (.ints anchors_1)] [(3,.ints r)] (.row 0 0 r.length):=by
 unfold Ff at h;refine Aj (TT:=TT) tt Tryz.func10 O O Tryz.ntmps10 (congrArg Array.toList Tryz.results10) O O fun w0=>(Ag (Ab (Hz O O O O O O O O O (Aa O (Af (Ag (Ab (Gr tt (Ai O) O O O O (Aa O ?_)))))))));refine Af (Ag (Ab (Aa O (Aa O ?_))));obtain ⟨v1,hc1,h⟩:=Ae h;refine Ba (Rv N g_0 anchors_1 v1 hc1) O O O O O O O O ⟨⟨O,O,Y⟩,O,Y⟩ (Aa O (Aa O (Aa O (Bi tt O O O O O O O O O (Ao tt O O O O O O O O O O O ⟨Y,Y,Y⟩ (Aa O (Af (Ag (Ag ?_)))))))));refine Ab (Aa O (Aa O (Aa O (Be O O O (fun hb2=>?_) (fun hb2=>?_)))))
 ·replace h:=Ak hb2 h;iterate 3 refine Hg O O O O hb2 O O ?_
  refine Bm O O O O O hb2 O (Af (Ce O O (Ag (Ab (Aa O (Aa O (Af (Jq 4 9001 3 (.ints []) O O O O (Bg ?_)))))))));show ∃ _,_;cases h;exact ⟨[9001],_,O,⟨O,Y⟩,O,.eq O,O⟩
 replace h:=Al hb2 h;iterate 3 refine Av tt O O O O O hb2 O O O Y ?_
 refine Aw O O O O O hb2 O (Af (Ar O (fun hb3=>?_) (fun hb3=>?_)))
 ·replace h:=Ak hb3 h;refine Ag (Ab (Aa O (Aa O (Af (Jq 4 9001 3 (.ints []) O O O O (Bg ?_))))));show ∃ _,_;cases h;exact ⟨[9001],_,O,⟨O,Y⟩,O,.eq O,O⟩
 replace h:=Al hb3 h;refine Aq (Ag (Ag (Ab (Aa O (Af (Bz (F:=fun k=>Cn N g_0 anchors_1 v1 k) h (α:=List Int) (J:=fun (l140:List Int)=>(⟨[(5,.row 9509 0 l140.length)],[(9509,some (3,.ints l140))],[]⟩:PS)) ?_ ?_))))))
 ·rintro l140 h;show VC _ _ _ (⟨[(5,.row 9509 0 l140.length)],[(9509,some (3,.ints l140))],[]⟩:PS);refine Ag (Ab (Aa O (Aa O (Af (Bg ?_)))));show ∃ _,_;cases h;exact ⟨[9509],_,O,⟨O,Y⟩,O,.eq O,O⟩
 intro k h;refine Ap (Jq 5 9512 3 (.ints []) rfl rfl rfl rfl (Bh (α:=(List Int)×Int) (fun | (l212,mask213)=>(⟨[(1,.ro false (.ints anchors_1)),(2,.ptr 2 0),(5,.row 9512 0 l212.length),(6,.ptr 6 0),(8,.int mask213)],[(9512,some (3,.ints l212)),(1170,some (42,.pairs v1.1.bars))],[(2,some [.int g_0.n,.ro false (.pairs g_0.bars)]),(6,some [.int v1.1.n,.row 1170 0 v1.1.bars.length])]⟩:PS)) (Cn N g_0 anchors_1 v1 k) h (En.of ⟨rfl,rfl,rfl,rfl,rfl,Y⟩ ⟨rfl,rfl,Y⟩ ⟨rfl,rfl,Y⟩) (fun _=>rfl) ?_));rintro n ⟨l212,mask213⟩ h;rw [Cn] at h;show VC _ _ _ (⟨[(1,.ro false (.ints anchors_1)),(2,.ptr 2 0),(5,.row 9512 0 l212.length),(6,.ptr 6 0),(8,.int mask213)],[(9512,some (3,.ints l212)),(1170,some (42,.pairs v1.1.bars))],[(2,some [.int g_0.n,.ro false (.pairs g_0.bars)]),(6,some [.int v1.1.n,.row 1170 0 v1.1.bars.length])]⟩:PS);refine Ag (Ag (Ab (Aa O (Aa O (Aa O ?_)))));obtain ⟨hg4,h⟩:=Ac h;refine Ad tt O hg4 (Aa O (Af (Ar O (fun hb5=>?_) (fun hb5=>?_))))
 ·replace h:=Ak hb5 h;refine Aq (Ag (Ap (Ag (Ab (Aa O (Aa O (Aa O ?_)))))));obtain ⟨v247,hc6,h⟩:=Ae h;refine Ba (Abg N g_0.n mask213 v247 hc6) O O O O O O O O ⟨O,O,Y⟩ (Aa O (Af (Ag (Ab (Aa O (Af (Ag (Ag (Ab ?_)))))))));refine Aa O (Af (Bz (F:=fun k=>Dc N anchors_1 v247 k) h (α:=Bool) (J:=fun (all253:Bool)=>(⟨[(1,.ro false (.ints anchors_1)),(2,.ptr 2 0),(5,.row 9512 0 l212.length),(6,.ptr 6 0),(8,.int mask213),(9,.row 1380 0 v247.length),(10,.bool all253)],[(9512,some (3,.ints l212)),(1380,some (3,.ints v247)),(1170,some (42,.pairs v1.1.bars))],[(2,some [.int g_0.n,.ro false (.pairs g_0.bars)]),(6,some [.int v1.1.n,.row 1170 0 v1.1.bars.length])]⟩:PS)) ?_ ?_))
  ·rintro all253 h;show VC _ _ _ (⟨[(1,.ro false (.ints anchors_1)),(2,.ptr 2 0),(5,.row 9512 0 l212.length),(6,.ptr 6 0),(8,.int mask213),(9,.row 1380 0 v247.length),(10,.bool all253)],[(9512,some (3,.ints l212)),(1380,some (3,.ints v247)),(1170,some (42,.pairs v1.1.bars))],[(2,some [.int g_0.n,.ro false (.pairs g_0.bars)]),(6,some [.int v1.1.n,.row 1170 0 v1.1.bars.length])]⟩:PS);refine Ag (Ab (Aa O (Aa O (Be O O O (fun hb7=>?_) (fun hb7=>?_)))))
   ·replace h:=Ak hb7 h;iterate 2 refine Av tt O O O O O hb7 O O O Y ?_
    obtain ⟨v254,hc8,h⟩:=Ae h;refine Eh (Acb N v1.1 v247 v254 hc8) O O O O hb7 O O O O O O O ⟨⟨O,(.inl ⟨O,O⟩),Y⟩,(.inl ⟨O,O⟩),Y⟩ ?_;obtain ⟨v255,hc9,h⟩:=Ae h;refine Eh (Qk N v254 v255 hc9) O O O O hb7 O O O O O O O ⟨⟨O,(.inl ⟨O,O⟩),Y⟩,Y⟩ (Bm O O O O O hb7 O (Af (Ar O (fun hb10=>?_) (fun hb10=>?_))))
    ·replace h:=Ak hb10 h;refine Ag (Ab (Aa O (Af (Bz (F:=fun k=>Dd N v247 k) h (α:=List Int) (J:=fun (l264:List Int)=>(⟨[(1,.ro false (.ints anchors_1)),(2,.ptr 2 0),(5,.row 9512 0 l264.length),(6,.ptr 6 0),(8,.int mask213)],[(9512,some (3,.ints l264)),(1170,some (42,.pairs v1.1.bars))],[(2,some [.int g_0.n,.ro false (.pairs g_0.bars)]),(6,some [.int v1.1.n,.row 1170 0 v1.1.bars.length])]⟩:PS)) ?_ ?_))))
     ·rintro l264 h;show VC _ _ _ (⟨[(1,.ro false (.ints anchors_1)),(2,.ptr 2 0),(5,.row 9512 0 l264.length),(6,.ptr 6 0),(8,.int mask213)],[(9512,some (3,.ints l264)),(1170,some (42,.pairs v1.1.bars))],[(2,some [.int g_0.n,.ro false (.pairs g_0.bars)]),(6,some [.int v1.1.n,.row 1170 0 v1.1.bars.length])]⟩:PS);refine Ab (Aa O ?_);obtain ⟨hg11,h⟩:=Ac h;refine Ad tt O hg11 (Aa O (Af ?_));show ∃ _,_;exact ⟨(l264,(mask213+(1:Int))),(En.of ⟨O,O,O,O,O,Y⟩ ⟨O,O,Y⟩ ⟨O,O,Y⟩),h⟩
     intro k h;refine Ap (Bh (α:=(List Int)×Int) (fun | (l268,i269)=>(⟨[(1,.ro false (.ints anchors_1)),(2,.ptr 2 0),(5,.row 9512 0 l268.length),(6,.ptr 6 0),(8,.int mask213),(9,.row 1380 0 v247.length),(12,.int i269)],[(9512,some (3,.ints l268)),(1380,some (3,.ints v247)),(1170,some (42,.pairs v1.1.bars))],[(2,some [.int g_0.n,.ro false (.pairs g_0.bars)]),(6,some [.int v1.1.n,.row 1170 0 v1.1.bars.length])]⟩:PS)) (Dd N v247 k) h (En.of ⟨rfl,rfl,rfl,rfl,rfl,rfl,rfl,Y⟩ ⟨rfl,rfl,rfl,Y⟩ ⟨rfl,rfl,Y⟩) (fun _=>rfl) ?_);rintro n ⟨l268,i269⟩ h;rw [Dd] at h;show VC _ _ _ (⟨[(1,.ro false (.ints anchors_1)),(2,.ptr 2 0),(5,.row 9512 0 l268.length),(6,.ptr 6 0),(8,.int mask213),(9,.row 1380 0 v247.length),(12,.int i269)],[(9512,some (3,.ints l268)),(1380,some (3,.ints v247)),(1170,some (42,.pairs v1.1.bars))],[(2,some [.int g_0.n,.ro false (.pairs g_0.bars)]),(6,some [.int v1.1.n,.row 1170 0 v1.1.bars.length])]⟩:PS);refine Ag (Ag (Ab ?_));iterate 4 refine Aa O ?_
     refine Af (Ar O (fun hb12=>?_) (fun hb12=>?_))
     ·replace h:=Ak hb12 h;refine Aq (Ag (Ap (Ag (Ab (Aa O (Aa O (Aa O ?_)))))));obtain ⟨hg13,h⟩:=Ac h;refine Ad tt O hg13 (Ad tt O hg13 ?_);obtain ⟨v272,hc14,h⟩:=Ae h;refine Ba (Qp N l268 (v247.getD ((i269).toNat) 0) v272 hc14) O O O O O O O O ⟨(.inl ⟨O,O⟩),O,Y⟩ (Aa O (Af (Ar O (fun hb15=>?_) (fun hb15=>?_))))
      ·replace h:=Ak hb15 h;refine Ab (Aa O (Aa O (Aa O (Ad tt O hg13 (Ad tt O hg13 ?_)))));obtain ⟨v273,hc16,h⟩:=Ae h;refine Ba (S_l5With_w N l268 (v247.getD ((i269).toNat) 0) v273 hc16) O O O O O O O O ⟨(.inl ⟨O,O⟩),O,Y⟩ (Aa O (Af (Ab (Aa O ?_))));obtain ⟨hg17,h⟩:=Ac h;refine Ad tt O hg17 (Aa O (Af ?_));show ∃ _,_;exact ⟨(v273,(i269+(1:Int))),(En.ren [9512] [1790] O ⟨.inr O,.inr O,.inr O,.inr O,.inr O,.inr O,.inr O,Y⟩ ⟨.inr O,.inr O,.inr O,Y⟩ ⟨.inr ⟨_,_,O,O,⟨.inr O,.inr O,Y⟩⟩,.inr ⟨_,_,O,O,⟨.inr O,.inr O,Y⟩⟩,Y⟩),h⟩
      replace h:=Al hb15 h;refine Aq (Ab (Aa O ?_));obtain ⟨hg18,h⟩:=Ac h;refine Ad tt O hg18 (Aa O (Af ?_));show ∃ _,_;exact ⟨(l268,(i269+(1:Int))),(En.of ⟨O,O,O,O,O,O,O,Y⟩ ⟨O,O,O,Y⟩ ⟨O,O,Y⟩),h⟩
     replace h:=Al hb12 h;refine Bp ?_;show ∃ _,_;exact ⟨l268,(En.of ⟨O,O,O,O,O,Y⟩ ⟨O,O,Y⟩ ⟨O,O,Y⟩),h⟩
    replace h:=Al hb10 h;refine Aq (Ab (Aa O ?_));obtain ⟨hg19,h⟩:=Ac h;refine Ad tt O hg19 (Aa O (Af ?_));show ∃ _,_;exact ⟨(l212,(mask213+(1:Int))),(En.of ⟨O,O,O,O,O,Y⟩ ⟨O,O,Y⟩ ⟨O,O,Y⟩),h⟩
   replace h:=Al hb7 h;iterate 4 refine Kq O O O O hb7 O O ?_
   refine Aw O O O O O hb7 O (Af (Cp O O (Aq (Ab (Aa O ?_)))));obtain ⟨hg20,h⟩:=Ac h;refine Ad tt O hg20 (Aa O (Af ?_));show ∃ _,_;exact ⟨(l212,(mask213+(1:Int))),(En.of ⟨O,O,O,O,O,Y⟩ ⟨O,O,Y⟩ ⟨O,O,Y⟩),h⟩
  intro k h;refine Ap (Bh (α:=Bool×Int) (fun | (all276,i277)=>(⟨[(1,.ro false (.ints anchors_1)),(2,.ptr 2 0),(5,.row 9512 0 l212.length),(6,.ptr 6 0),(8,.int mask213),(9,.row 1380 0 v247.length),(10,.bool all276),(11,.int i277)],[(9512,some (3,.ints l212)),(1380,some (3,.ints v247)),(1170,some (42,.pairs v1.1.bars))],[(2,some [.int g_0.n,.ro false (.pairs g_0.bars)]),(6,some [.int v1.1.n,.row 1170 0 v1.1.bars.length])]⟩:PS)) (Dc N anchors_1 v247 k) h (En.of ⟨rfl,rfl,rfl,rfl,rfl,rfl,rfl,rfl,Y⟩ ⟨rfl,rfl,rfl,Y⟩ ⟨rfl,rfl,Y⟩) (fun _=>rfl) ?_);rintro n ⟨all276,i277⟩ h;rw [Dc] at h;show VC _ _ _ (⟨[(1,.ro false (.ints anchors_1)),(2,.ptr 2 0),(5,.row 9512 0 l212.length),(6,.ptr 6 0),(8,.int mask213),(9,.row 1380 0 v247.length),(10,.bool all276),(11,.int i277)],[(9512,some (3,.ints l212)),(1380,some (3,.ints v247)),(1170,some (42,.pairs v1.1.bars))],[(2,some [.int g_0.n,.ro false (.pairs g_0.bars)]),(6,some [.int v1.1.n,.row 1170 0 v1.1.bars.length])]⟩:PS);refine Ag (Ag (Ab ?_));iterate 4 refine Aa O ?_
  refine Af (Ar O (fun hb21=>?_) (fun hb21=>?_))
  ·replace h:=Ak hb21 h;refine Aq (Ag (Ap (Ab (Aa O (Aa O (Be O O O (fun hb22=>?_) (fun hb22=>?_)))))))
   ·replace h:=Ak hb22 h;iterate 3 refine Av tt O O O O O hb22 O O O Y ?_
    obtain ⟨hg23,h⟩:=Ac h;refine Av tt O O O O O hb22 O O O hg23 (Av tt O O O O O hb22 O O O Y ?_);obtain ⟨v279,hc24,h⟩:=Ae h;refine Eh (Qp N v247 (anchors_1.getD ((i277).toNat) 0) v279 hc24) O O O O hb22 O O O O O O O ⟨(.inl ⟨O,O⟩),O,Y⟩ (Bm O O O O O hb22 O (Aa O (Af (Ab (Aa O ?_)))));obtain ⟨hg25,h⟩:=Ac h;refine Ad tt O hg25 (Aa O (Af ?_));show ∃ _,_;exact ⟨(v279,(i277+(1:Int))),(En.of ⟨O,O,O,O,O,O,O,O,Y⟩ ⟨O,O,O,Y⟩ ⟨O,O,Y⟩),h⟩
   replace h:=Al hb22 h;iterate 6 refine Kq O O O O hb22 O O ?_
   refine Aw O O O O O hb22 O (Aa O (Af (Ab (Aa O ?_))));obtain ⟨hg26,h⟩:=Ac h;refine Ad tt O hg26 (Aa O (Af ?_));show ∃ _,_;exact ⟨(false,(i277+(1:Int))),(En.of ⟨O,O,O,O,O,O,O,O,Y⟩ ⟨O,O,O,Y⟩ ⟨O,O,Y⟩),h⟩
  replace h:=Al hb21 h;refine Bp ?_;show ∃ _,_;exact ⟨all276,(En.of ⟨O,O,O,O,O,O,O,Y⟩ ⟨O,O,O,Y⟩ ⟨O,O,Y⟩),h⟩
 replace h:=Al hb5 h;refine Bp ?_;show ∃ _,_;exact ⟨l212,(En.ren [9509] [9512] O ⟨.inr O,Y⟩ ⟨.inr O,Y⟩ trivial),h⟩
def Kx (N:Nat) (g_0:Grf):Option (ByteArray):=
 (Cs N g_0).bind fun v1=>
 cnd (!v1) (
  some (ByteArray.mk #[103,114,97,112,104])) (
  (Lf N g_0).bind fun v2=>
  cnd v2 (
   some (ByteArray.mk #[103,114,97,112,104])) (
   cnd (decide (g_0.n≤(3:Int))) (
    (Jf N g_0).bind fun v3=>
    cnd (decide ((v3.length:Int) > (0:Int))) (
     some (ByteArray.mk #[114,105,103,105,100])) (
     cnd (decide (g_0.n > (3:Int))) (
      (Qy N g_0).bind fun v4=>
      cnd (!v4) (
       some (ByteArray.mk #[114,105,103,105,100])) (
       (Jr N g_0 (3:Int)).bind fun v5=>
       cnd (!v5) (
        some (ByteArray.mk #[99,111,110,110,101,99,116,101,100])) (
        (Ep N g_0).bind fun v6=>
        cnd (!v6) (
         some (ByteArray.mk #[114,101,100,117,110,100,97,110,116])) (
         some (ByteArray.mk #[]))))) (
      some (ByteArray.mk #[])))) (
    cnd (decide (g_0.n > (3:Int))) (
     (Qy N g_0).bind fun v7=>
     cnd (!v7) (
      some (ByteArray.mk #[114,105,103,105,100])) (
      (Jr N g_0 (3:Int)).bind fun v8=>
      cnd (!v8) (
       some (ByteArray.mk #[99,111,110,110,101,99,116,101,100])) (
       (Ep N g_0).bind fun v9=>
       cnd (!v9) (
        some (ByteArray.mk #[114,101,100,117,110,100,97,110,116])) (
        some (ByteArray.mk #[]))))) (
     some (ByteArray.mk #[])))))
theorem Zx (N:Nat) (g_0:Grf) (r:ByteArray) (h:Kx N g_0=some r):PCall Tryz.prog 130 [gD g_0] [] (.val (.string r)):=by
 unfold Kx at h;refine Aj (TT:=TT) tt Tryz.func130 O O Tryz.ntmps130 (congrArg Array.toList Tryz.results130) O O fun w0=>(Ag (Ab (Hz O O O O O O O O O (Aa O (Af (Ag (Ap (Ag (Ab ?_)))))))));refine Aa O ?_;obtain ⟨v1,hc1,h⟩:=Ae h;refine Ba (Fx N g_0 v1 hc1) O O O O O O O O ⟨⟨O,O,Y⟩,Y⟩ (Aa O (Aa O (Be O O O (fun hb2=>?_) (fun hb2=>?_))))
 ·replace h:=Ak hb2 h;iterate 2 refine Hg O O O O hb2 O O ?_
  refine Bm O O O O O hb2 O (Aa O (Af (Ce O O (Ag (Ab (Aa O (Af (Bg ?_))))))));show ∃ _,_;cases h;exact ⟨[],_,O,Y,O,.eq O,O⟩
 replace h:=Al hb2 h;refine Av tt O O O O O hb2 O O O Y ?_;obtain ⟨v2,hc3,h⟩:=Ae h;refine Eh (Wg N g_0 v2 hc3) O O O O hb2 O O O O O O O ⟨⟨O,O,Y⟩,Y⟩ (Aw O O O O O hb2 O (Aa O (Af (Ar O (fun hb4=>?_) (fun hb4=>?_)))))
 ·replace h:=Ak hb4 h;refine Ag (Ab (Aa O (Af (Bg ?_))));show ∃ _,_;cases h;exact ⟨[],_,O,Y,O,.eq O,O⟩
 replace h:=Al hb4 h;refine Ag (Ab ?_);iterate 4 refine Aa O ?_
 refine Be O O O (fun hb5=>?_) (fun hb5=>?_)
 ·replace h:=Ak hb5 h;refine Av tt O O O O O hb5 O O O Y ?_;obtain ⟨v3,hc6,h⟩:=Ae h;refine Eh (Va N g_0 v3 hc6) O O O O hb5 O O O O O O O ⟨⟨O,O,Y⟩,Y⟩ ?_;iterate 2 refine Av tt O O O O O hb5 O O O Y ?_
  refine Bm O O O O O hb5 O (Aa O (Be O O O (fun hb7=>?_) (fun hb7=>?_)))
  ·replace h:=Ak hb7 h;iterate 4 refine Hg O O O O hb7 O O ?_
   iterate 3 refine oNoU O O O O O ?_
   refine Hg O O O O hb7 O O (Bm O O O O O hb7 O (Aa O (Af (Ce O O (Ag (Ab (Aa O (Af (Bg ?_)))))))));show ∃ _,_;cases h;exact ⟨[],_,O,Y,O,.eq O,O⟩
  replace h:=Al hb7 h;iterate 4 refine Av tt O O O O O hb7 O O O Y ?_
  refine Be O O O (fun hb8=>?_) (fun hb8=>?_)
  ·replace h:=Ak hb8 h;refine Av tt O O O O O hb8 O O O Y ?_;obtain ⟨v4,hc9,h⟩:=Ae h;refine Eh (Wr N g_0 v4 hc9) O O O O hb8 O O O O O O O ⟨⟨O,O,Y⟩,Y⟩ (Av tt O O O O O hb8 O O O Y (Rk O O O O hb7 O O O O hb8 O (Aw O O O O O hb7 O (Aa O (Af (Ar O (fun hb10=>?_) (fun hb10=>?_)))))))
   ·replace h:=Ak hb10 h;refine Ag (Ab (Aa O (Af (Bg ?_))));show ∃ _,_;cases h;exact ⟨[],_,O,Y,O,.eq O,O⟩
   replace h:=Al hb10 h;refine Ag (Ab ?_);iterate 4 refine Aa O ?_
   refine Av tt O O O O O hb8 O O O Y ?_;obtain ⟨v5,hc11,h⟩:=Ae h;refine Eh (Sw N g_0 (3:Int) v5 hc11) O O O O hb8 O O O O O O O ⟨⟨O,O,Y⟩,O,Y⟩ (Av tt O O O O O hb8 O O O Y (Bm O O O O O hb8 O (Aa O (Af (Ar O (fun hb12=>?_) (fun hb12=>?_))))))
   ·replace h:=Ak hb12 h;refine Ag (Ab (Aa O (Af (Bg ?_))));show ∃ _,_;cases h;exact ⟨[],_,O,Y,O,.eq O,O⟩
   replace h:=Al hb12 h;refine Ag (Ab ?_);iterate 4 refine Aa O ?_
   refine Av tt O O O O O hb8 O O O Y ?_;obtain ⟨v6,hc13,h⟩:=Ae h;refine Eh (Lx N g_0 v6 hc13) O O O O hb8 O O O O O O O ⟨⟨O,O,Y⟩,Y⟩ (Av tt O O O O O hb8 O O O Y (Bm O O O O O hb8 O (Aa O (Af (Ar O (fun hb14=>?_) (fun hb14=>?_))))))
   ·replace h:=Ak hb14 h;refine Ag (Ab (Aa O (Af (Bg ?_))));show ∃ _,_;cases h;exact ⟨[],_,O,Y,O,.eq O,O⟩
   replace h:=Al hb14 h;refine Aq (Ag (Ab (Aa O (Af (Bg ?_)))));show ∃ _,_;cases h;exact ⟨[],_,O,Y,O,.eq O,O⟩
  replace h:=Al hb8 h;iterate 3 refine Kq O O O O hb8 O O ?_
  refine Rl O O O O hb7 O O O O hb8 O (Aw O O O O O hb7 O (Aa O (Af (Cp O O (Ag (Ab ?_))))));iterate 4 refine Aa O ?_
  iterate 3 refine Kq O O O O hb8 O O ?_
  refine Aw O O O O O hb8 O (Aa O (Af (Cp O O (Ag (Ab ?_)))));iterate 4 refine Aa O ?_
  iterate 3 refine Kq O O O O hb8 O O ?_
  refine Aw O O O O O hb8 O (Aa O (Af (Cp O O (Aq (Ag (Ab (Aa O (Af (Bg ?_)))))))));show ∃ _,_;cases h;exact ⟨[],_,O,Y,O,.eq O,O⟩
 replace h:=Al hb5 h;iterate 4 refine Kq O O O O hb5 O O ?_
 refine Aw O O O O O hb5 O (Aa O ?_);iterate 4 refine Av tt O O O O O O O O O Y ?_
 refine Be O O O (fun hb15=>?_) (fun hb15=>?_)
 ·replace h:=Ak hb15 h;refine Av tt O O O O O hb15 O O O Y ?_;obtain ⟨v7,hc16,h⟩:=Ae h;refine Eh (Wr N g_0 v7 hc16) O O O O hb15 O O O O O O O ⟨⟨O,O,Y⟩,Y⟩ (Av tt O O O O O hb15 O O O Y (Rk O O O O O O O O O hb15 O (Aw O O O O O O O (Aa O (Af (Ar O (fun hb17=>?_) (fun hb17=>?_)))))))
  ·replace h:=Ak hb17 h;refine Ag (Ab (Aa O (Af (Bg ?_))));show ∃ _,_;cases h;exact ⟨[],_,O,Y,O,.eq O,O⟩
  replace h:=Al hb17 h;refine Ag (Ab ?_);iterate 4 refine Aa O ?_
  refine Av tt O O O O O hb15 O O O Y ?_;obtain ⟨v8,hc18,h⟩:=Ae h;refine Eh (Sw N g_0 (3:Int) v8 hc18) O O O O hb15 O O O O O O O ⟨⟨O,O,Y⟩,O,Y⟩ (Av tt O O O O O hb15 O O O Y (Bm O O O O O hb15 O (Aa O (Af (Ar O (fun hb19=>?_) (fun hb19=>?_))))))
  ·replace h:=Ak hb19 h;refine Ag (Ab (Aa O (Af (Bg ?_))));show ∃ _,_;cases h;exact ⟨[],_,O,Y,O,.eq O,O⟩
  replace h:=Al hb19 h;refine Ag (Ab ?_);iterate 4 refine Aa O ?_
  refine Av tt O O O O O hb15 O O O Y ?_;obtain ⟨v9,hc20,h⟩:=Ae h;refine Eh (Lx N g_0 v9 hc20) O O O O hb15 O O O O O O O ⟨⟨O,O,Y⟩,Y⟩ (Av tt O O O O O hb15 O O O Y (Bm O O O O O hb15 O (Aa O (Af (Ar O (fun hb21=>?_) (fun hb21=>?_))))))
  ·replace h:=Ak hb21 h;refine Ag (Ab (Aa O (Af (Bg ?_))));show ∃ _,_;cases h;exact ⟨[],_,O,Y,O,.eq O,O⟩
  replace h:=Al hb21 h;refine Aq (Ag (Ab (Aa O (Af (Bg ?_)))));show ∃ _,_;cases h;exact ⟨[],_,O,Y,O,.eq O,O⟩
 replace h:=Al hb15 h;iterate 3 refine Kq O O O O hb15 O O ?_
 refine Rl O O O O O O O O O hb15 O (Aw O O O O O O O (Aa O (Af (Cp O O (Ag (Ab ?_))))));iterate 4 refine Aa O ?_
 iterate 3 refine Kq O O O O hb15 O O ?_
 refine Aw O O O O O hb15 O (Aa O (Af (Cp O O (Ag (Ab ?_)))));iterate 4 refine Aa O ?_
 iterate 3 refine Kq O O O O hb15 O O ?_
 refine Aw O O O O O hb15 O (Aa O (Af (Cp O O (Aq (Ag (Ab (Aa O (Af (Bg ?_)))))))));show ∃ _,_;cases h;exact ⟨[],_,O,Y,O,.eq O,O⟩
def Hu (N:Nat) (g_0:Grf):Option (Bool):=
 (Kx N g_0).bind fun v1=>
 some (v1.toList==(ByteArray.mk #[]).toList)
theorem Wx (N:Nat) (g_0:Grf) (r:Bool) (h:Hu N g_0=some r):PCall Tryz.prog 98 [gD g_0] [] (.bool r):=by
 unfold Hu at h;refine Aj (TT:=TT) tt Tryz.func98 O O Tryz.ntmps98 (congrArg Array.toList Tryz.results98) O O fun w0=>(Ag (Ab (Hz O O O O O O O O O (Aa O (Af (Ag (Ab (Aa O ?_))))))));obtain ⟨v1,hc1,h⟩:=Ae h;refine Ba (Zx N g_0 v1 hc1) O O O O O O O O ⟨⟨O,O,Y⟩,Y⟩ (Fz (Ai O) (pStrEq O O O) O O (Aa O (Af (Bg ?_))));show ∃ _,_;cases h;exact ⟨[],_,O,Y,O,.eq O,O⟩
def Pw (N:Nat) (g_0:Grf) (mask_1:Int):Option (Bool):=
 grd (0≤g_0.n∧g_0.n<64∧Bc ((1:Int)*2 ^ ((g_0.n).toNat))) <|
 grd (Bc (((1:Int)*2 ^ ((g_0.n).toNat))-(1:Int))) <|
 grd (Bc ((((1:Int)*2 ^ ((g_0.n).toNat))-(1:Int))-mask_1)) <|
 (Qj N ((((1:Int)*2 ^ ((g_0.n).toNat))-(1:Int))-mask_1) g_0.n).bind fun v1=>
 (Ht N g_0 v1).bind fun v2=>
 (Hu N v2).bind fun v3=>
 some v3
theorem Zh (N:Nat) (g_0:Grf) (mask_1:Int) (r:Bool) (h:Pw N g_0 mask_1=some r):PCall Tryz.prog 44 [gD g_0,.int mask_1] [] (.bool r):=by
 unfold Pw at h;refine Aj (TT:=TT) tt Tryz.func44 O O Tryz.ntmps44 (congrArg Array.toList Tryz.results44) O O fun w0=>(Ag (Ab (Hz O O O O O O O O O (Aa O (Af (Ag (Dn 10 [9] [0,0,2,6,14,0,62,0,128,510,1023,2047,4095] (by kernel_rfl) (by kernel_rfl) (by kernel_rfl) (by kernel_rfl) (by kernel_rfl) O (by rfl) ?_)))))));iterate 3 refine Fy tt O (Ai O) O O O O O Y ?_
 obtain ⟨hg1,h⟩:=Ac h;refine Fy tt O (Ai O) O O O O O hg1 ?_;obtain ⟨hg2,h⟩:=Ac h;refine Fy tt O (Ai O) O O O O O hg2 (Fy tt O (Ai O) O O O O O Y ?_);obtain ⟨hg3,h⟩:=Ac h;refine Fy tt O (Ai O) O O O O O hg3 ?_;iterate 2 refine Fy tt O (Ai O) O O O O O Y ?_
 obtain ⟨v1,hc4,h⟩:=Ae h;refine Rd (Yh N ((((1:Int)*2 ^ ((g_0.n).toNat))-(1:Int))-mask_1) g_0.n v1 hc4) rfl (Ai rfl) rfl rfl rfl rfl rfl rfl (by first | rfl | kernel_rfl | (simp [nrL,nm,Hy,nmT,Jv]; done)) rfl (by first | rfl | kernel_rfl | (simp [Pr,nrL,nm,Hy,nmT,Jv,hid,Jp,Fb,Dh]; done) | (simp [Pr,nrL,nm,Hy,nmT,Jv,hid,Jp,Fb,Dh]; decide)) ⟨rfl,rfl,Y⟩ (Tb ?_);show VO _ _ _ _ _;obtain ⟨v2,hc5,h⟩:=Ae h;refine Ba (Ry N g_0 v1 v2 hc5) O O O O O O O O ⟨⟨O,O,Y⟩,(.inl ⟨O,O⟩),Y⟩ ?_;obtain ⟨v3,hc6,h⟩:=Ae h;refine Ba (Wx N v2 v3 hc6) O O O O O O O O ⟨⟨O,(.inl ⟨O,O⟩),Y⟩,Y⟩ (Aa O (Af (Bg ?_)));show ∃ _,_;cases h;exact ⟨[],_,O,Y,O,.eq O,O⟩
end
section
open Go.RowKit
def Cb (N:Nat) (g_0:Grf) (v1:Grf×Bool) (base4:Int) (k:Int→Option (List Int)):Nat→(Int×Int)→Option (List Int)
 | 0,_=>none
 | n+1,(all14,x15)=>
  cnd (decide (x15<((1:Int)*2 ^ ((g_0.n).toNat)))) (
   cnd ((Wf x15 base4)==base4) (
    (Pw N v1.1 x15).bind fun v17=>
    cnd v17 (
     grd (Bc (x15+(1:Int))) <|
     Cb N g_0 v1 base4 k n ((orI all14 x15),(x15+(1:Int)))) (
     grd (Bc (x15+(1:Int))) <|
     Cb N g_0 v1 base4 k n (all14,(x15+(1:Int))))) (
    grd (Bc (x15+(1:Int))) <|
    Cb N g_0 v1 base4 k n (all14,(x15+(1:Int))))) (
   k all14)
def El (N:Nat) (anchors_1:List Int) (k:Int→Option (List Int)):Nat→(Int×Int)→Option (List Int)
 | 0,_=>none
 | n+1,(base19,x20)=>
  cnd (decide (x20<(anchors_1.length:Int))) (
   grd (0≤x20∧x20<(anchors_1.length:Int)) <|
   grd (0≤(anchors_1.getD ((x20).toNat) 0)∧(anchors_1.getD ((x20).toNat) 0)<64∧Bc ((1:Int)*2 ^ (((anchors_1.getD ((x20).toNat) 0)).toNat))) <|
   grd (Bc (x20+(1:Int))) <|
   El N anchors_1 k n ((orI base19 ((1:Int)*2 ^ (((anchors_1.getD ((x20).toNat) 0)).toNat))),(x20+(1:Int)))) (
   k base19)
def Ea (N:Nat) (g_0:Grf) (anchors_1:List Int):Option (List Int):=
 (Fj N g_0 anchors_1).bind fun v1=>
 cnd (!v1.2) (
  some ([]:List Int)) (
  cnd (decide ((anchors_1.length:Int)<(3:Int))) (
   some ([]:List Int)) (
   El N anchors_1 (fun (base4 : Int) =>
      grd (0≤g_0.n∧g_0.n<64∧Bc ((1:Int)*2 ^ ((g_0.n).toNat))) <|
      Cb N g_0 v1 base4 (fun (all10 : Int) =>
         (Qj N all10 g_0.n).bind fun v11=>
         some v11) N ((0:Int),(0:Int))) N ((0:Int),(0:Int))))
theorem Kj (N:Nat) (g_0:Grf) (anchors_1:List Int) (r:List Int) (h:Ea N g_0 anchors_1=some r):PCall Tryz.prog 7 [gD g_0,.ro false (.ints anchors_1)] [(3,.ints r)] (.row 0 0 r.length):=by
 unfold Ea at h;refine Aj (TT:=TT) tt Tryz.func7 O O Tryz.ntmps7 (congrArg Array.toList Tryz.results7) O O fun w0=>(Ag (Ab (Hz O O O O O O O O O (Aa O (Af (Ag (Ab (Aa O (Aa O ?_)))))))));obtain ⟨v1,hc1,h⟩:=Ae h;refine Ba (Rw N g_0 anchors_1 v1 hc1) O O O O O O O O ⟨⟨O,O,Y⟩,O,Y⟩ (Aa O (Aa O (Aa O (Bi tt O O O O O O O O O (Ao tt O O O O O O O O O O O ⟨Y,Y,Y⟩ (Aa O (Af (Ag (Ag ?_)))))))));refine Ab (Aa O (Aa O (Aa O (Be O O O (fun hb2=>?_) (fun hb2=>?_)))))
 ·replace h:=Ak hb2 h;iterate 3 refine Hg O O O O hb2 O O ?_
  refine Bm O O O O O hb2 O (Af (Ce O O (Ag (Ab (Gr tt (Ai O) O O O O (Aa O (Af (Jq 4 9001 3 (.ints []) O O O O (Bg ?_)))))))));show ∃ _,_;cases h;exact ⟨[9001],_,O,⟨O,Y⟩,O,.eq O,O⟩
 replace h:=Al hb2 h;iterate 3 refine Av tt O O O O O hb2 O O O Y ?_
 refine Aw O O O O O hb2 O (Af (Ar O (fun hb3=>?_) (fun hb3=>?_)))
 ·replace h:=Ak hb3 h;refine Ag (Ab (Gr tt (Ai O) O O O O (Aa O (Af (Jq 4 9001 3 (.ints []) O O O O (Bg ?_))))));show ∃ _,_;cases h;exact ⟨[9001],_,O,⟨O,Y⟩,O,.eq O,O⟩
 replace h:=Al hb3 h;refine Aq (Ag (Ab (Aa O (Af (Ag (Ag (Ab (Aa O (Aa O ?_)))))))));refine Aa O (Af (Bz (F:=fun k=>El N anchors_1 k) h (α:=Int) (J:=fun (base4:Int)=>(⟨[(2,.ptr 2 0),(5,.ptr 5 0),(7,.int base4)],[(1150,some (42,.pairs v1.1.bars))],[(2,some [.int g_0.n,.ro false (.pairs g_0.bars)]),(5,some [.int v1.1.n,.row 1150 0 v1.1.bars.length])]⟩:PS)) ?_ ?_))
 ·rintro base4 h;show VC _ _ _ (⟨[(2,.ptr 2 0),(5,.ptr 5 0),(7,.int base4)],[(1150,some (42,.pairs v1.1.bars))],[(2,some [.int g_0.n,.ro false (.pairs g_0.bars)]),(5,some [.int v1.1.n,.row 1150 0 v1.1.bars.length])]⟩:PS);refine Ag (Ab (Aa O (Af (Ag (Ag (Ab (Aa O (Aa O ?_))))))));obtain ⟨hg4,h⟩:=Ac h;refine Ad tt O hg4 (Aa O (Af (Bz (F:=fun k=>Cb N g_0 v1 base4 k) h (α:=Int) (J:=fun (all10:Int)=>(⟨[(2,.ptr 2 0),(10,.int all10)],[],[(2,some [.int g_0.n,.ro false (.pairs g_0.bars)])]⟩:PS)) ?_ ?_)))
  ·rintro all10 h;show VC _ _ _ (⟨[(2,.ptr 2 0),(10,.int all10)],[],[(2,some [.int g_0.n,.ro false (.pairs g_0.bars)])]⟩:PS);refine Ag (Ab (Aa O (Aa O (Aa O ?_))));obtain ⟨v11,hc5,h⟩:=Ae h;refine Ba (Yh N all10 g_0.n v11 hc5) O O O O O O O O ⟨O,O,Y⟩ (Aa O (Af (Bg ?_)));show ∃ _,_;cases h;exact ⟨[1600],_,O,⟨O,Y⟩,O,.eq O,O⟩
  intro k h;refine Ap (Bh (α:=Int×Int) (fun | (all14,x15)=>(⟨[(2,.ptr 2 0),(5,.ptr 5 0),(7,.int base4),(10,.int all14),(39,.int ((1:Int)*2 ^ ((g_0.n).toNat))),(40,.int x15)],[(1150,some (42,.pairs v1.1.bars))],[(2,some [.int g_0.n,.ro false (.pairs g_0.bars)]),(5,some [.int v1.1.n,.row 1150 0 v1.1.bars.length])]⟩:PS)) (Cb N g_0 v1 base4 k) h (En.of ⟨rfl,rfl,rfl,rfl,rfl,rfl,Y⟩ ⟨rfl,Y⟩ ⟨rfl,rfl,Y⟩) (fun _=>rfl) ?_);rintro n ⟨all14,x15⟩ h;rw [Cb] at h;show VC _ _ _ (⟨[(2,.ptr 2 0),(5,.ptr 5 0),(7,.int base4),(10,.int all14),(39,.int ((1:Int)*2 ^ ((g_0.n).toNat))),(40,.int x15)],[(1150,some (42,.pairs v1.1.bars))],[(2,some [.int g_0.n,.ro false (.pairs g_0.bars)]),(5,some [.int v1.1.n,.row 1150 0 v1.1.bars.length])]⟩:PS);refine Ag (Ab (Aa O (Af (Ag (Ar O (fun hb6=>?_) (fun hb6=>?_))))))
  ·replace h:=Ak hb6 h;refine Aq (Ag (Ap (Ag (Ab (Aa O (Aa O (Af (Ag (Ab ?_)))))))));iterate 6 refine Aa O ?_
   refine Be O O O (fun hb7=>?_) (fun hb7=>?_)
   ·replace h:=Ak hb7 h;iterate 2 refine Av tt O O O O O hb7 O O O Y ?_
    obtain ⟨v17,hc8,h⟩:=Ae h;refine Eh (Zh N v1.1 x15 v17 hc8) O O O O hb7 O O O O O O O ⟨⟨O,(.inl ⟨O,O⟩),Y⟩,O,Y⟩ (Bm O O O O O hb7 O (Af (Ar O (fun hb9=>?_) (fun hb9=>?_))))
    ·replace h:=Ak hb9 h;refine Ab ?_;iterate 4 refine Aa O ?_
     refine Af (Ab ?_);obtain ⟨hg10,h⟩:=Ac h;refine Ad tt O hg10 (Aa O (Af ?_));show ∃ _,_;exact ⟨((orI all14 x15),(x15+(1:Int))),(En.of ⟨O,O,O,O,O,O,Y⟩ ⟨O,Y⟩ ⟨O,O,Y⟩),h⟩
    replace h:=Al hb9 h;refine Aq (Ab ?_);obtain ⟨hg11,h⟩:=Ac h;refine Ad tt O hg11 (Aa O (Af ?_));show ∃ _,_;exact ⟨(all14,(x15+(1:Int))),(En.of ⟨O,O,O,O,O,O,Y⟩ ⟨O,Y⟩ ⟨O,O,Y⟩),h⟩
   replace h:=Al hb7 h;iterate 3 refine Kq O O O O hb7 O O ?_
   refine Aw O O O O O hb7 O (Af (Cp O O (Aq (Ab ?_))));obtain ⟨hg12,h⟩:=Ac h;refine Ad tt O hg12 (Aa O (Af ?_));show ∃ _,_;exact ⟨(all14,(x15+(1:Int))),(En.of ⟨O,O,O,O,O,O,Y⟩ ⟨O,Y⟩ ⟨O,O,Y⟩),h⟩
  replace h:=Al hb6 h;refine Bp ?_;show ∃ _,_;exact ⟨all14,(En.of ⟨O,O,Y⟩ trivial ⟨O,Y⟩),h⟩
 intro k h;refine Ap (Bh (α:=Int×Int) (fun | (base19,x20)=>(⟨[(2,.ptr 2 0),(5,.ptr 5 0),(7,.int base19),(26,.ro false (.ints anchors_1)),(27,.int (anchors_1.length:Int)),(28,.int x20)],[(1150,some (42,.pairs v1.1.bars))],[(2,some [.int g_0.n,.ro false (.pairs g_0.bars)]),(5,some [.int v1.1.n,.row 1150 0 v1.1.bars.length])]⟩:PS)) (El N anchors_1 k) h (En.of ⟨rfl,rfl,rfl,rfl,rfl,rfl,Y⟩ ⟨rfl,Y⟩ ⟨rfl,rfl,Y⟩) (fun _=>rfl) ?_);rintro n ⟨base19,x20⟩ h;rw [El] at h;show VC _ _ _ (⟨[(2,.ptr 2 0),(5,.ptr 5 0),(7,.int base19),(26,.ro false (.ints anchors_1)),(27,.int (anchors_1.length:Int)),(28,.int x20)],[(1150,some (42,.pairs v1.1.bars))],[(2,some [.int g_0.n,.ro false (.pairs g_0.bars)]),(5,some [.int v1.1.n,.row 1150 0 v1.1.bars.length])]⟩:PS);refine Ag (Ab (Aa O (Af (Ag (Ar O (fun hb13=>?_) (fun hb13=>?_))))))
 ·replace h:=Ak hb13 h;refine Aq (Ag (Ap (Ag (Ab ?_))));obtain ⟨hg14,h⟩:=Ac h;refine Ad tt O hg14 (Aa O (Aa O (Af (Ab (Aa O (Aa O ?_))))));obtain ⟨hg15,h⟩:=Ac h;refine Ad tt O hg15 (Aa O (Aa O (Af (Ab ?_))));obtain ⟨hg16,h⟩:=Ac h;refine Ad tt O hg16 (Aa O (Af ?_));show ∃ _,_;exact ⟨((orI base19 ((1:Int)*2 ^ (((anchors_1.getD ((x20).toNat) 0)).toNat))),(x20+(1:Int))),(En.of ⟨O,O,O,O,O,O,Y⟩ ⟨O,Y⟩ ⟨O,O,Y⟩),h⟩
 replace h:=Al hb13 h;refine Bp ?_;show ∃ _,_;exact ⟨base19,(En.of ⟨O,O,O,Y⟩ ⟨O,Y⟩ ⟨O,O,Y⟩),h⟩
end
section
open Go.RowKit
def Eu (N:Nat) (g_0:Grf) (a88:Int) (k:(List (Int×Int))→Option (List (Int×Int))):Nat→((List (Int×Int))×Int)→Option (List (Int×Int))
 | 0,_=>none
 | n+1,(l111,b112)=>
  cnd (decide (b112<g_0.n)) (
   (Mo N g_0 a88 b112).bind fun v114=>
   cnd (v114==(0:Int)) (
    grd (l111.length+1≤4294967296) <|
    grd (Bc (b112+(1:Int))) <|
    Eu N g_0 a88 k n ((l111++([(a88,b112)]:List (Int×Int))),(b112+(1:Int)))) (
    grd (Bc (b112+(1:Int))) <|
    Eu N g_0 a88 k n (l111,(b112+(1:Int))))) (
   k l111)
def Cg (N:Nat) (g_0:Grf) (k:(List (Int×Int))→Option (List (Int×Int))):Nat→((List (Int×Int))×Int)→Option (List (Int×Int))
 | 0,_=>none
 | n+1,(l87,a88)=>
  cnd (decide (a88<g_0.n)) (
   (Dg N g_0).bind fun v102=>
   cnd v102 (
    grd (Bc (a88+(1:Int))) <|
    Eu N g_0 a88 (fun (l108 : List (Int × Int)) =>
       Cg N g_0 k n (l108,(a88+(1:Int)))) N (l87,(a88+(1:Int)))) (
    k l87)) (
   k l87)
def Gd (N:Nat) (g_0:Grf):Option (List (Int×Int)):=
 Cg N g_0 (fun (l57 : List (Int × Int)) =>
    some l57) N (([]:List (Int×Int)),(0:Int))
theorem Aap (N:Nat) (g_0:Grf) (r:List (Int×Int)) (h:Gd N g_0=some r):PCall Tryz.prog 72 [gD g_0] [(42,.pairs r)] (.row 0 0 r.length):=by
 unfold Gd at h;refine Aj (TT:=TT) tt Tryz.func72 O O Tryz.ntmps72 (congrArg Array.toList Tryz.results72) O O fun w0=>(Ag (Ab (Hz O O O O O O O O O (Aa O (Af (Ag (Ab (Gr tt (Ai O) O O O O (Aa O ?_)))))))));refine Af (Ag (Ag (Ab (Aa O (Af (Bz (F:=fun k=>Cg N g_0 k) h (α:=List (Int×Int)) (J:=fun (l57:List (Int×Int))=>(⟨[(3,.row 35 0 l57.length)],[(35,some (42,.pairs l57))],[]⟩:PS)) ?_ ?_))))))
 ·rintro l57 h;show VC _ _ _ (⟨[(3,.row 35 0 l57.length)],[(35,some (42,.pairs l57))],[]⟩:PS);refine Ag (Ab (Aa O (Aa O (Af (Bg ?_)))));show ∃ _,_;cases h;exact ⟨[35],_,O,⟨O,Y⟩,O,.eq O,O⟩
 intro k h;refine Ap (Jq 3 35 42 (.pairs []) rfl rfl rfl rfl (Bh (α:=(List (Int×Int))×Int) (fun | (l87,a88)=>(⟨[(1,.ptr 1 0),(3,.row 35 0 l87.length),(4,.int a88)],[(35,some (42,.pairs l87))],[(1,some [.int g_0.n,.ro false (.pairs g_0.bars)])]⟩:PS)) (Cg N g_0 k) h (En.of ⟨rfl,rfl,rfl,Y⟩ ⟨rfl,Y⟩ ⟨rfl,Y⟩) (fun _=>rfl) ?_));rintro n ⟨l87,a88⟩ h;rw [Cg] at h;show VC _ _ _ (⟨[(1,.ptr 1 0),(3,.row 35 0 l87.length),(4,.int a88)],[(35,some (42,.pairs l87))],[(1,some [.int g_0.n,.ro false (.pairs g_0.bars)])]⟩:PS);refine Ag (Ag (Ab ?_));iterate 5 refine Aa O ?_
 refine Be O O O (fun hb1=>?_) (fun hb1=>?_)
 ·replace h:=Ak hb1 h;refine Av tt O O O O O hb1 O O O Y ?_;obtain ⟨v102,hc2,h⟩:=Ae h;refine Eh (Ez N g_0 v102 hc2) O O O O hb1 O O O O O O O ⟨⟨O,O,Y⟩,Y⟩ (Bm O O O O O hb1 O (Af (Ar O (fun hb3=>?_) (fun hb3=>?_))))
  ·replace h:=Ak hb3 h;refine Aq (Ag (Ap (Ag (Ab (Aa O ?_)))));obtain ⟨hg4,h⟩:=Ac h;refine Ad tt O hg4 (Aa O (Af (Bz (F:=fun k=>Eu N g_0 a88 k) h (α:=List (Int×Int)) (J:=fun (l108:List (Int×Int))=>(⟨[(1,.ptr 1 0),(3,.row 35 0 l108.length),(4,.int a88)],[(35,some (42,.pairs l108))],[(1,some [.int g_0.n,.ro false (.pairs g_0.bars)])]⟩:PS)) ?_ ?_)))
   ·rintro l108 h;show VC _ _ _ (⟨[(1,.ptr 1 0),(3,.row 35 0 l108.length),(4,.int a88)],[(35,some (42,.pairs l108))],[(1,some [.int g_0.n,.ro false (.pairs g_0.bars)])]⟩:PS);refine Ab (Aa O (Ad tt O hg4 (Aa O (Af ?_))));show ∃ _,_;exact ⟨(l108,(a88+(1:Int))),(En.of ⟨O,O,O,Y⟩ ⟨O,Y⟩ ⟨O,Y⟩),h⟩
   intro k h;refine Ap (Bh (α:=(List (Int×Int))×Int) (fun | (l111,b112)=>(⟨[(1,.ptr 1 0),(3,.row 35 0 l111.length),(4,.int a88),(5,.int b112)],[(35,some (42,.pairs l111))],[(1,some [.int g_0.n,.ro false (.pairs g_0.bars)])]⟩:PS)) (Eu N g_0 a88 k) h (En.of ⟨rfl,rfl,rfl,rfl,Y⟩ ⟨rfl,Y⟩ ⟨rfl,Y⟩) (fun _=>rfl) ?_);rintro n ⟨l111,b112⟩ h;rw [Eu] at h;show VC _ _ _ (⟨[(1,.ptr 1 0),(3,.row 35 0 l111.length),(4,.int a88),(5,.int b112)],[(35,some (42,.pairs l111))],[(1,some [.int g_0.n,.ro false (.pairs g_0.bars)])]⟩:PS);refine Ag (Ag (Ab ?_));iterate 4 refine Aa O ?_
   refine Af (Ar O (fun hb5=>?_) (fun hb5=>?_))
   ·replace h:=Ak hb5 h;refine Aq (Ag (Ap (Ag (Ab (Aa O (Aa O (Aa O ?_)))))));obtain ⟨v114,hc6,h⟩:=Ae h;refine Ba (Tu N g_0 a88 b112 v114 hc6) O O O O O O O O ⟨⟨O,O,Y⟩,O,O,Y⟩ (Aa O (Af (Ar O (fun hb7=>?_) (fun hb7=>?_))))
    ·replace h:=Ak hb7 h;refine Ab (Aa O (Aa O (Aa O (Fz (Ai O) (Df Bx O O) O O (Cr tt O O O O O O O O O O O ?_)))));obtain ⟨hg8,h⟩:=Ac h;refine Bt tt O O O O O O O O O O O O O O O O (Nat.le_of_eq (Nat.zero_add _)) hg8 (Aa O (Af (Ab (Aa O ?_))));obtain ⟨hg9,h⟩:=Ac h;refine Ad tt O hg9 (Aa O (Af ?_));show ∃ _,_;exact ⟨((l111++([(a88,b112)]:List (Int×Int))),(b112+(1:Int))),(En.of ⟨O,O,O,O,Y⟩ ⟨O,Y⟩ ⟨O,Y⟩),h⟩
    replace h:=Al hb7 h;refine Aq (Ab (Aa O ?_));obtain ⟨hg10,h⟩:=Ac h;refine Ad tt O hg10 (Aa O (Af ?_));show ∃ _,_;exact ⟨(l111,(b112+(1:Int))),(En.of ⟨O,O,O,O,Y⟩ ⟨O,Y⟩ ⟨O,Y⟩),h⟩
   replace h:=Al hb5 h;refine Bp ?_;show ∃ _,_;exact ⟨l111,(En.of ⟨O,O,O,Y⟩ ⟨O,Y⟩ ⟨O,Y⟩),h⟩
  replace h:=Al hb3 h;refine Bp ?_;show ∃ _,_;exact ⟨l87,(En.of ⟨O,Y⟩ ⟨O,Y⟩ trivial),h⟩
 replace h:=Al hb1 h;iterate 2 refine Kq O O O O hb1 O O ?_
 refine Aw O O O O O hb1 O (Af (Cp O O (Bp ?_)));show ∃ _,_;exact ⟨l87,(En.of ⟨O,Y⟩ ⟨O,Y⟩ trivial),h⟩
def Cl (N:Nat) (g_0:Grf) (anchors_1:List Int) (v1:List (Int×Int)) (k:(Bool×Int×Int)→Option ((Int×Int)×Bool)):Nat→(Int×Bool×Int×Int×Int)→Option ((Int×Int)×Bool)
 | 0,_=>none
 | n+1,(most24,found25,i26,c27,c28)=>
  cnd (decide (i26<(v1.length:Int))) (
   (Jd N g_0 anchors_1).bind fun v32=>
   cnd v32 (
    cnd (decide ((g_0.bars.length:Int)<(24:Int))) (
     grd (0≤i26∧i26<(v1.length:Int)) <|
     (Fv N g_0 (v1.getD ((i26).toNat) (0,0))).bind fun v33=>
     (Ff N v33 anchors_1).bind fun v34=>
     cnd (decide ((v34.length:Int) > most24)) (
      grd (Bc (i26+(1:Int))) <|
      Cl N g_0 anchors_1 v1 k n ((v34.length:Int),true,(i26+(1:Int)),(v1.getD ((i26).toNat) (0,0)).1,(v1.getD ((i26).toNat) (0,0)).2)) (
      grd (Bc (i26+(1:Int))) <|
      Cl N g_0 anchors_1 v1 k n (most24,found25,(i26+(1:Int)),c27,c28))) (
     k (found25,c27,c28))) (
    k (found25,c27,c28))) (
   k (found25,c27,c28))
def Lr (N:Nat) (g_0:Grf) (anchors_1:List Int):Option ((Int×Int)×Bool):=
 (Gd N g_0).bind fun v1=>
 (Ff N g_0 anchors_1).bind fun v2=>
 Cl N g_0 anchors_1 v1 (fun (x:Bool×Int×Int)=>
   match x with
   | (found17,c18,c19)=>
    some ((c18,c19),found17)) N ((v2.length:Int),false,(0:Int),(0:Int),(0:Int))
theorem Aba (N:Nat) (g_0:Grf) (anchors_1:List Int) (r:(Int×Int)×Bool) (h:Lr N g_0 anchors_1=some r):PCall Tryz.prog 24 [gD g_0,.ro false (.ints anchors_1)] [] (.tup [.agg [.int r.1.1,.int r.1.2],.bool r.2]):=by
 unfold Lr at h;refine Aj (TT:=TT) tt Tryz.func24 O O Tryz.ntmps24 (congrArg Array.toList Tryz.results24) O O fun w0=>(Ag (Ab (Hz O O O O O O O O O (Bi tt O O O O O O O O O (Aa O (Af (Ag (Ab (Aa O ?_)))))))));obtain ⟨v1,hc1,h⟩:=Ae h;refine Ba (Aap N g_0 v1 hc1) O O O O O O O O ⟨⟨O,O,Y⟩,Y⟩ (Aa O (Af (Ag (Ab (Fz (Ai O) (Df Bx O O) O O (Bi tt O O O O O O O O O (Ao tt O O O O O O O O O O O ⟨Y,Y,Y⟩ (Af (Ag ?_)))))))));refine Ab (Aa O (Aa O ?_));obtain ⟨v2,hc2,h⟩:=Ae h;refine Ba (Mi N g_0 anchors_1 v2 hc2) O O O O O O O O ⟨⟨O,O,Y⟩,O,Y⟩ (Aa O (Aa O (Af (Ag (Ab (Aa O (Af (Ag (Ag ?_)))))))));refine Ab (Aa rfl (Af (Bz (F:=fun k=>Cl N g_0 anchors_1 v1 k) h (α:=Bool×Int×Int) (J:=fun | (found17,c18,c19)=>(⟨[(4,.ptr 4 0),(7,.ptr 7 0),(9,.bool found17)],[],[(4,some [.int (0:Int),.int (0:Int)]),(7,some [.int c18,.int c19])]⟩:PS)) ?_ ?_)))
 ·rintro ⟨found17,c18,c19⟩ h;show VC _ _ _ (⟨[(4,.ptr 4 0),(7,.ptr 7 0),(9,.bool found17)],[],[(4,some [.int (0:Int),.int (0:Int)]),(7,some [.int c18,.int c19])]⟩:PS);refine Ag (Ab (Aa O (Aa O (Ao tt O O O O O O O O O O O ⟨Y,Y,Y⟩ (Aa O (Af (Bg ?_)))))));show ∃ _,_;cases h;exact ⟨[],_,O,Y,O,.eq O,O⟩
 intro k h;refine Ap (Bh (α:=Int×Bool×Int×Int×Int) (fun | (most24,found25,i26,c27,c28)=>(⟨[(1,.ro false (.ints anchors_1)),(2,.ptr 2 0),(4,.ptr 4 0),(6,.row 1130 0 v1.length),(7,.ptr 7 0),(8,.int most24),(9,.bool found25),(10,.int i26)],[(1130,some (42,.pairs v1))],[(2,some [.int g_0.n,.ro false (.pairs g_0.bars)]),(4,some [.int (0:Int),.int (0:Int)]),(7,some [.int c27,.int c28])]⟩:PS)) (Cl N g_0 anchors_1 v1 k) h (En.of ⟨rfl,rfl,rfl,rfl,rfl,rfl,rfl,rfl,Y⟩ ⟨rfl,Y⟩ ⟨rfl,rfl,rfl,Y⟩) (fun _=>rfl) ?_);rintro n ⟨most24,found25,i26,c27,c28⟩ h;rw [Cl] at h;show VC _ _ _ (⟨[(1,.ro false (.ints anchors_1)),(2,.ptr 2 0),(4,.ptr 4 0),(6,.row 1130 0 v1.length),(7,.ptr 7 0),(8,.int most24),(9,.bool found25),(10,.int i26)],[(1130,some (42,.pairs v1))],[(2,some [.int g_0.n,.ro false (.pairs g_0.bars)]),(4,some [.int (0:Int),.int (0:Int)]),(7,some [.int c27,.int c28])]⟩:PS);refine Ag (Ag (Ab ?_));iterate 5 refine Aa O ?_
 refine Be O O O (fun hb3=>?_) (fun hb3=>?_)
 ·replace h:=Ak hb3 h;iterate 2 refine Av tt O O O O O hb3 O O O Y ?_
  obtain ⟨v32,hc4,h⟩:=Ae h;refine Eh (Mw N g_0 anchors_1 v32 hc4) O O O O hb3 O O O O O O O ⟨⟨O,O,Y⟩,O,Y⟩ (Bm O O O O O hb3 O (Aa O (Be O O O (fun hb5=>?_) (fun hb5=>?_))))
  ·replace h:=Ak hb5 h;iterate 4 refine Av tt O O O O O hb5 O O O Y ?_
   refine Bm O O O O O hb5 O (Af (Ar O (fun hb6=>?_) (fun hb6=>?_)))
   ·replace h:=Ak hb6 h;refine Aq (Ag (Ap (Ag (Dn 7 [5] [0,0,0,6,14,31,0,127,255,511] (by kernel_rfl) (by kernel_rfl) (by kernel_rfl) (by kernel_rfl) (by kernel_rfl) O (by rfl) ?_))));iterate 3 refine Fy tt O (Ai O) O O O O O Y ?_
    obtain ⟨hg7,h⟩:=Ac h;iterate 2 refine Fy tt O (Ai O) O O O O O hg7 ?_
    obtain ⟨v33,hc8,h⟩:=Ae h;refine Rd (Ke N g_0 (v1.getD ((i26).toNat) (0,0)) v33 hc8) rfl (Ai rfl) rfl rfl rfl rfl rfl rfl (by first | rfl | kernel_rfl | (simp [nrL,nm,Hy,nmT,Jv]; done)) rfl (by first | rfl | kernel_rfl | (simp [Pr,nrL,nm,Hy,nmT,Jv,hid,Jp,Fb,Dh]; done) | (simp [Pr,nrL,nm,Hy,nmT,Jv,hid,Jp,Fb,Dh]; decide)) ⟨⟨rfl,rfl,Y⟩,⟨rfl,rfl,Y⟩,Y⟩ (Fy tt rfl (Ai rfl) rfl rfl rfl rfl rfl Y (Tb ?_));show VO _ _ _ _ _;obtain ⟨v34,hc9,h⟩:=Ae h;refine Ba (Mi N v33 anchors_1 v34 hc9) O O O O O O O O ⟨⟨O,(.inl ⟨O,O⟩),Y⟩,O,Y⟩ (Aa O (Aa O (Af (Ag (Ab (Aa O (Aa O (Aa O (Af ?_)))))))));refine Ar O (fun hb10=>?_) (fun hb10=>?_)
    ·replace h:=Ak hb10 h;refine Ag (Ab (Aa O (Aa O (Af (Ag (Ab (Aa O (Aa O (Ad tt O hg7 ?_)))))))));refine Ad tt O hg7 (Ao tt O O O O O O O O O O O ⟨Y,Y,Y⟩ (Af (Ab (Aa O (Af (Ab (Aa O ?_)))))));obtain ⟨hg11,h⟩:=Ac h;refine Ad tt O hg11 (Aa O (Af ?_));show ∃ _,_;exact ⟨((v34.length:Int),true,(i26+(1:Int)),(v1.getD ((i26).toNat) (0,0)).1,(v1.getD ((i26).toNat) (0,0)).2),(En.of ⟨O,O,O,O,O,O,O,O,Y⟩ ⟨O,Y⟩ ⟨O,O,O,Y⟩),h⟩
    replace h:=Al hb10 h;refine Aq (Ab (Aa O ?_));obtain ⟨hg12,h⟩:=Ac h;refine Ad tt O hg12 (Aa O (Af ?_));show ∃ _,_;exact ⟨(most24,found25,(i26+(1:Int)),c27,c28),(En.of ⟨O,O,O,O,O,O,O,O,Y⟩ ⟨O,Y⟩ ⟨O,O,O,Y⟩),h⟩
   replace h:=Al hb6 h;refine Bp ?_;show ∃ _,_;exact ⟨(found25,c27,c28),(En.of ⟨O,O,O,Y⟩ trivial ⟨O,O,Y⟩),h⟩
  replace h:=Al hb5 h;iterate 4 refine Kq O O O O hb5 O O ?_
  refine Aw O O O O O hb5 O (Af (Cp O O (Bp ?_)));show ∃ _,_;exact ⟨(found25,c27,c28),(En.of ⟨O,O,O,Y⟩ trivial ⟨O,O,Y⟩),h⟩
 replace h:=Al hb3 h;iterate 3 refine Kq O O O O hb3 O O ?_
 refine Aw O O O O O hb3 O (Aa O ?_);iterate 4 refine Kq O O O O O O O ?_
 refine Aw O O O O O O O (Af (Cp O O (Bp ?_)));show ∃ _,_;exact ⟨(found25,c27,c28),(En.of ⟨O,O,O,Y⟩ trivial ⟨O,O,Y⟩),h⟩
def Er (N:Nat) (g_0:Grf) (anchors_1:List Int) (v3:List (Int×Int)) (k:(Bool×Int×Int)→Option ((Int×Int)×Bool)):Nat→(Bool×Int×Int×Int×Int)→Option ((Int×Int)×Bool)
 | 0,_=>none
 | n+1,(found21,most22,x23,c24,c25)=>
  cnd (decide (x23<(v3.length:Int))) (
   grd (0≤x23∧x23<(v3.length:Int)) <|
   (Md N g_0 ([((v3.getD ((x23).toNat) (0,0)).1,(v3.getD ((x23).toNat) (0,0)).2)]:List (Int×Int))).bind fun v28=>
   (Ea N v28 anchors_1).bind fun v29=>
   cnd (decide ((v29.length:Int) > most22)) (
    grd (Bc (x23+(1:Int))) <|
    Er N g_0 anchors_1 v3 k n (true,(v29.length:Int),(x23+(1:Int)),(v3.getD ((x23).toNat) (0,0)).1,(v3.getD ((x23).toNat) (0,0)).2)) (
    grd (Bc (x23+(1:Int))) <|
    Er N g_0 anchors_1 v3 k n (found21,most22,(x23+(1:Int)),c24,c25))) (
   k (found21,c24,c25))
def Kl (N:Nat) (g_0:Grf) (anchors_1:List Int):Option ((Int×Int)×Bool):=
 (He N g_0 anchors_1).bind fun v1=>
 cnd (!v1) (
  some (((0:Int),(0:Int)),false)) (
  cnd ((g_0.bars.length:Int)==(24:Int)) (
   some (((0:Int),(0:Int)),false)) (
   (Ea N g_0 anchors_1).bind fun v2=>
   (Jf N g_0).bind fun v3=>
   Er N g_0 anchors_1 v3 (fun (x:Bool×Int×Int)=>
     match x with
     | (found15,c16,c17)=>
      some ((c16,c17),found15)) N (false,(v2.length:Int),(0:Int),(0:Int),(0:Int))))
theorem Aav (N:Nat) (g_0:Grf) (anchors_1:List Int) (r:(Int×Int)×Bool) (h:Kl N g_0 anchors_1=some r):PCall Tryz.prog 23 [gD g_0,.ro false (.ints anchors_1)] [] (.tup [.agg [.int r.1.1,.int r.1.2],.bool r.2]):=by
 unfold Kl at h;refine Aj (TT:=TT) tt Tryz.func23 O O Tryz.ntmps23 (congrArg Array.toList Tryz.results23) O O fun w0=>(Ag (Ab (Hz O O O O O O O O O (Bi tt O O O O O O O O O (Aa O (Af (Ag (Ag (Ab ?_)))))))));refine Aa O (Aa O ?_);obtain ⟨v1,hc1,h⟩:=Ae h;refine Ba (Kv N g_0 anchors_1 v1 hc1) O O O O O O O O ⟨⟨O,O,Y⟩,O,Y⟩ (Aa O (Aa O (Be O O O (fun hb2=>?_) (fun hb2=>?_))))
 ·replace h:=Ak hb2 h;iterate 4 refine Hg O O O O hb2 O O ?_
  refine Bm O O O O O hb2 O (Af (Ce O O (Ag (Ab (Fz (Ai O) (Df Bx O O) O O (Ao tt O O O O O O O O O O O ⟨Y,Y,Y⟩ (Aa O (Af (Bg ?_)))))))));show ∃ _,_;cases h;exact ⟨[],_,O,Y,O,.eq O,O⟩
 replace h:=Al hb2 h;iterate 4 refine Av tt O O O O O hb2 O O O Y ?_
 refine Aw O O O O O hb2 O (Af (Ar O (fun hb3=>?_) (fun hb3=>?_)))
 ·replace h:=Ak hb3 h;refine Ag (Ab (Fz (Ai O) (Df Bx O O) O O (Ao tt O O O O O O O O O O O ⟨Y,Y,Y⟩ (Aa O (Af (Bg ?_))))));show ∃ _,_;cases h;exact ⟨[],_,O,Y,O,.eq O,O⟩
 replace h:=Al hb3 h;refine Aq (Ag (Ab (Fz (Ai O) (Df Bx O O) O O (Bi tt O O O O O O O O O (Ao tt O O O O O O O O O O O ⟨Y,Y,Y⟩ (Aa O (Af (Ag (Ab ?_)))))))));refine Aa O (Aa O ?_);obtain ⟨v2,hc4,h⟩:=Ae h;refine Ba (Kj N g_0 anchors_1 v2 hc4) O O O O O O O O ⟨⟨O,O,Y⟩,O,Y⟩ (Aa O (Aa O (Af (Ag (Ag (Ab (Aa O ?_)))))));obtain ⟨v3,hc5,h⟩:=Ae h;refine Ba (Va N g_0 v3 hc5) rfl rfl rfl rfl rfl rfl rfl rfl ⟨⟨rfl,rfl,Y⟩,Y⟩ (Aa rfl (Aa rfl (Af (Bz (F:=fun k=>Er N g_0 anchors_1 v3 k) h (α:=Bool×Int×Int) (J:=fun | (found15,c16,c17)=>(⟨[(4,.ptr 4 0),(6,.ptr 6 0),(7,.bool found15)],[],[(4,some [.int (0:Int),.int (0:Int)]),(6,some [.int c16,.int c17])]⟩:PS)) ?_ ?_))))
 ·rintro ⟨found15,c16,c17⟩ h;show VC _ _ _ (⟨[(4,.ptr 4 0),(6,.ptr 6 0),(7,.bool found15)],[],[(4,some [.int (0:Int),.int (0:Int)]),(6,some [.int c16,.int c17])]⟩:PS);refine Ag (Ab (Aa O (Aa O (Ao tt O O O O O O O O O O O ⟨Y,Y,Y⟩ (Aa O (Af (Bg ?_)))))));show ∃ _,_;cases h;exact ⟨[],_,O,Y,O,.eq O,O⟩
 intro k h;refine Ap (Bh (α:=Bool×Int×Int×Int×Int) (fun | (found21,most22,x23,c24,c25)=>(⟨[(1,.ro false (.ints anchors_1)),(2,.ptr 2 0),(4,.ptr 4 0),(6,.ptr 6 0),(7,.bool found21),(8,.int most22),(29,.row 1290 0 v3.length),(30,.int (v3.length:Int)),(31,.int x23)],[(1290,some (42,.pairs v3))],[(2,some [.int g_0.n,.ro false (.pairs g_0.bars)]),(4,some [.int (0:Int),.int (0:Int)]),(6,some [.int c24,.int c25])]⟩:PS)) (Er N g_0 anchors_1 v3 k) h (En.of ⟨rfl,rfl,rfl,rfl,rfl,rfl,rfl,rfl,rfl,Y⟩ ⟨rfl,Y⟩ ⟨rfl,rfl,rfl,Y⟩) (fun _=>rfl) ?_);rintro n ⟨found21,most22,x23,c24,c25⟩ h;rw [Er] at h;show VC _ _ _ (⟨[(1,.ro false (.ints anchors_1)),(2,.ptr 2 0),(4,.ptr 4 0),(6,.ptr 6 0),(7,.bool found21),(8,.int most22),(29,.row 1290 0 v3.length),(30,.int (v3.length:Int)),(31,.int x23)],[(1290,some (42,.pairs v3))],[(2,some [.int g_0.n,.ro false (.pairs g_0.bars)]),(4,some [.int (0:Int),.int (0:Int)]),(6,some [.int c24,.int c25])]⟩:PS);refine Ag (Ab (Aa O (Af (Ag (Ar O (fun hb6=>?_) (fun hb6=>?_))))))
 ·replace h:=Ak hb6 h;refine Aq (Ag (Ap (Ag (Ab ?_))));obtain ⟨hg7,h⟩:=Ac h;refine Ad tt O hg7 (Ad tt O hg7 (Bi tt O O O O O O O O O (Ao tt O O O O O O O O O O O ⟨Y,Y,Y⟩ (Af (Ag (Ab (Aa O (Aa O (Cr tt O O O O O O O O O O O ?_)))))))));obtain ⟨v28,hc8,h⟩:=Ae h;refine Ba (Zl N g_0 ([((v3.getD ((x23).toNat) (0,0)).1,(v3.getD ((x23).toNat) (0,0)).2)]:List (Int×Int)) v28 hc8) O O O O O O O O ⟨⟨O,O,Y⟩,(.inl ⟨O,O⟩),Y⟩ (Aa O ?_);obtain ⟨v29,hc9,h⟩:=Ae h;refine Ba (Kj N v28 anchors_1 v29 hc9) O O O O O O O O ⟨⟨O,(.inl ⟨O,O⟩),Y⟩,O,Y⟩ (Aa O (Aa O (Af (Ag (Ab (Aa O (Aa O (Aa O (Af ?_)))))))));refine Ar O (fun hb10=>?_) (fun hb10=>?_)
  ·replace h:=Ak hb10 h;refine Ab (Aa O (Aa O (Ao tt O O O O O O O O O O O ⟨Y,Y,Y⟩ (Aa O (Aa O (Af (Ab ?_)))))));obtain ⟨hg11,h⟩:=Ac h;refine Ad tt O hg11 (Aa O (Af ?_));show ∃ _,_;exact ⟨(true,(v29.length:Int),(x23+(1:Int)),(v3.getD ((x23).toNat) (0,0)).1,(v3.getD ((x23).toNat) (0,0)).2),(En.of ⟨O,O,O,O,O,O,O,O,O,Y⟩ ⟨O,Y⟩ ⟨O,O,O,Y⟩),h⟩
  replace h:=Al hb10 h;refine Aq (Ab ?_);obtain ⟨hg12,h⟩:=Ac h;refine Ad tt O hg12 (Aa O (Af ?_));show ∃ _,_;exact ⟨(found21,most22,(x23+(1:Int)),c24,c25),(En.of ⟨O,O,O,O,O,O,O,O,O,Y⟩ ⟨O,Y⟩ ⟨O,O,O,Y⟩),h⟩
 replace h:=Al hb6 h;refine Bp ?_;show ∃ _,_;exact ⟨(found21,c24,c25),(En.of ⟨O,O,O,Y⟩ trivial ⟨O,O,Y⟩),h⟩
end
section
variable {N:Nat}
def rowM (bars:List (Int×Int)) (a:Nat):Nat→List (Int×Int)
 | 0=>[]
 | k+1=>rowM bars a k++cnd (So bars (a:Int) ((a+1+k:Nat):Int)==0) [((a:Int),((a+1+k:Nat):Int))] []
def Pp (bars:List (Int×Int)) (n:Nat):Nat→List (Int×Int)
 | 0=>[]
 | a+1=>Pp bars n a++rowM bars a (n-(a+1))
theorem Aaj (bars:List (Int×Int)) (a:Nat):∀ k,(rowM bars a k).length≤k
 | 0=>by simp [rowM]
 | k+1=>by
  have:=Aaj bars a k;rw [rowM,List.length_append];cases (So bars (a:Int) ((a+1+k:Nat):Int)==0) <;> simp [cnd] <;> omega
theorem Xl (bars:List (Int×Int)) (n:Nat):∀ a,(Pp bars n a).length≤a*n
 | 0=>by simp [Pp]
 | a+1=>by
  have h1:=Xl bars n a;have h2:=Aaj bars a (n-(a+1));rw [Pp,List.length_append,Nat.add_mul,Nat.one_mul]; omega
theorem missI2_s (hN:4000000≤N) {g:Grf} (hb:g.bars.length≤3000000) {n:Nat} (hn:g.n=(n:Int)) (hn8:n≤1000) {a:Nat} (kk:List (Int×Int)→Option (List (Int×Int))) {L:List (Int×Int)} (hL:L.length≤1000000) :
  ∀ (fuel k:Nat),k≤n-(a+1)→n-(a+1)<fuel+k→Ev N g (a:Int) kk fuel (L++rowM g.bars a k,((a+1+k:Nat):Int))=kk (L++rowM g.bars a (n-(a+1))):=by
 intro fuel
 induction fuel with
 | zero=>intro k h1 h2; omega
 | succ fuel ih=>
  intro k h1 h2;rw [Ev];by_cases hk:k<n-(a+1)
  ·have hl:=Aaj g.bars a k;have hih:=ih (k+1) (by omega) (by omega);rw [Bb (by omega),countI_s hN hb,Option.bind_some,←hih,rowM]
   cases (So g.bars (a:Int) ((a+1+k:Nat):Int)==0) with
   | true=>rw [cnd_true,cnd_true,Am (by rw [List.length_append]; omega),Bf (by omega) (by omega),List.append_assoc,Ah]; rfl
   | false=>rw [cnd_false,cnd_false,Bf (by omega) (by omega),List.append_nil,Ah]; rfl
  rw [Ay (by omega),show k=n-(a+1) from by omega]
theorem missS2_s (hN:4000000≤N) {g:Grf} (hb:g.bars.length≤3000000) {n:Nat} (hn:g.n=(n:Int)) (hn8:n≤1000) {a:Nat} (kk:List (Int×Int)→Option (List (Int×Int))) {L:List (Int×Int)} (hL:L.length≤1000000) :
  ∀ (fuel k:Nat),k≤n-(a+1)→n-(a+1)<fuel+k→Eu N g (a:Int) kk fuel (L++rowM g.bars a k,((a+1+k:Nat):Int))=kk (L++rowM g.bars a (n-(a+1))):=by
 intro fuel
 induction fuel with
 | zero=>intro k h1 h2; omega
 | succ fuel ih=>
  intro k h1 h2;rw [Eu];by_cases hk:k<n-(a+1)
  ·have hl:=Aaj g.bars a k;have hih:=ih (k+1) (by omega) (by omega);rw [Bb (by omega),countS_s hN hb,Option.bind_some,←hih,rowM]
   cases (So g.bars (a:Int) ((a+1+k:Nat):Int)==0) with
   | true=>rw [cnd_true,cnd_true,Am (by rw [List.length_append]; omega),Bf (by omega) (by omega),List.append_assoc,Ah]; rfl
   | false=>rw [cnd_false,cnd_false,Bf (by omega) (by omega),List.append_nil,Ah]; rfl
  rw [Ay (by omega),show k=n-(a+1) from by omega]
theorem missS_x (hN:4000000≤N) {g:Grf} (hb:g.bars.length≤3000000) (hg:Bd g=true):Gd N g=some (Pp g.bars g.n.toNat g.n.toNat):=by
 have hp:=As hg;obtain ⟨n,hn⟩:∃ n:Nat,g.n.toNat=n:=⟨_,rfl⟩;have hn2:g.n=(n:Int):=by omega
 have hml:∀ a,a≤n→(Pp g.bars n a).length≤100:=fun a ha=>Nat.le_trans (Xl _ _ _) (by have:=Nat.mul_le_mul ha (Nat.le_refl n); have h3:=Nat.mul_le_mul (show n≤8 by omega) (show n≤8 by omega); omega);rw [hn];unfold Gd;refine Eq.trans ?_ (fold (N:=N) (len:=n) (σ:=List (Int×Int)) (st:=fun a=>Pp g.bars n a) (F:=fun m s=>Cg N g (fun l57=>some l57) m (s.1,s.2)) (fin:=some (Pp g.bars n n)) (by omega) (fun m a ha=>?_) fun m=>?_)
 ·rfl
 ·show Cg N g _ (m+1) (Pp g.bars n a,(a:Int))=Cg N g _ m (Pp g.bars n (a+1),((a+1:Nat):Int));have hl:=hml a (by omega);have h2:=missS2_s hN hb hn2 (by omega) (a:=a) (fun (l108:List (Int×Int))=>Cg N g (fun l57=>some l57) m (l108,((a:Int)+(1:Int)))) (L:=Pp g.bars n a) (by omega) N 0 (by omega) (by omega);rw [Cg,Bb (by omega),Ca N hN,Option.bind_some,hg,cnd_true,Bf (by omega) (by omega)];simp only [rowM,List.append_nil,Nat.add_zero] at h2;rw [Ah];rw [Ah] at h2;exact h2
 show Cg N g _ (m+1) (Pp g.bars n n,(n:Int))=_;rw [Cg,Ay (by omega)]
theorem missI_x (hN:4000000≤N) {g:Grf} (hb:g.bars.length≤3000000) (hg:Bd g=true):Jf N g=some (Pp g.bars g.n.toNat g.n.toNat):=by
 have hp:=As hg;obtain ⟨n,hn⟩:∃ n:Nat,g.n.toNat=n:=⟨_,rfl⟩;have hn2:g.n=(n:Int):=by omega
 have hml:∀ a,a≤n→(Pp g.bars n a).length≤100:=fun a ha=>Nat.le_trans (Xl _ _ _) (by have:=Nat.mul_le_mul ha (Nat.le_refl n); have h3:=Nat.mul_le_mul (show n≤8 by omega) (show n≤8 by omega); omega);rw [hn];unfold Jf;rw [Ed N hN,Option.bind_some,hg,Bool.not_true,cnd_false];refine Eq.trans ?_ (fold (N:=N) (len:=n) (σ:=List (Int×Int)) (st:=fun a=>Pp g.bars n a) (F:=fun m s=>Ck N g (fun l57=>some l57) m (s.1,s.2)) (fin:=some (Pp g.bars n n)) (by omega) (fun m a ha=>?_) fun m=>?_)
 ·rfl
 ·show Ck N g _ (m+1) (Pp g.bars n a,(a:Int))=Ck N g _ m (Pp g.bars n (a+1),((a+1:Nat):Int));have hl:=hml a (by omega);have h2:=missI2_s hN hb hn2 (by omega) (a:=a) (fun (l108:List (Int×Int))=>Ck N g (fun l57=>some l57) m (l108,((a:Int)+(1:Int)))) (L:=Pp g.bars n a) (by omega) N 0 (by omega) (by omega);rw [Ck,Bb (by omega),Bf (by omega) (by omega)];simp only [rowM,List.append_nil,Nat.add_zero] at h2;rw [Ah];rw [Ah] at h2;exact h2
 show Ck N g _ (m+1) (Pp g.bars n n,(n:Int))=_;rw [Ck,Ay (by omega)]
theorem missing_x (hN:4000000≤N) {g:Grf} (hb:g.bars.length≤3000000) (hg:Bd g=true):Gd N g=some (Pp g.bars g.n.toNat g.n.toNat)∧Jf N g=some (Pp g.bars g.n.toNat g.n.toNat):=⟨missS_x hN hb hg,missI_x hN hb hg⟩
theorem pr3 {x:Int×Int} (h:0≤x.1∧x.1<x.2∧x.2<3):x=(0,1)∨x=(0,2)∨x=(1,2):=by
 rcases x with ⟨a,b⟩;simp only [Prod.mk.injEq] at *;omega
def ltE (x y:Int×Int):Prop:=x.1<y.1∨(x.1=y.1∧x.2<y.2)
theorem small_x {n:Nat} (hn:1≤n∧n≤3) {L:List (Int×Int)} (hB:∀ e∈L,0≤e.1∧e.1<e.2∧e.2<(n:Int)) (hS:∀ i,i+1<L.length→ltE (L.getD i (0,0)) (L.getD (i+1) (0,0))) :
  decide (((Pp L n n).length:Int) > (0:Int))=decide ((L.length:Int)<Int.tdiv ((n:Int)*((n:Int)-(1:Int))) (2:Int)):=by
 have hB3:∀ e∈L,e=(0,1)∨e=(0,2)∨e=(1,2):=fun e he=>pr3 (by have:=hB e he; omega)
 match L,hB,hS,hB3 with
 | [],_,_,_=>
  obtain rfl | rfl | rfl:n=1∨n=2∨n=3:=by omega
  all_goals decide
 | [x],hB,hS,hB3=>
  have b1:=hB x (by simp);rcases hB3 x (by simp) with rfl | rfl | rfl
  all_goals
   obtain rfl | rfl | rfl:n=1∨n=2∨n=3:=by omega
   all_goals first | decide | (exfalso; simp at b1; done) | (exfalso; simp at b1; omega)
 | [x,y],hB,hS,hB3=>
  have b1:=hB x (by simp);have b2:=hB y (by simp);have s1:ltE x y:=hS 0 (by simp);unfold ltE at s1;rcases hB3 x (by simp) with rfl | rfl | rfl
  all_goals
   rcases hB3 y (by simp) with rfl | rfl | rfl
   all_goals
    obtain rfl | rfl | rfl:n=1∨n=2∨n=3:=by omega
    all_goals first | decide | (exfalso; simp at b1 b2 s1; done) | (exfalso; simp at b1 b2 s1; omega)
 | [x,y,z],hB,hS,hB3=>
  have b1:=hB x (by simp);have b2:=hB y (by simp);have b3:=hB z (by simp);have s1:ltE x y:=hS 0 (by simp);have s2:ltE y z:=hS 1 (by simp);unfold ltE at s1 s2;have e1:x=(0,1):=by rcases hB3 x (by simp) with h | h | h <;> rcases hB3 y (by simp) with h' | h' | h' <;> rcases hB3 z (by simp) with h'' | h'' | h'' <;> subst h <;> subst h' <;> subst h'' <;> first | rfl | (exfalso; simp at s1 s2)
  have e2:y=(0,2):=by subst e1; rcases hB3 y (by simp) with h' | h' | h' <;> rcases hB3 z (by simp) with h'' | h'' | h'' <;> subst h' <;> subst h'' <;> first | rfl | (exfalso; simp at s1 s2)
  have e3:z=(1,2):=by subst e1; subst e2; rcases hB3 z (by simp) with h'' | h'' | h'' <;> subst h'' <;> first | rfl | (exfalso; simp at s1 s2)
  subst e1; subst e2; subst e3;obtain rfl:n=3:=by simp at b3; omega
  decide
 | x::y::z::w::rest,hB,hS,hB3=>
  exfalso;have b1:=hB x (by simp);have b2:=hB y (by simp);have b3:=hB z (by simp);have b4:=hB w (by simp);have s1:ltE x y:=hS 0 (by simp);have s2:ltE y z:=hS 1 (by simp);have s3:ltE z w:=hS 2 (by simp);unfold ltE at s1 s2 s3;omega
theorem why_x (hN:4000000≤N) {g:Grf} (hb:g.bars.length≤3000000):∃ s:ByteArray,Fa N g=some s∧Kx N g=some s:=by
 unfold Fa Kx;rw [Qm N hN hb,Ed N hN,Zi N hN hb,Option.bind_some,Option.bind_some,Option.bind_some];unfold Cc
 cases hg:Bd g with
 | false=>exact ⟨_,rfl,rfl⟩
 | true=>
  have hp:=As hg;rw [Bool.true_and,Bool.not_true,cnd_false]
  cases hd:Rb g.bars with
  | true=>exact ⟨_,rfl,rfl⟩
  | false=>
   rw [Bool.not_false,Bool.not_true,cnd_false,cnd_false];obtain ⟨b1,r1,r2⟩:=rigid_x hN (g:=g);obtain ⟨b2,k1,k2⟩:=kconn_x hN hb (g:=g) (k:=3);obtain ⟨b3,q1,q2⟩:=redundant_x hN hb (g:=g);by_cases h3:g.n≤3
   ·have m2:=missI_x hN hb hg
    have hsm:=small_x (n:=g.n.toNat) (by omega) (L:=g.bars) (fun e he=>by have:=Da hg he; omega) (fun i hi=>by
     have h5:=hp.2.2 (i+1) hi
     have h6:Jt g.bars (i+1)=false:=by
      cases h:Jt g.bars (i+1) with
      | false=>rfl
      | true=>rw [hasDbl_true (i+1) hi h] at hd; cases hd
     simp only [Xo,Ee,Bool.and_eq_true,Bool.or_eq_true,decide_eq_true_eq,Nat.add_sub_cancel,beq_iff_eq] at h5;simp only [Jt,Nat.add_sub_cancel,Bool.and_eq_false_iff,decide_eq_false_iff_not,beq_eq_false_iff_ne] at h6
     have h7:g.bars.getD i (0,0)≠g.bars.getD (i+1) (0,0):=by
      rcases h6 with h6 | h6
      ·omega
      exact h6
     unfold ltE;rcases h5.2 with h8 | h8 | ⟨h8,h9⟩
     ·omega
     ·exact .inl h8
     refine .inr ⟨h8,?_⟩;by_cases h10:(g.bars.getD i (0,0)).2=(g.bars.getD (i+1) (0,0)).2
     ·exact absurd (Prod.ext h8 h10) h7
     omega)
    have hnn:((g.n.toNat:Nat):Int)=g.n:=by omega
    rw [hnn] at hsm;rw [Bb h3,Bb h3,m2,Option.bind_some,hsm,Ay (show ¬ g.n > 3 by omega)]
    have hr:Bc (g.n-1)∧Bc (g.n*(g.n-1))∧((2:Int)≠0∧Bc (Int.tdiv (g.n*(g.n-1)) 2)):=by
     obtain h | h | h:g.n=1∨g.n=2∨g.n=3:=by omega
     all_goals rw [h]; decide
    rw [Am hr.1,Am hr.2.1,Am hr.2.2];cases decide ((g.bars.length:Int)<Int.tdiv (g.n*(g.n-1)) 2) <;> exact ⟨_,rfl,rfl⟩
   rw [Ay h3,Ay h3,Bb (show g.n > 3 by omega),r1,r2,k1,k2,q1,q2];cases b1 <;> cases b2 <;> cases b3 <;> exact ⟨_,rfl,rfl⟩
theorem global_x (hN:4000000≤N) {g:Grf} (hb:g.bars.length≤3000000):∃ b:Bool,Bj N g=some b∧Hu N g=some b:=by
 unfold Bj Hu;obtain ⟨s,h1,h2⟩:=why_x hN hb;rw [h1,h2];exact ⟨_,O,O⟩
end
section
theorem Xz {a:Nat} (ha:a<4611686018427387904):(BitVec.ofInt 64 (a:Int)).toNat=a:=by
 rw [BitVec.toNat_ofInt];omega
theorem Xx {a b:Nat} (ha:a<4611686018427387904) (hb:b<4611686018427387904):Wf (a:Int) (b:Int)=((a &&& b:Nat):Int):=by
 unfold Wf;rw [BitVec.toNat_and,Xz ha,Xz hb];have h:a &&& b≤a:=Nat.and_le_left;exact Acz (by omega) (by omega)
theorem orI_nat {a b:Nat} (ha:a<4611686018427387904) (hb:b<4611686018427387904):orI (a:Int) (b:Int)=((a ||| b:Nat):Int):=by
 unfold orI;rw [BitVec.toNat_or,Xz ha,Xz hb];have h:a ||| b<2 ^ 62:=Nat.or_lt_two_pow (by omega) (by omega)
 exact Acz (by omega) (by omega)
theorem Jg {m j:Nat} (hm:m<4611686018427387904) (hj:j<64):Acj (m:Int) j=m.testBit j:=by
 unfold Acj
 have h1:shrI (m:Int) (j:Int)=((m / 2 ^ j:Nat):Int):=by
  unfold shrI;rw [show min ((j:Int)).toNat 64=j from by omega];rw [Int.fdiv_eq_ediv_of_nonneg _ (by exact Int.le_of_lt (Int.pow_pos (by omega)))];rw [Int.natCast_ediv]; simp
 have h2:m / 2 ^ j≤m:=Nat.div_le_self _ _;rw [h1,show (1:Int)=((1:Nat):Int) from rfl,Xx (by omega) (by omega)];rw [Nat.testBit,Nat.shiftRight_eq_div_pow,Nat.and_comm];generalize m / 2 ^ j=q;rw [Nat.one_and_eq_mod_two];rcases Nat.mod_two_eq_zero_or_one q with h | h <;> rw [h] <;> rfl
theorem Aa2 {n m:Nat} (hn:n≤8) (hm:m<2 ^ n) {j:Nat} (hj:j<n):Acj ((2 ^ n-1-m:Nat):Int) j=!Acj (m:Int) j:=by
 have h8:2 ^ n≤2 ^ 8:=Nat.pow_le_pow_right (by omega) hn;have h88:(2:Nat) ^ 8=256:=by decide
 rw [Jg (by omega) (by omega),Jg (by omega) (by omega)];rw [show 2 ^ n-1-m=2 ^ n-(m+1) from by omega,Nat.testBit_two_pow_sub_succ hm];simp [hj]
theorem Ky {m k j:Nat} (hj:j<k):(j:Int)∈Ec (m:Int) k↔Acj (m:Int) j=true:=by
 unfold Ec;constructor
 ·intro h;obtain ⟨i,h1,h2⟩:=List.mem_map.1 h;have:i=j:=by omega
  subst this;exact (List.mem_filter.1 h1).2
 intro h;exact List.mem_map.2 ⟨j,List.mem_filter.2 ⟨List.mem_range.2 hj,h⟩,O⟩
theorem base_all {n m b:Nat} (hn:n≤8) (hm:m<2 ^ n) (hb:b<2 ^ n) {A:List Int} (hA:∀ x∈A,0≤x∧x<(n:Int)) (hbit:∀ j,j<n→(b.testBit j=true↔(j:Int)∈A)) :
  (Wf (m:Int) (b:Int)==(b:Int))=A.all fun x=>(Ec (m:Int) n).contains x:=by
 have h8:2 ^ n≤2 ^ 8:=Nat.pow_le_pow_right (by omega) hn;have h88:(2:Nat) ^ 8=256:=by decide
 rw [Xx (by omega) (by omega),Bool.eq_iff_iff,beq_iff_eq,List.all_eq_true];constructor
 ·intro h x hx;have hx2:=hA x hx;obtain ⟨j,rfl⟩:∃ j:Nat,x=(j:Int):=⟨x.toNat,by omega⟩;have hj:j<n:=by omega
  rw [List.contains_iff_mem,Ky hj,Jg (by omega) (by omega)];have h1:(m &&& b)=b:=by omega
  have h2:=(hbit j hj).2 hx;rw [←h1,Nat.testBit_and,Bool.and_eq_true] at h2;exact h2.1
 intro h
 have h1:(m &&& b)=b:=by
  apply Nat.eq_of_testBit_eq;intro j;rw [Nat.testBit_and]
  cases hbj:b.testBit j with
  | false=>simp
  | true=>
   by_cases hj:j<n
   ·have h3:=h (j:Int) ((hbit j hj).1 hbj);rw [List.contains_iff_mem,Ky hj,Jg (by omega) (by omega)] at h3;rw [h3]; rfl
   have:b.testBit j=false:=Nat.testBit_lt_two_pow (Nat.lt_of_lt_of_le hb (Nat.pow_le_pow_right (by omega) (by omega)));rw [this] at hbj; cases hbj
 rw [h1]
end
section
variable (N:Nat)
def Ac3 (p:Int×Int):Bool:=inB p.1 0 4&&inB p.2 0 4
theorem eqGraphs_s (hN:4000000≤N) {g:Grf} (hb:g.bars.length≤3000000):Lm N g g=some true:=by
 unfold Lm;rw [Jx rfl,Jx rfl];refine (srch (len:=g.bars.length) (ok:=fun i=>true) (bad:=some false) (fin:=some true) (by omega) ?_ ?_).trans ?_
 ·intro n i hi _;rw [Fu];simp (disch:=omega) only [pst,Ah,beq_self_eq_true,Bool.and_self,Bool.not_true]
 ·intro n _;rw [Fu];simp (disch:=omega) only [pst]
 rw [show ((List.range g.bars.length).all fun _=>true)=true by rw [List.all_eq_true]; intro _ _; rfl]; rfl
end
section
variable (N:Nat)
def Zr (g:Grf) (l:List Int):List Int:=cnd (Fl g l) (tril g.bars g.n.toNat g.n.toNat l []) []
theorem trilO_len (g:Grf) (l:List Int):(Zr g l).length≤8:=by
 unfold Zr
 cases ha:Fl g l with
 | false=>simp
 | true=>
  have ha':=ha;simp only [Fl,Cc,Bool.and_eq_true] at ha';have hn:=Gn ha'.1.1;have ht:=Aag g.bars g.n.toNat g.n.toNat l [];simp only [List.length_nil] at ht;rw [cnd_true]; omega
theorem trilOS_s (hN:4000000≤N) {g:Grf} (hb:g.bars.length≤3000000) {l:List Int} (hl:l.length≤3000000):Cy N g l=some (Zr g l):=by
 cases ha:Fl g l with
 | true=>rw [trilS_s N hN hb hl ha,Zr,ha]; rfl
 | false=>
  unfold Cy Zr;rw [ha,cnd_false];obtain ⟨M,rfl⟩:∃ M,N=M+1:=⟨N-1,by omega⟩;simp (disch:=omega) only [pst];rw [Bv];by_cases h0:0<g.n
  ·simp (disch:=omega) only [pst,Wq _ hN hb hl,ha]
  simp (disch:=omega) only [pst]
theorem trilOI_s (hN:4000000≤N) {g:Grf} (hb:g.bars.length≤3000000) {l:List Int} (hl:l.length≤3000000):Cw N g l=some (Zr g l):=by
 cases ha:Fl g l with
 | true=>rw [trilI_s N hN hb hl ha,Zr,ha]; rfl
 | false=>
  unfold Cw Zr;simp (disch:=omega) only [pst,Wz N hN hb hl,ha,Bool.not_false]
end
section
open Go.RowKit Go.Deep
end
section
variable {N:Nat}
section
variable {l:Lnk} {F:List Int}
end
end
section
open Go.RowKit
end
section
variable {N:Nat}
def stepB (p q:Int×Int):Bool:=Ac3 p&&(Ac3 q&&(inB (p.1-q.1) (-1) 1&&inB (p.2-q.2) (-1) 1))
def insR:List Int→Int→Bool→List Int
 | [],x,p=>cnd (!p) [x] []
 | e::l,x,p=>cnd (decide (e > x)) (cnd (!(p || (e==x))) (x::e::insR l x true) (e::insR l x (p || (e==x)))) (e::insR l x (p || (e==x)))
theorem Abu:∀ (l:List Int) (x:Int),insR l x true=l
 | [],x=>rfl
 | e::l,x=>by
  rw [insR,Bool.true_or,Bool.not_true,cnd_false,Abu,cnd_same]
theorem Xw:∀ {l:List Int} {x:Int},x∉l→(insR l x false).Perm (x::l)
 | [],x,_=>List.Perm.refl _
 | e::l,x,h=>by
  have hne:(e==x)=false:=by rw [beq_eq_false_iff_ne]; exact fun h'=>h (by simp [h'])
  have hx:x∉l:=fun h'=>h (by simp [h']);rw [insR,hne,Bool.or_false,Bool.not_false,cnd_true];by_cases he:e > x
  ·rw [Bb he,Abu]
  rw [Ay he];exact ((Xw hx).cons e).trans (List.Perm.swap x e l)
theorem insR_srt:∀ {l:List Int} {x:Int},x∉l→l.Pairwise (·≤·)→(insR l x false).Pairwise (·≤·)
 | [],x,_,_=>List.pairwise_singleton _ _
 | e::l,x,h,hs=>by
  have hne:(e==x)=false:=by rw [beq_eq_false_iff_ne]; exact fun h'=>h (by simp [h'])
  have hx:x∉l:=fun h'=>h (by simp [h']);have hs2:=List.pairwise_cons.1 hs;rw [insR,hne,Bool.or_false,Bool.not_false,cnd_true];by_cases he:e > x
  ·rw [Bb he,Abu];refine List.pairwise_cons.2 ⟨fun y hy=>?_,hs⟩;rcases List.mem_cons.1 hy with rfl | hy
   ·omega
   have:=hs2.1 y hy; omega
  rw [Ay he];refine List.pairwise_cons.2 ⟨fun y hy=>?_,insR_srt hx hs2.2⟩;rcases List.mem_cons.1 ((Xw hx).mem_iff.1 hy) with rfl | hy
  ·omega
  exact hs2.1 y hy
theorem l5With_s (hN:4000000≤N) {l:List Int} (hl:l.length≤1000) (x:Int):Aae N l x=some (insR l x false):=by
 have key:∀ (fuel i:Nat) (out:List Int) (p:Bool),i≤l.length→l.length<fuel+i→out.length≤i+1→(p=false→out.length≤i)→Fp N l x (fun (x_1:(List Int)×Bool)=>
   match x_1 with
   | (l12,placed13)=>
    cnd (!placed13) (
     grd (l12.length+1≤4294967296) <|
     some (l12++([x]:List Int))) (
     some l12)) fuel (out,p,(i:Int))=some (out++insR (l.drop i) x p):=by
  intro fuel
  induction fuel with
  | zero=>intro i out p h1 h2; omega
  | succ fuel ih=>
   intro i out p h1 h2 h3 h4;rw [Fp];by_cases hi:i<l.length
   ·have e:((i:Int)).toNat=i:=by omega
    have hd:l.drop i=l.getD i 0::l.drop (i+1):=by
     rw [List.drop_eq_getElem_cons hi,List.getD_eq_getElem?_getD,List.getElem?_eq_getElem hi]; rfl
    rw [Bb (by omega),Am (by omega),jn_def,e,hd,insR]
    have step : ∀ q : Bool, (q = false → out.length ≤ i) → cnd (decide (l.getD i 0 > x)) (
       cnd (!q) (
        grd (out.length+1≤4294967296) <|
        grd ((out++([x]:List Int)).length+1≤4294967296) <|
        grd (Bc ((i:Int)+(1:Int))) <|
        Fp N l x (fun (x_1:(List Int)×Bool)=>
   match x_1 with
   | (l12,placed13)=>
    cnd (!placed13) (
     grd (l12.length+1≤4294967296) <|
     some (l12++([x]:List Int))) (
     some l12)) fuel (((out ++ ([x] : List Int)) ++ ([l.getD i 0] : List Int)), true, ((i : Int) + (1 : Int)))) (
        grd (out.length+1≤4294967296) <|
        grd (Bc ((i:Int)+(1:Int))) <|
        Fp N l x (fun (x_1:(List Int)×Bool)=>
   match x_1 with
   | (l12,placed13)=>
    cnd (!placed13) (
     grd (l12.length+1≤4294967296) <|
     some (l12++([x]:List Int))) (
     some l12)) fuel ((out++([l.getD i 0]:List Int)),q,((i:Int)+(1:Int))))) (
       grd (out.length+1≤4294967296) <|
       grd (Bc ((i:Int)+(1:Int))) <|
       Fp N l x (fun (x_1:(List Int)×Bool)=>
   match x_1 with
   | (l12,placed13)=>
    cnd (!placed13) (
     grd (l12.length+1≤4294967296) <|
     some (l12++([x]:List Int))) (
     some l12)) fuel ((out++([l.getD i 0]:List Int)),q,((i:Int)+(1:Int))))=some (out++cnd (decide (l.getD i 0 > x)) (cnd (!q) (x::l.getD i 0::insR (l.drop (i+1)) x true) (l.getD i 0::insR (l.drop (i+1)) x q)) (l.getD i 0::insR (l.drop (i+1)) x q)):=by
     intro q hq;by_cases hg:l.getD i 0 > x
     ·cases q with
      | false=>
       have ho:=hq rfl;have nx:=ih (i+1) ((out++[x])++[l.getD i 0]) true (by omega) (by omega) (by simp; omega) (fun h=>by cases h);rw [Bb hg,Bool.not_false,cnd_true,Am (by omega),Am (by simp; omega),Bf (by omega) (by omega),Ah,nx,Bb hg,cnd_true,List.append_assoc,List.append_assoc];rfl
      | true=>
       have nx:=ih (i+1) (out++[l.getD i 0]) true (by omega) (by omega) (by simp; omega) (fun h=>by cases h);rw [Bb hg,Bool.not_true,cnd_false,Am (by omega),Bf (by omega) (by omega),Ah,nx,Bb hg,cnd_false,List.append_assoc];rfl
     have nx:=ih (i+1) (out++[l.getD i 0]) q (by omega) (by omega) (by simp; omega) (fun h=>by have:=hq h; simp; omega);rw [Ay hg,Am (by omega),Bf (by omega) (by omega),Ah,nx,Ay hg,List.append_assoc];rfl
    cases hb:(l.getD i 0==x) with
    | true=>
     rw [cnd_true,Bool.or_true];exact step true fun h=>by cases h
    | false=>
     rw [cnd_false,Bool.or_false];exact step p h4
   ·obtain rfl:i=l.length:=by omega
    rw [Ay (by omega),List.drop_length,insR]
    cases p with
    | false=>
     show cnd (!false) _ _=_;rw [Bool.not_false,cnd_true,Am (by omega),cnd_true]
    | true=>
     show cnd (!true) _ _=_;rw [Bool.not_true,cnd_false,cnd_false,List.append_nil]
 exact key N 0 [] false (by omega) (by omega) (by simp) (by simp)
end
section
variable {N:Nat}
theorem anch_y (hN:4000000≤N) {g:Grf} (hb:g.bars.length≤3000000) {A:List Int} (hA:A.length≤3000000):∃ (r:Grf) (b:Bool),r.bars.length≤1000∧De N g A=some (r,b)∧Fj N g A=some (r,b)∧(b=true→Bd g=true∧asc g.n A=true∧r.n=g.n∧r.bars.length≤1000)∧(Fl g A=true→∃ L',AInv g A A.length (A.length+1) L'∧b=Bd ⟨g.n,L'⟩∧(b=true→r=⟨g.n,L'⟩)):=by
 unfold De Fj Fm Jl;rw [Am (by omega),Option.bind_some,Wq N hN hb hA,Wz N hN hb hA,Option.bind_some,Option.bind_some]
 cases ho:Fl g A with
 | false=>exact ⟨⟨0,[]⟩,false,by simp,rfl,rfl,(fun h=>by cases h),fun h=>by cases h⟩
 | true=>
  rw [Bool.not_true,cnd_false,cnd_false,Option.bind_some];simp only [Fl,Cc,Bool.and_eq_true] at ho;have hg:=ho.1.1;have hn:=Gn hg;have h8:=asc_len8 ho.2 (by omega);have hs:=Aa6 hg
  obtain ⟨L',k1,k2,k3,k4⟩:=anch_l1 hN (by omega) h8 (Aa5 ho.2) (kS:=fun x=>match x with | (l69,c70)=>(Dg N (⟨c70,l69⟩:Grf)).bind fun v71=>cnd (!v71) (some ((⟨(0:Int),([]:List (Int×Int))⟩:Grf),false)) (some ((⟨c70,l69⟩:Grf),true)))
   (kI:=fun x=>match x with | (l87,c88)=>(Cs N (⟨c88,l87⟩:Grf)).bind fun v89=>cnd (!v89) (some ((⟨(0:Int),([]:List (Int×Int))⟩:Grf),false)) (some ((⟨c88,l87⟩:Grf),true))) N 0 g.bars (by omega) (by omega) ⟨hs,by omega,fun e he=>he,fun e he=>.inl he,fun _ h=>h,fun _ _ p q h1 h2 h3=>by omega⟩
  have e:∀ X:Option (Grf×Bool),X=X:=fun _=>rfl;by_cases h2:Bd ⟨g.n,L'⟩=true
  ·refine ⟨⟨g.n,L'⟩,true,k1,k2.trans ?_,k3.trans ?_,(fun _=>⟨hg,ho.2,O,k1⟩),fun _=>⟨L',k4,h2.symm,fun _=>O⟩⟩
   ·show (Dg N ⟨g.n,L'⟩).bind _=_;rw [Ca N hN,h2]; rfl
   show (Cs N ⟨g.n,L'⟩).bind _=_;rw [Ed N hN,h2]; rfl
  have h2:Bd ⟨g.n,L'⟩=false:=by simpa using h2
  refine ⟨⟨0,[]⟩,false,by simp,k2.trans ?_,k3.trans ?_,(fun h=>by cases h),fun _=>⟨L',k4,h2.symm,fun h=>by cases h⟩⟩
  ·show (Dg N ⟨g.n,L'⟩).bind _=_;rw [Ca N hN,h2]; rfl
  show (Cs N ⟨g.n,L'⟩).bind _=_;rw [Ed N hN,h2]; rfl
theorem part_s (hN:4000000≤N) {h:Grf} {n m:Nat} (hn:h.n=(n:Int)) (hn8:n≤8) (hm:m<2 ^ n):Fg N h (Ec (m:Int) n)=Ct N h (Ec ((2 ^ n-1-m:Nat):Int) n):=by
 unfold Fg;have hl:=Jm (m:Int) n;refine Eq.trans ?_ ((fold (N:=N) (len:=n) (σ:=List Int) (st:=fun i=>Ec ((2 ^ n-1-m:Nat):Int) i) (F:=fun f s=>Et N h (Ec (m:Int) n) (fun (l7:List Int)=>(Ct N h l7).bind fun v8=>some (⟨v8.n,v8.bars⟩:Grf)) f (s.1,s.2)) (fin:=(Ct N h (Ec ((2 ^ n-1-m:Nat):Int) n)).bind fun v8=>some (⟨v8.n,v8.bars⟩:Grf)) (by omega) (fun f i hi=>?_) fun f=>?_).trans ?_)
 ·simp [Ec]
 ·show Et N h (Ec (m:Int) n) _ (f+1) (Ec ((2 ^ n-1-m:Nat):Int) i,(i:Int))=Et N h (Ec (m:Int) n) _ f (Ec ((2 ^ n-1-m:Nat):Int) (i+1),((i+1:Nat):Int));have hl2:=Jm ((2 ^ n-1-m:Nat):Int) i;have hc:(Ec (m:Int) n).contains (i:Int)=Acj (m:Int) i:=by rw [Bool.eq_iff_iff,List.contains_iff_mem,Ky hi]
  rw [Et,Bb (by omega),Vl N hN (by omega),Option.bind_some,hc,Ab7,Aa2 hn8 hm hi]
  cases Acj (m:Int) i with
  | true=>rw [Bool.not_true,cnd_false,cnd_false,Bf (by omega) (by omega),Ah]
  | false=>rw [Bool.not_false,cnd_true,cnd_true,Am (by omega),Bf (by omega) (by omega),Ah]
 ·show Et N h (Ec (m:Int) n) _ (f+1) (Ec ((2 ^ n-1-m:Nat):Int) n,(n:Int))=_;rw [Et,Ay (by omega)]
 cases Ct N h (Ec ((2 ^ n-1-m:Nat):Int) n) <;> rfl
theorem glob_x (hN:4000000≤N) {h:Grf} (hb:h.bars.length≤1000) {n m:Nat} (hn:h.n=(n:Int)) (hn8:n≤8) (hm:m<2 ^ n):∃ (v:Grf) (b:Bool),Fg N h (Ec (m:Int) n)=some v∧Bj N v=some b∧Pw N h (m:Int)=some b:=by
 have h8:2 ^ n≤2 ^ 8:=Nat.pow_le_pow_right (by omega) hn8;have h88:(2:Nat) ^ 8=256:=by decide
 have hl:=Jm ((2 ^ n-1-m:Nat):Int) n;obtain ⟨v,w1,w2,w3,w4,w5⟩:=without_x hN (g:=h) (by omega) (set:=Ec ((2 ^ n-1-m:Nat):Int) n) (by omega);obtain ⟨b,g1,g2⟩:=global_x hN (g:=v) (by omega);refine ⟨v,b,(part_s hN hn hn8 hm).trans w4,g1,?_⟩;unfold Pw;have e0:h.n.toNat=n:=by omega
 have hpw:(1:Int)*2 ^ n=((2 ^ n:Nat):Int):=by rw [Int.one_mul]; simp
 have hpos:(0:Int)≤((2 ^ n:Nat):Int):=Int.natCast_nonneg _;rw [e0,hpw];have e1:((2 ^ n:Nat):Int)-1-(m:Int)=((2 ^ n-1-m:Nat):Int):=by omega
 rw [Am ⟨by omega,by omega,by omega,by omega⟩,Bf (by omega) (by omega),Bf (by omega) (by omega),e1,setI_s hN (by omega),Option.bind_some,e0,w5,Option.bind_some,g2];rfl
theorem all_s (hN:4000000≤N) {A U:List Int} (hA:A.length≤1000) (hU:U.length≤1000) (kk:Bool→Option (List Int)):∀ (fuel i:Nat) (f:Bool),i≤A.length→A.length<fuel+i→Dc N A U kk fuel (f,(i:Int))=kk (f&&(A.drop i).all fun x=>U.contains x):=by
 intro fuel
 induction fuel with
 | zero=>intro i f h1 h2; omega
 | succ fuel ih=>
  intro i f h1 h2;rw [Dc];by_cases hi:i<A.length
  ·have ed:A.drop i=A.getD i 0::A.drop (i+1):=by
    rw [List.drop_eq_getElem_cons hi,List.getD_eq_getElem?_getD,List.getElem?_eq_getElem hi]; rfl
   rw [Bb (by omega),ed,List.all_cons]
   cases f with
   | true=>
    rw [cnd_true,Am (by omega),Vl N hN (by omega),Option.bind_some,Bf (by omega) (by omega),Ah,show ((i:Int)).toNat=i from by omega];refine (ih (i+1) _ (by omega) (by omega)).trans ?_;rw [Bool.true_and]
   | false=>
    rw [cnd_false,Bf (by omega) (by omega),Ah];refine (ih (i+1) _ (by omega) (by omega)).trans ?_;simp
  rw [Ay (by omega),show i=A.length from by omega,List.drop_length]; simp
def insA (l:List Int) (x:Int):List Int:=cnd (!l.contains x) (insR l x false) l
theorem insA_facts {l:List Int} {x:Int} (h1:l.Nodup) (h2:l.Pairwise (·≤·)):(insA l x).Nodup∧(insA l x).Pairwise (·≤·)∧∀ y,y∈insA l x↔y=x∨y∈l:=by
 unfold insA
 cases h:l.contains x with
 | true=>
  have hx:x∈l:=by simpa using h
  rw [Bool.not_true,cnd_false];exact ⟨h1,h2,fun y=>⟨.inr,fun h=>by rcases h with rfl | h; exact hx; exact h⟩⟩
 | false=>
  have hx:x∉l:=by simpa using h
  rw [Bool.not_false,cnd_true];have hp:=Xw hx;exact ⟨hp.symm.nodup (List.nodup_cons.2 ⟨hx,h1⟩),insR_srt hx h2,fun y=>by rw [hp.mem_iff,List.mem_cons]⟩
theorem Acx:∀ (U l:List Int),l.Nodup→l.Pairwise (·≤·)→(U.foldl insA l).Nodup∧(U.foldl insA l).Pairwise (·≤·)∧∀ y,y∈U.foldl insA l↔y∈U∨y∈l
 | [],l,h1,h2=>⟨h1,h2,fun y=>by simp⟩
 | x::U,l,h1,h2=>by
  obtain ⟨a1,a2,a3⟩:=insA_facts (x:=x) h1 h2;obtain ⟨b1,b2,b3⟩:=Acx U (insA l x) a1 a2;refine ⟨b1,b2,fun y=>?_⟩;rw [List.foldl_cons,b3,a3,List.mem_cons];constructor
  ·rintro (h | h | h)
   ·exact .inl (.inr h)
   ·exact .inl (.inl h)
   exact .inr h
  rintro ((h | h) | h)
  ·exact .inr (.inl h)
  ·exact .inl h
  exact .inr (.inr h)
theorem Yr (m:Int) (k:Nat):(Ec m k).Nodup∧(Ec m k).Pairwise (·≤·):=by
 unfold Ec;constructor
 ·rw [List.nodup_iff_pairwise_ne];refine List.Pairwise.map _ (fun a b h=>?_) (List.Pairwise.filter _ (List.nodup_iff_pairwise_ne.1 List.nodup_range));omega
 refine List.Pairwise.map _ (fun a b h=>?_) (List.Pairwise.filter _ List.pairwise_lt_range);omega
theorem or_set {n a m:Nat} (hn:n≤8) (ha:a<2 ^ n) (hm:m<2 ^ n):(Ec (m:Int) n).foldl insA (Ec (a:Int) n)=Ec ((a ||| m:Nat):Int) n:=by
 have h8:2 ^ n≤2 ^ 8:=Nat.pow_le_pow_right (by omega) hn;have h88:(2:Nat) ^ 8=256:=by decide
 have ho:a ||| m<2 ^ n:=Nat.or_lt_two_pow ha hm
 obtain ⟨a1,a2,a3⟩:=Acx (Ec (m:Int) n) (Ec (a:Int) n) (Yr _ _).1 (Yr _ _).2;refine List.Perm.eq_of_pairwise (le:=fun x y:Int=>x≤y) (fun a b _ _ h1 h2=>by omega) a2 (Yr _ _).2 ?_;rw [List.perm_ext_iff_of_nodup a1 (Yr _ _).1];intro y;rw [a3];by_cases hy:0≤y∧y<(n:Int)
 ·obtain ⟨j,rfl⟩:∃ j:Nat,y=(j:Int):=⟨y.toNat,by omega⟩;have hj:j<n:=by omega
  rw [Ky hj,Ky hj,Ky hj,Jg (by omega) (by omega),Jg (by omega) (by omega),Jg (by omega) (by omega),Nat.testBit_or,Bool.or_eq_true];constructor
  ·rintro (h | h)
   ·exact .inr h
   exact .inl h
  rintro (h | h)
  ·exact .inr h
  exact .inl h
 constructor
 ·rintro (h | h)
  ·exact absurd (Zb h) hy
  exact absurd (Zb h) hy
 intro h; exact absurd (Zb h) hy
theorem ins_s (hN:4000000≤N) {U:List Int} (hU:U.length≤8) (kk:List Int→Option (List Int)):∀ (fuel i:Nat) (l:List Int),i≤U.length→U.length<fuel+i→l.length≤500+i→Dd N U kk fuel (l,(i:Int))=kk ((U.drop i).foldl insA l):=by
 intro fuel
 induction fuel with
 | zero=>intro i l h1 h2; omega
 | succ fuel ih=>
  intro i l h1 h2 h3;rw [Dd];by_cases hi:i<U.length
  ·have ed:U.drop i=U.getD i 0::U.drop (i+1):=by
    rw [List.drop_eq_getElem_cons hi,List.getD_eq_getElem?_getD,List.getElem?_eq_getElem hi]; rfl
   rw [Bb (by omega),Am (by omega),show ((i:Int)).toNat=i from by omega,Vl N hN (by omega),Option.bind_some,ed,List.foldl_cons];unfold insA
   cases hc:l.contains (U.getD i 0) with
   | true=>
    rw [Bool.not_true,cnd_false,cnd_false,Bf (by omega) (by omega),Ah];exact ih (i+1) l (by omega) (by omega) (by omega)
   | false=>
    have hx:U.getD i 0∉l:=by simpa using hc
    have hpl:=(Xw hx).length_eq;rw [List.length_cons] at hpl;rw [Bool.not_false,cnd_true,cnd_true,l5With_s hN (by omega),Option.bind_some,Bf (by omega) (by omega),Ah];exact ih (i+1) _ (by omega) (by omega) (by omega)
  rw [Ay (by omega),show i=U.length from by omega,List.drop_length]; rfl
theorem loc_l1 (hN:4000000≤N) {g h:Grf} {n:Nat} (hgn:g.n=(n:Int)) (hhn:h.n=(n:Int)) (hn8:n≤8) (hb:h.bars.length≤1000) {A:List Int} (hA8:A.length≤8) (hA:∀ x∈A,0≤x∧x<(n:Int)) {b:Nat} (hbn:b<2 ^ n) (hbit:∀ j,j<n→(b.testBit j=true↔(j:Int)∈A)) {kS:List Int→Option (List Int)} {kI:Int→Option (List Int)} :
  ∀ (k i a fS fI:Nat),i+k=2 ^ n→k<fS→k<fI→a<2 ^ n→∃ a':Nat,a'<2 ^ n∧Cn N g A (h,true) kS fS (Ec (a:Int) n,(i:Int))=kS (Ec (a':Int) n)∧Cb N g (h,true) (b:Int) kI fI ((a:Int),(i:Int))=kI (a':Int)∧(∀ j:Nat,a.testBit j=true→a'.testBit j=true) ∧
   ∀ m:Nat,i≤m→m<2 ^ n→(A.all fun x=>(Ec (m:Int) n).contains x)=true→(∃ v,Fg N h (Ec (m:Int) n)=some v∧Bj N v=some true)→∀ j:Nat,m.testBit j=true→a'.testBit j=true:=by
 have h8:2 ^ n≤2 ^ 8:=Nat.pow_le_pow_right (by omega) hn8;have h88:(2:Nat) ^ 8=256:=by decide
 have hpw:(1:Int)*2 ^ n=((2 ^ n:Nat):Int):=by rw [Int.one_mul]; simp
 have e0:g.n.toNat=n:=by omega
 have hpos:(0:Int)≤((2 ^ n:Nat):Int):=Int.natCast_nonneg _;have hR:Bc ((2 ^ n:Nat):Int):=⟨by omega,by omega⟩;intro k
 induction k with
 | zero=>
  intro i a fS fI h1 h2 h3 h4;obtain ⟨fS,rfl⟩:∃ f,fS=f+1:=⟨fS-1,by omega⟩;obtain ⟨fI,rfl⟩:∃ f,fI=f+1:=⟨fI-1,by omega⟩;rw [Cn,Cb,e0,hpw,Am ⟨by omega,by omega,hR⟩,Ay (by omega),Ay (by omega)];exact ⟨a,h4,O,O,(fun _ h=>h),fun m g1 g2=>by omega⟩
 | succ k ih=>
  intro i a fS fI h1 h2 h3 h4;obtain ⟨fS,rfl⟩:∃ f,fS=f+1:=⟨fS-1,by omega⟩;obtain ⟨fI,rfl⟩:∃ f,fI=f+1:=⟨fI-1,by omega⟩;have hi:i<2 ^ n:=by omega
  have hsl:=Jm (i:Int) n;have hal:=Jm (a:Int) n;obtain ⟨v,bb,w1,w2,w3⟩:=glob_x hN hb hhn hn8 hi
  have hall:∀ kk,Dc N A (Ec (i:Int) n) kk N (true,(0:Int))=kk (A.all fun x=>(Ec (i:Int) n).contains x):=fun kk=>by
   have:=all_s hN (A:=A) (U:=Ec (i:Int) n) (by omega) (by omega) kk N 0 true (by omega) (by omega);rw [List.drop_zero,Bool.true_and] at this; exact this
  have hins:∀ kk,Dd N (Ec (i:Int) n) kk N (Ec (a:Int) n,(0:Int))=kk (Ec ((a ||| i:Nat):Int) n):=fun kk=>by
   have:=ins_s hN (U:=Ec (i:Int) n) (by omega) kk N 0 (Ec (a:Int) n) (by omega) (by omega) (by omega);rw [List.drop_zero,or_set hn8 h4 hi] at this; exact this
  rw [Cn,Cb,e0,hpw,Am ⟨by omega,by omega,hR⟩,Bb (show (i:Int)<((2 ^ n:Nat):Int) by omega),Bb (show (i:Int)<((2 ^ n:Nat):Int) by omega),setS_s hN (by omega),e0,Option.bind_some,hall,base_all hn8 hi hbn hA hbit];show ∃ a':Nat,_∧cnd (A.all fun x=>(Ec (i:Int) n).contains x) _ _=_∧_;have noS:=ih (i+1) a fS fI (by omega) (by omega) (by omega) h4
  cases hq:(A.all fun x=>(Ec (i:Int) n).contains x) with
  | false=>
   obtain ⟨a',k1,k2,k3,k4,k5⟩:=noS;refine ⟨a',k1,?_,?_,k4,fun m g1 g2 g3 g4=>?_⟩
   rotate_left 2
   ·by_cases e:m=i
    ·subst e; rw [hq] at g3; cases g3
    exact k5 m (by omega) g2 g3 g4
   ·rw [cnd_false,Bf (by omega) (by omega),Ah]; exact k2
   rw [cnd_false,Bf (by omega) (by omega),Ah]; exact k3
  | true=>
   rw [cnd_true,cnd_true,w1,w3,Option.bind_some,Option.bind_some,w2,Option.bind_some]
   cases bb with
   | false=>
    obtain ⟨a',k1,k2,k3,k4,k5⟩:=noS;refine ⟨a',k1,?_,?_,k4,fun m g1 g2 g3 g4=>?_⟩
    rotate_left 2
    ·by_cases e:m=i
     ·subst e;obtain ⟨u,u1,u2⟩:=g4;rw [w1] at u1;cases u1;rw [w2] at u2;cases u2
     exact k5 m (by omega) g2 g3 g4
    ·rw [cnd_false,Bf (by omega) (by omega),Ah]; exact k2
    rw [cnd_false,Bf (by omega) (by omega),Ah]; exact k3
   | true=>
    have ho:a ||| i<2 ^ n:=Nat.or_lt_two_pow h4 hi
    obtain ⟨a',k1,k2,k3,k4,k5⟩:=ih (i+1) (a ||| i) fS fI (by omega) (by omega) (by omega) ho;refine ⟨a',k1,?_,?_,(fun j hj=>k4 j (by rw [Nat.testBit_or,hj,Bool.true_or])),fun m g1 g2 g3 g4 j hj=>?_⟩
    rotate_left 2
    ·by_cases e:m=i
     ·subst e; exact k4 j (by rw [Nat.testBit_or,hj,Bool.or_true])
     exact k5 m (by omega) g2 g3 g4 j hj
    ·rw [cnd_true,hins];show grd (Bc ((i:Int)+1)) _=_;rw [Bf (by omega) (by omega),Ah]; exact k2
    rw [cnd_true,orI_nat (by omega) (by omega),Bf (by omega) (by omega),Ah]; exact k3
theorem base_s (hN:4000000≤N) {n:Nat} (hn8:n≤8) {A:List Int} (hA8:A.length≤8) (hA:∀ x∈A,0≤x∧x<(n:Int)) (kk:Int→Option (List Int)) :
  ∀ (fuel i b:Nat),i≤A.length→A.length<fuel+i→b<2 ^ n→(∀ j,j<n→(b.testBit j=true↔(j:Int)∈A.take i)) →
  ∃ b':Nat,b'<2 ^ n∧(∀ j,j<n→(b'.testBit j=true↔(j:Int)∈A))∧El N A kk fuel ((b:Int),(i:Int))=kk (b':Int):=by
 have h8:2 ^ n≤2 ^ 8:=Nat.pow_le_pow_right (by omega) hn8;have h88:(2:Nat) ^ 8=256:=by decide
 intro fuel
 induction fuel with
 | zero=>intro i b h1 h2; omega
 | succ fuel ih=>
  intro i b h1 h2 h3 h4;rw [El];by_cases hi:i<A.length
  ·have hm:A.getD i 0∈A:=by rw [List.getD_eq_getElem?_getD,List.getElem?_eq_getElem hi]; exact List.getElem_mem hi
   have hr:=hA _ hm
   have et:A.take (i+1)=A.take i++[A.getD i 0]:=by
    rw [List.take_add_one,List.getElem?_eq_getElem hi,List.getD_eq_getElem?_getD,List.getElem?_eq_getElem hi]; rfl
   obtain ⟨j0,hj0⟩:∃ j:Nat,A.getD i 0=(j:Int):=⟨(A.getD i 0).toNat,by omega⟩;have hj:j0<n:=by omega
   have hp2:2 ^ j0<2 ^ n:=Nat.pow_lt_pow_right (by omega) hj;have hpw:(1:Int)*2 ^ j0=((2 ^ j0:Nat):Int):=by rw [Int.one_mul]; simp
   have hpos:(0:Int)≤((2 ^ j0:Nat):Int):=Int.natCast_nonneg _;have hR:Bc ((2 ^ j0:Nat):Int):=⟨by omega,by omega⟩;rw [Bb (by omega),Am (by omega),show ((i:Int)).toNat=i from by omega,hj0,show ((j0:Int)).toNat=j0 from by omega,hpw,Am ⟨by omega,by omega,hR⟩,Bf (by omega) (by omega),orI_nat (by omega) (by omega),Ah];refine ih (i+1) (b ||| 2 ^ j0) (by omega) (by omega) (Nat.or_lt_two_pow h3 hp2) fun j hjn=>?_;rw [Nat.testBit_or,Nat.testBit_two_pow,et,List.mem_append,List.mem_singleton,hj0,Bool.or_eq_true,h4 j hjn,decide_eq_true_eq];constructor
   ·rintro (h | h)
    ·exact .inl h
    exact .inr (by omega)
   rintro (h | h)
   ·exact .inl h
   exact .inr (by omega)
  rw [Ay (by omega)];rw [show i=A.length from by omega,List.take_length] at h4;exact ⟨b,h3,h4,O⟩
theorem Abx (hN:4000000≤N) {g:Grf} (hb:g.bars.length≤3000000) {A:List Int} (hA:A.length≤3000000):∃ r:List Int,r.length≤8∧Ff N g A=some r∧Ea N g A=some r∧r.Nodup∧(∀ x∈r,0≤x∧x<g.n) ∧
  ∀ h:Grf,De N g A=some (h,true)→3≤A.length→∀ m:Nat,1≤m→m<2 ^ g.n.toNat→(A.all fun x=>(Ec (m:Int) g.n.toNat).contains x)=true→(∃ v,Fg N h (Ec (m:Int) g.n.toNat)=some v∧Bj N v=some true)→∀ j:Nat,j<g.n.toNat→m.testBit j=true→(j:Int)∈r:=by
 unfold Ff Ea;obtain ⟨h,b,h1,h2,h3,h4,_⟩:=anch_y hN hb hA;rw [h2,h3,Option.bind_some,Option.bind_some]
 cases b with
 | false=>exact ⟨[],by simp,rfl,rfl,by simp,by simp,fun h' hh=>by cases hh⟩
 | true=>
  obtain ⟨hg,ha,hn,hl⟩:=h4 rfl;have hp:=As hg;rw [Bool.not_true,cnd_false,cnd_false];by_cases hA3:(A.length:Int)<3
  ·rw [Bb hA3,Bb hA3]; exact ⟨[],by simp,rfl,rfl,by simp,by simp,fun h' hh h3=>by omega⟩
  rw [Ay hA3,Ay hA3];obtain ⟨n,hgn⟩:∃ n:Nat,g.n=(n:Int):=⟨g.n.toNat,by omega⟩;have hn8:n≤8:=by omega
  have hA8:=asc_len8 ha (by omega)
  have hAr:∀ x∈A,0≤x∧x<(n:Int):=fun x hx=>by
   have h1:∀ i,i<A.length→Ta g.n A i=true:=by simpa [asc,List.all_eq_true] using ha
   obtain ⟨i,hi,e⟩:=List.mem_iff_getElem.1 hx;have h2:=h1 i hi;simp only [Ta,inB,Bool.and_eq_true,decide_eq_true_eq] at h2;rw [List.getD_eq_getElem?_getD,List.getElem?_eq_getElem hi] at h2;simp only [Option.getD_some,e] at h2;omega
  have h8:2 ^ n≤2 ^ 8:=Nat.pow_le_pow_right (by omega) hn8;have h88:(2:Nat) ^ 8=256:=by decide
  have hone:0<2 ^ n:=Nat.pow_pos (by omega);have hpw:(1:Int)*2 ^ n=((2 ^ n:Nat):Int):=by rw [Int.one_mul]; simp
  have hpos:(0:Int)≤((2 ^ n:Nat):Int):=Int.natCast_nonneg _;have hR:Bc ((2 ^ n:Nat):Int):=⟨by omega,by omega⟩;have e0:g.n.toNat=n:=by omega
  obtain ⟨b,b1,b2,b3⟩:=base_s hN hn8 hA8 hAr (fun (base4:Int)=>grd (0≤g.n∧g.n<64∧Bc ((1:Int)*2 ^ ((g.n).toNat))) <| Cb N g (h,true) base4 (fun (all10:Int)=>(Qj N all10 g.n).bind fun v11=>some v11) N ((0:Int),(0:Int))) N 0 0 (by omega) (by omega) hone (fun j hj=>by simp);obtain ⟨a',k1,k2,k3,_,k5⟩:=loc_l1 hN hgn (hn.trans hgn) hn8 hl hA8 hAr b1 b2 (kS:=fun (l140:List Int)=>some l140) (kI:=fun (all10:Int)=>(Qj N all10 g.n).bind fun v11=>some v11) (2 ^ n-1) 1 0 N (N-1) (by omega) (by omega) (by omega) hone
  have hz:Ec ((0:Nat):Int) n=[]:=by
   unfold Ec
   have:(List.range n).filter (Acj ((0:Nat):Int))=[]:=List.filter_eq_nil_iff.2 fun j hj=>by
    have:=List.mem_range.1 hj;rw [Jg (by omega) (by omega)]; simp
   rw [this]; rfl
  have hsl:=Jm (a':Int) n;refine ⟨Ec (a':Int) n,by omega,?_,?_,(Yr _ _).1,(fun x hx=>by have:=Zb hx; omega),fun h' hh _ m g1 g2 g3 g4 j hj hjm=>?_⟩
  rotate_left 2
  ·cases hh;rw [e0] at g2 g3 g4 hj;have:=k5 m g1 g2 g3 g4 j hjm;rw [Ky hj,Jg (by omega) (by omega)]; exact this
  ·rw [hz] at k2; exact k2
  refine b3.trans ?_;show grd _ _=_;rw [e0,hpw,Am ⟨by omega,by omega,hR⟩];obtain ⟨M,rfl⟩:∃ M,N=M+1:=⟨N-1,by omega⟩
  have hA0:(A.all fun x=>(Ec ((0:Nat):Int) n).contains x)=false:=by
   rw [hz]
   cases A with
   | nil=>simp at hA3
   | cons x A=>rfl
  have hb0:=base_all hn8 (m:=0) hone b1 hAr b2;rw [hA0] at hb0;rw [Cb,e0,hpw,Bb (by omega)];rw [show Wf (0:Int) (b:Int)=Wf ((0:Nat):Int) (b:Int) from rfl,hb0,cnd_false,Bf (by omega) (by omega)];refine k3.trans ?_;show (Qj (M+1) (a':Int) g.n).bind _=_;rw [setI_s hN (by omega),e0]; rfl
theorem located_x (hN:4000000≤N) {g:Grf} (hb:g.bars.length≤3000000) {A:List Int} (hA:A.length≤3000000):∃ r:List Int,r.length≤8∧Ff N g A=some r∧Ea N g A=some r:=by
 obtain ⟨r,h1,h2,h3,_⟩:=Abx (N:=N) hN hb hA;exact ⟨r,h1,h2,h3⟩
end
section
variable {N:Nat}
def nmO (set:List Int) (i:Nat):Int:=if set.contains (i:Int) then -1 else (Gc set i:Int)
def Ac1 (set:List Int) (e:Int×Int):Bool:=!set.contains e.1&&!set.contains e.2
def Xs (set:List Int) (e:Int×Int):Int×Int:=((Gc set e.1.toNat:Int),(Gc set e.2.toNat:Int))
def woG (g:Grf) (set:List Int):Grf:=⟨(Gc set g.n.toNat:Int),(g.bars.filter (Ac1 set)).map (Xs set)⟩
theorem woS_l2 (hN:4000000≤N) {g:Grf} {set:List Int} (hs:set.length≤3000000) {m:Nat} (hm:(max (0:Int) (min (8:Int) g.n)).toNat=m) (hm8:m≤8) {kS:List Int×Int→Option Grf} :
  ∀ (fuel i:Nat) (l:List Int),i≤m→m<fuel+i→l.length=m→(∀ j,j<i→l.getD j 0=nmO set j) →
  Cm N g set kS fuel (l,(Gc set i:Int),(i:Int))=kS ((List.range m).map (nmO set),(Gc set m:Int)):=by
 intro fuel
 induction fuel with
 | zero=>intro i l h1 h2; omega
 | succ fuel ih=>
  intro i l h1 h2 h3 h4;have ho:=Rz set i
  have hle:Gc set i≤i:=by
   have:=List.countP_le_length (l:=List.range i) (p:=fun (j:Nat)=>!set.contains (j:Int));rw [List.length_range] at this;exact this
  rw [Cm,hm];by_cases hi:i<m
  ·have er:(List.replicate m (0:Int)).length=m:=List.length_replicate;rw [Bb (by rw [er]; omega),Am (p:=0≤(i:Int)∧(i:Int)<((List.replicate m (0:Int)).length:Int)) (by rw [er]; omega),Am (p:=0≤(i:Int)∧(i:Int)<(l.length:Int)) (by omega),Vl N hN hs,Option.bind_some,show ((i:Int)).toNat=i from by omega];have el:(l.set i (-1:Int)).length=m:=by rw [List.length_set]; exact h3
   cases hc:set.contains (i:Int) with
   | true=>
    rw [hc] at ho;rw [Bool.not_true,cnd_false,Bf (by omega) (by omega),Ah]
    have:=ih (i+1) (l.set i (-1:Int)) (by omega) (by omega) el fun j hj=>by
     rw [List.getD_eq_getElem?_getD,List.getElem?_set];by_cases e:i=j
     ·subst e; rw [if_pos rfl,if_pos (by omega),Option.getD_some,nmO,if_pos hc]
     rw [if_neg e,←List.getD_eq_getElem?_getD]; exact h4 j (by omega)
    rw [show Gc set (i+1)=Gc set i by simp at ho; omega] at this;exact this
   | false=>
    rw [hc] at ho;rw [Bool.not_false,cnd_true,Am (by omega),Bf (by omega) (by omega),Bf (by omega) (by omega),Ah,Ah]
    have:=ih (i+1) ((l.set i (-1:Int)).set i (Gc set i:Int)) (by omega) (by omega) (by rw [List.length_set]; exact el) fun j hj=>by
     rw [List.getD_eq_getElem?_getD,List.getElem?_set];by_cases e:i=j
     ·subst e; rw [if_pos rfl,if_pos (by omega),Option.getD_some,nmO,if_neg (by rw [hc]; simp)]
     rw [if_neg e,List.getElem?_set,if_neg e,←List.getD_eq_getElem?_getD]; exact h4 j (by omega)
    rw [show Gc set (i+1)=Gc set i+1 by simp at ho; omega] at this;exact this
  have er:(List.replicate m (0:Int)).length=m:=List.length_replicate;have e:i=m:=by omega
  subst e;rw [Ay (by rw [er]; omega)];congr 2;apply List.ext_getElem
  ·simp [h3]
  intro j h5 h6;have:=h4 j (by omega);rw [List.getD_eq_getElem?_getD,List.getElem?_eq_getElem h5,Option.getD_some] at this;rw [this]; simp
theorem nm_get {set:List Int} {m:Nat} {v:Int} (h0:0≤v) (h1:v<(m:Int)):((List.range m).map (nmO set)).getD v.toNat 0=nmO set v.toNat:=by
 rw [List.getD_eq_getElem?_getD,List.getElem?_map,List.getElem?_range (by omega)]; rfl
theorem nm_ge {set:List Int} {v:Int} (h0:0≤v):decide (nmO set v.toNat≥0)=!set.contains v:=by
 unfold nmO;rw [show ((v.toNat:Nat):Int)=v by omega]
 cases set.contains v with
 | true=>rw [if_pos rfl]; rfl
 | false=>rw [if_neg (by simp)]; simp
theorem woS_l1 (hN:4000000≤N) {g:Grf} (hg:Bd g=true) {set:List Int} {m:Nat} (hm:(m:Int)=g.n) {kS:List (Int×Int)→Option Grf} :
  ∀ (fuel i:Nat),i≤g.bars.length→g.bars.length<fuel+i →
  Az N g ((List.range m).map (nmO set)) kS fuel (((g.bars.take i).filter (Ac1 set)).map (Xs set),(i:Int))=kS ((g.bars.filter (Ac1 set)).map (Xs set)):=by
 have hp:=As hg;have hmS:(((max (0:Int) (min (8:Int) g.n))).toNat:Int)=g.n:=by omega
 have hll:((List.range m).map (nmO set)).length=m:=by simp
 intro fuel
 induction fuel with
 | zero=>intro i h1 h2; omega
 | succ fuel ih=>
  intro i h1 h2;by_cases hi:i<g.bars.length
  ·have hb:=Da hg (p:=g.bars.getD i (0,0)) (by rw [List.getD_eq_getElem?_getD,List.getElem?_eq_getElem hi]; exact List.getElem_mem hi)
   have ht:g.bars.take (i+1)=g.bars.take i++[g.bars.getD i (0,0)]:=by
    rw [List.take_add_one,List.getElem?_eq_getElem hi,List.getD_eq_getElem?_getD,List.getElem?_eq_getElem hi]; rfl
   have hL:(((g.bars.take i).filter (Ac1 set)).map (Xs set)).length≤i:=by
    rw [List.length_map];exact Nat.le_trans (List.length_filter_le _ _) (by rw [List.length_take]; omega)
   have next:=ih (i+1) (by omega) (by omega);rw [ht,List.filter_append,List.map_append] at next;generalize hLe:((g.bars.take i).filter (Ac1 set)).map (Xs set)=L at hL next ⊢;obtain ⟨e,he⟩:∃ e,e=g.bars.getD i (0,0):=⟨_,rfl⟩;rw [←he] at hb next;rw [Az,Bb (by omega),Ca N hN,Option.bind_some,hg,cnd_true,List.length_replicate,show ((i:Int)).toNat=i from by omega,←he];rw [Am (p:=0≤(i:Int)∧(i:Int)<(g.bars.length:Int)) (by omega)];rw [Am (p:=0≤e.1∧e.1<((((max (0:Int) (min (8:Int) g.n))).toNat:Nat):Int)) (by omega),Am (p:=0≤e.1∧e.1<(((List.range m).map (nmO set)).length:Int)) (by omega),Am (p:=0≤e.2∧e.2<((((max (0:Int) (min (8:Int) g.n))).toNat:Nat):Int)) (by omega),Am (p:=0≤e.2∧e.2<(((List.range m).map (nmO set)).length:Int)) (by omega)];rw [nm_get hb.1 (by omega),nm_get (v:=e.2) (by omega) (by omega),nm_ge hb.1,nm_ge (v:=e.2) (by omega)];rw [Am (p:=L.length+1≤4294967296) (by omega),Bf (by omega) (by omega),Bf (by omega) (by omega),Ah];have hk:Ac1 set e=(!set.contains e.1&&!set.contains e.2):=rfl
   cases c1:set.contains e.1 with
   | true=>
    rw [c1,Bool.not_true,Bool.false_and] at hk;rw [Bool.not_true,cnd_false];rw [List.filter_cons,if_neg (by rw [hk]; simp)] at next;simpa using next
   | false=>
    cases c2:set.contains e.2 with
    | true=>
     rw [c1,c2,Bool.not_true,Bool.and_false] at hk;rw [Bool.not_false,Bool.not_true,cnd_true,cnd_false];rw [List.filter_cons,if_neg (by rw [hk]; simp)] at next;simpa using next
    | false=>
     rw [c1,c2,Bool.not_false,Bool.and_self] at hk;rw [Bool.not_false,cnd_true,cnd_true];rw [List.filter_cons,if_pos hk] at next
     have e1:nmO set e.1.toNat=(Gc set e.1.toNat:Int):=by
      unfold nmO; rw [show ((e.1.toNat:Nat):Int)=e.1 by omega,if_neg (by rw [c1]; simp)]
     have e2:nmO set e.2.toNat=(Gc set e.2.toNat:Int):=by
      unfold nmO; rw [show ((e.2.toNat:Nat):Int)=e.2 by omega,if_neg (by rw [c2]; simp)]
     rw [e1,e2];exact next
  have e:i=g.bars.length:=by omega
  subst e;rw [Az,Ay (by omega),List.take_length]
theorem Ab9 (hN:4000000≤N) {g:Grf} (hg:Bd g=true) {set:List Int} (hs:set.length≤3000000):Ct N g set=some (woG g set):=by
 have hp:=As hg;unfold Ct;have hm:(max (0:Int) (min (8:Int) g.n)).toNat=g.n.toNat:=by omega
 rw [Am (by omega),hm]
 have:=woS_l2 hN (g:=g) hs hm (by omega)
  (kS:=fun x=>match x with | (l7,n8)=>Az N g l7 (fun (l16:List (Int×Int))=>some (⟨n8,l16⟩:Grf)) N (([]:List (Int×Int)),(0:Int)))
  N 0 (List.replicate g.n.toNat (0:Int)) (by omega) (by omega) List.length_replicate (fun j hj=>by omega)
 refine this.trans ?_;exact woS_l1 hN hg (m:=g.n.toNat) (by omega) (kS:=fun l16=>some (⟨(Gc set g.n.toNat:Int),l16⟩:Grf)) N 0 (by omega) (by omega)
theorem Te {set:List Int} {a:Nat}:∀ {b:Nat},a≤b→Gc set a≤Gc set b
 | 0,h=>by rw [show a=0 by omega]; omega
 | b+1,h=>by
  by_cases e:a=b+1
  ·subst e; omega
  have:=Te (set:=set) (a:=a) (b:=b) (by omega);have:=Rz set b;omega
theorem Xi {set:List Int} {a b:Nat} (h:a<b) (ha:set.contains (a:Int)=false):Gc set a<Gc set b:=by
 have h1:=Rz set a;rw [ha] at h1;have h2:=Te (set:=set) (a:=a+1) (b:=b) (by omega);simp at h1;omega
theorem outN_inj {set:List Int} {a b:Nat} (ha:set.contains (a:Int)=false) (hb:set.contains (b:Int)=false) (h:Gc set a=Gc set b):a=b:=by
 by_cases h1:a<b
 ·have:=Xi h1 ha; omega
 by_cases h2:b<a
 ·have:=Xi h2 hb; omega
 omega
theorem Abf {set:List Int} {u:Nat}:∀ {n:Nat},u<Gc set n→∃ v,v<n∧set.contains (v:Int)=false∧Gc set v=u
 | 0,h=>by simp [Gc] at h
 | n+1,h=>by
  have h1:=Rz set n;by_cases h2:u<Gc set n
  ·obtain ⟨v,v1,v2,v3⟩:=Abf h2;exact ⟨v,by omega,v2,v3⟩
  cases hc:set.contains (n:Int) with
  | true=>rw [hc] at h1; simp at h1; omega
  | false=>rw [hc] at h1; simp at h1; exact ⟨n,by omega,hc,by omega⟩
theorem cnt_ren (set:List Int) (X:Nat→Bool):∀ k,(List.range k).countP (fun (i:Nat)=>!set.contains (i:Int)&&X (Gc set i))=(List.range (Gc set k)).countP X
 | 0=>by simp [Gc]
 | k+1=>by
  have ih:=cnt_ren set X k;have h1:=Rz set k;rw [List.range_succ,List.countP_append,ih]
  cases hc:set.contains (k:Int) with
  | true=>
   rw [hc] at h1;simp at h1;rw [h1,List.countP_singleton,hc,Bool.not_true,Bool.false_and]; simp
  | false=>
   rw [hc] at h1;simp at h1;rw [h1,List.range_succ,List.countP_append,List.countP_singleton,List.countP_singleton,hc,Bool.not_false,Bool.true_and]
def Kept (n:Nat) (set:List Int) (e:Int×Int):Prop:=Bok n e∧Ac1 set e=true
theorem spr_ren {n:Nat} {set:List Int} {J:List (Int×Int)} (hJ:Spr n J) (hk:∀ e∈J,Kept n set e):Spr (Gc set n) (J.map (Xs set)):=by
 intro X h
 have e1:spn X (J.map (Xs set))=spn (fun v=>!set.contains v&&X (Gc set v.toNat:Int)) J:=by
  unfold spn;rw [List.countP_map];refine List.countP_congr fun x hx=>?_;obtain ⟨_,h2⟩:=hk x hx;simp only [Ac1,Bool.and_eq_true,Bool.not_eq_true'] at h2;show (inX X (Xs set x)=true)↔(inX (fun v=>!set.contains v&&X (Gc set v.toNat:Int)) x=true);unfold inX Xs;simp only;rw [h2.1,h2.2,Bool.not_false,Bool.true_and,Bool.true_and]
 have e2:vsz (Gc set n) X=vsz n (fun v=>!set.contains v&&X (Gc set v.toNat:Int)):=by
  unfold vsz;rw [←cnt_ren set (fun j=>X (j:Int)) n];refine List.countP_congr fun x _=>?_;simp
 rw [e1] at h ⊢;rw [e2];exact hJ _ h
theorem renB_ok {n:Nat} {set:List Int} {e:Int×Int} (hk:Kept n set e) (hlt:e.1<e.2):0≤(Xs set e).1∧(Xs set e).1<(Xs set e).2∧(Xs set e).2<(Gc set n:Int):=by
 obtain ⟨⟨a1,a2,a3,a4,_⟩,h2⟩:=hk;simp only [Ac1,Bool.and_eq_true,Bool.not_eq_true'] at h2;have b1:=Xi (set:=set) (a:=e.1.toNat) (b:=e.2.toNat) (by omega) (by rw [show ((e.1.toNat:Nat):Int)=e.1 by omega]; exact h2.1);have b2:=Xi (set:=set) (a:=e.2.toNat) (b:=n) (by omega) (by rw [show ((e.2.toNat:Nat):Int)=e.2 by omega]; exact h2.2);unfold Xs;simp only;omega
theorem renB_inj {n:Nat} {set:List Int} {e f:Int×Int} (he:Kept n set e) (hf:Kept n set f) (h:Xs set e=Xs set f):e=f:=by
 obtain ⟨⟨a1,a2,a3,a4,_⟩,h2⟩:=he;obtain ⟨⟨b1,b2,b3,b4,_⟩,g2⟩:=hf;simp only [Ac1,Bool.and_eq_true,Bool.not_eq_true'] at h2 g2;have k1:=congrArg Prod.fst h;have k2:=congrArg Prod.snd h;unfold Xs at k1 k2;simp only at k1 k2;have q1:=outN_inj (set:=set) (a:=e.1.toNat) (b:=f.1.toNat) (by rw [show ((e.1.toNat:Nat):Int)=e.1 by omega]; exact h2.1) (by rw [show ((f.1.toNat:Nat):Int)=f.1 by omega]; exact g2.1) (by omega);have q2:=outN_inj (set:=set) (a:=e.2.toNat) (b:=f.2.toNat) (by rw [show ((e.2.toNat:Nat):Int)=e.2 by omega]; exact h2.2) (by rw [show ((f.2.toNat:Nat):Int)=f.2 by omega]; exact g2.2) (by omega);exact Prod.ext (by omega) (by omega)
theorem Zk {B:List (Int×Int)} (hnd:B.Nodup):Rb B=false:=by
 refine hasDbl_false fun i hi=>?_;simp only [Jt,Bool.and_eq_false_iff,decide_eq_false_iff_not,beq_eq_false_iff_ne];by_cases h0:0<i
 ·refine .inr fun he=>?_;have:=(List.pairwise_iff_getElem.1 hnd) (i-1) i (by omega) hi (by omega);simp only [List.getD_eq_getElem?_getD,show i-1<B.length by omega,hi,List.getElem?_eq_getElem,Option.getD_some] at he;exact this he
 exact .inl h0
theorem Gy {g:Grf} (h:Cc g=true):Bd g=true∧g.bars.Nodup:=by
 simp only [Cc,Bool.and_eq_true,Bool.not_eq_true'] at h;exact ⟨h.1,graph_nodup h.1 h.2⟩
theorem Yz {g:Grf} (hg:Bd g=true) {set:List Int} {e:Int×Int} (he:e∈g.bars.filter (Ac1 set)):Kept g.n.toNat set e∧e.1<e.2:=by
 obtain ⟨h1,h2⟩:=List.mem_filter.1 he;have:=Da hg h1;exact ⟨⟨⟨by omega,by omega,by omega,by omega,by omega⟩,h2⟩,this.2.1⟩
theorem Abv {g:Grf} (h:Cc g=true) {set:List Int} (h1:1≤Gc set g.n.toNat):Cc (woG g set)=true:=by
 obtain ⟨hg,hd⟩:=Gy h;have hp:=As hg
 have hle:Gc set g.n.toNat≤g.n.toNat:=by
  have:=List.countP_le_length (l:=List.range g.n.toNat) (p:=fun (j:Nat)=>!set.contains (j:Int));rw [List.length_range] at this;exact this
 have hfl:=List.length_filter_le (Ac1 set) g.bars
 have hnd:((g.bars.filter (Ac1 set)).map (Xs set)).Nodup:=by
  rw [List.nodup_iff_pairwise_ne,List.pairwise_map];exact (List.nodup_iff_pairwise_ne.1 (hd.filter _)).imp_of_mem fun ha hb hab e=>hab (renB_inj (Yz hg ha).1 (Yz hg hb).1 e)
 have hsr:Srt ((g.bars.filter (Ac1 set)).map (Xs set)):=by
  unfold Srt;rw [List.pairwise_map];refine (List.Pairwise.sublist List.filter_sublist (Yu hg)).imp_of_mem fun {a b} ha hb hab=>?_;obtain ⟨⟨⟨a1,a2,a3,a4,_⟩,h2⟩,_⟩:=Yz hg ha;obtain ⟨⟨⟨b1,b2,b3,b4,_⟩,g2⟩,_⟩:=Yz hg hb;simp only [Ac1,Bool.and_eq_true,Bool.not_eq_true'] at h2 g2;simp only [Ee,Bool.or_eq_true,Bool.and_eq_true,decide_eq_true_eq,beq_iff_eq] at hab ⊢;unfold Xs;simp only;rcases hab with h3 | ⟨h3,h4⟩
  ·have:=Xi (set:=set) (a:=a.1.toNat) (b:=b.1.toNat) (by omega) (by rw [show ((a.1.toNat:Nat):Int)=a.1 by omega]; exact h2.1);left; omega
  have:=Te (set:=set) (a:=a.2.toNat) (b:=b.2.toNat) (by omega);right;rw [h3];exact ⟨O,by omega⟩
 have hgr:Bd (woG g set)=true:=by
  refine Aat (inB_true.2 ?_) ?_ hsr fun e he=>?_
  ·show (1:Int)≤(Gc set g.n.toNat:Int)∧(Gc set g.n.toNat:Int)≤8;omega
  ·show ((g.bars.filter (Ac1 set)).map (Xs set)).length≤24;rw [List.length_map]; omega
  obtain ⟨f,hf,rfl⟩:=List.mem_map.1 he;have hk:=Yz hg hf;have:=renB_ok hk.1 hk.2;show Tk (Gc set g.n.toNat:Int) _=true;simp [Tk,this.1,this.2.1,this.2.2]
 simp only [Cc,Bool.and_eq_true,Bool.not_eq_true'];exact ⟨hgr,Zk hnd⟩
theorem rank_full (hN:4000000≤N) {h:Grf} (hg:Bd h=true) {m:Nat} (hn:h.n=(m:Int)) (hm:2≤m) {J:List (Int×Int)} (hJ:Spr m J) (hs:∀ e∈J,e∈h.bars) (hl:J.length+3=2*m):Lp N h 2 3=some (J.length:Int):=by
 have hb:∀ e∈h.bars,Bok m e:=fun e he=>by
  have:=Da hg he;exact ⟨by omega,by omega,by omega,by omega,by omega⟩
 obtain ⟨p,h1,h2⟩:=runS_s hN hg hn hb;have hbas:=h1.bas;have a1:=spr_le hbas.spr hJ (fun e he=>hb e (hbas.mem e he)) fun e he=>hbas.spn e (hs e he);have a2:=hbas.spr.top hm;rw [List.length_map] at a1 a2;unfold Lp;rw [h2,Option.bind_some];show some (p.placed.length:Int)=_;rw [show p.placed.length=J.length by omega]
theorem rigid_full (hN:4000000≤N) {h:Grf} (hg:Bd h=true) {m:Nat} (hn:h.n=(m:Int)) (hm:2≤m) {J:List (Int×Int)} (hJ:Spr m J) (hs:∀ e∈J,e∈h.bars) (hl:J.length+3=2*m):Ls N h=some true:=by
 have hp:=As hg;unfold Ls Qd;rw [Ca N hN,hg,Option.bind_some,Bool.not_true,cnd_false,Bf (by omega) (by omega),Bf (by omega) (by omega),rank_full hN hg hn hm hJ hs hl,Option.bind_some,Bf (by omega) (by omega),Option.bind_some];congr 1;rw [beq_iff_eq];omega
theorem less_graph {g:Grf} (hg:Bd g=true) (i:Nat):Bd ⟨g.n,lessL g.bars i⟩=true:=by
 have hp:=As hg;have hs:(lessL g.bars i).Sublist g.bars:=lessL_sub _ _;have hl:=hs.length_le;refine Aat (inB_true.2 (by simp only; omega)) (by simp only; omega) (List.Pairwise.sublist hs (Yu hg)) fun e he=>?_;have:=Da hg (hs.subset he);simp [Tk,this.1,this.2.1,this.2.2]
theorem removeS_s (hN:4000000≤N) {g:Grf} (hg:Bd g=true) {i:Nat} (hi:i<g.bars.length):Fo N g (i:Int)=some (⟨g.n,lessL g.bars i⟩,true):=by
 have hp:=As hg;have e1:((i:Int)+1).toNat=i+1:=by omega
 have e2:((i:Int)).toNat=i:=by omega
 have hT:(g.bars.take i).length=i:=by rw [List.length_take]; omega
 have hD:(g.bars.drop (i+1)).length=g.bars.length-(i+1):=List.length_drop;unfold Fo;rw [Ca N hN,Option.bind_some,hg,Bool.not_true,cnd_false,Ay (by omega),Ay (by omega),e1,e2,List.drop_zero,List.take_length,List.nil_append,Am (by omega),Am (by omega),Bf (by omega) (by omega),Am (by omega),Am (by omega)];rfl
theorem red_full (hN:4000000≤N) {h:Grf} (hg:Bd h=true) {m:Nat} (hn:h.n=(m:Int)) (hm:2≤m) (hr:Ls N h=some true) (hJ:∀ i,i<h.bars.length→∃ J,Spr m J∧(∀ e∈J,e∈lessL h.bars i)∧J.length+3=2*m):Ds N h=some true:=by
 have hp:=As hg;obtain ⟨r,r1,r2,r3,_⟩:=rank_x hN (g:=h)
 have hr3:r≤2*(m:Int)-3:=by
  have hb:∀ e∈h.bars,Bok m e:=fun e he=>by
   have:=Da hg he;exact ⟨by omega,by omega,by omega,by omega,by omega⟩
  obtain ⟨p,h1,h2⟩:=runS_s hN hg hn hb;have a2:=h1.bas.spr.top hm;rw [List.length_map] at a2;unfold Lp at r3;rw [h2,Option.bind_some] at r3;have:(p.placed.length:Int)=r:=Option.some.inj r3;omega
 have key:∀ (fuel i:Nat),i≤h.bars.length→h.bars.length<fuel+i→Di N h 2 3 r (fun (l12:List Int)=>some l12) fuel (([]:List Int),(i:Int))=some []:=by
  intro fuel
  induction fuel with
  | zero=>intro i h1 h2; omega
  | succ fuel ih=>
   intro i h1 h2;rw [Di];by_cases hi:i<h.bars.length
   ·obtain ⟨J,j1,j2,j3⟩:=hJ i hi;rw [Bb (by omega)];by_cases h0:r≥0
    ·rw [Bb h0,removeS_s hN hg hi,Option.bind_some];show (Lp N ⟨h.n,lessL h.bars i⟩ 2 3).bind _=_;rw [rank_full hN (less_graph hg i) hn hm j1 j2 j3,Option.bind_some,Ay (by omega),Bf (by omega) (by omega),Ah];exact ih (i+1) (by omega) (by omega)
    rw [Ay h0]
   rw [Ay (by omega)]
 unfold Ds Lu Mg;rw [hr,Option.bind_some,cnd_true,r3,Option.bind_some];rw [show Di N h 2 3 r (fun (l12:List Int)=>some l12) N (([]:List Int),(0:Int))=some [] from key N 0 (by omega) (by omega)];rfl
theorem relB_fc (l:List Bool) (e:Int×Int):fcB (Acl l e)≤fcB l:=by
 unfold Acl
 cases (l.getD e.1.toNat false || l.getD e.2.toNat false) with
 | true=>rw [cnd_true]; exact Nat.le_trans (fcB_set _ _) (fcB_set _ _)
 | false=>rw [cnd_false]; exact Nat.le_refl _
theorem passB_fc (bars:List (Int×Int)):∀ l,fcB (Pb bars l)≤fcB l:=by
 unfold Pb
 induction bars with
 | nil=>intro l; exact Nat.le_refl _
 | cons e bars ih=>intro l; exact Nat.le_trans (ih _) (relB_fc l e)
theorem passB_or {n:Nat}:∀ {bars:List (Int×Int)} {l:List Bool},(∀ e∈bars,e.1.toNat<l.length∧e.2.toNat<l.length)→fcB (Pb bars l)<fcB l∨((∀ e∈bars,l.getD e.1.toNat false=l.getD e.2.toNat false)∧Pb bars l=l)
 | [],l,_=>.inr ⟨by simp,rfl⟩
 | e::bars,l,h=>by
  have he:=h e (by simp);by_cases hq:l.getD e.1.toNat false=l.getD e.2.toNat false
  ·have e1:Pb (e::bars) l=Pb bars l:=by unfold Pb; rw [List.foldl_cons,relB_eq hq]
   rcases passB_or (n:=n) (bars:=bars) (l:=l) (fun f hf=>h f (by simp [hf])) with h1 | ⟨h1,h2⟩
   ·left; rw [e1]; exact h1
   right;refine ⟨fun f hf=>?_,by rw [e1]; exact h2⟩;rcases List.mem_cons.1 hf with rfl | hf
   ·exact hq
   exact h1 f hf
  left;have:=(relB_ne he.1 he.2 hq).2;have e1:Pb (e::bars) l=Pb bars (Acl l e):=by unfold Pb; rw [List.foldl_cons]
  rw [e1];exact Nat.lt_of_le_of_lt (passB_fc _ _) this
theorem itB_done {bars:List (Int×Int)}:∀ {k:Nat} {l:List Bool},(∀ e∈bars,e.1.toNat<l.length∧e.2.toNat<l.length)→fcB l<k→∀ e∈bars,(itB bars k l).getD e.1.toNat false=(itB bars k l).getD e.2.toNat false
 | 0,l,_,h=>by omega
 | k+1,l,hb,h=>by
  rw [itB];rcases passB_or (n:=0) hb with h1 | ⟨h1,h2⟩
  ·exact itB_done (fun e he=>by rw [Aa3]; exact hb e he) (by omega)
  rw [h2,itB_same h2]; exact h1
theorem relB_keep {l:List Bool} {e:Int×Int} {j:Nat} (h:l.getD j false=true):(Acl l e).getD j false=true:=by
 unfold Acl
 cases (l.getD e.1.toNat false || l.getD e.2.toNat false) with
 | true=>rw [cnd_true]; exact getD_setB (getD_setB h)
 | false=>rw [cnd_false]; exact h
theorem Ac8 {j:Nat}:∀ {bars:List (Int×Int)} {l:List Bool},l.getD j false=true→(Pb bars l).getD j false=true
 | [],l,h=>h
 | e::bars,l,h=>by
  have e1:Pb (e::bars) l=Pb bars (Acl l e):=by unfold Pb; rw [List.foldl_cons]
  rw [e1];exact Ac8 (relB_keep h)
theorem itB_keep {bars:List (Int×Int)} {j:Nat}:∀ {k:Nat} {l:List Bool},l.getD j false=true→(itB bars k l).getD j false=true
 | 0,l,h=>h
 | k+1,l,h=>by rw [itB]; exact itB_keep (Ac8 h)
theorem conn_t (hN:4000000≤N) {h:Grf} (hg:Bd h=true) (hw:∀ u:Nat,(u:Int)<h.n→Pth h.bars (fun x=>0≤x∧x<h.n) 0 (u:Int)):Gz N h=some true:=by
 have hp:=As hg;obtain ⟨m,hm⟩:∃ m:Nat,h.n=(m:Int):=⟨h.n.toNat,by omega⟩;have en:h.n.toNat=m:=by omega
 obtain ⟨s,hs⟩:∃ s,s=(List.replicate h.n.toNat false).set 0 true:=⟨_,rfl⟩;have hsl:s.length=m:=by rw [hs,List.length_set,List.length_replicate]; omega
 have hbr:∀ e∈h.bars,e.1.toNat<s.length∧e.2.toNat<s.length:=fun e he=>by
  have:=Da hg he;omega
 have h0:s.getD 0 false=true:=by
  rw [hs,List.getD_eq_getElem?_getD,List.getElem?_set]; rw [if_pos rfl,if_pos (by rw [List.length_replicate]; omega)]; rfl
 have hfc:fcB s<h.n.toNat:=by
  have hl0:(List.replicate h.n.toNat false).getD 0 false=false:=by
   rw [List.getD_eq_getElem?_getD,List.getElem?_replicate]; split <;> rfl
  have a:=fcB_lt (l:=List.replicate h.n.toNat false) (i:=0) (by rw [List.length_replicate]; omega) hl0
  have b:fcB (List.replicate h.n.toNat false)≤h.n.toNat:=by
   unfold fcB;exact Nat.le_trans List.countP_le_length (by rw [List.length_replicate]; omega)
  rw [hs]; omega
 obtain ⟨l,hl⟩:∃ l,l=itB h.bars h.n.toNat s:=⟨_,rfl⟩;have hll:l.length=m:=by rw [hl,itB_len]; exact hsl
 have cl:=itB_done hbr hfc;have k0:=itB_keep (bars:=h.bars) (k:=h.n.toNat) h0;rw [←hl] at cl k0
 have all:∀ x,Pth h.bars (fun x=>0≤x∧x<h.n) 0 x→l.getD x.toNat false=true:=fun x hx=>by
  induction hx with
  | self _=>exact k0
  | @step b c h1 h2 h3 ih=>
   have:=cl _ h3;unfold brr at this;simp only at this;rcases Int.le_total b c with q | q
   ·rw [Int.min_eq_left q,Int.max_eq_right q] at this; rw [←this]; exact ih
   rw [Int.min_eq_right q,Int.max_eq_left q] at this; rw [this]; exact ih
 have coll:∀ (fuel i:Nat) (L:List Int),i≤m→m<fuel+i→L.length=i→∃ L':List Int,Fd N h l (fun (l25:List Int)=>some l25) fuel (L,(i:Int))=some L'∧L'.length=m:=by
  intro fuel
  induction fuel with
  | zero=>intro i L h1 h2; omega
  | succ fuel ih=>
   intro i L h1 h2 h3;rw [Fd];by_cases hi:i<m
   ·have:=all _ (hw i (by omega));rw [show ((i:Int)).toNat=i from rfl] at this;rw [Bb (by omega),List.length_replicate,Am (by omega),Am (by omega),show ((i:Int)).toNat=i from rfl,this,cnd_true,Am (by omega),Bf (by omega) (by omega),Ah];exact ih (i+1) _ (by omega) (by omega) (by simp; omega)
   rw [Ay (by omega)];exact ⟨L,O,by omega⟩
 obtain ⟨L',c1,c2⟩:=coll N 0 [] (by omega) (by omega) rfl;unfold Gz;rw [Ca N hN,hg,Option.bind_some,cnd_true]
 have:Qo N h 0=some L':=by
  unfold Qo;rw [Ca N hN,hg,Option.bind_some,Bool.not_true,cnd_false,Ay (by omega),Ay (by omega),Am (by omega),List.length_replicate,Am (by omega),show ((0:Int)).toNat=0 from rfl,←hs];refine (reachS2_s hN hg _ (by omega)).trans ?_;rw [←hl];exact c1
 rw [this,Option.bind_some,c2,hm];simp
theorem vsz_list {n:Nat} {P:List Int} (hd:P.Nodup) (hr:∀ v∈P,0≤v∧v<(n:Int)):vsz n (fun v=>P.contains v)=P.length:=by
 have a:=vsz_ge (n:=n) (W:=fun v=>P.contains v) hd fun v hv=>⟨hr v hv,by simpa using hv⟩
 have b:vsz n (fun v=>P.contains v)≤P.length:=by
  unfold vsz;rw [List.countP_eq_length_filter,←List.length_map (f:=fun (i:Nat)=>(i:Int))];refine Jj ?_ fun x hx=>?_
  ·rw [List.nodup_iff_pairwise_ne];refine List.Pairwise.map _ (fun a b h=>?_) (List.nodup_iff_pairwise_ne.1 (List.nodup_range.filter _));omega
  obtain ⟨k,hk,rfl⟩:=List.mem_map.1 hx;simpa using (List.mem_filter.1 hk).2
 omega
theorem renB_brr (set:List Int) {a b:Int} (ha:0≤a) (hb:0≤b):Xs set (brr a b)=brr (Gc set a.toNat:Int) (Gc set b.toNat:Int):=by
 unfold Xs brr;simp only;rcases Int.le_total a b with h | h
 ·have:=Te (set:=set) (a:=a.toNat) (b:=b.toNat) (by omega);rw [Int.min_eq_left h,Int.max_eq_right h,Int.min_eq_left (by omega),Int.max_eq_right (by omega)]
 have:=Te (set:=set) (a:=b.toNat) (b:=a.toNat) (by omega);rw [Int.min_eq_right h,Int.max_eq_left h,Int.min_eq_right (by omega),Int.max_eq_left (by omega)]
theorem kconn_t (hN:4000000≤N) {h:Grf} (hg:Bd h=true) {m:Nat} (hn:h.n=(m:Int)) (hm:4≤m) (hc:∀ U:List Int,U.Nodup→(∀ x∈U,0≤x∧x<(m:Int))→U.length≤2→Gz N (woG h U)=some true):Hm N h 3=some true:=by
 have hp:=As hg;have hm8:m≤8:=by omega
 have h8:2 ^ m≤2 ^ 8:=Nat.pow_le_pow_right (by omega) hm8;have h88:(2:Nat) ^ 8=256:=by decide
 have hpw:(1:Int)*2 ^ m=((2 ^ m:Nat):Int):=by rw [Int.one_mul]; simp
 have e0:h.n.toNat=m:=by omega
 have hpos:(0:Int)≤((2 ^ m:Nat):Int):=Int.natCast_nonneg _;have hR:Bc ((2 ^ m:Nat):Int):=⟨by omega,by omega⟩
 have cut:∀ k:Nat,k≤2→Qs N h (k:Int)=some []:=fun k hk=>by
  have loop:∀ (fuel i:Nat),i≤2 ^ m→2 ^ m<fuel+i→Dz N h (k:Int) (fun (l17:List (List Int))=>some l17) fuel (([]:List (List Int)),(i:Int))=some []:=by
   intro fuel
   induction fuel with
   | zero=>intro i h1 h2; omega
   | succ fuel ih=>
    intro i h1 h2;rw [Dz,e0,hpw,Am ⟨by omega,by omega,hR⟩];by_cases hi:i<2 ^ m
    ·rw [Bb (show (i:Int)<((2 ^ m:Nat):Int) by omega),setS_s hN (by omega),e0,Option.bind_some];have next:=ih (i+1) (by omega) (by omega);by_cases hl:(Ec (i:Int) m).length=k
     ·have hcc:=hc (Ec (i:Int) m) (Yr _ _).1 (fun x hx=>Zb hx) (by omega);rw [Tt (by omega),Bf (by omega) (by omega),Bb (by omega),Ab9 hN hg (by omega),Option.bind_some,hcc,Option.bind_some,Bool.not_true,cnd_false,Bf (by omega) (by omega),Ah];exact next
     rw [Rj (by omega),Bf (by omega) (by omega),Ah];exact next
    rw [Ay (by omega)]
  unfold Qs;rw [Ca N hN,hg,Option.bind_some,Bool.not_true,cnd_false,Zg N,Option.bind_some,inB_true.2 (by omega),Bool.not_true,cnd_false];exact loop N 0 (by omega) (by omega)
 have loop:∀ (fuel i:Nat),i≤3→3<fuel+i→Dm N h 3 (fun (_:Unit)=>some true) fuel (i:Int)=some true:=by
  intro fuel
  induction fuel with
  | zero=>intro i h1 h2; omega
  | succ fuel ih=>
   intro i h1 h2;rw [Dm];by_cases hi:i<3
   ·have e0:((([]:List (List Int)).length:Nat):Int)=0:=rfl;rw [Bb (by omega),cut i (by omega),Option.bind_some,e0,Ay (by omega),Bf (by omega) (by omega),Ah];exact ih (i+1) (by omega) (by omega)
   rw [Ay (by omega)]
 unfold Hm;rw [Ca N hN,hg,Option.bind_some,Bool.not_true,cnd_false,Zg N,Option.bind_some,inB_true.2 (by omega),Bool.not_true,cnd_false,Ay (by omega)];exact loop N 0 (by omega) (by omega)
theorem mem_less {α:Type} {l:List α} {i:Nat} {x:α} (hx:x∈l) (hi:i<l.length) (hne:x≠l[i]):x∈lessL l i:=by
 unfold lessL;rw [List.mem_append];rw [←List.take_append_drop i l,List.mem_append,List.drop_eq_getElem_cons hi,List.mem_cons] at hx;rcases hx with h | h | h
 ·exact .inl h
 ·exact absurd h hne
 exact .inr h
theorem glob_t (hN:4000000≤N) {x:Grf} (hx:Cc x=true) {n:Nat} (hn:x.n=(n:Int)) {P:List Int} (hP:Glo n x.bars P) {m:Nat} (hm:m<2 ^ n) (hset:∀ j:Nat,j<n→(m.testBit j=true↔(j:Int)∈P)) :
  ∃ v,Fg N x (Ec (m:Int) n)=some v∧Bj N v=some true:=by
 obtain ⟨hg,hd⟩:=Gy hx;have hp:=As hg;have hn8:n≤8:=by omega
 have en:x.n.toNat=n:=by omega
 have h8:2 ^ n≤2 ^ 8:=Nat.pow_le_pow_right (by omega) hn8;have h88:(2:Nat) ^ 8=256:=by decide
 obtain ⟨D,hD⟩:∃ D,D=Ec ((2 ^ n-1-m:Nat):Int) n:=⟨_,rfl⟩;have hDl:D.length≤n:=by rw [hD]; exact Jm _ _
 have hDm:∀ j:Nat,j<n→(D.contains (j:Int)=false↔(j:Int)∈P):=fun j hj=>by
  rw [←hset j hj,hD,←Bool.not_eq_true,List.contains_iff_mem,Ky hj,Aa2 hn8 hm hj,Jg (by omega) (by omega)];cases m.testBit j <;> simp
 have hDv:∀ v∈P,D.contains v=false:=fun v hv=>by
  have r:=hP.rg v hv;have:=(hDm v.toNat (by omega)).2 (by rw [show ((v.toNat:Nat):Int)=v by omega]; exact hv)
  rwa [show ((v.toNat:Nat):Int)=v by omega] at this
 have hq:Gc D n=P.length:=by
  rw [←vsz_list hP.nd hP.rg];unfold Gc vsz;refine List.countP_congr fun j hj=>?_;have hj:=List.mem_range.1 hj;have:=hDm j hj;rw [Bool.not_eq_true',this];simp
 have hge:=hP.ge
 have hkp:∀ e∈x.bars,e.1∈P→e.2∈P→Kept n D e:=fun e he h1 h2=>by
  have:=Da hg he;exact ⟨⟨by omega,by omega,by omega,by omega,by omega⟩,by unfold Ac1; rw [hDv _ h1,hDv _ h2]; rfl⟩
 refine ⟨woG x D,?_,?_⟩
 ·rw [part_s hN hn hn8 hm,←hD];exact Ab9 hN hg (by omega)
 have vn:(woG x D).n=(P.length:Int):=by
  show (Gc D x.n.toNat:Int)=_;rw [en,hq]
 have vs:Cc (woG x D)=true:=Abv hx (by rw [en,hq]; omega);obtain ⟨vg,vd⟩:=Gy vs;have vbar:∀ e∈x.bars,e.1∈P→e.2∈P→Xs D e∈(woG x D).bars:=fun e he h1 h2=>List.mem_map.2 ⟨e,List.mem_filter.2 ⟨he,(hkp e he h1 h2).2⟩,rfl⟩
 have full:∀ no:Int×Int,(P.length=3→∀ x∈P,∀ y∈P,brr x y≠no)→∃ J:List (Int×Int),Spr P.length (J.map (Xs D))∧(∀ e∈J,e∈x.bars∧e.1∈P∧e.2∈P∧e≠no)∧J.length+3=2*P.length:=fun no hno=>by
  obtain ⟨J,j1,j2,j3⟩:=hP.rig no hno;have:=spr_ren (set:=D) j1 fun e he=>hkp e (j2 e he).1 (j2 e he).2.1 (j2 e he).2.2.1;rw [hq] at this;exact ⟨J,this,j2,j3⟩
 obtain ⟨J,j1,j2,j3⟩:=full (-1,-1) fun _ a ha b hb e=>by
  have ra:=hP.rg a ha;have rb:=hP.rg b hb;have:=congrArg Prod.fst e;unfold brr at this;simp only at this;omega
 have hw:Fa N (woG x D)=some (ByteArray.mk #[]):=by
  have hvl:(woG x D).bars.length≤24:=(As vg).2.1;have hvp:=As vg;unfold Fa;rw [Qm N hN (by omega),vs,Option.bind_some,Bool.not_true,cnd_false];by_cases h3:P.length=3
  ·have h3':(woG x D).n=3:=by rw [vn,h3]; rfl
   have hJl:3≤(woG x D).bars.length:=by
    have hJd:=j1.nodup fun e he=>by
     obtain ⟨f,hf,rfl⟩:=List.mem_map.1 he;have q:=j2 f hf;have hlt:=(Da hg q.1).2.1;have:=renB_ok (hkp f q.1 q.2.1 q.2.2.1) hlt;rw [hq] at this;exact ⟨this.1,by omega,by omega,this.2.2,by omega⟩
    have:=Jj (L:=(woG x D).bars) hJd fun e he=>by
     obtain ⟨f,hf,rfl⟩:=List.mem_map.1 he;have q:=j2 f hf;exact vbar f q.1 q.2.1 q.2.2.1
    rw [List.length_map] at this;omega
   rw [h3'];have e6:Int.tdiv ((3:Int)*(3-1)) 2=3:=by decide
   rw [Bb (by omega),Bf (by omega) (by omega),Bf (by omega) (by omega),e6,Am ⟨by omega,by omega,by omega⟩,Ay (by omega)]
  have h4:4≤P.length:=by omega
  have hJv:∀ e∈J.map (Xs D),e∈(woG x D).bars:=fun e he=>by
   obtain ⟨f,hf,rfl⟩:=List.mem_map.1 he;have q:=j2 f hf;exact vbar f q.1 q.2.1 q.2.2.1
  have hr:=rigid_full hN vg vn (by omega) j1 hJv (by rw [List.length_map]; exact j3)
  have hred:=red_full hN vg vn (by omega) hr fun i hi=>by
   obtain ⟨e,he,e2⟩:=List.mem_map.1 (List.getElem_mem hi);obtain ⟨J',k1,k2,k3⟩:=full e fun h=>absurd h h3;refine ⟨J'.map (Xs D),k1,fun f hf=>?_,by rw [List.length_map]; exact k3⟩;obtain ⟨f',hf',rfl⟩:=List.mem_map.1 hf;have q:=k2 f' hf';refine mem_less (vbar f' q.1 q.2.1 q.2.2.1) hi fun e3=>?_;rw [←e2] at e3;have hke:=(Yz hg he).1;rw [en] at hke;exact q.2.2.2 (renB_inj (hkp f' q.1 q.2.1 q.2.2.1) hke e3)
  have hk:=kconn_t hN vg vn h4 fun U hU hUr hU2=>by
   have hin:∀ v∈P,(0:Int)≤(Gc D v.toNat:Int)∧Gc D v.toNat<P.length:=fun v hv=>by
    have r:=hP.rg v hv;have:=Xi (set:=D) (a:=v.toNat) (b:=n) (by omega) (by rw [show ((v.toNat:Nat):Int)=v by omega]; exact hDv v hv);omega
   have dinj:∀ a∈P,∀ b∈P,Gc D a.toNat=Gc D b.toNat→a=b:=fun a ha b hb e=>by
    have ra:=hP.rg a ha;have rb:=hP.rg b hb;have:=outN_inj (set:=D) (a:=a.toNat) (b:=b.toNat) (by rw [show ((a.toNat:Nat):Int)=a by omega]; exact hDv a ha) (by rw [show ((b.toNat:Nat):Int)=b by omega]; exact hDv b hb) e;omega
   have hC:=hP.conn (C:=fun v=>U.contains (Gc D v.toNat:Int)) fun a b c ha hb hc hab hac hbc h1 h2 h3=>by
    have h1:(Gc D a.toNat:Int)∈U:=by simpa using h1
    have h2:(Gc D b.toNat:Int)∈U:=by simpa using h2
    have h3:(Gc D c.toNat:Int)∈U:=by simpa using h3
    have d1:(Gc D a.toNat:Int)≠(Gc D b.toNat:Int):=fun e=>hab (dinj a ha b hb (by omega));have d2:(Gc D a.toNat:Int)≠(Gc D c.toNat:Int):=fun e=>hac (dinj a ha c hc (by omega));have d3:(Gc D b.toNat:Int)≠(Gc D c.toNat:Int):=fun e=>hbc (dinj b hb c hc (by omega));have hnd:[(Gc D a.toNat:Int),(Gc D b.toNat:Int),(Gc D c.toNat:Int)].Nodup:=by simp only [List.nodup_cons,List.mem_cons,List.not_mem_nil,or_false,not_or,List.nodup_nil,not_false_eq_true,and_true]; exact ⟨⟨d1,d2⟩,d3⟩
    have:=Jj (L:=U) hnd fun y hy=>by
     simp only [List.mem_cons,List.not_mem_nil,or_false] at hy;rcases hy with rfl | rfl | rfl <;> assumption
    simp at this;omega
   have hsur:∀ u:Nat,u<Gc U P.length→∃ v∈P,U.contains (Gc D v.toNat:Int)=false∧Gc U (Gc D v.toNat)=u:=fun u hu=>by
    obtain ⟨w,w1,w2,w3⟩:=Abf hu;rw [←hq] at w1;obtain ⟨v,v1,v2,v3⟩:=Abf w1;refine ⟨(v:Int),(hDm v v1).1 v2,?_,?_⟩
    ·rw [Int.toNat_natCast,v3]; exact w2
    rw [Int.toNat_natCast,v3,w3]
   have hcnt:P.length≤Gc U P.length+U.length:=by
    have:=vsz_list hU hUr
    have e1:Gc U P.length+vsz P.length (fun v=>U.contains v)=P.length:=by
     show (List.range P.length).countP (fun (j:Nat)=>!U.contains (j:Int))+(List.range P.length).countP (fun (j:Nat)=>U.contains (j:Int))=P.length;have:=List.length_eq_countP_add_countP (p:=fun (j:Nat)=>U.contains (j:Int)) (l:=List.range P.length);rw [List.length_range] at this
     have e2:(List.range P.length).countP (fun (j:Nat)=>!U.contains (j:Int))=(List.range P.length).countP (fun (j:Nat)=>decide ¬ U.contains (j:Int)=true):=by
      refine List.countP_congr fun j _=>?_;cases U.contains (j:Int) <;> simp
     rw [e2];omega
    omega
   have wn:(woG (woG x D) U).n=(Gc U P.length:Int):=by
    show (Gc U (woG x D).n.toNat:Int)=_;rw [vn,Int.toNat_natCast]
   have ws:Cc (woG (woG x D) U)=true:=Abv vs (by rw [vn,Int.toNat_natCast]; omega);have wg:=(Gy ws).1;obtain ⟨r,r1,r2,r3⟩:=hsur 0 (by omega)
   have wmap:∀ a b,Pth x.bars (fun y=>y∈P∧U.contains (Gc D y.toNat:Int)=false) a b→Pth (woG (woG x D) U).bars (fun y=>0≤y∧y<(woG (woG x D) U).n) (Gc U (Gc D a.toNat):Int) (Gc U (Gc D b.toNat):Int):=fun a b hab=>by
    have rgq:∀ y,y∈P∧U.contains (Gc D y.toNat:Int)=false→(0:Int)≤(Gc U (Gc D y.toNat):Int)∧(Gc U (Gc D y.toNat):Int)<(woG (woG x D) U).n:=fun y hy=>by
     have h1:=(hin y hy.1).2;have:=Xi (set:=U) h1 hy.2;rw [wn]; omega
    induction hab with
    | self h1=>exact .self (rgq _ h1)
    | @step b c h1 h2 h3 ih=>
     have hbq:b∈P∧U.contains (Gc D b.toNat:Int)=false:=by
      cases h1 with
      | self h=>exact h
      | step _ h _=>exact h
     refine ih.step (rgq _ h2) ?_;have rb:=hP.rg b hbq.1;have rc:=hP.rg c h2.1;have m1:=Ys hbq.1 h2.1;have e1:=vbar _ h3 m1.1 m1.2;rw [renB_brr D rb.1 rc.1] at e1
     have k1:Ac1 U (brr (Gc D b.toNat:Int) (Gc D c.toNat:Int))=true:=by
      have:=brr_in (X:=fun v=>!U.contains v) (a:=(Gc D b.toNat:Int)) (b:=(Gc D c.toNat:Int));unfold inX at this;unfold Ac1;rw [this,hbq.2,h2.2]; rfl
     have e2:Xs U (brr (Gc D b.toNat:Int) (Gc D c.toNat:Int))∈(woG (woG x D) U).bars:=List.mem_map.2 ⟨_,List.mem_filter.2 ⟨e1,k1⟩,rfl⟩;rw [renB_brr U (by omega) (by omega),Int.toNat_natCast,Int.toNat_natCast] at e2;exact e2
   refine conn_t hN wg fun u hu=>?_;rw [wn] at hu;obtain ⟨v,v1,v2,v3⟩:=hsur u (by omega);have:=wmap r v (hC r v r1 r2 v1 v2);rw [r3,v3] at this;exact this
  rw [Ay (by omega),hr,Option.bind_some,Bool.not_true,cnd_false,hk,Option.bind_some,Bool.not_true,cnd_false,hred,Option.bind_some,Bool.not_true,cnd_false]
 unfold Bj;rw [hw,Option.bind_some,beq_self_eq_true]
end
end Go.Proofs.YtaipbhnpandbkaaGreat
