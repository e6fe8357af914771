/- Texts that the proof needs, put together: G119 Shc G120 Ec Eh G54 Qk Pb Pbr G10 G11 G22. -/
import Derived.Test.YtcljhpldfanhkaaBJf3
import Derived.Test.YtcljhpldfanhkaaBJf4
import Derived.Test.YtcljhpldfanhkaaBJf5
import Derived.Test.YtcljhpldfanhkaaBJf6
set_option maxRecDepth 20000
set_option maxHeartbeats 1600000
set_option linter.unusedVariables false
set_option linter.unusedSimpArgs false
namespace Go.Proofs.Ytcljhpldfanhkaa
section
open Go.RowKit
def L_big (N:Nat) (code_0:List Int):Option (Bool):=
 some (decide ((code_0.length:Int) > (1048576:Int)))
theorem L_big_w (N:Nat) (code_0:List Int) (r:Bool) (h:L_big N code_0=some r):PCall Try.prog 9 [.ro false (.bytes code_0)] [] (.bool r):=by
 unfold L_big at h
 refine Ah (TT:=TT) tt Try.func9 rfl rfl Try.ntmps9 (congrArg Array.toList Try.results9) rfl rfl fun w0=>?_
 refine Ag ?_
 refine Aa ?_
 refine oV5 tt rfl Tvv ?_
 refine Ae ?_
 show VC ..
 refine Ag ?_
 refine Aa ?_
 iterate 4 refine oV5 tt rfl Tvv ?_
 refine Ae ?_
 show VC ..
 refine Bb ?_
 show ∃ _,_
 cases h
 exact ⟨[],_,rfl,Tvv,rfl,(.eq rfl),rfl⟩
def Lz (N:Nat) (c_0:Cur):Option (Int×Int×Int):=
 cnd (decide (c_0.i<(c_0.b.length:Int))) (
  grd (0≤c_0.i∧c_0.i<(c_0.b.length:Int)) <|
  grd (0≤(c_0.b.getD ((c_0.i).toNat) 0)∧(c_0.b.getD ((c_0.i).toNat) 0)<256) <|
  some ((andI (w64 ((andI (xorI (shrI (w64 ((w64 (c_0.h*(6364136223846793005:Int)))+(1442695040888963407:Int))) 33) (shrI (w64 ((w64 (c_0.h*(6364136223846793005:Int)))+(1442695040888963407:Int))) 45)) (255:Int))+(c_0.b.getD ((c_0.i).toNat) 0))) (255:Int)),(w64 (c_0.i+(1:Int))),(w64 ((w64 (c_0.h*(6364136223846793005:Int)))+(1442695040888963407:Int))))) (
  some ((andI (xorI (shrI (w64 ((w64 (c_0.h*(6364136223846793005:Int)))+(1442695040888963407:Int))) 33) (shrI (w64 ((w64 (c_0.h*(6364136223846793005:Int)))+(1442695040888963407:Int))) 45)) (255:Int)),c_0.i,(w64 ((w64 (c_0.h*(6364136223846793005:Int)))+(1442695040888963407:Int)))))
theorem Pu (N:Nat) (c_0:Cur) (r:Int×Int×Int) (h:Lz N c_0=some r):MCall Try.prog 179 [.ptr 1000000 0] [] [1000000] [] [] [[.ro false (.bytes c_0.b),.int c_0.i,.int c_0.h]] [[.ro false (.bytes c_0.b),.int r.2.1,.int r.2.2]] (.int r.1):=by
 unfold Lz at h
 refine Hs (TT:=TT) tt Try.func179 rfl rfl Try.ntmps179 (congrArg Array.toList Try.results179) rfl rfl rfl rfl rfl fun w0 O0=>?_
 refine Ag ?_
 refine Aa ?_
 refine oV5 tt rfl Tvv ?_
 refine Ae ?_
 show VC ..
 refine Ag ?_
 refine Aa ?_
 iterate 5 refine oV5 tt rfl Tvv ?_
 refine Du (Ad rfl) (pMulW rfl rfl rfl) rfl rfl ?_
 refine Du (Ad rfl) (pAddW rfl rfl rfl) rfl rfl ?_
 iterate 2 refine oV5 tt rfl Tvv ?_
 refine Ao tt rfl rfl rfl rfl rfl rfl rfl rfl rfl rfl rfl ⟨Tvv,Tvv⟩ ?_
 refine Ae ?_
 show VC ..
 refine Ag ?_
 refine Cg (by kernel_rfl) (by kernel_rfl) ?_
 iterate 4 refine Bi tt rfl (Ad rfl) rfl rfl rfl Tvv ?_
 refine Xu (Ad rfl) (pShrU rfl rfl rfl (by decide)) rfl rfl ?_
 iterate 4 refine Bi tt rfl (Ad rfl) rfl rfl rfl Tvv ?_
 refine Xu (Ad rfl) (pShrU rfl rfl rfl (by decide)) rfl rfl ?_
 refine Xu (Ad rfl) (pXor rfl rfl rfl) rfl rfl ?_
 iterate 2 refine Bi tt rfl (Ad rfl) rfl rfl rfl Tvv ?_
 refine La ?_
 show VC ..
 iterate 2 refine Ag ?_
 refine Cg (by kernel_rfl) (by kernel_rfl) ?_
 iterate 10 refine Bi tt rfl (Ad rfl) rfl rfl rfl Tvv ?_
 refine La ?_
 show VC ..
 refine Au rfl (fun hb1=>?_) (fun hb1=>?_)
 ·replace h:=Ai hb1 h
  refine Ag ?_
  refine Cg (by kernel_rfl) (by kernel_rfl) ?_
  iterate 9 refine Bi tt rfl (Ad rfl) rfl rfl rfl Tvv ?_
  obtain ⟨hg2,h⟩:=Ab h
  refine Bi tt rfl (Ad rfl) rfl rfl rfl hg2 ?_
  refine Bi tt rfl (Ad rfl) rfl rfl rfl Tvv ?_
  obtain ⟨hg3,h⟩:=Ab h
  refine Xu (Ad rfl) (pConvI Try.underlying5 Try.underlying3 rfl rfl hg3) rfl rfl ?_
  refine Xu (Ad rfl) (pAddW rfl rfl rfl) rfl rfl ?_
  iterate 2 refine Bi tt rfl (Ad rfl) rfl rfl rfl Tvv ?_
  refine La ?_
  show VC ..
  refine Aa ?_
  iterate 5 refine oV5 tt rfl Tvv ?_
  refine Du (Ad rfl) (pAddW rfl rfl rfl) rfl rfl ?_
  iterate 2 refine oV5 tt rfl Tvv ?_
  refine Ao tt rfl rfl rfl rfl rfl rfl rfl rfl rfl rfl rfl ⟨Tvv,Tvv⟩ ?_
  refine Ae ?_
  show VC ..
  refine Ag ?_
  refine Aa ?_
  iterate 2 refine oV5 tt rfl Tvv ?_
  refine Ae ?_
  show VC ..
  refine Bb ?_
  show ∃ _,_
  cases h
  exact ⟨[],rfl,Tvv,⟨rfl,Tvv⟩,rfl⟩
 replace h:=Aj hb1 h
 refine Ar ?_
 show VC ..
 refine Ag ?_
 refine Aa ?_
 iterate 2 refine oV5 tt rfl Tvv ?_
 refine Ae ?_
 show VC ..
 refine Bb ?_
 show ∃ _,_
 cases h
 exact ⟨[],rfl,Tvv,⟨rfl,Tvv⟩,rfl⟩
def Bt (N:Nat) (c_0:Cur) (n_1:Int):Option (Int×Int×Int):=
 cnd (decide (n_1≤(0:Int))) (
  some ((0:Int),c_0.i,c_0.h)) (
  cnd (decide (n_1≤(256:Int))) (
   (Lz N c_0).bind fun v1=>
   grd (n_1≠0) <|
   some ((Int.tmod v1.1 n_1),v1.2.1,v1.2.2)) (
   (Lz N c_0).bind fun v2=>
   (Lz N (⟨c_0.b,v2.2.1,v2.2.2⟩:Cur)).bind fun v3=>
   (Lz N (⟨c_0.b,v3.2.1,v3.2.2⟩:Cur)).bind fun v4=>
   (Lz N (⟨c_0.b,v4.2.1,v4.2.2⟩:Cur)).bind fun v5=>
   grd (Bf (v2.1*(16777216:Int))) <|
   grd (Bf (v3.1*(65536:Int))) <|
   grd (Bf ((v2.1*(16777216:Int))+(v3.1*(65536:Int)))) <|
   grd (Bf (v4.1*(256:Int))) <|
   grd (Bf (((v2.1*(16777216:Int))+(v3.1*(65536:Int)))+(v4.1*(256:Int)))) <|
   grd (Bf ((((v2.1*(16777216:Int))+(v3.1*(65536:Int)))+(v4.1*(256:Int)))+v5.1)) <|
   grd (n_1≠0) <|
   some ((Int.tmod ((((v2.1*(16777216:Int))+(v3.1*(65536:Int)))+(v4.1*(256:Int)))+v5.1) n_1),v5.2.1,v5.2.2)))
theorem Bu (N:Nat) (c_0:Cur) (n_1:Int) (r:Int×Int×Int) (h:Bt N c_0 n_1=some r):MCall Try.prog 123 [.ptr 1000000 0,.int n_1] [] [1000000] [] [] [[.ro false (.bytes c_0.b),.int c_0.i,.int c_0.h]] [[.ro false (.bytes c_0.b),.int r.2.1,.int r.2.2]] (.int r.1):=by
 unfold Bt at h
 refine Hs (TT:=TT) tt Try.func123 rfl rfl Try.ntmps123 (congrArg Array.toList Try.results123) rfl rfl rfl rfl rfl fun w0 O0=>?_
 refine Ag ?_
 refine Aa ?_
 refine oV5 tt rfl Tvv ?_
 refine Ae ?_
 show VC ..
 iterate 2 refine Ag ?_
 refine Aa ?_
 iterate 2 refine oV5 tt rfl Tvv ?_
 refine Ae ?_
 show VC ..
 refine Au rfl (fun hb1=>?_) (fun hb1=>?_)
 ·replace h:=Ai hb1 h
  refine Ag ?_
  refine Aa ?_
  refine oV5 tt rfl Tvv ?_
  refine Ae ?_
  show VC ..
  refine Bb ?_
  show ∃ _,_
  cases h
  exact ⟨[],rfl,Tvv,⟨rfl,Tvv⟩,rfl⟩
 replace h:=Aj hb1 h
 refine Ar ?_
 show VC ..
 iterate 2 refine Ag ?_
 refine Aa ?_
 iterate 2 refine oV5 tt rfl Tvv ?_
 refine Ae ?_
 show VC ..
 refine Au rfl (fun hb2=>?_) (fun hb2=>?_)
 ·replace h:=Ai hb2 h
  refine Ag ?_
  refine Aa ?_
  refine oV5 tt rfl Tvv ?_
  obtain ⟨v1,hc3,h⟩:=Ac h
  refine Gc (Pu N c_0 v1 hc3) [] [1000000] [] rfl rfl rfl rfl rfl rfl Tvv ⟨rfl,Tvv⟩ ⟨⟨rfl,rfl⟩,Tvv⟩ ?_
  refine oV5 tt rfl Tvv ?_
  obtain ⟨hg4,h⟩:=Ab h
  refine oV5 tt rfl hg4 ?_
  refine oV5 tt rfl Tvv ?_
  refine Ae ?_
  show VC ..
  refine Bb ?_
  show ∃ _,_
  cases h
  exact ⟨[],rfl,Tvv,⟨rfl,Tvv⟩,rfl⟩
 replace h:=Aj hb2 h
 refine Ar ?_
 show VC ..
 refine Ag ?_
 refine Aa ?_
 refine oV5 tt rfl Tvv ?_
 obtain ⟨v2,hc5,h⟩:=Ac h
 refine Gc (Pu N c_0 v2 hc5) [] [1000000] [] rfl rfl rfl rfl rfl rfl Tvv ⟨rfl,Tvv⟩ ⟨⟨rfl,rfl⟩,Tvv⟩ ?_
 refine oV5 tt rfl Tvv ?_
 refine Ae ?_
 show VC ..
 refine Ag ?_
 refine Aa ?_
 refine oV5 tt rfl Tvv ?_
 obtain ⟨v3,hc6,h⟩:=Ac h
 refine Gc (Pu N (⟨c_0.b,v2.2.1,v2.2.2⟩:Cur) v3 hc6) [] [1000000] [] rfl rfl rfl rfl rfl rfl Tvv ⟨rfl,Tvv⟩ ⟨⟨rfl,rfl⟩,Tvv⟩ ?_
 refine oV5 tt rfl Tvv ?_
 refine Ae ?_
 show VC ..
 refine Ag ?_
 refine Aa ?_
 refine oV5 tt rfl Tvv ?_
 obtain ⟨v4,hc7,h⟩:=Ac h
 refine Gc (Pu N (⟨c_0.b,v3.2.1,v3.2.2⟩:Cur) v4 hc7) [] [1000000] [] rfl rfl rfl rfl rfl rfl Tvv ⟨rfl,Tvv⟩ ⟨⟨rfl,rfl⟩,Tvv⟩ ?_
 refine oV5 tt rfl Tvv ?_
 refine Ae ?_
 show VC ..
 refine Ag ?_
 refine Aa ?_
 refine oV5 tt rfl Tvv ?_
 obtain ⟨v5,hc8,h⟩:=Ac h
 refine Gc (Pu N (⟨c_0.b,v4.2.1,v4.2.2⟩:Cur) v5 hc8) [] [1000000] [] rfl rfl rfl rfl rfl rfl Tvv ⟨rfl,Tvv⟩ ⟨⟨rfl,rfl⟩,Tvv⟩ ?_
 refine oV5 tt rfl Tvv ?_
 refine Ae ?_
 show VC ..
 refine Ag ?_
 refine Aa ?_
 refine oV5 tt rfl Tvv ?_
 obtain ⟨hg9,h⟩:=Ab h
 refine oV5 tt rfl hg9 ?_
 refine oV5 tt rfl Tvv ?_
 obtain ⟨hg10,h⟩:=Ab h
 refine oV5 tt rfl hg10 ?_
 obtain ⟨hg11,h⟩:=Ab h
 refine oV5 tt rfl hg11 ?_
 refine oV5 tt rfl Tvv ?_
 obtain ⟨hg12,h⟩:=Ab h
 refine oV5 tt rfl hg12 ?_
 obtain ⟨hg13,h⟩:=Ab h
 refine oV5 tt rfl hg13 ?_
 refine oV5 tt rfl Tvv ?_
 obtain ⟨hg14,h⟩:=Ab h
 refine oV5 tt rfl hg14 ?_
 refine oV5 tt rfl Tvv ?_
 obtain ⟨hg15,h⟩:=Ab h
 refine oV5 tt rfl hg15 ?_
 refine oV5 tt rfl Tvv ?_
 refine Ae ?_
 show VC ..
 refine Bb ?_
 show ∃ _,_
 cases h
 exact ⟨[],rfl,Tvv,⟨rfl,Tvv⟩,rfl⟩
def Tq (N:Nat) (c_0:Cur) (n_1:Int):Option (Bool×Int×Int):=
 (Bt N c_0 n_1).bind fun v1=>
 some ((v1.1==(0:Int)),v1.2.1,v1.2.2)
theorem S_l1Once_w (N:Nat) (c_0:Cur) (n_1:Int) (r:Bool×Int×Int) (h:Tq N c_0 n_1=some r):MCall Try.prog 130 [.ptr 1000000 0,.int n_1] [] [1000000] [] [] [[.ro false (.bytes c_0.b),.int c_0.i,.int c_0.h]] [[.ro false (.bytes c_0.b),.int r.2.1,.int r.2.2]] (.bool r.1):=by
 unfold Tq at h
 refine Hs (TT:=TT) tt Try.func130 rfl rfl Try.ntmps130 (congrArg Array.toList Try.results130) rfl rfl rfl rfl rfl fun w0 O0=>?_
 refine Ag ?_
 refine Aa ?_
 refine oV5 tt rfl Tvv ?_
 refine Ae ?_
 show VC ..
 refine Ag ?_
 refine Aa ?_
 iterate 2 refine oV5 tt rfl Tvv ?_
 obtain ⟨v1,hc1,h⟩:=Ac h
 refine Gc (Bu N c_0 n_1 v1 hc1) [] [1000000] [] rfl rfl rfl rfl rfl rfl Tvv ⟨rfl,Tvv⟩ ⟨⟨rfl,rfl⟩,⟨rfl,rfl⟩,Tvv⟩ ?_
 iterate 2 refine oV5 tt rfl Tvv ?_
 refine Ae ?_
 show VC ..
 refine Bb ?_
 show ∃ _,_
 cases h
 exact ⟨[],rfl,Tvv,⟨rfl,Tvv⟩,rfl⟩
def Bg (N:Nat) (c_0:Cur) (inner_1:Int) (v1:Int×Int×Int) (k:((List (Int×Int))×Int×Int×Int)→Option (Pin×Int×Int)):Nat→((List (Int×Int))×Int×Int×Int×Int)→Option (Pin×Int×Int)
 | 0,_=>none
 | n+1,(l213,v214,c215,c216,c217)=>
  cnd (decide (v214<(((2:Int)+v1.1)+inner_1))) (
   cnd (decide (v214 > ((2:Int)+v1.1))) (
    (Tq N (⟨c_0.b,c215,c216⟩:Cur) (2:Int)).bind fun v258=>
    cnd v258.1 (
     jn (fun (x : Int × Int) =>
         match x with
         | (c271,c272)=>
          (Bt N (⟨c_0.b,c271,c272⟩:Cur) v214).bind fun v273=>
          grd (Bf (v273.1+(1:Int))) <|
          grd (Bf (v214-(1:Int))) <|
          (Bt N (⟨c_0.b,v273.2.1,v273.2.2⟩:Cur) (v214-(1:Int))).bind fun v274=>
          grd (Bf ((v273.1+(1:Int))+v274.1)) <|
          grd (v214≠0) <|
          (Cq N (⟨c217,l213⟩:Grf) (v273.1,v214)).bind fun v275=>
          (Cq N v275 ((Int.tmod ((v273.1+(1:Int))+v274.1) v214),v214)).bind fun v276=>
          grd (Bf (v214+(1:Int))) <|
          Bg N c_0 inner_1 v1 k n (v276.bars,(v214+(1:Int)),v274.2.1,v274.2.2,v276.n)) fun k277=>
      cnd (decide ((l213.length:Int) > (0:Int))) (
       (Bt N (⟨c_0.b,v258.2.1,v258.2.2⟩:Cur) (l213.length:Int)).bind fun v278=>
       grd (0≤v278.1∧v278.1<(l213.length:Int)) <|
       grd (Bf (((l213.getD ((v278.1).toNat) (0,0)).2)+(1:Int))) <|
       grd (Bf (v214-(1:Int))) <|
       (Bt N (⟨c_0.b,v278.2.1,v278.2.2⟩:Cur) (v214-(1:Int))).bind fun v279=>
       grd (Bf ((((l213.getD ((v278.1).toNat) (0,0)).2)+(1:Int))+v279.1)) <|
       grd (v214≠0) <|
       cnd ((Int.tmod ((((l213.getD ((v278.1).toNat) (0,0)).2)+(1:Int))+v279.1) v214)==((l213.getD ((v278.1).toNat) (0,0)).1)) (
        cnd ((Int.tmod (((l213.getD ((v278.1).toNat) (0,0)).2)+(1:Int)) v214) != ((l213.getD ((v278.1).toNat) (0,0)).1)) (
         cnd ((Int.tmod (((l213.getD ((v278.1).toNat) (0,0)).2)+(1:Int)) v214) != ((l213.getD ((v278.1).toNat) (0,0)).2)) (
          (Hz N (⟨c217,l213⟩:Grf) v278.1).bind fun v280=>
          (Cq N v280.1 ((l213.getD ((v278.1).toNat) (0,0)).1,v214)).bind fun v281=>
          (Cq N v281 ((l213.getD ((v278.1).toNat) (0,0)).2,v214)).bind fun v282=>
          (Cq N v282 ((Int.tmod (((l213.getD ((v278.1).toNat) (0,0)).2)+(1:Int)) v214),v214)).bind fun v283=>
          grd (Bf (v214+(1:Int))) <|
          Bg N c_0 inner_1 v1 k n (v283.bars,(v214+(1:Int)),v279.2.1,v279.2.2,v283.n)) (
          k277 (v279.2.1,v279.2.2))) (
         k277 (v279.2.1,v279.2.2))) (
        jn (fun (w284 : Int) =>
           cnd (w284 != ((l213.getD ((v278.1).toNat) (0,0)).1)) (
            cnd (w284 != ((l213.getD ((v278.1).toNat) (0,0)).2)) (
             (Hz N (⟨c217,l213⟩:Grf) v278.1).bind fun v285=>
             (Cq N v285.1 ((l213.getD ((v278.1).toNat) (0,0)).1,v214)).bind fun v286=>
             (Cq N v286 ((l213.getD ((v278.1).toNat) (0,0)).2,v214)).bind fun v287=>
             (Cq N v287 (w284,v214)).bind fun v288=>
             grd (Bf (v214+(1:Int))) <|
             Bg N c_0 inner_1 v1 k n (v288.bars,(v214+(1:Int)),v279.2.1,v279.2.2,v288.n)) (
             k277 (v279.2.1,v279.2.2))) (
            k277 (v279.2.1,v279.2.2))) fun k289=>
         cnd ((Int.tmod ((((l213.getD ((v278.1).toNat) (0,0)).2)+(1:Int))+v279.1) v214)==((l213.getD ((v278.1).toNat) (0,0)).2)) (
          k289 (Int.tmod (((l213.getD ((v278.1).toNat) (0,0)).2)+(1:Int)) v214)) (
          k289 (Int.tmod ((((l213.getD ((v278.1).toNat) (0,0)).2)+(1:Int))+v279.1) v214)))) (
       k277 (v258.2.1,v258.2.2))) (
     (Bt N (⟨c_0.b,v258.2.1,v258.2.2⟩:Cur) v214).bind fun v290=>
     grd (Bf (v290.1+(1:Int))) <|
     grd (Bf (v214-(1:Int))) <|
     (Bt N (⟨c_0.b,v290.2.1,v290.2.2⟩:Cur) (v214-(1:Int))).bind fun v291=>
     grd (Bf ((v290.1+(1:Int))+v291.1)) <|
     grd (v214≠0) <|
     (Cq N (⟨c217,l213⟩:Grf) (v290.1,v214)).bind fun v292=>
     (Cq N v292 ((Int.tmod ((v290.1+(1:Int))+v291.1) v214),v214)).bind fun v293=>
     grd (Bf (v214+(1:Int))) <|
     Bg N c_0 inner_1 v1 k n (v293.bars,(v214+(1:Int)),v291.2.1,v291.2.2,v293.n))) (
    (Bt N (⟨c_0.b,c215,c216⟩:Cur) v214).bind fun v294=>
    grd (Bf (v294.1+(1:Int))) <|
    grd (Bf (v214-(1:Int))) <|
    (Bt N (⟨c_0.b,v294.2.1,v294.2.2⟩:Cur) (v214-(1:Int))).bind fun v295=>
    grd (Bf ((v294.1+(1:Int))+v295.1)) <|
    grd (v214≠0) <|
    (Cq N (⟨c217,l213⟩:Grf) (v294.1,v214)).bind fun v296=>
    (Cq N v296 ((Int.tmod ((v294.1+(1:Int))+v295.1) v214),v214)).bind fun v297=>
    grd (Bf (v214+(1:Int))) <|
    Bg N c_0 inner_1 v1 k n (v297.bars,(v214+(1:Int)),v295.2.1,v295.2.2,v297.n))) (
   k (l213,c215,c216,c217))
def Jk (N:Nat) (c_0:Cur) (inner_1:Int):Option (Pin×Int×Int):=
 (Bt N c_0 (2:Int)).bind fun v1=>
 grd (Bf ((2:Int)+v1.1)) <|
 grd (Bf (((2:Int)+v1.1)+inner_1)) <|
 grd (0≤((2:Int)+v1.1)∧((2:Int)+v1.1)<64∧Bf ((1:Int)*2 ^ ((((2:Int)+v1.1)).toNat))) <|
 grd (Bf (((1:Int)*2 ^ ((((2:Int)+v1.1)).toNat))-(1:Int))) <|
 (Zy N ((2:Int)+v1.1) (((1:Int)*2 ^ ((((2:Int)+v1.1)).toNat))-(1:Int))).bind fun v2=>
 Bg N c_0 inner_1 v1 (fun (x:(List (Int×Int))×Int×Int×Int)=>
   match x with
   | (l148,c149,c150,c151)=>
    some ((⟨⟨c151,l148⟩,v2⟩:Pin),c149,c150)) N (([]:List (Int×Int)),((2:Int)+v1.1),v1.2.1,v1.2.2,(((2:Int)+v1.1)+inner_1))
theorem Xs (N:Nat) (c_0:Cur) (inner_1:Int) (r:Pin×Int×Int) (h:Jk N c_0 inner_1=some r):MCall Try.prog 171 [.ptr 1000000 0,.int inner_1] [900101,900102] [1000000] [(111,.pairs []),(3,.ints [])] [(111,.pairs r.1.g.bars),(3,.ints r.1.ground)] [[.ro false (.bytes c_0.b),.int c_0.i,.int c_0.h]] [[.ro false (.bytes c_0.b),.int r.2.1,.int r.2.2]] (.agg [.int r.1.g.n,.row 900101 0 r.1.g.bars.length,.row 900102 0 r.1.ground.length]):=by
 unfold Jk at h
 refine Hs (TT:=TT) tt Try.func171 rfl rfl Try.ntmps171 (congrArg Array.toList Try.results171) rfl rfl rfl rfl rfl fun w0 O0=>?_
 refine Ag ?_
 refine Aa ?_
 refine Bj tt rfl rfl rfl rfl rfl rfl rfl rfl rfl ?_
 refine Ae ?_
 show VC ..
 refine Ag ?_
 refine Aa ?_
 refine oV5 tt rfl Tvv ?_
 obtain ⟨v1,hc1,h⟩:=Ac h
 refine Gc (Bu N c_0 (2:Int) v1 hc1) [] [1000000] [] rfl rfl rfl rfl rfl rfl Tvv ⟨rfl,Tvv⟩ ⟨⟨rfl,rfl⟩,⟨rfl,rfl⟩,Tvv⟩ ?_
 obtain ⟨hg2,h⟩:=Ab h
 refine oV5 tt rfl hg2 ?_
 refine oV5 tt rfl Tvv ?_
 refine Ae ?_
 show VC ..
 refine Ag ?_
 refine Aa ?_
 iterate 2 refine oV5 tt rfl Tvv ?_
 obtain ⟨hg3,h⟩:=Ab h
 refine oV5 tt rfl hg3 ?_
 refine Fa tt (Ad rfl) rfl rfl rfl rfl ?_
 refine Du (Ad rfl) (Dp Gb rfl rfl) rfl rfl ?_
 refine Bj tt rfl rfl rfl rfl rfl rfl rfl rfl rfl ?_
 refine Ao tt rfl rfl rfl rfl rfl rfl rfl rfl rfl rfl rfl ⟨Tvv,Tvv,Tvv⟩ ?_
 refine Ae ?_
 show VC ..
 refine Ag ?_
 refine Bl 8 [5,7] [0,0,0,4,12,30,63,0,255] (by kernel_rfl) (by kernel_rfl) (by kernel_rfl) (by kernel_rfl) (by kernel_rfl) rfl (by rfl) ?_
 iterate 3 refine Bo tt rfl (Ad rfl) rfl rfl rfl rfl rfl Tvv ?_
 obtain ⟨hg4,h⟩:=Ab h
 refine Bo tt rfl (Ad rfl) rfl rfl rfl rfl rfl hg4 ?_
 obtain ⟨hg5,h⟩:=Ab h
 refine Bo tt rfl (Ad rfl) rfl rfl rfl rfl rfl hg5 ?_
 obtain ⟨v2,hc6,h⟩:=Ac h
 refine Jh (S_l3Set_w N ((2:Int)+v1.1) (((1:Int)*2 ^ ((((2:Int)+v1.1)).toNat))-(1:Int)) v2 hc6) rfl (Ad rfl) rfl rfl rfl rfl rfl rfl (by first | rfl | kernel_rfl | (simp [nrL,nm,Dy,nmT,Es]; done)) rfl (by first | rfl | kernel_rfl | (simp [Jj,nrL,nm,Dy,nmT,Es,hid,Ez,Cf,Bn]; done) | (simp [Jj,nrL,nm,Dy,nmT,Es,hid,Ez,Cf,Bn]; decide)) ⟨rfl,rfl,Tvv⟩ ?_
 refine Sz (Ad rfl) (Dp Ro rfl rfl) rfl rfl rfl rfl ?_
 refine Aax tt (Ad rfl) rfl rfl rfl rfl rfl rfl rfl rfl rfl rfl ?_
 refine Lt ?_
 show VO _ _ _ _ _
 refine Ao tt rfl rfl rfl rfl rfl rfl rfl rfl rfl rfl rfl ⟨Tvv,Tvv,Tvv,Tvv⟩ ?_
 refine Ae ?_
 show VC ..
 iterate 2 refine Ag ?_
 refine Aa ?_
 iterate 2 refine oV5 tt rfl Tvv ?_
 refine Ae ?_
 show VC ..
 refine Ck (F:=fun k=>Bg N c_0 inner_1 v1 k) h (α:=(List (Int×Int))×Int×Int×Int) (J:=fun | (l148,c149,c150,c151)=>(⟨[(4,.ptr 4 0),(7,.ptr 7 0)],[(9503,some (111,.pairs l148)),(1290,some (3,.ints v2))],[(1000000,some [.ro false (.bytes c_0.b),.int c149,.int c150]),(4,some [.int (0:Int),.nil,.nil]),(7,some [.int c151,.row 9503 0 l148.length,.row 1290 0 v2.length])]⟩:PS)) ?_ ?_
 ·rintro ⟨l148,c149,c150,c151⟩ h
  show VC _ _ _ (⟨[(4,.ptr 4 0),(7,.ptr 7 0)],[(9503,some (111,.pairs l148)),(1290,some (3,.ints v2))],[(1000000,some [.ro false (.bytes c_0.b),.int c149,.int c150]),(4,some [.int (0:Int),.nil,.nil]),(7,some [.int c151,.row 9503 0 l148.length,.row 1290 0 v2.length])]⟩:PS)
  refine Ag ?_
  refine Aa ?_
  refine oV5 tt rfl Tvv ?_
  refine Ao tt rfl rfl rfl rfl rfl rfl rfl rfl rfl rfl rfl ⟨Tvv,Tvv,Tvv,Tvv⟩ ?_
  refine Ae ?_
  show VC ..
  refine Bb ?_
  show ∃ _,_
  cases h
  exact ⟨[9503,1290],rfl,⟨rfl,rfl,Tvv⟩,⟨rfl,Tvv⟩,rfl⟩
 intro k h
 refine Aq ?_
 refine Xh 7 1 9504 111 (.pairs []) rfl rfl rfl rfl rfl ?_
 refine Bh (α:=(List (Int×Int))×Int×Int×Int×Int) (fun | (l213,v214,c215,c216,c217)=>(⟨[(0,.ptr 1000000 0),(1,.int inner_1),(4,.ptr 4 0),(5,.int ((2:Int)+v1.1)),(7,.ptr 7 0),(8,.int v214)],[(9504,some (111,.pairs l213)),(1290,some (3,.ints v2))],[(1000000,some [.ro false (.bytes c_0.b),.int c215,.int c216]),(4,some [.int (0:Int),.nil,.nil]),(7,some [.int c217,.row 9504 0 l213.length,.row 1290 0 v2.length])]⟩:PS)) (Bg N c_0 inner_1 v1 k) h (En.of ⟨rfl,rfl,rfl,rfl,rfl,rfl,Tvv⟩ ⟨rfl,rfl,Tvv⟩ ⟨rfl,rfl,rfl,Tvv⟩) (fun _=>rfl) ?_
 rintro n ⟨l213,v214,c215,c216,c217⟩ h
 rw [Bg] at h
 show VC _ _ _ (⟨[(0,.ptr 1000000 0),(1,.int inner_1),(4,.ptr 4 0),(5,.int ((2:Int)+v1.1)),(7,.ptr 7 0),(8,.int v214)],[(9504,some (111,.pairs l213)),(1290,some (3,.ints v2))],[(1000000,some [.ro false (.bytes c_0.b),.int c215,.int c216]),(4,some [.int (0:Int),.nil,.nil]),(7,some [.int c217,.row 9504 0 l213.length,.row 1290 0 v2.length])]⟩:PS)
 iterate 2 refine Ag ?_
 refine Aa ?_
 iterate 3 refine oV5 tt rfl Tvv ?_
 refine oV5 tt rfl hg3 ?_
 refine oV5 tt rfl Tvv ?_
 refine Ae ?_
 show VC ..
 refine Au rfl (fun hb7=>?_) (fun hb7=>?_)
 ·replace h:=Ai hb7 h
  refine Ar ?_
  show VC ..
  refine Ag ?_
  refine Aq ?_
  iterate 2 refine Ag ?_
  refine Aa ?_
  iterate 4 refine oV5 tt rfl Tvv ?_
  refine Bc rfl rfl rfl (fun hb8=>?_) (fun hb8=>?_)
  ·replace h:=Ai hb8 h
   refine Bd tt rfl rfl rfl rfl rfl hb8 rfl rfl rfl Tvv ?_
   obtain ⟨v258,hc9,h⟩:=Ac h
   refine oMCallG (S_l1Once_w N (⟨c_0.b,c215,c216⟩:Cur) (2:Int) v258 hc9) [] [1000000] [] rfl rfl rfl rfl hb8 rfl rfl rfl rfl rfl Tvv ⟨rfl,Tvv⟩ ⟨⟨rfl,rfl⟩,⟨rfl,rfl⟩,Tvv⟩ ?_
   refine Be rfl rfl rfl rfl rfl hb8 rfl ?_
   refine oV5 tt rfl Tvv ?_
   refine Bc rfl rfl rfl (fun hb10=>?_) (fun hb10=>?_)
   ·replace h:=Ai hb10 h
    iterate 5 refine Bd tt rfl rfl rfl rfl rfl hb10 rfl rfl rfl Tvv ?_
    refine Be rfl rfl rfl rfl rfl hb10 rfl ?_
    refine Ae ?_
    show VC ..
    refine Aaz h (α:=Int×Int) (J:=fun | (c271,c272)=>(⟨[(0,.ptr 1000000 0),(1,.int inner_1),(4,.ptr 4 0),(5,.int ((2:Int)+v1.1)),(7,.ptr 7 0),(8,.int v214)],[(9504,some (111,.pairs l213)),(1290,some (3,.ints v2))],[(1000000,some [.ro false (.bytes c_0.b),.int c271,.int c272]),(4,some [.int (0:Int),.nil,.nil]),(7,some [.int c217,.row 9504 0 l213.length,.row 1290 0 v2.length])]⟩:PS)) ?_ ?_
    ·rintro ⟨c271,c272⟩ h
     show VC _ _ _ (⟨[(0,.ptr 1000000 0),(1,.int inner_1),(4,.ptr 4 0),(5,.int ((2:Int)+v1.1)),(7,.ptr 7 0),(8,.int v214)],[(9504,some (111,.pairs l213)),(1290,some (3,.ints v2))],[(1000000,some [.ro false (.bytes c_0.b),.int c271,.int c272]),(4,some [.int (0:Int),.nil,.nil]),(7,some [.int c217,.row 9504 0 l213.length,.row 1290 0 v2.length])]⟩:PS)
     refine Ag ?_
     refine Aa ?_
     iterate 2 refine oV5 tt rfl Tvv ?_
     obtain ⟨v273,hc11,h⟩:=Ac h
     refine Gc (Bu N (⟨c_0.b,c271,c272⟩:Cur) v214 v273 hc11) [] [1000000] [] rfl rfl rfl rfl rfl rfl Tvv ⟨rfl,Tvv⟩ ⟨⟨rfl,rfl⟩,⟨rfl,rfl⟩,Tvv⟩ ?_
     refine oV5 tt rfl Tvv ?_
     refine Ae ?_
     show VC ..
     refine Ag ?_
     refine Aa ?_
     refine oV5 tt rfl Tvv ?_
     obtain ⟨hg12,h⟩:=Ab h
     refine oV5 tt rfl hg12 ?_
     iterate 2 refine oV5 tt rfl Tvv ?_
     obtain ⟨hg13,h⟩:=Ab h
     refine oV5 tt rfl hg13 ?_
     obtain ⟨v274,hc14,h⟩:=Ac h
     refine Gc (Bu N (⟨c_0.b,v273.2.1,v273.2.2⟩:Cur) (v214-(1:Int)) v274 hc14) [] [1000000] [] rfl rfl rfl rfl rfl rfl Tvv ⟨rfl,Tvv⟩ ⟨⟨rfl,rfl⟩,⟨rfl,rfl⟩,Tvv⟩ ?_
     obtain ⟨hg15,h⟩:=Ab h
     refine oV5 tt rfl hg15 ?_
     refine oV5 tt rfl Tvv ?_
     obtain ⟨hg16,h⟩:=Ab h
     refine oV5 tt rfl hg16 ?_
     refine oV5 tt rfl Tvv ?_
     refine Ae ?_
     show VC ..
     refine Aa ?_
     iterate 4 refine oV5 tt rfl Tvv ?_
     refine Du (Ad rfl) (Dp Bv rfl rfl) rfl rfl ?_
     obtain ⟨v275,hc17,h⟩:=Ac h
     refine Ba (Dw N (⟨c217,l213⟩:Grf) (v273.1,v214) v275 hc17) rfl rfl rfl rfl rfl rfl rfl rfl ⟨⟨rfl,(.inl ⟨rfl,rfl⟩),Tvv⟩,⟨rfl,rfl,Tvv⟩,Tvv⟩ ?_
     iterate 2 refine oV5 tt rfl Tvv ?_
     refine Du (Ad rfl) (Dp Bv rfl rfl) rfl rfl ?_
     obtain ⟨v276,hc18,h⟩:=Ac h
     refine Ba (Dw N v275 ((Int.tmod ((v273.1+(1:Int))+v274.1) v214),v214) v276 hc18) rfl rfl rfl rfl rfl rfl rfl rfl ⟨⟨rfl,(.inl ⟨rfl,rfl⟩),Tvv⟩,⟨rfl,rfl,Tvv⟩,Tvv⟩ ?_
     refine oV5 tt rfl Tvv ?_
     refine Ao tt rfl rfl rfl rfl rfl rfl rfl rfl rfl rfl rfl ⟨Tvv,Tvv,Tvv⟩ ?_
     refine Ae ?_
     show VC ..
     refine Aa ?_
     refine oV5 tt rfl Tvv ?_
     obtain ⟨hg19,h⟩:=Ab h
     refine oV5 tt rfl hg19 ?_
     refine oV5 tt rfl Tvv ?_
     refine Ae ?_
     show ∃ _,_
     exact ⟨(v276.bars,(v214+(1:Int)),v274.2.1,v274.2.2,v276.n),(En.ren [9504] [2450] rfl ⟨.inr rfl,.inr rfl,.inr rfl,.inr rfl,.inr rfl,.inr rfl,Tvv⟩ ⟨.inr rfl,.inr rfl,Tvv⟩ ⟨.inr ⟨_,_,rfl,rfl,⟨.inr rfl,.inr rfl,.inr rfl,Tvv⟩⟩,.inr ⟨_,_,rfl,rfl,⟨.inr rfl,.inr rfl,.inr rfl,Tvv⟩⟩,.inr ⟨_,_,rfl,rfl,⟨.inr rfl,.inr rfl,.inr rfl,Tvv⟩⟩,Tvv⟩),h⟩
    intro k277 h
    refine Au rfl (fun hb20=>?_) (fun hb20=>?_)
    ·replace h:=Ai hb20 h
     refine Ag ?_
     refine Aa ?_
     iterate 5 refine oV5 tt rfl Tvv ?_
     obtain ⟨v278,hc21,h⟩:=Ac h
     refine Gc (Bu N (⟨c_0.b,v258.2.1,v258.2.2⟩:Cur) (l213.length:Int) v278 hc21) [] [1000000] [] rfl rfl rfl rfl rfl rfl Tvv ⟨rfl,Tvv⟩ ⟨⟨rfl,rfl⟩,⟨rfl,rfl⟩,Tvv⟩ ?_
     refine oV5 tt rfl Tvv ?_
     refine Ae ?_
     show VC ..
     refine Ag ?_
     refine Aa ?_
     iterate 4 refine oV5 tt rfl Tvv ?_
     obtain ⟨hg22,h⟩:=Ab h
     iterate 2 refine oV5 tt rfl hg22 ?_
     refine Bj tt rfl rfl rfl rfl rfl rfl rfl rfl rfl ?_
     refine Ao tt rfl rfl rfl rfl rfl rfl rfl rfl rfl rfl rfl ⟨Tvv,Tvv,Tvv⟩ ?_
     refine Ae ?_
     show VC ..
     refine Ag ?_
     refine Bl 9 [6,1061000000] [0,1,3,0,0,16,56,127,0,511,1023] (by kernel_rfl) (by kernel_rfl) (by kernel_rfl) (by kernel_rfl) (by kernel_rfl) rfl (by rfl) ?_
     iterate 2 refine Bo tt rfl (Ad rfl) rfl rfl rfl rfl rfl Tvv ?_
     obtain ⟨hg23,h⟩:=Ab h
     refine Bo tt rfl (Ad rfl) rfl rfl rfl rfl rfl hg23 ?_
     iterate 2 refine Bo tt rfl (Ad rfl) rfl rfl rfl rfl rfl Tvv ?_
     obtain ⟨hg24,h⟩:=Ab h
     refine Bo tt rfl (Ad rfl) rfl rfl rfl rfl rfl hg24 ?_
     obtain ⟨v279,hc25,h⟩:=Ac h
     refine nMCall (rids:=[]) (bids:=[]) (pids:=[]) (Ad rfl) (Bu N (⟨c_0.b,v278.2.1,v278.2.2⟩:Cur) (v214-(1:Int)) v279 hc25) [] [1000000] [] rfl rfl rfl rfl rfl (by first | rfl | kernel_rfl) rfl rfl rfl rfl rfl (by first | rfl | kernel_rfl)  trivial ⟨rfl,Tvv⟩ ⟨⟨rfl,rfl⟩,⟨rfl,rfl⟩,Tvv⟩ ?_
     obtain ⟨hg26,h⟩:=Ab h
     refine Bo tt rfl (Ad rfl) rfl rfl rfl rfl rfl hg26 ?_
     refine Bo tt rfl (Ad rfl) rfl rfl rfl rfl rfl Tvv ?_
     refine Lt ?_
     show VO _ _ _ _ _
     obtain ⟨hg27,h⟩:=Ab h
     refine oV5 tt rfl hg27 ?_
     refine oV5 tt rfl Tvv ?_
     refine Ae ?_
     show VC ..
     iterate 2 refine Ag ?_
     refine Aa ?_
     iterate 5 refine oV5 tt rfl Tvv ?_
     refine Bc rfl rfl rfl (fun hb28=>?_) (fun hb28=>?_)
     ·replace h:=Ai hb28 h
      iterate 4 refine Hm rfl rfl rfl rfl hb28 rfl rfl ?_
      refine Be rfl rfl rfl rfl rfl hb28 rfl ?_
      refine Ae ?_
      show VC ..
      refine Bs rfl rfl ?_
      refine Aa ?_
      iterate 2 refine oV5 tt rfl Tvv ?_
      refine oV5 tt rfl hg23 ?_
      refine oV5 tt rfl Tvv ?_
      refine oV5 tt rfl hg27 ?_
      refine oV5 tt rfl Tvv ?_
      refine Ae ?_
      show VC ..
      refine Ag ?_
      refine Aa ?_
      iterate 5 refine oV5 tt rfl Tvv ?_
      refine Bc rfl rfl rfl (fun hb29=>?_) (fun hb29=>?_)
      ·replace h:=Ai hb29 h
       iterate 4 refine Bd tt rfl rfl rfl rfl rfl hb29 rfl rfl rfl Tvv ?_
       refine Be rfl rfl rfl rfl rfl hb29 rfl ?_
       refine Ae ?_
       show VC ..
       refine Au rfl (fun hb30=>?_) (fun hb30=>?_)
       ·replace h:=Ai hb30 h
        refine Ag ?_
        refine Aa ?_
        iterate 3 refine oV5 tt rfl Tvv ?_
        obtain ⟨v280,hc31,h⟩:=Ac h
        refine Ba (Qw N (⟨c217,l213⟩:Grf) v278.1 v280 hc31) rfl rfl rfl rfl rfl rfl rfl rfl ⟨⟨rfl,(.inl ⟨rfl,rfl⟩),Tvv⟩,rfl,Tvv⟩ ?_
        iterate 3 refine oV5 tt rfl Tvv ?_
        refine Bj tt rfl rfl rfl rfl rfl rfl rfl rfl rfl ?_
        refine Ao tt rfl rfl rfl rfl rfl rfl rfl rfl rfl rfl rfl ⟨Tvv,Tvv,Tvv⟩ ?_
        refine oV5 tt rfl Tvv ?_
        refine Ae ?_
        show VC ..
        refine Ag ?_
        refine Bl 10 [5] [0,0,2,0,14,31,0,64,0,448,1023,2047] (by kernel_rfl) (by kernel_rfl) (by kernel_rfl) (by kernel_rfl) (by kernel_rfl) rfl (by rfl) ?_
        iterate 4 refine Bo tt rfl (Ad rfl) rfl rfl rfl rfl rfl Tvv ?_
        refine Sz (Ad rfl) (Dp Bv rfl rfl) rfl rfl rfl rfl ?_
        obtain ⟨v281,hc32,h⟩:=Ac h
        refine Jh (Dw N v280.1 ((l213.getD ((v278.1).toNat) (0,0)).1,v214) v281 hc32) rfl (Ad rfl) rfl rfl rfl rfl rfl rfl (by first | rfl | kernel_rfl | (simp [nrL,nm,Dy,nmT,Es]; done)) rfl (by first | rfl | kernel_rfl | (simp [Jj,nrL,nm,Dy,nmT,Es,hid,Ez,Cf,Bn]; done) | (simp [Jj,nrL,nm,Dy,nmT,Es,hid,Ez,Cf,Bn]; decide)) ⟨⟨rfl,(.inl ⟨rfl,rfl⟩),Tvv⟩,⟨rfl,rfl,Tvv⟩,Tvv⟩ ?_
        iterate 3 refine Bo tt rfl (Ad rfl) rfl rfl rfl rfl rfl Tvv ?_
        refine Sz (Ad rfl) (Dp Bv rfl rfl) rfl rfl rfl rfl ?_
        refine Lt ?_
        show VO _ _ _ _ _
        obtain ⟨v282,hc33,h⟩:=Ac h
        refine Ba (Dw N v281 ((l213.getD ((v278.1).toNat) (0,0)).2,v214) v282 hc33) rfl rfl rfl rfl rfl rfl rfl rfl ⟨⟨rfl,(.inl ⟨rfl,rfl⟩),Tvv⟩,⟨rfl,rfl,Tvv⟩,Tvv⟩ ?_
        refine Ao tt rfl rfl rfl rfl rfl rfl rfl rfl rfl rfl rfl ⟨Tvv,Tvv,Tvv⟩ ?_
        refine Ae ?_
        show VC ..
        refine Ag ?_
        refine Aa ?_
        iterate 3 refine oV5 tt rfl Tvv ?_
        refine Du (Ad rfl) (Dp Bv rfl rfl) rfl rfl ?_
        obtain ⟨v283,hc34,h⟩:=Ac h
        refine Ba (Dw N v282 ((Int.tmod (((l213.getD ((v278.1).toNat) (0,0)).2)+(1:Int)) v214),v214) v283 hc34) rfl rfl rfl rfl rfl rfl rfl rfl ⟨⟨rfl,(.inl ⟨rfl,rfl⟩),Tvv⟩,⟨rfl,rfl,Tvv⟩,Tvv⟩ ?_
        refine oV5 tt rfl Tvv ?_
        refine Ao tt rfl rfl rfl rfl rfl rfl rfl rfl rfl rfl rfl ⟨Tvv,Tvv,Tvv⟩ ?_
        refine Ae ?_
        show VC ..
        refine Bq ?_
        show VC ..
        refine Aa ?_
        refine oV5 tt rfl Tvv ?_
        obtain ⟨hg35,h⟩:=Ab h
        refine oV5 tt rfl hg35 ?_
        refine oV5 tt rfl Tvv ?_
        refine Ae ?_
        show ∃ _,_
        exact ⟨(v283.bars,(v214+(1:Int)),v279.2.1,v279.2.2,v283.n),(En.ren [9504] [2220] rfl ⟨.inr rfl,.inr rfl,.inr rfl,.inr rfl,.inr rfl,.inr rfl,Tvv⟩ ⟨.inr rfl,.inr rfl,Tvv⟩ ⟨.inr ⟨_,_,rfl,rfl,⟨.inr rfl,.inr rfl,.inr rfl,Tvv⟩⟩,.inr ⟨_,_,rfl,rfl,⟨.inr rfl,.inr rfl,.inr rfl,Tvv⟩⟩,.inr ⟨_,_,rfl,rfl,⟨.inr rfl,.inr rfl,.inr rfl,Tvv⟩⟩,Tvv⟩),h⟩
       replace h:=Aj hb30 h
       refine Ar ?_
       show ∃ _,_
       exact ⟨(v279.2.1,v279.2.2),(En.of ⟨rfl,rfl,rfl,rfl,rfl,rfl,Tvv⟩ ⟨rfl,rfl,Tvv⟩ ⟨rfl,rfl,rfl,Tvv⟩),h⟩
      replace h:=Aj hb29 h
      iterate 4 refine Jn rfl rfl rfl rfl hb29 rfl rfl ?_
      refine Av rfl rfl rfl rfl rfl hb29 rfl ?_
      refine Ae ?_
      show VC ..
      refine Cz rfl rfl ?_
      refine Ar ?_
      show ∃ _,_
      exact ⟨(v279.2.1,v279.2.2),(En.of ⟨rfl,rfl,rfl,rfl,rfl,rfl,Tvv⟩ ⟨rfl,rfl,Tvv⟩ ⟨rfl,rfl,rfl,Tvv⟩),h⟩
     replace h:=Aj hb28 h
     iterate 4 refine Bd tt rfl rfl rfl rfl rfl hb28 rfl rfl rfl Tvv ?_
     refine Av rfl rfl rfl rfl rfl hb28 rfl ?_
     refine Ae ?_
     show VC ..
     refine Aaz h (α:=Int) (J:=fun (w284:Int)=>(⟨[(0,.ptr 1000000 0),(1,.int inner_1),(4,.ptr 4 0),(5,.int ((2:Int)+v1.1)),(7,.ptr 7 0),(8,.int v214),(9,.int v278.1),(10,.ptr 10 0),(11,.int w284)],[(9504,some (111,.pairs l213)),(1290,some (3,.ints v2))],[(1000000,some [.ro false (.bytes c_0.b),.int v279.2.1,.int v279.2.2]),(4,some [.int (0:Int),.nil,.nil]),(7,some [.int c217,.row 9504 0 l213.length,.row 1290 0 v2.length]),(10,some [.int ((l213.getD ((v278.1).toNat) (0,0)).1),.int ((l213.getD ((v278.1).toNat) (0,0)).2)])]⟩:PS)) ?_ ?_
     ·rintro w284 h
      show VC _ _ _ (⟨[(0,.ptr 1000000 0),(1,.int inner_1),(4,.ptr 4 0),(5,.int ((2:Int)+v1.1)),(7,.ptr 7 0),(8,.int v214),(9,.int v278.1),(10,.ptr 10 0),(11,.int w284)],[(9504,some (111,.pairs l213)),(1290,some (3,.ints v2))],[(1000000,some [.ro false (.bytes c_0.b),.int v279.2.1,.int v279.2.2]),(4,some [.int (0:Int),.nil,.nil]),(7,some [.int c217,.row 9504 0 l213.length,.row 1290 0 v2.length]),(10,some [.int ((l213.getD ((v278.1).toNat) (0,0)).1),.int ((l213.getD ((v278.1).toNat) (0,0)).2)])]⟩:PS)
      refine Ag ?_
      refine Aa ?_
      iterate 5 refine oV5 tt rfl Tvv ?_
      refine Bc rfl rfl rfl (fun hb36=>?_) (fun hb36=>?_)
      ·replace h:=Ai hb36 h
       iterate 4 refine Bd tt rfl rfl rfl rfl rfl hb36 rfl rfl rfl Tvv ?_
       refine Be rfl rfl rfl rfl rfl hb36 rfl ?_
       refine Ae ?_
       show VC ..
       refine Au rfl (fun hb37=>?_) (fun hb37=>?_)
       ·replace h:=Ai hb37 h
        refine Ag ?_
        refine Aa ?_
        iterate 3 refine oV5 tt rfl Tvv ?_
        obtain ⟨v285,hc38,h⟩:=Ac h
        refine Ba (Qw N (⟨c217,l213⟩:Grf) v278.1 v285 hc38) rfl rfl rfl rfl rfl rfl rfl rfl ⟨⟨rfl,(.inl ⟨rfl,rfl⟩),Tvv⟩,rfl,Tvv⟩ ?_
        iterate 3 refine oV5 tt rfl Tvv ?_
        refine Bj tt rfl rfl rfl rfl rfl rfl rfl rfl rfl ?_
        refine Ao tt rfl rfl rfl rfl rfl rfl rfl rfl rfl rfl rfl ⟨Tvv,Tvv,Tvv⟩ ?_
        refine oV5 tt rfl Tvv ?_
        refine Ae ?_
        show VC ..
        refine Ag ?_
        refine Bl 10 [5] [0,0,2,0,14,31,0,64,0,448,1023,2047] (by kernel_rfl) (by kernel_rfl) (by kernel_rfl) (by kernel_rfl) (by kernel_rfl) rfl (by rfl) ?_
        iterate 4 refine Bo tt rfl (Ad rfl) rfl rfl rfl rfl rfl Tvv ?_
        refine Sz (Ad rfl) (Dp Bv rfl rfl) rfl rfl rfl rfl ?_
        obtain ⟨v286,hc39,h⟩:=Ac h
        refine Jh (Dw N v285.1 ((l213.getD ((v278.1).toNat) (0,0)).1,v214) v286 hc39) rfl (Ad rfl) rfl rfl rfl rfl rfl rfl (by first | rfl | kernel_rfl | (simp [nrL,nm,Dy,nmT,Es]; done)) rfl (by first | rfl | kernel_rfl | (simp [Jj,nrL,nm,Dy,nmT,Es,hid,Ez,Cf,Bn]; done) | (simp [Jj,nrL,nm,Dy,nmT,Es,hid,Ez,Cf,Bn]; decide)) ⟨⟨rfl,(.inl ⟨rfl,rfl⟩),Tvv⟩,⟨rfl,rfl,Tvv⟩,Tvv⟩ ?_
        iterate 3 refine Bo tt rfl (Ad rfl) rfl rfl rfl rfl rfl Tvv ?_
        refine Sz (Ad rfl) (Dp Bv rfl rfl) rfl rfl rfl rfl ?_
        refine Lt ?_
        show VO _ _ _ _ _
        obtain ⟨v287,hc40,h⟩:=Ac h
        refine Ba (Dw N v286 ((l213.getD ((v278.1).toNat) (0,0)).2,v214) v287 hc40) rfl rfl rfl rfl rfl rfl rfl rfl ⟨⟨rfl,(.inl ⟨rfl,rfl⟩),Tvv⟩,⟨rfl,rfl,Tvv⟩,Tvv⟩ ?_
        refine Ao tt rfl rfl rfl rfl rfl rfl rfl rfl rfl rfl rfl ⟨Tvv,Tvv,Tvv⟩ ?_
        refine Ae ?_
        show VC ..
        refine Ag ?_
        refine Aa ?_
        iterate 3 refine oV5 tt rfl Tvv ?_
        refine Du (Ad rfl) (Dp Bv rfl rfl) rfl rfl ?_
        obtain ⟨v288,hc41,h⟩:=Ac h
        refine Ba (Dw N v287 (w284,v214) v288 hc41) rfl rfl rfl rfl rfl rfl rfl rfl ⟨⟨rfl,(.inl ⟨rfl,rfl⟩),Tvv⟩,⟨rfl,rfl,Tvv⟩,Tvv⟩ ?_
        refine oV5 tt rfl Tvv ?_
        refine Ao tt rfl rfl rfl rfl rfl rfl rfl rfl rfl rfl rfl ⟨Tvv,Tvv,Tvv⟩ ?_
        refine Ae ?_
        show VC ..
        refine Bq ?_
        show VC ..
        refine Aa ?_
        refine oV5 tt rfl Tvv ?_
        obtain ⟨hg42,h⟩:=Ab h
        refine oV5 tt rfl hg42 ?_
        refine oV5 tt rfl Tvv ?_
        refine Ae ?_
        show ∃ _,_
        exact ⟨(v288.bars,(v214+(1:Int)),v279.2.1,v279.2.2,v288.n),(En.ren [9504] [2220] rfl ⟨.inr rfl,.inr rfl,.inr rfl,.inr rfl,.inr rfl,.inr rfl,Tvv⟩ ⟨.inr rfl,.inr rfl,Tvv⟩ ⟨.inr ⟨_,_,rfl,rfl,⟨.inr rfl,.inr rfl,.inr rfl,Tvv⟩⟩,.inr ⟨_,_,rfl,rfl,⟨.inr rfl,.inr rfl,.inr rfl,Tvv⟩⟩,.inr ⟨_,_,rfl,rfl,⟨.inr rfl,.inr rfl,.inr rfl,Tvv⟩⟩,Tvv⟩),h⟩
       replace h:=Aj hb37 h
       refine Ar ?_
       show ∃ _,_
       exact ⟨(v279.2.1,v279.2.2),(En.of ⟨rfl,rfl,rfl,rfl,rfl,rfl,Tvv⟩ ⟨rfl,rfl,Tvv⟩ ⟨rfl,rfl,rfl,Tvv⟩),h⟩
      replace h:=Aj hb36 h
      iterate 4 refine Jn rfl rfl rfl rfl hb36 rfl rfl ?_
      refine Av rfl rfl rfl rfl rfl hb36 rfl ?_
      refine Ae ?_
      show VC ..
      refine Cz rfl rfl ?_
      refine Ar ?_
      show ∃ _,_
      exact ⟨(v279.2.1,v279.2.2),(En.of ⟨rfl,rfl,rfl,rfl,rfl,rfl,Tvv⟩ ⟨rfl,rfl,Tvv⟩ ⟨rfl,rfl,rfl,Tvv⟩),h⟩
     intro k289 h
     refine Au rfl (fun hb43=>?_) (fun hb43=>?_)
     ·replace h:=Ai hb43 h
      refine Aa ?_
      iterate 2 refine oV5 tt rfl Tvv ?_
      refine oV5 tt rfl hg23 ?_
      refine oV5 tt rfl Tvv ?_
      refine oV5 tt rfl hg27 ?_
      refine oV5 tt rfl Tvv ?_
      refine Ae ?_
      show ∃ _,_
      exact ⟨(Int.tmod (((l213.getD ((v278.1).toNat) (0,0)).2)+(1:Int)) v214),(En.of ⟨rfl,rfl,rfl,rfl,rfl,rfl,rfl,rfl,rfl,Tvv⟩ ⟨rfl,rfl,Tvv⟩ ⟨rfl,rfl,rfl,rfl,Tvv⟩),h⟩
     replace h:=Aj hb43 h
     refine Ar ?_
     show ∃ _,_
     exact ⟨(Int.tmod ((((l213.getD ((v278.1).toNat) (0,0)).2)+(1:Int))+v279.1) v214),(En.of ⟨rfl,rfl,rfl,rfl,rfl,rfl,rfl,rfl,rfl,Tvv⟩ ⟨rfl,rfl,Tvv⟩ ⟨rfl,rfl,rfl,rfl,Tvv⟩),h⟩
    replace h:=Aj hb20 h
    refine Ar ?_
    show ∃ _,_
    exact ⟨(v258.2.1,v258.2.2),(En.of ⟨rfl,rfl,rfl,rfl,rfl,rfl,Tvv⟩ ⟨rfl,rfl,Tvv⟩ ⟨rfl,rfl,rfl,Tvv⟩),h⟩
   replace h:=Aj hb10 h
   iterate 5 refine Jn rfl rfl rfl rfl hb10 rfl rfl ?_
   refine Av rfl rfl rfl rfl rfl hb10 rfl ?_
   refine Ae ?_
   show VC ..
   refine Cz rfl rfl ?_
   refine Ar ?_
   show VC ..
   refine Ag ?_
   refine Aa ?_
   iterate 2 refine oV5 tt rfl Tvv ?_
   obtain ⟨v290,hc44,h⟩:=Ac h
   refine Gc (Bu N (⟨c_0.b,v258.2.1,v258.2.2⟩:Cur) v214 v290 hc44) [] [1000000] [] rfl rfl rfl rfl rfl rfl Tvv ⟨rfl,Tvv⟩ ⟨⟨rfl,rfl⟩,⟨rfl,rfl⟩,Tvv⟩ ?_
   refine oV5 tt rfl Tvv ?_
   refine Ae ?_
   show VC ..
   refine Ag ?_
   refine Aa ?_
   refine oV5 tt rfl Tvv ?_
   obtain ⟨hg45,h⟩:=Ab h
   refine oV5 tt rfl hg45 ?_
   iterate 2 refine oV5 tt rfl Tvv ?_
   obtain ⟨hg46,h⟩:=Ab h
   refine oV5 tt rfl hg46 ?_
   obtain ⟨v291,hc47,h⟩:=Ac h
   refine Gc (Bu N (⟨c_0.b,v290.2.1,v290.2.2⟩:Cur) (v214-(1:Int)) v291 hc47) [] [1000000] [] rfl rfl rfl rfl rfl rfl Tvv ⟨rfl,Tvv⟩ ⟨⟨rfl,rfl⟩,⟨rfl,rfl⟩,Tvv⟩ ?_
   obtain ⟨hg48,h⟩:=Ab h
   refine oV5 tt rfl hg48 ?_
   refine oV5 tt rfl Tvv ?_
   obtain ⟨hg49,h⟩:=Ab h
   refine oV5 tt rfl hg49 ?_
   refine oV5 tt rfl Tvv ?_
   refine Ae ?_
   show VC ..
   refine Aa ?_
   iterate 4 refine oV5 tt rfl Tvv ?_
   refine Du (Ad rfl) (Dp Bv rfl rfl) rfl rfl ?_
   obtain ⟨v292,hc50,h⟩:=Ac h
   refine Ba (Dw N (⟨c217,l213⟩:Grf) (v290.1,v214) v292 hc50) rfl rfl rfl rfl rfl rfl rfl rfl ⟨⟨rfl,(.inl ⟨rfl,rfl⟩),Tvv⟩,⟨rfl,rfl,Tvv⟩,Tvv⟩ ?_
   iterate 2 refine oV5 tt rfl Tvv ?_
   refine Du (Ad rfl) (Dp Bv rfl rfl) rfl rfl ?_
   obtain ⟨v293,hc51,h⟩:=Ac h
   refine Ba (Dw N v292 ((Int.tmod ((v290.1+(1:Int))+v291.1) v214),v214) v293 hc51) rfl rfl rfl rfl rfl rfl rfl rfl ⟨⟨rfl,(.inl ⟨rfl,rfl⟩),Tvv⟩,⟨rfl,rfl,Tvv⟩,Tvv⟩ ?_
   refine oV5 tt rfl Tvv ?_
   refine Ao tt rfl rfl rfl rfl rfl rfl rfl rfl rfl rfl rfl ⟨Tvv,Tvv,Tvv⟩ ?_
   refine Ae ?_
   show VC ..
   refine Aa ?_
   refine oV5 tt rfl Tvv ?_
   obtain ⟨hg52,h⟩:=Ab h
   refine oV5 tt rfl hg52 ?_
   refine oV5 tt rfl Tvv ?_
   refine Ae ?_
   show ∃ _,_
   exact ⟨(v293.bars,(v214+(1:Int)),v291.2.1,v291.2.2,v293.n),(En.ren [9504] [2450] rfl ⟨.inr rfl,.inr rfl,.inr rfl,.inr rfl,.inr rfl,.inr rfl,Tvv⟩ ⟨.inr rfl,.inr rfl,Tvv⟩ ⟨.inr ⟨_,_,rfl,rfl,⟨.inr rfl,.inr rfl,.inr rfl,Tvv⟩⟩,.inr ⟨_,_,rfl,rfl,⟨.inr rfl,.inr rfl,.inr rfl,Tvv⟩⟩,.inr ⟨_,_,rfl,rfl,⟨.inr rfl,.inr rfl,.inr rfl,Tvv⟩⟩,Tvv⟩),h⟩
  replace h:=Aj hb8 h
  iterate 2 refine Jn rfl rfl rfl rfl hb8 rfl rfl ?_
  refine Av rfl rfl rfl rfl rfl hb8 rfl ?_
  refine oV5 tt rfl Tvv ?_
  iterate 5 refine Jn rfl rfl rfl rfl rfl rfl rfl ?_
  refine Av rfl rfl rfl rfl rfl rfl rfl ?_
  refine Ae ?_
  show VC ..
  refine Cz rfl rfl ?_
  refine Ar ?_
  show VC ..
  refine Ag ?_
  refine Aa ?_
  iterate 2 refine oV5 tt rfl Tvv ?_
  obtain ⟨v294,hc53,h⟩:=Ac h
  refine Gc (Bu N (⟨c_0.b,c215,c216⟩:Cur) v214 v294 hc53) [] [1000000] [] rfl rfl rfl rfl rfl rfl Tvv ⟨rfl,Tvv⟩ ⟨⟨rfl,rfl⟩,⟨rfl,rfl⟩,Tvv⟩ ?_
  refine oV5 tt rfl Tvv ?_
  refine Ae ?_
  show VC ..
  refine Ag ?_
  refine Aa ?_
  refine oV5 tt rfl Tvv ?_
  obtain ⟨hg54,h⟩:=Ab h
  refine oV5 tt rfl hg54 ?_
  iterate 2 refine oV5 tt rfl Tvv ?_
  obtain ⟨hg55,h⟩:=Ab h
  refine oV5 tt rfl hg55 ?_
  obtain ⟨v295,hc56,h⟩:=Ac h
  refine Gc (Bu N (⟨c_0.b,v294.2.1,v294.2.2⟩:Cur) (v214-(1:Int)) v295 hc56) [] [1000000] [] rfl rfl rfl rfl rfl rfl Tvv ⟨rfl,Tvv⟩ ⟨⟨rfl,rfl⟩,⟨rfl,rfl⟩,Tvv⟩ ?_
  obtain ⟨hg57,h⟩:=Ab h
  refine oV5 tt rfl hg57 ?_
  refine oV5 tt rfl Tvv ?_
  obtain ⟨hg58,h⟩:=Ab h
  refine oV5 tt rfl hg58 ?_
  refine oV5 tt rfl Tvv ?_
  refine Ae ?_
  show VC ..
  refine Aa ?_
  iterate 4 refine oV5 tt rfl Tvv ?_
  refine Du (Ad rfl) (Dp Bv rfl rfl) rfl rfl ?_
  obtain ⟨v296,hc59,h⟩:=Ac h
  refine Ba (Dw N (⟨c217,l213⟩:Grf) (v294.1,v214) v296 hc59) rfl rfl rfl rfl rfl rfl rfl rfl ⟨⟨rfl,(.inl ⟨rfl,rfl⟩),Tvv⟩,⟨rfl,rfl,Tvv⟩,Tvv⟩ ?_
  iterate 2 refine oV5 tt rfl Tvv ?_
  refine Du (Ad rfl) (Dp Bv rfl rfl) rfl rfl ?_
  obtain ⟨v297,hc60,h⟩:=Ac h
  refine Ba (Dw N v296 ((Int.tmod ((v294.1+(1:Int))+v295.1) v214),v214) v297 hc60) rfl rfl rfl rfl rfl rfl rfl rfl ⟨⟨rfl,(.inl ⟨rfl,rfl⟩),Tvv⟩,⟨rfl,rfl,Tvv⟩,Tvv⟩ ?_
  refine oV5 tt rfl Tvv ?_
  refine Ao tt rfl rfl rfl rfl rfl rfl rfl rfl rfl rfl rfl ⟨Tvv,Tvv,Tvv⟩ ?_
  refine Ae ?_
  show VC ..
  refine Aa ?_
  refine oV5 tt rfl Tvv ?_
  obtain ⟨hg61,h⟩:=Ab h
  refine oV5 tt rfl hg61 ?_
  refine oV5 tt rfl Tvv ?_
  refine Ae ?_
  show ∃ _,_
  exact ⟨(v297.bars,(v214+(1:Int)),v295.2.1,v295.2.2,v297.n),(En.ren [9504] [2450] rfl ⟨.inr rfl,.inr rfl,.inr rfl,.inr rfl,.inr rfl,.inr rfl,Tvv⟩ ⟨.inr rfl,.inr rfl,Tvv⟩ ⟨.inr ⟨_,_,rfl,rfl,⟨.inr rfl,.inr rfl,.inr rfl,Tvv⟩⟩,.inr ⟨_,_,rfl,rfl,⟨.inr rfl,.inr rfl,.inr rfl,Tvv⟩⟩,.inr ⟨_,_,rfl,rfl,⟨.inr rfl,.inr rfl,.inr rfl,Tvv⟩⟩,Tvv⟩),h⟩
 replace h:=Aj hb7 h
 refine Bq ?_
 show ∃ _,_
 exact ⟨(l213,c215,c216,c217),(En.ren [9503] [9504] rfl ⟨.inr rfl,.inr rfl,Tvv⟩ ⟨.inr rfl,.inr rfl,Tvv⟩ ⟨.inr ⟨_,_,rfl,rfl,⟨.inr rfl,.inr rfl,.inr rfl,Tvv⟩⟩,.inr ⟨_,_,rfl,rfl,⟨.inr rfl,.inr rfl,.inr rfl,Tvv⟩⟩,.inr ⟨_,_,rfl,rfl,⟨.inr rfl,.inr rfl,.inr rfl,Tvv⟩⟩,Tvv⟩),h⟩
def Tl (N:Nat) (g_0:Grf) (a_1:Int) (b_2:Int):Option (Grf×Bool):=
 (Jm N g_0).bind fun v1=>
 cnd (!v1) (
  (Gf N g_0).bind fun v2=>
  some ((⟨v2.n,v2.bars⟩:Grf),false)) (
  cnd (decide (a_1<(0:Int))) (
   (Gf N g_0).bind fun v3=>
   some ((⟨v3.n,v3.bars⟩:Grf),false)) (
   cnd (decide (b_2<(0:Int))) (
    (Gf N g_0).bind fun v4=>
    some ((⟨v4.n,v4.bars⟩:Grf),false)) (
    cnd (decide (a_1≥g_0.n)) (
     (Gf N g_0).bind fun v5=>
     some ((⟨v5.n,v5.bars⟩:Grf),false)) (
     cnd (decide (b_2≥g_0.n)) (
      (Gf N g_0).bind fun v6=>
      some ((⟨v6.n,v6.bars⟩:Grf),false)) (
      cnd (a_1==b_2) (
       (Gf N g_0).bind fun v7=>
       some ((⟨v7.n,v7.bars⟩:Grf),false)) (
       cnd (decide ((g_0.bars.length:Int)≥(24:Int))) (
        (Gf N g_0).bind fun v8=>
        some ((⟨v8.n,v8.bars⟩:Grf),false)) (
        (Cq N g_0 ((min a_1 b_2),(max a_1 b_2))).bind fun v9=>
        some ((⟨v9.n,v9.bars⟩:Grf),true))))))))
theorem S_AddBar_w (N:Nat) (g_0:Grf) (a_1:Int) (b_2:Int) (r:Grf×Bool) (h:Tl N g_0 a_1 b_2=some r):PCall Try.prog 173 [gD g_0,.int a_1,.int b_2] [(111,.pairs r.1.bars)] (.tup [.agg [.int r.1.n,.row 0 0 r.1.bars.length],.bool r.2]):=by
 unfold Tl at h
 refine Ah (TT:=TT) tt Try.func173 rfl rfl Try.ntmps173 (congrArg Array.toList Try.results173) rfl rfl fun w0=>?_
 refine Ag ?_
 refine Aa ?_
 refine Km rfl rfl rfl rfl rfl rfl rfl rfl rfl ?_
 refine Bj tt rfl rfl rfl rfl rfl rfl rfl rfl rfl ?_
 refine oV5 tt rfl Tvv ?_
 refine Ae ?_
 show VC ..
 iterate 2 refine Ag ?_
 refine Aa ?_
 refine oV5 tt rfl Tvv ?_
 obtain ⟨v1,hc1,h⟩:=Ac h
 refine Ba (Kp N g_0 v1 hc1) rfl rfl rfl rfl rfl rfl rfl rfl ⟨⟨rfl,rfl,Tvv⟩,Tvv⟩ ?_
 iterate 2 refine oV5 tt rfl Tvv ?_
 refine Bc rfl rfl rfl (fun hb2=>?_) (fun hb2=>?_)
 ·replace h:=Ai hb2 h
  iterate 2 refine Hm rfl rfl rfl rfl hb2 rfl rfl ?_
  refine Be rfl rfl rfl rfl rfl hb2 rfl ?_
  refine oV5 tt rfl Tvv ?_
  iterate 2 refine Hm rfl rfl rfl rfl rfl rfl rfl ?_
  refine Be rfl rfl rfl rfl rfl rfl rfl ?_
  refine oV5 tt rfl Tvv ?_
  iterate 4 refine Hm rfl rfl rfl rfl rfl rfl rfl ?_
  refine Be rfl rfl rfl rfl rfl rfl rfl ?_
  refine oV5 tt rfl Tvv ?_
  iterate 4 refine Hm rfl rfl rfl rfl rfl rfl rfl ?_
  refine Be rfl rfl rfl rfl rfl rfl rfl ?_
  refine oV5 tt rfl Tvv ?_
  iterate 3 refine Hm rfl rfl rfl rfl rfl rfl rfl ?_
  refine Be rfl rfl rfl rfl rfl rfl rfl ?_
  refine oV5 tt rfl Tvv ?_
  iterate 4 refine Hm rfl rfl rfl rfl rfl rfl rfl ?_
  refine Be rfl rfl rfl rfl rfl rfl rfl ?_
  refine Ae ?_
  show VC ..
  refine Bs rfl rfl ?_
  refine Ag ?_
  refine Aa ?_
  refine oV5 tt rfl Tvv ?_
  obtain ⟨v2,hc3,h⟩:=Ac h
  refine Ba (Hg N g_0 v2 hc3) rfl rfl rfl rfl rfl rfl rfl rfl ⟨⟨rfl,rfl,Tvv⟩,Tvv⟩ ?_
  refine Ao tt rfl rfl rfl rfl rfl rfl rfl rfl rfl rfl rfl ⟨Tvv,Tvv,Tvv⟩ ?_
  refine oV5 tt rfl Tvv ?_
  refine Ae ?_
  show VC ..
  refine Bb ?_
  show ∃ _,_
  cases h
  exact ⟨[1430],_,rfl,⟨rfl,Tvv⟩,rfl,(.eq rfl),rfl⟩
 replace h:=Aj hb2 h
 iterate 2 refine Bd tt rfl rfl rfl rfl rfl hb2 rfl rfl rfl Tvv ?_
 refine Av rfl rfl rfl rfl rfl hb2 rfl ?_
 refine oV5 tt rfl Tvv ?_
 refine Bc rfl rfl rfl (fun hb4=>?_) (fun hb4=>?_)
 ·replace h:=Ai hb4 h
  iterate 2 refine Hm rfl rfl rfl rfl hb4 rfl rfl ?_
  refine Be rfl rfl rfl rfl rfl hb4 rfl ?_
  refine oV5 tt rfl Tvv ?_
  iterate 4 refine Hm rfl rfl rfl rfl rfl rfl rfl ?_
  refine Be rfl rfl rfl rfl rfl rfl rfl ?_
  refine oV5 tt rfl Tvv ?_
  iterate 4 refine Hm rfl rfl rfl rfl rfl rfl rfl ?_
  refine Be rfl rfl rfl rfl rfl rfl rfl ?_
  refine oV5 tt rfl Tvv ?_
  iterate 3 refine Hm rfl rfl rfl rfl rfl rfl rfl ?_
  refine Be rfl rfl rfl rfl rfl rfl rfl ?_
  refine oV5 tt rfl Tvv ?_
  iterate 4 refine Hm rfl rfl rfl rfl rfl rfl rfl ?_
  refine Be rfl rfl rfl rfl rfl rfl rfl ?_
  refine Ae ?_
  show VC ..
  refine Bs rfl rfl ?_
  refine Ag ?_
  refine Aa ?_
  refine oV5 tt rfl Tvv ?_
  obtain ⟨v3,hc5,h⟩:=Ac h
  refine Ba (Hg N g_0 v3 hc5) rfl rfl rfl rfl rfl rfl rfl rfl ⟨⟨rfl,rfl,Tvv⟩,Tvv⟩ ?_
  refine Ao tt rfl rfl rfl rfl rfl rfl rfl rfl rfl rfl rfl ⟨Tvv,Tvv,Tvv⟩ ?_
  refine oV5 tt rfl Tvv ?_
  refine Ae ?_
  show VC ..
  refine Bb ?_
  show ∃ _,_
  cases h
  exact ⟨[1430],_,rfl,⟨rfl,Tvv⟩,rfl,(.eq rfl),rfl⟩
 replace h:=Aj hb4 h
 iterate 2 refine Bd tt rfl rfl rfl rfl rfl hb4 rfl rfl rfl Tvv ?_
 refine Av rfl rfl rfl rfl rfl hb4 rfl ?_
 refine oV5 tt rfl Tvv ?_
 refine Bc rfl rfl rfl (fun hb6=>?_) (fun hb6=>?_)
 ·replace h:=Ai hb6 h
  iterate 4 refine Hm rfl rfl rfl rfl hb6 rfl rfl ?_
  refine Be rfl rfl rfl rfl rfl hb6 rfl ?_
  refine oV5 tt rfl Tvv ?_
  iterate 4 refine Hm rfl rfl rfl rfl rfl rfl rfl ?_
  refine Be rfl rfl rfl rfl rfl rfl rfl ?_
  refine oV5 tt rfl Tvv ?_
  iterate 3 refine Hm rfl rfl rfl rfl rfl rfl rfl ?_
  refine Be rfl rfl rfl rfl rfl rfl rfl ?_
  refine oV5 tt rfl Tvv ?_
  iterate 4 refine Hm rfl rfl rfl rfl rfl rfl rfl ?_
  refine Be rfl rfl rfl rfl rfl rfl rfl ?_
  refine Ae ?_
  show VC ..
  refine Bs rfl rfl ?_
  refine Ag ?_
  refine Aa ?_
  refine oV5 tt rfl Tvv ?_
  obtain ⟨v4,hc7,h⟩:=Ac h
  refine Ba (Hg N g_0 v4 hc7) rfl rfl rfl rfl rfl rfl rfl rfl ⟨⟨rfl,rfl,Tvv⟩,Tvv⟩ ?_
  refine Ao tt rfl rfl rfl rfl rfl rfl rfl rfl rfl rfl rfl ⟨Tvv,Tvv,Tvv⟩ ?_
  refine oV5 tt rfl Tvv ?_
  refine Ae ?_
  show VC ..
  refine Bb ?_
  show ∃ _,_
  cases h
  exact ⟨[1430],_,rfl,⟨rfl,Tvv⟩,rfl,(.eq rfl),rfl⟩
 replace h:=Aj hb6 h
 iterate 4 refine Bd tt rfl rfl rfl rfl rfl hb6 rfl rfl rfl Tvv ?_
 refine Av rfl rfl rfl rfl rfl hb6 rfl ?_
 refine oV5 tt rfl Tvv ?_
 refine Bc rfl rfl rfl (fun hb8=>?_) (fun hb8=>?_)
 ·replace h:=Ai hb8 h
  iterate 4 refine Hm rfl rfl rfl rfl hb8 rfl rfl ?_
  refine Be rfl rfl rfl rfl rfl hb8 rfl ?_
  refine oV5 tt rfl Tvv ?_
  iterate 3 refine Hm rfl rfl rfl rfl rfl rfl rfl ?_
  refine Be rfl rfl rfl rfl rfl rfl rfl ?_
  refine oV5 tt rfl Tvv ?_
  iterate 4 refine Hm rfl rfl rfl rfl rfl rfl rfl ?_
  refine Be rfl rfl rfl rfl rfl rfl rfl ?_
  refine Ae ?_
  show VC ..
  refine Bs rfl rfl ?_
  refine Ag ?_
  refine Aa ?_
  refine oV5 tt rfl Tvv ?_
  obtain ⟨v5,hc9,h⟩:=Ac h
  refine Ba (Hg N g_0 v5 hc9) rfl rfl rfl rfl rfl rfl rfl rfl ⟨⟨rfl,rfl,Tvv⟩,Tvv⟩ ?_
  refine Ao tt rfl rfl rfl rfl rfl rfl rfl rfl rfl rfl rfl ⟨Tvv,Tvv,Tvv⟩ ?_
  refine oV5 tt rfl Tvv ?_
  refine Ae ?_
  show VC ..
  refine Bb ?_
  show ∃ _,_
  cases h
  exact ⟨[1430],_,rfl,⟨rfl,Tvv⟩,rfl,(.eq rfl),rfl⟩
 replace h:=Aj hb8 h
 iterate 4 refine Bd tt rfl rfl rfl rfl rfl hb8 rfl rfl rfl Tvv ?_
 refine Av rfl rfl rfl rfl rfl hb8 rfl ?_
 refine oV5 tt rfl Tvv ?_
 refine Bc rfl rfl rfl (fun hb10=>?_) (fun hb10=>?_)
 ·replace h:=Ai hb10 h
  iterate 3 refine Hm rfl rfl rfl rfl hb10 rfl rfl ?_
  refine Be rfl rfl rfl rfl rfl hb10 rfl ?_
  refine oV5 tt rfl Tvv ?_
  iterate 4 refine Hm rfl rfl rfl rfl rfl rfl rfl ?_
  refine Be rfl rfl rfl rfl rfl rfl rfl ?_
  refine Ae ?_
  show VC ..
  refine Bs rfl rfl ?_
  refine Ag ?_
  refine Aa ?_
  refine oV5 tt rfl Tvv ?_
  obtain ⟨v6,hc11,h⟩:=Ac h
  refine Ba (Hg N g_0 v6 hc11) rfl rfl rfl rfl rfl rfl rfl rfl ⟨⟨rfl,rfl,Tvv⟩,Tvv⟩ ?_
  refine Ao tt rfl rfl rfl rfl rfl rfl rfl rfl rfl rfl rfl ⟨Tvv,Tvv,Tvv⟩ ?_
  refine oV5 tt rfl Tvv ?_
  refine Ae ?_
  show VC ..
  refine Bb ?_
  show ∃ _,_
  cases h
  exact ⟨[1430],_,rfl,⟨rfl,Tvv⟩,rfl,(.eq rfl),rfl⟩
 replace h:=Aj hb10 h
 iterate 3 refine Bd tt rfl rfl rfl rfl rfl hb10 rfl rfl rfl Tvv ?_
 refine Av rfl rfl rfl rfl rfl hb10 rfl ?_
 refine oV5 tt rfl Tvv ?_
 refine Bc rfl rfl rfl (fun hb12=>?_) (fun hb12=>?_)
 ·replace h:=Ai hb12 h
  iterate 4 refine Hm rfl rfl rfl rfl hb12 rfl rfl ?_
  refine Be rfl rfl rfl rfl rfl hb12 rfl ?_
  refine Ae ?_
  show VC ..
  refine Bs rfl rfl ?_
  refine Ag ?_
  refine Aa ?_
  refine oV5 tt rfl Tvv ?_
  obtain ⟨v7,hc13,h⟩:=Ac h
  refine Ba (Hg N g_0 v7 hc13) rfl rfl rfl rfl rfl rfl rfl rfl ⟨⟨rfl,rfl,Tvv⟩,Tvv⟩ ?_
  refine Ao tt rfl rfl rfl rfl rfl rfl rfl rfl rfl rfl rfl ⟨Tvv,Tvv,Tvv⟩ ?_
  refine oV5 tt rfl Tvv ?_
  refine Ae ?_
  show VC ..
  refine Bb ?_
  show ∃ _,_
  cases h
  exact ⟨[1430],_,rfl,⟨rfl,Tvv⟩,rfl,(.eq rfl),rfl⟩
 replace h:=Aj hb12 h
 iterate 4 refine Bd tt rfl rfl rfl rfl rfl hb12 rfl rfl rfl Tvv ?_
 refine Av rfl rfl rfl rfl rfl hb12 rfl ?_
 refine Ae ?_
 show VC ..
 refine Au rfl (fun hb14=>?_) (fun hb14=>?_)
 ·replace h:=Ai hb14 h
  refine Ag ?_
  refine Aa ?_
  refine oV5 tt rfl Tvv ?_
  obtain ⟨v8,hc15,h⟩:=Ac h
  refine Ba (Hg N g_0 v8 hc15) rfl rfl rfl rfl rfl rfl rfl rfl ⟨⟨rfl,rfl,Tvv⟩,Tvv⟩ ?_
  refine Ao tt rfl rfl rfl rfl rfl rfl rfl rfl rfl rfl rfl ⟨Tvv,Tvv,Tvv⟩ ?_
  refine oV5 tt rfl Tvv ?_
  refine Ae ?_
  show VC ..
  refine Bb ?_
  show ∃ _,_
  cases h
  exact ⟨[1430],_,rfl,⟨rfl,Tvv⟩,rfl,(.eq rfl),rfl⟩
 replace h:=Aj hb14 h
 refine Ar ?_
 show VC ..
 refine Ag ?_
 refine Aa ?_
 iterate 7 refine oV5 tt rfl Tvv ?_
 refine Du (Ad rfl) (Dp Bv rfl rfl) rfl rfl ?_
 obtain ⟨v9,hc16,h⟩:=Ac h
 refine Ba (Dw N g_0 ((min a_1 b_2),(max a_1 b_2)) v9 hc16) rfl rfl rfl rfl rfl rfl rfl rfl ⟨⟨rfl,rfl,Tvv⟩,⟨rfl,rfl,Tvv⟩,Tvv⟩ ?_
 refine Ao tt rfl rfl rfl rfl rfl rfl rfl rfl rfl rfl rfl ⟨Tvv,Tvv,Tvv⟩ ?_
 refine oV5 tt rfl Tvv ?_
 refine Ae ?_
 show VC ..
 refine Bb ?_
 show ∃ _,_
 cases h
 exact ⟨[1520],_,rfl,⟨rfl,Tvv⟩,rfl,(.eq rfl),rfl⟩
end
section
open Go.RowKit
theorem Aai:BuildOK Try.prog 151 [(0,1),(1,1),(2,1)] [.slice none 0 0,.int .i64 0,.int .i64 0]:=bld (by kernel_rfl) (by kernel_rfl)
end
section
open Go.RowKit
def Se (N:Nat) (c_0:Cur):Option (Pin×Int×Int):=
 (Bt N c_0 (4:Int)).bind fun v1=>
 grd (Bf ((1:Int)+v1.1)) <|
 (Jk N (⟨c_0.b,v1.2.1,v1.2.2⟩:Cur) ((1:Int)+v1.1)).bind fun v2=>
 (Bt N (⟨c_0.b,v2.2.1,v2.2.2⟩:Cur) (8:Int)).bind fun v3=>
 cnd (v3.1==(0:Int)) (
  (Bt N (⟨c_0.b,v3.2.1,v3.2.2⟩:Cur) (v2.1.g.bars.length:Int)).bind fun v4=>
  (Hz N v2.1.g v4.1).bind fun v5=>
  some ((⟨⟨v5.1.n,v5.1.bars⟩,v2.1.ground⟩:Pin),v4.2.1,v4.2.2)) (
  cnd (v3.1==(1:Int)) (
   (Bt N (⟨c_0.b,v3.2.1,v3.2.2⟩:Cur) v2.1.g.n).bind fun v6=>
   (Bt N (⟨c_0.b,v6.2.1,v6.2.2⟩:Cur) v2.1.g.n).bind fun v7=>
   (Tl N v2.1.g v6.1 v7.1).bind fun v8=>
   some ((⟨⟨v8.1.n,v8.1.bars⟩,v2.1.ground⟩:Pin),v7.2.1,v7.2.2)) (
   cnd (v3.1==(2:Int)) (
    (Bt N (⟨c_0.b,v3.2.1,v3.2.2⟩:Cur) (4:Int)).bind fun v9=>
    grd (Bf (v9.1-(1:Int))) <|
    (Bt N (⟨c_0.b,v9.2.1,v9.2.2⟩:Cur) (9:Int)).bind fun v10=>
    some ((⟨⟨v2.1.g.n,v2.1.g.bars⟩,([(v9.1-(1:Int)),v10.1]:List Int)⟩:Pin),v10.2.1,v10.2.2)) (
    some ((⟨⟨v2.1.g.n,v2.1.g.bars⟩,v2.1.ground⟩:Pin),v3.2.1,v3.2.2))))
theorem Aar (N:Nat) (c_0:Cur) (r:Pin×Int×Int) (h:Se N c_0=some r):MCall Try.prog 109 [.ptr 1000000 0] [900101,900102] [1000000] [(111,.pairs []),(3,.ints [])] [(111,.pairs r.1.g.bars),(3,.ints r.1.ground)] [[.ro false (.bytes c_0.b),.int c_0.i,.int c_0.h]] [[.ro false (.bytes c_0.b),.int r.2.1,.int r.2.2]] (.agg [.int r.1.g.n,.row 900101 0 r.1.g.bars.length,.row 900102 0 r.1.ground.length]):=by
 unfold Se at h
 refine Hs (TT:=TT) tt Try.func109 rfl rfl Try.ntmps109 (congrArg Array.toList Try.results109) rfl rfl rfl rfl rfl fun w0 O0=>?_
 refine Ag ?_
 refine Aa ?_
 refine Bj tt rfl rfl rfl rfl rfl rfl rfl rfl rfl ?_
 refine Ae ?_
 show VC ..
 refine Ag ?_
 refine Aa ?_
 iterate 2 refine oV5 tt rfl Tvv ?_
 obtain ⟨v1,hc1,h⟩:=Ac h
 refine Gc (Bu N c_0 (4:Int) v1 hc1) [] [1000000] [] rfl rfl rfl rfl rfl rfl Tvv ⟨rfl,Tvv⟩ ⟨⟨rfl,rfl⟩,⟨rfl,rfl⟩,Tvv⟩ ?_
 obtain ⟨hg2,h⟩:=Ab h
 refine oV5 tt rfl hg2 ?_
 refine vEnO (En.zero 9503 111 (.pairs []) rfl rfl) ?_
 refine vEnO (En.zero 9504 3 (.ints []) rfl rfl) ?_
 obtain ⟨v2,hc3,h⟩:=Ac h
 refine Gc (Xs N (⟨c_0.b,v1.2.1,v1.2.2⟩:Cur) ((1:Int)+v1.1) v2 hc3) [9503,9504] [1000000] [1140,1141] rfl rfl rfl rfl rfl rfl ⟨rfl,rfl,Tvv⟩ ⟨rfl,Tvv⟩ ⟨⟨rfl,rfl⟩,⟨rfl,rfl⟩,Tvv⟩ ?_
 refine Bj tt rfl rfl rfl rfl rfl rfl rfl rfl rfl ?_
 refine Ao tt rfl rfl rfl rfl rfl rfl rfl rfl rfl rfl rfl ⟨Tvv,Tvv,Tvv,Tvv⟩ ?_
 refine Ae ?_
 show VC ..
 iterate 2 refine Ag ?_
 refine Aa ?_
 refine oV5 tt rfl Tvv ?_
 obtain ⟨v3,hc4,h⟩:=Ac h
 refine Gc (Bu N (⟨c_0.b,v2.2.1,v2.2.2⟩:Cur) (8:Int) v3 hc4) [] [1000000] [] rfl rfl rfl rfl rfl rfl Tvv ⟨rfl,Tvv⟩ ⟨⟨rfl,rfl⟩,⟨rfl,rfl⟩,Tvv⟩ ?_
 refine Ae ?_
 show VC ..
 refine Aq ?_
 refine Ag ?_
 refine Aa ?_
 iterate 2 refine oV5 tt rfl Tvv ?_
 refine Ae ?_
 show VC ..
 refine Au rfl (fun hb5=>?_) (fun hb5=>?_)
 ·replace h:=Ai hb5 h
  refine Ag ?_
  refine Bl 14 [7,8,12,1071000000,1130000004] [0,1,0,0,8,24,56,124,255,511,1023,1023,0,6143,16383] (by kernel_rfl) (by kernel_rfl) (by kernel_rfl) (by kernel_rfl) (by kernel_rfl) rfl (by rfl) ?_
  iterate 7 refine Bo tt rfl (Ad rfl) rfl rfl rfl rfl rfl Tvv ?_
  obtain ⟨v4,hc6,h⟩:=Ac h
  refine nMCall (rids:=[]) (bids:=[]) (pids:=[]) (Ad rfl) (Bu N (⟨c_0.b,v3.2.1,v3.2.2⟩:Cur) (v2.1.g.bars.length:Int) v4 hc6) [] [1000000] [] rfl rfl rfl rfl rfl (by first | rfl | kernel_rfl) rfl rfl rfl rfl rfl (by first | rfl | kernel_rfl)  trivial ⟨rfl,Tvv⟩ ⟨⟨rfl,rfl⟩,⟨rfl,rfl⟩,Tvv⟩ ?_
  obtain ⟨v5,hc7,h⟩:=Ac h
  refine Jh (Qw N v2.1.g v4.1 v5 hc7) rfl (Ad rfl) rfl rfl rfl rfl rfl rfl (by first | rfl | kernel_rfl | (simp [nrL,nm,Dy,nmT,Es]; done)) rfl (by first | rfl | kernel_rfl | (simp [Jj,nrL,nm,Dy,nmT,Es,hid,Ez,Cf,Bn]; done) | (simp [Jj,nrL,nm,Dy,nmT,Es,hid,Ez,Cf,Bn]; decide)) ⟨⟨rfl,(.inl ⟨rfl,rfl⟩),Tvv⟩,rfl,Tvv⟩ ?_
  iterate 3 refine Bo tt rfl (Ad rfl) rfl rfl rfl rfl rfl Tvv ?_
  refine Aax tt (Ad rfl) rfl rfl rfl rfl rfl rfl rfl rfl rfl rfl ?_
  refine nStoreB tt (Ad rfl) rfl rfl rfl rfl rfl rfl rfl rfl rfl rfl rfl rfl ?_
  refine Lt ?_
  show VO _ _ _ _ _
  refine oV5 tt rfl Tvv ?_
  refine Ae ?_
  show VC ..
  refine Aa ?_
  iterate 2 refine oV5 tt rfl Tvv ?_
  refine Ao tt rfl rfl rfl rfl rfl rfl rfl rfl rfl rfl rfl ⟨Tvv,Tvv,Tvv⟩ ?_
  refine Ae ?_
  show VC ..
  refine Ag ?_
  refine Aa ?_
  refine oV5 tt rfl Tvv ?_
  refine Ao tt rfl rfl rfl rfl rfl rfl rfl rfl rfl rfl rfl ⟨Tvv,Tvv,Tvv,Tvv⟩ ?_
  refine Ae ?_
  show VC ..
  refine Bb ?_
  show ∃ _,_
  cases h
  exact ⟨[1280,1141],rfl,⟨rfl,rfl,Tvv⟩,⟨rfl,Tvv⟩,rfl⟩
 replace h:=Aj hb5 h
 refine Ag ?_
 refine Aa ?_
 iterate 2 refine oV5 tt rfl Tvv ?_
 refine Ae ?_
 show VC ..
 refine Au rfl (fun hb8=>?_) (fun hb8=>?_)
 ·replace h:=Ai hb8 h
  refine Ag ?_
  refine Aa ?_
  iterate 4 refine oV5 tt rfl Tvv ?_
  obtain ⟨v6,hc9,h⟩:=Ac h
  refine Gc (Bu N (⟨c_0.b,v3.2.1,v3.2.2⟩:Cur) v2.1.g.n v6 hc9) [] [1000000] [] rfl rfl rfl rfl rfl rfl Tvv ⟨rfl,Tvv⟩ ⟨⟨rfl,rfl⟩,⟨rfl,rfl⟩,Tvv⟩ ?_
  refine oV5 tt rfl Tvv ?_
  refine Ae ?_
  show VC ..
  refine Ag ?_
  refine Aa ?_
  iterate 4 refine oV5 tt rfl Tvv ?_
  obtain ⟨v7,hc10,h⟩:=Ac h
  refine Gc (Bu N (⟨c_0.b,v6.2.1,v6.2.2⟩:Cur) v2.1.g.n v7 hc10) [] [1000000] [] rfl rfl rfl rfl rfl rfl Tvv ⟨rfl,Tvv⟩ ⟨⟨rfl,rfl⟩,⟨rfl,rfl⟩,Tvv⟩ ?_
  refine oV5 tt rfl Tvv ?_
  refine Ae ?_
  show VC ..
  refine Ag ?_
  refine Aa ?_
  iterate 4 refine oV5 tt rfl Tvv ?_
  obtain ⟨v8,hc11,h⟩:=Ac h
  refine Ba (S_AddBar_w N v2.1.g v6.1 v7.1 v8 hc11) rfl rfl rfl rfl rfl rfl rfl rfl ⟨⟨rfl,(.inl ⟨rfl,rfl⟩),Tvv⟩,rfl,rfl,Tvv⟩ ?_
  iterate 3 refine oV5 tt rfl Tvv ?_
  refine Bj tt rfl rfl rfl rfl rfl rfl rfl rfl rfl ?_
  refine Ao tt rfl rfl rfl rfl rfl rfl rfl rfl rfl rfl rfl ⟨Tvv,Tvv,Tvv⟩ ?_
  refine oV5 tt rfl Tvv ?_
  refine Ae ?_
  show VC ..
  refine Aa ?_
  iterate 2 refine oV5 tt rfl Tvv ?_
  refine Ao tt rfl rfl rfl rfl rfl rfl rfl rfl rfl rfl rfl ⟨Tvv,Tvv,Tvv⟩ ?_
  refine Ae ?_
  show VC ..
  refine Ag ?_
  refine Aa ?_
  refine oV5 tt rfl Tvv ?_
  refine Ao tt rfl rfl rfl rfl rfl rfl rfl rfl rfl rfl rfl ⟨Tvv,Tvv,Tvv,Tvv⟩ ?_
  refine Ae ?_
  show VC ..
  refine Bb ?_
  show ∃ _,_
  cases h
  exact ⟨[1500,1141],rfl,⟨rfl,rfl,Tvv⟩,⟨rfl,Tvv⟩,rfl⟩
 replace h:=Aj hb8 h
 refine Ag ?_
 refine Aa ?_
 iterate 2 refine oV5 tt rfl Tvv ?_
 refine Ae ?_
 show VC ..
 refine Au rfl (fun hb12=>?_) (fun hb12=>?_)
 ·replace h:=Ai hb12 h
  refine Aa ?_
  refine oV5 tt rfl Tvv ?_
  obtain ⟨v9,hc13,h⟩:=Ac h
  refine Gc (Bu N (⟨c_0.b,v3.2.1,v3.2.2⟩:Cur) (4:Int) v9 hc13) [] [1000000] [] rfl rfl rfl rfl rfl rfl Tvv ⟨rfl,Tvv⟩ ⟨⟨rfl,rfl⟩,⟨rfl,rfl⟩,Tvv⟩ ?_
  obtain ⟨hg14,h⟩:=Ab h
  refine oV5 tt rfl hg14 ?_
  refine oV5 tt rfl Tvv ?_
  obtain ⟨v10,hc15,h⟩:=Ac h
  refine Gc (Bu N (⟨c_0.b,v9.2.1,v9.2.2⟩:Cur) (9:Int) v10 hc15) [] [1000000] [] rfl rfl rfl rfl rfl rfl Tvv ⟨rfl,Tvv⟩ ⟨⟨rfl,rfl⟩,⟨rfl,rfl⟩,Tvv⟩ ?_
  refine Cv tt rfl rfl rfl rfl rfl rfl rfl rfl rfl rfl rfl ?_
  refine oV5 tt rfl Tvv ?_
  refine Ao tt rfl rfl rfl rfl rfl rfl rfl rfl rfl rfl rfl ⟨Tvv,Tvv⟩ ?_
  refine Ae ?_
  show VC ..
  refine Ag ?_
  refine Aa ?_
  refine oV5 tt rfl Tvv ?_
  refine Ao tt rfl rfl rfl rfl rfl rfl rfl rfl rfl rfl rfl ⟨Tvv,Tvv,Tvv,Tvv⟩ ?_
  refine Ae ?_
  show VC ..
  refine Bb ?_
  show ∃ _,_
  cases h
  exact ⟨[1140,62],rfl,⟨rfl,rfl,Tvv⟩,⟨rfl,Tvv⟩,rfl⟩
 replace h:=Aj hb12 h
 refine Ar ?_
 show VC ..
 refine Ag ?_
 refine Aa ?_
 refine oV5 tt rfl Tvv ?_
 refine Ao tt rfl rfl rfl rfl rfl rfl rfl rfl rfl rfl rfl ⟨Tvv,Tvv,Tvv,Tvv⟩ ?_
 refine Ae ?_
 show VC ..
 refine Bb ?_
 show ∃ _,_
 cases h
 exact ⟨[1140,1141],rfl,⟨rfl,rfl,Tvv⟩,⟨rfl,Tvv⟩,rfl⟩
def Kz (N:Nat) (code_0:List Int) (k:Int→Option (Cur)):Nat→(Int×Int)→Option (Cur)
 | 0,_=>none
 | n+1,(h5,i6)=>
  cnd (decide (i6<(code_0.length:Int))) (
   cnd (decide (i6<(4000:Int))) (
    grd (Bf (h5*(131:Int))) <|
    grd (0≤i6∧i6<(code_0.length:Int)) <|
    grd (0≤(code_0.getD ((i6).toNat) 0)∧(code_0.getD ((i6).toNat) 0)<256) <|
    grd (Bf ((h5*(131:Int))+(code_0.getD ((i6).toNat) 0))) <|
    grd (Bf (((h5*(131:Int))+(code_0.getD ((i6).toNat) 0))+(7:Int))) <|
    grd (Bf (i6+(1:Int))) <|
    Kz N code_0 k n ((andI (((h5*(131:Int))+(code_0.getD ((i6).toNat) 0))+(7:Int)) (1073741823:Int)),(i6+(1:Int)))) (
    k h5)) (
   k h5)
def Th (N:Nat) (code_0:List Int):Option (Cur):=
 grd (Bf ((10101:Int)+(code_0.length:Int))) <|
 Kz N code_0 (fun (h3 : Int) =>
    some (⟨code_0,(0:Int),h3⟩:Cur)) N (((10101:Int)+(code_0.length:Int)),(0:Int))
theorem Ze (N:Nat) (code_0:List Int) (r:Cur) (h:Th N code_0=some r):PCallB Try.prog 110 [.ro false (.bytes code_0)] [.ro false (.bytes r.b),.int r.i,.int r.h]:=by
 unfold Th at h
 refine pcallB_intro (TT:=TT) tt Try.func110 rfl rfl Try.ntmps110 (congrArg Array.toList Try.results110) rfl rfl rfl fun w0 O0=>?_
 refine Ag ?_
 refine Aa ?_
 refine oV5 tt rfl Tvv ?_
 refine Ae ?_
 show VC ..
 refine Ag ?_
 refine Aa ?_
 iterate 2 refine oV5 tt rfl Tvv ?_
 obtain ⟨hg1,h⟩:=Ab h
 refine oV5 tt rfl hg1 ?_
 refine oV5 tt rfl Tvv ?_
 refine Ae ?_
 show VC ..
 iterate 2 refine Ag ?_
 refine Aa ?_
 refine oV5 tt rfl Tvv ?_
 refine Ae ?_
 show VC ..
 refine Ck (F:=fun k=>Kz N code_0 k) h (α:=Int) (J:=fun (h3:Int)=>(⟨[(0,.ro false (.bytes code_0)),(3,.int h3)],[],[]⟩:PS)) ?_ ?_
 ·rintro h3 h
  show VC _ _ _ (⟨[(0,.ro false (.bytes code_0)),(3,.int h3)],[],[]⟩:PS)
  refine Ag ?_
  refine Aa ?_
  iterate 2 refine oV5 tt rfl Tvv ?_
  refine Du (Ad rfl) (Dp Aai rfl rfl) rfl rfl ?_
  refine Km rfl rfl rfl rfl rfl rfl rfl rfl rfl ?_
  refine oV5 tt rfl Tvv ?_
  refine Ae ?_
  show VC ..
  refine Bb ?_
  show ∃ _,_
  cases h
  exact ⟨31,rfl,rfl,rfl⟩
 intro k h
 refine Aq ?_
 refine Bh (α:=Int×Int) (fun | (h5,i6)=>(⟨[(0,.ro false (.bytes code_0)),(3,.int h5),(4,.int i6)],[],[]⟩:PS)) (Kz N code_0 k) h (En.of ⟨rfl,rfl,rfl,Tvv⟩ trivial trivial) (fun _=>rfl) ?_
 rintro n ⟨h5,i6⟩ h
 rw [Kz] at h
 show VC _ _ _ (⟨[(0,.ro false (.bytes code_0)),(3,.int h5),(4,.int i6)],[],[]⟩:PS)
 iterate 2 refine Ag ?_
 refine Aa ?_
 iterate 5 refine oV5 tt rfl Tvv ?_
 refine Bc rfl rfl rfl (fun hb2=>?_) (fun hb2=>?_)
 ·replace h:=Ai hb2 h
  iterate 2 refine Bd tt rfl rfl rfl rfl rfl hb2 rfl rfl rfl Tvv ?_
  refine Be rfl rfl rfl rfl rfl hb2 rfl ?_
  refine Ae ?_
  show VC ..
  refine Au rfl (fun hb3=>?_) (fun hb3=>?_)
  ·replace h:=Ai hb3 h
   refine Ar ?_
   show VC ..
   refine Ag ?_
   refine Aq ?_
   refine Aa ?_
   refine oV5 tt rfl Tvv ?_
   obtain ⟨hg4,h⟩:=Ab h
   refine oV5 tt rfl hg4 ?_
   iterate 2 refine oV5 tt rfl Tvv ?_
   obtain ⟨hg5,h⟩:=Ab h
   refine oV5 tt rfl hg5 ?_
   refine oV5 tt rfl Tvv ?_
   obtain ⟨hg6,h⟩:=Ab h
   refine Du (Ad rfl) (pConvI Try.underlying5 Try.underlying3 rfl rfl hg6) rfl rfl ?_
   obtain ⟨hg7,h⟩:=Ab h
   refine oV5 tt rfl hg7 ?_
   obtain ⟨hg8,h⟩:=Ab h
   refine oV5 tt rfl hg8 ?_
   iterate 2 refine oV5 tt rfl Tvv ?_
   refine Ae ?_
   show VC ..
   refine Aa ?_
   refine oV5 tt rfl Tvv ?_
   obtain ⟨hg9,h⟩:=Ab h
   refine oV5 tt rfl hg9 ?_
   refine oV5 tt rfl Tvv ?_
   refine Ae ?_
   show ∃ _,_
   exact ⟨((andI (((h5*(131:Int))+(code_0.getD ((i6).toNat) 0))+(7:Int)) (1073741823:Int)),(i6+(1:Int))),(En.of ⟨rfl,rfl,rfl,Tvv⟩ trivial trivial),h⟩
  replace h:=Aj hb3 h
  refine Bq ?_
  show ∃ _,_
  exact ⟨h5,(En.of ⟨rfl,rfl,Tvv⟩ trivial trivial),h⟩
 replace h:=Aj hb2 h
 iterate 2 refine Jn rfl rfl rfl rfl hb2 rfl rfl ?_
 refine Av rfl rfl rfl rfl rfl hb2 rfl ?_
 refine Ae ?_
 show VC ..
 refine Cz rfl rfl ?_
 refine Bq ?_
 show ∃ _,_
 exact ⟨h5,(En.of ⟨rfl,rfl,Tvv⟩ trivial trivial),h⟩
def Gh (N:Nat) (code_0:List Int):Option (Pin):=
 (Th N code_0).bind fun v1=>
 (Se N v1).bind fun v2=>
 some (⟨⟨v2.1.g.n,v2.1.g.bars⟩,v2.1.ground⟩:Pin)
theorem Tc (N:Nat) (code_0:List Int) (r:Pin) (h:Gh N code_0=some r):PCall Try.prog 10 [.ro false (.bytes code_0)] [(111,.pairs r.g.bars),(3,.ints r.ground)] (.agg [.int r.g.n,.row 0 0 r.g.bars.length,.row 1 0 r.ground.length]):=by
 unfold Gh at h
 refine Ah (TT:=TT) tt Try.func10 rfl rfl Try.ntmps10 (congrArg Array.toList Try.results10) rfl rfl fun w0=>?_
 refine Ag ?_
 refine Aa ?_
 refine Bj tt rfl rfl rfl rfl rfl rfl rfl rfl rfl ?_
 refine Ae ?_
 show VC ..
 refine Ag ?_
 refine Aa ?_
 refine oV5 tt rfl Tvv ?_
 obtain ⟨v1,hc1,h⟩:=Ac h
 refine oCallB (Ze N code_0 v1 hc1) rfl rfl rfl rfl rfl ⟨rfl,rfl,Tvv⟩ ?_
 refine vEnO (En.zero 9503 111 (.pairs []) rfl rfl) ?_
 refine vEnO (En.zero 9504 3 (.ints []) rfl rfl) ?_
 obtain ⟨v2,hc2,h⟩:=Ac h
 refine Gc (Aar N v1 v2 hc2) [9503,9504] [4] [1050,1051] rfl rfl rfl rfl rfl rfl ⟨rfl,rfl,Tvv⟩ ⟨rfl,Tvv⟩ ⟨⟨rfl,rfl⟩,Tvv⟩ ?_
 refine Ao tt rfl rfl rfl rfl rfl rfl rfl rfl rfl rfl rfl ⟨Tvv,Tvv,Tvv,Tvv⟩ ?_
 refine Ae ?_
 show VC ..
 refine Bb ?_
 show ∃ _,_
 cases h
 exact ⟨[1050,1051],_,rfl,⟨rfl,rfl,Tvv⟩,rfl,(.eq rfl),rfl⟩
def Qx (N:Nat) (l_0:List Int) (x_1:Int) (k:Unit→Option (Bool)):Nat→Int→Option (Bool)
 | 0,_=>none
 | n+1,i3=>
  cnd (decide (i3<(l_0.length:Int))) (
   grd (0≤i3∧i3<(l_0.length:Int)) <|
   cnd ((l_0.getD ((i3).toNat) 0)==x_1) (
    some true) (
    grd (Bf (i3+(1:Int))) <|
    Qx N l_0 x_1 k n (i3+(1:Int)))) (
   k ())
def L_has (N:Nat) (l_0:List Int) (x_1:Int):Option (Bool):=
 Qx N l_0 x_1 (fun (_ : Unit) =>
    some false) N (0:Int)
theorem L_has_w (N:Nat) (l_0:List Int) (x_1:Int) (r:Bool) (h:L_has N l_0 x_1=some r):PCall Try.prog 22 [.ro false (.ints l_0),.int x_1] [] (.bool r):=by
 unfold L_has at h
 refine Ah (TT:=TT) tt Try.func22 rfl rfl Try.ntmps22 (congrArg Array.toList Try.results22) rfl rfl fun w0=>?_
 refine Ag ?_
 refine Aa ?_
 refine oV5 tt rfl Tvv ?_
 refine Ae ?_
 show VC ..
 iterate 2 refine Ag ?_
 refine Aa ?_
 refine oV5 tt rfl Tvv ?_
 refine Ae ?_
 show VC ..
 refine Ck (F:=fun k=>Qx N l_0 x_1 k) h (α:=Unit) (J:=fun (_:Unit)=>(⟨[],[],[]⟩:PS)) ?_ ?_
 ·rintro ⟨⟩ h
  show VC _ _ _ (⟨[],[],[]⟩:PS)
  refine Ag ?_
  refine Aa ?_
  refine oV5 tt rfl Tvv ?_
  refine Ae ?_
  show VC ..
  refine Bb ?_
  show ∃ _,_
  cases h
  exact ⟨[],_,rfl,Tvv,rfl,(.eq rfl),rfl⟩
 intro k h
 refine Aq ?_
 refine Bh (α:=Int) (fun (i3:Int)=>(⟨[(0,.ro false (.ints l_0)),(1,.int x_1),(5,.int i3)],[],[]⟩:PS)) (Qx N l_0 x_1 k) h (En.of ⟨rfl,rfl,rfl,Tvv⟩ trivial trivial) (fun _=>rfl) ?_
 rintro n i3 h
 rw [Qx] at h
 show VC _ _ _ (⟨[(0,.ro false (.ints l_0)),(1,.int x_1),(5,.int i3)],[],[]⟩:PS)
 iterate 2 refine Ag ?_
 refine Aa ?_
 iterate 4 refine oV5 tt rfl Tvv ?_
 refine Ae ?_
 show VC ..
 refine Au rfl (fun hb1=>?_) (fun hb1=>?_)
 ·replace h:=Ai hb1 h
  refine Ar ?_
  show VC ..
  refine Ag ?_
  refine Aq ?_
  refine Ag ?_
  refine Aa ?_
  iterate 2 refine oV5 tt rfl Tvv ?_
  obtain ⟨hg2,h⟩:=Ab h
  refine oV5 tt rfl hg2 ?_
  iterate 3 refine oV5 tt rfl Tvv ?_
  refine Ae ?_
  show VC ..
  refine Au rfl (fun hb3=>?_) (fun hb3=>?_)
  ·replace h:=Ai hb3 h
   refine Ag ?_
   refine Aa ?_
   refine oV5 tt rfl Tvv ?_
   refine Ae ?_
   show VC ..
   refine Bb ?_
   show ∃ _,_
   cases h
   exact ⟨[],_,rfl,Tvv,rfl,(.eq rfl),rfl⟩
  replace h:=Aj hb3 h
  refine Ar ?_
  show VC ..
  refine Aa ?_
  refine oV5 tt rfl Tvv ?_
  obtain ⟨hg4,h⟩:=Ab h
  refine oV5 tt rfl hg4 ?_
  refine oV5 tt rfl Tvv ?_
  refine Ae ?_
  show ∃ _,_
  exact ⟨(i3+(1:Int)),(En.of ⟨rfl,rfl,rfl,Tvv⟩ trivial trivial),h⟩
 replace h:=Aj hb1 h
 refine Bq ?_
 show ∃ _,_
 exact ⟨(),(En.of trivial trivial trivial),h⟩
def Gu (N:Nat) (a_0:List Int) (b_1:List Int) (k:Unit→Option (Bool)):Nat→Int→Option (Bool)
 | 0,_=>none
 | n+1,i3=>
  cnd (decide (i3<(a_0.length:Int))) (
   grd (0≤i3∧i3<(a_0.length:Int)) <|
   grd (0≤i3∧i3<(b_1.length:Int)) <|
   cnd ((a_0.getD ((i3).toNat) 0) != (b_1.getD ((i3).toNat) 0)) (
    some false) (
    grd (Bf (i3+(1:Int))) <|
    Gu N a_0 b_1 k n (i3+(1:Int)))) (
   k ())
def Jv (N:Nat) (a_0:List Int) (b_1:List Int):Option (Bool):=
 cnd ((a_0.length:Int) != (b_1.length:Int)) (
  some false) (
  Gu N a_0 b_1 (fun (_ : Unit) =>
     some true) N (0:Int))
theorem Pk (N:Nat) (a_0:List Int) (b_1:List Int) (r:Bool) (h:Jv N a_0 b_1=some r):PCall Try.prog 27 [.ro false (.ints a_0),.ro false (.ints b_1)] [] (.bool r):=by
 unfold Jv at h
 refine Ah (TT:=TT) tt Try.func27 rfl rfl Try.ntmps27 (congrArg Array.toList Try.results27) rfl rfl fun w0=>?_
 refine Ag ?_
 refine Aa ?_
 refine oV5 tt rfl Tvv ?_
 refine Ae ?_
 show VC ..
 iterate 2 refine Ag ?_
 refine Aa ?_
 iterate 5 refine oV5 tt rfl Tvv ?_
 refine Ae ?_
 show VC ..
 refine Au rfl (fun hb1=>?_) (fun hb1=>?_)
 ·replace h:=Ai hb1 h
  refine Ag ?_
  refine Aa ?_
  refine oV5 tt rfl Tvv ?_
  refine Ae ?_
  show VC ..
  refine Bb ?_
  show ∃ _,_
  cases h
  exact ⟨[],_,rfl,Tvv,rfl,(.eq rfl),rfl⟩
 replace h:=Aj hb1 h
 refine Ar ?_
 show VC ..
 iterate 2 refine Ag ?_
 refine Aa ?_
 refine oV5 tt rfl Tvv ?_
 refine Ae ?_
 show VC ..
 refine Ck (F:=fun k=>Gu N a_0 b_1 k) h (α:=Unit) (J:=fun (_:Unit)=>(⟨[],[],[]⟩:PS)) ?_ ?_
 ·rintro ⟨⟩ h
  show VC _ _ _ (⟨[],[],[]⟩:PS)
  refine Ag ?_
  refine Aa ?_
  refine oV5 tt rfl Tvv ?_
  refine Ae ?_
  show VC ..
  refine Bb ?_
  show ∃ _,_
  cases h
  exact ⟨[],_,rfl,Tvv,rfl,(.eq rfl),rfl⟩
 intro k h
 refine Aq ?_
 refine Bh (α:=Int) (fun (i3:Int)=>(⟨[(0,.ro false (.ints a_0)),(1,.ro false (.ints b_1)),(5,.int i3)],[],[]⟩:PS)) (Gu N a_0 b_1 k) h (En.of ⟨rfl,rfl,rfl,Tvv⟩ trivial trivial) (fun _=>rfl) ?_
 rintro n i3 h
 rw [Gu] at h
 show VC _ _ _ (⟨[(0,.ro false (.ints a_0)),(1,.ro false (.ints b_1)),(5,.int i3)],[],[]⟩:PS)
 iterate 2 refine Ag ?_
 refine Aa ?_
 iterate 4 refine oV5 tt rfl Tvv ?_
 refine Ae ?_
 show VC ..
 refine Au rfl (fun hb2=>?_) (fun hb2=>?_)
 ·replace h:=Ai hb2 h
  refine Ar ?_
  show VC ..
  refine Ag ?_
  refine Aq ?_
  refine Ag ?_
  refine Cg (by kernel_rfl) (by kernel_rfl) ?_
  iterate 2 refine Bi tt rfl (Ad rfl) rfl rfl rfl Tvv ?_
  obtain ⟨hg3,h⟩:=Ab h
  refine Bi tt rfl (Ad rfl) rfl rfl rfl hg3 ?_
  iterate 3 refine Bi tt rfl (Ad rfl) rfl rfl rfl Tvv ?_
  obtain ⟨hg4,h⟩:=Ab h
  refine Bi tt rfl (Ad rfl) rfl rfl rfl hg4 ?_
  iterate 2 refine Bi tt rfl (Ad rfl) rfl rfl rfl Tvv ?_
  refine La ?_
  show VC ..
  refine Au rfl (fun hb5=>?_) (fun hb5=>?_)
  ·replace h:=Ai hb5 h
   refine Ag ?_
   refine Aa ?_
   refine oV5 tt rfl Tvv ?_
   refine Ae ?_
   show VC ..
   refine Bb ?_
   show ∃ _,_
   cases h
   exact ⟨[],_,rfl,Tvv,rfl,(.eq rfl),rfl⟩
  replace h:=Aj hb5 h
  refine Ar ?_
  show VC ..
  refine Aa ?_
  refine oV5 tt rfl Tvv ?_
  obtain ⟨hg6,h⟩:=Ab h
  refine oV5 tt rfl hg6 ?_
  refine oV5 tt rfl Tvv ?_
  refine Ae ?_
  show ∃ _,_
  exact ⟨(i3+(1:Int)),(En.of ⟨rfl,rfl,rfl,Tvv⟩ trivial trivial),h⟩
 replace h:=Aj hb2 h
 refine Bq ?_
 show ∃ _,_
 exact ⟨(),(En.of trivial trivial trivial),h⟩
end
section
open Go.RowKit
variable {n:Nat} {N:Nat}
theorem has_s (hN:4000000≤N) {l:List Int} (hl:l.length≤3000000) (x:Int):L_has N l x=some (l.contains x):=by
 have key:∀ (fuel i:Nat),i≤l.length→l.length<fuel+i→Qx N l x (fun (_:Unit)=>some false) fuel (i:Int)=some ((l.drop i).contains x):=by
  intro fuel
  induction fuel with
  | zero=>intro i h1 h2; omega
  | succ fuel ih=>
   intro i h1 h2
   rw [Qx]
   by_cases hi:i<l.length
   ·have e2:((i:Int)).toNat=i:=rfl
    have ed:l.drop i=l.getD i 0::l.drop (i+1):=by
     rw [List.drop_eq_getElem_cons hi]; simp [List.getD_eq_getElem?_getD,hi]
    rw [Al (by omega),Af (by omega),e2,ed,List.contains_cons]
    by_cases e:l.getD i 0=x
    ·rw [Pc e,e]; simp
    rw [Kj e,At (by omega) (by omega),Am,ih (i+1) (by omega) (by omega)]
    have:(x==l.getD i 0)=false:=by simpa using fun h=>e h.symm
    rw [this,Bool.false_or]
   rw [Ak (by omega),List.drop_eq_nil_of_le (by omega)]; rfl
 have:=key N 0 (by omega) (by omega)
 simpa [L_has] using this
theorem sameInts_s (hN:4000000≤N) {l:List Int} (hl:l.length≤3000000):Jv N l l=some true:=by
 have key:∀ (fuel i:Nat),i≤l.length→l.length<fuel+i→Gu N l l (fun (_:Unit)=>some true) fuel (i:Int)=some true:=by
  intro fuel
  induction fuel with
  | zero=>intro i h1 h2; omega
  | succ fuel ih=>
   intro i h1 h2
   rw [Gu]
   by_cases hi:i<l.length
   ·rw [Al (by omega),Af (by omega),Af (by omega),Hn rfl,At (by omega) (by omega),Am,ih (i+1) (by omega) (by omega)]
   rw [Ak (by omega)]
 unfold Jv
 rw [Hn rfl]
 exact key N 0 (by omega) (by omega)
end
section
open Go.RowKit
variable {n:Nat} {N:Nat}
section
variable {p p':Pin} {LH LS H I LH' LS' H' I':List (Int×Int)} {t t':Nat→Bool}
theorem PF.tie_ground (h:PF N n p LH LS H I t) {i j:Nat} (hij:i<j) (hj:j<p.ground.length):Tied n I (p.ground.getD i 0,p.ground.getD j 0):=by
 have tie:∀ e∈LH,Tied n I e:=fun e he=>h.bI.spn e ((h.mem e).2 (.inl he))
 refine (steady_iff h.g2 h.hG h.hlt h.hS h.bI.spr h.okI tie (h.hG j hj)).1 ⟨.inr (tie _ (h.hS.h0 j (by omega) hj)),?_⟩ i (by omega) (by have:=h.hlt j i hij hj; omega)
 by_cases e:j=1
 ·subst e; exact .inl rfl
 exact .inr (tie _ (h.hS.h1 j (by omega) hj))
end
def part (p:Pin) (X:List (Int×Int)):Pin:=⟨⟨p.g.n,X⟩,p.ground⟩
section
variable {p:Pin}
end
end
section
open Go.RowKit Go.Deep
def Cp (N:Nat) (p_0:Pin) (v1:List Int) (l147:List (Int×List Int)) (l148:List Int) (k:((List (Int×List Int))×(List Int))→Option ((List (Int×List Int))×Bool)):Nat→Int→Option ((List (Int×List Int))×Bool)
 | 0,_=>none
 | n+1,i179=>
  cnd (decide (i179<(v1.length:Int))) (
   grd (0≤i179∧i179<(v1.length:Int)) <|
   (Re N p_0 l148 (v1.getD ((i179).toNat) 0)).bind fun v182=>
   (Cw N l148 (v1.getD ((i179).toNat) 0)).bind fun v183=>
   cnd (!v183) (
    cnd (decide ((v182.length:Int)≥(2:Int))) (
     grd (l147.length+1≤4294967296) <|
     grd (l148.length+1≤4294967296) <|
     k ((l147++([((v1.getD ((i179).toNat) 0),v182)]:List (Int×List Int))),(l148++([(v1.getD ((i179).toNat) 0)]:List Int)))) (
     grd (Bf (i179+(1:Int))) <|
     Cp N p_0 v1 l147 l148 k n (i179+(1:Int)))) (
    grd (Bf (i179+(1:Int))) <|
    Cp N p_0 v1 l147 l148 k n (i179+(1:Int)))) (
   k (l147,l148))
def By (N:Nat) (p_0:Pin) (v1:List Int) (k:((List (Int×List Int))×(List Int))→Option ((List (Int×List Int))×Bool)):Nat→((List (Int×List Int))×(List Int)×Int)→Option ((List (Int×List Int))×Bool)
 | 0,_=>none
 | n+1,(l147,l148,n149)=>
  cnd (decide (n149<(v1.length:Int))) (
   Cp N p_0 v1 l147 l148 (fun (x:(List (Int×List Int))×(List Int))=>
     match x with
     | (l174,l175)=>
      grd (Bf (n149+(1:Int))) <|
      By N p_0 v1 k n (l174,l175,(n149+(1:Int)))) N (0:Int)) (
   k (l147,l148))
def Eh (N:Nat) (p_0:Pin):Option ((List (Int×List Int))×Bool):=
 (Fh N p_0).bind fun v1=>
 By N p_0 v1 (fun (x:(List (Int×List Int))×(List Int))=>
   match x with
   | (l91,l92)=>
    (Cj N p_0).bind fun v93=>
    cnd (!v93) (
     some (([]:List (Int×List Int)),false)) (
     cnd (decide ((l92.length:Int)<(v1.length:Int))) (
      some (([]:List (Int×List Int)),false)) (
      some (l91,true)))) N (([]:List (Int×List Int)),([]:List Int),(0:Int))
theorem Pa (N:Nat) (p_0:Pin) (r:(List (Int×List Int))×Bool) (h:Eh N p_0=some r):PCall Try.prog 12 [pD p_0] [(39,.raises r.1)] (.tup [.row 0 0 r.1.length,.bool r.2]):=by
 unfold Eh at h
 refine Ah (TT:=TT) tt Try.func12 rfl rfl Try.ntmps12 (congrArg Array.toList Try.results12) rfl rfl fun w0=>?_
 refine Ag ?_
 refine Aa ?_
 refine Km rfl rfl rfl rfl rfl rfl rfl rfl rfl ?_
 iterate 2 refine oV5 tt rfl Tvv ?_
 refine Ae ?_
 show VC ..
 refine Ag ?_
 refine Aa ?_
 refine Fa tt (Ad rfl) rfl rfl rfl rfl ?_
 refine oV5 tt rfl Tvv ?_
 refine Ae ?_
 show VC ..
 refine Ag ?_
 refine Aa ?_
 refine Fa tt (Ad rfl) rfl rfl rfl rfl ?_
 refine oV5 tt rfl Tvv ?_
 refine Ae ?_
 show VC ..
 refine Ag ?_
 refine Aa ?_
 refine oV5 tt rfl Tvv ?_
 obtain ⟨v1,hc1,h⟩:=Ac h
 refine Ba (Ke N p_0 v1 hc1) rfl rfl rfl rfl rfl rfl rfl rfl ⟨⟨rfl,rfl,rfl,Tvv⟩,Tvv⟩ ?_
 refine oV5 tt rfl Tvv ?_
 refine Ae ?_
 show VC ..
 iterate 2 refine Ag ?_
 refine Aa ?_
 refine oV5 tt rfl Tvv ?_
 refine Ae ?_
 show VC ..
 refine Ck (F:=fun k=>By N p_0 v1 k) h (α:=(List (Int×List Int))×(List Int)) (J:=fun | (l91,l92)=>(⟨[(1,.ptr 1 0),(4,.row 53 0 l91.length),(5,.row 60 0 l92.length),(6,.row 1130 0 v1.length)],[(53,some (39,.raises l91)),(60,some (3,.ints l92)),(1130,some (3,.ints v1))],[(1,some [.int p_0.g.n,.ro false (.pairs p_0.g.bars),.ro false (.ints p_0.ground)])]⟩:PS)) ?_ ?_
 ·rintro ⟨l91,l92⟩ h
  show VC _ _ _ (⟨[(1,.ptr 1 0),(4,.row 53 0 l91.length),(5,.row 60 0 l92.length),(6,.row 1130 0 v1.length)],[(53,some (39,.raises l91)),(60,some (3,.ints l92)),(1130,some (3,.ints v1))],[(1,some [.int p_0.g.n,.ro false (.pairs p_0.g.bars),.ro false (.ints p_0.ground)])]⟩:PS)
  iterate 2 refine Ag ?_
  refine Aa ?_
  refine oV5 tt rfl Tvv ?_
  obtain ⟨v93,hc2,h⟩:=Ac h
  refine Ba (Hx N p_0 v93 hc2) rfl rfl rfl rfl rfl rfl rfl rfl ⟨⟨rfl,rfl,rfl,Tvv⟩,Tvv⟩ ?_
  iterate 2 refine oV5 tt rfl Tvv ?_
  refine Bc rfl rfl rfl (fun hb3=>?_) (fun hb3=>?_)
  ·replace h:=Ai hb3 h
   iterate 5 refine Hm rfl rfl rfl rfl hb3 rfl rfl ?_
   refine Be rfl rfl rfl rfl rfl hb3 rfl ?_
   refine Ae ?_
   show VC ..
   refine Bs rfl rfl ?_
   refine Ag ?_
   refine Aa ?_
   refine Fa tt (Ad rfl) rfl rfl rfl rfl ?_
   iterate 2 refine oV5 tt rfl Tvv ?_
   refine Ae ?_
   show VC ..
   refine Md 2 9001 39 (.raises []) rfl rfl rfl rfl ?_
   refine Bb ?_
   show ∃ _,_
   cases h
   exact ⟨[9001],_,rfl,⟨rfl,Tvv⟩,rfl,(.eq rfl),rfl⟩
  replace h:=Aj hb3 h
  iterate 5 refine Bd tt rfl rfl rfl rfl rfl hb3 rfl rfl rfl Tvv ?_
  refine Av rfl rfl rfl rfl rfl hb3 rfl ?_
  refine Ae ?_
  show VC ..
  refine Au rfl (fun hb4=>?_) (fun hb4=>?_)
  ·replace h:=Ai hb4 h
   refine Ag ?_
   refine Aa ?_
   refine Fa tt (Ad rfl) rfl rfl rfl rfl ?_
   iterate 2 refine oV5 tt rfl Tvv ?_
   refine Ae ?_
   show VC ..
   refine Md 2 9001 39 (.raises []) rfl rfl rfl rfl ?_
   refine Bb ?_
   show ∃ _,_
   cases h
   exact ⟨[9001],_,rfl,⟨rfl,Tvv⟩,rfl,(.eq rfl),rfl⟩
  replace h:=Aj hb4 h
  refine Ar ?_
  show VC ..
  refine Ag ?_
  refine Aa ?_
  iterate 3 refine oV5 tt rfl Tvv ?_
  refine Ae ?_
  show VC ..
  refine Bb ?_
  show ∃ _,_
  cases h
  exact ⟨[53],_,rfl,⟨rfl,Tvv⟩,rfl,(.eq rfl),rfl⟩
 intro k h
 refine Aq ?_
 refine Md 4 53 39 (.raises []) rfl rfl rfl rfl ?_
 refine Md 5 60 3 (.ints []) rfl rfl rfl rfl ?_
 refine Bh (α:=(List (Int×List Int))×(List Int)×Int) (fun | (l147,l148,n149)=>(⟨[(1,.ptr 1 0),(4,.row 53 0 l147.length),(5,.row 60 0 l148.length),(6,.row 1130 0 v1.length),(7,.int n149)],[(53,some (39,.raises l147)),(60,some (3,.ints l148)),(1130,some (3,.ints v1))],[(1,some [.int p_0.g.n,.ro false (.pairs p_0.g.bars),.ro false (.ints p_0.ground)])]⟩:PS)) (By N p_0 v1 k) h (En.of ⟨rfl,rfl,rfl,rfl,rfl,Tvv⟩ ⟨rfl,rfl,rfl,Tvv⟩ ⟨rfl,Tvv⟩) (fun _=>rfl) ?_
 rintro n ⟨l147,l148,n149⟩ h
 rw [By] at h
 show VC _ _ _ (⟨[(1,.ptr 1 0),(4,.row 53 0 l147.length),(5,.row 60 0 l148.length),(6,.row 1130 0 v1.length),(7,.int n149)],[(53,some (39,.raises l147)),(60,some (3,.ints l148)),(1130,some (3,.ints v1))],[(1,some [.int p_0.g.n,.ro false (.pairs p_0.g.bars),.ro false (.ints p_0.ground)])]⟩:PS)
 iterate 2 refine Ag ?_
 refine Aa ?_
 iterate 4 refine oV5 tt rfl Tvv ?_
 refine Ae ?_
 show VC ..
 refine Au rfl (fun hb5=>?_) (fun hb5=>?_)
 ·replace h:=Ai hb5 h
  refine Ar ?_
  show VC ..
  refine Ag ?_
  refine Aq ?_
  refine Ag ?_
  refine Aa ?_
  refine oV5 tt rfl Tvv ?_
  refine Ae ?_
  show VC ..
  refine Ck (F:=fun k=>Cp N p_0 v1 l147 l148 k) h (α:=(List (Int×List Int))×(List Int)) (J:=fun | (l174,l175)=>(⟨[(1,.ptr 1 0),(4,.row 53 0 l174.length),(5,.row 60 0 l175.length),(6,.row 1130 0 v1.length),(7,.int n149)],[(53,some (39,.raises l174)),(60,some (3,.ints l175)),(1130,some (3,.ints v1))],[(1,some [.int p_0.g.n,.ro false (.pairs p_0.g.bars),.ro false (.ints p_0.ground)])]⟩:PS)) ?_ ?_
  ·rintro ⟨l174,l175⟩ h
   show VC _ _ _ (⟨[(1,.ptr 1 0),(4,.row 53 0 l174.length),(5,.row 60 0 l175.length),(6,.row 1130 0 v1.length),(7,.int n149)],[(53,some (39,.raises l174)),(60,some (3,.ints l175)),(1130,some (3,.ints v1))],[(1,some [.int p_0.g.n,.ro false (.pairs p_0.g.bars),.ro false (.ints p_0.ground)])]⟩:PS)
   refine Aa ?_
   refine oV5 tt rfl Tvv ?_
   obtain ⟨hg6,h⟩:=Ab h
   refine oV5 tt rfl hg6 ?_
   refine oV5 tt rfl Tvv ?_
   refine Ae ?_
   show ∃ _,_
   exact ⟨(l174,l175,(n149+(1:Int))),(En.of ⟨rfl,rfl,rfl,rfl,rfl,Tvv⟩ ⟨rfl,rfl,rfl,Tvv⟩ ⟨rfl,Tvv⟩),h⟩
  intro k h
  refine Aq ?_
  refine Bh (α:=Int) (fun (i179:Int)=>(⟨[(1,.ptr 1 0),(4,.row 53 0 l147.length),(5,.row 60 0 l148.length),(6,.row 1130 0 v1.length),(7,.int n149),(8,.int i179)],[(53,some (39,.raises l147)),(60,some (3,.ints l148)),(1130,some (3,.ints v1))],[(1,some [.int p_0.g.n,.ro false (.pairs p_0.g.bars),.ro false (.ints p_0.ground)])]⟩:PS)) (Cp N p_0 v1 l147 l148 k) h (En.of ⟨rfl,rfl,rfl,rfl,rfl,rfl,Tvv⟩ ⟨rfl,rfl,rfl,Tvv⟩ ⟨rfl,Tvv⟩) (fun _=>rfl) ?_
  rintro n i179 h
  rw [Cp] at h
  show VC _ _ _ (⟨[(1,.ptr 1 0),(4,.row 53 0 l147.length),(5,.row 60 0 l148.length),(6,.row 1130 0 v1.length),(7,.int n149),(8,.int i179)],[(53,some (39,.raises l147)),(60,some (3,.ints l148)),(1130,some (3,.ints v1))],[(1,some [.int p_0.g.n,.ro false (.pairs p_0.g.bars),.ro false (.ints p_0.ground)])]⟩:PS)
  iterate 2 refine Ag ?_
  refine Aa ?_
  iterate 4 refine oV5 tt rfl Tvv ?_
  refine Ae ?_
  show VC ..
  refine Au rfl (fun hb7=>?_) (fun hb7=>?_)
  ·replace h:=Ai hb7 h
   refine Ar ?_
   show VC ..
   refine Ag ?_
   refine Aq ?_
   refine Ag ?_
   refine Bl 6 [] [0,0,0,0,12,28,63,127] (by kernel_rfl) (by kernel_rfl) (by kernel_rfl) (by kernel_rfl) (by kernel_rfl) rfl (by rfl) ?_
   iterate 4 refine Bo tt rfl (Ad rfl) rfl rfl rfl rfl rfl Tvv ?_
   obtain ⟨hg8,h⟩:=Ab h
   iterate 2 refine Bo tt rfl (Ad rfl) rfl rfl rfl rfl rfl hg8 ?_
   refine Lt ?_
   show VO _ _ _ _ _
   obtain ⟨v182,hc9,h⟩:=Ac h
   refine Ba (S_l26Bars_w N p_0 l148 (v1.getD ((i179).toNat) 0) v182 hc9) rfl rfl rfl rfl rfl rfl rfl rfl ⟨⟨rfl,rfl,rfl,Tvv⟩,(.inl ⟨rfl,rfl⟩),rfl,Tvv⟩ ?_
   refine oV5 tt rfl Tvv ?_
   refine Ae ?_
   show VC ..
   refine Ag ?_
   refine Aa ?_
   iterate 3 refine oV5 tt rfl Tvv ?_
   iterate 2 refine oV5 tt rfl hg8 ?_
   obtain ⟨v183,hc10,h⟩:=Ac h
   refine Ba (Ct N l148 (v1.getD ((i179).toNat) 0) v183 hc10) rfl rfl rfl rfl rfl rfl rfl rfl ⟨(.inl ⟨rfl,rfl⟩),rfl,Tvv⟩ ?_
   iterate 2 refine oV5 tt rfl Tvv ?_
   refine Bc rfl rfl rfl (fun hb11=>?_) (fun hb11=>?_)
   ·replace h:=Ai hb11 h
    iterate 3 refine Bd tt rfl rfl rfl rfl rfl hb11 rfl rfl rfl Tvv ?_
    refine Be rfl rfl rfl rfl rfl hb11 rfl ?_
    refine Ae ?_
    show VC ..
    refine Au rfl (fun hb12=>?_) (fun hb12=>?_)
    ·replace h:=Ai hb12 h
     refine Ag ?_
     refine Aa ?_
     iterate 3 refine oV5 tt rfl Tvv ?_
     iterate 2 refine oV5 tt rfl hg8 ?_
     refine oV5 tt rfl Tvv ?_
     refine Du (Ad rfl) (Dp Ps rfl rfl) rfl rfl ?_
     refine oFreezeA 51 1 rfl rfl rfl rfl rfl ?_
     refine Cv tt rfl rfl rfl rfl rfl rfl rfl rfl rfl rfl rfl ?_
     obtain ⟨hg13,h⟩:=Ab h
     refine Bp tt rfl rfl rfl rfl rfl rfl rfl rfl rfl rfl rfl rfl rfl rfl rfl rfl (Nat.le_of_eq (Nat.zero_add _)) hg13 ?_
     refine oV5 tt rfl Tvv ?_
     refine Ae ?_
     show VC ..
     refine Ag ?_
     refine Aa ?_
     iterate 3 refine oV5 tt rfl Tvv ?_
     iterate 2 refine oV5 tt rfl hg8 ?_
     refine Cv tt rfl rfl rfl rfl rfl rfl rfl rfl rfl rfl rfl ?_
     obtain ⟨hg14,h⟩:=Ab h
     refine Bp tt rfl rfl rfl rfl rfl rfl rfl rfl rfl rfl rfl rfl rfl rfl rfl rfl (Nat.le_of_eq (Nat.zero_add _)) hg14 ?_
     refine oV5 tt rfl Tvv ?_
     refine Ae ?_
     show VC ..
     refine Bq ?_
     show ∃ _,_
     exact ⟨((l147++([((v1.getD ((i179).toNat) 0),v182)]:List (Int×List Int))),(l148++([(v1.getD ((i179).toNat) 0)]:List Int))),(En.of ⟨rfl,rfl,rfl,rfl,rfl,Tvv⟩ ⟨rfl,rfl,rfl,Tvv⟩ ⟨rfl,Tvv⟩),h⟩
    replace h:=Aj hb12 h
    refine Ar ?_
    show VC ..
    refine Aa ?_
    refine oV5 tt rfl Tvv ?_
    obtain ⟨hg15,h⟩:=Ab h
    refine oV5 tt rfl hg15 ?_
    refine oV5 tt rfl Tvv ?_
    refine Ae ?_
    show ∃ _,_
    exact ⟨(i179+(1:Int)),(En.of ⟨rfl,rfl,rfl,rfl,rfl,rfl,Tvv⟩ ⟨rfl,rfl,rfl,Tvv⟩ ⟨rfl,Tvv⟩),h⟩
   replace h:=Aj hb11 h
   iterate 3 refine Jn rfl rfl rfl rfl hb11 rfl rfl ?_
   refine Av rfl rfl rfl rfl rfl hb11 rfl ?_
   refine Ae ?_
   show VC ..
   refine Cz rfl rfl ?_
   refine Ar ?_
   show VC ..
   refine Aa ?_
   refine oV5 tt rfl Tvv ?_
   obtain ⟨hg16,h⟩:=Ab h
   refine oV5 tt rfl hg16 ?_
   refine oV5 tt rfl Tvv ?_
   refine Ae ?_
   show ∃ _,_
   exact ⟨(i179+(1:Int)),(En.of ⟨rfl,rfl,rfl,rfl,rfl,rfl,Tvv⟩ ⟨rfl,rfl,rfl,Tvv⟩ ⟨rfl,Tvv⟩),h⟩
  replace h:=Aj hb7 h
  refine Bq ?_
  show ∃ _,_
  exact ⟨(l147,l148),(En.of ⟨rfl,rfl,rfl,rfl,rfl,Tvv⟩ ⟨rfl,rfl,rfl,Tvv⟩ ⟨rfl,Tvv⟩),h⟩
 replace h:=Aj hb5 h
 refine Bq ?_
 show ∃ _,_
 exact ⟨(l147,l148),(En.of ⟨rfl,rfl,rfl,rfl,Tvv⟩ ⟨rfl,rfl,rfl,Tvv⟩ ⟨rfl,Tvv⟩),h⟩
def Lm (N:Nat) (p_0:Pin):Option (Bool):=
 (Eh N p_0).bind fun v1=>
 (Da N p_0).bind fun v2=>
 cnd v2 (
  some (!v1.2)) (
  some false)
theorem Aaj (N:Nat) (p_0:Pin) (r:Bool) (h:Lm N p_0=some r):PCall Try.prog 16 [pD p_0] [] (.bool r):=by
 unfold Lm at h
 refine Ah (TT:=TT) tt Try.func16 rfl rfl Try.ntmps16 (congrArg Array.toList Try.results16) rfl rfl fun w0=>?_
 refine Ag ?_
 refine Aa ?_
 refine Km rfl rfl rfl rfl rfl rfl rfl rfl rfl ?_
 refine oV5 tt rfl Tvv ?_
 refine Ae ?_
 show VC ..
 refine Ag ?_
 refine Aa ?_
 refine oV5 tt rfl Tvv ?_
 obtain ⟨v1,hc1,h⟩:=Ac h
 refine Ba (Pa N p_0 v1 hc1) rfl rfl rfl rfl rfl rfl rfl rfl ⟨⟨rfl,rfl,rfl,Tvv⟩,Tvv⟩ ?_
 iterate 5 refine oV5 tt rfl Tvv ?_
 refine Ae ?_
 show VC ..
 refine Ag ?_
 refine Aa ?_
 refine oV5 tt rfl Tvv ?_
 obtain ⟨v2,hc2,h⟩:=Ac h
 refine Ba (Pv N p_0 v2 hc2) rfl rfl rfl rfl rfl rfl rfl rfl ⟨⟨rfl,rfl,rfl,Tvv⟩,Tvv⟩ ?_
 refine oV5 tt rfl Tvv ?_
 refine Bc rfl rfl rfl (fun hb3=>?_) (fun hb3=>?_)
 ·replace h:=Ai hb3 h
  iterate 2 refine Bd tt rfl rfl rfl rfl rfl hb3 rfl rfl rfl Tvv ?_
  refine Be rfl rfl rfl rfl rfl hb3 rfl ?_
  refine oV5 tt rfl Tvv ?_
  refine Ae ?_
  show VC ..
  refine Bb ?_
  show ∃ _,_
  cases h
  exact ⟨[],_,rfl,Tvv,rfl,(.eq rfl),rfl⟩
 replace h:=Aj hb3 h
 iterate 2 refine Jn rfl rfl rfl rfl hb3 rfl rfl ?_
 refine Av rfl rfl rfl rfl rfl hb3 rfl ?_
 refine oV5 tt rfl Tvv ?_
 refine Ae ?_
 show VC ..
 refine Bb ?_
 show ∃ _,_
 cases h
 exact ⟨[],_,rfl,Tvv,rfl,(.eq rfl),rfl⟩
def Dg (N:Nat) (p_0:Pin) (v2:List Int) (l148:List Int) (i149:Int) (k:(List Int)→Option ((List (Int×List Int))×Bool)):Nat→((List Int)×Int)→Option ((List (Int×List Int))×Bool)
 | 0,_=>none
 | n+1,(l180,x181)=>
  cnd (decide (x181<(p_0.g.bars.length:Int))) (
   (Hl N p_0 l148 (v2.getD ((i149).toNat) 0) x181).bind fun v183=>
   cnd v183 (
    grd (l180.length+1≤4294967296) <|
    grd (Bf (x181+(1:Int))) <|
    Dg N p_0 v2 l148 i149 k n ((l180++([x181]:List Int)),(x181+(1:Int)))) (
    grd (Bf (x181+(1:Int))) <|
    Dg N p_0 v2 l148 i149 k n (l180,(x181+(1:Int))))) (
   k l180)
def Ce (N:Nat) (p_0:Pin) (v2:List Int) (k:((List (Int×List Int))×(List Int))→Option ((List (Int×List Int))×Bool)):Nat→((List (Int×List Int))×(List Int)×Int)→Option ((List (Int×List Int))×Bool)
 | 0,_=>none
 | n+1,(l147,l148,i149)=>
  cnd (decide (i149<(v2.length:Int))) (
   grd (0≤i149∧i149<(v2.length:Int)) <|
   Dg N p_0 v2 l148 i149 (fun (l174 : List Int) =>
      (Gg N p_0 l148 (⟨(v2.getD ((i149).toNat) 0),l174⟩:Rse)).bind fun v175=>
      cnd v175 (
       grd (l147.length+1≤4294967296) <|
       grd (l148.length+1≤4294967296) <|
       grd (Bf ((-1:Int)+(1:Int))) <|
       Ce N p_0 v2 k n ((l147++[((v2.getD ((i149).toNat) 0),l174)]),(l148++([(v2.getD ((i149).toNat) 0)]:List Int)),((-1:Int)+(1:Int)))) (
       grd (Bf (i149+(1:Int))) <|
       Ce N p_0 v2 k n (l147,l148,(i149+(1:Int))))) N (([]:List Int),(0:Int))) (
   k (l147,l148))
def Ft (N:Nat) (p_0:Pin):Option ((List (Int×List Int))×Bool):=
 (Hk N p_0).bind fun v1=>
 cnd (!v1) (
  some (([]:List (Int×List Int)),false)) (
  (Gz N p_0).bind fun v2=>
  Ce N p_0 v2 (fun (x:(List (Int×List Int))×(List Int))=>
    match x with
    | (l92,l93)=>
     cnd ((l93.length:Int) != (v2.length:Int)) (
      some (([]:List (Int×List Int)),false)) (
      some (l92,true))) N (([]:List (Int×List Int)),([]:List Int),(0:Int)))
theorem Ri (N:Nat) (p_0:Pin) (r:(List (Int×List Int))×Bool) (h:Ft N p_0=some r):PCallD Try.prog 11 [pD p_0] 39 3 (.raises r.1) (.tup [.row 0 0 r.1.length,.bool r.2]):=by
 unfold Ft at h
 refine pcallD_intro (TT:=TT) tt Try.func11 rfl rfl Try.ntmps11 (congrArg Array.toList Try.results11) rfl rfl rfl fun w0=>?_
 refine Ag ?_
 refine Aa ?_
 refine Km rfl rfl rfl rfl rfl rfl rfl rfl rfl ?_
 iterate 2 refine oV5 tt rfl Tvv ?_
 refine Ae ?_
 show VC ..
 refine Ag ?_
 refine Aa ?_
 refine Fa tt (Ad rfl) rfl rfl rfl rfl ?_
 refine oV5 tt rfl Tvv ?_
 refine Ae ?_
 show VC ..
 iterate 2 refine Ag ?_
 refine Aa ?_
 refine oV5 tt rfl Tvv ?_
 obtain ⟨v1,hc1,h⟩:=Ac h
 refine Ba (Ju N p_0 v1 hc1) rfl rfl rfl rfl rfl rfl rfl rfl ⟨⟨rfl,rfl,rfl,Tvv⟩,Tvv⟩ ?_
 refine oV5 tt rfl Tvv ?_
 refine Ae ?_
 show VC ..
 refine Au rfl (fun hb2=>?_) (fun hb2=>?_)
 ·replace h:=Ai hb2 h
  refine Ag ?_
  refine Aa ?_
  iterate 3 refine oV5 tt rfl Tvv ?_
  refine Ae ?_
  show VC ..
  refine Md 2 9001 39 (.raises []) rfl rfl rfl rfl ?_
  refine vEn (En.newFam 11 3 (.ints []) rfl rfl rfl rfl (fun _ h=>by cases h) rfl) ?_
  refine vEn (En.asRefs 9001 11 (q:=.raises []) (qR:=dR 11 (.raises [])) rfl rfl rfl rfl) ?_
  refine Bb ?_
  show ∃ _,_
  cases h
  exact ⟨9001,11,_,rfl,rfl,rfl,rfl,rfl,(.eq rfl),rfl⟩
 replace h:=Aj hb2 h
 refine Ar ?_
 show VC ..
 refine Ag ?_
 refine Aa ?_
 refine Fa tt (Ad rfl) rfl rfl rfl rfl ?_
 refine oV5 tt rfl Tvv ?_
 refine Ae ?_
 show VC ..
 refine Ag ?_
 refine Aa ?_
 refine oV5 tt rfl Tvv ?_
 obtain ⟨v2,hc3,h⟩:=Ac h
 refine Ba (Mq N p_0 v2 hc3) rfl rfl rfl rfl rfl rfl rfl rfl ⟨⟨rfl,rfl,rfl,Tvv⟩,Tvv⟩ ?_
 refine oV5 tt rfl Tvv ?_
 refine Ae ?_
 show VC ..
 iterate 2 refine Ag ?_
 refine Aa ?_
 refine oV5 tt rfl Tvv ?_
 refine Ae ?_
 show VC ..
 refine Ck (F:=fun k=>Ce N p_0 v2 k) h (α:=(List (Int×List Int))×(List Int)) (J:=fun | (l92,l93)=>(⟨[(4,.row 9506 0 l92.length),(5,.row 61 0 l93.length),(6,.row 1170 0 v2.length)],[(9506,some (39,dR 10 (.raises l92))),(8589934602,some (3,dF (.raises l92))),(61,some (3,.ints l93)),(1170,some (3,.ints v2))],[]⟩:PS)) ?_ ?_
 ·rintro ⟨l92,l93⟩ h
  show VC _ _ _ (⟨[(4,.row 9506 0 l92.length),(5,.row 61 0 l93.length),(6,.row 1170 0 v2.length)],[(9506,some (39,dR 10 (.raises l92))),(8589934602,some (3,dF (.raises l92))),(61,some (3,.ints l93)),(1170,some (3,.ints v2))],[]⟩:PS)
  iterate 2 refine Ag ?_
  refine Aa ?_
  iterate 5 refine oV5 tt rfl Tvv ?_
  refine Ae ?_
  show VC ..
  refine Au rfl (fun hb4=>?_) (fun hb4=>?_)
  ·replace h:=Ai hb4 h
   refine Ag ?_
   refine Aa ?_
   refine Fa tt (Ad rfl) rfl rfl rfl rfl ?_
   iterate 2 refine oV5 tt rfl Tvv ?_
   refine Ae ?_
   show VC ..
   refine Md 2 9001 39 (.raises []) rfl rfl rfl rfl ?_
   refine vEn (En.newFam 11 3 (.ints []) rfl rfl rfl rfl (fun _ h=>by cases h) rfl) ?_
   refine vEn (En.asRefs 9001 11 (q:=.raises []) (qR:=dR 11 (.raises [])) rfl rfl rfl rfl) ?_
   refine Bb ?_
   show ∃ _,_
   cases h
   exact ⟨9001,11,_,rfl,rfl,rfl,rfl,rfl,(.eq rfl),rfl⟩
  replace h:=Aj hb4 h
  refine Ar ?_
  show VC ..
  refine Ag ?_
  refine Aa ?_
  iterate 3 refine oV5 tt rfl Tvv ?_
  refine Ae ?_
  show VC ..
  refine Bb ?_
  show ∃ _,_
  cases h
  exact ⟨9506,10,_,rfl,rfl,rfl,rfl,rfl,(.eq rfl),rfl⟩
 intro k h
 refine Aq ?_
 refine Md 4 9508 39 (.raises []) rfl rfl rfl rfl ?_
 refine vEn (En.newFam 10 3 (.ints []) rfl rfl rfl rfl (fun _ h=>by cases h) rfl) ?_
 refine vEn (En.asRefs 9508 10 (q:=.raises []) (qR:=dR 10 (.raises [])) rfl rfl rfl rfl) ?_
 refine Md 5 61 3 (.ints []) rfl rfl rfl rfl ?_
 refine Bh (α:=(List (Int×List Int))×(List Int)×Int) (fun | (l147,l148,i149)=>(⟨[(1,.ptr 1 0),(4,.row 9508 0 l147.length),(5,.row 61 0 l148.length),(6,.row 1170 0 v2.length),(7,.int i149)],[(9508,some (39,dR 10 (.raises l147))),(8589934602,some (3,dF (.raises l147))),(61,some (3,.ints l148)),(1170,some (3,.ints v2))],[(1,some [.int p_0.g.n,.ro false (.pairs p_0.g.bars),.ro false (.ints p_0.ground)])]⟩:PS)) (Ce N p_0 v2 k) h (En.of ⟨rfl,rfl,rfl,rfl,rfl,Tvv⟩ ⟨rfl,rfl,rfl,rfl,Tvv⟩ ⟨rfl,Tvv⟩) (fun _=>rfl) ?_
 rintro n ⟨l147,l148,i149⟩ h
 rw [Ce] at h
 show VC _ _ _ (⟨[(1,.ptr 1 0),(4,.row 9508 0 l147.length),(5,.row 61 0 l148.length),(6,.row 1170 0 v2.length),(7,.int i149)],[(9508,some (39,dR 10 (.raises l147))),(8589934602,some (3,dF (.raises l147))),(61,some (3,.ints l148)),(1170,some (3,.ints v2))],[(1,some [.int p_0.g.n,.ro false (.pairs p_0.g.bars),.ro false (.ints p_0.ground)])]⟩:PS)
 iterate 2 refine Ag ?_
 refine Aa ?_
 iterate 4 refine oV5 tt rfl Tvv ?_
 refine Ae ?_
 show VC ..
 refine Au rfl (fun hb5=>?_) (fun hb5=>?_)
 ·replace h:=Ai hb5 h
  refine Ar ?_
  show VC ..
  refine Ag ?_
  refine Aq ?_
  refine Ag ?_
  refine Aa ?_
  iterate 2 refine oV5 tt rfl Tvv ?_
  obtain ⟨hg6,h⟩:=Ab h
  iterate 2 refine oV5 tt rfl hg6 ?_
  refine Du (Ad rfl) (Dp Ps rfl rfl) rfl rfl ?_
  refine Bj tt rfl rfl rfl rfl rfl rfl rfl rfl rfl ?_
  refine Ao tt rfl rfl rfl rfl rfl rfl rfl rfl rfl rfl rfl ⟨Tvv,Tvv,Tvv⟩ ?_
  refine Ae ?_
  show VC ..
  iterate 2 refine Ag ?_
  refine Aa ?_
  iterate 5 refine oV5 tt rfl Tvv ?_
  refine Ae ?_
  show VC ..
  refine Ck (F:=fun k=>Dg N p_0 v2 l148 i149 k) h (α:=List Int) (J:=fun (l174:List Int)=>(⟨[(1,.ptr 1 0),(4,.row 9508 0 l147.length),(5,.row 61 0 l148.length),(6,.row 1170 0 v2.length),(7,.int i149),(8,.ptr 8 0)],[(9508,some (39,dR 10 (.raises l147))),(8589934602,some (3,dF (.raises l147))),(61,some (3,.ints l148)),(1170,some (3,.ints v2)),(46,some (3,.ints l174))],[(1,some [.int p_0.g.n,.ro false (.pairs p_0.g.bars),.ro false (.ints p_0.ground)]),(8,some [.int (v2.getD ((i149).toNat) 0),.row 46 0 l174.length])]⟩:PS)) ?_ ?_
  ·rintro l174 h
   show VC _ _ _ (⟨[(1,.ptr 1 0),(4,.row 9508 0 l147.length),(5,.row 61 0 l148.length),(6,.row 1170 0 v2.length),(7,.int i149),(8,.ptr 8 0)],[(9508,some (39,dR 10 (.raises l147))),(8589934602,some (3,dF (.raises l147))),(61,some (3,.ints l148)),(1170,some (3,.ints v2)),(46,some (3,.ints l174))],[(1,some [.int p_0.g.n,.ro false (.pairs p_0.g.bars),.ro false (.ints p_0.ground)]),(8,some [.int (v2.getD ((i149).toNat) 0),.row 46 0 l174.length])]⟩:PS)
   refine Ag ?_
   refine Aa ?_
   iterate 3 refine oV5 tt rfl Tvv ?_
   obtain ⟨v175,hc7,h⟩:=Ac h
   refine Ba (Js N p_0 l148 (⟨(v2.getD ((i149).toNat) 0),l174⟩:Rse) v175 hc7) rfl rfl rfl rfl rfl rfl rfl rfl ⟨⟨rfl,rfl,rfl,Tvv⟩,(.inl ⟨rfl,rfl⟩),⟨rfl,(.inl ⟨rfl,rfl⟩),Tvv⟩,Tvv⟩ ?_
   refine Ae ?_
   show VC ..
   refine Au rfl (fun hb8=>?_) (fun hb8=>?_)
   ·replace h:=Ai hb8 h
    refine Ag ?_
    refine Aa ?_
    iterate 2 refine oV5 tt rfl Tvv ?_
    refine vEnO (En.adoptA 54 1 46 9508 10 (q:=(.raises l147)) rfl rfl rfl rfl rfl rfl rfl (by simp [Sq.len,Fq.len,famOf,Fq.hole]) (pushR _ (v2.getD ((i149).toNat) 0) _) rfl (dl':=[.int (v2.getD ((i149).toNat) 0),.irow 10 l147.length l174.length]) (by simp [Fq.len,klXS]) rfl) ?_
    refine oBuildI tt rfl rfl rfl rfl rfl rfl rfl rfl rfl rfl ?_
    obtain ⟨hg9,h⟩:=Ab h
    refine oAppendD (.raises (l147++[((v2.getD ((i149).toNat) 0),l174)])) tt (q:=(.raises l147)) rfl rfl rfl rfl rfl rfl rfl rfl (Nat.le_of_eq (Nat.zero_add _)) rfl rfl rfl rfl rfl rfl rfl (appR 10 l147 (v2.getD ((i149).toNat) 0) l174) hg9 ?_
    refine oV5 tt rfl Tvv ?_
    refine Ae ?_
    show VC ..
    refine Ag ?_
    refine Aa ?_
    iterate 3 refine oV5 tt rfl Tvv ?_
    refine Cv tt rfl rfl rfl rfl rfl rfl rfl rfl rfl rfl rfl ?_
    obtain ⟨hg10,h⟩:=Ab h
    refine Bp tt rfl rfl rfl rfl rfl rfl rfl rfl rfl rfl rfl rfl rfl rfl rfl rfl (Nat.le_of_eq (Nat.zero_add _)) hg10 ?_
    refine oV5 tt rfl Tvv ?_
    refine Ae ?_
    show VC ..
    refine Aa ?_
    refine oV5 tt rfl Tvv ?_
    refine Ae ?_
    show VC ..
    refine Aa ?_
    refine oV5 tt rfl Tvv ?_
    obtain ⟨hg11,h⟩:=Ab h
    refine oV5 tt rfl hg11 ?_
    refine oV5 tt rfl Tvv ?_
    refine Ae ?_
    show ∃ _,_
    exact ⟨((l147++[((v2.getD ((i149).toNat) 0),l174)]),(l148++([(v2.getD ((i149).toNat) 0)]:List Int)),((-1:Int)+(1:Int))),(En.of ⟨rfl,rfl,rfl,rfl,rfl,Tvv⟩ ⟨rfl,rfl,rfl,rfl,Tvv⟩ ⟨rfl,Tvv⟩),h⟩
   replace h:=Aj hb8 h
   refine Ar ?_
   show VC ..
   refine Aa ?_
   refine oV5 tt rfl Tvv ?_
   obtain ⟨hg12,h⟩:=Ab h
   refine oV5 tt rfl hg12 ?_
   refine oV5 tt rfl Tvv ?_
   refine Ae ?_
   show ∃ _,_
   exact ⟨(l147,l148,(i149+(1:Int))),(En.of ⟨rfl,rfl,rfl,rfl,rfl,Tvv⟩ ⟨rfl,rfl,rfl,rfl,Tvv⟩ ⟨rfl,Tvv⟩),h⟩
  intro k h
  refine Aq ?_
  refine Xh 8 1 46 3 (.ints []) rfl rfl rfl rfl rfl ?_
  refine Bh (α:=(List Int)×Int) (fun | (l180,x181)=>(⟨[(1,.ptr 1 0),(4,.row 9508 0 l147.length),(5,.row 61 0 l148.length),(6,.row 1170 0 v2.length),(7,.int i149),(8,.ptr 8 0),(32,.int (p_0.g.bars.length:Int)),(33,.int x181)],[(9508,some (39,dR 10 (.raises l147))),(8589934602,some (3,dF (.raises l147))),(61,some (3,.ints l148)),(1170,some (3,.ints v2)),(46,some (3,.ints l180))],[(1,some [.int p_0.g.n,.ro false (.pairs p_0.g.bars),.ro false (.ints p_0.ground)]),(8,some [.int (v2.getD ((i149).toNat) 0),.row 46 0 l180.length])]⟩:PS)) (Dg N p_0 v2 l148 i149 k) h (En.of ⟨rfl,rfl,rfl,rfl,rfl,rfl,rfl,rfl,Tvv⟩ ⟨rfl,rfl,rfl,rfl,rfl,Tvv⟩ ⟨rfl,rfl,Tvv⟩) (fun _=>rfl) ?_
  rintro n ⟨l180,x181⟩ h
  rw [Dg] at h
  show VC _ _ _ (⟨[(1,.ptr 1 0),(4,.row 9508 0 l147.length),(5,.row 61 0 l148.length),(6,.row 1170 0 v2.length),(7,.int i149),(8,.ptr 8 0),(32,.int (p_0.g.bars.length:Int)),(33,.int x181)],[(9508,some (39,dR 10 (.raises l147))),(8589934602,some (3,dF (.raises l147))),(61,some (3,.ints l148)),(1170,some (3,.ints v2)),(46,some (3,.ints l180))],[(1,some [.int p_0.g.n,.ro false (.pairs p_0.g.bars),.ro false (.ints p_0.ground)]),(8,some [.int (v2.getD ((i149).toNat) 0),.row 46 0 l180.length])]⟩:PS)
  refine Ag ?_
  refine Aa ?_
  refine oV5 tt rfl Tvv ?_
  refine Ae ?_
  show VC ..
  refine Ag ?_
  refine Au rfl (fun hb13=>?_) (fun hb13=>?_)
  ·replace h:=Ai hb13 h
   refine Ar ?_
   show VC ..
   refine Ag ?_
   refine Aq ?_
   refine Ag ?_
   refine Aa ?_
   iterate 2 refine oV5 tt rfl Tvv ?_
   refine Ae ?_
   show VC ..
   refine Ag ?_
   refine Aa ?_
   iterate 5 refine oV5 tt rfl Tvv ?_
   obtain ⟨v183,hc14,h⟩:=Ac h
   refine Ba (Ra N p_0 l148 (v2.getD ((i149).toNat) 0) x181 v183 hc14) rfl rfl rfl rfl rfl rfl rfl rfl ⟨⟨rfl,rfl,rfl,Tvv⟩,(.inl ⟨rfl,rfl⟩),rfl,rfl,Tvv⟩ ?_
   refine Ae ?_
   show VC ..
   refine Au rfl (fun hb15=>?_) (fun hb15=>?_)
   ·replace h:=Ai hb15 h
    refine Aa ?_
    iterate 3 refine oV5 tt rfl Tvv ?_
    refine Cv tt rfl rfl rfl rfl rfl rfl rfl rfl rfl rfl rfl ?_
    obtain ⟨hg16,h⟩:=Ab h
    refine Bp tt rfl rfl rfl rfl rfl rfl rfl rfl rfl rfl rfl rfl rfl rfl rfl rfl (Nat.le_of_eq (Nat.zero_add _)) hg16 ?_
    refine oV5 tt rfl Tvv ?_
    refine Ao tt rfl rfl rfl rfl rfl rfl rfl rfl rfl rfl rfl ⟨Tvv,Tvv⟩ ?_
    refine Ae ?_
    show VC ..
    refine Aa ?_
    obtain ⟨hg17,h⟩:=Ab h
    refine oV5 tt rfl hg17 ?_
    refine oV5 tt rfl Tvv ?_
    refine Ae ?_
    show ∃ _,_
    exact ⟨((l180++([x181]:List Int)),(x181+(1:Int))),(En.of ⟨rfl,rfl,rfl,rfl,rfl,rfl,rfl,rfl,Tvv⟩ ⟨rfl,rfl,rfl,rfl,rfl,Tvv⟩ ⟨rfl,rfl,Tvv⟩),h⟩
   replace h:=Aj hb15 h
   refine Ar ?_
   show VC ..
   refine Aa ?_
   obtain ⟨hg18,h⟩:=Ab h
   refine oV5 tt rfl hg18 ?_
   refine oV5 tt rfl Tvv ?_
   refine Ae ?_
   show ∃ _,_
   exact ⟨(l180,(x181+(1:Int))),(En.of ⟨rfl,rfl,rfl,rfl,rfl,rfl,rfl,rfl,Tvv⟩ ⟨rfl,rfl,rfl,rfl,rfl,Tvv⟩ ⟨rfl,rfl,Tvv⟩),h⟩
  replace h:=Aj hb13 h
  refine Bq ?_
  show ∃ _,_
  exact ⟨l180,(En.of ⟨rfl,rfl,rfl,rfl,rfl,rfl,Tvv⟩ ⟨rfl,rfl,rfl,rfl,rfl,Tvv⟩ ⟨rfl,rfl,Tvv⟩),h⟩
 replace h:=Aj hb5 h
 refine Bq ?_
 show ∃ _,_
 exact ⟨(l147,l148),(En.ren [9506] [9508] rfl ⟨.inr rfl,.inr rfl,.inr rfl,Tvv⟩ ⟨.inr rfl,.inr rfl,.inr rfl,.inr rfl,Tvv⟩ trivial),h⟩
def Lh (N:Nat) (p_0:Pin):Option (Bool):=
 (Ft N p_0).bind fun v1=>
 (Ev N p_0).bind fun v2=>
 cnd v2 (
  some (!v1.2)) (
  some false)
theorem Aam (N:Nat) (p_0:Pin) (r:Bool) (h:Lh N p_0=some r):PCall Try.prog 15 [pD p_0] [] (.bool r):=by
 unfold Lh at h
 refine Ah (TT:=TT) tt Try.func15 rfl rfl Try.ntmps15 (congrArg Array.toList Try.results15) rfl rfl fun w0=>?_
 refine Ag ?_
 refine Aa ?_
 refine Km rfl rfl rfl rfl rfl rfl rfl rfl rfl ?_
 refine oV5 tt rfl Tvv ?_
 refine Ae ?_
 show VC ..
 refine Ag ?_
 refine Aa ?_
 refine oV5 tt rfl Tvv ?_
 obtain ⟨v1,hc1,h⟩:=Ac h
 refine oCallD 10 (Ri N p_0 v1 hc1) rfl rfl rfl rfl rfl rfl rfl rfl rfl rfl rfl (fun _ h=>by cases h) ⟨⟨rfl,rfl,rfl,Tvv⟩,Tvv⟩ ?_
 iterate 5 refine oV5 tt rfl Tvv ?_
 refine Ae ?_
 show VC ..
 refine Ag ?_
 refine Aa ?_
 refine oV5 tt rfl Tvv ?_
 obtain ⟨v2,hc2,h⟩:=Ac h
 refine Ba (Kt N p_0 v2 hc2) rfl rfl rfl rfl rfl rfl rfl rfl ⟨⟨rfl,rfl,rfl,Tvv⟩,Tvv⟩ ?_
 refine oV5 tt rfl Tvv ?_
 refine Bc rfl rfl rfl (fun hb3=>?_) (fun hb3=>?_)
 ·replace h:=Ai hb3 h
  iterate 2 refine Bd tt rfl rfl rfl rfl rfl hb3 rfl rfl rfl Tvv ?_
  refine Be rfl rfl rfl rfl rfl hb3 rfl ?_
  refine oV5 tt rfl Tvv ?_
  refine Ae ?_
  show VC ..
  refine Bb ?_
  show ∃ _,_
  cases h
  exact ⟨[],_,rfl,Tvv,rfl,(.eq rfl),rfl⟩
 replace h:=Aj hb3 h
 iterate 2 refine Jn rfl rfl rfl rfl hb3 rfl rfl ?_
 refine Av rfl rfl rfl rfl rfl hb3 rfl ?_
 refine oV5 tt rfl Tvv ?_
 refine Ae ?_
 show VC ..
 refine Bb ?_
 show ∃ _,_
 cases h
 exact ⟨[],_,rfl,Tvv,rfl,(.eq rfl),rfl⟩
end
section
variable {N:Nat}
def Mo (p:Pin) (dn:List Int) (v:Int) (m:Nat):List Int:=((List.range m).map Int.ofNat).filter fun e=>Tb p dn v e
theorem Sy (p:Pin) (dn:List Int) (v:Int) (m:Nat):Mo p dn v (m+1)=cnd (Tb p dn v (m:Int)) (Mo p dn v m++[(m:Int)]) (Mo p dn v m):=by
 simp only [Mo,List.range_succ,List.map_append,List.filter_append,List.map_cons,List.map_nil,List.filter_cons,List.filter_nil]
 have e:Int.ofNat m=(m:Int):=rfl
 rw [e]
 cases Tb p dn v (m:Int) <;> simp [cnd]
theorem Sg (p:Pin) (dn:List Int) (v:Int) (m:Nat):(Mo p dn v m).length≤m:=by
 refine Nat.le_trans (List.length_filter_le _ _) (by simp)
theorem Aa5 {p:Pin} {dn:List Int} {v:Int} {m:Nat} {e:Int} (h:e∈Mo p dn v m):Tb p dn v e=true∧0≤e∧e<(m:Int):=by
 simp only [Mo,List.mem_filter,List.mem_map,List.mem_range] at h
 obtain ⟨⟨k,hk,rfl⟩,h2⟩:=h
 exact ⟨h2,by simp,by simp; omega⟩
theorem barsTo_asc (p:Pin) (dn:List Int) (v:Int):∀ m,(Mo p dn v m).Pairwise (·<·):=by
 intro m
 induction m with
 | zero=>exact List.Pairwise.nil
 | succ m ih=>
  rw [Sy]
  cases Tb p dn v (m:Int) with
  | false=>exact ih
  | true=>
   rw [cnd_true,List.pairwise_append]
   refine ⟨ih,List.pairwise_singleton _ _,fun a ha b hb=>?_⟩
   have:=(Aa5 ha).2.2
   simp at hb; omega
abbrev Gl (p:Pin) (dn:List Int) (v:Int):List Int:=Mo p dn v p.g.bars.length
theorem barsI_s (hN:4000000≤N) {p:Pin} (hp:Az p=true) {dn v2:List Int} (hd:dn.length≤3000000) {i0:Int} {k:List Int→Option ((List (Int×List Int))×Bool)}:∀ (fuel i:Nat),i≤p.g.bars.length→p.g.bars.length<fuel+i →
  Dg N p v2 dn i0 k fuel (Mo p dn (v2.getD (i0).toNat 0) i,(i:Int))=k (Gl p dn (v2.getD (i0).toNat 0)):=by
 have hbd:=Bz hp
 intro fuel
 induction fuel with
 | zero=>intro i h1 h2; omega
 | succ fuel ih=>
  intro i h1 h2
  have hl:=Sg p dn (v2.getD (i0).toNat 0) i
  rw [Dg]
  by_cases hi:i<p.g.bars.length
  ·rw [Al (by omega),holds_s N hN hp hd,Option.bind_some]
   have hs:=Sy p dn (v2.getD (i0).toNat 0) i
   have:=ih (i+1) (by omega) (by omega)
   rw [hs] at this
   cases hh:Tb p dn (v2.getD (i0).toNat 0) (i:Int) with
   | true=>
    rw [hh,cnd_true] at this
    rw [cnd_true,Af (by omega),At (by omega) (by omega),Am]
    exact this
   | false=>
    rw [hh,cnd_false] at this
    rw [cnd_false,At (by omega) (by omega),Am]
    exact this
  obtain rfl:i=p.g.bars.length:=by omega
  rw [Ak (by omega)]
theorem holdP_at {p:Pin} {dn:List Int} {v:Int} {i:Nat} (hi:i<p.g.bars.length):Tb p dn v (i:Int)=(Ey (p.g.bars.getD i (0,0)) v&&(p.ground.contains (Bm (p.g.bars.getD i (0,0)) v) || dn.contains (Bm (p.g.bars.getD i (0,0)) v))):=by
 unfold Tb
 rw [inB_true.2 ⟨by omega,by omega⟩,Bool.true_and,Int.toNat_natCast]
theorem barsS_s (hN:4000000≤N) {p:Pin} (hp:Az p=true) {dn:List Int} (hd:dn.length≤3000000) (v:Int):Re N p dn v=some (Gl p dn v):=by
 have hbd:=Bz hp
 have key:∀ (fuel i:Nat),i≤p.g.bars.length→p.g.bars.length<fuel+i→Cu N p dn v (fun x=>some x) fuel (Mo p dn v i,(i:Int))=some (Gl p dn v):=by
  intro fuel
  induction fuel with
  | zero=>intro i h1 h2; omega
  | succ fuel ih=>
   intro i h1 h2
   have hl:=Sg p dn v i
   rw [Cu]
   by_cases hi:i<p.g.bars.length
   ·have hb:=Xl hp hi
    have hs:=Sy p dn v i
    have hr:=ih (i+1) (by omega) (by omega)
    rw [hs,holdP_at hi] at hr
    have e2:((i:Int)).toNat=i:=by omega
    rw [Al (by omega),Af (by omega),e2]
    by_cases ha:(p.g.bars.getD i (0,0)).1=v
    ·have he:Ey (p.g.bars.getD i (0,0)) v=true:=hasEnd_1 ha
     rw [he,Bool.true_and] at hr
     rw [Pc ha,Va N (by omega) (by omega) (by omega) (by omega) he,Option.bind_some,Ln N hN (by omega),Option.bind_some,Ln N hN hd,Option.bind_some]
     generalize p.ground.contains (Bm (p.g.bars.getD i (0,0)) v)=bg at hr ⊢
     generalize dn.contains (Bm (p.g.bars.getD i (0,0)) v)=bd at hr ⊢
     cases bg with
     | true=>rw [cnd_true,Af (by omega),At (by omega) (by omega),Am]; exact hr
     | false=>
      cases bd with
      | true=>rw [cnd_false,cnd_true,Af (by omega),At (by omega) (by omega),Am]; exact hr
      | false=>rw [cnd_false,cnd_false,At (by omega) (by omega),Am]; exact hr
    by_cases hc:(p.g.bars.getD i (0,0)).2=v
    ·have he:Ey (p.g.bars.getD i (0,0)) v=true:=hasEnd_2 hc
     rw [he,Bool.true_and] at hr
     rw [Kj ha,Pc hc,Va N (by omega) (by omega) (by omega) (by omega) he,Option.bind_some,Ln N hN (by omega),Option.bind_some,Ln N hN hd,Option.bind_some]
     generalize p.ground.contains (Bm (p.g.bars.getD i (0,0)) v)=bg at hr ⊢
     generalize dn.contains (Bm (p.g.bars.getD i (0,0)) v)=bd at hr ⊢
     cases bg with
     | true=>rw [cnd_true,Af (by omega),At (by omega) (by omega),Am]; exact hr
     | false=>
      cases bd with
      | true=>rw [cnd_false,cnd_true,Af (by omega),At (by omega) (by omega),Am]; exact hr
      | false=>rw [cnd_false,cnd_false,At (by omega) (by omega),Am]; exact hr
    have he:Ey (p.g.bars.getD i (0,0)) v=false:=hasEnd_0 ha hc
    rw [he,Bool.false_and,cnd_false] at hr
    rw [Kj ha,Kj hc,At (by omega) (by omega),Am]
    exact hr
   obtain rfl:i=p.g.bars.length:=by omega
   rw [Ak (by omega)]
 have h0:=key N 0 (by omega) (by omega)
 rw [show Mo p dn v 0=[] from rfl] at h0
 unfold Re
 exact h0
def upOk (p:Pin) (dn:List Int) (v:Int):Bool:=!dn.contains v&&decide (2≤(Gl p dn v).length)
theorem Abd {p:Pin} (hp:Az p=true) {dn:List Int} {v:Int} (hv:Wo p v=true):Ho p dn ⟨v,Gl p dn v⟩=upOk p dn v:=by
 unfold Ho upOk
 have h:((List.range (Gl p dn v).length).all (Ka p dn ⟨v,Gl p dn v⟩))=true:=by
  rw [List.all_eq_true]
  intro i hi
  rw [List.mem_range] at hi
  unfold Ka
  have hm:(Gl p dn v).getD i 0∈Gl p dn v:=Dc hi
  rw [Bool.and_eq_true]
  refine ⟨(Aa5 hm).1,?_⟩
  by_cases h0:i=0
  ·simp [h0]
  have ha:=List.pairwise_iff_getElem.1 (barsTo_asc p dn v p.g.bars.length) (i-1) i (by have:=hi; show i-1<(Gl p dn v).length; omega) hi (by omega)
  have e1:(Gl p dn v).getD (i-1) 0=(Gl p dn v)[i-1]'(by omega):=by simp [List.getD_eq_getElem?_getD,List.getElem?_eq_getElem (show i-1<(Gl p dn v).length by omega)]
  have e2:(Gl p dn v).getD i 0=(Gl p dn v)[i]'hi:=by simp [List.getD_eq_getElem?_getD,List.getElem?_eq_getElem hi]
  rw [e1,e2,Bool.or_eq_true]
  exact .inr (decide_eq_true ha)
 rw [hp,hv,h]; simp
def Br (p:Pin) (l:List Int):Nat→List (Int×List Int)×List Int→List (Int×List Int)×List Int
 | 0,st=>st
 | k+1,st=>match l.find? (upOk p st.2) with
  | some v=>Br p l k (st.1++[(v,Gl p st.2 v)],st.2++[v])
  | none=>st
theorem Ql {p:Pin} {l:List Int}:∀ (k:Nat) (st:List (Int×List Int)×List Int),(∀ x∈st.1,x.2.length≤p.g.bars.length)→∀ x∈(Br p l k st).1,x.2.length≤p.g.bars.length
 | 0,st,h=>h
 | k+1,st,h=>by
  rw [Br]
  split
  ·rename_i v hv
   refine Ql k _ fun x hx=>?_
   rcases List.mem_append.1 hx with hx | hx
   ·exact h x hx
   rw [List.mem_singleton.1 hx]; exact Sg p st.2 v p.g.bars.length
  exact h
theorem Mg {p:Pin} {l:List Int} {st:List (Int×List Int)×List Int} (h:l.find? (upOk p st.2)=none):∀ k,Br p l k st=st
 | 0=>rfl
 | k+1=>by rw [Br,h]
theorem Pf {p:Pin} {l:List Int}:∀ (k:Nat) (st:List (Int×List Int)×List Int),(Br p l k st).1.length≤st.1.length+k∧(Br p l k st).2.length≤st.2.length+k
 | 0,st=>by simp [Br]
 | k+1,st=>by
  rw [Br]
  split
  ·rename_i v hv
   have:=Pf (p:=p) (l:=l) k (st.1++[(v,Gl p st.2 v)],st.2++[v])
   simp only [List.length_append,List.length_cons,List.length_nil] at this
   omega
  omega
theorem find_at {l:List Int} {f:Int→Bool} {i:Nat} (hi:i<l.length) (h:f (l.getD i 0)=true) (hb:∀ j,j<i→f (l.getD j 0)=false):l.find? f=some (l.getD i 0):=by
 have e:l.getD i 0=l[i]:=by simp [List.getD_eq_getElem?_getD,List.getElem?_eq_getElem hi]
 rw [e] at h ⊢
 rw [List.find?_eq_some_iff_getElem]
 refine ⟨h,i,hi,rfl,fun j hj=>?_⟩
 have:=hb j hj
 have e2:l.getD j 0=l[j]:=by simp [List.getD_eq_getElem?_getD,List.getElem?_eq_getElem (show j<l.length by omega)]
 rw [e2] at this
 simp [this]
theorem find_no {l:List Int} {f:Int→Bool} (hb:∀ j,j<l.length→f (l.getD j 0)=false):l.find? f=none:=by
 rw [List.find?_eq_none]
 intro x hx
 obtain ⟨j,hj,rfl⟩:=List.getElem_of_mem hx
 have:=hb j hj
 have e2:l.getD j 0=l[j]:=by simp [List.getD_eq_getElem?_getD,List.getElem?_eq_getElem hj]
 rw [e2] at this
 simp [this]
def Rb (l dn:List Int):Nat:=l.countP fun v=>!dn.contains v
theorem Aa8 {l dn:List Int} {v:Int} (hv:v∈l) (hn:dn.contains v=false):Rb l (dn++[v])+1≤Rb l dn:=by
 unfold Rb
 induction l with
 | nil=>simp at hv
 | cons x l ih=>
  simp only [List.countP_cons]
  have hle:(l.countP fun w=>!(dn++[v]).contains w)≤l.countP fun w=>!dn.contains w:=by
   refine List.countP_mono_left fun w _ h=>?_
   simp only [List.contains_append,Bool.not_or,Bool.and_eq_true] at h
   exact h.1
  by_cases hx:x=v
  ·subst hx
   have e1:(!(dn++[x]).contains x)=false:=by simp
   rw [e1,hn]
   simp only [Bool.not_false,if_true,Bool.false_eq_true,if_false]
   omega
  have hv':v∈l:=by simpa [Ne.symm hx] using hv
  have e:(!(dn++[v]).contains x)=!dn.contains x:=by
   simp only [List.contains_append,List.contains_cons,List.contains_nil,Bool.or_false]
   have:(x==v)=false:=by simpa using hx
   rw [this,Bool.or_false]
  rw [e]
  have:=ih hv'
  omega
theorem raiseI_s (hN:4000000≤N) {p:Pin} (hp:Az p=true) {l:List Int} (hl:l.length≤8) (hin:∀ v∈l,Wo p v=true) {k:((List (Int×List Int))×(List Int))→Option ((List (Int×List Int))×Bool)} :
  ∀ (fuel i:Nat) (st:List (Int×List Int)×List Int),i≤l.length→st.1.length+Rb l st.2≤100→st.2.length+Rb l st.2≤100→(∀ j,j<i→upOk p st.2 (l.getD j 0)=false)→(Rb l st.2)*9+l.length<fuel+i →
  Ce N p l k fuel (st.1,st.2,(i:Int))=k (Br p l (Rb l st.2) st):=by
 intro fuel
 induction fuel with
 | zero=>intro i st h1 _ _ _ h2; omega
 | succ fuel ih=>
  intro i st h1 hb1 hb2 hno h2
  rw [Ce]
  by_cases hi:i<l.length
  ·have e2:((i:Int)).toNat=i:=by omega
   have hbd:=Bz hp
   have hm:l.getD i 0∈l:=Dc hi
   rw [Al (by omega),Af (by omega)]
   have hb := barsI_s (N := N) hN hp (dn := st.2) (v2 := l) (by omega) (i0 := (i : Int)) (k := fun (l174 : List Int) =>
      (Gg N p st.2 (⟨(l.getD ((i:Int)).toNat 0),l174⟩:Rse)).bind fun v175=>
      cnd v175 (
       grd (st.1.length+1≤4294967296) <|
       grd (st.2.length+1≤4294967296) <|
       grd (Bf ((-1:Int)+(1:Int))) <|
       Ce N p l k fuel ((st.1++([((l.getD ((i:Int)).toNat 0),l174)]:List (Int×List Int))),(st.2++([(l.getD ((i:Int)).toNat 0)]:List Int)),((-1:Int)+(1:Int)))) (
       grd (Bf ((i:Int)+(1:Int))) <|
       Ce N p l k fuel (st.1,st.2,((i:Int)+(1:Int))))) N 0 (by omega) (by omega)
   have e0:Mo p st.2 (l.getD ((i:Int)).toNat 0) 0=[]:=rfl
   rw [e0] at hb
   refine hb.trans ?_
   show (Gg N p st.2 (⟨(l.getD ((i:Int)).toNat 0),Gl p st.2 (l.getD ((i:Int)).toNat 0)⟩:Rse)).bind _=_
   have hlb:=Sg p st.2 (l.getD i 0) p.g.bars.length
   rw [e2,Sb N hN (by omega) (by omega) (by omega) (by show (Mo p st.2 (l.getD i 0) p.g.bars.length).length≤3000000; omega),Option.bind_some,Abd hp (hin _ hm)]
   cases hu:upOk p st.2 (l.getD i 0) with
   | true=>
    have hnc:st.2.contains (l.getD i 0)=false:=by
     unfold upOk at hu
     simp only [Bool.and_eq_true,Bool.not_eq_true'] at hu
     exact hu.1
    have hp1:=Aa8 (l:=l) hm hnc
    rw [cnd_true,Af (by omega),Af (by omega),At (by omega) (by omega)]
    have hpos:∃ c,Rb l st.2=c+1:=⟨Rb l st.2-1,by omega⟩
    obtain ⟨c,hc⟩:=hpos
    have hrec:=ih 0 (st.1++[(l.getD i 0,Gl p st.2 (l.getD i 0))],st.2++[l.getD i 0]) (by omega) (by simp only [List.length_append,List.length_cons,List.length_nil]; omega) (by simp only [List.length_append,List.length_cons,List.length_nil]; omega) (by intro j hj; omega) (by simp only [List.length_append,List.length_cons,List.length_nil]; omega)
    have ez:((-1:Int)+1)=((0:Nat):Int):=by omega
    rw [ez]
    refine hrec.trans ?_
    congr 1
    rw [hc,Br,find_at hi hu hno]
    have mono:∀ (a b:Nat) (s:List (Int×List Int)×List Int),Rb l s.2≤a→a≤b→Br p l a s=Br p l b s:=by
     intro a
     induction a with
     | zero=>
      intro b s h3 h4
      have:l.find? (upOk p s.2)=none:=by
       rw [List.find?_eq_none]
       intro x hx hxu
       have:0<Rb l s.2:=by
        unfold Rb
        rw [List.countP_pos_iff]
        refine ⟨x,hx,?_⟩
        unfold upOk at hxu
        simp only [Bool.and_eq_true] at hxu
        exact hxu.1
       omega
      rw [Mg this b]; rfl
     | succ a iha=>
      intro b s h3 h4
      obtain ⟨b',rfl⟩:∃ b',b=b'+1:=⟨b-1,by omega⟩
      rw [Br,Br]
      split
      ·rename_i v hv
       have hvm:=List.mem_of_find?_eq_some hv
       have hvu:=List.find?_some hv
       have hvc:s.2.contains v=false:=by
        unfold upOk at hvu
        simp only [Bool.and_eq_true,Bool.not_eq_true'] at hvu
        exact hvu.1
       have:=Aa8 (l:=l) hvm hvc
       exact iha b' _ (by show Rb l (s.2++[v])≤a; omega) (by omega)
      rfl
    exact mono _ _ _ (Nat.le_refl _) (by show Rb l (st.2++[l.getD i 0])≤c; omega)
   | false=>
    rw [cnd_false,At (by omega) (by omega),Am]
    exact ih (i+1) st (by omega) hb1 hb2 (fun j hj=>by
     by_cases hji:j=i
     ·subst hji; exact hu
     exact hno j (by omega)) (by omega)
  obtain rfl:i=l.length:=by omega
  rw [Ak (by omega),Mg (find_no hno)]
theorem raiseS2_s (hN:4000000≤N) {p:Pin} (hp:Az p=true) {l:List Int} (hl:l.length≤8) {st:List (Int×List Int)×List Int} (hb1:st.1.length≤100) (hb2:st.2.length≤100) {k:((List (Int×List Int))×(List Int))→Option ((List (Int×List Int))×Bool)} :
  ∀ (fuel i:Nat),i≤l.length→l.length<fuel+i→(∀ j,j<i→upOk p st.2 (l.getD j 0)=false)→Cp N p l st.1 st.2 k fuel (i:Int)=k (Br p l 1 st):=by
 intro fuel
 induction fuel with
 | zero=>intro i h1 h2; omega
 | succ fuel ih=>
  intro i h1 h2 hno
  rw [Cp]
  by_cases hi:i<l.length
  ·have e2:((i:Int)).toNat=i:=by omega
   rw [Al (by omega),Af (by omega),e2,barsS_s hN hp (by omega),Option.bind_some,Ln N hN (by omega),Option.bind_some]
   have step:upOk p st.2 (l.getD i 0)=false→grd (Bf ((i:Int)+(1:Int))) (Cp N p l st.1 st.2 k fuel ((i:Int)+(1:Int)))=k (Br p l 1 st):=fun hu=>by
    rw [At (by omega) (by omega),Am]
    exact ih (i+1) (by omega) (by omega) (fun j hj=>by
     by_cases hji:j=i
     ·subst hji; exact hu
     exact hno j (by omega))
   cases hc:st.2.contains (l.getD i 0) with
   | true=>
    rw [Bool.not_true,cnd_false]
    exact step (by unfold upOk; rw [hc]; rfl)
   | false=>
    rw [Bool.not_false,cnd_true]
    by_cases h2':2≤(Gl p st.2 (l.getD i 0)).length
    ·have hu:upOk p st.2 (l.getD i 0)=true:=by unfold upOk; rw [hc,decide_eq_true h2']; rfl
     rw [Al (by omega),Af (by omega),Af (by omega),Br,find_at hi hu hno]
     rfl
    rw [Ak (by omega)]
    exact step (by unfold upOk; rw [hc,decide_eq_false h2']; rfl)
  obtain rfl:i=l.length:=by omega
  rw [Ak (by omega),Mg (find_no hno)]
theorem Xj {p:Pin} {l:List Int} (b:Nat):∀ (a:Nat) (st:List (Int×List Int)×List Int),Br p l b (Br p l a st)=Br p l (a+b) st
 | 0,st=>by rw [Nat.zero_add]; rfl
 | a+1,st=>by
  rw [Br,show a+1+b=(a+b)+1 by omega,Br]
  cases h:l.find? (upOk p st.2) with
  | some v=>exact Xj b a _
  | none=>exact Mg h b
theorem raiseS_s (hN:4000000≤N) {p:Pin} (hp:Az p=true) {l:List Int} (hl:l.length≤8) {k:((List (Int×List Int))×(List Int))→Option ((List (Int×List Int))×Bool)} :
  ∀ (fuel i:Nat) (st:List (Int×List Int)×List Int),i≤l.length→l.length<fuel+i→st.1.length≤i→st.2.length≤i→By N p l k fuel (st.1,st.2,(i:Int))=k (Br p l (l.length-i) st):=by
 intro fuel
 induction fuel with
 | zero=>intro i st h1 h2; omega
 | succ fuel ih=>
  intro i st h1 h2 h3 h4
  rw [By]
  by_cases hi:i<l.length
  ·rw [Al (by omega)]
   have h5:=raiseS2_s (N:=N) hN hp hl (st:=st) (by omega) (by omega) (k:=fun (x:(List (Int×List Int))×(List Int))=>
     match x with
     | (l174,l175)=>
      grd (Bf ((i:Int)+(1:Int))) <|
      By N p l k fuel (l174,l175,((i:Int)+(1:Int)))) N 0 (by omega) (by omega) (by intro j hj; omega)
   refine h5.trans ?_
   have hlen:=Pf (p:=p) (l:=l) 1 st
   show grd _ (By N p l k fuel ((Br p l 1 st).1,(Br p l 1 st).2,((i:Int)+1)))=_
   rw [At (by omega) (by omega),Am]
   refine (ih (i+1) (Br p l 1 st) (by omega) (by omega) (by omega) (by omega)).trans ?_
   rw [Xj,show 1+(l.length-(i+1))=l.length-i by omega]
  obtain rfl:i=l.length:=by omega
  rw [Ak (by omega),Nat.sub_self]; rfl
theorem Wz {p:Pin} (hp:Az p=true):∀ v∈Aw p,Wo p v=true:=fun v hv=>by
 rw [←Rq hp]; simpa using hv
theorem Xq {p:Pin}:(Aw p).length≤8:=by
 unfold Aw
 cases hp:Az p with
 | false=>simp
 | true=>
  have hbd:=Bz hp
  rw [cnd_true,Jb]
  have:=Mn p.ground p.g.n.toNat
  omega
theorem findRaising_x (hN:4000000≤N) {p:Pin} (hb:p.g.bars.length≤3000000) (hg:p.ground.length≤3000000):∃ (l:List (Int×List Int)) (b:Bool),l.length≤8∧(∀ x∈l,x.2.length≤15)∧Eh N p=some (l,b)∧Ft N p=some (l,b):=by
 unfold Eh Ft
 rw [Sd N hN hb hg,Eu N hN hb hg,Option.bind_some,Option.bind_some]
 have hl:=Xq (p:=p)
 cases hp:Az p with
 | false=>
  refine ⟨[],false,by simp,by simp,?_,rfl⟩
  have h0:Aw p=[]:=by unfold Aw; rw [hp]; rfl
  rw [h0]
  obtain ⟨m,rfl⟩:∃ m,N=m+1:=⟨N-1,by omega⟩
  rw [By,Ak (by simp)]
  show (Cj _ p).bind _=_
  rw [Bw _ hN hb hg,hp]; rfl
 | true=>
  rw [Bool.not_true,cnd_false,Si N hN hb hg,Option.bind_some]
  have hc:Rb (Aw p) []=(Aw p).length:=by
   unfold Rb
   rw [List.countP_eq_length]
   intro v _; rfl
  have h1:=raiseS_s (N:=N) hN hp hl (k:=fun (x:(List (Int×List Int))×(List Int))=>
   match x with
   | (l91,l92)=>
    (Cj N p).bind fun v93=>
    cnd (!v93) (
     some (([]:List (Int×List Int)),false)) (
     cnd (decide ((l92.length:Int)<((Aw p).length:Int))) (
      some (([]:List (Int×List Int)),false)) (
      some (l91,true)))) N 0 ([],[]) (by omega) (by omega) (by simp) (by simp)
  have h2:=raiseI_s (N:=N) hN hp hl (Wz hp) (k:=fun (x:(List (Int×List Int))×(List Int))=>
    match x with
    | (l92,l93)=>
     cnd ((l93.length:Int) != ((Aw p).length:Int)) (
      some (([]:List (Int×List Int)),false)) (
      some (l92,true))) N 0 ([],[]) (by omega) (by simp only [List.length_nil]; omega) (by simp only [List.length_nil]; omega) (by intro j hj; omega) (by simp only [hc]; omega)
  have hlen:=Pf (p:=p) (l:=Aw p) (Aw p).length ([],[])
  simp only [List.length_nil,Nat.zero_add] at hlen
  have hbars:=Ql (p:=p) (l:=Aw p) (Aw p).length ([],[]) (by simp)
  have hbd:=Bz hp
  rw [Nat.sub_zero] at h1
  simp only [hc] at h2
  by_cases hq:(Br p (Aw p) (Aw p).length ([],[])).2.length=(Aw p).length
  ·refine ⟨(Br p (Aw p) (Aw p).length ([],[])).1,true,by omega,fun x hx=>by have:=hbars x hx; omega,h1.trans ?_,h2.trans ?_⟩
   ·show (Cj N p).bind _=_
    rw [Bw N hN hb hg,hp,Option.bind_some,Bool.not_true,cnd_false,Ak (by omega)]
   show cnd _ _ _=_
   rw [Hn (by omega)]
  refine ⟨[],false,by simp,by simp,h1.trans ?_,h2.trans ?_⟩
  ·show (Cj N p).bind _=_
   rw [Bw N hN hb hg,hp,Option.bind_some,Bool.not_true,cnd_false,Al (by omega)]
  show cnd _ _ _=_
  rw [Lq (by omega)]
end
section
variable (N:Nat)
end
section
open Go.ChangeShapes Go.WideShapes Go.ChangeAt Go.RowKit Go.Deep
section
variable {H:Type} {enc:TypeId×Value→H} {P:Program} {w:World} {spare:Nat→Bool} {held:Bool} {fuel:Nat} {cs:List Value} {x:DataW H×List MemPlace}
end
variable (N:Nat)
def Dr (a:List (Int×List Int)):Nat:=a.length+(a.map fun x=>x.2.length).sum
theorem Abg:∀ (l:List Nat) (x:Nat),x∈l→x≤l.sum
 | y::l,x,h=>by
  rcases List.mem_cons.1 h with rfl | h
  ·simp
  have:=Abg l x h; simp; omega
theorem Zw {a:List (Int×List Int)} {x:Int×List Int} (h:x∈a):x.2.length≤Dr a:=by
 have:=Abg (a.map fun x=>x.2.length) x.2.length (List.mem_map.2 ⟨x,h,rfl⟩)
 unfold Dr; omega
end
section
open Go.RowKit
def Ff (N:Nat) (f_0:Frm) (k:Unit→Option (Bool)):Nat→Int→Option (Bool)
 | 0,_=>none
 | n+1,i11=>
  cnd (decide (i11<(f_0.g.bars.length:Int))) (
   grd (0≤i11∧i11<(f_0.g.bars.length:Int)) <|
   grd (0≤((f_0.g.bars.getD ((i11).toNat) (0,0)).1)∧((f_0.g.bars.getD ((i11).toNat) (0,0)).1)<(f_0.places.length:Int)) <|
   grd (0≤((f_0.g.bars.getD ((i11).toNat) (0,0)).2)∧((f_0.g.bars.getD ((i11).toNat) (0,0)).2)<(f_0.places.length:Int)) <|
   cnd (((f_0.places.getD (((f_0.g.bars.getD ((i11).toNat) (0,0)).1).toNat) (0,0)).1==(f_0.places.getD (((f_0.g.bars.getD ((i11).toNat) (0,0)).2).toNat) (0,0)).1)&&((f_0.places.getD (((f_0.g.bars.getD ((i11).toNat) (0,0)).1).toNat) (0,0)).2==(f_0.places.getD (((f_0.g.bars.getD ((i11).toNat) (0,0)).2).toNat) (0,0)).2)) (
    some false) (
    cnd (decide (i11 > (0:Int))) (
     grd (Bf (i11-(1:Int))) <|
     grd (0≤(i11-(1:Int))∧(i11-(1:Int))<(f_0.g.bars.length:Int)) <|
     cnd (((f_0.g.bars.getD (((i11-(1:Int))).toNat) (0,0)).1==(f_0.g.bars.getD ((i11).toNat) (0,0)).1)&&((f_0.g.bars.getD (((i11-(1:Int))).toNat) (0,0)).2==(f_0.g.bars.getD ((i11).toNat) (0,0)).2)) (
      some false) (
      grd (Bf (i11+(1:Int))) <|
      Ff N f_0 k n (i11+(1:Int)))) (
     grd (Bf (i11+(1:Int))) <|
     Ff N f_0 k n (i11+(1:Int))))) (
   k ())
def Hb (N:Nat) (f_0:Frm) (k:Unit→Option (Bool)):Nat→Int→Option (Bool)
 | 0,_=>none
 | n+1,i15=>
  cnd (decide (i15<(f_0.places.length:Int))) (
   grd (0≤i15∧i15<(f_0.places.length:Int)) <|
   (We N ((f_0.places.getD ((i15).toNat) (0,0)).1) (0:Int) (4:Int)).bind fun v18=>
   cnd (!v18) (
    some false) (
    (We N ((f_0.places.getD ((i15).toNat) (0,0)).2) (0:Int) (4:Int)).bind fun v19=>
    cnd (!v19) (
     some false) (
     grd (Bf (i15+(1:Int))) <|
     Hb N f_0 k n (i15+(1:Int))))) (
   k ())
def Qs (N:Nat) (f_0:Frm):Option (Bool):=
 (Jm N f_0.g).bind fun v1=>
 cnd (!v1) (
  some false) (
  cnd (decide (f_0.g.n > (6:Int))) (
   some false) (
   cnd ((f_0.places.length:Int) != f_0.g.n) (
    some false) (
    cnd (decide ((f_0.g.bars.length:Int) > (15:Int))) (
     some false) (
     Hb N f_0 (fun (_ : Unit) =>
        Ff N f_0 (fun (_ : Unit) =>
           some true) N (0:Int)) N (0:Int)))))
theorem Zt (N:Nat) (f_0:Frm) (r:Bool) (h:Qs N f_0=some r):PCall Try.prog 189 [fD f_0] [] (.bool r):=by
 unfold Qs at h
 refine Ah (TT:=TT) tt Try.func189 rfl rfl Try.ntmps189 (congrArg Array.toList Try.results189) rfl rfl fun w0=>?_
 refine Ag ?_
 refine Aa ?_
 refine Km rfl rfl rfl rfl rfl rfl rfl rfl rfl ?_
 refine oV5 tt rfl Tvv ?_
 refine Ae ?_
 show VC ..
 iterate 2 refine Ag ?_
 refine Aa ?_
 iterate 2 refine oV5 tt rfl Tvv ?_
 obtain ⟨v1,hc1,h⟩:=Ac h
 refine Ba (Kp N f_0.g v1 hc1) rfl rfl rfl rfl rfl rfl rfl rfl ⟨⟨rfl,rfl,Tvv⟩,Tvv⟩ ?_
 iterate 2 refine oV5 tt rfl Tvv ?_
 refine Bc rfl rfl rfl (fun hb2=>?_) (fun hb2=>?_)
 ·replace h:=Ai hb2 h
  iterate 4 refine Hm rfl rfl rfl rfl hb2 rfl rfl ?_
  refine Be rfl rfl rfl rfl rfl hb2 rfl ?_
  refine oV5 tt rfl Tvv ?_
  iterate 7 refine Hm rfl rfl rfl rfl rfl rfl rfl ?_
  refine Be rfl rfl rfl rfl rfl rfl rfl ?_
  refine oV5 tt rfl Tvv ?_
  iterate 5 refine Hm rfl rfl rfl rfl rfl rfl rfl ?_
  refine Be rfl rfl rfl rfl rfl rfl rfl ?_
  refine Ae ?_
  show VC ..
  refine Bs rfl rfl ?_
  refine Ag ?_
  refine Aa ?_
  refine oV5 tt rfl Tvv ?_
  refine Ae ?_
  show VC ..
  refine Bb ?_
  show ∃ _,_
  cases h
  exact ⟨[],_,rfl,Tvv,rfl,(.eq rfl),rfl⟩
 replace h:=Aj hb2 h
 iterate 4 refine Bd tt rfl rfl rfl rfl rfl hb2 rfl rfl rfl Tvv ?_
 refine Av rfl rfl rfl rfl rfl hb2 rfl ?_
 refine oV5 tt rfl Tvv ?_
 refine Bc rfl rfl rfl (fun hb3=>?_) (fun hb3=>?_)
 ·replace h:=Ai hb3 h
  iterate 7 refine Hm rfl rfl rfl rfl hb3 rfl rfl ?_
  refine Be rfl rfl rfl rfl rfl hb3 rfl ?_
  refine oV5 tt rfl Tvv ?_
  iterate 5 refine Hm rfl rfl rfl rfl rfl rfl rfl ?_
  refine Be rfl rfl rfl rfl rfl rfl rfl ?_
  refine Ae ?_
  show VC ..
  refine Bs rfl rfl ?_
  refine Ag ?_
  refine Aa ?_
  refine oV5 tt rfl Tvv ?_
  refine Ae ?_
  show VC ..
  refine Bb ?_
  show ∃ _,_
  cases h
  exact ⟨[],_,rfl,Tvv,rfl,(.eq rfl),rfl⟩
 replace h:=Aj hb3 h
 iterate 7 refine Bd tt rfl rfl rfl rfl rfl hb3 rfl rfl rfl Tvv ?_
 refine Av rfl rfl rfl rfl rfl hb3 rfl ?_
 refine oV5 tt rfl Tvv ?_
 refine Bc rfl rfl rfl (fun hb4=>?_) (fun hb4=>?_)
 ·replace h:=Ai hb4 h
  iterate 5 refine Hm rfl rfl rfl rfl hb4 rfl rfl ?_
  refine Be rfl rfl rfl rfl rfl hb4 rfl ?_
  refine Ae ?_
  show VC ..
  refine Bs rfl rfl ?_
  refine Ag ?_
  refine Aa ?_
  refine oV5 tt rfl Tvv ?_
  refine Ae ?_
  show VC ..
  refine Bb ?_
  show ∃ _,_
  cases h
  exact ⟨[],_,rfl,Tvv,rfl,(.eq rfl),rfl⟩
 replace h:=Aj hb4 h
 iterate 5 refine Bd tt rfl rfl rfl rfl rfl hb4 rfl rfl rfl Tvv ?_
 refine Av rfl rfl rfl rfl rfl hb4 rfl ?_
 refine Ae ?_
 show VC ..
 refine Au rfl (fun hb5=>?_) (fun hb5=>?_)
 ·replace h:=Ai hb5 h
  refine Ag ?_
  refine Aa ?_
  refine oV5 tt rfl Tvv ?_
  refine Ae ?_
  show VC ..
  refine Bb ?_
  show ∃ _,_
  cases h
  exact ⟨[],_,rfl,Tvv,rfl,(.eq rfl),rfl⟩
 replace h:=Aj hb5 h
 refine Ar ?_
 show VC ..
 iterate 2 refine Ag ?_
 refine Aa ?_
 refine oV5 tt rfl Tvv ?_
 refine Ae ?_
 show VC ..
 refine Ck (F:=fun k=>Hb N f_0 k) h (α:=Unit) (J:=fun (_:Unit)=>(⟨[(1,.ptr 1 0)],[],[(1,some [.int f_0.g.n,.ro false (.pairs f_0.g.bars),.ro false (.pairs f_0.places)])]⟩:PS)) ?_ ?_
 ·rintro ⟨⟩ h
  show VC _ _ _ (⟨[(1,.ptr 1 0)],[],[(1,some [.int f_0.g.n,.ro false (.pairs f_0.g.bars),.ro false (.pairs f_0.places)])]⟩:PS)
  iterate 2 refine Ag ?_
  refine Aa ?_
  refine oV5 tt rfl Tvv ?_
  refine Ae ?_
  show VC ..
  refine Ck (F:=fun k=>Ff N f_0 k) h (α:=Unit) (J:=fun (_:Unit)=>(⟨[],[],[]⟩:PS)) ?_ ?_
  ·rintro ⟨⟩ h
   show VC _ _ _ (⟨[],[],[]⟩:PS)
   refine Ag ?_
   refine Aa ?_
   refine oV5 tt rfl Tvv ?_
   refine Ae ?_
   show VC ..
   refine Bb ?_
   show ∃ _,_
   cases h
   exact ⟨[],_,rfl,Tvv,rfl,(.eq rfl),rfl⟩
  intro k h
  refine Aq ?_
  refine Bh (α:=Int) (fun (i11:Int)=>(⟨[(1,.ptr 1 0),(4,.int i11)],[],[(1,some [.int f_0.g.n,.ro false (.pairs f_0.g.bars),.ro false (.pairs f_0.places)])]⟩:PS)) (Ff N f_0 k) h (En.of ⟨rfl,rfl,Tvv⟩ trivial ⟨rfl,Tvv⟩) (fun _=>rfl) ?_
  rintro n i11 h
  rw [Ff] at h
  show VC _ _ _ (⟨[(1,.ptr 1 0),(4,.int i11)],[],[(1,some [.int f_0.g.n,.ro false (.pairs f_0.g.bars),.ro false (.pairs f_0.places)])]⟩:PS)
  iterate 2 refine Ag ?_
  refine Aa ?_
  iterate 6 refine oV5 tt rfl Tvv ?_
  refine Ae ?_
  show VC ..
  refine Au rfl (fun hb6=>?_) (fun hb6=>?_)
  ·replace h:=Ai hb6 h
   refine Ar ?_
   show VC ..
   refine Ag ?_
   refine Aq ?_
   refine Ag ?_
   refine Aa ?_
   iterate 4 refine oV5 tt rfl Tvv ?_
   obtain ⟨hg7,h⟩:=Ab h
   refine oV5 tt rfl hg7 ?_
   refine oV5 tt rfl Tvv ?_
   refine Bj tt rfl rfl rfl rfl rfl rfl rfl rfl rfl ?_
   refine Ao tt rfl rfl rfl rfl rfl rfl rfl rfl rfl rfl rfl ⟨Tvv,Tvv,Tvv⟩ ?_
   refine Ae ?_
   show VC ..
   refine Ag ?_
   refine Cg (by kernel_rfl) (by kernel_rfl) ?_
   iterate 4 refine Bi tt rfl (Ad rfl) rfl rfl rfl Tvv ?_
   obtain ⟨hg8,h⟩:=Ab h
   refine Bi tt rfl (Ad rfl) rfl rfl rfl hg8 ?_
   iterate 5 refine Bi tt rfl (Ad rfl) rfl rfl rfl Tvv ?_
   obtain ⟨hg9,h⟩:=Ab h
   refine Bi tt rfl (Ad rfl) rfl rfl rfl hg9 ?_
   refine Bi tt rfl (Ad rfl) rfl rfl rfl Tvv ?_
   refine Xu (Ad rfl) (pEqP Aan rfl rfl rfl) rfl rfl ?_
   refine Bi tt rfl (Ad rfl) rfl rfl rfl Tvv ?_
   refine Gd rfl rfl rfl (fun hb10=>?_) (fun hb10=>?_)
   ·replace h:=Ai hb10 h
    iterate 3 refine Pe rfl rfl rfl rfl hb10 rfl rfl ?_
    iterate 9 refine cNoU rfl rfl rfl rfl rfl ?_
    refine Pe rfl rfl rfl rfl hb10 rfl rfl ?_
    refine Cs rfl (Ad rfl) rfl rfl rfl hb10 rfl ?_
    refine La ?_
    show VC ..
    refine Bs rfl rfl ?_
    refine Ag ?_
    refine Aa ?_
    refine oV5 tt rfl Tvv ?_
    refine Ae ?_
    show VC ..
    refine Bb ?_
    show ∃ _,_
    cases h
    exact ⟨[],_,rfl,Tvv,rfl,(.eq rfl),rfl⟩
   replace h:=Aj hb10 h
   iterate 3 refine Bi tt rfl (Ax rfl rfl rfl rfl hb10) rfl rfl rfl Tvv ?_
   refine Gd rfl rfl rfl (fun hb11=>?_) (fun hb11=>?_)
   ·replace h:=Ai hb11 h
    iterate 4 refine Bi tt rfl (Ax rfl rfl rfl rfl hb11) rfl rfl rfl Tvv ?_
    obtain ⟨hg12,h⟩:=Ab h
    refine Bi tt rfl (Ax rfl rfl rfl rfl hb11) rfl rfl rfl hg12 ?_
    obtain ⟨hg13,h⟩:=Ab h
    refine Bi tt rfl (Ax rfl rfl rfl rfl hb11) rfl rfl rfl hg13 ?_
    iterate 2 refine Bi tt rfl (Ax rfl rfl rfl rfl hb11) rfl rfl rfl Tvv ?_
    refine Xu (Ax rfl rfl rfl rfl hb11) (pEqP Rw rfl rfl rfl) rfl rfl ?_
    refine Cs rfl (Ax rfl rfl rfl rfl hb10) rfl rfl rfl hb11 rfl ?_
    refine Do rfl (Ad rfl) rfl rfl rfl hb10 rfl ?_
    refine La ?_
    show VC ..
    refine Au rfl (fun hb14=>?_) (fun hb14=>?_)
    ·replace h:=Ai hb14 h
     refine Ag ?_
     refine Aa ?_
     refine oV5 tt rfl Tvv ?_
     refine Ae ?_
     show VC ..
     refine Bb ?_
     show ∃ _,_
     cases h
     exact ⟨[],_,rfl,Tvv,rfl,(.eq rfl),rfl⟩
    replace h:=Aj hb14 h
    refine Ar ?_
    show VC ..
    refine Aa ?_
    refine oV5 tt rfl Tvv ?_
    obtain ⟨hg15,h⟩:=Ab h
    refine oV5 tt rfl hg15 ?_
    refine oV5 tt rfl Tvv ?_
    refine Ae ?_
    show ∃ _,_
    exact ⟨(i11+(1:Int)),(En.of ⟨rfl,rfl,Tvv⟩ trivial ⟨rfl,Tvv⟩),h⟩
   replace h:=Aj hb11 h
   iterate 9 refine cNoT rfl rfl rfl rfl hb11 rfl rfl ?_
   refine Do rfl (Ax rfl rfl rfl rfl hb10) rfl rfl rfl hb11 rfl ?_
   refine Do rfl (Ad rfl) rfl rfl rfl hb10 rfl ?_
   refine La ?_
   show VC ..
   refine Cz rfl rfl ?_
   refine Ar ?_
   show VC ..
   refine Aa ?_
   refine oV5 tt rfl Tvv ?_
   obtain ⟨hg16,h⟩:=Ab h
   refine oV5 tt rfl hg16 ?_
   refine oV5 tt rfl Tvv ?_
   refine Ae ?_
   show ∃ _,_
   exact ⟨(i11+(1:Int)),(En.of ⟨rfl,rfl,Tvv⟩ trivial ⟨rfl,Tvv⟩),h⟩
  replace h:=Aj hb6 h
  refine Bq ?_
  show ∃ _,_
  exact ⟨(),(En.of trivial trivial trivial),h⟩
 intro k h
 refine Aq ?_
 refine Bh (α:=Int) (fun (i15:Int)=>(⟨[(1,.ptr 1 0),(3,.int i15)],[],[(1,some [.int f_0.g.n,.ro false (.pairs f_0.g.bars),.ro false (.pairs f_0.places)])]⟩:PS)) (Hb N f_0 k) h (En.of ⟨rfl,rfl,Tvv⟩ trivial ⟨rfl,Tvv⟩) (fun _=>rfl) ?_
 rintro n i15 h
 rw [Hb] at h
 show VC _ _ _ (⟨[(1,.ptr 1 0),(3,.int i15)],[],[(1,some [.int f_0.g.n,.ro false (.pairs f_0.g.bars),.ro false (.pairs f_0.places)])]⟩:PS)
 iterate 2 refine Ag ?_
 refine Aa ?_
 iterate 5 refine oV5 tt rfl Tvv ?_
 refine Ae ?_
 show VC ..
 refine Au rfl (fun hb17=>?_) (fun hb17=>?_)
 ·replace h:=Ai hb17 h
  refine Ar ?_
  show VC ..
  refine Ag ?_
  refine Aq ?_
  refine Ag ?_
  refine Aa ?_
  iterate 3 refine oV5 tt rfl Tvv ?_
  obtain ⟨hg18,h⟩:=Ab h
  refine oV5 tt rfl hg18 ?_
  iterate 2 refine oV5 tt rfl Tvv ?_
  obtain ⟨v18,hc19,h⟩:=Ac h
  refine Ba (Tz N ((f_0.places.getD ((i15).toNat) (0,0)).1) (0:Int) (4:Int) v18 hc19) rfl rfl rfl rfl rfl rfl rfl rfl ⟨rfl,rfl,rfl,Tvv⟩ ?_
  iterate 2 refine oV5 tt rfl Tvv ?_
  refine Bc rfl rfl rfl (fun hb20=>?_) (fun hb20=>?_)
  ·replace h:=Ai hb20 h
   iterate 8 refine Hm rfl rfl rfl rfl hb20 rfl rfl ?_
   refine Be rfl rfl rfl rfl rfl hb20 rfl ?_
   refine Ae ?_
   show VC ..
   refine Bs rfl rfl ?_
   refine Ag ?_
   refine Aa ?_
   refine oV5 tt rfl Tvv ?_
   refine Ae ?_
   show VC ..
   refine Bb ?_
   show ∃ _,_
   cases h
   exact ⟨[],_,rfl,Tvv,rfl,(.eq rfl),rfl⟩
  replace h:=Aj hb20 h
  iterate 3 refine Bd tt rfl rfl rfl rfl rfl hb20 rfl rfl rfl Tvv ?_
  refine Bd tt rfl rfl rfl rfl rfl hb20 rfl rfl rfl hg18 ?_
  iterate 2 refine Bd tt rfl rfl rfl rfl rfl hb20 rfl rfl rfl Tvv ?_
  obtain ⟨v19,hc21,h⟩:=Ac h
  refine Fj (Tz N ((f_0.places.getD ((i15).toNat) (0,0)).2) (0:Int) (4:Int) v19 hc21) rfl rfl rfl rfl hb20 rfl rfl rfl rfl rfl rfl rfl ⟨rfl,rfl,rfl,Tvv⟩ ?_
  refine Bd tt rfl rfl rfl rfl rfl hb20 rfl rfl rfl Tvv ?_
  refine Av rfl rfl rfl rfl rfl hb20 rfl ?_
  refine Ae ?_
  show VC ..
  refine Au rfl (fun hb22=>?_) (fun hb22=>?_)
  ·replace h:=Ai hb22 h
   refine Ag ?_
   refine Aa ?_
   refine oV5 tt rfl Tvv ?_
   refine Ae ?_
   show VC ..
   refine Bb ?_
   show ∃ _,_
   cases h
   exact ⟨[],_,rfl,Tvv,rfl,(.eq rfl),rfl⟩
  replace h:=Aj hb22 h
  refine Ar ?_
  show VC ..
  refine Aa ?_
  refine oV5 tt rfl Tvv ?_
  obtain ⟨hg23,h⟩:=Ab h
  refine oV5 tt rfl hg23 ?_
  refine oV5 tt rfl Tvv ?_
  refine Ae ?_
  show ∃ _,_
  exact ⟨(i15+(1:Int)),(En.of ⟨rfl,rfl,Tvv⟩ trivial ⟨rfl,Tvv⟩),h⟩
 replace h:=Aj hb17 h
 refine Bq ?_
 show ∃ _,_
 exact ⟨(),(En.of ⟨rfl,Tvv⟩ trivial ⟨rfl,Tvv⟩),h⟩
def Hi (N:Nat) (l_0:Lnk) (k:Unit→Option (Bool)):Nat→Int→Option (Bool)
 | 0,_=>none
 | n+1,i5=>
  cnd (decide (i5<(l_0.ground.length:Int))) (
   grd (0≤i5∧i5<(l_0.ground.length:Int)) <|
   cnd (decide ((l_0.ground.getD ((i5).toNat) 0)<(0:Int))) (
    some false) (
    cnd (decide ((l_0.ground.getD ((i5).toNat) 0)≥(l_0.f.places.length:Int))) (
     some false) (
     cnd (decide (i5 > (0:Int))) (
      grd (Bf (i5-(1:Int))) <|
      grd (0≤(i5-(1:Int))∧(i5-(1:Int))<(l_0.ground.length:Int)) <|
      cnd (decide ((l_0.ground.getD (((i5-(1:Int))).toNat) 0)≥(l_0.ground.getD ((i5).toNat) 0))) (
       some false) (
       grd (Bf (i5+(1:Int))) <|
       Hi N l_0 k n (i5+(1:Int)))) (
      grd (Bf (i5+(1:Int))) <|
      Hi N l_0 k n (i5+(1:Int)))))) (
   k ())
def Td (N:Nat) (l_0:Lnk):Option (Bool):=
 grd (Bf ((l_0.f.places.length:Int)-(l_0.ground.length:Int))) <|
 Hi N l_0 (fun (_ : Unit) =>
    (Qs N l_0.f).bind fun v2=>
    cnd v2 (
     (We N ((l_0.f.places.length:Int)-(l_0.ground.length:Int)) (0:Int) (2:Int)).bind fun v3=>
     cnd v3 (
      some (decide ((l_0.ground.length:Int) > (0:Int)))) (
      some false)) (
     some false)) N (0:Int)
theorem S_IsLinkage_w (N:Nat) (l_0:Lnk) (r:Bool) (h:Td N l_0=some r):PCall Try.prog 155 [lD l_0] [] (.bool r):=by
 unfold Td at h
 refine Ah (TT:=TT) tt Try.func155 rfl rfl Try.ntmps155 (congrArg Array.toList Try.results155) rfl rfl fun w0=>?_
 refine Ag ?_
 refine Aa ?_
 refine Km rfl rfl rfl rfl rfl rfl rfl rfl rfl ?_
 refine oV5 tt rfl Tvv ?_
 refine Ae ?_
 show VC ..
 refine Ag ?_
 refine Aa ?_
 iterate 7 refine oV5 tt rfl Tvv ?_
 obtain ⟨hg1,h⟩:=Ab h
 refine oV5 tt rfl hg1 ?_
 refine oV5 tt rfl Tvv ?_
 refine Ae ?_
 show VC ..
 iterate 2 refine Ag ?_
 refine Aa ?_
 refine oV5 tt rfl Tvv ?_
 refine Ae ?_
 show VC ..
 refine Ck (F:=fun k=>Hi N l_0 k) h (α:=Unit) (J:=fun (_:Unit)=>(⟨[(1,.ptr 1 0),(3,.int ((l_0.f.places.length:Int)-(l_0.ground.length:Int)))],[],[(1,some [.int l_0.f.g.n,.ro false (.pairs l_0.f.g.bars),.ro false (.pairs l_0.f.places),.ro false (.ints l_0.ground)])]⟩:PS)) ?_ ?_
 ·rintro ⟨⟩ h
  show VC _ _ _ (⟨[(1,.ptr 1 0),(3,.int ((l_0.f.places.length:Int)-(l_0.ground.length:Int)))],[],[(1,some [.int l_0.f.g.n,.ro false (.pairs l_0.f.g.bars),.ro false (.pairs l_0.f.places),.ro false (.ints l_0.ground)])]⟩:PS)
  refine Ag ?_
  refine Aa ?_
  iterate 2 refine oV5 tt rfl Tvv ?_
  obtain ⟨v2,hc2,h⟩:=Ac h
  refine Ba (Zt N l_0.f v2 hc2) rfl rfl rfl rfl rfl rfl rfl rfl ⟨⟨rfl,rfl,rfl,Tvv⟩,Tvv⟩ ?_
  refine oV5 tt rfl Tvv ?_
  refine Bc rfl rfl rfl (fun hb3=>?_) (fun hb3=>?_)
  ·replace h:=Ai hb3 h
   refine Bd tt rfl rfl rfl rfl rfl hb3 rfl rfl rfl Tvv ?_
   obtain ⟨v3,hc4,h⟩:=Ac h
   refine Fj (Tz N ((l_0.f.places.length:Int)-(l_0.ground.length:Int)) (0:Int) (2:Int) v3 hc4) rfl rfl rfl rfl hb3 rfl rfl rfl rfl rfl rfl rfl ⟨rfl,rfl,rfl,Tvv⟩ ?_
   refine Be rfl rfl rfl rfl rfl hb3 rfl ?_
   refine oV5 tt rfl Tvv ?_
   refine Bc rfl rfl rfl (fun hb5=>?_) (fun hb5=>?_)
   ·replace h:=Ai hb5 h
    iterate 4 refine Bd tt rfl rfl rfl rfl rfl hb5 rfl rfl rfl Tvv ?_
    refine Be rfl rfl rfl rfl rfl hb5 rfl ?_
    refine oV5 tt rfl Tvv ?_
    refine Ae ?_
    show VC ..
    refine Bb ?_
    show ∃ _,_
    cases h
    exact ⟨[],_,rfl,Tvv,rfl,(.eq rfl),rfl⟩
   replace h:=Aj hb5 h
   iterate 4 refine Jn rfl rfl rfl rfl hb5 rfl rfl ?_
   refine Av rfl rfl rfl rfl rfl hb5 rfl ?_
   refine oV5 tt rfl Tvv ?_
   refine Ae ?_
   show VC ..
   refine Bb ?_
   show ∃ _,_
   cases h
   exact ⟨[],_,rfl,Tvv,rfl,(.eq rfl),rfl⟩
  replace h:=Aj hb3 h
  iterate 2 refine Jn rfl rfl rfl rfl hb3 rfl rfl ?_
  refine Av rfl rfl rfl rfl rfl hb3 rfl ?_
  refine oV5 tt rfl Tvv ?_
  iterate 4 refine Jn rfl rfl rfl rfl rfl rfl rfl ?_
  refine Av rfl rfl rfl rfl rfl rfl rfl ?_
  refine oV5 tt rfl Tvv ?_
  refine Ae ?_
  show VC ..
  refine Bb ?_
  show ∃ _,_
  cases h
  exact ⟨[],_,rfl,Tvv,rfl,(.eq rfl),rfl⟩
 intro k h
 refine Aq ?_
 refine Bh (α:=Int) (fun (i5:Int)=>(⟨[(1,.ptr 1 0),(3,.int ((l_0.f.places.length:Int)-(l_0.ground.length:Int))),(4,.int i5)],[],[(1,some [.int l_0.f.g.n,.ro false (.pairs l_0.f.g.bars),.ro false (.pairs l_0.f.places),.ro false (.ints l_0.ground)])]⟩:PS)) (Hi N l_0 k) h (En.of ⟨rfl,rfl,rfl,Tvv⟩ trivial ⟨rfl,Tvv⟩) (fun _=>rfl) ?_
 rintro n i5 h
 rw [Hi] at h
 show VC _ _ _ (⟨[(1,.ptr 1 0),(3,.int ((l_0.f.places.length:Int)-(l_0.ground.length:Int))),(4,.int i5)],[],[(1,some [.int l_0.f.g.n,.ro false (.pairs l_0.f.g.bars),.ro false (.pairs l_0.f.places),.ro false (.ints l_0.ground)])]⟩:PS)
 iterate 2 refine Ag ?_
 refine Aa ?_
 iterate 5 refine oV5 tt rfl Tvv ?_
 refine Ae ?_
 show VC ..
 refine Au rfl (fun hb6=>?_) (fun hb6=>?_)
 ·replace h:=Ai hb6 h
  refine Ar ?_
  show VC ..
  refine Ag ?_
  refine Aq ?_
  refine Ag ?_
  refine Cg (by kernel_rfl) (by kernel_rfl) ?_
  iterate 3 refine Bi tt rfl (Ad rfl) rfl rfl rfl Tvv ?_
  obtain ⟨hg7,h⟩:=Ab h
  refine Bi tt rfl (Ad rfl) rfl rfl rfl hg7 ?_
  iterate 3 refine Bi tt rfl (Ad rfl) rfl rfl rfl Tvv ?_
  refine Gd rfl rfl rfl (fun hb8=>?_) (fun hb8=>?_)
  ·replace h:=Ai hb8 h
   iterate 10 refine Pe rfl rfl rfl rfl hb8 rfl rfl ?_
   refine Cs rfl (Ad rfl) rfl rfl rfl hb8 rfl ?_
   refine Bi tt rfl (Ad rfl) rfl rfl rfl Tvv ?_
   iterate 3 refine Pe rfl rfl rfl rfl rfl rfl rfl ?_
   iterate 12 refine cNoU rfl rfl rfl rfl rfl ?_
   refine Pe rfl rfl rfl rfl rfl rfl rfl ?_
   refine Cs rfl (Ad rfl) rfl rfl rfl rfl rfl ?_
   refine La ?_
   show VC ..
   refine Bs rfl rfl ?_
   refine Ag ?_
   refine Aa ?_
   refine oV5 tt rfl Tvv ?_
   refine Ae ?_
   show VC ..
   refine Bb ?_
   show ∃ _,_
   cases h
   exact ⟨[],_,rfl,Tvv,rfl,(.eq rfl),rfl⟩
  replace h:=Aj hb8 h
  iterate 3 refine Bi tt rfl (Ax rfl rfl rfl rfl hb8) rfl rfl rfl Tvv ?_
  refine Bi tt rfl (Ax rfl rfl rfl rfl hb8) rfl rfl rfl hg7 ?_
  iterate 6 refine Bi tt rfl (Ax rfl rfl rfl rfl hb8) rfl rfl rfl Tvv ?_
  refine Do rfl (Ad rfl) rfl rfl rfl hb8 rfl ?_
  refine Bi tt rfl (Ad rfl) rfl rfl rfl Tvv ?_
  refine Gd rfl rfl rfl (fun hb9=>?_) (fun hb9=>?_)
  ·replace h:=Ai hb9 h
   iterate 3 refine Pe rfl rfl rfl rfl hb9 rfl rfl ?_
   iterate 12 refine cNoU rfl rfl rfl rfl rfl ?_
   refine Pe rfl rfl rfl rfl hb9 rfl rfl ?_
   refine Cs rfl (Ad rfl) rfl rfl rfl hb9 rfl ?_
   refine La ?_
   show VC ..
   refine Bs rfl rfl ?_
   refine Ag ?_
   refine Aa ?_
   refine oV5 tt rfl Tvv ?_
   refine Ae ?_
   show VC ..
   refine Bb ?_
   show ∃ _,_
   cases h
   exact ⟨[],_,rfl,Tvv,rfl,(.eq rfl),rfl⟩
  replace h:=Aj hb9 h
  iterate 3 refine Bi tt rfl (Ax rfl rfl rfl rfl hb9) rfl rfl rfl Tvv ?_
  refine Gd rfl rfl rfl (fun hb10=>?_) (fun hb10=>?_)
  ·replace h:=Ai hb10 h
   iterate 3 refine Bi tt rfl (Ax rfl rfl rfl rfl hb10) rfl rfl rfl Tvv ?_
   obtain ⟨hg11,h⟩:=Ab h
   refine Bi tt rfl (Ax rfl rfl rfl rfl hb10) rfl rfl rfl hg11 ?_
   obtain ⟨hg12,h⟩:=Ab h
   refine Bi tt rfl (Ax rfl rfl rfl rfl hb10) rfl rfl rfl hg12 ?_
   iterate 4 refine Bi tt rfl (Ax rfl rfl rfl rfl hb10) rfl rfl rfl Tvv ?_
   refine Bi tt rfl (Ax rfl rfl rfl rfl hb10) rfl rfl rfl hg7 ?_
   iterate 2 refine Bi tt rfl (Ax rfl rfl rfl rfl hb10) rfl rfl rfl Tvv ?_
   refine Cs rfl (Ax rfl rfl rfl rfl hb9) rfl rfl rfl hb10 rfl ?_
   refine Do rfl (Ad rfl) rfl rfl rfl hb9 rfl ?_
   refine La ?_
   show VC ..
   refine Au rfl (fun hb13=>?_) (fun hb13=>?_)
   ·replace h:=Ai hb13 h
    refine Ag ?_
    refine Aa ?_
    refine oV5 tt rfl Tvv ?_
    refine Ae ?_
    show VC ..
    refine Bb ?_
    show ∃ _,_
    cases h
    exact ⟨[],_,rfl,Tvv,rfl,(.eq rfl),rfl⟩
   replace h:=Aj hb13 h
   refine Ar ?_
   show VC ..
   refine Aa ?_
   refine oV5 tt rfl Tvv ?_
   obtain ⟨hg14,h⟩:=Ab h
   refine oV5 tt rfl hg14 ?_
   refine oV5 tt rfl Tvv ?_
   refine Ae ?_
   show ∃ _,_
   exact ⟨(i5+(1:Int)),(En.of ⟨rfl,rfl,rfl,Tvv⟩ trivial ⟨rfl,Tvv⟩),h⟩
  replace h:=Aj hb10 h
  iterate 12 refine cNoT rfl rfl rfl rfl hb10 rfl rfl ?_
  refine Do rfl (Ax rfl rfl rfl rfl hb9) rfl rfl rfl hb10 rfl ?_
  refine Do rfl (Ad rfl) rfl rfl rfl hb9 rfl ?_
  refine La ?_
  show VC ..
  refine Cz rfl rfl ?_
  refine Ar ?_
  show VC ..
  refine Aa ?_
  refine oV5 tt rfl Tvv ?_
  obtain ⟨hg15,h⟩:=Ab h
  refine oV5 tt rfl hg15 ?_
  refine oV5 tt rfl Tvv ?_
  refine Ae ?_
  show ∃ _,_
  exact ⟨(i5+(1:Int)),(En.of ⟨rfl,rfl,rfl,Tvv⟩ trivial ⟨rfl,Tvv⟩),h⟩
 replace h:=Aj hb6 h
 refine Bq ?_
 show ∃ _,_
 exact ⟨(),(En.of ⟨rfl,rfl,Tvv⟩ trivial ⟨rfl,Tvv⟩),h⟩
end
section
open Go.RowKit
end
section
open Go.RowKit
def Gj (N:Nat) (l_0:Lnk) (k:(List Int)→Option (List Int)):Nat→((List Int)×Int)→Option (List Int)
 | 0,_=>none
 | n+1,(l17,i18)=>
  cnd (decide (i18<(l_0.f.places.length:Int))) (
   (Td N l_0).bind fun v21=>
   cnd v21 (
    (Cw N l_0.ground i18).bind fun v22=>
    cnd (!v22) (
     grd (l17.length+1≤4294967296) <|
     grd (Bf (i18+(1:Int))) <|
     Gj N l_0 k n ((l17++([i18]:List Int)),(i18+(1:Int)))) (
     grd (Bf (i18+(1:Int))) <|
     Gj N l_0 k n (l17,(i18+(1:Int))))) (
    k l17)) (
   k l17)
def Xi (N:Nat) (l_0:Lnk):Option (List Int):=
 Gj N l_0 (fun (l11 : List Int) =>
    some l11) N (([]:List Int),(0:Int))
theorem S_FreeJoints_w (N:Nat) (l_0:Lnk) (r:List Int) (h:Xi N l_0=some r):PCall Try.prog 86 [lD l_0] [(3,.ints r)] (.row 0 0 r.length):=by
 unfold Xi at h
 refine Ah (TT:=TT) tt Try.func86 rfl rfl Try.ntmps86 (congrArg Array.toList Try.results86) rfl rfl fun w0=>?_
 refine Ag ?_
 refine Aa ?_
 refine Km rfl rfl rfl rfl rfl rfl rfl rfl rfl ?_
 refine oV5 tt rfl Tvv ?_
 refine Ae ?_
 show VC ..
 refine Ag ?_
 refine Aa ?_
 refine Fa tt (Ad rfl) rfl rfl rfl rfl ?_
 refine oV5 tt rfl Tvv ?_
 refine Ae ?_
 show VC ..
 iterate 2 refine Ag ?_
 refine Aa ?_
 refine oV5 tt rfl Tvv ?_
 refine Ae ?_
 show VC ..
 refine Ck (F:=fun k=>Gj N l_0 k) h (α:=List Int) (J:=fun (l11:List Int)=>(⟨[(3,.row 26 0 l11.length)],[(26,some (3,.ints l11))],[]⟩:PS)) ?_ ?_
 ·rintro l11 h
  show VC _ _ _ (⟨[(3,.row 26 0 l11.length)],[(26,some (3,.ints l11))],[]⟩:PS)
  refine Ag ?_
  refine Aa ?_
  iterate 2 refine oV5 tt rfl Tvv ?_
  refine Ae ?_
  show VC ..
  refine Bb ?_
  show ∃ _,_
  cases h
  exact ⟨[26],_,rfl,⟨rfl,Tvv⟩,rfl,(.eq rfl),rfl⟩
 intro k h
 refine Aq ?_
 refine Md 3 26 3 (.ints []) rfl rfl rfl rfl ?_
 refine Bh (α:=(List Int)×Int) (fun | (l17,i18)=>(⟨[(1,.ptr 1 0),(3,.row 26 0 l17.length),(4,.int i18)],[(26,some (3,.ints l17))],[(1,some [.int l_0.f.g.n,.ro false (.pairs l_0.f.g.bars),.ro false (.pairs l_0.f.places),.ro false (.ints l_0.ground)])]⟩:PS)) (Gj N l_0 k) h (En.of ⟨rfl,rfl,rfl,Tvv⟩ ⟨rfl,Tvv⟩ ⟨rfl,Tvv⟩) (fun _=>rfl) ?_
 rintro n ⟨l17,i18⟩ h
 rw [Gj] at h
 show VC _ _ _ (⟨[(1,.ptr 1 0),(3,.row 26 0 l17.length),(4,.int i18)],[(26,some (3,.ints l17))],[(1,some [.int l_0.f.g.n,.ro false (.pairs l_0.f.g.bars),.ro false (.pairs l_0.f.places),.ro false (.ints l_0.ground)])]⟩:PS)
 iterate 2 refine Ag ?_
 refine Aa ?_
 iterate 7 refine oV5 tt rfl Tvv ?_
 refine Bc rfl rfl rfl (fun hb1=>?_) (fun hb1=>?_)
 ·replace h:=Ai hb1 h
  refine Bd tt rfl rfl rfl rfl rfl hb1 rfl rfl rfl Tvv ?_
  obtain ⟨v21,hc2,h⟩:=Ac h
  refine Fj (S_IsLinkage_w N l_0 v21 hc2) rfl rfl rfl rfl hb1 rfl rfl rfl rfl rfl rfl rfl ⟨⟨rfl,rfl,rfl,rfl,Tvv⟩,Tvv⟩ ?_
  refine Be rfl rfl rfl rfl rfl hb1 rfl ?_
  refine Ae ?_
  show VC ..
  refine Au rfl (fun hb3=>?_) (fun hb3=>?_)
  ·replace h:=Ai hb3 h
   refine Ar ?_
   show VC ..
   refine Ag ?_
   refine Aq ?_
   refine Ag ?_
   refine Aa ?_
   iterate 3 refine oV5 tt rfl Tvv ?_
   obtain ⟨v22,hc4,h⟩:=Ac h
   refine Ba (Ct N l_0.ground i18 v22 hc4) rfl rfl rfl rfl rfl rfl rfl rfl ⟨rfl,rfl,Tvv⟩ ?_
   refine oV5 tt rfl Tvv ?_
   refine Ae ?_
   show VC ..
   refine Au rfl (fun hb5=>?_) (fun hb5=>?_)
   ·replace h:=Ai hb5 h
    refine Aa ?_
    iterate 2 refine oV5 tt rfl Tvv ?_
    refine Cv tt rfl rfl rfl rfl rfl rfl rfl rfl rfl rfl rfl ?_
    obtain ⟨hg6,h⟩:=Ab h
    refine Bp tt rfl rfl rfl rfl rfl rfl rfl rfl rfl rfl rfl rfl rfl rfl rfl rfl (Nat.le_of_eq (Nat.zero_add _)) hg6 ?_
    refine oV5 tt rfl Tvv ?_
    refine Ae ?_
    show VC ..
    refine Aa ?_
    refine oV5 tt rfl Tvv ?_
    obtain ⟨hg7,h⟩:=Ab h
    refine oV5 tt rfl hg7 ?_
    refine oV5 tt rfl Tvv ?_
    refine Ae ?_
    show ∃ _,_
    exact ⟨((l17++([i18]:List Int)),(i18+(1:Int))),(En.of ⟨rfl,rfl,rfl,Tvv⟩ ⟨rfl,Tvv⟩ ⟨rfl,Tvv⟩),h⟩
   replace h:=Aj hb5 h
   refine Ar ?_
   show VC ..
   refine Aa ?_
   refine oV5 tt rfl Tvv ?_
   obtain ⟨hg8,h⟩:=Ab h
   refine oV5 tt rfl hg8 ?_
   refine oV5 tt rfl Tvv ?_
   refine Ae ?_
   show ∃ _,_
   exact ⟨(l17,(i18+(1:Int))),(En.of ⟨rfl,rfl,rfl,Tvv⟩ ⟨rfl,Tvv⟩ ⟨rfl,Tvv⟩),h⟩
  replace h:=Aj hb3 h
  refine Bq ?_
  show ∃ _,_
  exact ⟨l17,(En.of ⟨rfl,Tvv⟩ ⟨rfl,Tvv⟩ trivial),h⟩
 replace h:=Aj hb1 h
 iterate 2 refine Jn rfl rfl rfl rfl hb1 rfl rfl ?_
 refine Av rfl rfl rfl rfl rfl hb1 rfl ?_
 refine Ae ?_
 show VC ..
 refine Cz rfl rfl ?_
 refine Bq ?_
 show ∃ _,_
 exact ⟨l17,(En.of ⟨rfl,Tvv⟩ ⟨rfl,Tvv⟩ trivial),h⟩
def Dm (N:Nat) (p_0:Pin) (l_1:List (Int×List Int)) (k:(List Int)→Option (List Int)):Nat→((List Int)×Int)→Option (List Int)
 | 0,_=>none
 | n+1,(l11,i12)=>
  cnd (decide (i12<(l_1.length:Int))) (
   grd (0≤i12∧i12<(l_1.length:Int)) <|
   (Kh N p_0 l11 (⟨(l_1.getD ((i12).toNat) (0,[])).1,(l_1.getD ((i12).toNat) (0,[])).2⟩:Rse)).bind fun v14=>
   cnd (!v14) (
    some l11) (
    grd (l11.length+1≤4294967296) <|
    grd (Bf (i12+(1:Int))) <|
    Dm N p_0 l_1 k n ((l11++([(l_1.getD ((i12).toNat) (0,[])).1]:List Int)),(i12+(1:Int))))) (
   k l11)
def Ek (N:Nat) (p_0:Pin) (l_1:List (Int×List Int)):Option (List Int):=
 Dm N p_0 l_1 (fun (l7 : List Int) =>
    some l7) N (([]:List Int),(0:Int))
theorem Hc (N:Nat) (p_0:Pin) (l_1:List (Int×List Int)) (r:List Int) (h:Ek N p_0 l_1=some r):PCall Try.prog 29 [pD p_0,.ro false (.raises l_1)] [(3,.ints r)] (.row 0 0 r.length):=by
 unfold Ek at h
 refine Ah (TT:=TT) tt Try.func29 rfl rfl Try.ntmps29 (congrArg Array.toList Try.results29) rfl rfl fun w0=>?_
 refine Ag ?_
 refine Aa ?_
 refine Km rfl rfl rfl rfl rfl rfl rfl rfl rfl ?_
 refine oV5 tt rfl Tvv ?_
 refine Ae ?_
 show VC ..
 refine Ag ?_
 refine Aa ?_
 refine Fa tt (Ad rfl) rfl rfl rfl rfl ?_
 refine oV5 tt rfl Tvv ?_
 refine Ae ?_
 show VC ..
 iterate 2 refine Ag ?_
 refine Aa ?_
 refine oV5 tt rfl Tvv ?_
 refine Ae ?_
 show VC ..
 refine Ck (F:=fun k=>Dm N p_0 l_1 k) h (α:=List Int) (J:=fun (l7:List Int)=>(⟨[(5,.row 30 0 l7.length)],[(30,some (3,.ints l7))],[]⟩:PS)) ?_ ?_
 ·rintro l7 h
  show VC _ _ _ (⟨[(5,.row 30 0 l7.length)],[(30,some (3,.ints l7))],[]⟩:PS)
  refine Ag ?_
  refine Aa ?_
  iterate 2 refine oV5 tt rfl Tvv ?_
  refine Ae ?_
  show VC ..
  refine Bb ?_
  show ∃ _,_
  cases h
  exact ⟨[30],_,rfl,⟨rfl,Tvv⟩,rfl,(.eq rfl),rfl⟩
 intro k h
 refine Aq ?_
 refine Md 5 30 3 (.ints []) rfl rfl rfl rfl ?_
 refine Bh (α:=(List Int)×Int) (fun | (l11,i12)=>(⟨[(1,.ro false (.raises l_1)),(2,.ptr 2 0),(5,.row 30 0 l11.length),(6,.int i12)],[(30,some (3,.ints l11))],[(2,some [.int p_0.g.n,.ro false (.pairs p_0.g.bars),.ro false (.ints p_0.ground)])]⟩:PS)) (Dm N p_0 l_1 k) h (En.of ⟨rfl,rfl,rfl,rfl,Tvv⟩ ⟨rfl,Tvv⟩ ⟨rfl,Tvv⟩) (fun _=>rfl) ?_
 rintro n ⟨l11,i12⟩ h
 rw [Dm] at h
 show VC _ _ _ (⟨[(1,.ro false (.raises l_1)),(2,.ptr 2 0),(5,.row 30 0 l11.length),(6,.int i12)],[(30,some (3,.ints l11))],[(2,some [.int p_0.g.n,.ro false (.pairs p_0.g.bars),.ro false (.ints p_0.ground)])]⟩:PS)
 iterate 2 refine Ag ?_
 refine Aa ?_
 iterate 4 refine oV5 tt rfl Tvv ?_
 refine Ae ?_
 show VC ..
 refine Au rfl (fun hb1=>?_) (fun hb1=>?_)
 ·replace h:=Ai hb1 h
  refine Ar ?_
  show VC ..
  refine Ag ?_
  refine Aq ?_
  iterate 2 refine Ag ?_
  refine Cg (by kernel_rfl) (by kernel_rfl) ?_
  iterate 4 refine Bi tt rfl (Ad rfl) rfl rfl rfl Tvv ?_
  obtain ⟨hg2,h⟩:=Ab h
  refine Bi tt rfl (Ad rfl) rfl rfl rfl hg2 ?_
  refine Bi tt rfl (Ad rfl) rfl rfl rfl Tvv ?_
  obtain ⟨v14,hc3,h⟩:=Ac h
  refine Pr (Ms N p_0 l11 (⟨(l_1.getD ((i12).toNat) (0,[])).1,(l_1.getD ((i12).toNat) (0,[])).2⟩:Rse) v14 hc3) rfl (Ad rfl) rfl rfl rfl rfl rfl rfl ⟨⟨rfl,rfl,rfl,Tvv⟩,(.inl ⟨rfl,rfl⟩),⟨rfl,rfl,Tvv⟩,Tvv⟩ ?_
  refine Bi tt rfl (Ad rfl) rfl rfl rfl Tvv ?_
  refine La ?_
  show VC ..
  refine Au rfl (fun hb4=>?_) (fun hb4=>?_)
  ·replace h:=Ai hb4 h
   refine Ag ?_
   refine Aa ?_
   iterate 2 refine oV5 tt rfl Tvv ?_
   refine Ae ?_
   show VC ..
   refine Bb ?_
   show ∃ _,_
   cases h
   exact ⟨[30],_,rfl,⟨rfl,Tvv⟩,rfl,(.eq rfl),rfl⟩
  replace h:=Aj hb4 h
  refine Ar ?_
  show VC ..
  refine Aa ?_
  iterate 3 refine oV5 tt rfl Tvv ?_
  refine oV5 tt rfl hg2 ?_
  iterate 2 refine oV5 tt rfl Tvv ?_
  refine Cv tt rfl rfl rfl rfl rfl rfl rfl rfl rfl rfl rfl ?_
  obtain ⟨hg5,h⟩:=Ab h
  refine Bp tt rfl rfl rfl rfl rfl rfl rfl rfl rfl rfl rfl rfl rfl rfl rfl rfl (Nat.le_of_eq (Nat.zero_add _)) hg5 ?_
  refine oV5 tt rfl Tvv ?_
  refine Ae ?_
  show VC ..
  refine Aa ?_
  refine oV5 tt rfl Tvv ?_
  obtain ⟨hg6,h⟩:=Ab h
  refine oV5 tt rfl hg6 ?_
  refine oV5 tt rfl Tvv ?_
  refine Ae ?_
  show ∃ _,_
  exact ⟨((l11++([(l_1.getD ((i12).toNat) (0,[])).1]:List Int)),(i12+(1:Int))),(En.of ⟨rfl,rfl,rfl,rfl,Tvv⟩ ⟨rfl,Tvv⟩ ⟨rfl,Tvv⟩),h⟩
 replace h:=Aj hb1 h
 refine Bq ?_
 show ∃ _,_
 exact ⟨l11,(En.of ⟨rfl,Tvv⟩ ⟨rfl,Tvv⟩ trivial),h⟩
def Eo (N:Nat) (l_1:List (Int×List Int)) (k:Int→Option (Bool)):Nat→(Int×Int)→Option (Bool)
 | 0,_=>none
 | n+1,(bars8,i9)=>
  cnd (decide (i9<(l_1.length:Int))) (
   grd (0≤i9∧i9<(l_1.length:Int)) <|
   grd (Bf (bars8+(((l_1.getD ((i9).toNat) (0,[])).2).length:Int))) <|
   grd (Bf (i9+(1:Int))) <|
   Eo N l_1 k n ((bars8+(((l_1.getD ((i9).toNat) (0,[])).2).length:Int)),(i9+(1:Int)))) (
   k bars8)
def Gw (N:Nat) (p_0:Pin) (l_1:List (Int×List Int)):Option (Bool):=
 Eo N l_1 (fun (bars3 : Int) =>
    (Cj N p_0).bind fun v4=>
    cnd v4 (
     (Ek N p_0 l_1).bind fun v5=>
     cnd ((v5.length:Int)==(l_1.length:Int)) (
      (Fh N p_0).bind fun v6=>
      cnd ((l_1.length:Int)==(v6.length:Int)) (
       some (bars3==(p_0.g.bars.length:Int))) (
       some false)) (
      some false)) (
     some false)) N ((0:Int),(0:Int))
theorem Mc (N:Nat) (p_0:Pin) (l_1:List (Int×List Int)) (r:Bool) (h:Gw N p_0 l_1=some r):PCall Try.prog 26 [pD p_0,.ro false (.raises l_1)] [] (.bool r):=by
 unfold Gw at h
 refine Ah (TT:=TT) tt Try.func26 rfl rfl Try.ntmps26 (congrArg Array.toList Try.results26) rfl rfl fun w0=>?_
 refine Ag ?_
 refine Aa ?_
 refine Km rfl rfl rfl rfl rfl rfl rfl rfl rfl ?_
 refine oV5 tt rfl Tvv ?_
 refine Ae ?_
 show VC ..
 refine Ag ?_
 refine Aa ?_
 refine oV5 tt rfl Tvv ?_
 refine Ae ?_
 show VC ..
 iterate 2 refine Ag ?_
 refine Aa ?_
 refine oV5 tt rfl Tvv ?_
 refine Ae ?_
 show VC ..
 refine Ck (F:=fun k=>Eo N l_1 k) h (α:=Int) (J:=fun (bars3:Int)=>(⟨[(1,.ro false (.raises l_1)),(2,.ptr 2 0),(5,.int bars3)],[],[(2,some [.int p_0.g.n,.ro false (.pairs p_0.g.bars),.ro false (.ints p_0.ground)])]⟩:PS)) ?_ ?_
 ·rintro bars3 h
  show VC _ _ _ (⟨[(1,.ro false (.raises l_1)),(2,.ptr 2 0),(5,.int bars3)],[],[(2,some [.int p_0.g.n,.ro false (.pairs p_0.g.bars),.ro false (.ints p_0.ground)])]⟩:PS)
  refine Ag ?_
  refine Aa ?_
  refine oV5 tt rfl Tvv ?_
  obtain ⟨v4,hc1,h⟩:=Ac h
  refine Ba (Hx N p_0 v4 hc1) rfl rfl rfl rfl rfl rfl rfl rfl ⟨⟨rfl,rfl,rfl,Tvv⟩,Tvv⟩ ?_
  refine oV5 tt rfl Tvv ?_
  refine Bc rfl rfl rfl (fun hb2=>?_) (fun hb2=>?_)
  ·replace h:=Ai hb2 h
   iterate 2 refine Bd tt rfl rfl rfl rfl rfl hb2 rfl rfl rfl Tvv ?_
   obtain ⟨v5,hc3,h⟩:=Ac h
   refine Fj (Hc N p_0 l_1 v5 hc3) rfl rfl rfl rfl hb2 rfl rfl rfl rfl rfl rfl rfl ⟨⟨rfl,rfl,rfl,Tvv⟩,rfl,Tvv⟩ ?_
   iterate 4 refine Bd tt rfl rfl rfl rfl rfl hb2 rfl rfl rfl Tvv ?_
   refine Be rfl rfl rfl rfl rfl hb2 rfl ?_
   refine oV5 tt rfl Tvv ?_
   refine Bc rfl rfl rfl (fun hb4=>?_) (fun hb4=>?_)
   ·replace h:=Ai hb4 h
    iterate 3 refine Bd tt rfl rfl rfl rfl rfl hb4 rfl rfl rfl Tvv ?_
    obtain ⟨v6,hc5,h⟩:=Ac h
    refine Fj (Ke N p_0 v6 hc5) rfl rfl rfl rfl hb4 rfl rfl rfl rfl rfl rfl rfl ⟨⟨rfl,rfl,rfl,Tvv⟩,Tvv⟩ ?_
    iterate 2 refine Bd tt rfl rfl rfl rfl rfl hb4 rfl rfl rfl Tvv ?_
    refine Be rfl rfl rfl rfl rfl hb4 rfl ?_
    refine oV5 tt rfl Tvv ?_
    refine Bc rfl rfl rfl (fun hb6=>?_) (fun hb6=>?_)
    ·replace h:=Ai hb6 h
     iterate 6 refine Bd tt rfl rfl rfl rfl rfl hb6 rfl rfl rfl Tvv ?_
     refine Be rfl rfl rfl rfl rfl hb6 rfl ?_
     refine oV5 tt rfl Tvv ?_
     refine Ae ?_
     show VC ..
     refine Bb ?_
     show ∃ _,_
     cases h
     exact ⟨[],_,rfl,Tvv,rfl,(.eq rfl),rfl⟩
    replace h:=Aj hb6 h
    iterate 6 refine Jn rfl rfl rfl rfl hb6 rfl rfl ?_
    refine Av rfl rfl rfl rfl rfl hb6 rfl ?_
    refine oV5 tt rfl Tvv ?_
    refine Ae ?_
    show VC ..
    refine Bb ?_
    show ∃ _,_
    cases h
    exact ⟨[],_,rfl,Tvv,rfl,(.eq rfl),rfl⟩
   replace h:=Aj hb4 h
   iterate 6 refine Jn rfl rfl rfl rfl hb4 rfl rfl ?_
   refine Av rfl rfl rfl rfl rfl hb4 rfl ?_
   refine oV5 tt rfl Tvv ?_
   iterate 6 refine Jn rfl rfl rfl rfl rfl rfl rfl ?_
   refine Av rfl rfl rfl rfl rfl rfl rfl ?_
   refine oV5 tt rfl Tvv ?_
   refine Ae ?_
   show VC ..
   refine Bb ?_
   show ∃ _,_
   cases h
   exact ⟨[],_,rfl,Tvv,rfl,(.eq rfl),rfl⟩
  replace h:=Aj hb2 h
  iterate 7 refine Jn rfl rfl rfl rfl hb2 rfl rfl ?_
  refine Av rfl rfl rfl rfl rfl hb2 rfl ?_
  refine oV5 tt rfl Tvv ?_
  iterate 6 refine Jn rfl rfl rfl rfl rfl rfl rfl ?_
  refine Av rfl rfl rfl rfl rfl rfl rfl ?_
  refine oV5 tt rfl Tvv ?_
  iterate 6 refine Jn rfl rfl rfl rfl rfl rfl rfl ?_
  refine Av rfl rfl rfl rfl rfl rfl rfl ?_
  refine oV5 tt rfl Tvv ?_
  refine Ae ?_
  show VC ..
  refine Bb ?_
  show ∃ _,_
  cases h
  exact ⟨[],_,rfl,Tvv,rfl,(.eq rfl),rfl⟩
 intro k h
 refine Aq ?_
 refine Bh (α:=Int×Int) (fun | (bars8,i9)=>(⟨[(1,.ro false (.raises l_1)),(2,.ptr 2 0),(5,.int bars8),(6,.int i9)],[],[(2,some [.int p_0.g.n,.ro false (.pairs p_0.g.bars),.ro false (.ints p_0.ground)])]⟩:PS)) (Eo N l_1 k) h (En.of ⟨rfl,rfl,rfl,rfl,Tvv⟩ trivial ⟨rfl,Tvv⟩) (fun _=>rfl) ?_
 rintro n ⟨bars8,i9⟩ h
 rw [Eo] at h
 show VC _ _ _ (⟨[(1,.ro false (.raises l_1)),(2,.ptr 2 0),(5,.int bars8),(6,.int i9)],[],[(2,some [.int p_0.g.n,.ro false (.pairs p_0.g.bars),.ro false (.ints p_0.ground)])]⟩:PS)
 iterate 2 refine Ag ?_
 refine Aa ?_
 iterate 4 refine oV5 tt rfl Tvv ?_
 refine Ae ?_
 show VC ..
 refine Au rfl (fun hb7=>?_) (fun hb7=>?_)
 ·replace h:=Ai hb7 h
  refine Ar ?_
  show VC ..
  refine Ag ?_
  refine Aq ?_
  refine Aa ?_
  iterate 3 refine oV5 tt rfl Tvv ?_
  obtain ⟨hg8,h⟩:=Ab h
  refine oV5 tt rfl hg8 ?_
  iterate 3 refine oV5 tt rfl Tvv ?_
  obtain ⟨hg9,h⟩:=Ab h
  refine oV5 tt rfl hg9 ?_
  refine oV5 tt rfl Tvv ?_
  refine Ae ?_
  show VC ..
  refine Aa ?_
  refine oV5 tt rfl Tvv ?_
  obtain ⟨hg10,h⟩:=Ab h
  refine oV5 tt rfl hg10 ?_
  refine oV5 tt rfl Tvv ?_
  refine Ae ?_
  show ∃ _,_
  exact ⟨((bars8+(((l_1.getD ((i9).toNat) (0,[])).2).length:Int)),(i9+(1:Int))),(En.of ⟨rfl,rfl,rfl,rfl,Tvv⟩ trivial ⟨rfl,Tvv⟩),h⟩
 replace h:=Aj hb7 h
 refine Bq ?_
 show ∃ _,_
 exact ⟨bars8,(En.of ⟨rfl,rfl,rfl,Tvv⟩ trivial ⟨rfl,Tvv⟩),h⟩
def Dl (N:Nat) (p_0:Pin) (l_1:List (Int×List Int)) (k:(List Int)→Option (List Int)):Nat→((List Int)×Int)→Option (List Int)
 | 0,_=>none
 | n+1,(l11,x12)=>
  cnd (decide (x12<(l_1.length:Int))) (
   grd (0≤x12∧x12<(l_1.length:Int)) <|
   (Gg N p_0 l11 (⟨(l_1.getD ((x12).toNat) (0,[])).1,(l_1.getD ((x12).toNat) (0,[])).2⟩:Rse)).bind fun v14=>
   cnd (!v14) (
    k l11) (
    grd (l11.length+1≤4294967296) <|
    grd (Bf (x12+(1:Int))) <|
    Dl N p_0 l_1 k n ((l11++([(l_1.getD ((x12).toNat) (0,[])).1]:List Int)),(x12+(1:Int))))) (
   k l11)
def Em (N:Nat) (p_0:Pin) (l_1:List (Int×List Int)):Option (List Int):=
 Dl N p_0 l_1 (fun (l7 : List Int) =>
    some l7) N (([]:List Int),(0:Int))
theorem Hf (N:Nat) (p_0:Pin) (l_1:List (Int×List Int)) (r:List Int) (h:Em N p_0 l_1=some r):PCall Try.prog 28 [pD p_0,.ro false (.raises l_1)] [(3,.ints r)] (.row 0 0 r.length):=by
 unfold Em at h
 refine Ah (TT:=TT) tt Try.func28 rfl rfl Try.ntmps28 (congrArg Array.toList Try.results28) rfl rfl fun w0=>?_
 refine Ag ?_
 refine Aa ?_
 refine Km rfl rfl rfl rfl rfl rfl rfl rfl rfl ?_
 refine oV5 tt rfl Tvv ?_
 refine Ae ?_
 show VC ..
 refine Ag ?_
 refine Aa ?_
 refine Fa tt (Ad rfl) rfl rfl rfl rfl ?_
 refine oV5 tt rfl Tvv ?_
 refine Ae ?_
 show VC ..
 iterate 2 refine Ag ?_
 refine Aa ?_
 iterate 3 refine oV5 tt rfl Tvv ?_
 refine Ae ?_
 show VC ..
 refine Ck (F:=fun k=>Dl N p_0 l_1 k) h (α:=List Int) (J:=fun (l7:List Int)=>(⟨[(5,.row 24 0 l7.length)],[(24,some (3,.ints l7))],[]⟩:PS)) ?_ ?_
 ·rintro l7 h
  show VC _ _ _ (⟨[(5,.row 24 0 l7.length)],[(24,some (3,.ints l7))],[]⟩:PS)
  refine Ag ?_
  refine Aa ?_
  iterate 2 refine oV5 tt rfl Tvv ?_
  refine Ae ?_
  show VC ..
  refine Bb ?_
  show ∃ _,_
  cases h
  exact ⟨[24],_,rfl,⟨rfl,Tvv⟩,rfl,(.eq rfl),rfl⟩
 intro k h
 refine Aq ?_
 refine Md 5 24 3 (.ints []) rfl rfl rfl rfl ?_
 refine Bh (α:=(List Int)×Int) (fun | (l11,x12)=>(⟨[(2,.ptr 2 0),(5,.row 24 0 l11.length),(9,.ro false (.raises l_1)),(10,.int (l_1.length:Int)),(11,.int x12)],[(24,some (3,.ints l11))],[(2,some [.int p_0.g.n,.ro false (.pairs p_0.g.bars),.ro false (.ints p_0.ground)])]⟩:PS)) (Dl N p_0 l_1 k) h (En.of ⟨rfl,rfl,rfl,rfl,rfl,Tvv⟩ ⟨rfl,Tvv⟩ ⟨rfl,Tvv⟩) (fun _=>rfl) ?_
 rintro n ⟨l11,x12⟩ h
 rw [Dl] at h
 show VC _ _ _ (⟨[(2,.ptr 2 0),(5,.row 24 0 l11.length),(9,.ro false (.raises l_1)),(10,.int (l_1.length:Int)),(11,.int x12)],[(24,some (3,.ints l11))],[(2,some [.int p_0.g.n,.ro false (.pairs p_0.g.bars),.ro false (.ints p_0.ground)])]⟩:PS)
 refine Ag ?_
 refine Aa ?_
 refine oV5 tt rfl Tvv ?_
 refine Ae ?_
 show VC ..
 refine Ag ?_
 refine Au rfl (fun hb1=>?_) (fun hb1=>?_)
 ·replace h:=Ai hb1 h
  refine Ar ?_
  show VC ..
  refine Ag ?_
  refine Aq ?_
  refine Ag ?_
  refine Aa ?_
  obtain ⟨hg2,h⟩:=Ab h
  refine oV5 tt rfl hg2 ?_
  refine oV5 tt rfl Tvv ?_
  refine Bj tt rfl rfl rfl rfl rfl rfl rfl rfl rfl ?_
  refine Ao tt rfl rfl rfl rfl rfl rfl rfl rfl rfl rfl rfl ⟨Tvv,Tvv,Tvv⟩ ?_
  refine Ae ?_
  show VC ..
  iterate 2 refine Ag ?_
  refine Aa ?_
  iterate 3 refine oV5 tt rfl Tvv ?_
  obtain ⟨v14,hc3,h⟩:=Ac h
  refine Ba (Js N p_0 l11 (⟨(l_1.getD ((x12).toNat) (0,[])).1,(l_1.getD ((x12).toNat) (0,[])).2⟩:Rse) v14 hc3) rfl rfl rfl rfl rfl rfl rfl rfl ⟨⟨rfl,rfl,rfl,Tvv⟩,(.inl ⟨rfl,rfl⟩),⟨rfl,rfl,Tvv⟩,Tvv⟩ ?_
  refine oV5 tt rfl Tvv ?_
  refine Ae ?_
  show VC ..
  refine Au rfl (fun hb4=>?_) (fun hb4=>?_)
  ·replace h:=Ai hb4 h
   refine Bq ?_
   show ∃ _,_
   exact ⟨l11,(En.of ⟨rfl,Tvv⟩ ⟨rfl,Tvv⟩ trivial),h⟩
  replace h:=Aj hb4 h
  refine Ar ?_
  show VC ..
  refine Aa ?_
  iterate 3 refine oV5 tt rfl Tvv ?_
  refine Cv tt rfl rfl rfl rfl rfl rfl rfl rfl rfl rfl rfl ?_
  obtain ⟨hg5,h⟩:=Ab h
  refine Bp tt rfl rfl rfl rfl rfl rfl rfl rfl rfl rfl rfl rfl rfl rfl rfl rfl (Nat.le_of_eq (Nat.zero_add _)) hg5 ?_
  refine oV5 tt rfl Tvv ?_
  refine Ae ?_
  show VC ..
  refine Aa ?_
  obtain ⟨hg6,h⟩:=Ab h
  refine oV5 tt rfl hg6 ?_
  refine oV5 tt rfl Tvv ?_
  refine Ae ?_
  show ∃ _,_
  exact ⟨((l11++([(l_1.getD ((x12).toNat) (0,[])).1]:List Int)),(x12+(1:Int))),(En.of ⟨rfl,rfl,rfl,rfl,rfl,Tvv⟩ ⟨rfl,Tvv⟩ ⟨rfl,Tvv⟩),h⟩
 replace h:=Aj hb1 h
 refine Bq ?_
 show ∃ _,_
 exact ⟨l11,(En.of ⟨rfl,Tvv⟩ ⟨rfl,Tvv⟩ trivial),h⟩
def El (N:Nat) (l_1:List (Int×List Int)) (k:Int→Option (Bool)):Nat→(Int×Int)→Option (Bool)
 | 0,_=>none
 | n+1,(bars8,x9)=>
  cnd (decide (x9<(l_1.length:Int))) (
   grd (0≤x9∧x9<(l_1.length:Int)) <|
   grd (Bf (bars8+(((l_1.getD ((x9).toNat) (0,[])).2).length:Int))) <|
   grd (Bf (x9+(1:Int))) <|
   El N l_1 k n ((bars8+(((l_1.getD ((x9).toNat) (0,[])).2).length:Int)),(x9+(1:Int)))) (
   k bars8)
def Db (N:Nat) (p_0:Pin) (l_1:List (Int×List Int)):Option (Bool):=
 El N l_1 (fun (bars3 : Int) =>
    (Em N p_0 l_1).bind fun v4=>
    (Hk N p_0).bind fun v5=>
    cnd v5 (
     cnd ((v4.length:Int)==(l_1.length:Int)) (
      (Gz N p_0).bind fun v6=>
      cnd ((v4.length:Int)==(v6.length:Int)) (
       some (bars3==(p_0.g.bars.length:Int))) (
       some false)) (
      some false)) (
     some false)) N ((0:Int),(0:Int))
theorem Gy (N:Nat) (p_0:Pin) (l_1:List (Int×List Int)) (r:Bool) (h:Db N p_0 l_1=some r):PCall Try.prog 17 [pD p_0,.ro false (.raises l_1)] [] (.bool r):=by
 unfold Db at h
 refine Ah (TT:=TT) tt Try.func17 rfl rfl Try.ntmps17 (congrArg Array.toList Try.results17) rfl rfl fun w0=>?_
 refine Ag ?_
 refine Aa ?_
 refine Km rfl rfl rfl rfl rfl rfl rfl rfl rfl ?_
 refine oV5 tt rfl Tvv ?_
 refine Ae ?_
 show VC ..
 refine Ag ?_
 refine Aa ?_
 refine oV5 tt rfl Tvv ?_
 refine Ae ?_
 show VC ..
 iterate 2 refine Ag ?_
 refine Aa ?_
 iterate 3 refine oV5 tt rfl Tvv ?_
 refine Ae ?_
 show VC ..
 refine Ck (F:=fun k=>El N l_1 k) h (α:=Int) (J:=fun (bars3:Int)=>(⟨[(1,.ro false (.raises l_1)),(2,.ptr 2 0),(5,.int bars3)],[],[(2,some [.int p_0.g.n,.ro false (.pairs p_0.g.bars),.ro false (.ints p_0.ground)])]⟩:PS)) ?_ ?_
 ·rintro bars3 h
  show VC _ _ _ (⟨[(1,.ro false (.raises l_1)),(2,.ptr 2 0),(5,.int bars3)],[],[(2,some [.int p_0.g.n,.ro false (.pairs p_0.g.bars),.ro false (.ints p_0.ground)])]⟩:PS)
  refine Ag ?_
  refine Aa ?_
  iterate 2 refine oV5 tt rfl Tvv ?_
  obtain ⟨v4,hc1,h⟩:=Ac h
  refine Ba (Hf N p_0 l_1 v4 hc1) rfl rfl rfl rfl rfl rfl rfl rfl ⟨⟨rfl,rfl,rfl,Tvv⟩,rfl,Tvv⟩ ?_
  iterate 2 refine oV5 tt rfl Tvv ?_
  refine Ae ?_
  show VC ..
  refine Ag ?_
  refine Aa ?_
  refine oV5 tt rfl Tvv ?_
  obtain ⟨v5,hc2,h⟩:=Ac h
  refine Ba (Ju N p_0 v5 hc2) rfl rfl rfl rfl rfl rfl rfl rfl ⟨⟨rfl,rfl,rfl,Tvv⟩,Tvv⟩ ?_
  refine oV5 tt rfl Tvv ?_
  refine Bc rfl rfl rfl (fun hb3=>?_) (fun hb3=>?_)
  ·replace h:=Ai hb3 h
   iterate 4 refine Bd tt rfl rfl rfl rfl rfl hb3 rfl rfl rfl Tvv ?_
   refine Be rfl rfl rfl rfl rfl hb3 rfl ?_
   refine oV5 tt rfl Tvv ?_
   refine Bc rfl rfl rfl (fun hb4=>?_) (fun hb4=>?_)
   ·replace h:=Ai hb4 h
    iterate 2 refine Bd tt rfl rfl rfl rfl rfl hb4 rfl rfl rfl Tvv ?_
    obtain ⟨v6,hc5,h⟩:=Ac h
    refine Fj (Mq N p_0 v6 hc5) rfl rfl rfl rfl hb4 rfl rfl rfl rfl rfl rfl rfl ⟨⟨rfl,rfl,rfl,Tvv⟩,Tvv⟩ ?_
    iterate 2 refine Bd tt rfl rfl rfl rfl rfl hb4 rfl rfl rfl Tvv ?_
    refine Be rfl rfl rfl rfl rfl hb4 rfl ?_
    refine oV5 tt rfl Tvv ?_
    refine Bc rfl rfl rfl (fun hb6=>?_) (fun hb6=>?_)
    ·replace h:=Ai hb6 h
     iterate 6 refine Bd tt rfl rfl rfl rfl rfl hb6 rfl rfl rfl Tvv ?_
     refine Be rfl rfl rfl rfl rfl hb6 rfl ?_
     refine oV5 tt rfl Tvv ?_
     refine Ae ?_
     show VC ..
     refine Bb ?_
     show ∃ _,_
     cases h
     exact ⟨[],_,rfl,Tvv,rfl,(.eq rfl),rfl⟩
    replace h:=Aj hb6 h
    iterate 6 refine Jn rfl rfl rfl rfl hb6 rfl rfl ?_
    refine Av rfl rfl rfl rfl rfl hb6 rfl ?_
    refine oV5 tt rfl Tvv ?_
    refine Ae ?_
    show VC ..
    refine Bb ?_
    show ∃ _,_
    cases h
    exact ⟨[],_,rfl,Tvv,rfl,(.eq rfl),rfl⟩
   replace h:=Aj hb4 h
   iterate 5 refine Jn rfl rfl rfl rfl hb4 rfl rfl ?_
   refine Av rfl rfl rfl rfl rfl hb4 rfl ?_
   refine oV5 tt rfl Tvv ?_
   iterate 6 refine Jn rfl rfl rfl rfl rfl rfl rfl ?_
   refine Av rfl rfl rfl rfl rfl rfl rfl ?_
   refine oV5 tt rfl Tvv ?_
   refine Ae ?_
   show VC ..
   refine Bb ?_
   show ∃ _,_
   cases h
   exact ⟨[],_,rfl,Tvv,rfl,(.eq rfl),rfl⟩
  replace h:=Aj hb3 h
  iterate 4 refine Jn rfl rfl rfl rfl hb3 rfl rfl ?_
  refine Av rfl rfl rfl rfl rfl hb3 rfl ?_
  refine oV5 tt rfl Tvv ?_
  iterate 5 refine Jn rfl rfl rfl rfl rfl rfl rfl ?_
  refine Av rfl rfl rfl rfl rfl rfl rfl ?_
  refine oV5 tt rfl Tvv ?_
  iterate 6 refine Jn rfl rfl rfl rfl rfl rfl rfl ?_
  refine Av rfl rfl rfl rfl rfl rfl rfl ?_
  refine oV5 tt rfl Tvv ?_
  refine Ae ?_
  show VC ..
  refine Bb ?_
  show ∃ _,_
  cases h
  exact ⟨[],_,rfl,Tvv,rfl,(.eq rfl),rfl⟩
 intro k h
 refine Aq ?_
 refine Bh (α:=Int×Int) (fun | (bars8,x9)=>(⟨[(1,.ro false (.raises l_1)),(2,.ptr 2 0),(5,.int bars8),(9,.ro false (.raises l_1)),(10,.int (l_1.length:Int)),(11,.int x9)],[],[(2,some [.int p_0.g.n,.ro false (.pairs p_0.g.bars),.ro false (.ints p_0.ground)])]⟩:PS)) (El N l_1 k) h (En.of ⟨rfl,rfl,rfl,rfl,rfl,rfl,Tvv⟩ trivial ⟨rfl,Tvv⟩) (fun _=>rfl) ?_
 rintro n ⟨bars8,x9⟩ h
 rw [El] at h
 show VC _ _ _ (⟨[(1,.ro false (.raises l_1)),(2,.ptr 2 0),(5,.int bars8),(9,.ro false (.raises l_1)),(10,.int (l_1.length:Int)),(11,.int x9)],[],[(2,some [.int p_0.g.n,.ro false (.pairs p_0.g.bars),.ro false (.ints p_0.ground)])]⟩:PS)
 refine Ag ?_
 refine Aa ?_
 refine oV5 tt rfl Tvv ?_
 refine Ae ?_
 show VC ..
 refine Ag ?_
 refine Au rfl (fun hb7=>?_) (fun hb7=>?_)
 ·replace h:=Ai hb7 h
  refine Ar ?_
  show VC ..
  refine Ag ?_
  refine Aq ?_
  refine Ag ?_
  refine Aa ?_
  obtain ⟨hg8,h⟩:=Ab h
  refine oV5 tt rfl hg8 ?_
  refine oV5 tt rfl Tvv ?_
  refine Bj tt rfl rfl rfl rfl rfl rfl rfl rfl rfl ?_
  refine Ao tt rfl rfl rfl rfl rfl rfl rfl rfl rfl rfl rfl ⟨Tvv,Tvv,Tvv⟩ ?_
  refine Ae ?_
  show VC ..
  refine Aa ?_
  iterate 4 refine oV5 tt rfl Tvv ?_
  obtain ⟨hg9,h⟩:=Ab h
  refine oV5 tt rfl hg9 ?_
  refine oV5 tt rfl Tvv ?_
  refine Ae ?_
  show VC ..
  refine Aa ?_
  obtain ⟨hg10,h⟩:=Ab h
  refine oV5 tt rfl hg10 ?_
  refine oV5 tt rfl Tvv ?_
  refine Ae ?_
  show ∃ _,_
  exact ⟨((bars8+(((l_1.getD ((x9).toNat) (0,[])).2).length:Int)),(x9+(1:Int))),(En.of ⟨rfl,rfl,rfl,rfl,rfl,rfl,Tvv⟩ trivial ⟨rfl,Tvv⟩),h⟩
 replace h:=Aj hb7 h
 refine Bq ?_
 show ∃ _,_
 exact ⟨bars8,(En.of ⟨rfl,rfl,rfl,Tvv⟩ trivial ⟨rfl,Tvv⟩),h⟩
end
end Go.Proofs.Ytcljhpldfanhkaa
