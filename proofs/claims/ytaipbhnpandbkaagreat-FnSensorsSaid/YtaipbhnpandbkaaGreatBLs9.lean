/- Texts that the proof needs, put together: G110 Rb Ra Es G119 Shc G120 Da Db G81 G83 G115 G121 G122 M22 G58 G60 G62 G123 G41 G44 G48 G124 G127 Ee. -/
import Derived.Test.YtaipbhnpandbkaaGreatBLs3
import Derived.Test.YtaipbhnpandbkaaGreatBLs4
import Derived.Test.YtaipbhnpandbkaaGreatBLs5
import Derived.Test.YtaipbhnpandbkaaGreatBLs6
import Derived.Test.YtaipbhnpandbkaaGreatBLs7
import Derived.Test.YtaipbhnpandbkaaGreatBLs8
set_option maxRecDepth 20000
set_option maxHeartbeats 1600000
set_option linter.unusedVariables false
set_option linter.unusedSimpArgs false
namespace Go.Proofs.YtaipbhnpandbkaaGreat
section
open Go.RowKit Go.Deep
def Eg (N:Nat) (l3840:List (List Int)) (v3923:List Int) (i3979:Int) (k:Bool→Option (List (List Int))):Nat→(Bool×Int)→Option (List (List Int))
 | 0,_=>none
 | n+1,(covered4000,k4001)=>
  cnd (decide (k4001<(v3923.length:Int))) (
   cnd covered4000 (
    grd (0≤i3979∧i3979<(l3840.length:Int)) <|
    grd (0≤k4001∧k4001<(v3923.length:Int)) <|
    (Qx N (l3840.getD ((i3979).toNat) []) (v3923.getD ((k4001).toNat) 0)).bind fun v4003=>
    grd (Bc (k4001+(1:Int))) <|
    Eg N l3840 v3923 i3979 k n (v4003,(k4001+(1:Int)))) (
    grd (Bc (k4001+(1:Int))) <|
    Eg N l3840 v3923 i3979 k n (false,(k4001+(1:Int))))) (
   k covered4000)
def Dq (N:Nat) (l3840:List (List Int)) (v3923:List Int) (k:Bool→Option (List (List Int))):Nat→(Bool×Int)→Option (List (List Int))
 | 0,_=>none
 | n+1,(inside3978,i3979)=>
  cnd (decide (i3979<(l3840.length:Int))) (
   Eg N l3840 v3923 i3979 (fun (covered3997 : Bool) =>
      cnd inside3978 (
       grd (Bc (i3979+(1:Int))) <|
       Dq N l3840 v3923 k n (true,(i3979+(1:Int)))) (
       grd (Bc (i3979+(1:Int))) <|
       Dq N l3840 v3923 k n (covered3997,(i3979+(1:Int))))) N (true,(0:Int))) (
   k inside3978)
def Cf (N:Nat) (g_0:Grf) (size3019:Int) (k:(List (List Int))→Option (List (List Int))):Nat→((List (List Int))×Int)→Option (List (List Int))
 | 0,_=>none
 | n+1,(l3840,mask3841)=>
  grd (0≤g_0.n∧g_0.n<64∧Bc ((1:Int)*2 ^ ((g_0.n).toNat))) <|
  cnd (decide (mask3841<((1:Int)*2 ^ ((g_0.n).toNat)))) (
   (Wy N g_0.n mask3841).bind fun v3923=>
   Dq N l3840 v3923 (fun (inside3962 : Bool) =>
      cnd ((v3923.length:Int)==size3019) (
       cnd (!inside3962) (
        (Fg N g_0 v3923).bind fun v3963=>
        (Bj N v3963).bind fun v3964=>
        cnd v3964 (
         grd (l3840.length+1≤4294967296) <|
         grd (Bc (mask3841+(1:Int))) <|
         Cf N g_0 size3019 k n ((l3840++([v3923]:List (List Int))),(mask3841+(1:Int)))) (
         grd (Bc (mask3841+(1:Int))) <|
         Cf N g_0 size3019 k n (l3840,(mask3841+(1:Int))))) (
        grd (Bc (mask3841+(1:Int))) <|
        Cf N g_0 size3019 k n (l3840,(mask3841+(1:Int))))) (
       grd (Bc (mask3841+(1:Int))) <|
       Cf N g_0 size3019 k n (l3840,(mask3841+(1:Int))))) N (false,(0:Int))) (
   k l3840)
def Dp (N:Nat) (g_0:Grf) (k:(List (List Int))→Option (List (List Int))):Nat→((List (List Int))×Int)→Option (List (List Int))
 | 0,_=>none
 | n+1,(l3018,size3019)=>
  cnd (decide (size3019≥(2:Int))) (
   Cf N g_0 size3019 (fun (l3757 : List (List Int)) =>
      grd (Bc (size3019-(1:Int))) <|
      Dp N g_0 k n (l3757,(size3019-(1:Int)))) N (l3018,(1:Int))) (
   k l3018)
def Kw (N:Nat) (g_0:Grf):Option (List (List Int)):=
 (Lb N g_0).bind fun v1=>
 cnd (!v1) (
  some ([]:List (List Int))) (
  Dp N g_0 (fun (l2002 : List (List Int)) =>
     some l2002) N (([]:List (List Int)),g_0.n))
theorem Zu (N:Nat) (g_0:Grf) (r:List (List Int)) (h:Kw N g_0=some r):PCall Tryz.prog 20 [gD g_0] [(27,.intss r)] (.row 0 0 r.length):=by
 unfold Kw at h;refine Aj (TT:=TT) tt Tryz.func20 O O Tryz.ntmps20 (congrArg Array.toList Tryz.results20) O O fun w0=>(Ag (Ab (Hz O O O O O O O O O (Aa O (Af (Ag (Ab (Gr tt (Ai O) O O O O (Aa O ?_)))))))));refine Af (Ag (Ag (Ab (Aa O ?_))));obtain ⟨v1,hc1,h⟩:=Ae h;refine Ba (Se N g_0 v1 hc1) O O O O O O O O ⟨⟨O,O,Y⟩,Y⟩ (Aa O (Af (Ar O (fun hb2=>?_) (fun hb2=>?_))))
 ·replace h:=Ak hb2 h;refine Ag (Ab (Aa O (Aa O (Af (Jq 2 9001 27 (.intss []) O O O O (Bg ?_))))));show ∃ _,_;cases h;exact ⟨[9001],_,O,⟨O,Y⟩,O,.eq O,O⟩
 replace h:=Al hb2 h;refine Aq (Ag (Ag (Ab (Aa O (Aa O (Aa O (Af (Bz (F:=fun k=>Dp N g_0 k) h (α:=List (List Int)) (J:=fun (l2002:List (List Int))=>(⟨[(3,.row 78 0 l2002.length)],[(78,some (27,.intss l2002))],[]⟩:PS)) ?_ ?_))))))))
 ·rintro l2002 h;show VC _ _ _ (⟨[(3,.row 78 0 l2002.length)],[(78,some (27,.intss l2002))],[]⟩:PS);refine Ag (Ab (Aa O (Aa O (Af (Bg ?_)))));show ∃ _,_;cases h;exact ⟨[78],_,O,⟨O,Y⟩,O,.eq O,O⟩
 intro k h;refine Ap (Jq 3 78 27 (.intss []) rfl rfl rfl rfl (Bh (α:=(List (List Int))×Int) (fun | (l3018,size3019)=>(⟨[(1,.ptr 1 0),(3,.row 78 0 l3018.length),(4,.int size3019)],[(78,some (27,.intss l3018))],[(1,some [.int g_0.n,.ro false (.pairs g_0.bars)])]⟩:PS)) (Dp N g_0 k) h (En.of ⟨rfl,rfl,rfl,Y⟩ ⟨rfl,Y⟩ ⟨rfl,Y⟩) (fun _=>rfl) ?_));rintro n ⟨l3018,size3019⟩ h;rw [Dp] at h;show VC _ _ _ (⟨[(1,.ptr 1 0),(3,.row 78 0 l3018.length),(4,.int size3019)],[(78,some (27,.intss l3018))],[(1,some [.int g_0.n,.ro false (.pairs g_0.bars)])]⟩:PS);refine Ag (Ag (Ab (Aa O (Aa O (Af (Ar O (fun hb3=>?_) (fun hb3=>?_)))))))
 ·replace h:=Ak hb3 h;refine Aq (Ag (Ap (Ag (Ab (Aa O (Af (Bz (F:=fun k=>Cf N g_0 size3019 k) h (α:=List (List Int)) (J:=fun (l3757:List (List Int))=>(⟨[(1,.ptr 1 0),(3,.row 78 0 l3757.length),(4,.int size3019)],[(78,some (27,.intss l3757))],[(1,some [.int g_0.n,.ro false (.pairs g_0.bars)])]⟩:PS)) ?_ ?_)))))))
  ·rintro l3757 h;show VC _ _ _ (⟨[(1,.ptr 1 0),(3,.row 78 0 l3757.length),(4,.int size3019)],[(78,some (27,.intss l3757))],[(1,some [.int g_0.n,.ro false (.pairs g_0.bars)])]⟩:PS);refine Ab (Aa O ?_);obtain ⟨hg4,h⟩:=Ac h;refine Ad tt O hg4 (Aa O (Af ?_));show ∃ _,_;exact ⟨(l3757,(size3019-(1:Int))),(En.of ⟨O,O,O,Y⟩ ⟨O,Y⟩ ⟨O,Y⟩),h⟩
  intro k h;refine Ap (Bh (α:=(List (List Int))×Int) (fun | (l3840,mask3841)=>(⟨[(1,.ptr 1 0),(3,.row 78 0 l3840.length),(4,.int size3019),(5,.int mask3841)],[(78,some (27,.intss l3840))],[(1,some [.int g_0.n,.ro false (.pairs g_0.bars)])]⟩:PS)) (Cf N g_0 size3019 k) h (En.of ⟨rfl,rfl,rfl,rfl,Y⟩ ⟨rfl,Y⟩ ⟨rfl,Y⟩) (fun _=>rfl) ?_);rintro n ⟨l3840,mask3841⟩ h;rw [Cf] at h;show VC _ _ _ (⟨[(1,.ptr 1 0),(3,.row 78 0 l3840.length),(4,.int size3019),(5,.int mask3841)],[(78,some (27,.intss l3840))],[(1,some [.int g_0.n,.ro false (.pairs g_0.bars)])]⟩:PS);refine Ag (Ag (Ab (Aa O (Aa O (Aa O ?_)))));obtain ⟨hg5,h⟩:=Ac h;refine Ad tt O hg5 (Aa O (Af (Ar O (fun hb6=>?_) (fun hb6=>?_))))
  ·replace h:=Ak hb6 h;refine Aq (Ag (Ap (Ag (Ab (Aa O (Aa O (Aa O ?_)))))));obtain ⟨v3923,hc7,h⟩:=Ae h;refine Ba (Abg N g_0.n mask3841 v3923 hc7) O O O O O O O O ⟨O,O,Y⟩ (Aa O (Af (Ag (Ab (Aa O (Af (Ag (Ag (Ab ?_)))))))));refine Aa O (Af (Bz (F:=fun k=>Dq N l3840 v3923 k) h (α:=Bool) (J:=fun (inside3962:Bool)=>(⟨[(1,.ptr 1 0),(3,.row 78 0 l3840.length),(4,.int size3019),(5,.int mask3841),(6,.row 1320 0 v3923.length),(7,.bool inside3962)],[(78,some (27,.intss l3840)),(1320,some (3,.ints v3923))],[(1,some [.int g_0.n,.ro false (.pairs g_0.bars)])]⟩:PS)) ?_ ?_))
   ·rintro inside3962 h;show VC _ _ _ (⟨[(1,.ptr 1 0),(3,.row 78 0 l3840.length),(4,.int size3019),(5,.int mask3841),(6,.row 1320 0 v3923.length),(7,.bool inside3962)],[(78,some (27,.intss l3840)),(1320,some (3,.ints v3923))],[(1,some [.int g_0.n,.ro false (.pairs g_0.bars)])]⟩:PS);refine Ag (Ab ?_);iterate 5 refine Aa O ?_
    refine Be O O O (fun hb8=>?_) (fun hb8=>?_)
    ·replace h:=Ak hb8 h;iterate 2 refine Av tt O O O O O hb8 O O O Y ?_
     refine Bm O O O O O hb8 O (Aa O (Be O O O (fun hb9=>?_) (fun hb9=>?_)))
     ·replace h:=Ak hb9 h;iterate 2 refine Av tt O O O O O hb9 O O O Y ?_
      obtain ⟨v3963,hc10,h⟩:=Ae h;refine Eh (Acb N g_0 v3923 v3963 hc10) O O O O hb9 O O O O O O O ⟨⟨O,O,Y⟩,(.inl ⟨O,O⟩),Y⟩ ?_;obtain ⟨v3964,hc11,h⟩:=Ae h;refine Eh (Qk N v3963 v3964 hc11) O O O O hb9 O O O O O O O ⟨⟨O,(.inl ⟨O,O⟩),Y⟩,Y⟩ (Bm O O O O O hb9 O (Af (Ar O (fun hb12=>?_) (fun hb12=>?_))))
      ·replace h:=Ak hb12 h;refine Ab (Aa O (Aa O (oFreeze (t:=76) O O O O (Cr tt O O O O O O O O O O O ?_))));obtain ⟨hg13,h⟩:=Ac h;refine Bt tt O O O O O O O O O O O O O O O O (Nat.le_of_eq (Nat.zero_add _)) hg13 (Aa O (Af (Ab (Aa O ?_))));obtain ⟨hg14,h⟩:=Ac h;refine Ad tt O hg14 (Aa O (Af ?_));show ∃ _,_;exact ⟨((l3840++([v3923]:List (List Int))),(mask3841+(1:Int))),(En.of ⟨O,O,O,O,Y⟩ ⟨O,Y⟩ ⟨O,Y⟩),h⟩
      replace h:=Al hb12 h;refine Aq (Ab (Aa O ?_));obtain ⟨hg15,h⟩:=Ac h;refine Ad tt O hg15 (Aa O (Af ?_));show ∃ _,_;exact ⟨(l3840,(mask3841+(1:Int))),(En.of ⟨O,O,O,O,Y⟩ ⟨O,Y⟩ ⟨O,Y⟩),h⟩
     replace h:=Al hb9 h;iterate 4 refine Kq O O O O hb9 O O ?_
     refine Aw O O O O O hb9 O (Af (Cp O O (Aq (Ab (Aa O ?_)))));obtain ⟨hg16,h⟩:=Ac h;refine Ad tt O hg16 (Aa O (Af ?_));show ∃ _,_;exact ⟨(l3840,(mask3841+(1:Int))),(En.of ⟨O,O,O,O,Y⟩ ⟨O,Y⟩ ⟨O,Y⟩),h⟩
    replace h:=Al hb8 h;iterate 2 refine Kq O O O O hb8 O O ?_
    refine Aw O O O O O hb8 O (Aa O ?_);iterate 4 refine Kq O O O O O O O ?_
    refine Aw O O O O O O O (Af (Cp O O (Aq (Ab (Aa O ?_)))));obtain ⟨hg17,h⟩:=Ac h;refine Ad tt O hg17 (Aa O (Af ?_));show ∃ _,_;exact ⟨(l3840,(mask3841+(1:Int))),(En.of ⟨O,O,O,O,Y⟩ ⟨O,Y⟩ ⟨O,Y⟩),h⟩
   intro k h;refine Ap (Bh (α:=Bool×Int) (fun | (inside3978,i3979)=>(⟨[(1,.ptr 1 0),(3,.row 78 0 l3840.length),(4,.int size3019),(5,.int mask3841),(6,.row 1320 0 v3923.length),(7,.bool inside3978),(8,.int i3979)],[(78,some (27,.intss l3840)),(1320,some (3,.ints v3923))],[(1,some [.int g_0.n,.ro false (.pairs g_0.bars)])]⟩:PS)) (Dq N l3840 v3923 k) h (En.of ⟨rfl,rfl,rfl,rfl,rfl,rfl,rfl,Y⟩ ⟨rfl,rfl,Y⟩ ⟨rfl,Y⟩) (fun _=>rfl) ?_);rintro n ⟨inside3978,i3979⟩ h;rw [Dq] at h;show VC _ _ _ (⟨[(1,.ptr 1 0),(3,.row 78 0 l3840.length),(4,.int size3019),(5,.int mask3841),(6,.row 1320 0 v3923.length),(7,.bool inside3978),(8,.int i3979)],[(78,some (27,.intss l3840)),(1320,some (3,.ints v3923))],[(1,some [.int g_0.n,.ro false (.pairs g_0.bars)])]⟩:PS);refine Ag (Ag (Ab ?_));iterate 4 refine Aa O ?_
   refine Af (Ar O (fun hb18=>?_) (fun hb18=>?_))
   ·replace h:=Ak hb18 h;refine Aq (Ag (Ap (Ag (Ab (Aa O (Af (Ag (Ag (Ab ?_)))))))));refine Aa O (Af (Bz (F:=fun k=>Eg N l3840 v3923 i3979 k) h (α:=Bool) (J:=fun (covered3997:Bool)=>(⟨[(1,.ptr 1 0),(3,.row 78 0 l3840.length),(4,.int size3019),(5,.int mask3841),(6,.row 1320 0 v3923.length),(7,.bool inside3978),(8,.int i3979),(9,.bool covered3997)],[(78,some (27,.intss l3840)),(1320,some (3,.ints v3923))],[(1,some [.int g_0.n,.ro false (.pairs g_0.bars)])]⟩:PS)) ?_ ?_))
    ·rintro covered3997 h;show VC _ _ _ (⟨[(1,.ptr 1 0),(3,.row 78 0 l3840.length),(4,.int size3019),(5,.int mask3841),(6,.row 1320 0 v3923.length),(7,.bool inside3978),(8,.int i3979),(9,.bool covered3997)],[(78,some (27,.intss l3840)),(1320,some (3,.ints v3923))],[(1,some [.int g_0.n,.ro false (.pairs g_0.bars)])]⟩:PS);refine Ab (Aa O (Aa O (Be O O O (fun hb19=>?_) (fun hb19=>?_))))
     ·replace h:=Ak hb19 h;refine Hg O O O O hb19 O O (Bm O O O O O hb19 O (Aa O (Af (Ab (Aa O ?_)))));obtain ⟨hg20,h⟩:=Ac h;refine Ad tt O hg20 (Aa O (Af ?_));show ∃ _,_;exact ⟨(true,(i3979+(1:Int))),(En.of ⟨O,O,O,O,O,O,O,Y⟩ ⟨O,O,Y⟩ ⟨O,Y⟩),h⟩
     replace h:=Al hb19 h;refine Av tt O O O O O hb19 O O O Y (Aw O O O O O hb19 O (Aa O (Af (Ab (Aa O ?_)))));obtain ⟨hg21,h⟩:=Ac h;refine Ad tt O hg21 (Aa O (Af ?_));show ∃ _,_;exact ⟨(covered3997,(i3979+(1:Int))),(En.of ⟨O,O,O,O,O,O,O,Y⟩ ⟨O,O,Y⟩ ⟨O,Y⟩),h⟩
    intro k h;refine Ap (Bh (α:=Bool×Int) (fun | (covered4000,k4001)=>(⟨[(1,.ptr 1 0),(3,.row 78 0 l3840.length),(4,.int size3019),(5,.int mask3841),(6,.row 1320 0 v3923.length),(7,.bool inside3978),(8,.int i3979),(9,.bool covered4000),(10,.int k4001)],[(78,some (27,.intss l3840)),(1320,some (3,.ints v3923))],[(1,some [.int g_0.n,.ro false (.pairs g_0.bars)])]⟩:PS)) (Eg N l3840 v3923 i3979 k) h (En.of ⟨rfl,rfl,rfl,rfl,rfl,rfl,rfl,rfl,rfl,Y⟩ ⟨rfl,rfl,Y⟩ ⟨rfl,Y⟩) (fun _=>rfl) ?_);rintro n ⟨covered4000,k4001⟩ h;rw [Eg] at h;show VC _ _ _ (⟨[(1,.ptr 1 0),(3,.row 78 0 l3840.length),(4,.int size3019),(5,.int mask3841),(6,.row 1320 0 v3923.length),(7,.bool inside3978),(8,.int i3979),(9,.bool covered4000),(10,.int k4001)],[(78,some (27,.intss l3840)),(1320,some (3,.ints v3923))],[(1,some [.int g_0.n,.ro false (.pairs g_0.bars)])]⟩:PS);refine Ag (Ag (Ab ?_));iterate 4 refine Aa O ?_
    refine Af (Ar O (fun hb22=>?_) (fun hb22=>?_))
    ·replace h:=Ak hb22 h;refine Aq (Ag (Ap (Cu (by kernel_rfl) (by kernel_rfl) ?_)));iterate 2 refine Bq tt O (Ai O) O O O Y ?_
     refine Ju O O O (fun hb23=>?_) (fun hb23=>?_)
     ·replace h:=Ak hb23 h;iterate 2 refine Bq tt O (Bl O O O O hb23) O O O Y ?_
      obtain ⟨hg24,h⟩:=Ac h;iterate 2 refine Bq tt O (Bl O O O O hb23) O O O hg24 ?_
      iterate 2 refine Bq tt O (Bl O O O O hb23) O O O Y ?_
      obtain ⟨hg25,h⟩:=Ac h;iterate 2 refine Bq tt O (Bl O O O O hb23) O O O hg25 ?_
      obtain ⟨v4003,hc26,h⟩:=Ae h;refine Xh (Qp N (l3840.getD ((i3979).toNat) []) (v3923.getD ((k4001).toNat) 0) v4003 hc26) O (Bl O O O O hb23) O O O O O O ⟨O,O,Y⟩ (Fk O (Ai O) O O O hb23 O (Bq tt O (Ai O) O O O Y (Ms (Ab (Aa O ?_)))));obtain ⟨hg27,h⟩:=Ac h;refine Ad tt O hg27 (Aa O (Af ?_));show ∃ _,_;exact ⟨(v4003,(k4001+(1:Int))),(En.of ⟨O,O,O,O,O,O,O,O,O,Y⟩ ⟨O,O,Y⟩ ⟨O,Y⟩),h⟩
     replace h:=Al hb23 h;iterate 9 refine cNoT O O O O hb23 O O ?_
     refine Ge O (Ai O) O O O hb23 O (Bq tt O (Ai O) O O O Y (Ms (Ab (Aa O ?_))));obtain ⟨hg28,h⟩:=Ac h;refine Ad tt O hg28 (Aa O (Af ?_));show ∃ _,_;exact ⟨(false,(k4001+(1:Int))),(En.of ⟨O,O,O,O,O,O,O,O,O,Y⟩ ⟨O,O,Y⟩ ⟨O,Y⟩),h⟩
    replace h:=Al hb22 h;refine Bp ?_;show ∃ _,_;exact ⟨covered4000,(En.of ⟨O,O,O,O,O,O,O,O,Y⟩ ⟨O,O,Y⟩ ⟨O,Y⟩),h⟩
   replace h:=Al hb18 h;refine Bp ?_;show ∃ _,_;exact ⟨inside3978,(En.of ⟨O,O,O,O,O,O,Y⟩ ⟨O,O,Y⟩ ⟨O,Y⟩),h⟩
  replace h:=Al hb6 h;refine Bp ?_;show ∃ _,_;exact ⟨l3840,(En.of ⟨O,O,O,Y⟩ ⟨O,Y⟩ ⟨O,Y⟩),h⟩
 replace h:=Al hb3 h;refine Bp ?_;show ∃ _,_;exact ⟨l3018,(En.of ⟨O,Y⟩ ⟨O,Y⟩ trivial),h⟩
def Kz (N:Nat) (other_0:Int) (mask_1:Int):Option (Bool):=
 some ((Wf mask_1 other_0)==mask_1)
theorem Xn (N:Nat) (other_0:Int) (mask_1:Int) (r:Bool) (h:Kz N other_0 mask_1=some r):MCall Tryz.prog 68 [.int other_0,.ptr 1000001 0] [] [1000001] [] [] [[.int mask_1]] [[.int mask_1]] (.bool r):=by
 unfold Kz at h;refine Db (TT:=TT) tt Tryz.func68 O O Tryz.ntmps68 (congrArg Array.toList Tryz.results68) O O O O O fun w0 O0=>(Ag (Ab (Aa O (Af (Ag (Ab ?_))))));iterate 6 refine Aa O ?_
 refine Af (Bg ?_);show ∃ _,_;cases h;exact ⟨[],O,Y,⟨O,Y⟩,O⟩
def Dy (N:Nat) (mask_1_0:Int) (s_0:List Int) (k:Unit→Option (Int×(List Int))):Nat→Int→Option (Int×(List Int))
 | 0,_=>none
 | n+1,x7=>
  cnd (decide (x7<(s_0.length:Int))) (
   grd (0≤x7∧x7<(s_0.length:Int)) <|
   (Kz N (s_0.getD ((x7).toNat) 0) mask_1_0).bind fun v9=>
   cnd v9 (
    some (x7,s_0)) (
    grd (Bc (x7+(1:Int))) <|
    Dy N mask_1_0 s_0 k n (x7+(1:Int)))) (
   k ())
def Lt (N:Nat) (s_0:List Int) (mask_1_0:Int):Option (Int×(List Int)):=
 Dy N mask_1_0 s_0 (fun (_ : Unit) =>
    some ((-1:Int),s_0)) N (0:Int)
theorem Zd (N:Nat) (s_0:List Int) (mask_1_0:Int) (r:Int×(List Int)) (h:Lt N s_0 mask_1_0=some r):MCall Tryz.prog 109 [.row 1000000 0 s_0.length,.clo 68 [1000001]] [1000000] [1000001] [(3,.ints s_0)] [(3,.ints r.2)] [[.int mask_1_0]] [[.int mask_1_0]] (.int r.1):=by
 unfold Lt at h;refine Db (TT:=TT) tt Tryz.func109 O O Tryz.ntmps109 (congrArg Array.toList Tryz.results109) O O O O O fun w0 O0=>(Ag (Ab (Aa O (Af (Ag (Ag (Ab (Aa O (Aa O ?_)))))))));refine Aa O (Af (Bz (F:=fun k=>Dy N mask_1_0 s_0 k) h (α:=Unit) (J:=fun (_:Unit)=>(⟨[],[(1000000,some (3,.ints s_0))],[(1000001,some [.int mask_1_0])]⟩:PS)) ?_ ?_))
 ·rintro ⟨⟩ h;show VC _ _ _ (⟨[],[(1000000,some (3,.ints s_0))],[(1000001,some [.int mask_1_0])]⟩:PS);refine Ag (Ab (Aa O (Af (Bg ?_))));show ∃ _,_;cases h;exact ⟨[1000000],O,⟨O,Y⟩,⟨O,Y⟩,O⟩
 intro k h;refine Ap (Bh (α:=Int) (fun (x7:Int)=>(⟨[(0,.row 1000000 0 s_0.length),(1,.clo 68 [1000001]),(7,.int (s_0.length:Int)),(8,.int x7)],[(1000000,some (3,.ints s_0))],[(1000001,some [.int mask_1_0])]⟩:PS)) (Dy N mask_1_0 s_0 k) h (En.of ⟨O,O,O,O,Y⟩ ⟨O,Y⟩ ⟨O,Y⟩) (fun _=>O) ?_);rintro n x7 h;rw [Dy] at h;show VC _ _ _ (⟨[(0,.row 1000000 0 s_0.length),(1,.clo 68 [1000001]),(7,.int (s_0.length:Int)),(8,.int x7)],[(1000000,some (3,.ints s_0))],[(1000001,some [.int mask_1_0])]⟩:PS);refine Ag (Ab (Aa O (Af (Ag (Ar O (fun hb1=>?_) (fun hb1=>?_))))))
 ·replace h:=Ak hb1 h;refine Aq (Ag (Ap (Ag (Ab (Aa O (Aa O (Af (Ag (Ab ?_)))))))));refine Aa O (Aa O (Aa O ?_));obtain ⟨hg2,h⟩:=Ac h;refine Ad tt O hg2 (Ad tt O hg2 ?_);obtain ⟨v9,hc3,h⟩:=Ae h;refine oMCloX [1000001] [.int (s_0.getD ((x7).toNat) 0)] (Xn N (s_0.getD ((x7).toNat) 0) mask_1_0 v9 hc3) [] [1000001] [] O O O O O O O O O  trivial ⟨O,Y⟩ ⟨⟨O,O⟩,Y⟩ (Af (Ar O (fun hb4=>?_) (fun hb4=>?_)))
  ·replace h:=Ak hb4 h;refine Ag (Ab (Aa O (Aa O (Af (Bg ?_)))));show ∃ _,_;cases h;exact ⟨[1000000],O,⟨O,Y⟩,⟨O,Y⟩,O⟩
  replace h:=Al hb4 h;refine Aq (Ab ?_);obtain ⟨hg5,h⟩:=Ac h;refine Ad tt O hg5 (Aa O (Af ?_));show ∃ _,_;exact ⟨(x7+(1:Int)),(En.of ⟨O,O,O,O,Y⟩ ⟨O,Y⟩ ⟨O,Y⟩),h⟩
 replace h:=Al hb1 h;refine Bp ?_;show ∃ _,_;exact ⟨(),(En.of trivial ⟨O,Y⟩ ⟨O,Y⟩),h⟩
def Hc (N:Nat) (s_0:List Int) (mask_1_0:Int):Option (Bool×(List Int)):=
 (Lt N s_0 mask_1_0).bind fun v1=>
 some ((decide (v1.1≥(0:Int))),v1.2)
theorem We (N:Nat) (s_0:List Int) (mask_1_0:Int) (r:Bool×(List Int)) (h:Hc N s_0 mask_1_0=some r):MCall Tryz.prog 69 [.row 1000000 0 s_0.length,.clo 68 [1000001]] [1000000] [1000001] [(3,.ints s_0)] [(3,.ints r.2)] [[.int mask_1_0]] [[.int mask_1_0]] (.bool r.1):=by
 unfold Hc at h;refine Db (TT:=TT) tt Tryz.func69 O O Tryz.ntmps69 (congrArg Array.toList Tryz.results69) O O O O O fun w0 O0=>(Ag (Ab (Aa O (Af (Ag (Ab (Aa O (Aa O ?_))))))));obtain ⟨v1,hc1,h⟩:=Ae h;refine Co (Zd N s_0 mask_1_0 v1 hc1) [1000000] [1000001] [1000000] O O O O O O ⟨O,Y⟩ ⟨O,Y⟩ ⟨⟨O,O⟩,⟨O,O⟩,Y⟩ (Aa O (Aa O (Af (Bg ?_))));show ∃ _,_;cases h;exact ⟨[1000000],O,⟨O,Y⟩,⟨O,Y⟩,O⟩
def By (N:Nat) (g_0:Grf) (size297:Int) (k:((List (List Int))×(List Int)×Nat)→Option (List (List Int))):Nat→((List (List Int))×(List Int)×Nat×Int)→Option (List (List Int))
 | 0,_=>none
 | n+1,(l348,l349,n350,x351)=>
  cnd (decide (x351<((1:Int)*2 ^ ((g_0.n).toNat)))) (
   (Qj N x351 g_0.n).bind fun v355=>
   cnd ((v355.length:Int)==size297) (
    grd (n350=l349.length) <|
    (Hc N l349 x351).bind fun v356=>
    cnd (!v356.1) (
     (Pw N g_0 x351).bind fun v357=>
     cnd v357 (
      grd (n350≤v356.2.length) <|
      grd (n350+1≤4294967296) <|
      grd (l348.length+1≤4294967296) <|
      grd (Bc (x351+(1:Int))) <|
      By N g_0 size297 k n ((l348++[v355]),((v356.2.take n350)++([x351]:List Int)),((v356.2.take n350)++([x351]:List Int)).length,(x351+(1:Int)))) (
      grd (Bc (x351+(1:Int))) <|
      By N g_0 size297 k n (l348,v356.2,n350,(x351+(1:Int))))) (
     grd (Bc (x351+(1:Int))) <|
     By N g_0 size297 k n (l348,v356.2,n350,(x351+(1:Int))))) (
    grd (Bc (x351+(1:Int))) <|
    By N g_0 size297 k n (l348,l349,n350,(x351+(1:Int))))) (
   k (l348,l349,n350))
def Dl (N:Nat) (g_0:Grf) (k:(List (List Int))→Option (List (List Int))):Nat→((List (List Int))×(List Int)×Nat×Int)→Option (List (List Int))
 | 0,_=>none
 | n+1,(l294,l295,n296,size297)=>
  cnd (decide (size297≥(2:Int))) (
   grd (0≤g_0.n∧g_0.n<64∧Bc ((1:Int)*2 ^ ((g_0.n).toNat))) <|
   By N g_0 size297 (fun (x:(List (List Int))×(List Int)×Nat)=>
     match x with
     | (l341,l342,n343)=>
      grd (Bc (size297-(1:Int))) <|
      Dl N g_0 k n (l341,l342,n343,(size297-(1:Int)))) N (l294,l295,n296,(0:Int))) (
   k l294)
def Kt (N:Nat) (g_0:Grf):Option (List (List Int)):=
 (He N g_0 ([]:List Int)).bind fun v1=>
 cnd (!v1) (
  some ([]:List (List Int))) (
  Dl N g_0 (fun (l179 : List (List Int)) =>
     some l179) N (([]:List (List Int)),([]:List Int),([]:List Int).length,g_0.n))
theorem Zw (N:Nat) (g_0:Grf) (r:List (List Int)) (h:Kt N g_0=some r):PCallD Tryz.prog 19 [gD g_0] 27 3 (.intss r) (.row 0 0 r.length):=by
 unfold Kt at h;refine pcallD_intro (TT:=TT) tt Tryz.func19 O O Tryz.ntmps19 (congrArg Array.toList Tryz.results19) O O O fun w0=>(Ag (Ab (Hz O O O O O O O O O (Aa O (Af (Ag (Ab (Gr tt (Ai O) O O O O (Aa O ?_)))))))));refine Af (Ag (Ag (Ab (Aa O ?_))));obtain ⟨v1,hc1,h⟩:=Ae h;refine Ba (Kv N g_0 ([]:List Int) v1 hc1) O O O O O O O O ⟨⟨O,O,Y⟩,O,Y⟩ (Aa O (Af (Ar O (fun hb2=>?_) (fun hb2=>?_))))
 ·replace h:=Ak hb2 h;refine Ag (Ab (Aa O (Aa O (Af (Jq 2 9001 27 (.intss []) O O O O (vEn (En.newFam 11 3 (.ints []) O O O O (fun _ h=>by cases h) O) (vEn (En.asRefs 9001 11 (q:=.intss []) (qR:=dR 11 (.intss [])) O O O O) (Bg ?_))))))));show ∃ _,_;cases h;exact ⟨9001,11,_,O,O,O,O,O,.eq O,O⟩
 replace h:=Al hb2 h;refine Aq (Ag (Ab (Gr tt (Ai O) O O O O (Aa O (Af (Ag (Ag (Ab (Aa O ?_)))))))));refine Aa O (Aa O (Af (Bz (F:=fun k=>Dl N g_0 k) h (α:=List (List Int)) (J:=fun (l179:List (List Int))=>(⟨[(3,.row 9531 0 l179.length)],[(9531,some (27,dR 10 (.intss l179))),(8589934602,some (3,dF (.intss l179)))],[]⟩:PS)) ?_ ?_)))
 ·rintro l179 h;show VC _ _ _ (⟨[(3,.row 9531 0 l179.length)],[(9531,some (27,dR 10 (.intss l179))),(8589934602,some (3,dF (.intss l179)))],[]⟩:PS);refine Ag (Ab (Aa O (Aa O (Af (Bg ?_)))));show ∃ _,_;cases h;exact ⟨9531,10,_,O,O,O,O,O,.eq O,O⟩
 intro k h;refine Ap (Jq 3 9542 27 (.intss []) rfl rfl rfl rfl (vEn (En.newFam 10 3 (.ints []) rfl rfl rfl rfl (fun _ h=>by cases h) rfl) (vEn (En.asRefs 9542 10 (q:=.intss []) (qR:=dR 10 (.intss [])) rfl rfl rfl rfl) (Jq 4 50 3 (.ints []) rfl rfl rfl rfl (Bh (α:=(List (List Int))×(List Int)×Nat×Int) (fun | (l294,l295,n296,size297)=>(⟨[(1,.ptr 1 0),(3,.row 9542 0 l294.length),(4,.row 50 0 n296),(5,.int size297)],[(9542,some (27,dR 10 (.intss l294))),(8589934602,some (3,dF (.intss l294))),(50,some (3,.ints l295))],[(1,some [.int g_0.n,.ro false (.pairs g_0.bars)])]⟩:PS)) (Dl N g_0 k) h (En.of ⟨rfl,rfl,rfl,rfl,Y⟩ ⟨rfl,rfl,rfl,Y⟩ ⟨rfl,Y⟩) (fun _=>rfl) ?_)))));rintro n ⟨l294,l295,n296,size297⟩ h;rw [Dl] at h;show VC _ _ _ (⟨[(1,.ptr 1 0),(3,.row 9542 0 l294.length),(4,.row 50 0 n296),(5,.int size297)],[(9542,some (27,dR 10 (.intss l294))),(8589934602,some (3,dF (.intss l294))),(50,some (3,.ints l295))],[(1,some [.int g_0.n,.ro false (.pairs g_0.bars)])]⟩:PS);refine Ag (Ag (Ab (Aa O (Aa O (Af (Ar O (fun hb3=>?_) (fun hb3=>?_)))))))
 ·replace h:=Ak hb3 h;refine Aq (Ag (Ap (Ag (Ab (Aa O (Aa O ?_))))));obtain ⟨hg4,h⟩:=Ac h;refine Ad tt rfl hg4 (Aa rfl (Af (Bz (F:=fun k=>By N g_0 size297 k) h (α:=(List (List Int))×(List Int)×Nat) (J:=fun | (l341,l342,n343)=>(⟨[(1,.ptr 1 0),(3,.row 9542 0 l341.length),(4,.row 50 0 n343),(5,.int size297)],[(9542,some (27,dR 10 (.intss l341))),(8589934602,some (3,dF (.intss l341))),(50,some (3,.ints l342))],[(1,some [.int g_0.n,.ro false (.pairs g_0.bars)])]⟩:PS)) ?_ ?_)))
  ·rintro ⟨l341,l342,n343⟩ h;show VC _ _ _ (⟨[(1,.ptr 1 0),(3,.row 9542 0 l341.length),(4,.row 50 0 n343),(5,.int size297)],[(9542,some (27,dR 10 (.intss l341))),(8589934602,some (3,dF (.intss l341))),(50,some (3,.ints l342))],[(1,some [.int g_0.n,.ro false (.pairs g_0.bars)])]⟩:PS);refine Ab (Aa O ?_);obtain ⟨hg5,h⟩:=Ac h;refine Ad tt O hg5 (Aa O (Af ?_));show ∃ _,_;exact ⟨(l341,l342,n343,(size297-(1:Int))),(En.of ⟨O,O,O,O,Y⟩ ⟨O,O,O,Y⟩ ⟨O,Y⟩),h⟩
  intro k h;refine Ap (Bh (α:=(List (List Int))×(List Int)×Nat×Int) (fun | (l348,l349,n350,x351)=>(⟨[(1,.ptr 1 0),(3,.row 9542 0 l348.length),(4,.row 50 0 n350),(5,.int size297),(23,.int ((1:Int)*2 ^ ((g_0.n).toNat))),(24,.int x351)],[(9542,some (27,dR 10 (.intss l348))),(8589934602,some (3,dF (.intss l348))),(50,some (3,.ints l349))],[(1,some [.int g_0.n,.ro false (.pairs g_0.bars)])]⟩:PS)) (By N g_0 size297 k) h (En.of ⟨rfl,rfl,rfl,rfl,rfl,rfl,Y⟩ ⟨rfl,rfl,rfl,Y⟩ ⟨rfl,Y⟩) (fun _=>rfl) ?_);rintro n ⟨l348,l349,n350,x351⟩ h;rw [By] at h;show VC _ _ _ (⟨[(1,.ptr 1 0),(3,.row 9542 0 l348.length),(4,.row 50 0 n350),(5,.int size297),(23,.int ((1:Int)*2 ^ ((g_0.n).toNat))),(24,.int x351)],[(9542,some (27,dR 10 (.intss l348))),(8589934602,some (3,dF (.intss l348))),(50,some (3,.ints l349))],[(1,some [.int g_0.n,.ro false (.pairs g_0.bars)])]⟩:PS);refine Ag (Ab (Aa O (Af (Ag (Ar O (fun hb6=>?_) (fun hb6=>?_))))))
  ·replace h:=Ak hb6 h;refine Aq (Ag (Ap (Ag (Ab (Aa O (Bi tt O O O O O O O O O (Ao tt O O O O O O O O O O O ⟨Y,Y⟩ (Af (Ag ?_)))))))));refine Ab (Aa O (Aa O (Aa O ?_)));obtain ⟨v355,hc7,h⟩:=Ae h;refine Ba (Yh N x351 g_0.n v355 hc7) O O O O O O O O ⟨O,O,Y⟩ (Aa O (Af (Ag (Ab (oMakeFunc O [6] O O O O (Aa O (Af (Ag (Ab ?_)))))))));iterate 5 refine Aa O ?_
   refine Be O O O (fun hb8=>?_) (fun hb8=>?_)
   ·replace h:=Ak hb8 h;iterate 2 refine Av tt O O O O O hb8 O O O Y ?_
    obtain ⟨hg9,h⟩:=Ac h;refine oRowT 37 50 hg9 O ?_;obtain ⟨v356,hc10,h⟩:=Ae h;refine oMCallG (We N l349 x351 v356 hc10) [50] [6] [50] O O O O hb8 O O O O O ⟨O,Y⟩ ⟨O,Y⟩ ⟨⟨O,O⟩,⟨O,O⟩,Y⟩ (Av tt O O O O O hb8 O O O Y (Bm O O O O O hb8 O (Aa O (Be O O O (fun hb11=>?_) (fun hb11=>?_)))))
    ·replace h:=Ak hb11 h;iterate 2 refine Av tt O O O O O hb11 O O O Y ?_
     obtain ⟨v357,hc12,h⟩:=Ae h;refine Eh (Zh N g_0 x351 v357 hc12) O O O O hb11 O O O O O O O ⟨⟨O,O,Y⟩,O,Y⟩ (Bm O O O O O hb11 O (Af (Ar O (fun hb13=>?_) (fun hb13=>?_))))
     ·replace h:=Ak hb13 h;refine Ag (Ab (Aa O (Aa O (Cr tt O O O O O O O O O O O ?_))));obtain ⟨hg14,h⟩:=Ac h;obtain ⟨hg15,h⟩:=Ac h;refine oAppendP tt O O O O O O O O O O O O O O O hg14 (Nat.le_of_eq (Nat.zero_add _)) hg15 (Aa O (Af (Ab (Aa O (Aa O (vEnO (En.adopt 52 1300 9542 10 (q:=(.intss l348)) O O O O O O (by simp [Sq.len,Fq.len,famOf,Fq.hole]) (pushI _ _) O (d':=.irow 10 l348.length v355.length) (by simp [Fq.len]) O) (oBuildI tt O O O O O O O O O O ?_)))))));obtain ⟨hg16,h⟩:=Ac h;refine oAppendD (.intss (l348++[v355])) tt (q:=(.intss l348)) O O O O O O O O (Nat.le_of_eq (Nat.zero_add _)) O O O O O O O (appI 10 l348 v355) hg16 (Aa O (Af (Ab ?_)));obtain ⟨hg17,h⟩:=Ac h;refine Ad tt O hg17 (Aa O (Af ?_));show ∃ _,_;exact ⟨((l348++[v355]),((v356.2.take n350)++([x351]:List Int)),((v356.2.take n350)++([x351]:List Int)).length,(x351+(1:Int))),(En.of ⟨O,O,O,O,O,O,Y⟩ ⟨O,O,O,Y⟩ ⟨O,Y⟩),h⟩
     replace h:=Al hb13 h;refine Aq (Ab ?_);obtain ⟨hg18,h⟩:=Ac h;refine Ad tt O hg18 (Aa O (Af ?_));show ∃ _,_;exact ⟨(l348,v356.2,n350,(x351+(1:Int))),(En.of ⟨O,O,O,O,O,O,Y⟩ ⟨O,O,O,Y⟩ ⟨O,Y⟩),h⟩
    replace h:=Al hb11 h;iterate 3 refine Kq O O O O hb11 O O ?_
    refine Aw O O O O O hb11 O (Af (Cp O O (Aq (Ab ?_))));obtain ⟨hg19,h⟩:=Ac h;refine Ad tt O hg19 (Aa O (Af ?_));show ∃ _,_;exact ⟨(l348,v356.2,n350,(x351+(1:Int))),(En.of ⟨O,O,O,O,O,O,Y⟩ ⟨O,O,O,Y⟩ ⟨O,Y⟩),h⟩
   replace h:=Al hb8 h;iterate 4 refine Kq O O O O hb8 O O ?_
   refine Aw O O O O O hb8 O (Aa O ?_);iterate 3 refine Kq O O O O O O O ?_
   refine Aw O O O O O O O (Af (Cp O O (Aq (Ab ?_))));obtain ⟨hg20,h⟩:=Ac h;refine Ad tt O hg20 (Aa O (Af ?_));show ∃ _,_;exact ⟨(l348,l349,n350,(x351+(1:Int))),(En.of ⟨O,O,O,O,O,O,Y⟩ ⟨O,O,O,Y⟩ ⟨O,Y⟩),h⟩
  replace h:=Al hb6 h;refine Bp ?_;show ∃ _,_;exact ⟨(l348,l349,n350),(En.of ⟨O,O,O,O,Y⟩ ⟨O,O,O,Y⟩ ⟨O,Y⟩),h⟩
 replace h:=Al hb3 h;refine Bp ?_;show ∃ _,_;exact ⟨l294,(En.ren [9531] [9542] O ⟨.inr O,Y⟩ ⟨.inr O,.inr O,Y⟩ trivial),h⟩
end
section
variable {N:Nat}
theorem Abz {α:Type} {l:List α} {i:Nat} (d:α) (hi:i<l.length):l.drop i=l.getD i d::l.drop (i+1):=by
 rw [List.drop_eq_getElem_cons hi,List.getD_eq_getElem?_getD,List.getElem?_eq_getElem hi]; rfl
theorem idxF_l (hN:4000000≤N) {l:List Int} (hl:l.length≤3000000) (m:Int):∀ (fuel i:Nat),i≤l.length→l.length<fuel+i→∃ v:Int,Dy N m l (fun (_:Unit)=>some ((-1:Int),l)) fuel (i:Int)=some (v,l)∧(decide (v≥(0:Int)))=(l.drop i).any fun o=>Wf m o==m:=by
 intro fuel
 induction fuel with
 | zero=>intro i h1 h2; omega
 | succ fuel ih=>
  intro i h1 h2;rw [Dy];by_cases hi:i<l.length
  ·rw [Bb (by omega),Am (by omega),show ((i:Int)).toNat=i from by omega,Abz 0 hi,List.any_cons];unfold Kz;rw [Option.bind_some]
   cases Wf m (l.getD i 0)==m with
   | true=>rw [cnd_true]; exact ⟨(i:Int),rfl,by rw [Bool.true_or]; exact decide_eq_true (by omega)⟩
   | false=>rw [cnd_false,Bf (by omega) (by omega),Ah,Bool.false_or]; exact ih (i+1) (by omega) (by omega)
  rw [Ay (by omega),show i=l.length from by omega,List.drop_length];exact ⟨-1,O,O⟩
theorem conF_s (hN:4000000≤N) {l:List Int} (hl:l.length≤3000000) (m:Int):Hc N l m=some (l.any (fun o=>Wf m o==m),l):=by
 obtain ⟨v,h1,h2⟩:=idxF_l hN hl m N 0 (by omega) (by omega);rw [List.drop_zero] at h2;unfold Hc Lt;rw [show Dy N m l (fun (_:Unit)=>some ((-1:Int),l)) N (0:Int)=some (v,l) from h1,Option.bind_some];show some (decide (v≥(0:Int)),l)=_;rw [h2]
theorem gp_l4 (hN:4000000≤N) {L:List (List Int)} {U:List Int} {i:Nat} (hi:i<L.length) (hL:L.length≤3000000) (hb:(L.getD i []).length≤1000) (hU:U.length≤1000) (kk:Bool→Option (List (List Int))):∀ (fuel j:Nat) (f:Bool),j≤U.length→U.length<fuel+j→Eg N L U (i:Int) kk fuel (f,(j:Int))=kk (f&&(U.drop j).all fun x=>(L.getD i []).contains x):=by
 intro fuel
 induction fuel with
 | zero=>intro j f h1 h2; omega
 | succ fuel ih=>
  intro j f h1 h2;rw [Eg];by_cases hj:j<U.length
  ·rw [Bb (by omega),Abz 0 hj,List.all_cons]
   cases f with
   | true=>
    rw [cnd_true,Am (by omega),Am (by omega),show ((j:Int)).toNat=j from by omega,show ((i:Int)).toNat=i from by omega,Vl N hN (by omega),Option.bind_some,Bf (by omega) (by omega),Ah];refine (ih (j+1) _ (by omega) (by omega)).trans ?_;rw [Bool.true_and]
   | false=>
    rw [cnd_false,Bf (by omega) (by omega),Ah];refine (ih (j+1) _ (by omega) (by omega)).trans ?_;simp
  rw [Ay (by omega),show j=U.length from by omega,List.drop_length]; simp
theorem gp_l3 (hN:4000000≤N) {L:List (List Int)} {U:List Int} (hL:L.length≤3000000) (hb:∀ i,i<L.length→(L.getD i []).length≤1000) (hU:U.length≤1000) (kk:Bool→Option (List (List Int))):∀ (fuel i:Nat) (f:Bool),i≤L.length→L.length<fuel+i→Dq N L U kk fuel (f,(i:Int))=kk (f || (L.drop i).any fun A=>U.all fun x=>A.contains x):=by
 intro fuel
 induction fuel with
 | zero=>intro i f h1 h2; omega
 | succ fuel ih=>
  intro i f h1 h2;rw [Dq];by_cases hi:i<L.length
  ·have hz:=fun kk=>gp_l4 hN hi hL (hb i hi) hU kk N 0 true (by omega) (by omega);simp only [List.drop_zero,Bool.true_and] at hz;rw [Bb (by omega),Abz [] hi,List.any_cons];refine (hz _).trans ?_
   cases f with
   | true=>
    rw [cnd_true,Bf (by omega) (by omega),Ah];refine (ih (i+1) _ (by omega) (by omega)).trans ?_;simp
   | false=>
    rw [cnd_false,Bf (by omega) (by omega),Ah];refine (ih (i+1) _ (by omega) (by omega)).trans ?_;rw [Bool.false_or]
  rw [Ay (by omega),show i=L.length from by omega,List.drop_length]; simp
theorem sub_mask {n m o:Nat} (hn8:n≤8) (hm:m<2 ^ n) (ho:o<2 ^ n):((Ec (m:Int) n).all fun x=>(Ec (o:Int) n).contains x)=(Wf (m:Int) (o:Int)==(m:Int)):=by
 have h8:2 ^ n≤2 ^ 8:=Nat.pow_le_pow_right (by omega) hn8;have h88:(2:Nat) ^ 8=256:=by decide
 rw [←base_all hn8 ho hm (A:=Ec (m:Int) n) (fun x hx=>Zb hx) (fun j hj=>by rw [Ky hj,Jg (by omega) (by omega)])];rw [Xx (by omega) (by omega),Xx (by omega) (by omega),Nat.and_comm]
theorem gp_l2 (hN:4000000≤N) {g:Grf} (hb:g.bars.length≤1000) {n:Nat} (hgn:g.n=(n:Int)) (hn8:n≤8) {size:Int} {kS:List (List Int)→Option (List (List Int))} {kI:List (List Int)×List Int×Nat→Option (List (List Int))} :
  ∀ (k i:Nat) (M:List Nat) (fS fI:Nat),i+k=2 ^ n→k<fS→k<fI→(∀ o∈M,o<2 ^ n)→M.length≤1000000-k →
  ∃ M':List Nat,(∀ o∈M',o<2 ^ n)∧M'.length≤M.length+k ∧
   Cf N g size kS fS (M.map (fun m:Nat=>Ec (m:Int) n),(i:Int))=kS (M'.map fun m:Nat=>Ec (m:Int) n) ∧
   By N g size kI fI (M.map (fun m:Nat=>Ec (m:Int) n),M.map (fun m:Nat=>(m:Int)),M.length,(i:Int))=kI (M'.map (fun m:Nat=>Ec (m:Int) n),M'.map (fun m:Nat=>(m:Int)),M'.length)∧(∀ o∈M,o∈M') ∧
   ∀ j:Nat,i≤j→j<2 ^ n→((Ec (j:Int) n).length:Int)=size→(∃ v,Fg N g (Ec (j:Int) n)=some v∧Bj N v=some true)→∃ o∈M',Wf (j:Int) (o:Int)=(j:Int):=by
 have h8:2 ^ n≤2 ^ 8:=Nat.pow_le_pow_right (by omega) hn8;have h88:(2:Nat) ^ 8=256:=by decide
 have hpw:(1:Int)*2 ^ n=((2 ^ n:Nat):Int):=by rw [Int.one_mul]; simp
 have e0:g.n.toNat=n:=by omega
 have hpos:(0:Int)≤((2 ^ n:Nat):Int):=Int.natCast_nonneg _;have hR:Bc ((2 ^ n:Nat):Int):=⟨by omega,by omega⟩;intro k
 induction k with
 | zero=>
  intro i M fS fI h1 h2 h3 h4 h5;obtain ⟨fS,rfl⟩:∃ f,fS=f+1:=⟨fS-1,by omega⟩;obtain ⟨fI,rfl⟩:∃ f,fI=f+1:=⟨fI-1,by omega⟩;rw [Cf,By,e0,hpw,Am ⟨by omega,by omega,hR⟩,Ay (by omega),Ay (by omega)];exact ⟨M,h4,by omega,O,O,(fun _ h=>h),fun j g1 g2=>by omega⟩
 | succ k ih=>
  intro i M fS fI h1 h2 h3 h4 h5;obtain ⟨fS,rfl⟩:∃ f,fS=f+1:=⟨fS-1,by omega⟩;obtain ⟨fI,rfl⟩:∃ f,fI=f+1:=⟨fI-1,by omega⟩;have hi:i<2 ^ n:=by omega
  have hsl:=Jm (i:Int) n;obtain ⟨v,bb,w1,w2,w3⟩:=glob_x hN hb hgn hn8 hi
  have hl3:∀ kk,Dq N (M.map fun m:Nat=>Ec (m:Int) n) (Ec (i:Int) n) kk N (false,(0:Int))=kk ((M.map fun m:Nat=>(m:Int)).any fun o=>Wf (i:Int) o==(i:Int)):=fun kk=>by
   have:=gp_l3 hN (L:=M.map fun m:Nat=>Ec (m:Int) n) (U:=Ec (i:Int) n) (by rw [List.length_map]; omega) (fun j hj=>by
    rw [List.length_map] at hj;rw [List.getD_eq_getElem?_getD,List.getElem?_map,List.getElem?_eq_getElem hj];have:=Jm (M[j]:Int) n
    simp only [Option.map_some,Option.getD_some]; omega) (by omega) kk N 0 false (by rw [List.length_map]; omega) (by rw [List.length_map]; omega)
   rw [List.drop_zero,Bool.false_or,List.any_map] at this;refine this.trans (congrArg kk ?_);rw [List.any_map,Bool.eq_iff_iff,List.any_eq_true,List.any_eq_true];constructor
   ·rintro ⟨o,ho,e⟩; exact ⟨o,ho,by rw [←e]; exact (sub_mask hn8 hi (h4 o ho)).symm⟩
   rintro ⟨o,ho,e⟩; exact ⟨o,ho,by rw [←e]; exact sub_mask hn8 hi (h4 o ho)⟩
  have hcf:=conF_s hN (l:=M.map fun m:Nat=>(m:Int)) (by rw [List.length_map]; omega) (i:Int);rw [Cf,By,e0,hpw,Am ⟨by omega,by omega,hR⟩,Bb (show (i:Int)<((2 ^ n:Nat):Int) by omega),Bb (show (i:Int)<((2 ^ n:Nat):Int) by omega),setS_s hN (by omega),setI_s hN (by omega),e0,Option.bind_some,Option.bind_some,hl3]
  have no:∃ M':List Nat,(∀ o∈M',o<2 ^ n)∧M'.length≤M.length+(k+1) ∧
    Cf N g size kS fS (M.map (fun m:Nat=>Ec (m:Int) n),((i+1:Nat):Int))=kS (M'.map fun m:Nat=>Ec (m:Int) n) ∧
    By N g size kI fI (M.map (fun m:Nat=>Ec (m:Int) n),M.map (fun m:Nat=>(m:Int)),M.length,((i+1:Nat):Int))=kI (M'.map (fun m:Nat=>Ec (m:Int) n),M'.map (fun m:Nat=>(m:Int)),M'.length)∧(∀ o∈M,o∈M') ∧
    ∀ j:Nat,i+1≤j→j<2 ^ n→((Ec (j:Int) n).length:Int)=size→(∃ v,Fg N g (Ec (j:Int) n)=some v∧Bj N v=some true)→∃ o∈M',Wf (j:Int) (o:Int)=(j:Int):=by
   obtain ⟨M',k1,k2,k3,k4,k5,k6⟩:=ih (i+1) M fS fI (by omega) (by omega) (by omega) h4 (by omega);exact ⟨M',k1,by omega,k3,k4,k5,k6⟩
  cases hsz:((Ec (i:Int) n).length:Int)==size with
  | false=>
   obtain ⟨M',k1,k2,k3,k4,k5,k6⟩:=no;refine ⟨M',k1,k2,?_,?_,k5,fun j g1 g2 g3 g4=>?_⟩
   rotate_left 2
   ·by_cases e:j=i
    ·subst e; rw [g3,beq_self_eq_true] at hsz; cases hsz
    exact k6 j (by omega) g2 g3 g4
   ·rw [cnd_false,Bf (by omega) (by omega),Ah]; exact k3
   rw [cnd_false,Bf (by omega) (by omega),Ah]; exact k4
  | true=>
   rw [cnd_true,cnd_true,Am (p:=M.length=(M.map fun m:Nat=>(m:Int)).length) (by rw [List.length_map]),hcf,Option.bind_some];show ∃ M':List Nat,_∧_∧_∧cnd (!((M.map fun m:Nat=>(m:Int)).any fun o=>Wf (i:Int) o==(i:Int))) _ _=_∧_
   cases hany:((M.map fun m:Nat=>(m:Int)).any fun o=>Wf (i:Int) o==(i:Int)) with
   | true=>
    obtain ⟨M',k1,k2,k3,k4,k5,k6⟩:=no;refine ⟨M',k1,k2,?_,?_,k5,fun j g1 g2 g3 g4=>?_⟩
    rotate_left 2
    ·by_cases e:j=i
     ·subst e;rw [List.any_map,List.any_eq_true] at hany;obtain ⟨o,o1,o2⟩:=hany;exact ⟨o,k5 o o1,by simpa using o2⟩
     exact k6 j (by omega) g2 g3 g4
    ·rw [Bool.not_true,cnd_false,Bf (by omega) (by omega),Ah]; exact k3
    rw [Bool.not_true,cnd_false,Bf (by omega) (by omega),Ah]; exact k4
   | false=>
    rw [Bool.not_false,cnd_true,cnd_true,w1,Option.bind_some,w2,Option.bind_some,w3,Option.bind_some]
    cases bb with
    | false=>
     obtain ⟨M',k1,k2,k3,k4,k5,k6⟩:=no;refine ⟨M',k1,k2,?_,?_,k5,fun j g1 g2 g3 g4=>?_⟩
     rotate_left 2
     ·by_cases e:j=i
      ·subst e;obtain ⟨u,u1,u2⟩:=g4;rw [w1] at u1;cases u1;rw [w2] at u2;cases u2
      exact k6 j (by omega) g2 g3 g4
     ·rw [cnd_false,Bf (by omega) (by omega),Ah]; exact k3
     rw [cnd_false,Bf (by omega) (by omega),Ah]; exact k4
    | true=>
     obtain ⟨M',k1,k2,k3,k4,k5,k6⟩:=ih (i+1) (M++[i]) fS fI (by omega) (by omega) (by omega) (fun o ho=>by
      rw [List.mem_append,List.mem_singleton] at ho;rcases ho with ho | rfl
      ·exact h4 o ho
      exact hi) (by rw [List.length_append,List.length_singleton]; omega)
     rw [List.length_append,List.length_singleton] at k2;have hml:(M.map fun m:Nat=>Ec (m:Int) n).length=M.length:=List.length_map ..;have hml2:(M.map fun m:Nat=>(m:Int)).length=M.length:=List.length_map ..;refine ⟨M',k1,by omega,?_,?_,(fun o ho=>k5 o (List.mem_append.2 (.inl ho))),fun j g1 g2 g3 g4=>?_⟩
     rotate_left 2
     ·by_cases e:j=i
      ·subst e;exact ⟨j,k5 j (by simp),by rw [Xx (by omega) (by omega),Nat.and_self]⟩
      exact k6 j (by omega) g2 g3 g4
     ·rw [cnd_true,Am (by omega),Bf (by omega) (by omega),Ah];rw [List.map_append] at k3; exact k3
     rw [cnd_true,Am (p:=M.length≤(M.map fun m:Nat=>(m:Int)).length) (by omega),Am (by omega),Am (by omega),Bf (by omega) (by omega),Ah];rw [List.map_append,List.map_append,List.length_append] at k4;rw [show (M.map fun m:Nat=>(m:Int)).take M.length=M.map fun m:Nat=>(m:Int) from by rw [←hml2,List.take_length],List.length_append,hml2];exact k4
theorem gp_l1 (hN:4000000≤N) {g:Grf} (hb:g.bars.length≤1000) {n:Nat} (hgn:g.n=(n:Int)) (hn8:n≤8) :
  ∀ (s:Nat) (M:List Nat) (fS fI:Nat),s≤8→s+2<fS→s+2<fI→(∀ o∈M,o<2 ^ n)→M.length+s*256≤3000 →
  ∃ M':List Nat,(∀ o∈M',o<2 ^ n)∧M'.length≤3000 ∧
   Dp N g (fun (l2002:List (List Int))=>some l2002) fS (M.map (fun m:Nat=>Ec (m:Int) n),(s:Int))=some (M'.map fun m:Nat=>Ec (m:Int) n) ∧
   Dl N g (fun (l179:List (List Int))=>some l179) fI (M.map (fun m:Nat=>Ec (m:Int) n),M.map (fun m:Nat=>(m:Int)),M.length,(s:Int))=some (M'.map fun m:Nat=>Ec (m:Int) n)∧(∀ o∈M,o∈M') ∧
   ∀ j:Nat,1≤j→j<2 ^ n→2≤(Ec (j:Int) n).length→(Ec (j:Int) n).length≤s→(∃ v,Fg N g (Ec (j:Int) n)=some v∧Bj N v=some true)→∃ o∈M',Wf (j:Int) (o:Int)=(j:Int):=by
 have h8:2 ^ n≤2 ^ 8:=Nat.pow_le_pow_right (by omega) hn8;have h88:(2:Nat) ^ 8=256:=by decide
 have hone:0<2 ^ n:=Nat.pow_pos (by omega);have hpw:(1:Int)*2 ^ n=((2 ^ n:Nat):Int):=by rw [Int.one_mul]; simp
 have e0:g.n.toNat=n:=by omega
 have hpos:(0:Int)≤((2 ^ n:Nat):Int):=Int.natCast_nonneg _;have hR:Bc ((2 ^ n:Nat):Int):=⟨by omega,by omega⟩;intro s
 induction s with
 | zero=>
  intro M fS fI h1 h2 h3 h4 h5;obtain ⟨fS,rfl⟩:∃ f,fS=f+1:=⟨fS-1,by omega⟩;obtain ⟨fI,rfl⟩:∃ f,fI=f+1:=⟨fI-1,by omega⟩;rw [Dp,Dl,Ay (by omega),Ay (by omega)];exact ⟨M,h4,by omega,O,O,(fun _ h=>h),fun j g1 g2 g3 g4=>by omega⟩
 | succ s ih=>
  intro M fS fI h1 h2 h3 h4 h5;obtain ⟨fS,rfl⟩:∃ f,fS=f+1:=⟨fS-1,by omega⟩;obtain ⟨fI,rfl⟩:∃ f,fI=f+1:=⟨fI-1,by omega⟩;rw [Dp,Dl];by_cases hs:2≤s+1
  ·rw [Bb (by omega),Bb (by omega),e0,hpw,Am ⟨by omega,by omega,hR⟩]
   obtain ⟨M1,a1,a2,a3,a4,a5,a6⟩:=gp_l2 hN hb hgn hn8 (size:=((s+1:Nat):Int)) (kS:=fun (l3757:List (List Int))=>grd (Bc (((s+1:Nat):Int)-(1:Int))) <| Dp N g (fun (l2002:List (List Int))=>some l2002) fS (l3757,(((s+1:Nat):Int)-(1:Int))))
    (kI:=fun (x:(List (List Int))×(List Int)×Nat)=>match x with | (l341,l342,n343)=>grd (Bc (((s+1:Nat):Int)-(1:Int))) <| Dl N g (fun (l179:List (List Int))=>some l179) fI (l341,l342,n343,(((s+1:Nat):Int)-(1:Int)))) (2 ^ n-1) 1 M N (N-1) (by omega) (by omega) (by omega) h4 (by omega)
   have e1:((s+1:Nat):Int)-1=(s:Int):=by omega
   obtain ⟨M2,b1,b2,b3,b4,b5,b6⟩:=ih M1 fS fI (by omega) (by omega) (by omega) a1 (by omega);refine ⟨M2,b1,b2,?_,?_,(fun o ho=>b5 o (a5 o ho)),fun j g1 g2 g3 g4 g5=>?_⟩
   rotate_left 2
   ·by_cases e:(Ec (j:Int) n).length=s+1
    ·obtain ⟨o,o1,o2⟩:=a6 j g1 g2 (by omega) g5;exact ⟨o,b5 o o1,o2⟩
    exact b6 j g1 g2 g3 (by omega) g5
   ·refine Eq.trans a3 ?_;show grd (Bc (((s+1:Nat):Int)-(1:Int))) _=_;rw [Bf (by omega) (by omega),e1]; exact b3
   obtain ⟨P,rfl⟩:∃ P,N=P+1:=⟨N-1,by omega⟩
   have hz:Ec ((0:Nat):Int) n=[]:=by
    unfold Ec
    have:(List.range n).filter (Acj ((0:Nat):Int))=[]:=List.filter_eq_nil_iff.2 fun j hj=>by
     have:=List.mem_range.1 hj;rw [Jg (by omega) (by omega)]; simp
    rw [this]; rfl
   have hz':Ec (0:Int) n=[]:=hz;rw [By,e0,hpw,Bb (show (0:Int)<((2 ^ n:Nat):Int) by omega),setI_s hN (by omega),e0,Option.bind_some,hz']
   have hne:((([]:List Int).length:Int)==((s+1:Nat):Int))=false:=by
    rw [beq_eq_false_iff_ne]; simp; omega
   rw [hne,cnd_false,Bf (by omega) (by omega)];refine Eq.trans a4 ?_;show grd (Bc (((s+1:Nat):Int)-(1:Int))) _=_;rw [Bf (by omega) (by omega),e1]; exact b4
  rw [Ay (by omega),Ay (by omega)];exact ⟨M,h4,by omega,O,O,(fun _ h=>h),fun j g1 g2 g3 g4=>by omega⟩
theorem pieces_y (hN:4000000≤N) {g:Grf} (hb:g.bars.length≤3000000):∃ r:List (List Int),r.length≤3000∧(∀ x∈r,x.length≤8)∧Kw N g=some r∧Kt N g=some r∧(Cc g=false→r=[]) ∧
  (Cc g=true→∀ j:Nat,1≤j→j<2 ^ g.n.toNat→2≤(Ec (j:Int) g.n.toNat).length→(∃ v,Fg N g (Ec (j:Int) g.n.toNat)=some v∧Bj N v=some true)→∃ U∈r,∀ x∈Ec (j:Int) g.n.toNat,x∈U):=by
 unfold Kw Kt;rw [Qm N hN hb,Wz N hN hb (by simp),Option.bind_some,Option.bind_some];have ea:Fl g []=Cc g:=by simp [Fl,asc]
 rw [ea]
 cases hs:Cc g with
 | false=>exact ⟨[],by simp,by simp,rfl,rfl,(fun _=>rfl),fun h=>by cases h⟩
 | true=>
  rw [Bool.not_true,cnd_false,cnd_false];simp only [Cc,Bool.and_eq_true] at hs;have hp:=As hs.1;obtain ⟨n,hgn⟩:∃ n:Nat,g.n=(n:Int):=⟨g.n.toNat,by omega⟩;have hn8:n≤8:=by omega
  have h8:2 ^ n≤2 ^ 8:=Nat.pow_le_pow_right (by omega) hn8;have h88:(2:Nat) ^ 8=256:=by decide
  obtain ⟨M',a1,a2,a3,a4,_,a6⟩:=gp_l1 hN (g:=g) (by omega) hgn hn8 n [] N N hn8 (by omega) (by omega) (by simp) (by simp; omega);rw [hgn];refine ⟨M'.map fun m:Nat=>Ec (m:Int) n,by rw [List.length_map]; exact a2,fun x hx=>?_,a3,a4,(fun h=>by cases h),fun _ j g1 g2 g3 g4=>?_⟩
  ·obtain ⟨m,_,rfl⟩:=List.mem_map.1 hx;have:=Jm (m:Int) n; omega
  rw [Int.toNat_natCast] at g2 g3 g4 ⊢;obtain ⟨o,o1,o2⟩:=a6 j g1 g2 g3 (Jm _ _) g4;refine ⟨_,List.mem_map.2 ⟨o,o1,O⟩,fun x hx=>?_⟩;have:=sub_mask hn8 g2 (a1 o o1);rw [o2,beq_self_eq_true,List.all_eq_true] at this;simpa using this x hx
end
section
variable {N:Nat}
theorem next_l1 (hN:4000000≤N) {g:Grf} (hg:Bd g=true) (h24:g.bars.length<24) {A:List Int} (hA:A.length≤3000000) (ha:Fl g A=true) {V:List (Int×Int)} (hV:V.length≤1000) {kS kI:Bool×Int×Int→Option ((Int×Int)×Bool)} {l0:Int} {Q:(Int×Int)×Bool→Prop} (hk:∀ x,(x.1=true→l0<g.n)→∃ r,kS x=some r∧kI x=some r∧Q r) :
  ∀ (fuel i:Nat) (most:Int) (f:Bool) (c d:Int),i≤V.length→V.length<fuel+i→l0≤most→(f=true→l0<g.n)→∃ r,Cl N g A V kS fuel (most,f,(i:Int),c,d)=some r∧Er N g A V kI fuel (f,most,(i:Int),c,d)=some r∧Q r:=by
 intro fuel
 induction fuel with
 | zero=>intro i most f c d h1 h2; omega
 | succ fuel ih=>
  intro i most f c d h1 h2 h3 h4;have hp:=As hg;rw [Cl,Er];by_cases hi:i<V.length
  ·have e1:Fv N g (V.getD i (0,0))=some ⟨g.n,Ack (g.bars++[V.getD i (0,0)])⟩:=put_srt hN (c:=g.n) (L:=g.bars) (by omega) (Aa6 hg) _;have e2:Md N g [((V.getD i (0,0)).1,(V.getD i (0,0)).2)]=some ⟨g.n,Ack (g.bars++[V.getD i (0,0)])⟩:=Ac9 hN (c:=g.n) (L:=g.bars) (by omega) _;have hl:(Ack (g.bars++[V.getD i (0,0)])).length≤3000000:=by rw [Aaa,List.length_append]; simp; omega
   obtain ⟨L,l1,l2,l3,l4,l5,_⟩:=Abx hN (g:=⟨g.n,Ack (g.bars++[V.getD i (0,0)])⟩) hl hA
   have hLn:(L.length:Int)≤g.n:=by
    have:=Aah (n:=g.n.toNat) l4 fun v hv=>by have:=l5 v hv; simp only at this; omega
    omega
   rw [Bb (show (i:Int)<(V.length:Int) by omega),Bb (show (i:Int)<(V.length:Int) by omega),Wq N hN (by omega) hA,Option.bind_some,ha,cnd_true,Bb (show (g.bars.length:Int)<24 by omega),Am (p:=0≤(i:Int)∧(i:Int)<(V.length:Int)) (by omega),Am (p:=0≤(i:Int)∧(i:Int)<(V.length:Int)) (by omega),show ((i:Int)).toNat=i from by omega,e1,e2,Option.bind_some,Option.bind_some,l2,l3,Option.bind_some,Option.bind_some];by_cases hm:(L.length:Int) > most
   ·obtain ⟨r,k1,k2,k3⟩:=ih (i+1) (L.length:Int) true (V.getD i (0,0)).1 (V.getD i (0,0)).2 (by omega) (by omega) (by omega) (fun _=>by omega);refine ⟨r,?_,?_,k3⟩
    ·rw [Bb hm,Bf (by omega) (by omega),Ah]; exact k1
    rw [Bb hm,Bf (by omega) (by omega),Ah]; exact k2
   obtain ⟨r,k1,k2,k3⟩:=ih (i+1) most f c d (by omega) (by omega) h3 h4;refine ⟨r,?_,?_,k3⟩
   ·rw [Ay hm,Bf (by omega) (by omega),Ah]; exact k1
   rw [Ay hm,Bf (by omega) (by omega),Ah]; exact k2
  rw [Ay (by omega),Ay (by omega)];exact hk (f,c,d) h4
theorem next_y (hN:4000000≤N) {g:Grf} (hb:g.bars.length≤3000000) {A:List Int} (hA:A.length≤3000000):∃ (r:Int×Int) (b:Bool) (L:List Int),Lr N g A=some (r,b)∧Kl N g A=some (r,b)∧Ea N g A=some L∧(b=true→(L.length:Int)<g.n):=by
 unfold Lr;obtain ⟨L,l1,l2,l3⟩:=located_x hN hb hA
 suffices hh:∃ (r:Int×Int) (b:Bool),((Gd N g).bind fun v1=>(some L).bind fun v2=>Cl N g A v1 (fun (x:Bool×Int×Int)=>match x with | (found17,c18,c19)=>some ((c18,c19),found17)) N ((v2.length:Int),false,(0:Int),(0:Int),(0:Int)))=some (r,b)∧Kl N g A=some (r,b)∧(b=true→(L.length:Int)<g.n) by
  obtain ⟨r,b,q1,q2,q3⟩:=hh;refine ⟨r,b,L,?_,q2,l3,q3⟩;rw [←q1,←l2]
 unfold Kl;rw [l3,Wz N hN hb hA,Option.bind_some,Option.bind_some];obtain ⟨M,hM⟩:∃ M,N=M+1:=⟨N-1,by omega⟩
 cases hg:Bd g with
 | false=>
  have ho:Fl g A=false:=by unfold Fl Cc; rw [hg]; rfl
  have hm:Gd N g=some []:=by
   unfold Gd;subst hM;rw [Cg,Ca _ hN,Option.bind_some,hg,cnd_false];cases decide ((0:Int)<g.n) <;> rfl
  rw [ho,hm,Option.bind_some,Option.bind_some];refine ⟨(0,0),false,?_,O,fun h=>by cases h⟩;subst hM;rw [Cl,Ay (by simp)]
 | true=>
  have hp:=As hg;obtain ⟨m1,m2⟩:=missing_x hN hb hg;have hml:=Xl g.bars g.n.toNat g.n.toNat;have hm3:=Nat.mul_le_mul (show g.n.toNat≤8 by omega) (show g.n.toNat≤8 by omega);rw [m1,m2,Option.bind_some,Option.bind_some,Option.bind_some];generalize Pp g.bars g.n.toNat g.n.toNat=V at hml
  have stop:∀ (X:Option ((Int×Int)×Bool)),(Fl g A=false∨¬ (g.bars.length:Int)<24)→Cl N g A V (fun (x:Bool×Int×Int)=>match x with | (found17,c18,c19)=>some ((c18,c19),found17)) N ((L.length:Int),false,(0:Int),(0:Int),(0:Int))=some ((0,0),false):=by
   intro _ h;subst hM;rw [Cl,Wq _ hN hb hA,Option.bind_some];rcases h with h | h
   ·rw [h,cnd_false];cases decide ((0:Int)<(V.length:Int)) <;> rfl
   rw [Ay h];cases decide ((0:Int)<(V.length:Int)) <;> cases Fl g A <;> rfl
  cases ho:Fl g A with
  | false=>exact ⟨(0,0),false,stop none (.inl ho),rfl,fun h=>by cases h⟩
  | true=>
   rw [Bool.not_true,cnd_false];by_cases h24:g.bars.length=24
   ·have hbq:((g.bars.length:Int)==(24:Int))=true:=by rw [beq_iff_eq]; omega
    rw [hbq,cnd_true];exact ⟨(0,0),false,stop none (.inr (by omega)),O,fun h=>by cases h⟩
   have hbq:((g.bars.length:Int)==(24:Int))=false:=by rw [beq_eq_false_iff_ne]; omega
   rw [hbq,cnd_false];obtain ⟨r,k1,k2,k3⟩:=next_l1 hN hg (by omega) hA ho (V:=V) (by omega) (l0:=(L.length:Int)) (Q:=fun r=>r.2=true→(L.length:Int)<g.n) (kS:=fun (x:Bool×Int×Int)=>match x with | (found17,c18,c19)=>some ((c18,c19),found17)) (kI:=fun (x:Bool×Int×Int)=>match x with | (found15,c16,c17)=>some ((c16,c17),found15)) (fun x hx=>⟨_,rfl,rfl,hx⟩) N 0 (L.length:Int) false 0 0 (by omega) (by omega) (by omega) (fun h=>by cases h);exact ⟨r.1,r.2,k1,k2,k3⟩
end
section
variable {N:Nat}
theorem mask_ex (q:Nat→Bool):∀ n:Nat,∃ m,m<2 ^ n∧∀ j,j<n→m.testBit j=q j
 | 0=>⟨0,by simp,fun j h=>by omega⟩
 | n+1=>by
  obtain ⟨m,h1,h2⟩:=mask_ex q n;have hlt:2 ^ n<2 ^ (n+1):=Nat.pow_lt_pow_right (by omega) (by omega);have hm:m.testBit n=false:=Nat.testBit_lt_two_pow h1
  cases hq:q n with
  | false=>
   refine ⟨m,by omega,fun j hj=>?_⟩;by_cases e:j=n
   ·subst e; rw [hm,hq]
   exact h2 j (by omega)
  | true=>
   refine ⟨m ||| 2 ^ n,Nat.or_lt_two_pow (by omega) hlt,fun j hj=>?_⟩;rw [Nat.testBit_or,Nat.testBit_two_pow];by_cases e:j=n
   ·subst e; rw [hm,hq]; simp
   rw [h2 j (by omega)];have:decide (n=j)=false:=by simpa using fun h=>e h.symm
   rw [this,Bool.or_false]
def allP:List (Int×Int):=[(0,1),(0,2),(0,3),(0,4),(0,5),(1,2),(1,3),(1,4),(1,5),(2,3),(2,4),(2,5),(3,4),(3,5),(4,5)]
theorem allP_mem {e:Int×Int} (h:0≤e.1∧e.1<e.2∧e.2<6):e∈allP:=by
 have key:∀ a:Fin 6,∀ b:Fin 6,a<b→(((a.val:Nat):Int),((b.val:Nat):Int))∈allP:=by decide
 have:=key ⟨e.1.toNat,by omega⟩ ⟨e.2.toNat,by omega⟩ (by show e.1.toNat<e.2.toNat; omega);simp only at this;rw [show ((e.1.toNat:Nat):Int)=e.1 by omega,show ((e.2.toNat:Nat):Int)=e.2 by omega] at this;exact this
theorem asc_lt0 {n:Int} {A:List Int} (h:asc n A=true):∀ i,i<A.length→0≤A.getD i 0∧A.getD i 0<n:=by
 have h1:∀ i,i<A.length→Ta n A i=true:=by simpa [asc,List.all_eq_true] using h
 intro i hi;have h2:=h1 i hi;simp only [Ta,inB,Bool.and_eq_true,decide_eq_true_eq] at h2;omega
theorem anch_t (hN:4000000≤N) {g:Grf} (hb:g.bars.length≤3000000) {A:List Int} (hA:A.length≤3000000) (ho:Fl g A=true) (h6:g.n≤6):∃ x:Grf,De N g A=some (x,true)∧Cc x=true∧x.n=g.n∧(∀ e∈g.bars,e∈x.bars)∧∀ p q:Nat,p<q→q<A.length→(A.getD p 0,A.getD q 0)∈x.bars:=by
 obtain ⟨r,b,_,r2,_,_,r5⟩:=anch_y hN hb hA;obtain ⟨L,i1,i2,i3⟩:=r5 ho;simp only [Fl,Bool.and_eq_true] at ho;obtain ⟨hg,hd⟩:=Gy ho.1;have hp:=As hg;have hlt:=Aa5 ho.2;have hrg:=asc_lt0 ho.2;have hnd:=i1.nd hlt hd
 have hok:∀ e∈L,0≤e.1∧e.1<e.2∧e.2<g.n:=fun e he=>by
  rcases i1.orig e he with h | ⟨p,q,h1,h2,_,rfl⟩
  ·exact Da hg h
  have a:=hrg p (by omega);have b:=hrg q h2;have c:=hlt p q h1 h2;exact ⟨a.1,c,b.2⟩
 have hlen:L.length≤15:=Jj (L:=allP) hnd fun e he=>allP_mem (by have:=hok e he; omega)
 have hgr:Bd ⟨g.n,L⟩=true:=Aat (inB_true.2 (by simp only; omega)) (by simp only; omega) i1.srt fun e he=>by
  have:=hok e he;simp [Tk,this.1,this.2.1,this.2.2]
 rw [hgr] at i2;subst i2;rw [i3 rfl] at r2;refine ⟨⟨g.n,L⟩,r2,?_,O,fun e he=>i1.sub e he,fun p q h1 h2=>i1.has hlt (fun e he=>(Da hg he).2.1) p q h1 h2 (by omega)⟩;simp only [Cc,Bool.and_eq_true,Bool.not_eq_true'];exact ⟨hgr,Zk hnd⟩
theorem brr_lt {a b:Int} (h:a<b):brr a b=(a,b):=by
 unfold brr;rw [Int.min_eq_left (by omega),Int.max_eq_right (by omega)]
theorem glo_anch {n:Nat} {E:List (Int×Int)} {A:List Int} (hr:∀ i,i<A.length→0≤A.getD i 0∧A.getD i 0<(n:Int)) (hlt:∀ p q:Nat,p<q→q<A.length→A.getD p 0<A.getD q 0) (hj:∀ p q:Nat,p<q→q<A.length→(A.getD p 0,A.getD q 0)∈E):∀ j,3≤j→j≤A.length→∃ P,Glo n E P∧∀ x,x∈P↔∃ i,i<j∧x=A.getD i 0
 | 0,h,_=>by omega
 | j+1,h,hl=>by
  have ad:∀ p q:Nat,p<q→q<A.length→adj E (A.getD p 0) (A.getD q 0):=fun p q h1 h2=>by
   unfold adj; rw [brr_lt (hlt p q h1 h2)]; exact hj p q h1 h2
  by_cases h3:j=2
  ·subst h3;have l01:=hlt 0 1 (by omega) (by omega);have l12:=hlt 1 2 (by omega) (by omega);refine ⟨[A.getD 0 0,A.getD 1 0,A.getD 2 0],.tri (hr 0 (by omega)) (hr 1 (by omega)) (hr 2 (by omega)) (by omega) (by omega) (by omega) (ad 0 1 (by omega) (by omega)) (ad 0 2 (by omega) (by omega)) (ad 1 2 (by omega) (by omega)),fun x=>?_⟩;constructor
   ·intro hx;simp only [List.mem_cons,List.not_mem_nil,or_false] at hx;rcases hx with rfl | rfl | rfl
    ·exact ⟨0,by omega,O⟩
    ·exact ⟨1,by omega,O⟩
    exact ⟨2,by omega,O⟩
   rintro ⟨i,hi,rfl⟩;rcases (by omega:i=0∨i=1∨i=2) with rfl | rfl | rfl <;> simp
  obtain ⟨P,h1,h2⟩:=glo_anch hr hlt hj j (by omega) (by omega);have l0:=hlt 0 j (by omega) (by omega);have l01:=hlt 0 1 (by omega) (by omega);have l12:=hlt 1 2 (by omega) (by omega);refine ⟨A.getD j 0::P,.add (x:=A.getD 0 0) (y:=A.getD 1 0) (z:=A.getD 2 0) h1 (hr j (by omega)) (fun hm=>?_) ((h2 _).2 ⟨0,by omega,O⟩) ((h2 _).2 ⟨1,by omega,O⟩) ((h2 _).2 ⟨2,by omega,O⟩) (by omega) (by omega) (by omega) (ad 0 j (by omega) (by omega)).symm (ad 1 j (by omega) (by omega)).symm (ad 2 j (by omega) (by omega)).symm,fun x=>?_⟩
  ·obtain ⟨i,hi,e⟩:=(h2 _).1 hm;have:=hlt i j hi (by omega);omega
  rw [List.mem_cons,h2];constructor
  ·rintro (rfl | ⟨i,hi,rfl⟩)
   ·exact ⟨j,by omega,O⟩
   exact ⟨i,by omega,O⟩
  rintro ⟨i,hi,rfl⟩;by_cases e:i=j
  ·subst e; exact .inl rfl
  exact .inr ⟨i,by omega,O⟩
theorem three_near {g:Grf} (hg:Bd g=true) (hd:g.bars.Nodup) {K:Int→Bool} {v:Int} (h:3≤Rh g.bars K v):∃ x y z:Int,K x=true∧K y=true∧K z=true∧x≠y∧x≠z∧y≠z∧adj g.bars v x∧adj g.bars v y∧adj g.bars v z:=by
 unfold Rh at h;rw [List.countP_eq_length_filter] at h;have hfd:=hd.filter (Wh K v)
 have hm:∀ e∈g.bars.filter (Wh K v),K (Hb e v)=true∧brr v (Hb e v)=e∧e∈g.bars:=fun e he=>by
  obtain ⟨h1,h2⟩:=List.mem_filter.1 he;have hb:=Da hg h1;simp only [Wh,Bool.and_eq_true] at h2;refine ⟨h2.2,?_,h1⟩;have h3:=h2.1;unfold Pg at h3;unfold Hb brr;by_cases e1:e.1=v
  ·rw [Tt e1];exact Prod.ext (by simp only; omega) (by simp only; omega)
  have b1:(e.1==v)=false:=by simpa using e1
  rw [b1,Bool.false_or,beq_iff_eq] at h3;rw [b1,cnd_false];exact Prod.ext (by simp only; omega) (by simp only; omega)
 generalize g.bars.filter (Wh K v)=F at h hfd hm
 match F,h,hfd,hm with
 | a::b::c::F,_,hfd,hm=>
  have ha:=hm a (by simp);have hb:=hm b (by simp);have hc:=hm c (by simp);have f1:=List.nodup_cons.1 hfd;have f2:=List.nodup_cons.1 f1.2;have nab:a≠b:=fun e=>f1.1 (by rw [e]; simp);have nac:a≠c:=fun e=>f1.1 (by rw [e]; simp);have nbc:b≠c:=fun e=>f2.1 (by rw [e]; simp);refine ⟨Hb a v,Hb b v,Hb c v,ha.1,hb.1,hc.1,fun e=>nab ?_,fun e=>nac ?_,fun e=>nbc ?_,?_,?_,?_⟩
  ·rw [←ha.2.1,e]; exact hb.2.1
  ·rw [←ha.2.1,e]; exact hc.2.1
  ·rw [←hb.2.1,e]; exact hc.2.1
  ·unfold adj; rw [ha.2.1]; exact ha.2.2
  ·unfold adj; rw [hb.2.1]; exact hb.2.2
  unfold adj; rw [hc.2.1]; exact hc.2.2
theorem tril_glo {g:Grf} (hg:Bd g=true) (hd:g.bars.Nodup) {E:List (Int×Int)} (hE:∀ e∈g.bars,e∈E) {A:List Int}:∀ (m:Nat) (kn out:List Int),(∃ P,Glo g.n.toNat E P∧∀ x,x∈P↔x∈kn)→(∀ a∈A,a∈kn)→∀ x∈tril g.bars g.n.toNat m kn out,x∈out∨∃ P,Glo g.n.toNat E P∧(∀ a∈A,a∈P)∧x∈P
 | 0,kn,out,_,_,x,hx=>.inl hx
 | m+1,kn,out,hP,hA,x,hx=>by
  obtain ⟨P,h1,h2⟩:=hP;rw [tril] at hx
  cases hf:Wc g.bars (kn.contains ·) 0 g.n.toNat with
  | none=>rw [hf] at hx; exact .inl hx
  | some v=>
   rw [hf] at hx;obtain ⟨v0,v1,v2⟩:=nextF_lt hf;simp only [Acq,Bool.and_eq_true,Bool.not_eq_true',decide_eq_true_eq] at v2;obtain ⟨a,b,c,ka,kb,kc,ab,ac,bc,na,nb,nc⟩:=three_near hg hd v2.2
   have hvn:(v:Int)∉P:=fun h=>by
    have:kn.contains (v:Int)=true:=by simpa using (h2 _).1 h
    rw [v2.1] at this; cases this
   have hG:Glo g.n.toNat E ((v:Int)::P):=.add h1 ⟨by omega,by omega⟩ hvn ((h2 _).2 (by simpa using ka)) ((h2 _).2 (by simpa using kb)) ((h2 _).2 (by simpa using kc)) ab ac bc (hE _ na) (hE _ nb) (hE _ nc);have ih:=tril_glo hg hd hE (A:=A) m (kn++[(v:Int)]) (out++[(v:Int)]) ⟨(v:Int)::P,hG,fun x=>by rw [List.mem_cons,h2,List.mem_append,List.mem_singleton,or_comm]⟩ (fun a ha=>List.mem_append.2 (.inl (hA a ha))) x hx;rcases ih with h | h
   ·rcases List.mem_append.1 h with h | h
    ·exact .inl h
    simp at h;subst h;exact .inr ⟨(v:Int)::P,hG,fun a ha=>List.mem_cons_of_mem _ ((h2 a).2 (hA a ha)),by simp⟩
   exact .inr h
theorem tril_located (hN:4000000≤N) {g:Grf} (hb:g.bars.length≤3000000) {A:List Int} (hA:A.length≤3000000) (h6:g.n≤6∨g.n=9) (h3:3≤A.length) {r:List Int}
  (hr:∀ h:Grf,De N g A=some (h,true)→3≤A.length→∀ m:Nat,1≤m→m<2 ^ g.n.toNat→(A.all fun x=>(Ec (m:Int) g.n.toNat).contains x)=true→(∃ v,Fg N h (Ec (m:Int) g.n.toNat)=some v∧Bj N v=some true)→∀ j:Nat,j<g.n.toNat→m.testBit j=true→(j:Int)∈r):∀ x∈Zr g A,x∈r:=by
 intro x hx;unfold Zr at hx
 cases ho:Fl g A with
 | false=>rw [ho,cnd_false] at hx; cases hx
 | true=>
  rw [ho,cnd_true] at hx;have ho2:=ho;simp only [Fl,Bool.and_eq_true] at ho2;obtain ⟨hg,hd⟩:=Gy ho2.1;have hp:=As hg;obtain ⟨X,x1,x2,x3,x4,x5⟩:=anch_t hN hb hA ho (by omega);have hlt:=Aa5 ho2.2;have hrg:=asc_lt0 ho2.2;obtain ⟨P0,p1,p2⟩:=glo_anch (n:=g.n.toNat) (E:=X.bars) (A:=A) (fun i hi=>by have:=hrg i hi; omega) hlt x5 A.length h3 (Nat.le_refl _)
  have hmA:∀ y,(∃ i,i<A.length∧y=A.getD i 0)↔y∈A:=fun y=>by
   constructor
   ·rintro ⟨i,hi,rfl⟩;rw [List.getD_eq_getElem?_getD,List.getElem?_eq_getElem hi]; exact List.getElem_mem hi
   intro hy;obtain ⟨i,hi,e⟩:=List.mem_iff_getElem.1 hy;exact ⟨i,hi,by rw [List.getD_eq_getElem?_getD,List.getElem?_eq_getElem hi,Option.getD_some,e]⟩
  rcases tril_glo hg hd (E:=X.bars) x4 (A:=A) g.n.toNat A [] ⟨P0,p1,fun y=>by rw [p2,hmA]⟩ (fun a ha=>ha) x hx with h | ⟨P,q1,q2,q3⟩
  ·cases h
  obtain ⟨m,m1,m2⟩:=mask_ex (fun j=>P.contains (j:Int)) g.n.toNat;have hn8:g.n.toNat≤8:=by omega
  have h8:2 ^ g.n.toNat≤2 ^ 8:=Nat.pow_le_pow_right (by omega) hn8;have h88:(2:Nat) ^ 8=256:=by decide
  have hmem:∀ y∈P,y.toNat<g.n.toNat∧((y.toNat:Nat):Int)=y∧m.testBit y.toNat=true:=fun y hy=>by
   have:=q1.rg y hy;have e:((y.toNat:Nat):Int)=y:=by omega
   refine ⟨by omega,e,?_⟩;rw [m2 _ (by omega),e];simpa using hy
  have hx':=hmem x q3;have gt:=glob_t hN x2 (n:=g.n.toNat) (by rw [x3]; omega) q1 m1 fun j hj=>by rw [m2 j hj]; simp
  have hall:(A.all fun y=>(Ec (m:Int) g.n.toNat).contains y)=true:=List.all_eq_true.2 fun y hy=>by
   obtain ⟨a1,a2,a3⟩:=hmem y (q2 y hy);rw [←a2,List.contains_iff_mem,Ky a1,Jg (by omega) (by omega)];exact a3
  have hm1:1≤m:=by
   rcases Nat.eq_zero_or_pos m with e | e
   ·rw [e] at hx'; simp at hx'
   exact e
  have:=hr X x1 h3 m hm1 m1 hall gt x.toNat hx'.1 hx'.2.2
  rwa [hx'.2.1] at this
theorem glob_two (hN:4000000≤N) {x:Grf} (hx:Cc x=true) {n:Nat} (hn:x.n=(n:Int)) {e:Int×Int} (he:e∈x.bars) {m:Nat} (hm:m<2 ^ n) (hset:∀ j:Nat,j<n→(m.testBit j=true↔(j:Int)∈[e.1,e.2])) :
  ∃ v,Fg N x (Ec (m:Int) n)=some v∧Bj N v=some true:=by
 obtain ⟨hg,hd⟩:=Gy hx;have hp:=As hg;have hbe:=Da hg he;have hn8:n≤8:=by omega
 have en:x.n.toNat=n:=by omega
 have h8:2 ^ n≤2 ^ 8:=Nat.pow_le_pow_right (by omega) hn8;have h88:(2:Nat) ^ 8=256:=by decide
 obtain ⟨D,hD⟩:∃ D,D=Ec ((2 ^ n-1-m:Nat):Int) n:=⟨_,rfl⟩;have hDl:D.length≤n:=by rw [hD]; exact Jm _ _
 have hDm:∀ j:Nat,j<n→(D.contains (j:Int)=false↔(j:Int)∈[e.1,e.2]):=fun j hj=>by
  rw [←hset j hj,hD,←Bool.not_eq_true,List.contains_iff_mem,Ky hj,Aa2 hn8 hm hj,Jg (by omega) (by omega)];cases m.testBit j <;> simp
 have hDv:∀ v∈[e.1,e.2],D.contains v=false:=fun v hv=>by
  have r:0≤v∧v<(n:Int):=by simp at hv; omega
  have:=(hDm v.toNat (by omega)).2 (by rw [show ((v.toNat:Nat):Int)=v by omega]; exact hv)
  rwa [show ((v.toNat:Nat):Int)=v by omega] at this
 have hq:Gc D n=2:=by
  have h2:vsz n (fun v=>[e.1,e.2].contains v)=2:=vsz_list (P:=[e.1,e.2]) (by simp; omega) (fun v hv=>by simp at hv; omega);rw [←h2];unfold Gc vsz;refine List.countP_congr fun j hj=>?_;have hj:=List.mem_range.1 hj;have:=hDm j hj;rw [Bool.not_eq_true',this,List.contains_iff_mem]
 have vn:(woG x D).n=2:=by
  show (Gc D x.n.toNat:Int)=_;rw [en,hq]; rfl
 have vs:Cc (woG x D)=true:=Abv hx (by rw [en,hq]; omega);have vg:=(Gy vs).1;have hvl:(woG x D).bars.length≤24:=(As vg).2.1;have hmem:Xs D e∈(woG x D).bars:=List.mem_map.2 ⟨e,List.mem_filter.2 ⟨he,by unfold Ac1; rw [hDv e.1 (by simp),hDv e.2 (by simp)]; rfl⟩,rfl⟩;have hpos:=List.length_pos_of_mem hmem;refine ⟨woG x D,?_,?_⟩
 ·rw [part_s hN hn hn8 hm,←hD];exact Ab9 hN hg (by omega)
 have hw:Fa N (woG x D)=some (ByteArray.mk #[]):=by
  unfold Fa;rw [Qm N hN (by omega),vs,Option.bind_some,Bool.not_true,cnd_false,vn];have e6:Int.tdiv ((2:Int)*(2-1)) 2=1:=by decide
  rw [Bb (by omega),Bf (by omega) (by omega),Bf (by omega) (by omega),e6,Am ⟨by omega,by omega,by omega⟩,Ay (by omega)]
 unfold Bj;rw [hw,Option.bind_some,beq_self_eq_true]
theorem bar_piece (hN:4000000≤N) {g:Grf} (hs:Cc g=true) {r:List (List Int)}
  (hr:∀ j:Nat,1≤j→j<2 ^ g.n.toNat→2≤(Ec (j:Int) g.n.toNat).length→(∃ v,Fg N g (Ec (j:Int) g.n.toNat)=some v∧Bj N v=some true)→∃ U∈r,∀ x∈Ec (j:Int) g.n.toNat,x∈U) {e:Int×Int} (he:e∈g.bars):∃ U∈r,e.1∈U∧e.2∈U:=by
 obtain ⟨hg,hd⟩:=Gy hs;have hp:=As hg;have hbe:=Da hg he;have hn8:g.n.toNat≤8:=by omega
 have h8:2 ^ g.n.toNat≤2 ^ 8:=Nat.pow_le_pow_right (by omega) hn8;have h88:(2:Nat) ^ 8=256:=by decide
 obtain ⟨m,m1,m2⟩:=mask_ex (fun j=>[e.1,e.2].contains (j:Int)) g.n.toNat
 have hin:∀ y∈[e.1,e.2],y∈Ec (m:Int) g.n.toNat:=fun y hy=>by
  have r:0≤y∧y<g.n:=by simp at hy; omega
  have e1:((y.toNat:Nat):Int)=y:=by omega
  rw [←e1,Ky (by omega),Jg (by omega) (by omega),m2 _ (by omega),e1,List.contains_iff_mem];exact hy
 have hlen:2≤(Ec (m:Int) g.n.toNat).length:=Jj (I:=[e.1,e.2]) (by simp; omega) hin
 have hm1:1≤m:=by
  rcases Nat.eq_zero_or_pos m with q | q
  ·have:=m2 e.1.toNat (by omega);rw [q,show ((e.1.toNat:Nat):Int)=e.1 by omega] at this;simp at this
  exact q
 obtain ⟨U,u1,u2⟩:=hr m hm1 m1 hlen (glob_two hN hs (by omega) he m1 fun j hj=>by rw [m2 j hj,List.contains_iff_mem]);exact ⟨U,u1,u2 _ (hin _ (by simp)),u2 _ (hin _ (by simp))⟩
end
section
open Go.RowKit
def L_big (N:Nat) (code_0:List Int):Option (Bool):=
 some (decide ((code_0.length:Int) > (1048576:Int)))
theorem L_big_w (N:Nat) (code_0:List Int) (r:Bool) (h:L_big N code_0=some r):PCall Tryz.prog 5 [.ro false (.bytes code_0)] [] (.bool r):=by
 unfold L_big at h;refine Aj (TT:=TT) tt Tryz.func5 O O Tryz.ntmps5 (congrArg Array.toList Tryz.results5) O O fun w0=>(Ag (Ab (Aa O (Af (Ag (Ab ?_))))));iterate 4 refine Aa O ?_
 refine Af (Bg ?_);show ∃ _,_;cases h;exact ⟨[],_,O,Y,O,.eq O,O⟩
def Pk (N:Nat) (c_0:Cur):Option (Int×Int×Int):=
 cnd (decide (c_0.i<(c_0.b.length:Int))) (
  grd (0≤c_0.i∧c_0.i<(c_0.b.length:Int)) <|
  grd (0≤(c_0.b.getD ((c_0.i).toNat) 0)∧(c_0.b.getD ((c_0.i).toNat) 0)<256) <|
  some ((Wf (w64 ((Wf (xorI (shrI (w64 ((w64 (c_0.h*(6364136223846793005:Int)))+(1442695040888963407:Int))) 33) (shrI (w64 ((w64 (c_0.h*(6364136223846793005:Int)))+(1442695040888963407:Int))) 45)) (255:Int))+(c_0.b.getD ((c_0.i).toNat) 0))) (255:Int)),(w64 (c_0.i+(1:Int))),(w64 ((w64 (c_0.h*(6364136223846793005:Int)))+(1442695040888963407:Int))))) (
  some ((Wf (xorI (shrI (w64 ((w64 (c_0.h*(6364136223846793005:Int)))+(1442695040888963407:Int))) 33) (shrI (w64 ((w64 (c_0.h*(6364136223846793005:Int)))+(1442695040888963407:Int))) 45)) (255:Int)),c_0.i,(w64 ((w64 (c_0.h*(6364136223846793005:Int)))+(1442695040888963407:Int)))))
theorem Rp (N:Nat) (c_0:Cur) (r:Int×Int×Int) (h:Pk N c_0=some r):MCall Tryz.prog 108 [.ptr 1000000 0] [] [1000000] [] [] [[.ro false (.bytes c_0.b),.int c_0.i,.int c_0.h]] [[.ro false (.bytes c_0.b),.int r.2.1,.int r.2.2]] (.int r.1):=by
 unfold Pk at h;refine Db (TT:=TT) tt Tryz.func108 O O Tryz.ntmps108 (congrArg Array.toList Tryz.results108) O O O O O fun w0 O0=>(Ag (Ab (Aa O (Af (Ag (Ab ?_))))));iterate 5 refine Aa O ?_
 refine Fz (Ai O) (pMulW O O O) O O (Fz (Ai O) (pAddW O O O) O O (Aa O (Aa O (Ao tt O O O O O O O O O O O ⟨Y,Y⟩ (Af (Ag (Cu (by kernel_rfl) (by kernel_rfl) ?_)))))));iterate 4 refine Bq tt O (Ai O) O O O Y ?_
 refine Abp (Ai O) (pShrU O O O (by decide)) O O ?_;iterate 4 refine Bq tt O (Ai O) O O O Y ?_
 refine Abp (Ai O) (pShrU O O O (by decide)) O O (Abp (Ai O) (pXor O O O) O O ?_);iterate 2 refine Bq tt O (Ai O) O O O Y ?_
 refine Ms (Ag (Ag (Cu (by kernel_rfl) (by kernel_rfl) ?_)));iterate 10 refine Bq tt O (Ai O) O O O Y ?_
 refine Ms (Ar O (fun hb1=>?_) (fun hb1=>?_))
 ·replace h:=Ak hb1 h;refine Ag (Cu (by kernel_rfl) (by kernel_rfl) ?_);iterate 9 refine Bq tt O (Ai O) O O O Y ?_
  obtain ⟨hg2,h⟩:=Ac h;refine Bq tt O (Ai O) O O O hg2 (Bq tt O (Ai O) O O O Y ?_);obtain ⟨hg3,h⟩:=Ac h;refine Abp (Ai O) (pConvI Tryz.underlying5 Tryz.underlying3 O O hg3) O O (Abp (Ai O) (pAddW O O O) O O ?_);iterate 2 refine Bq tt O (Ai O) O O O Y ?_
  refine Ms (Ab ?_);iterate 5 refine Aa O ?_
  refine Fz (Ai O) (pAddW O O O) O O (Aa O (Aa O (Ao tt O O O O O O O O O O O ⟨Y,Y⟩ (Af (Ag (Ab (Aa O (Aa O (Af ?_)))))))));refine Bg ?_;show ∃ _,_;cases h;exact ⟨[],O,Y,⟨O,Y⟩,O⟩
 replace h:=Al hb1 h;refine Aq (Ag (Ab (Aa O (Aa O (Af (Bg ?_))))));show ∃ _,_;cases h;exact ⟨[],O,Y,⟨O,Y⟩,O⟩
def Bs (N:Nat) (c_0:Cur) (n_1:Int):Option (Int×Int×Int):=
 cnd (decide (n_1≤(0:Int))) (
  some ((0:Int),c_0.i,c_0.h)) (
  cnd (decide (n_1≤(256:Int))) (
   (Pk N c_0).bind fun v1=>
   grd (n_1≠0) <|
   some ((Int.tmod v1.1 n_1),v1.2.1,v1.2.2)) (
   (Pk N c_0).bind fun v2=>
   (Pk N (⟨c_0.b,v2.2.1,v2.2.2⟩:Cur)).bind fun v3=>
   (Pk N (⟨c_0.b,v3.2.1,v3.2.2⟩:Cur)).bind fun v4=>
   (Pk N (⟨c_0.b,v4.2.1,v4.2.2⟩:Cur)).bind fun v5=>
   grd (Bc (v2.1*(16777216:Int))) <|
   grd (Bc (v3.1*(65536:Int))) <|
   grd (Bc ((v2.1*(16777216:Int))+(v3.1*(65536:Int)))) <|
   grd (Bc (v4.1*(256:Int))) <|
   grd (Bc (((v2.1*(16777216:Int))+(v3.1*(65536:Int)))+(v4.1*(256:Int)))) <|
   grd (Bc ((((v2.1*(16777216:Int))+(v3.1*(65536:Int)))+(v4.1*(256:Int)))+v5.1)) <|
   grd (n_1≠0) <|
   some ((Int.tmod ((((v2.1*(16777216:Int))+(v3.1*(65536:Int)))+(v4.1*(256:Int)))+v5.1) n_1),v5.2.1,v5.2.2)))
theorem Bn (N:Nat) (c_0:Cur) (n_1:Int) (r:Int×Int×Int) (h:Bs N c_0 n_1=some r):MCall Tryz.prog 67 [.ptr 1000000 0,.int n_1] [] [1000000] [] [] [[.ro false (.bytes c_0.b),.int c_0.i,.int c_0.h]] [[.ro false (.bytes c_0.b),.int r.2.1,.int r.2.2]] (.int r.1):=by
 unfold Bs at h;refine Db (TT:=TT) tt Tryz.func67 O O Tryz.ntmps67 (congrArg Array.toList Tryz.results67) O O O O O fun w0 O0=>(Ag (Ab (Aa O (Af (Ag (Ag (Ab (Aa O (Aa O ?_)))))))));refine Af (Ar O (fun hb1=>?_) (fun hb1=>?_))
 ·replace h:=Ak hb1 h;refine Ag (Ab (Aa O (Af (Bg ?_))));show ∃ _,_;cases h;exact ⟨[],O,Y,⟨O,Y⟩,O⟩
 replace h:=Al hb1 h;refine Aq (Ag (Ag (Ab (Aa O (Aa O (Af (Ar O (fun hb2=>?_) (fun hb2=>?_))))))))
 ·replace h:=Ak hb2 h;refine Ag (Ab (Aa O ?_));obtain ⟨v1,hc3,h⟩:=Ae h;refine Co (Rp N c_0 v1 hc3) [] [1000000] [] O O O O O O Y ⟨O,Y⟩ ⟨⟨O,O⟩,Y⟩ (Aa O ?_);obtain ⟨hg4,h⟩:=Ac h;refine Ad tt O hg4 (Aa O (Af (Bg ?_)));show ∃ _,_;cases h;exact ⟨[],O,Y,⟨O,Y⟩,O⟩
 replace h:=Al hb2 h;refine Aq (Ag (Ab (Aa O ?_)));obtain ⟨v2,hc5,h⟩:=Ae h;refine Co (Rp N c_0 v2 hc5) [] [1000000] [] O O O O O O Y ⟨O,Y⟩ ⟨⟨O,O⟩,Y⟩ (Aa O (Af (Ag (Ab (Aa O ?_)))));obtain ⟨v3,hc6,h⟩:=Ae h;refine Co (Rp N (⟨c_0.b,v2.2.1,v2.2.2⟩:Cur) v3 hc6) [] [1000000] [] O O O O O O Y ⟨O,Y⟩ ⟨⟨O,O⟩,Y⟩ (Aa O (Af (Ag (Ab (Aa O ?_)))));obtain ⟨v4,hc7,h⟩:=Ae h;refine Co (Rp N (⟨c_0.b,v3.2.1,v3.2.2⟩:Cur) v4 hc7) [] [1000000] [] O O O O O O Y ⟨O,Y⟩ ⟨⟨O,O⟩,Y⟩ (Aa O (Af (Ag (Ab (Aa O ?_)))));obtain ⟨v5,hc8,h⟩:=Ae h;refine Co (Rp N (⟨c_0.b,v4.2.1,v4.2.2⟩:Cur) v5 hc8) [] [1000000] [] O O O O O O Y ⟨O,Y⟩ ⟨⟨O,O⟩,Y⟩ (Aa O (Af (Ag (Ab (Aa O ?_)))));obtain ⟨hg9,h⟩:=Ac h;refine Ad tt O hg9 (Aa O ?_);obtain ⟨hg10,h⟩:=Ac h;refine Ad tt O hg10 ?_;obtain ⟨hg11,h⟩:=Ac h;refine Ad tt O hg11 (Aa O ?_);obtain ⟨hg12,h⟩:=Ac h;refine Ad tt O hg12 ?_;obtain ⟨hg13,h⟩:=Ac h;refine Ad tt O hg13 (Aa O ?_);obtain ⟨hg14,h⟩:=Ac h;refine Ad tt O hg14 (Aa O ?_);obtain ⟨hg15,h⟩:=Ac h;refine Ad tt O hg15 (Aa O (Af (Bg ?_)));show ∃ _,_;cases h;exact ⟨[],O,Y,⟨O,Y⟩,O⟩
def Mt (N:Nat) (c_0:Cur) (n_1:Int):Option (Bool×Int×Int):=
 (Bs N c_0 n_1).bind fun v1=>
 some ((v1.1==(0:Int)),v1.2.1,v1.2.2)
theorem Vw (N:Nat) (c_0:Cur) (n_1:Int) (r:Bool×Int×Int) (h:Mt N c_0 n_1=some r):MCall Tryz.prog 97 [.ptr 1000000 0,.int n_1] [] [1000000] [] [] [[.ro false (.bytes c_0.b),.int c_0.i,.int c_0.h]] [[.ro false (.bytes c_0.b),.int r.2.1,.int r.2.2]] (.bool r.1):=by
 unfold Mt at h;refine Db (TT:=TT) tt Tryz.func97 O O Tryz.ntmps97 (congrArg Array.toList Tryz.results97) O O O O O fun w0 O0=>(Ag (Ab (Aa O (Af (Ag (Ab (Aa O (Aa O ?_))))))));obtain ⟨v1,hc1,h⟩:=Ae h;refine Co (Bn N c_0 n_1 v1 hc1) [] [1000000] [] O O O O O O Y ⟨O,Y⟩ ⟨⟨O,O⟩,⟨O,O⟩,Y⟩ (Aa O (Aa O (Af (Bg ?_))));show ∃ _,_;cases h;exact ⟨[],O,Y,⟨O,Y⟩,O⟩
def Sk (N:Nat) (g_0:Grf) (a_1:Int) (b_2:Int):Option (Grf×Bool):=
 (Dg N g_0).bind fun v1=>
 cnd (!v1) (
  (Fm N g_0).bind fun v2=>
  some ((⟨v2.n,v2.bars⟩:Grf),false)) (
  cnd (decide (a_1<(0:Int))) (
   (Fm N g_0).bind fun v3=>
   some ((⟨v3.n,v3.bars⟩:Grf),false)) (
   cnd (decide (b_2<(0:Int))) (
    (Fm N g_0).bind fun v4=>
    some ((⟨v4.n,v4.bars⟩:Grf),false)) (
    cnd (decide (a_1≥g_0.n)) (
     (Fm N g_0).bind fun v5=>
     some ((⟨v5.n,v5.bars⟩:Grf),false)) (
     cnd (decide (b_2≥g_0.n)) (
      (Fm N g_0).bind fun v6=>
      some ((⟨v6.n,v6.bars⟩:Grf),false)) (
      cnd (a_1==b_2) (
       (Fm N g_0).bind fun v7=>
       some ((⟨v7.n,v7.bars⟩:Grf),false)) (
       cnd (decide ((g_0.bars.length:Int)≥(24:Int))) (
        (Fm N g_0).bind fun v8=>
        some ((⟨v8.n,v8.bars⟩:Grf),false)) (
        (Fv N g_0 ((min a_1 b_2),(max a_1 b_2))).bind fun v9=>
        some ((⟨v9.n,v9.bars⟩:Grf),true))))))))
theorem Zf (N:Nat) (g_0:Grf) (a_1:Int) (b_2:Int) (r:Grf×Bool) (h:Sk N g_0 a_1 b_2=some r):PCall Tryz.prog 129 [gD g_0,.int a_1,.int b_2] [(42,.pairs r.1.bars)] (.tup [.agg [.int r.1.n,.row 0 0 r.1.bars.length],.bool r.2]):=by
 unfold Sk at h;refine Aj (TT:=TT) tt Tryz.func129 O O Tryz.ntmps129 (congrArg Array.toList Tryz.results129) O O fun w0=>(Ag (Ab (Hz O O O O O O O O O (Bi tt O O O O O O O O O (Aa O (Af (Ag (Ag (Ab ?_)))))))));refine Aa O ?_;obtain ⟨v1,hc1,h⟩:=Ae h;refine Ba (Ez N g_0 v1 hc1) O O O O O O O O ⟨⟨O,O,Y⟩,Y⟩ (Aa O (Aa O (Be O O O (fun hb2=>?_) (fun hb2=>?_))))
 ·replace h:=Ak hb2 h;iterate 2 refine Hg O O O O hb2 O O ?_
  refine Bm O O O O O hb2 O (Aa O ?_);iterate 2 refine Hg O O O O O O O ?_
  refine Bm O O O O O O O (Aa O ?_);iterate 4 refine Hg O O O O O O O ?_
  refine Bm O O O O O O O (Aa O ?_);iterate 4 refine Hg O O O O O O O ?_
  refine Bm O O O O O O O (Aa O ?_);iterate 3 refine Hg O O O O O O O ?_
  refine Bm O O O O O O O (Aa O ?_);iterate 4 refine Hg O O O O O O O ?_
  refine Bm O O O O O O O (Af (Ce O O (Ag (Ab (Aa O ?_)))));obtain ⟨v2,hc3,h⟩:=Ae h;refine Ba (Hv N g_0 v2 hc3) O O O O O O O O ⟨⟨O,O,Y⟩,Y⟩ (Ao tt O O O O O O O O O O O ⟨Y,Y,Y⟩ (Aa O (Af (Bg ?_))));show ∃ _,_;cases h;exact ⟨[1430],_,O,⟨O,Y⟩,O,.eq O,O⟩
 replace h:=Al hb2 h;iterate 2 refine Av tt O O O O O hb2 O O O Y ?_
 refine Aw O O O O O hb2 O (Aa O (Be O O O (fun hb4=>?_) (fun hb4=>?_)))
 ·replace h:=Ak hb4 h;iterate 2 refine Hg O O O O hb4 O O ?_
  refine Bm O O O O O hb4 O (Aa O ?_);iterate 4 refine Hg O O O O O O O ?_
  refine Bm O O O O O O O (Aa O ?_);iterate 4 refine Hg O O O O O O O ?_
  refine Bm O O O O O O O (Aa O ?_);iterate 3 refine Hg O O O O O O O ?_
  refine Bm O O O O O O O (Aa O ?_);iterate 4 refine Hg O O O O O O O ?_
  refine Bm O O O O O O O (Af (Ce O O (Ag (Ab (Aa O ?_)))));obtain ⟨v3,hc5,h⟩:=Ae h;refine Ba (Hv N g_0 v3 hc5) O O O O O O O O ⟨⟨O,O,Y⟩,Y⟩ (Ao tt O O O O O O O O O O O ⟨Y,Y,Y⟩ (Aa O (Af (Bg ?_))));show ∃ _,_;cases h;exact ⟨[1430],_,O,⟨O,Y⟩,O,.eq O,O⟩
 replace h:=Al hb4 h;iterate 2 refine Av tt O O O O O hb4 O O O Y ?_
 refine Aw O O O O O hb4 O (Aa O (Be O O O (fun hb6=>?_) (fun hb6=>?_)))
 ·replace h:=Ak hb6 h;iterate 4 refine Hg O O O O hb6 O O ?_
  refine Bm O O O O O hb6 O (Aa O ?_);iterate 4 refine Hg O O O O O O O ?_
  refine Bm O O O O O O O (Aa O ?_);iterate 3 refine Hg O O O O O O O ?_
  refine Bm O O O O O O O (Aa O ?_);iterate 4 refine Hg O O O O O O O ?_
  refine Bm O O O O O O O (Af (Ce O O (Ag (Ab (Aa O ?_)))));obtain ⟨v4,hc7,h⟩:=Ae h;refine Ba (Hv N g_0 v4 hc7) O O O O O O O O ⟨⟨O,O,Y⟩,Y⟩ (Ao tt O O O O O O O O O O O ⟨Y,Y,Y⟩ (Aa O (Af (Bg ?_))));show ∃ _,_;cases h;exact ⟨[1430],_,O,⟨O,Y⟩,O,.eq O,O⟩
 replace h:=Al hb6 h;iterate 4 refine Av tt O O O O O hb6 O O O Y ?_
 refine Aw O O O O O hb6 O (Aa O (Be O O O (fun hb8=>?_) (fun hb8=>?_)))
 ·replace h:=Ak hb8 h;iterate 4 refine Hg O O O O hb8 O O ?_
  refine Bm O O O O O hb8 O (Aa O ?_);iterate 3 refine Hg O O O O O O O ?_
  refine Bm O O O O O O O (Aa O ?_);iterate 4 refine Hg O O O O O O O ?_
  refine Bm O O O O O O O (Af (Ce O O (Ag (Ab (Aa O ?_)))));obtain ⟨v5,hc9,h⟩:=Ae h;refine Ba (Hv N g_0 v5 hc9) O O O O O O O O ⟨⟨O,O,Y⟩,Y⟩ (Ao tt O O O O O O O O O O O ⟨Y,Y,Y⟩ (Aa O (Af (Bg ?_))));show ∃ _,_;cases h;exact ⟨[1430],_,O,⟨O,Y⟩,O,.eq O,O⟩
 replace h:=Al hb8 h;iterate 4 refine Av tt O O O O O hb8 O O O Y ?_
 refine Aw O O O O O hb8 O (Aa O (Be O O O (fun hb10=>?_) (fun hb10=>?_)))
 ·replace h:=Ak hb10 h;iterate 3 refine Hg O O O O hb10 O O ?_
  refine Bm O O O O O hb10 O (Aa O ?_);iterate 4 refine Hg O O O O O O O ?_
  refine Bm O O O O O O O (Af (Ce O O (Ag (Ab (Aa O ?_)))));obtain ⟨v6,hc11,h⟩:=Ae h;refine Ba (Hv N g_0 v6 hc11) O O O O O O O O ⟨⟨O,O,Y⟩,Y⟩ (Ao tt O O O O O O O O O O O ⟨Y,Y,Y⟩ (Aa O (Af (Bg ?_))));show ∃ _,_;cases h;exact ⟨[1430],_,O,⟨O,Y⟩,O,.eq O,O⟩
 replace h:=Al hb10 h;iterate 3 refine Av tt O O O O O hb10 O O O Y ?_
 refine Aw O O O O O hb10 O (Aa O (Be O O O (fun hb12=>?_) (fun hb12=>?_)))
 ·replace h:=Ak hb12 h;iterate 4 refine Hg O O O O hb12 O O ?_
  refine Bm O O O O O hb12 O (Af (Ce O O (Ag (Ab (Aa O ?_)))));obtain ⟨v7,hc13,h⟩:=Ae h;refine Ba (Hv N g_0 v7 hc13) O O O O O O O O ⟨⟨O,O,Y⟩,Y⟩ (Ao tt O O O O O O O O O O O ⟨Y,Y,Y⟩ (Aa O (Af (Bg ?_))));show ∃ _,_;cases h;exact ⟨[1430],_,O,⟨O,Y⟩,O,.eq O,O⟩
 replace h:=Al hb12 h;iterate 4 refine Av tt O O O O O hb12 O O O Y ?_
 refine Aw O O O O O hb12 O (Af (Ar O (fun hb14=>?_) (fun hb14=>?_)))
 ·replace h:=Ak hb14 h;refine Ag (Ab (Aa O ?_));obtain ⟨v8,hc15,h⟩:=Ae h;refine Ba (Hv N g_0 v8 hc15) O O O O O O O O ⟨⟨O,O,Y⟩,Y⟩ (Ao tt O O O O O O O O O O O ⟨Y,Y,Y⟩ (Aa O (Af (Bg ?_))));show ∃ _,_;cases h;exact ⟨[1430],_,O,⟨O,Y⟩,O,.eq O,O⟩
 replace h:=Al hb14 h;refine Aq (Ag (Ab ?_));iterate 7 refine Aa O ?_
 refine Fz (Ai O) (Df Bx O O) O O ?_;obtain ⟨v9,hc16,h⟩:=Ae h;refine Ba (Ke N g_0 ((min a_1 b_2),(max a_1 b_2)) v9 hc16) O O O O O O O O ⟨⟨O,O,Y⟩,⟨O,O,Y⟩,Y⟩ (Ao tt O O O O O O O O O O O ⟨Y,Y,Y⟩ (Aa O (Af (Bg ?_))));show ∃ _,_;cases h;exact ⟨[1520],_,O,⟨O,Y⟩,O,.eq O,O⟩
end
section
open Go.RowKit
theorem Acp:BuildOK Tryz.prog 112 [(0,1),(1,1),(2,1)] [.slice none 0 0,.int .i64 0,.int .i64 0]:=bld (by kernel_rfl) (by kernel_rfl)
end
section
open Go.RowKit
def Mm (N:Nat) (code_0:List Int) (k:Int→Option (Cur)):Nat→(Int×Int)→Option (Cur)
 | 0,_=>none
 | n+1,(h5,i6)=>
  cnd (decide (i6<(code_0.length:Int))) (
   cnd (decide (i6<(4000:Int))) (
    grd (Bc (h5*(131:Int))) <|
    grd (0≤i6∧i6<(code_0.length:Int)) <|
    grd (0≤(code_0.getD ((i6).toNat) 0)∧(code_0.getD ((i6).toNat) 0)<256) <|
    grd (Bc ((h5*(131:Int))+(code_0.getD ((i6).toNat) 0))) <|
    grd (Bc (((h5*(131:Int))+(code_0.getD ((i6).toNat) 0))+(7:Int))) <|
    grd (Bc (i6+(1:Int))) <|
    Mm N code_0 k n ((Wf (((h5*(131:Int))+(code_0.getD ((i6).toNat) 0))+(7:Int)) (1073741823:Int)),(i6+(1:Int)))) (
    k h5)) (
   k h5)
def Xc (N:Nat) (code_0:List Int):Option (Cur):=
 grd (Bc ((10101:Int)+(code_0.length:Int))) <|
 Mm N code_0 (fun (h3 : Int) =>
    some (⟨code_0,(0:Int),h3⟩:Cur)) N (((10101:Int)+(code_0.length:Int)),(0:Int))
theorem Acd (N:Nat) (code_0:List Int) (r:Cur) (h:Xc N code_0=some r):PCallB Tryz.prog 65 [.ro false (.bytes code_0)] [.ro false (.bytes r.b),.int r.i,.int r.h]:=by
 unfold Xc at h;refine pcallB_intro (TT:=TT) tt Tryz.func65 O O Tryz.ntmps65 (congrArg Array.toList Tryz.results65) O O O fun w0 O0=>(Ag (Ab (Aa O (Af (Ag (Ab (Aa O (Aa O ?_))))))));obtain ⟨hg1,h⟩:=Ac h;refine Ad tt O hg1 (Aa O (Af (Ag (Ag (Ab (Aa O (Af (Bz (F:=fun k=>Mm N code_0 k) h (α:=Int) (J:=fun (h3:Int)=>(⟨[(0,.ro false (.bytes code_0)),(3,.int h3)],[],[]⟩:PS)) ?_ ?_))))))))
 ·rintro h3 h;show VC _ _ _ (⟨[(0,.ro false (.bytes code_0)),(3,.int h3)],[],[]⟩:PS);refine Ag (Ab (Aa O (Aa O (Fz (Ai O) (Df Acp O O) O O (Hz O O O O O O O O O (Aa O (Af (Bg ?_))))))));show ∃ _,_;cases h;exact ⟨31,O,O,O⟩
 intro k h;refine Ap (Bh (α:=Int×Int) (fun | (h5,i6)=>(⟨[(0,.ro false (.bytes code_0)),(3,.int h5),(4,.int i6)],[],[]⟩:PS)) (Mm N code_0 k) h (En.of ⟨rfl,rfl,rfl,Y⟩ trivial trivial) (fun _=>rfl) ?_);rintro n ⟨h5,i6⟩ h;rw [Mm] at h;show VC _ _ _ (⟨[(0,.ro false (.bytes code_0)),(3,.int h5),(4,.int i6)],[],[]⟩:PS);refine Ag (Ag (Ab ?_));iterate 5 refine Aa O ?_
 refine Be O O O (fun hb2=>?_) (fun hb2=>?_)
 ·replace h:=Ak hb2 h;iterate 2 refine Av tt O O O O O hb2 O O O Y ?_
  refine Bm O O O O O hb2 O (Af (Ar O (fun hb3=>?_) (fun hb3=>?_)))
  ·replace h:=Ak hb3 h;refine Aq (Ag (Ap (Ab (Aa O ?_))));obtain ⟨hg4,h⟩:=Ac h;refine Ad tt O hg4 (Aa O (Aa O ?_));obtain ⟨hg5,h⟩:=Ac h;refine Ad tt O hg5 (Aa O ?_);obtain ⟨hg6,h⟩:=Ac h;refine Fz (Ai O) (pConvI Tryz.underlying5 Tryz.underlying3 O O hg6) O O ?_;obtain ⟨hg7,h⟩:=Ac h;refine Ad tt O hg7 ?_;obtain ⟨hg8,h⟩:=Ac h;refine Ad tt O hg8 (Aa O (Aa O (Af (Ab (Aa O ?_)))));obtain ⟨hg9,h⟩:=Ac h;refine Ad tt O hg9 (Aa O (Af ?_));show ∃ _,_;exact ⟨((Wf (((h5*(131:Int))+(code_0.getD ((i6).toNat) 0))+(7:Int)) (1073741823:Int)),(i6+(1:Int))),(En.of ⟨O,O,O,Y⟩ trivial trivial),h⟩
  replace h:=Al hb3 h;refine Bp ?_;show ∃ _,_;exact ⟨h5,(En.of ⟨O,O,Y⟩ trivial trivial),h⟩
 replace h:=Al hb2 h;iterate 2 refine Kq O O O O hb2 O O ?_
 refine Aw O O O O O hb2 O (Af (Cp O O (Bp ?_)));show ∃ _,_;exact ⟨h5,(En.of ⟨O,O,Y⟩ trivial trivial),h⟩
def Ss (N:Nat) (l_0:List Int) (x_1:Int) (k:Unit→Option (Bool)):Nat→Int→Option (Bool)
 | 0,_=>none
 | n+1,i3=>
  cnd (decide (i3<(l_0.length:Int))) (
   grd (0≤i3∧i3<(l_0.length:Int)) <|
   cnd ((l_0.getD ((i3).toNat) 0)==x_1) (
    some true) (
    grd (Bc (i3+(1:Int))) <|
    Ss N l_0 x_1 k n (i3+(1:Int)))) (
   k ())
def L_has (N:Nat) (l_0:List Int) (x_1:Int):Option (Bool):=
 Ss N l_0 x_1 (fun (_ : Unit) =>
    some false) N (0:Int)
theorem L_has_w (N:Nat) (l_0:List Int) (x_1:Int) (r:Bool) (h:L_has N l_0 x_1=some r):PCall Tryz.prog 14 [.ro false (.ints l_0),.int x_1] [] (.bool r):=by
 unfold L_has at h;refine Aj (TT:=TT) tt Tryz.func14 O O Tryz.ntmps14 (congrArg Array.toList Tryz.results14) O O fun w0=>(Ag (Ab (Aa O (Af (Ag (Ag (Ab (Aa O (Af ?_)))))))));refine Bz (F:=fun k=>Ss N l_0 x_1 k) h (α:=Unit) (J:=fun (_:Unit)=>(⟨[],[],[]⟩:PS)) ?_ ?_
 ·rintro ⟨⟩ h;show VC _ _ _ (⟨[],[],[]⟩:PS);refine Ag (Ab (Aa O (Af (Bg ?_))));show ∃ _,_;cases h;exact ⟨[],_,O,Y,O,.eq O,O⟩
 intro k h;refine Ap (Bh (α:=Int) (fun (i3:Int)=>(⟨[(0,.ro false (.ints l_0)),(1,.int x_1),(5,.int i3)],[],[]⟩:PS)) (Ss N l_0 x_1 k) h (En.of ⟨O,O,O,Y⟩ trivial trivial) (fun _=>O) ?_);rintro n i3 h;rw [Ss] at h;show VC _ _ _ (⟨[(0,.ro false (.ints l_0)),(1,.int x_1),(5,.int i3)],[],[]⟩:PS);refine Ag (Ag (Ab ?_));iterate 4 refine Aa O ?_
 refine Af (Ar O (fun hb1=>?_) (fun hb1=>?_))
 ·replace h:=Ak hb1 h;refine Aq (Ag (Ap (Ag (Ab (Aa O (Aa O ?_))))));obtain ⟨hg2,h⟩:=Ac h;refine Ad tt O hg2 (Aa O (Aa O (Aa O (Af (Ar O (fun hb3=>?_) (fun hb3=>?_))))))
  ·replace h:=Ak hb3 h;refine Ag (Ab (Aa O (Af (Bg ?_))));show ∃ _,_;cases h;exact ⟨[],_,O,Y,O,.eq O,O⟩
  replace h:=Al hb3 h;refine Aq (Ab (Aa O ?_));obtain ⟨hg4,h⟩:=Ac h;refine Ad tt O hg4 (Aa O (Af ?_));show ∃ _,_;exact ⟨(i3+(1:Int)),(En.of ⟨O,O,O,Y⟩ trivial trivial),h⟩
 replace h:=Al hb1 h;refine Bp ?_;show ∃ _,_;exact ⟨(),(En.of trivial trivial trivial),h⟩
def Jn (N:Nat) (a_0:List Int) (b_1:List Int) (k:Unit→Option (Bool)):Nat→Int→Option (Bool)
 | 0,_=>none
 | n+1,i3=>
  cnd (decide (i3<(a_0.length:Int))) (
   grd (0≤i3∧i3<(a_0.length:Int)) <|
   grd (0≤i3∧i3<(b_1.length:Int)) <|
   cnd ((a_0.getD ((i3).toNat) 0) != (b_1.getD ((i3).toNat) 0)) (
    some false) (
    grd (Bc (i3+(1:Int))) <|
    Jn N a_0 b_1 k n (i3+(1:Int)))) (
   k ())
def Mh (N:Nat) (a_0:List Int) (b_1:List Int):Option (Bool):=
 cnd ((a_0.length:Int) != (b_1.length:Int)) (
  some false) (
  Jn N a_0 b_1 (fun (_ : Unit) =>
     some true) N (0:Int))
theorem Tn (N:Nat) (a_0:List Int) (b_1:List Int) (r:Bool) (h:Mh N a_0 b_1=some r):PCall Tryz.prog 9 [.ro false (.ints a_0),.ro false (.ints b_1)] [] (.bool r):=by
 unfold Mh at h;refine Aj (TT:=TT) tt Tryz.func9 O O Tryz.ntmps9 (congrArg Array.toList Tryz.results9) O O fun w0=>(Ag (Ab (Aa O (Af (Ag (Ag (Ab ?_)))))));iterate 5 refine Aa O ?_
 refine Af (Ar O (fun hb1=>?_) (fun hb1=>?_))
 ·replace h:=Ak hb1 h;refine Ag (Ab (Aa O (Af (Bg ?_))));show ∃ _,_;cases h;exact ⟨[],_,O,Y,O,.eq O,O⟩
 replace h:=Al hb1 h;refine Aq (Ag (Ag (Ab (Aa O (Af (Bz (F:=fun k=>Jn N a_0 b_1 k) h (α:=Unit) (J:=fun (_:Unit)=>(⟨[],[],[]⟩:PS)) ?_ ?_))))))
 ·rintro ⟨⟩ h;show VC _ _ _ (⟨[],[],[]⟩:PS);refine Ag (Ab (Aa O (Af (Bg ?_))));show ∃ _,_;cases h;exact ⟨[],_,O,Y,O,.eq O,O⟩
 intro k h;refine Ap (Bh (α:=Int) (fun (i3:Int)=>(⟨[(0,.ro false (.ints a_0)),(1,.ro false (.ints b_1)),(5,.int i3)],[],[]⟩:PS)) (Jn N a_0 b_1 k) h (En.of ⟨O,O,O,Y⟩ trivial trivial) (fun _=>O) ?_);rintro n i3 h;rw [Jn] at h;show VC _ _ _ (⟨[(0,.ro false (.ints a_0)),(1,.ro false (.ints b_1)),(5,.int i3)],[],[]⟩:PS);refine Ag (Ag (Ab ?_));iterate 4 refine Aa O ?_
 refine Af (Ar O (fun hb2=>?_) (fun hb2=>?_))
 ·replace h:=Ak hb2 h;refine Aq (Ag (Ap (Ag (Cu (by kernel_rfl) (by kernel_rfl) ?_))));iterate 2 refine Bq tt O (Ai O) O O O Y ?_
  obtain ⟨hg3,h⟩:=Ac h;refine Bq tt O (Ai O) O O O hg3 ?_;iterate 3 refine Bq tt O (Ai O) O O O Y ?_
  obtain ⟨hg4,h⟩:=Ac h;refine Bq tt O (Ai O) O O O hg4 ?_;iterate 2 refine Bq tt O (Ai O) O O O Y ?_
  refine Ms (Ar O (fun hb5=>?_) (fun hb5=>?_))
  ·replace h:=Ak hb5 h;refine Ag (Ab (Aa O (Af (Bg ?_))));show ∃ _,_;cases h;exact ⟨[],_,O,Y,O,.eq O,O⟩
  replace h:=Al hb5 h;refine Aq (Ab (Aa O ?_));obtain ⟨hg6,h⟩:=Ac h;refine Ad tt O hg6 (Aa O (Af ?_));show ∃ _,_;exact ⟨(i3+(1:Int)),(En.of ⟨O,O,O,Y⟩ trivial trivial),h⟩
 replace h:=Al hb2 h;refine Bp ?_;show ∃ _,_;exact ⟨(),(En.of trivial trivial trivial),h⟩
end
section
open Go.RowKit
def Ok {α:Type} (o:Option α) (P:α→Prop):Prop:=∃ r,o=some r∧P r
section
variable {α β:Type} {P Q:α→Prop}
theorem Dr {r:α} (h:P r):Ok (some r) P:=⟨r,rfl,h⟩
theorem Bk {o:Option β} {R:β→Prop} {f:β→Option α} (h:Ok o R) (hf:∀ r,R r→Ok (f r) P):Ok (o.bind f) P:=by
 obtain ⟨r,rfl,hr⟩:=h;exact hf r hr
theorem Bu {p:Prop} [Decidable p] {o:Option α} (hp:p) (h:Ok o P):Ok (grd p o) P:=by rw [Am hp]; exact h
theorem Dk {b:Bool} {x y:Option α} (h1:b=true→Ok x P) (h2:b=false→Ok y P):Ok (cnd b x y) P:=by
 cases b with
 | true=>exact h1 rfl
 | false=>exact h2 rfl
theorem ok_jn {σ:Type} {k:σ→Option α} {f:(σ→Option α)→Option α} {R:σ→Prop} (hk:∀ x,R x→Ok (k x) P) (hf:∀ k':σ→Option α,(∀ x,R x→Ok (k' x) P)→Ok (f k') P):Ok (jn k f) P:=hf k hk
end
def Byt (l:List Int):Prop:=∀ i:Nat,i<l.length→0≤l.getD i 0∧l.getD i 0<256
structure CK (c:Cur):Prop where
 byt:Byt c.b
 len:c.b.length≤1048576
 nn:0≤c.i
theorem and_low {x:Int} {m:Nat} (hm:m<4611686018427387904):0≤Wf x (m:Int)∧Wf x (m:Int)≤m:=by
 unfold Wf;have e:(BitVec.ofInt 64 (m:Int)).toNat=m:=by rw [BitVec.toNat_ofInt]; omega
 rw [BitVec.toNat_and,e];have h:(BitVec.ofInt 64 x).toNat &&& m≤m:=Nat.and_le_right;rw [show IntKind.i64.wrap (((BitVec.ofInt 64 x).toNat &&& m:Nat):Int)=(((BitVec.ofInt 64 x).toNat &&& m:Nat):Int) from Acz (by omega) (by omega)];omega
theorem and_255 (x:Int):0≤Wf x (255:Int)∧Wf x (255:Int)<256:=by
 have:=and_low (x:=x) (m:=255) (by omega);have e:((255:Nat):Int)=(255:Int):=rfl;rw [e] at this;omega
variable {N:Nat}
theorem byte_s {c:Cur} (h:CK c):Ok (Pk N c) fun r=>0≤r.1∧r.1<256∧0≤r.2.1:=by
 unfold Pk;have hl:=h.len;have hn:=h.nn;refine Dk (fun hb=>?_) (fun hb=>?_)
 ·rw [decide_eq_true_eq] at hb;have hy:=h.byt c.i.toNat (by omega);refine Bu ⟨hn,hb⟩ (Bu hy (Dr ?_));have:=and_255 (w64 ((Wf (xorI (shrI (w64 ((w64 (c.h*(6364136223846793005:Int)))+(1442695040888963407:Int))) 33) (shrI (w64 ((w64 (c.h*(6364136223846793005:Int)))+(1442695040888963407:Int))) 45)) (255:Int))+(c.b.getD ((c.i).toNat) 0)));refine ⟨this.1,this.2,?_⟩;show 0≤w64 (c.i+1);rw [show w64 (c.i+1)=c.i+1 from Acz (by omega) (by omega)];omega
 refine Dr ?_;have:=and_255 (xorI (shrI (w64 ((w64 (c.h*(6364136223846793005:Int)))+(1442695040888963407:Int))) 33) (shrI (w64 ((w64 (c.h*(6364136223846793005:Int)))+(1442695040888963407:Int))) 45));exact ⟨this.1,this.2,hn⟩
structure Bel (n:Int) (r:Int×Int×Int):Prop where
 nn:0≤r.1
 lt:0<n→r.1<n
 zero:n≤0→r.1=0
 cur:0≤r.2.1
theorem Eb {c:Cur} (h:CK c) (n:Int):Ok (Bs N c n) (Bel n):=by
 unfold Bs;refine Dk (fun hb=>?_) (fun hb=>?_)
 ·rw [decide_eq_true_eq] at hb;exact Dr ⟨by omega,by omega,by intro; rfl,h.nn⟩
 rw [decide_eq_false_iff_not] at hb;refine Dk (fun hb2=>?_) (fun hb2=>?_)
 ·refine Bk (byte_s h) fun v hv=>?_;obtain ⟨h1,h2,h3⟩:=hv;refine Bu (by omega) (Dr ?_);have e1:=Int.tmod_nonneg n h1;have e2:=Int.tmod_lt_of_pos v.1 (show 0<n by omega);exact ⟨e1,fun _=>e2,by omega,h3⟩
 refine Bk (byte_s h) fun v2 h2=>(Bk (byte_s ⟨h.byt,h.len,h2.2.2⟩) fun v3 h3=>(Bk (byte_s ⟨h.byt,h.len,h3.2.2⟩) fun v4 h4=>(Bk (byte_s ⟨h.byt,h.len,h4.2.2⟩) fun v5 h5=>?_)));obtain ⟨a2,b2,_⟩:=h2;obtain ⟨a3,b3,_⟩:=h3;obtain ⟨a4,b4,_⟩:=h4;obtain ⟨a5,b5,c5⟩:=h5;refine Bu ⟨by omega,by omega⟩ (Bu ⟨by omega,by omega⟩ (Bu ⟨by omega,by omega⟩ (Bu ⟨by omega,by omega⟩ (Bu ⟨by omega,by omega⟩ (Bu ⟨by omega,by omega⟩ (Bu (by omega) (Dr ?_)))))));have e1:=Int.tmod_nonneg (a:=(((v2.1*(16777216:Int))+(v3.1*(65536:Int)))+(v4.1*(256:Int)))+v5.1) n (by omega);have e2:=Int.tmod_lt_of_pos ((((v2.1*(16777216:Int))+(v3.1*(65536:Int)))+(v4.1*(256:Int)))+v5.1) (show 0<n by omega);exact ⟨e1,fun _=>e2,by omega,c5⟩
theorem once_s {c:Cur} (h:CK c) (n:Int):Ok (Mt N c n) fun r=>0≤r.2.1:=by
 unfold Mt;exact Bk (Eb h n) fun v hv=>Dr hv.cur
theorem new_s (hN:4000000≤N) {l:List Int} (hb:Byt l) (hl:l.length≤1048576):Ok (Xc N l) fun r=>CK r∧r.b=l:=by
 unfold Xc;refine Bu ⟨by omega,by omega⟩ ?_
 have key:∀ (fuel i:Nat) (h:Int),0≤h→h≤1073741823→i≤4000→4001<fuel+i→Ok (Mm N l (fun h3=>some (⟨l,(0:Int),h3⟩:Cur)) fuel (h,(i:Int))) fun r=>CK r∧r.b=l:=by
  intro fuel
  induction fuel with
  | zero=>intro i h h1 h2 h4 h3; omega
  | succ fuel ih=>
   intro i h h1 h2 h4 h3;rw [Mm];refine Dk (fun c1=>?_) (fun c1=>Dr ⟨⟨hb,hl,by simp⟩,O⟩);refine Dk (fun c2=>?_) (fun c2=>Dr ⟨⟨hb,hl,by simp⟩,O⟩);rw [decide_eq_true_eq] at c1 c2;have hy:=hb i (by omega);have hi:((i:Int)).toNat=i:=rfl;rw [hi];refine Bu ⟨by omega,by omega⟩ (Bu ⟨by omega,c1⟩ (Bu hy (Bu ⟨by omega,by omega⟩ (Bu ⟨by omega,by omega⟩ (Bu ⟨by omega,by omega⟩ ?_)))));have ha:=and_low (x:=h*(131:Int)+l.getD i 0+(7:Int)) (m:=1073741823) (by omega);have e:((1073741823:Nat):Int)=(1073741823:Int):=rfl;rw [e] at ha;exact ih (i+1) _ ha.1 ha.2 (by omega) (by omega)
 exact key N 0 _ (by omega) (by omega) (by omega) (by omega)
theorem CK.at {c:Cur} (h:CK c) {i x:Int} (hi:0≤i):CK ⟨c.b,i,x⟩:=⟨h.byt,h.len,hi⟩
end
section
open Go.RowKit
variable {N:Nat}
theorem l2CopyD {g:Grf} (h:g.bars.length≤3000000):Fm N g=some g:=by
 unfold Fm;rw [Am (by omega)]; rfl
structure GD (m:Int) (k:Nat) (g:Grf):Prop where
 len:g.bars.length≤k
 rg:∀ e∈g.bars,0≤e.1∧e.1<m∧0≤e.2∧e.2<m
theorem put_d (hN:4000000≤N) {g:Grf} {m:Int} {k:Nat} (h:GD m k g) (hk:k≤999) {x:Int×Int} (hx:0≤x.1∧x.1<m∧0≤x.2∧x.2<m):Ok (Fv N g x) fun r=>GD m (k+1) r∧r.n=g.n:=by
 have hl:=h.len;obtain ⟨L,h1,h2,h3⟩:=put0_s (N:=N) hN (g:=g) (by omega) x;refine ⟨_,h1,⟨by simp only; omega,fun e he=>?_⟩,O⟩;rcases (h3 e).1 he with rfl | h4
 ·exact hx
 exact h.rg e h4
theorem remove_d (hN:4000000≤N) {g:Grf} {m:Int} {k:Nat} (h:GD m k g) (hk:k≤999) (i:Int):Ok (Fo N g i) fun r=>GD m k r.1∧r.1.n=g.n:=by
 have hl:=h.len;unfold Fo;rw [Ca N hN,Option.bind_some]
 have cp:∀ b:Bool,Ok ((Fm N g).bind fun v=>some ((⟨v.n,v.bars⟩:Grf),b)) fun r=>GD m k r.1∧r.1.n=g.n:=fun b=>by
  rw [l2CopyD (by omega)]; exact Dr ⟨h,rfl⟩
 refine Dk (fun _=>cp _) fun _=>Dk (fun _=>cp _) fun a1=>Dk (fun _=>cp _) fun a2=>?_;rw [decide_eq_false_iff_not] at a1 a2;have t1:=List.length_take_le i.toNat g.bars
 have hlen:(((([]:List (Int×Int))++((g.bars.take (i.toNat)).drop 0))++((g.bars.take g.bars.length).drop (((i+(1:Int))).toNat)))).length+1=g.bars.length:=by
  simp only [List.nil_append,List.drop_zero,List.take_length,List.length_append,List.length_take,List.length_drop]; omega
 refine Bu ⟨by omega,by omega⟩ (Bu (by simp only [List.length_drop]; omega) (Bu ⟨by omega,by omega⟩ (Bu ⟨by omega,by omega⟩ (Bu ?_ (Dr ⟨⟨?_,?_⟩,O⟩)))))
 ·rw [←List.length_append]; omega
 ·simp only; omega
 intro e he;refine h.rg e ?_;simp only [List.nil_append,List.drop_zero,List.take_length,List.mem_append] at he;rcases he with he | he
 ·exact List.mem_of_mem_take he
 exact List.mem_of_mem_drop he
theorem add_d (hN:4000000≤N) {g:Grf} {m:Int} {k:Nat} (h:GD m k g) (hk:k≤999) (hm:g.n≤m) (a b:Int):Ok (Sk N g a b) fun r=>GD m (k+1) r.1∧r.1.n=g.n:=by
 have hl:=h.len;unfold Sk;rw [Ca N hN,Option.bind_some]
 have cp:∀ b:Bool,Ok ((Fm N g).bind fun v=>some ((⟨v.n,v.bars⟩:Grf),b)) fun r=>GD m (k+1) r.1∧r.1.n=g.n:=fun b=>by
  rw [l2CopyD (by omega)]; exact Dr ⟨⟨by simp only; omega,h.rg⟩,rfl⟩
 refine Dk (fun _=>cp _) fun _=>Dk (fun _=>cp _) fun a1=>Dk (fun _=>cp _) fun a2=>Dk (fun _=>cp _) fun a3=>Dk (fun _=>cp _) fun a4=>Dk (fun _=>cp _) fun _=>Dk (fun _=>cp _) fun _=>?_;rw [decide_eq_false_iff_not] at a1 a2 a3 a4;refine Bk (put_d hN h hk (x:=(min a b,max a b)) ⟨by simp only; omega,by simp only; omega,by simp only; omega,by simp only; omega⟩) fun r hr=>Dr hr
end
section
open Go.RowKit Go.Deep
end
section
open Go.RowKit Go.Deep
end
section
open Go.RowKit Go.Deep
end
section
open Go.RowKit
def Jk (N:Nat) (a_0:List (List Int)) (b_1:List (List Int)) (k:Unit→Option (Bool)):Nat→Int→Option (Bool)
 | 0,_=>none
 | n+1,i7=>
  cnd (decide (i7<(a_0.length:Int))) (
   grd (0≤i7∧i7<(a_0.length:Int)) <|
   grd (0≤i7∧i7<(b_1.length:Int)) <|
   (Mh N (a_0.getD ((i7).toNat) []) (b_1.getD ((i7).toNat) [])).bind fun v9=>
   cnd (!v9) (
    some false) (
    grd (Bc (i7+(1:Int))) <|
    Jk N a_0 b_1 k n (i7+(1:Int)))) (
   k ())
def Sb (N:Nat) (a_0:List (List Int)) (b_1:List (List Int)):Option (Bool):=
 cnd ((a_0.length:Int) != (b_1.length:Int)) (
  some false) (
  Jk N a_0 b_1 (fun (_ : Unit) =>
     some true) N (0:Int))
theorem L_sameSets_w (N:Nat) (a_0:List (List Int)) (b_1:List (List Int)) (r:Bool) (h:Sb N a_0 b_1=some r):PCall Tryz.prog 21 [.ro false (.intss a_0),.ro false (.intss b_1)] [] (.bool r):=by
 unfold Sb at h;refine Aj (TT:=TT) tt Tryz.func21 O O Tryz.ntmps21 (congrArg Array.toList Tryz.results21) O O fun w0=>(Ag (Ab (Aa O (Af (Ag (Ag (Ab ?_)))))));iterate 5 refine Aa O ?_
 refine Af (Ar O (fun hb1=>?_) (fun hb1=>?_))
 ·replace h:=Ak hb1 h;refine Ag (Ab (Aa O (Af (Bg ?_))));show ∃ _,_;cases h;exact ⟨[],_,O,Y,O,.eq O,O⟩
 replace h:=Al hb1 h;refine Aq (Ag (Ag (Ab (Aa O (Af (Bz (F:=fun k=>Jk N a_0 b_1 k) h (α:=Unit) (J:=fun (_:Unit)=>(⟨[],[],[]⟩:PS)) ?_ ?_))))))
 ·rintro ⟨⟩ h;show VC _ _ _ (⟨[],[],[]⟩:PS);refine Ag (Ab (Aa O (Af (Bg ?_))));show ∃ _,_;cases h;exact ⟨[],_,O,Y,O,.eq O,O⟩
 intro k h;refine Ap (Bh (α:=Int) (fun (i7:Int)=>(⟨[(0,.ro false (.intss a_0)),(1,.ro false (.intss b_1)),(5,.int i7)],[],[]⟩:PS)) (Jk N a_0 b_1 k) h (En.of ⟨O,O,O,Y⟩ trivial trivial) (fun _=>O) ?_);rintro n i7 h;rw [Jk] at h;show VC _ _ _ (⟨[(0,.ro false (.intss a_0)),(1,.ro false (.intss b_1)),(5,.int i7)],[],[]⟩:PS);refine Ag (Ag (Ab ?_));iterate 4 refine Aa O ?_
 refine Af (Ar O (fun hb2=>?_) (fun hb2=>?_))
 ·replace h:=Ak hb2 h;refine Aq (Ag (Ap (Ag (Cu (by kernel_rfl) (by kernel_rfl) ?_))));iterate 2 refine Bq tt O (Ai O) O O O Y ?_
  obtain ⟨hg3,h⟩:=Ac h;refine Bq tt O (Ai O) O O O hg3 ?_;iterate 3 refine Bq tt O (Ai O) O O O Y ?_
  obtain ⟨hg4,h⟩:=Ac h;refine Bq tt O (Ai O) O O O hg4 (Bq tt O (Ai O) O O O Y ?_);obtain ⟨v9,hc5,h⟩:=Ae h;refine Xh (Tn N (a_0.getD ((i7).toNat) []) (b_1.getD ((i7).toNat) []) v9 hc5) O (Ai O) O O O O O O ⟨O,O,Y⟩ (Bq tt O (Ai O) O O O Y (Ms (Ar O (fun hb6=>?_) (fun hb6=>?_))))
  ·replace h:=Ak hb6 h;refine Ag (Ab (Aa O (Af (Bg ?_))));show ∃ _,_;cases h;exact ⟨[],_,O,Y,O,.eq O,O⟩
  replace h:=Al hb6 h;refine Aq (Ab (Aa O ?_));obtain ⟨hg7,h⟩:=Ac h;refine Ad tt O hg7 (Aa O (Af ?_));show ∃ _,_;exact ⟨(i7+(1:Int)),(En.of ⟨O,O,O,Y⟩ trivial trivial),h⟩
 replace h:=Al hb2 h;refine Bp ?_;show ∃ _,_;exact ⟨(),(En.of trivial trivial trivial),h⟩
def Hx (N:Nat) (g_1:Grf) (l16:List (Int×Int)) (k:(List (Int×Int))→Option (Frm×Int×Int)):Nat→((List (Int×Int))×Int)→Option (Frm×Int×Int)
 | 0,_=>none
 | n+1,(l25,i26)=>
  cnd (decide (i26<(g_1.bars.length:Int))) (
   grd (0≤i26∧i26<(g_1.bars.length:Int)) <|
   grd (0≤((g_1.bars.getD ((i26).toNat) (0,0)).1)∧((g_1.bars.getD ((i26).toNat) (0,0)).1)<(l16.length:Int)) <|
   grd (0≤((g_1.bars.getD ((i26).toNat) (0,0)).2)∧((g_1.bars.getD ((i26).toNat) (0,0)).2)<(l16.length:Int)) <|
   cnd (!(((l16.getD (((g_1.bars.getD ((i26).toNat) (0,0)).1).toNat) (0,0)).1==(l16.getD (((g_1.bars.getD ((i26).toNat) (0,0)).2).toNat) (0,0)).1)&&((l16.getD (((g_1.bars.getD ((i26).toNat) (0,0)).1).toNat) (0,0)).2==(l16.getD (((g_1.bars.getD ((i26).toNat) (0,0)).2).toNat) (0,0)).2))) (
    cnd (i26==(0:Int)) (
     grd (l25.length+1≤4294967296) <|
     grd (Bc (i26+(1:Int))) <|
     Hx N g_1 l16 k n ((l25++([((g_1.bars.getD ((i26).toNat) (0,0)).1,(g_1.bars.getD ((i26).toNat) (0,0)).2)]:List (Int×Int))),(i26+(1:Int)))) (
     grd (Bc (i26-(1:Int))) <|
     grd (0≤(i26-(1:Int))∧(i26-(1:Int))<(g_1.bars.length:Int)) <|
     cnd (!(((g_1.bars.getD (((i26-(1:Int))).toNat) (0,0)).1==(g_1.bars.getD ((i26).toNat) (0,0)).1)&&((g_1.bars.getD (((i26-(1:Int))).toNat) (0,0)).2==(g_1.bars.getD ((i26).toNat) (0,0)).2))) (
      grd (l25.length+1≤4294967296) <|
      grd (Bc (i26+(1:Int))) <|
      Hx N g_1 l16 k n ((l25++([((g_1.bars.getD ((i26).toNat) (0,0)).1,(g_1.bars.getD ((i26).toNat) (0,0)).2)]:List (Int×Int))),(i26+(1:Int)))) (
      grd (Bc (i26+(1:Int))) <|
      Hx N g_1 l16 k n (l25,(i26+(1:Int)))))) (
    grd (Bc (i26+(1:Int))) <|
    Hx N g_1 l16 k n (l25,(i26+(1:Int))))) (
   k l25)
def Mf (N:Nat) (c_0:Cur) (g_1:Grf) (k:((List (Int×Int))×Int×Int)→Option (Frm×Int×Int)):Nat→((List (Int×Int))×Int×Int×Int)→Option (Frm×Int×Int)
 | 0,_=>none
 | n+1,(l35,i36,c37,c38)=>
  cnd (decide (i36<g_1.n)) (
   (Bs N (⟨c_0.b,c37,c38⟩:Cur) (5:Int)).bind fun v41=>
   (Bs N (⟨c_0.b,v41.2.1,v41.2.2⟩:Cur) (5:Int)).bind fun v42=>
   grd (l35.length+1≤4294967296) <|
   grd (Bc (i36+(1:Int))) <|
   Mf N c_0 g_1 k n ((l35++([(v41.1,v42.1)]:List (Int×Int))),(i36+(1:Int)),v42.2.1,v42.2.2)) (
   k (l35,c37,c38))
def S_l10Of (N:Nat) (c_0:Cur) (g_1:Grf):Option (Frm×Int×Int):=
 Mf N c_0 g_1 (fun (x:(List (Int×Int))×Int×Int)=>
   match x with
   | (l16,c17,c18)=>
    Hx N g_1 l16 (fun (l22 : List (Int × Int)) =>
       some ((⟨⟨g_1.n,l22⟩,l16⟩:Frm),c17,c18)) N (([]:List (Int×Int)),(0:Int))) N (([]:List (Int×Int)),(0:Int),c_0.i,c_0.h)
theorem S_l10Of_w (N:Nat) (c_0:Cur) (g_1:Grf) (r:Frm×Int×Int) (h:S_l10Of N c_0 g_1=some r):MCall Tryz.prog 121 [.ptr 1000000 0,gD g_1] [900101,900102] [1000000] [(42,.pairs []),(95,.pairs [])] [(42,.pairs r.1.g.bars),(95,.pairs r.1.places)] [[.ro false (.bytes c_0.b),.int c_0.i,.int c_0.h]] [[.ro false (.bytes c_0.b),.int r.2.1,.int r.2.2]] (.agg [.int r.1.g.n,.row 900101 0 r.1.g.bars.length,.row 900102 0 r.1.places.length]):=by
 unfold S_l10Of at h;refine Db (TT:=TT) tt Tryz.func121 O O Tryz.ntmps121 (congrArg Array.toList Tryz.results121) O O O O O fun w0 O0=>(Ag (Ab (Hz O O O O O O O O O (Bi tt O O O O O O O O O (Af (Ag (Ab (Aa O (Aa O ?_)))))))));refine Gr tt (Ai O) O O O O (Fz (Ai O) (Df Cv O O) O O (Fz (Ai O) (Df Ym O O) O O (Bi tt O O O O O O O O O (Ao tt O O O O O O O O O O O ⟨Y,Y,Y,Y⟩ (Af (Ag (Ag (Ab (Aa O ?_)))))))));refine Af (Bz (F:=fun k=>Mf N c_0 g_1 k) h (α:=(List (Int×Int))×Int×Int) (J:=fun | (l16,c17,c18)=>(⟨[(3,.ptr 3 0),(4,.ptr 4 0),(5,.ptr 5 0)],[(30,some (95,.pairs l16))],[(1000000,some [.ro false (.bytes c_0.b),.int c17,.int c18]),(3,some [.int g_1.n,.ro false (.pairs g_1.bars)]),(4,some [.int (0:Int),.nil,.nil]),(5,some [.int g_1.n,.nil,.row 30 0 l16.length])]⟩:PS)) ?_ ?_)
 ·rintro ⟨l16,c17,c18⟩ h;show VC _ _ _ (⟨[(3,.ptr 3 0),(4,.ptr 4 0),(5,.ptr 5 0)],[(30,some (95,.pairs l16))],[(1000000,some [.ro false (.bytes c_0.b),.int c17,.int c18]),(3,some [.int g_1.n,.ro false (.pairs g_1.bars)]),(4,some [.int (0:Int),.nil,.nil]),(5,some [.int g_1.n,.nil,.row 30 0 l16.length])]⟩:PS);refine Ag (Ag (Ab (Aa O (Af (Bz (F:=fun k=>Hx N g_1 l16 k) h (α:=List (Int×Int)) (J:=fun (l22:List (Int×Int))=>(⟨[(4,.ptr 4 0),(5,.ptr 5 0)],[(76,some (42,.pairs l22)),(30,some (95,.pairs l16))],[(1000000,some [.ro false (.bytes c_0.b),.int c17,.int c18]),(4,some [.int (0:Int),.nil,.nil]),(5,some [.int g_1.n,.row 76 0 l22.length,.row 30 0 l16.length])]⟩:PS)) ?_ ?_)))))
  ·rintro l22 h;show VC _ _ _ (⟨[(4,.ptr 4 0),(5,.ptr 5 0)],[(76,some (42,.pairs l22)),(30,some (95,.pairs l16))],[(1000000,some [.ro false (.bytes c_0.b),.int c17,.int c18]),(4,some [.int (0:Int),.nil,.nil]),(5,some [.int g_1.n,.row 76 0 l22.length,.row 30 0 l16.length])]⟩:PS);refine Ag (Ab (Aa O (Ao tt O O O O O O O O O O O ⟨Y,Y,Y,Y⟩ (Af (Bg ?_)))));show ∃ _,_;cases h;exact ⟨[76,30],O,⟨O,O,Y⟩,⟨O,Y⟩,O⟩
  intro k h;refine Ap (Kr 5 1 76 42 (.pairs []) rfl rfl rfl rfl rfl (Bh (α:=(List (Int×Int))×Int) (fun | (l25,i26)=>(⟨[(3,.ptr 3 0),(4,.ptr 4 0),(5,.ptr 5 0),(8,.int i26)],[(76,some (42,.pairs l25)),(30,some (95,.pairs l16))],[(1000000,some [.ro false (.bytes c_0.b),.int c17,.int c18]),(3,some [.int g_1.n,.ro false (.pairs g_1.bars)]),(4,some [.int (0:Int),.nil,.nil]),(5,some [.int g_1.n,.row 76 0 l25.length,.row 30 0 l16.length])]⟩:PS)) (Hx N g_1 l16 k) h (En.of ⟨rfl,rfl,rfl,rfl,Y⟩ ⟨rfl,rfl,Y⟩ ⟨rfl,rfl,rfl,rfl,Y⟩) (fun _=>rfl) ?_));rintro n ⟨l25,i26⟩ h;rw [Hx] at h;show VC _ _ _ (⟨[(3,.ptr 3 0),(4,.ptr 4 0),(5,.ptr 5 0),(8,.int i26)],[(76,some (42,.pairs l25)),(30,some (95,.pairs l16))],[(1000000,some [.ro false (.bytes c_0.b),.int c17,.int c18]),(3,some [.int g_1.n,.ro false (.pairs g_1.bars)]),(4,some [.int (0:Int),.nil,.nil]),(5,some [.int g_1.n,.row 76 0 l25.length,.row 30 0 l16.length])]⟩:PS);refine Ag (Ag (Ab ?_));iterate 5 refine Aa O ?_
  refine Af (Ar O (fun hb1=>?_) (fun hb1=>?_))
  ·replace h:=Ak hb1 h;refine Aq (Ag (Ap (Ag (Ab (Aa O (Aa O (Aa O ?_)))))));obtain ⟨hg2,h⟩:=Ac h;refine Ad tt O hg2 (Aa O (Bi tt O O O O O O O O O (Ao tt O O O O O O O O O O O ⟨Y,Y,Y⟩ (Af (Ag (Cu (by kernel_rfl) (by kernel_rfl) ?_))))));iterate 4 refine Bq tt O (Ai O) O O O Y ?_
   obtain ⟨hg3,h⟩:=Ac h;iterate 2 refine Bq tt O (Ai O) O O O hg3 ?_
   iterate 4 refine Bq tt O (Ai O) O O O Y ?_
   obtain ⟨hg4,h⟩:=Ac h;iterate 2 refine Bq tt O (Ai O) O O O hg4 ?_
   refine Abp (Ai O) (pNeP Aco O O O) O O (Bq tt O (Ai O) O O O Y (Ju O O O (fun hb5=>?_) (fun hb5=>?_)))
   ·replace h:=Ak hb5 h;iterate 3 refine Bq tt O (Bl O O O O hb5) O O O Y ?_
    refine Ju O O O (fun hb6=>?_) (fun hb6=>?_)
    ·replace h:=Ak hb6 h;iterate 8 refine Sx O O O O hb6 O O ?_
     refine Fk O (Bl O O O O hb5) O O O hb6 O (Fk O (Ai O) O O O hb5 O (Ms (Ce O O (Ab ?_))));iterate 4 refine Aa O ?_
     refine Cr tt O O O O O O O O O O O ?_;obtain ⟨hg7,h⟩:=Ac h;refine Bt tt O O O O O O O O O O O O O O O O (Nat.le_of_eq (Nat.zero_add _)) hg7 (Aa O (Aa O (Ao tt O O O O O O O O O O O ⟨Y,Y⟩ (Af (Ab (Aa O ?_))))));obtain ⟨hg8,h⟩:=Ac h;refine Ad tt O hg8 (Aa O (Af ?_));show ∃ _,_;exact ⟨((l25++([((g_1.bars.getD ((i26).toNat) (0,0)).1,(g_1.bars.getD ((i26).toNat) (0,0)).2)]:List (Int×Int))),(i26+(1:Int))),(En.of ⟨O,O,O,O,Y⟩ ⟨O,O,Y⟩ ⟨O,O,O,O,Y⟩),h⟩
    replace h:=Al hb6 h;iterate 3 refine Bq tt O (Bl O O O O hb6) O O O Y ?_
    obtain ⟨hg9,h⟩:=Ac h;refine Bq tt O (Bl O O O O hb6) O O O hg9 ?_;obtain ⟨hg10,h⟩:=Ac h;refine Bq tt O (Bl O O O O hb6) O O O hg10 ?_;iterate 2 refine Bq tt O (Bl O O O O hb6) O O O Y ?_
    refine Abp (Bl O O O O hb6) (pNeP Pa O O O) O O (Ge O (Bl O O O O hb5) O O O hb6 O (Fk O (Ai O) O O O hb5 O (Ms (Ar O (fun hb11=>?_) (fun hb11=>?_)))))
    ·replace h:=Ak hb11 h;refine Ab ?_;iterate 4 refine Aa O ?_
     refine Cr tt O O O O O O O O O O O ?_;obtain ⟨hg12,h⟩:=Ac h;refine Bt tt O O O O O O O O O O O O O O O O (Nat.le_of_eq (Nat.zero_add _)) hg12 (Aa O (Aa O (Ao tt O O O O O O O O O O O ⟨Y,Y⟩ (Af (Ab (Aa O ?_))))));obtain ⟨hg13,h⟩:=Ac h;refine Ad tt O hg13 (Aa O (Af ?_));show ∃ _,_;exact ⟨((l25++([((g_1.bars.getD ((i26).toNat) (0,0)).1,(g_1.bars.getD ((i26).toNat) (0,0)).2)]:List (Int×Int))),(i26+(1:Int))),(En.of ⟨O,O,O,O,Y⟩ ⟨O,O,Y⟩ ⟨O,O,O,O,Y⟩),h⟩
    replace h:=Al hb11 h;refine Aq (Ab (Aa O ?_));obtain ⟨hg14,h⟩:=Ac h;refine Ad tt O hg14 (Aa O (Af ?_));show ∃ _,_;exact ⟨(l25,(i26+(1:Int))),(En.of ⟨O,O,O,O,Y⟩ ⟨O,O,Y⟩ ⟨O,O,O,O,Y⟩),h⟩
   replace h:=Al hb5 h;iterate 3 refine cNoT O O O O hb5 O O ?_
   iterate 8 refine cNoU O O O O O ?_
   refine cNoT O O O O hb5 O O (Ge O (Ai O) O O O hb5 O (Ms (Cp O O (Aq (Ab (Aa O ?_))))));obtain ⟨hg15,h⟩:=Ac h;refine Ad tt O hg15 (Aa O (Af ?_));show ∃ _,_;exact ⟨(l25,(i26+(1:Int))),(En.of ⟨O,O,O,O,Y⟩ ⟨O,O,Y⟩ ⟨O,O,O,O,Y⟩),h⟩
  replace h:=Al hb1 h;refine Bp ?_;show ∃ _,_;exact ⟨l25,(En.of ⟨O,O,Y⟩ ⟨O,O,Y⟩ ⟨O,O,O,Y⟩),h⟩
 intro k h;refine Ap (Kr 5 2 30 95 (.pairs []) rfl rfl rfl rfl rfl (Bh (α:=(List (Int×Int))×Int×Int×Int) (fun | (l35,i36,c37,c38)=>(⟨[(0,.ptr 1000000 0),(3,.ptr 3 0),(4,.ptr 4 0),(5,.ptr 5 0),(6,.int i36)],[(30,some (95,.pairs l35))],[(1000000,some [.ro false (.bytes c_0.b),.int c37,.int c38]),(3,some [.int g_1.n,.ro false (.pairs g_1.bars)]),(4,some [.int (0:Int),.nil,.nil]),(5,some [.int g_1.n,.nil,.row 30 0 l35.length])]⟩:PS)) (Mf N c_0 g_1 k) h (En.of ⟨rfl,rfl,rfl,rfl,rfl,Y⟩ ⟨rfl,Y⟩ ⟨rfl,rfl,rfl,rfl,Y⟩) (fun _=>rfl) ?_));rintro n ⟨l35,i36,c37,c38⟩ h;rw [Mf] at h;show VC _ _ _ (⟨[(0,.ptr 1000000 0),(3,.ptr 3 0),(4,.ptr 4 0),(5,.ptr 5 0),(6,.int i36)],[(30,some (95,.pairs l35))],[(1000000,some [.ro false (.bytes c_0.b),.int c37,.int c38]),(3,some [.int g_1.n,.ro false (.pairs g_1.bars)]),(4,some [.int (0:Int),.nil,.nil]),(5,some [.int g_1.n,.nil,.row 30 0 l35.length])]⟩:PS);refine Ag (Ag (Ab ?_));iterate 4 refine Aa O ?_
 refine Af (Ar O (fun hb16=>?_) (fun hb16=>?_))
 ·replace h:=Ak hb16 h;refine Aq (Ag (Ap (Ag (Ab (Aa O ?_)))));obtain ⟨v41,hc17,h⟩:=Ae h;refine Co (Bn N (⟨c_0.b,c37,c38⟩:Cur) (5:Int) v41 hc17) [] [1000000] [] O O O O O O Y ⟨O,Y⟩ ⟨⟨O,O⟩,⟨O,O⟩,Y⟩ (Aa O (Af (Dn 7 [4,6,1041000000] [0,1,0,0,8,28,60,127,255,511] (by kernel_rfl) (by kernel_rfl) (by kernel_rfl) (by kernel_rfl) (by kernel_rfl) O (by rfl) ?_)));iterate 4 refine Fy tt O (Ai O) O O O O O Y ?_
  obtain ⟨v42,hc18,h⟩:=Ae h;refine nMCall (rids:=[]) (bids:=[]) (pids:=[]) (Ai rfl) (Bn N (⟨c_0.b,v41.2.1,v41.2.2⟩:Cur) (5:Int) v42 hc18) [] [1000000] [] rfl rfl rfl rfl rfl (by first | rfl | kernel_rfl) rfl rfl rfl rfl rfl (by first | rfl | kernel_rfl)  trivial ⟨rfl,Y⟩ ⟨⟨rfl,rfl⟩,⟨rfl,rfl⟩,Y⟩ (nPure (Ai rfl) (Df Acw rfl rfl) rfl rfl rfl rfl (Adl tt (Ai rfl) rfl rfl rfl rfl rfl rfl rfl rfl rfl rfl rfl rfl (Tb ?_)));show VO _ _ _ _ _;obtain ⟨hg19,h⟩:=Ac h;refine Bt tt O O O O O O O O O O O O O O O O (Nat.le_of_eq (Nat.zero_add _)) hg19 (Aa O (Ao tt O O O O O O O O O O O ⟨Y,Y⟩ (Af (Ab (Aa O ?_)))));obtain ⟨hg20,h⟩:=Ac h;refine Ad tt O hg20 (Aa O (Af ?_));show ∃ _,_;exact ⟨((l35++([(v41.1,v42.1)]:List (Int×Int))),(i36+(1:Int)),v42.2.1,v42.2.2),(En.of ⟨O,O,O,O,O,Y⟩ ⟨O,Y⟩ ⟨O,O,O,O,Y⟩),h⟩
 replace h:=Al hb16 h;refine Bp ?_;show ∃ _,_;exact ⟨(l35,c37,c38),(En.of ⟨O,O,O,Y⟩ ⟨O,Y⟩ ⟨O,O,O,O,Y⟩),h⟩
def Gb (N:Nat) (c_0:Cur) (n_1:Int) (odd_2:Int) (a140:Int) (k:((List (Int×Int))×Int×Int)→Option (Grf×Int×Int)):Nat→((List (Int×Int))×Int×Int×Int)→Option (Grf×Int×Int)
 | 0,_=>none
 | n+1,(l173,b174,c175,c176)=>
  cnd (decide (b174<n_1)) (
   (Bs N (⟨c_0.b,c175,c176⟩:Cur) (10:Int)).bind fun v178=>
   cnd (decide (v178.1<odd_2)) (
    cnd (decide ((l173.length:Int)<(24:Int))) (
     grd (l173.length+1≤4294967296) <|
     grd (Bc (b174+(1:Int))) <|
     Gb N c_0 n_1 odd_2 a140 k n ((l173++([(a140,b174)]:List (Int×Int))),(b174+(1:Int)),v178.2.1,v178.2.2)) (
     grd (Bc (b174+(1:Int))) <|
     Gb N c_0 n_1 odd_2 a140 k n (l173,(b174+(1:Int)),v178.2.1,v178.2.2))) (
    grd (Bc (b174+(1:Int))) <|
    Gb N c_0 n_1 odd_2 a140 k n (l173,(b174+(1:Int)),v178.2.1,v178.2.2))) (
   k (l173,c175,c176))
def Jo (N:Nat) (c_0:Cur) (n_1:Int) (odd_2:Int) (k:((List (Int×Int))×Int×Int)→Option (Grf×Int×Int)):Nat→((List (Int×Int))×Int×Int×Int)→Option (Grf×Int×Int)
 | 0,_=>none
 | n+1,(l139,a140,c141,c142)=>
  cnd (decide (a140<n_1)) (
   grd (Bc (a140+(1:Int))) <|
   Gb N c_0 n_1 odd_2 a140 (fun (x:(List (Int×Int))×Int×Int)=>
     match x with
     | (l168,c169,c170)=>
      Jo N c_0 n_1 odd_2 k n (l168,(a140+(1:Int)),c169,c170)) N (l139,(a140+(1:Int)),c141,c142)) (
   k (l139,c141,c142))
def Lk (N:Nat) (c_0:Cur) (n_1:Int) (odd_2:Int):Option (Grf×Int×Int):=
 Jo N c_0 n_1 odd_2 (fun (x:(List (Int×Int))×Int×Int)=>
   match x with
   | (l88,c89,c90)=>
    some ((⟨n_1,l88⟩:Grf),c89,c90)) N (([]:List (Int×Int)),(0:Int),c_0.i,c_0.h)
theorem Rg (N:Nat) (c_0:Cur) (n_1:Int) (odd_2:Int) (r:Grf×Int×Int) (h:Lk N c_0 n_1 odd_2=some r):MCall Tryz.prog 66 [.ptr 1000000 0,.int n_1,.int odd_2] [900101] [1000000] [(42,.pairs [])] [(42,.pairs r.1.bars)] [[.ro false (.bytes c_0.b),.int c_0.i,.int c_0.h]] [[.ro false (.bytes c_0.b),.int r.2.1,.int r.2.2]] (.agg [.int r.1.n,.row 900101 0 r.1.bars.length]):=by
 unfold Lk at h;refine Db (TT:=TT) tt Tryz.func66 O O Tryz.ntmps66 (congrArg Array.toList Tryz.results66) O O O O O fun w0 O0=>(Ag (Ab (Bi tt O O O O O O O O O (Af (Ag (Ab (Aa O (Gr tt (Ai O) O O O O (Fz (Ai O) (Df Cv O O) O O ?_)))))))));refine Bi tt rfl rfl rfl rfl rfl rfl rfl rfl rfl (Ao tt rfl rfl rfl rfl rfl rfl rfl rfl rfl rfl rfl ⟨Y,Y,Y⟩ (Af (Ag (Ag (Ab (Aa rfl (Af (Bz (F:=fun k=>Jo N c_0 n_1 odd_2 k) h (α:=(List (Int×Int))×Int×Int) (J:=fun | (l88,c89,c90)=>(⟨[(6,.ptr 6 0),(7,.ptr 7 0)],[(41,some (42,.pairs l88))],[(1000000,some [.ro false (.bytes c_0.b),.int c89,.int c90]),(6,some [.int (0:Int),.nil]),(7,some [.int n_1,.row 41 0 l88.length])]⟩:PS)) ?_ ?_))))))))
 ·rintro ⟨l88,c89,c90⟩ h;show VC _ _ _ (⟨[(6,.ptr 6 0),(7,.ptr 7 0)],[(41,some (42,.pairs l88))],[(1000000,some [.ro false (.bytes c_0.b),.int c89,.int c90]),(6,some [.int (0:Int),.nil]),(7,some [.int n_1,.row 41 0 l88.length])]⟩:PS);refine Ag (Ab (Aa O (Ao tt O O O O O O O O O O O ⟨Y,Y,Y⟩ (Af (Bg ?_)))));show ∃ _,_;cases h;exact ⟨[41],O,⟨O,Y⟩,⟨O,Y⟩,O⟩
 intro k h;refine Ap (Kr 7 1 41 42 (.pairs []) rfl rfl rfl rfl rfl (Bh (α:=(List (Int×Int))×Int×Int×Int) (fun | (l139,a140,c141,c142)=>(⟨[(0,.ptr 1000000 0),(1,.int n_1),(2,.int odd_2),(6,.ptr 6 0),(7,.ptr 7 0),(8,.int a140)],[(41,some (42,.pairs l139))],[(1000000,some [.ro false (.bytes c_0.b),.int c141,.int c142]),(6,some [.int (0:Int),.nil]),(7,some [.int n_1,.row 41 0 l139.length])]⟩:PS)) (Jo N c_0 n_1 odd_2 k) h (En.of ⟨rfl,rfl,rfl,rfl,rfl,rfl,Y⟩ ⟨rfl,Y⟩ ⟨rfl,rfl,rfl,Y⟩) (fun _=>rfl) ?_));rintro n ⟨l139,a140,c141,c142⟩ h;rw [Jo] at h;show VC _ _ _ (⟨[(0,.ptr 1000000 0),(1,.int n_1),(2,.int odd_2),(6,.ptr 6 0),(7,.ptr 7 0),(8,.int a140)],[(41,some (42,.pairs l139))],[(1000000,some [.ro false (.bytes c_0.b),.int c141,.int c142]),(6,some [.int (0:Int),.nil]),(7,some [.int n_1,.row 41 0 l139.length])]⟩:PS);refine Ag (Ag (Ab (Aa O (Aa O (Aa O (Af (Ar O (fun hb1=>?_) (fun hb1=>?_))))))))
 ·replace h:=Ak hb1 h;refine Aq (Ag (Ap (Ag (Ab (Aa O ?_)))));obtain ⟨hg2,h⟩:=Ac h;refine Ad tt rfl hg2 (Aa rfl (Af (Bz (F:=fun k=>Gb N c_0 n_1 odd_2 a140 k) h (α:=(List (Int×Int))×Int×Int) (J:=fun | (l168,c169,c170)=>(⟨[(0,.ptr 1000000 0),(1,.int n_1),(2,.int odd_2),(6,.ptr 6 0),(7,.ptr 7 0),(8,.int a140)],[(41,some (42,.pairs l168))],[(1000000,some [.ro false (.bytes c_0.b),.int c169,.int c170]),(6,some [.int (0:Int),.nil]),(7,some [.int n_1,.row 41 0 l168.length])]⟩:PS)) ?_ ?_)))
  ·rintro ⟨l168,c169,c170⟩ h;show VC _ _ _ (⟨[(0,.ptr 1000000 0),(1,.int n_1),(2,.int odd_2),(6,.ptr 6 0),(7,.ptr 7 0),(8,.int a140)],[(41,some (42,.pairs l168))],[(1000000,some [.ro false (.bytes c_0.b),.int c169,.int c170]),(6,some [.int (0:Int),.nil]),(7,some [.int n_1,.row 41 0 l168.length])]⟩:PS);refine Ab (Aa O (Ad tt O hg2 (Aa O (Af ?_))));show ∃ _,_;exact ⟨(l168,(a140+(1:Int)),c169,c170),(En.of ⟨O,O,O,O,O,O,Y⟩ ⟨O,Y⟩ ⟨O,O,O,Y⟩),h⟩
  intro k h;refine Ap (Bh (α:=(List (Int×Int))×Int×Int×Int) (fun | (l173,b174,c175,c176)=>(⟨[(0,.ptr 1000000 0),(1,.int n_1),(2,.int odd_2),(6,.ptr 6 0),(7,.ptr 7 0),(8,.int a140),(9,.int b174)],[(41,some (42,.pairs l173))],[(1000000,some [.ro false (.bytes c_0.b),.int c175,.int c176]),(6,some [.int (0:Int),.nil]),(7,some [.int n_1,.row 41 0 l173.length])]⟩:PS)) (Gb N c_0 n_1 odd_2 a140 k) h (En.of ⟨rfl,rfl,rfl,rfl,rfl,rfl,rfl,Y⟩ ⟨rfl,Y⟩ ⟨rfl,rfl,rfl,Y⟩) (fun _=>rfl) ?_);rintro n ⟨l173,b174,c175,c176⟩ h;rw [Gb] at h;show VC _ _ _ (⟨[(0,.ptr 1000000 0),(1,.int n_1),(2,.int odd_2),(6,.ptr 6 0),(7,.ptr 7 0),(8,.int a140),(9,.int b174)],[(41,some (42,.pairs l173))],[(1000000,some [.ro false (.bytes c_0.b),.int c175,.int c176]),(6,some [.int (0:Int),.nil]),(7,some [.int n_1,.row 41 0 l173.length])]⟩:PS);refine Ag (Ag (Ab (Aa O (Aa O (Aa O (Af (Ar O (fun hb3=>?_) (fun hb3=>?_))))))))
  ·replace h:=Ak hb3 h;refine Aq (Ag (Ap (Ag (Ab (Aa O ?_)))));obtain ⟨v178,hc4,h⟩:=Ae h;refine Co (Bn N (⟨c_0.b,c175,c176⟩:Cur) (10:Int) v178 hc4) [] [1000000] [] O O O O O O Y ⟨O,Y⟩ ⟨⟨O,O⟩,⟨O,O⟩,Y⟩ (Aa O (Aa O (Aa O (Be O O O (fun hb5=>?_) (fun hb5=>?_)))))
   ·replace h:=Ak hb5 h;iterate 4 refine Av tt O O O O O hb5 O O O Y ?_
    refine Bm O O O O O hb5 O (Af (Ar O (fun hb6=>?_) (fun hb6=>?_)))
    ·replace h:=Ak hb6 h;refine Ab ?_;iterate 4 refine Aa O ?_
     refine Fz (Ai O) (Df Bx O O) O O (Cr tt O O O O O O O O O O O ?_);obtain ⟨hg7,h⟩:=Ac h;refine Bt tt O O O O O O O O O O O O O O O O (Nat.le_of_eq (Nat.zero_add _)) hg7 (Aa O (Ao tt O O O O O O O O O O O ⟨Y,Y⟩ (Af (Ab (Aa O ?_)))));obtain ⟨hg8,h⟩:=Ac h;refine Ad tt O hg8 (Aa O (Af ?_));show ∃ _,_;exact ⟨((l173++([(a140,b174)]:List (Int×Int))),(b174+(1:Int)),v178.2.1,v178.2.2),(En.of ⟨O,O,O,O,O,O,O,Y⟩ ⟨O,Y⟩ ⟨O,O,O,Y⟩),h⟩
    replace h:=Al hb6 h;refine Aq (Ab (Aa O ?_));obtain ⟨hg9,h⟩:=Ac h;refine Ad tt O hg9 (Aa O (Af ?_));show ∃ _,_;exact ⟨(l173,(b174+(1:Int)),v178.2.1,v178.2.2),(En.of ⟨O,O,O,O,O,O,O,Y⟩ ⟨O,Y⟩ ⟨O,O,O,Y⟩),h⟩
   replace h:=Al hb5 h;iterate 4 refine Kq O O O O hb5 O O ?_
   refine Aw O O O O O hb5 O (Af (Cp O O (Aq (Ab (Aa O ?_)))));obtain ⟨hg10,h⟩:=Ac h;refine Ad tt O hg10 (Aa O (Af ?_));show ∃ _,_;exact ⟨(l173,(b174+(1:Int)),v178.2.1,v178.2.2),(En.of ⟨O,O,O,O,O,O,O,Y⟩ ⟨O,Y⟩ ⟨O,O,O,Y⟩),h⟩
  replace h:=Al hb3 h;refine Bp ?_;show ∃ _,_;exact ⟨(l173,c175,c176),(En.of ⟨O,O,O,O,O,O,Y⟩ ⟨O,Y⟩ ⟨O,O,O,Y⟩),h⟩
 replace h:=Al hb1 h;refine Bp ?_;show ∃ _,_;exact ⟨(l139,c141,c142),(En.of ⟨O,O,Y⟩ ⟨O,Y⟩ ⟨O,O,O,Y⟩),h⟩
end
section
open Go.RowKit
def Rq (N:Nat) (c_0:Cur) (n_1:Int) (x_2:Int×Int) (other_3:Int):Option (Int×Int×Int):=
 (Bs N c_0 n_1).bind fun v1=>
 cnd (v1.1==x_2.1) (
  some (other_3,v1.2.1,v1.2.2)) (
  cnd (v1.1==x_2.2) (
   some (other_3,v1.2.1,v1.2.2)) (
   some (v1.1,v1.2.1,v1.2.2)))
theorem S_l6Third_w (N:Nat) (c_0:Cur) (n_1:Int) (x_2:Int×Int) (other_3:Int) (r:Int×Int×Int) (h:Rq N c_0 n_1 x_2 other_3=some r):MCall Tryz.prog 151 [.ptr 1000000 0,.int n_1,.agg [.int x_2.1,.int x_2.2],.int other_3] [] [1000000] [] [] [[.ro false (.bytes c_0.b),.int c_0.i,.int c_0.h]] [[.ro false (.bytes c_0.b),.int r.2.1,.int r.2.2]] (.int r.1):=by
 unfold Rq at h;refine Db (TT:=TT) tt Tryz.func151 O O Tryz.ntmps151 (congrArg Array.toList Tryz.results151) O O O O O fun w0 O0=>(Ag (Ab (Hz O O O O O O O O O (Aa O (Af (Ag (Ab (Aa O (Aa O ?_)))))))));obtain ⟨v1,hc1,h⟩:=Ae h;refine Co (Bn N c_0 n_1 v1 hc1) [] [1000000] [] O O O O O O Y ⟨O,Y⟩ ⟨⟨O,O⟩,⟨O,O⟩,Y⟩ (Aa O (Af (Ag (Ag (Ab ?_)))));iterate 5 refine Aa O ?_
 refine Be O O O (fun hb2=>?_) (fun hb2=>?_)
 ·replace h:=Ak hb2 h;iterate 4 refine Hg O O O O hb2 O O ?_
  refine Bm O O O O O hb2 O (Af (Ce O O (Ag (Ab (Aa O (Aa O (Af (Bg ?_))))))));show ∃ _,_;cases h;exact ⟨[],O,Y,⟨O,Y⟩,O⟩
 replace h:=Al hb2 h;iterate 4 refine Av tt O O O O O hb2 O O O Y ?_
 refine Aw O O O O O hb2 O (Af (Ar O (fun hb3=>?_) (fun hb3=>?_)))
 ·replace h:=Ak hb3 h;refine Ag (Ab (Aa O (Aa O (Af (Bg ?_)))));show ∃ _,_;cases h;exact ⟨[],O,Y,⟨O,Y⟩,O⟩
 replace h:=Al hb3 h;refine Aq (Ag (Ab (Aa O (Aa O (Af (Bg ?_))))));show ∃ _,_;cases h;exact ⟨[],O,Y,⟨O,Y⟩,O⟩
def Jb (N:Nat) (l80:List (Int×Int)) (v105:Int×Int×Int) (k:Int→Option (Grf×Int×Int)):Nat→Int→Option (Grf×Int×Int)
 | 0,_=>none
 | n+1,w114=>
  cnd (w114==((l80.getD ((v105.1).toNat) (0,0)).1)) (
   grd (Bc (w114+(1:Int))) <|
   Jb N l80 v105 k n (w114+(1:Int))) (
   cnd (w114==((l80.getD ((v105.1).toNat) (0,0)).2)) (
    grd (Bc (w114+(1:Int))) <|
    Jb N l80 v105 k n (w114+(1:Int))) (
    k w114))
def Fe (N:Nat) (c_0:Cur) (n_1:Int) (k:((List (Int×Int))×Int×Int×Int)→Option (Grf×Int×Int)):Nat→((List (Int×Int))×Int×Int×Int×Int)→Option (Grf×Int×Int)
 | 0,_=>none
 | n+1,(l80,v81,c82,c83,c84)=>
  cnd (decide (v81<n_1)) (
   (Bs N (⟨c_0.b,c82,c83⟩:Cur) v81).bind fun v102=>
   grd (Bc (v102.1+(1:Int))) <|
   grd (Bc (v81-(1:Int))) <|
   (Bs N (⟨c_0.b,v102.2.1,v102.2.2⟩:Cur) (v81-(1:Int))).bind fun v103=>
   grd (Bc ((v102.1+(1:Int))+v103.1)) <|
   grd (v81≠0) <|
   (Mt N (⟨c_0.b,v103.2.1,v103.2.2⟩:Cur) (2:Int)).bind fun v104=>
   cnd v104.1 (
    cnd (decide (v81 > (2:Int))) (
     (Bs N (⟨c_0.b,v104.2.1,v104.2.2⟩:Cur) (l80.length:Int)).bind fun v105=>
     grd (0≤v105.1∧v105.1<(l80.length:Int)) <|
     Jb N l80 v105 (fun (w107 : Int) =>
        (Rq N (⟨c_0.b,v105.2.1,v105.2.2⟩:Cur) v81 ((l80.getD ((v105.1).toNat) (0,0)).1,(l80.getD ((v105.1).toNat) (0,0)).2) w107).bind fun v108=>
        (Fo N (⟨c84,l80⟩:Grf) v105.1).bind fun v109=>
        (Fv N v109.1 ((l80.getD ((v105.1).toNat) (0,0)).1,v81)).bind fun v110=>
        (Fv N v110 ((l80.getD ((v105.1).toNat) (0,0)).2,v81)).bind fun v111=>
        (Fv N v111 (v108.1,v81)).bind fun v112=>
        grd (Bc (v81+(1:Int))) <|
        Fe N c_0 n_1 k n (v112.bars,(v81+(1:Int)),v108.2.1,v108.2.2,v112.n)) N (0:Int)) (
     (Fv N (⟨c84,l80⟩:Grf) (v102.1,v81)).bind fun v115=>
     (Fv N v115 ((Int.tmod ((v102.1+(1:Int))+v103.1) v81),v81)).bind fun v116=>
     grd (Bc (v81+(1:Int))) <|
     Fe N c_0 n_1 k n (v116.bars,(v81+(1:Int)),v104.2.1,v104.2.2,v116.n))) (
    (Fv N (⟨c84,l80⟩:Grf) (v102.1,v81)).bind fun v117=>
    (Fv N v117 ((Int.tmod ((v102.1+(1:Int))+v103.1) v81),v81)).bind fun v118=>
    grd (Bc (v81+(1:Int))) <|
    Fe N c_0 n_1 k n (v118.bars,(v81+(1:Int)),v104.2.1,v104.2.2,v118.n))) (
   k (l80,c82,c83,c84))
def Qf (N:Nat) (c_0:Cur) (n_1:Int):Option (Grf×Int×Int):=
 cnd (decide (n_1<(2:Int))) (
  some ((⟨n_1,([]:List (Int×Int))⟩:Grf),c_0.i,c_0.h)) (
  (Fv N (⟨n_1,([]:List (Int×Int))⟩:Grf) ((0:Int),(1:Int))).bind fun v1=>
  Fe N c_0 n_1 (fun (x:(List (Int×Int))×Int×Int×Int)=>
    match x with
    | (l58,c59,c60,c61)=>
     some ((⟨c61,l58⟩:Grf),c59,c60)) N (v1.bars,(2:Int),c_0.i,c_0.h,v1.n))
theorem Xb (N:Nat) (c_0:Cur) (n_1:Int) (r:Grf×Int×Int) (h:Qf N c_0 n_1=some r):MCall Tryz.prog 120 [.ptr 1000000 0,.int n_1] [900101] [1000000] [(42,.pairs [])] [(42,.pairs r.1.bars)] [[.ro false (.bytes c_0.b),.int c_0.i,.int c_0.h]] [[.ro false (.bytes c_0.b),.int r.2.1,.int r.2.2]] (.agg [.int r.1.n,.row 900101 0 r.1.bars.length]):=by
 unfold Qf at h;refine Db (TT:=TT) tt Tryz.func120 O O Tryz.ntmps120 (congrArg Array.toList Tryz.results120) O O O O O fun w0 O0=>(Ag (Ab (Bi tt O O O O O O O O O (Af (Ag (Ab (Aa O (Gr tt (Ai O) O O O O (Fz (Ai O) (Df Cv O O) O O ?_)))))))));refine Bi tt O O O O O O O O O (Ao tt O O O O O O O O O O O ⟨Y,Y,Y⟩ (Af (Ag (Ag (Ab (Aa O (Aa O (Af (Ar O (fun hb1=>?_) (fun hb1=>?_))))))))))
 ·replace h:=Ak hb1 h;refine Ag (Ab (Aa O (Ao tt O O O O O O O O O O O ⟨Y,Y,Y⟩ (Af (Kr 4 1 9001 42 (.pairs []) O O O O O (Bg ?_))))));show ∃ _,_;cases h;exact ⟨[9001],O,⟨O,Y⟩,⟨O,Y⟩,O⟩
 replace h:=Al hb1 h;refine Aq (Ag (Ab (Aa O (Fz (Ai O) (Df Bx O O) O O ?_))));obtain ⟨v1,hc2,h⟩:=Ae h;refine Ba (Ke N (⟨n_1,([]:List (Int×Int))⟩:Grf) ((0:Int),(1:Int)) v1 hc2) rfl rfl rfl rfl rfl rfl rfl rfl ⟨⟨rfl,rfl,Y⟩,⟨rfl,rfl,Y⟩,Y⟩ (Ao tt rfl rfl rfl rfl rfl rfl rfl rfl rfl rfl rfl ⟨Y,Y,Y⟩ (Af (Ag (Ag (Ab (Aa rfl (Af (Bz (F:=fun k=>Fe N c_0 n_1 k) h (α:=(List (Int×Int))×Int×Int×Int) (J:=fun | (l58,c59,c60,c61)=>(⟨[(4,.ptr 4 0),(5,.ptr 5 0)],[(1200,some (42,.pairs l58))],[(1000000,some [.ro false (.bytes c_0.b),.int c59,.int c60]),(4,some [.int (0:Int),.nil]),(5,some [.int c61,.row 1200 0 l58.length])]⟩:PS)) ?_ ?_))))))))
 ·rintro ⟨l58,c59,c60,c61⟩ h;show VC _ _ _ (⟨[(4,.ptr 4 0),(5,.ptr 5 0)],[(1200,some (42,.pairs l58))],[(1000000,some [.ro false (.bytes c_0.b),.int c59,.int c60]),(4,some [.int (0:Int),.nil]),(5,some [.int c61,.row 1200 0 l58.length])]⟩:PS);refine Ag (Ab (Aa O (Ao tt O O O O O O O O O O O ⟨Y,Y,Y⟩ (Af (Bg ?_)))));show ∃ _,_;cases h;exact ⟨[1200],O,⟨O,Y⟩,⟨O,Y⟩,O⟩
 intro k h;refine Ap (Bh (α:=(List (Int×Int))×Int×Int×Int×Int) (fun | (l80,v81,c82,c83,c84)=>(⟨[(0,.ptr 1000000 0),(1,.int n_1),(4,.ptr 4 0),(5,.ptr 5 0),(6,.int v81)],[(1200,some (42,.pairs l80))],[(1000000,some [.ro false (.bytes c_0.b),.int c82,.int c83]),(4,some [.int (0:Int),.nil]),(5,some [.int c84,.row 1200 0 l80.length])]⟩:PS)) (Fe N c_0 n_1 k) h (En.of ⟨rfl,rfl,rfl,rfl,rfl,Y⟩ ⟨rfl,Y⟩ ⟨rfl,rfl,rfl,Y⟩) (fun _=>rfl) ?_);rintro n ⟨l80,v81,c82,c83,c84⟩ h;rw [Fe] at h;show VC _ _ _ (⟨[(0,.ptr 1000000 0),(1,.int n_1),(4,.ptr 4 0),(5,.ptr 5 0),(6,.int v81)],[(1200,some (42,.pairs l80))],[(1000000,some [.ro false (.bytes c_0.b),.int c82,.int c83]),(4,some [.int (0:Int),.nil]),(5,some [.int c84,.row 1200 0 l80.length])]⟩:PS);refine Ag (Ag (Ab (Aa O (Aa O (Aa O (Af (Ar O (fun hb3=>?_) (fun hb3=>?_))))))))
 ·replace h:=Ak hb3 h;refine Aq (Ag (Ap (Ag (Ab (Aa O (Aa O ?_))))));obtain ⟨v102,hc4,h⟩:=Ae h;refine Co (Bn N (⟨c_0.b,c82,c83⟩:Cur) v81 v102 hc4) [] [1000000] [] O O O O O O Y ⟨O,Y⟩ ⟨⟨O,O⟩,⟨O,O⟩,Y⟩ (Aa O (Af (Ag (Ab (Aa O ?_)))));obtain ⟨hg5,h⟩:=Ac h;refine Ad tt O hg5 (Aa O (Aa O ?_));obtain ⟨hg6,h⟩:=Ac h;refine Ad tt O hg6 ?_;obtain ⟨v103,hc7,h⟩:=Ae h;refine Co (Bn N (⟨c_0.b,v102.2.1,v102.2.2⟩:Cur) (v81-(1:Int)) v103 hc7) [] [1000000] [] O O O O O O Y ⟨O,Y⟩ ⟨⟨O,O⟩,⟨O,O⟩,Y⟩ ?_;obtain ⟨hg8,h⟩:=Ac h;refine Ad tt O hg8 (Aa O ?_);obtain ⟨hg9,h⟩:=Ac h;refine Ad tt O hg9 (Aa O (Af (Ag (Ab (Aa O ?_)))));obtain ⟨v104,hc10,h⟩:=Ae h;refine Co (Vw N (⟨c_0.b,v103.2.1,v103.2.2⟩:Cur) (2:Int) v104 hc10) [] [1000000] [] O O O O O O Y ⟨O,Y⟩ ⟨⟨O,O⟩,⟨O,O⟩,Y⟩ (Aa O (Be O O O (fun hb11=>?_) (fun hb11=>?_)))
  ·replace h:=Ak hb11 h;iterate 2 refine Av tt O O O O O hb11 O O O Y ?_
   refine Bm O O O O O hb11 O (Af (Ar O (fun hb12=>?_) (fun hb12=>?_)))
   ·replace h:=Ak hb12 h;refine Ag (Ab ?_);iterate 4 refine Aa O ?_
    obtain ⟨v105,hc13,h⟩:=Ae h;refine Co (Bn N (⟨c_0.b,v104.2.1,v104.2.2⟩:Cur) (l80.length:Int) v105 hc13) [] [1000000] [] O O O O O O Y ⟨O,Y⟩ ⟨⟨O,O⟩,⟨O,O⟩,Y⟩ (Aa O (Af (Ag (Ab (Aa O (Aa O (Aa O ?_)))))));obtain ⟨hg14,h⟩:=Ac h;refine Ad tt O hg14 (Ad tt O hg14 (Bi tt O O O O O O O O O (Ao tt O O O O O O O O O O O ⟨Y,Y,Y⟩ (Af (Ag (Ab (Aa O (Af (Ag ?_)))))))));refine Bz (F:=fun k=>Jb N l80 v105 k) h (α:=Int) (J:=fun (w107:Int)=>(⟨[(0,.ptr 1000000 0),(1,.int n_1),(4,.ptr 4 0),(5,.ptr 5 0),(6,.int v81),(9,.int v105.1),(10,.ptr 10 0),(11,.int w107)],[(1200,some (42,.pairs l80))],[(1000000,some [.ro false (.bytes c_0.b),.int v105.2.1,.int v105.2.2]),(4,some [.int (0:Int),.nil]),(5,some [.int c84,.row 1200 0 l80.length]),(10,some [.int ((l80.getD ((v105.1).toNat) (0,0)).1),.int ((l80.getD ((v105.1).toNat) (0,0)).2)])]⟩:PS)) ?_ ?_
    ·rintro w107 h;show VC _ _ _ (⟨[(0,.ptr 1000000 0),(1,.int n_1),(4,.ptr 4 0),(5,.ptr 5 0),(6,.int v81),(9,.int v105.1),(10,.ptr 10 0),(11,.int w107)],[(1200,some (42,.pairs l80))],[(1000000,some [.ro false (.bytes c_0.b),.int v105.2.1,.int v105.2.2]),(4,some [.int (0:Int),.nil]),(5,some [.int c84,.row 1200 0 l80.length]),(10,some [.int ((l80.getD ((v105.1).toNat) (0,0)).1),.int ((l80.getD ((v105.1).toNat) (0,0)).2)])]⟩:PS);refine Ag (Ab ?_);iterate 4 refine Aa O ?_
     obtain ⟨v108,hc15,h⟩:=Ae h;refine Co (S_l6Third_w N (⟨c_0.b,v105.2.1,v105.2.2⟩:Cur) v81 ((l80.getD ((v105.1).toNat) (0,0)).1,(l80.getD ((v105.1).toNat) (0,0)).2) w107 v108 hc15) [] [1000000] [] O O O O O O Y ⟨O,Y⟩ ⟨⟨O,O⟩,⟨O,O⟩,⟨⟨O,O⟩,⟨O,O⟩,Y⟩,⟨O,O⟩,Y⟩ (Aa O (Af (Ag (Ab (Aa O (Aa O ?_))))));obtain ⟨v109,hc16,h⟩:=Ae h;refine Ba (St N (⟨c84,l80⟩:Grf) v105.1 v109 hc16) O O O O O O O O ⟨⟨O,(.inl ⟨O,O⟩),Y⟩,O,Y⟩ (Aa O (Aa O (Aa O (Ao tt O O O O O O O O O O O ⟨Y,Y,Y⟩ (Af (Dn 14 [5,10] [0,0,2,0,14,31,0,64,0,448,1023,0,0,6144,16383,32767] (by kernel_rfl) (by kernel_rfl) (by kernel_rfl) (by kernel_rfl) (by kernel_rfl) O (by rfl) ?_))))));iterate 4 refine Fy tt O (Ai O) O O O O O Y ?_
     refine nPure (Ai O) (Df Bx O O) O O O O ?_;obtain ⟨v110,hc17,h⟩:=Ae h;refine Rd (Ke N v109.1 ((l80.getD ((v105.1).toNat) (0,0)).1,v81) v110 hc17) rfl (Ai rfl) rfl rfl rfl rfl rfl rfl (by first | rfl | kernel_rfl | (simp [nrL,nm,Hy,nmT,Jv]; done)) rfl (by first | rfl | kernel_rfl | (simp [Pr,nrL,nm,Hy,nmT,Jv,hid,Jp,Fb,Dh]; done) | (simp [Pr,nrL,nm,Hy,nmT,Jv,hid,Jp,Fb,Dh]; decide)) ⟨⟨rfl,(.inl ⟨rfl,rfl⟩),Y⟩,⟨rfl,rfl,Y⟩,Y⟩ ?_;iterate 3 refine Fy tt O (Ai O) O O O O O Y ?_
     refine nPure (Ai O) (Df Bx O O) O O O O ?_;obtain ⟨v111,hc18,h⟩:=Ae h;refine Rd (Ke N v110 ((l80.getD ((v105.1).toNat) (0,0)).2,v81) v111 hc18) rfl (Ai rfl) rfl rfl rfl rfl rfl rfl (by first | rfl | kernel_rfl | (simp [nrL,nm,Hy,nmT,Jv]; done)) rfl (by first | rfl | kernel_rfl | (simp [Pr,nrL,nm,Hy,nmT,Jv,hid,Jp,Fb,Dh]; done) | (simp [Pr,nrL,nm,Hy,nmT,Jv,hid,Jp,Fb,Dh]; decide)) ⟨⟨rfl,(.inl ⟨rfl,rfl⟩),Y⟩,⟨rfl,rfl,Y⟩,Y⟩ ?_;iterate 2 refine Fy tt O (Ai O) O O O O O Y ?_
     refine nPure (Ai O) (Df Bx O O) O O O O (Tb ?_);show VO _ _ _ _ _;obtain ⟨v112,hc19,h⟩:=Ae h;refine Ba (Ke N v111 (v108.1,v81) v112 hc19) O O O O O O O O ⟨⟨O,(.inl ⟨O,O⟩),Y⟩,⟨O,O,Y⟩,Y⟩ (Ao tt O O O O O O O O O O O ⟨Y,Y,Y⟩ (Af (Ab (Aa O ?_))));obtain ⟨hg20,h⟩:=Ac h;refine Ad tt O hg20 (Aa O (Af ?_));show ∃ _,_;exact ⟨(v112.bars,(v81+(1:Int)),v108.2.1,v108.2.2,v112.n),(En.ren [1200] [1910] O ⟨.inr O,.inr O,.inr O,.inr O,.inr O,Y⟩ ⟨.inr O,Y⟩ ⟨.inr ⟨_,_,O,O,⟨.inr O,.inr O,.inr O,Y⟩⟩,.inr ⟨_,_,O,O,⟨.inr O,.inr O,Y⟩⟩,.inr ⟨_,_,O,O,⟨.inr O,.inr O,Y⟩⟩,Y⟩),h⟩
    intro k h;refine Ap (Bh (α:=Int) (fun (w114:Int)=>(⟨[(0,.ptr 1000000 0),(1,.int n_1),(4,.ptr 4 0),(5,.ptr 5 0),(6,.int v81),(9,.int v105.1),(10,.ptr 10 0),(11,.int w114)],[(1200,some (42,.pairs l80))],[(1000000,some [.ro false (.bytes c_0.b),.int v105.2.1,.int v105.2.2]),(4,some [.int (0:Int),.nil]),(5,some [.int c84,.row 1200 0 l80.length]),(10,some [.int ((l80.getD ((v105.1).toNat) (0,0)).1),.int ((l80.getD ((v105.1).toNat) (0,0)).2)])]⟩:PS)) (Jb N l80 v105 k) h (En.of ⟨O,O,O,O,O,O,O,O,Y⟩ ⟨O,Y⟩ ⟨O,O,O,O,Y⟩) (fun _=>O) ?_);rintro n w114 h;rw [Jb] at h;show VC _ _ _ (⟨[(0,.ptr 1000000 0),(1,.int n_1),(4,.ptr 4 0),(5,.ptr 5 0),(6,.int v81),(9,.int v105.1),(10,.ptr 10 0),(11,.int w114)],[(1200,some (42,.pairs l80))],[(1000000,some [.ro false (.bytes c_0.b),.int v105.2.1,.int v105.2.2]),(4,some [.int (0:Int),.nil]),(5,some [.int c84,.row 1200 0 l80.length]),(10,some [.int ((l80.getD ((v105.1).toNat) (0,0)).1),.int ((l80.getD ((v105.1).toNat) (0,0)).2)])]⟩:PS);refine Ag (Ag (Ab ?_));iterate 5 refine Aa O ?_
    refine Be O O O (fun hb21=>?_) (fun hb21=>?_)
    ·replace h:=Ak hb21 h;iterate 4 refine Hg O O O O hb21 O O ?_
     refine Bm O O O O O hb21 O (Af (Ce O O (Aq (Ap (Ab (Aa O ?_))))));obtain ⟨hg22,h⟩:=Ac h;refine Ad tt O hg22 (Aa O (Af ?_));show ∃ _,_;exact ⟨(w114+(1:Int)),(En.of ⟨O,O,O,O,O,O,O,O,Y⟩ ⟨O,Y⟩ ⟨O,O,O,O,Y⟩),h⟩
    replace h:=Al hb21 h;iterate 4 refine Av tt O O O O O hb21 O O O Y ?_
    refine Aw O O O O O hb21 O (Af (Ar O (fun hb23=>?_) (fun hb23=>?_)))
    ·replace h:=Ak hb23 h;refine Aq (Ap (Ab (Aa O ?_)));obtain ⟨hg24,h⟩:=Ac h;refine Ad tt O hg24 (Aa O (Af ?_));show ∃ _,_;exact ⟨(w114+(1:Int)),(En.of ⟨O,O,O,O,O,O,O,O,Y⟩ ⟨O,Y⟩ ⟨O,O,O,O,Y⟩),h⟩
    replace h:=Al hb23 h;refine Bp ?_;show ∃ _,_;exact ⟨w114,(En.of ⟨O,O,O,O,O,O,O,O,Y⟩ ⟨O,Y⟩ ⟨O,O,O,O,Y⟩),h⟩
   replace h:=Al hb12 h;refine Ab (Aa O (Aa O (Aa O (Fz (Ai O) (Df Bx O O) O O ?_))));obtain ⟨v115,hc25,h⟩:=Ae h;refine Ba (Ke N (⟨c84,l80⟩:Grf) (v102.1,v81) v115 hc25) O O O O O O O O ⟨⟨O,(.inl ⟨O,O⟩),Y⟩,⟨O,O,Y⟩,Y⟩ (Aa O (Aa O (Fz (Ai O) (Df Bx O O) O O ?_)));obtain ⟨v116,hc26,h⟩:=Ae h;refine Ba (Ke N v115 ((Int.tmod ((v102.1+(1:Int))+v103.1) v81),v81) v116 hc26) O O O O O O O O ⟨⟨O,(.inl ⟨O,O⟩),Y⟩,⟨O,O,Y⟩,Y⟩ (Ao tt O O O O O O O O O O O ⟨Y,Y,Y⟩ (Af (Ab (Aa O ?_))));obtain ⟨hg27,h⟩:=Ac h;refine Ad tt O hg27 (Aa O (Af ?_));show ∃ _,_;exact ⟨(v116.bars,(v81+(1:Int)),v104.2.1,v104.2.2,v116.n),(En.ren [1200] [2000] O ⟨.inr O,.inr O,.inr O,.inr O,.inr O,Y⟩ ⟨.inr O,Y⟩ ⟨.inr ⟨_,_,O,O,⟨.inr O,.inr O,.inr O,Y⟩⟩,.inr ⟨_,_,O,O,⟨.inr O,.inr O,Y⟩⟩,.inr ⟨_,_,O,O,⟨.inr O,.inr O,Y⟩⟩,Y⟩),h⟩
  replace h:=Al hb11 h;iterate 2 refine Kq O O O O hb11 O O ?_
  refine Aw O O O O O hb11 O (Af (Cp O O (Ab (Aa O (Aa O (Aa O (Fz (Ai O) (Df Bx O O) O O ?_)))))));obtain ⟨v117,hc28,h⟩:=Ae h;refine Ba (Ke N (⟨c84,l80⟩:Grf) (v102.1,v81) v117 hc28) O O O O O O O O ⟨⟨O,(.inl ⟨O,O⟩),Y⟩,⟨O,O,Y⟩,Y⟩ (Aa O (Aa O (Fz (Ai O) (Df Bx O O) O O ?_)));obtain ⟨v118,hc29,h⟩:=Ae h;refine Ba (Ke N v117 ((Int.tmod ((v102.1+(1:Int))+v103.1) v81),v81) v118 hc29) O O O O O O O O ⟨⟨O,(.inl ⟨O,O⟩),Y⟩,⟨O,O,Y⟩,Y⟩ (Ao tt O O O O O O O O O O O ⟨Y,Y,Y⟩ (Af (Ab (Aa O ?_))));obtain ⟨hg30,h⟩:=Ac h;refine Ad tt O hg30 (Aa O (Af ?_));show ∃ _,_;exact ⟨(v118.bars,(v81+(1:Int)),v104.2.1,v104.2.2,v118.n),(En.ren [1200] [2000] O ⟨.inr O,.inr O,.inr O,.inr O,.inr O,Y⟩ ⟨.inr O,Y⟩ ⟨.inr ⟨_,_,O,O,⟨.inr O,.inr O,.inr O,Y⟩⟩,.inr ⟨_,_,O,O,⟨.inr O,.inr O,Y⟩⟩,.inr ⟨_,_,O,O,⟨.inr O,.inr O,Y⟩⟩,Y⟩),h⟩
 replace h:=Al hb3 h;refine Bp ?_;show ∃ _,_;exact ⟨(l80,c82,c83,c84),(En.of ⟨O,O,Y⟩ ⟨O,Y⟩ ⟨O,O,O,Y⟩),h⟩
def Qt (N:Nat) (c_0:Cur) (list_1:List Int):Option (Int×(List Int)×Int×Int):=
 (Bs N c_0 (list_1.length:Int)).bind fun v1=>
 grd (0≤v1.1∧v1.1<(list_1.length:Int)) <|
 some ((list_1.getD ((v1.1).toNat) 0),list_1,v1.2.1,v1.2.2)
theorem S_l1PickInt_w (N:Nat) (c_0:Cur) (list_1:List Int) (r:Int×(List Int)×Int×Int) (h:Qt N c_0 list_1=some r):MCall Tryz.prog 124 [.ptr 1000000 0,.row 1000010 0 list_1.length] [1000010] [1000000] [(3,.ints list_1)] [(3,.ints r.2.1)] [[.ro false (.bytes c_0.b),.int c_0.i,.int c_0.h]] [[.ro false (.bytes c_0.b),.int r.2.2.1,.int r.2.2.2]] (.int r.1):=by
 unfold Qt at h;refine Db (TT:=TT) tt Tryz.func124 O O Tryz.ntmps124 (congrArg Array.toList Tryz.results124) O O O O O fun w0 O0=>(Ag (Ab (Aa O (Af (Ag (Ab ?_))))));iterate 4 refine Aa O ?_
 obtain ⟨v1,hc1,h⟩:=Ae h;refine Co (Bn N c_0 (list_1.length:Int) v1 hc1) [] [1000000] [] O O O O O O Y ⟨O,Y⟩ ⟨⟨O,O⟩,⟨O,O⟩,Y⟩ ?_;obtain ⟨hg2,h⟩:=Ac h;refine Ad tt O hg2 (Ad tt O hg2 (Aa O (Af (Bg ?_))));show ∃ _,_;cases h;exact ⟨[1000010],O,⟨O,Y⟩,⟨O,Y⟩,O⟩
end
section
open Go.RowKit Go.Deep
section
variable {C:Cx} {ops:Array Oper} {K:PS→Prop} {l:List Oper} {s s':PS} {TT:List (Nat×Ty)} {tm:List (Nat×D)} {rw':List (Nat×Option (TypeId×Sq))} {bx:List (Nat×Option (List D))}
end
end
section
open Go.RowKit
end
section
open Go.RowKit
end
section
open Go.RowKit
end
section
open Go.RowKit
end
section
open Go.RowKit
end
section
open Go.RowKit
end
section
open Go.RowKit
end
section
open Go.RowKit
end
section
open Go.RowKit
end
section
open Go.RowKit
variable {N:Nat}
theorem getD_in {α:Type} {l:List α} {i:Nat} {d:α} (h:i<l.length):l.getD i d∈l:=by
 rw [List.getD_eq_getElem?_getD,List.getElem?_eq_getElem h]; exact List.getElem_mem h
theorem Ade (hN:4000000≤N) {g:Grf} {m:Int} {k:Nat} (h:GD m k g) (hk:k≤999) {x:Int×Int} (hx:0≤x.1∧x.1<m∧0≤x.2∧x.2<m):Ok (Fv N g x) fun r=>GD m (k+1) r∧r.n=g.n∧0<r.bars.length:=by
 have hl:=h.len;obtain ⟨L,h1,h2,h3⟩:=put0_s (N:=N) hN (g:=g) (by omega) x;refine ⟨_,h1,⟨by simp only; omega,fun e he=>?_⟩,O,by simp only; omega⟩;rcases (h3 e).1 he with rfl | h4
 ·exact hx
 exact h.rg e h4
structure FD (n:Int) (k:Nat) (f:Frm):Prop where
 pn:f.g.n=n
 pl:(f.places.length:Int)=n
 on:∀ e∈f.places,Ac3 e=true
 len:f.g.bars.length≤k
 sub:∀ e∈f.g.bars,0≤e.1∧e.1<n∧0≤e.2∧e.2<n
theorem of_d (hN:4000000≤N) {c:Cur} (hc:CK c) {g:Grf} {k:Nat} (hk:k≤999) (hn:0≤g.n∧g.n≤64) (hg:GD g.n k g):Ok (S_l10Of N c g) fun r=>FD g.n k r.1∧0≤r.2.1:=by
 unfold S_l10Of;have hl:=hg.len
 have bars:∀ (ps:List (Int×Int)) (ci ch:Int),(ps.length:Int)=g.n→(∀ e∈ps,Ac3 e=true)→0≤ci→∀ (fuel i:Nat) (l:List (Int×Int)),i≤g.bars.length→g.bars.length<fuel+i→l.length≤i→(∀ e∈l,e∈g.bars) →
   Ok (Hx N g ps (fun (l22:List (Int×Int))=>some ((⟨⟨g.n,l22⟩,ps⟩:Frm),ci,ch)) fuel (l,(i:Int))) fun r=>FD g.n k r.1∧0≤r.2.1:=by
  intro ps ci ch hp1 hp2 hci fuel
  induction fuel with
  | zero=>intro i l h1 h2; omega
  | succ fuel ih=>
   intro i l h1 h2 h3 h4;rw [Hx];have e2:((i:Int)).toNat=i:=rfl;rw [e2];refine Dk (fun c1=>?_) (fun c1=>Dr ⟨⟨O,hp1,hp2,by simp only; omega,fun e he=>hg.rg e (h4 e he)⟩,hci⟩);rw [decide_eq_true_eq] at c1;have hin:=getD_in (l:=g.bars) (i:=i) (d:=(0,0)) (by omega);obtain ⟨b1,b2,b3,b4⟩:=hg.rg _ hin
   have hx:∀ e∈l++[((g.bars.getD i (0,0)).1,(g.bars.getD i (0,0)).2)],e∈g.bars:=fun e he=>by
    rcases List.mem_append.1 he with he | he
    ·exact h4 e he
    simp only [List.mem_singleton] at he; rw [he]; exact hin
   refine Bu ⟨by omega,by omega⟩ (Bu ⟨b1,by omega⟩ (Bu ⟨b3,by omega⟩ (Dk (fun c2=>?_) (fun c2=>Bu ⟨by omega,by omega⟩ (ih (i+1) l (by omega) (by omega) (by omega) h4)))));refine Dk (fun c3=>?_) (fun c3=>?_)
   ·exact Bu (by omega) (Bu ⟨by omega,by omega⟩ (ih (i+1) _ (by omega) (by omega) (by simp; omega) hx))
   have c3:¬ (i:Int)=0:=by simpa using c3
   refine Bu ⟨by omega,by omega⟩ (Bu ⟨by omega,by omega⟩ (Dk (fun c4=>?_) (fun c4=>?_)))
   ·exact Bu (by omega) (Bu ⟨by omega,by omega⟩ (ih (i+1) _ (by omega) (by omega) (by simp; omega) hx))
   exact Bu ⟨by omega,by omega⟩ (ih (i+1) l (by omega) (by omega) (by omega) h4)
 have key:∀ (fuel i:Nat) (l:List (Int×Int)) (ci ch:Int),(i:Int)≤g.n→g.n<fuel+i→l.length=i→(∀ e∈l,Ac3 e=true)→0≤ci →
   Ok (Mf N c g (fun (x:(List (Int×Int))×Int×Int)=>
   match x with
   | (l16,c17,c18)=>
    Hx N g l16 (fun (l22 : List (Int × Int)) =>
       some ((⟨⟨g.n,l22⟩,l16⟩:Frm),c17,c18)) N (([]:List (Int×Int)),(0:Int))) fuel (l,(i:Int),ci,ch)) fun r=>FD g.n k r.1∧0≤r.2.1:=by
  intro fuel
  induction fuel with
  | zero=>intro i l ci ch h1 h2; omega
  | succ fuel ih=>
   intro i l ci ch h1 h2 h3 h4 h5;rw [Mf];refine Dk (fun c1=>?_) (fun c1=>?_)
   ·rw [decide_eq_true_eq] at c1;refine Bk (Eb (hc.at h5) 5) fun x hx=>Bk (Eb (hc.at hx.cur) 5) fun y hy=>?_;have x0:=hx.nn;have x1:=hx.lt (by omega);have y0:=hy.nn;have y1:=hy.lt (by omega);refine Bu (by omega) (Bu ⟨by omega,by omega⟩ (ih (i+1) _ _ _ (by omega) (by omega) (by simp; omega) (fun e he=>?_) hy.cur));rcases List.mem_append.1 he with he | he
    ·exact h4 e he
    simp only [List.mem_singleton] at he; subst he;simp [Ac3,inB]; omega
   rw [decide_eq_false_iff_not] at c1;exact bars l ci ch (by omega) h4 h5 N 0 [] (by omega) (by omega) (by simp) (by simp)
 exact key N 0 [] _ _ (by omega) (by omega) O (by simp) hc.nn
theorem Aan (hN:4000000≤N) {c:Cur} (hc:CK c) {n odd:Int} (hn:0≤n∧n≤64):Ok (Lk N c n odd) fun r=>GD n 24 r.1∧r.1.n=n∧0≤r.2.1:=by
 unfold Lk
 have inner:∀ (a:Nat) {kk:(List (Int×Int))×Int×Int→Option (Grf×Int×Int)},(a:Int)<n→(∀ l ci ch,GD n 24 ⟨n,l⟩→0≤ci→Ok (kk (l,ci,ch)) fun r=>GD n 24 r.1∧r.1.n=n∧0≤r.2.1) →
   ∀ (fuel b:Nat) (l:List (Int×Int)) (ci ch:Int),(b:Int)≤n→n<fuel+b→GD n 24 ⟨n,l⟩→0≤ci→Ok (Gb N c n odd (a:Int) kk fuel (l,(b:Int),ci,ch)) fun r=>GD n 24 r.1∧r.1.n=n∧0≤r.2.1:=by
  intro a kk ha hk fuel
  induction fuel with
  | zero=>intro b l ci ch h1 h2; omega
  | succ fuel ih=>
   intro b l ci ch h1 h2 h3 h4;rw [Gb];have hl:=h3.len;refine Dk (fun c1=>?_) (fun c1=>hk l ci ch h3 h4);rw [decide_eq_true_eq] at c1;refine Bk (Eb (hc.at h4) 10) fun x hx=>(Dk (fun c2=>?_) (fun c2=>Bu ⟨by omega,by omega⟩ (ih (b+1) l _ _ (by omega) (by omega) h3 hx.cur)));refine Dk (fun c3=>?_) (fun c3=>Bu ⟨by omega,by omega⟩ (ih (b+1) l _ _ (by omega) (by omega) h3 hx.cur));rw [decide_eq_true_eq] at c3;refine Bu (by omega) (Bu ⟨by omega,by omega⟩ (ih (b+1) _ _ _ (by omega) (by omega) ⟨by simp; omega,fun e he=>?_⟩ hx.cur));rcases List.mem_append.1 he with he | he
   ·exact h3.rg e he
   simp only [List.mem_singleton] at he; subst he; simp only; omega
 have outer:∀ (fuel a:Nat) (l:List (Int×Int)) (ci ch:Int),(a:Int)≤n→n<fuel+a→GD n 24 ⟨n,l⟩→0≤ci→Ok (Jo N c n odd (fun (x:(List (Int×Int))×Int×Int)=>
   match x with
   | (l88,c89,c90)=>
    some ((⟨n,l88⟩:Grf),c89,c90)) fuel (l,(a:Int),ci,ch)) fun r=>GD n 24 r.1∧r.1.n=n∧0≤r.2.1:=by
  intro fuel
  induction fuel with
  | zero=>intro a l ci ch h1 h2; omega
  | succ fuel ih=>
   intro a l ci ch h1 h2 h3 h4;rw [Jo];refine Dk (fun c1=>?_) (fun c1=>Dr ⟨h3,O,h4⟩);rw [decide_eq_true_eq] at c1;refine Bu ⟨by omega,by omega⟩ ?_;rw [Ah];exact inner a c1 (fun l ci ch k1 k2=>ih (a+1) l ci ch (by omega) (by omega) k1 k2) N (a+1) l ci ch (by omega) (by omega) h3 h4
 exact outer N 0 [] _ _ (by omega) (by omega) ⟨by simp,by simp⟩ hc.nn
theorem third_d {c:Cur} (hc:CK c) {n w:Int} {x:Int×Int} (hn:0<n) (hw:0≤w∧w<n):Ok (Rq N c n x w) fun r=>(0≤r.1∧r.1<n)∧0≤r.2.1:=by
 unfold Rq;refine Bk (Eb hc n) fun v hv=>?_;have v0:=hv.nn;have v1:=hv.lt hn;exact Dk (fun _=>Dr ⟨hw,hv.cur⟩) fun _=>Dk (fun _=>Dr ⟨hw,hv.cur⟩) fun _=>Dr ⟨⟨v0,v1⟩,hv.cur⟩
theorem laman_d (hN:4000000≤N) {c:Cur} (hc:CK c) {n:Int} (hn:0≤n∧n≤8):Ok (Qf N c n) fun r=>GD n 40 r.1∧r.1.n=n∧0≤r.2.1∧(2≤n→0<r.1.bars.length):=by
 unfold Qf;refine Dk (fun c1=>Dr ⟨⟨by simp,by simp⟩,O,hc.nn,fun h=>by rw [decide_eq_true_eq] at c1; omega⟩) (fun c1=>?_);rw [decide_eq_false_iff_not] at c1
 have key : ∀ (fuel : Nat) (l : List (Int × Int)) (v ci ch : Int), GD n (3 * v.toNat) ⟨n, l⟩ → 0 < l.length → 2 ≤ v → v ≤ n → 0 ≤ ci → 9 < fuel + v → Ok (Fe N c n (fun (x : (List (Int × Int)) × Int × Int × Int) =>
    match x with
    | (l58,c59,c60,c61)=>
     some ((⟨c61,l58⟩:Grf),c59,c60)) fuel (l,v,ci,ch,n)) fun r=>GD n 40 r.1∧r.1.n=n∧0≤r.2.1∧(2≤n→0<r.1.bars.length):=by
  intro fuel
  induction fuel with
  | zero=>intro l v ci ch h1 h2 h3 h4 h5 h6; omega
  | succ fuel ih=>
   intro l v ci ch hg hl hv2 hvn hci hf;have hgl:=hg.len;rw [Fe];refine Dk (fun c1=>?_) (fun c1=>Dr ⟨⟨by simp only at hgl ⊢; omega,hg.rg⟩,O,hci,fun _=>hl⟩);rw [decide_eq_true_eq] at c1;refine Bk (Eb (hc.at hci) v) fun x hx=>?_;have x0:=hx.nn;have x1:=hx.lt (by omega);refine Bu ⟨by omega,by omega⟩ (Bu ⟨by omega,by omega⟩ (Bk (Eb (hc.at hx.cur) (v-1)) fun y hy=>?_));have y0:=hy.nn;have y1:=hy.lt (by omega);refine Bu ⟨by omega,by omega⟩ (Bu (by omega) (Bk (once_s (hc.at hy.cur) 2) fun o ho=>?_));have tm:0≤Int.tmod (x.1+1+y.1) v∧Int.tmod (x.1+1+y.1) v<v:=⟨Int.tmod_nonneg v (by omega),Int.tmod_lt_of_pos _ (by omega)⟩
   have two:Ok ((Fv N (⟨n,l⟩:Grf) (x.1,v)).bind fun v115=>
     (Fv N v115 ((Int.tmod ((x.1+(1:Int))+y.1) v),v)).bind fun v116=>
     grd (Bc (v+(1:Int))) <|
     Fe N c n (fun (x:(List (Int×Int))×Int×Int×Int)=>
    match x with
    | (l58,c59,c60,c61)=>
     some ((⟨c61,l58⟩:Grf),c59,c60)) fuel (v116.bars,(v+(1:Int)),o.2.1,o.2.2,v116.n)) fun r=>GD n 40 r.1∧r.1.n=n∧0≤r.2.1∧(2≤n→0<r.1.bars.length):=by
    refine Bk (Ade hN hg (by omega) ⟨x0,by omega,by omega,by omega⟩) fun g1 k1=>(Bk (Ade hN k1.1 (by omega) ⟨tm.1,by omega,by omega,by omega⟩) fun g2 k2=>?_);have en:g2.n=n:=by rw [k2.2.1,k1.2.1]
    refine Bu ⟨by omega,by omega⟩ ?_;rw [en];exact ih _ _ _ _ ⟨by have:=k2.1.len; simp only; omega,k2.1.rg⟩ k2.2.2 (by omega) (by omega) ho (by omega)
   refine Dk (fun c2=>?_) (fun c2=>two);refine Dk (fun c3=>?_) (fun c3=>two);rw [decide_eq_true_eq] at c3;refine Bk (Eb (hc.at ho) (l.length:Int)) fun z hz=>?_;have z0:=hz.nn;have z1:=hz.lt (by omega);have hin:=getD_in (l:=l) (i:=z.1.toNat) (d:=(0,0)) (by omega);refine Bu ⟨z0,z1⟩ ?_;generalize he:l.getD z.1.toNat (0,0)=e at hin;obtain ⟨e1,e2,e3,e4⟩:=hg.rg e hin
   have loop : ∀ (fuel' : Nat) (w : Int), 0 ≤ w → w ≤ 2 → (w = 2 → (e.1 = 0 ∧ e.2 = 1) ∨ (e.1 = 1 ∧ e.2 = 0)) → (w = 1 → e.1 = 0 ∨ e.2 = 0) → 3 < fuel' + w → Ok (Jb N l z (fun (w107 : Int) =>
        (Rq N (⟨c.b,z.2.1,z.2.2⟩:Cur) v (e.1,e.2) w107).bind fun v108=>
        (Fo N (⟨n,l⟩:Grf) z.1).bind fun v109=>
        (Fv N v109.1 (e.1,v)).bind fun v110=>
        (Fv N v110 (e.2,v)).bind fun v111=>
        (Fv N v111 (v108.1,v)).bind fun v112=>
        grd (Bc (v+(1:Int))) <|
        Fe N c n (fun (x:(List (Int×Int))×Int×Int×Int)=>
    match x with
    | (l58,c59,c60,c61)=>
     some ((⟨c61,l58⟩:Grf),c59,c60)) fuel (v112.bars,(v+(1:Int)),v108.2.1,v108.2.2,v112.n)) fuel' w) fun r=>GD n 40 r.1∧r.1.n=n∧0≤r.2.1∧(2≤n→0<r.1.bars.length):=by
    intro fuel'
    induction fuel' with
    | zero=>intro w h1 h2 h3 h4 h5; omega
    | succ fuel' ih'=>
     intro w h1 h2 h3 h4 h5;rw [Jb,he];refine Dk (fun d1=>?_) (fun d1=>?_)
     ·have d1:w=e.1:=by simpa using d1
      exact Bu ⟨by omega,by omega⟩ (ih' (w+1) (by omega) (by omega) (by omega) (by omega) (by omega))
     refine Dk (fun d2=>?_) (fun d2=>?_)
     ·have d2:w=e.2:=by simpa using d2
      exact Bu ⟨by omega,by omega⟩ (ih' (w+1) (by omega) (by omega) (by omega) (by omega) (by omega))
     refine Bk (third_d (hc.at hz.cur) (by omega) ⟨h1,by omega⟩) fun t ht=>(Bk (remove_d hN hg (by omega) z.1) fun g0 k0=>(Bk (Ade hN k0.1 (by omega) ⟨e1,e2,by omega,by omega⟩) fun g1 k1=>(Bk (Ade hN k1.1 (by omega) ⟨e3,e4,by omega,by omega⟩) fun g2 k2=>(Bk (Ade hN k2.1 (by omega) ⟨ht.1.1,by omega,by omega,by omega⟩) fun g3 k3=>?_))));have en:g3.n=n:=by rw [k3.2.1,k2.2.1,k1.2.1,k0.2]
     refine Bu ⟨by omega,by omega⟩ ?_;rw [en];exact ih _ _ _ _ ⟨by have:=k3.1.len; simp only; omega,k3.1.rg⟩ k3.2.2 (by omega) (by omega) ht.2 (by omega)
   exact loop N 0 (by omega) (by omega) (by omega) (by omega) (by omega)
 have hg0:GD n 5 ⟨n,([]:List (Int×Int))⟩:=⟨by simp,by simp⟩;refine Bk (Ade hN hg0 (by omega) (x:=(0,1)) ⟨by simp,by simp only; omega,by simp,by simp only; omega⟩) fun g k=>?_;rw [k.2.1];exact key N _ _ _ _ ⟨by have:=k.1.len; simp only; omega,k.1.rg⟩ k.2.2 (by omega) (by omega) hc.nn (by omega)
theorem pickInt_d {c:Cur} (hc:CK c) {l:List Int} (hl:0<l.length):Ok (Qt N c l) fun r=>r.1∈l∧0≤r.2.2.1:=by
 unfold Qt;refine Bk (Eb hc _) fun v hv=>?_;have v0:=hv.nn;have v1:=hv.lt (by omega);exact Bu ⟨v0,v1⟩ (Dr ⟨getD_in (by omega),hv.cur⟩)
end
end Go.Proofs.YtaipbhnpandbkaaGreat
