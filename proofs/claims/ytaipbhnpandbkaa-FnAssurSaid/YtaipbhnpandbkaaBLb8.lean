/- Texts that the proof needs, put together: G72 G115 Rd G119 Shc G120 Da Qs Db Ec. -/
import Derived.Test.YtaipbhnpandbkaaBLb3
import Derived.Test.YtaipbhnpandbkaaBLb4
import Derived.Test.YtaipbhnpandbkaaBLb5
import Derived.Test.YtaipbhnpandbkaaBLb6
import Derived.Test.YtaipbhnpandbkaaBLb7
set_option maxRecDepth 20000
set_option maxHeartbeats 1600000
set_option linter.unusedVariables false
set_option linter.unusedSimpArgs false
namespace Go.Proofs.Ytaipbhnpandbkaa
section
open Go.RowKit
def Cl (N:Nat) (v1:(List (List Int))×Bool) (l1011:List Int) (i1222:Int) (v1244:List Int) (k:Bool→Option ((List (List Int))×Bool)):Nat→(Bool×Int)→Option ((List (List Int))×Bool)
 | 0,_=>none
 | n+1,(ready1257,k1258)=>
  cnd (decide (k1258<(v1244.length:Int))) (
   cnd ready1257 (
    grd (0≤k1258∧k1258<(v1244.length:Int)) <|
    (Fe N l1011 (v1244.getD ((k1258).toNat) 0)).bind fun v1261=>
    cnd v1261 (
     grd (Bc (k1258+(1:Int))) <|
     Cl N v1 l1011 i1222 v1244 k n (true,(k1258+(1:Int)))) (
     (Fe N (v1.1.getD ((i1222).toNat) []) (v1244.getD ((k1258).toNat) 0)).bind fun v1262=>
     grd (Bc (k1258+(1:Int))) <|
     Cl N v1 l1011 i1222 v1244 k n (v1262,(k1258+(1:Int))))) (
    grd (Bc (k1258+(1:Int))) <|
    Cl N v1 l1011 i1222 v1244 k n (false,(k1258+(1:Int))))) (
   k ready1257)
def Cw (N:Nat) (p_0:Pin) (v1:(List (List Int))×Bool) (v2:(List Int)×Bool) (l1010:List (List Int)) (l1011:List Int) (k:((List (List Int))×(List Int))→Option ((List (List Int))×Bool)):Nat→Int→Option ((List (List Int))×Bool)
 | 0,_=>none
 | n+1,i1222=>
  cnd (decide (i1222<(v1.1.length:Int))) (
   grd (0≤i1222∧i1222<(v1.1.length:Int)) <|
   grd (0≤(0:Int)∧(0:Int)<((v1.1.getD ((i1222).toNat) []).length:Int)) <|
   (Fe N l1011 ((v1.1.getD ((i1222).toNat) []).getD ((0:Int).toNat) 0)).bind fun v1243=>
   cnd v1243 (
    grd (Bc (i1222+(1:Int))) <|
    Cw N p_0 v1 v2 l1010 l1011 k n (i1222+(1:Int))) (
    (Hk N p_0 v2.1 ((v1.1.getD ((i1222).toNat) []).getD ((0:Int).toNat) 0)).bind fun v1244=>
    Cl N v1 l1011 i1222 v1244 (fun (ready1253 : Bool) =>
       cnd ready1253 (
        grd ((v1.1.getD ((i1222).toNat) []).length≤4294967296) <|
        grd (l1010.length+1≤4294967296) <|
        grd (l1011.length+(v1.1.getD ((i1222).toNat) []).length≤4294967296) <|
        k ((l1010++([(([]:List Int)++(v1.1.getD ((i1222).toNat) []))]:List (List Int))),(l1011++(v1.1.getD ((i1222).toNat) [])))) (
        grd (Bc (i1222+(1:Int))) <|
        Cw N p_0 v1 v2 l1010 l1011 k n (i1222+(1:Int)))) N (true,(0:Int)))) (
   k (l1010,l1011))
def Cm (N:Nat) (p_0:Pin) (v1:(List (List Int))×Bool) (v2:(List Int)×Bool) (k:(List (List Int))→Option ((List (List Int))×Bool)):Nat→((List (List Int))×(List Int)×Int)→Option ((List (List Int))×Bool)
 | 0,_=>none
 | n+1,(l1010,l1011,n1012)=>
  cnd (decide (n1012<(v1.1.length:Int))) (
   cnd v1.2 (
    Cw N p_0 v1 v2 l1010 l1011 (fun (x:(List (List Int))×(List Int))=>
      match x with
      | (l1199,l1200)=>
       grd (Bc (n1012+(1:Int))) <|
       Cm N p_0 v1 v2 k n (l1199,l1200,(n1012+(1:Int)))) N (0:Int)) (
    k l1010)) (
   k l1010)
def Hy (N:Nat) (p_0:Pin):Option ((List (List Int))×Bool):=
 (Fn N p_0).bind fun v1=>
 (Dy N p_0).bind fun v2=>
 Cm N p_0 v1 v2 (fun (l632 : List (List Int)) =>
    some (l632,v1.2)) N (([]:List (List Int)),([]:List Int),(0:Int))
theorem Xf (N:Nat) (p_0:Pin) (r:(List (List Int))×Bool) (h:Hy N p_0=some r):PCall Try.prog 11 [pD p_0] [(27,.intss r.1)] (.tup [.row 0 0 r.1.length,.bool r.2]):=by
 unfold Hy at h;refine Aj (TT:=TT) tt Try.func11 O O Try.ntmps11 (congrArg Array.toList Try.results11) O O fun w0=>(Ai (Ab (Lh O O O O O O O O O (Aa O (Aa O (Ah (Ai (Ab (Gt tt (Ad O) O O O O ?_)))))))));refine Aa O (Ah (Ai (Ab (Aa O ?_))));obtain ⟨v1,hc1,h⟩:=Ag h;refine Ba (Pk N p_0 v1 hc1) O O O O O O O O ⟨⟨O,O,O,Y⟩,Y⟩ ?_;iterate 5 refine Aa O ?_
 refine Ah (Ai (Ab (Aa O ?_)));obtain ⟨v2,hc2,h⟩:=Ag h;refine Ba (Lq N p_0 v2 hc2) O O O O O O O O ⟨⟨O,O,O,Y⟩,Y⟩ ?_;iterate 5 refine Aa O ?_
 refine Ah (Ai (Ab (Gt tt (Ad O) O O O O (Aa O (Ah (Ai (Ai (Ab (Aa O ?_)))))))));refine Ah (Cr (F:=fun k=>Cm N p_0 v1 v2 k) h (α:=List (List Int)) (J:=fun (l632:List (List Int))=>(⟨[(4,.row 94 0 l632.length),(6,.bool v1.2)],[(94,some (27,.intss l632))],[]⟩:PS)) ?_ ?_)
 ·rintro l632 h;show VC _ _ _ (⟨[(4,.row 94 0 l632.length),(6,.bool v1.2)],[(94,some (27,.intss l632))],[]⟩:PS);refine Ai (Ab ?_);iterate 4 refine Aa O ?_
  refine Ah (Az ?_);show ∃ _,_;cases h;exact ⟨[94],_,O,⟨O,Y⟩,O,.eq O,O⟩
 intro k h;refine Aq (Lc 4 94 27 (.intss []) rfl rfl rfl rfl (Lc 9 100 3 (.ints []) rfl rfl rfl rfl (Bd (α:=(List (List Int))×(List Int)×Int) (fun | (l1010,l1011,n1012)=>(⟨[(1,.ptr 1 0),(4,.row 94 0 l1010.length),(5,.row 1180 0 v1.1.length),(6,.bool v1.2),(7,.row 1230 0 v2.1.length),(9,.row 100 0 l1011.length),(10,.int n1012)],[(94,some (27,.intss l1010)),(1180,some (27,.intss v1.1)),(1230,some (3,.ints v2.1)),(100,some (3,.ints l1011))],[(1,some [.int p_0.g.n,.ro false (.pairs p_0.g.bars),.ro false (.ints p_0.ground)])]⟩:PS)) (Cm N p_0 v1 v2 k) h (En.of ⟨rfl,rfl,rfl,rfl,rfl,rfl,rfl,Y⟩ ⟨rfl,rfl,rfl,rfl,Y⟩ ⟨rfl,Y⟩) (fun _=>rfl) ?_)));rintro n ⟨l1010,l1011,n1012⟩ h;rw [Cm] at h;show VC _ _ _ (⟨[(1,.ptr 1 0),(4,.row 94 0 l1010.length),(5,.row 1180 0 v1.1.length),(6,.bool v1.2),(7,.row 1230 0 v2.1.length),(9,.row 100 0 l1011.length),(10,.int n1012)],[(94,some (27,.intss l1010)),(1180,some (27,.intss v1.1)),(1230,some (3,.ints v2.1)),(100,some (3,.ints l1011))],[(1,some [.int p_0.g.n,.ro false (.pairs p_0.g.bars),.ro false (.ints p_0.ground)])]⟩:PS);refine Ai (Ai (Ab ?_));iterate 5 refine Aa O ?_
 refine Bu O O O (fun hb3=>?_) (fun hb3=>?_)
 ·replace h:=Ak hb3 h;refine Bt tt O O O O O hb3 O O O Y (Cf O O O O O hb3 O (Ah (Au O (fun hb4=>?_) (fun hb4=>?_))))
  ·replace h:=Ak hb4 h;refine As (Ai (Aq (Ai (Ab (Aa rfl (Ah (Cr (F:=fun k=>Cw N p_0 v1 v2 l1010 l1011 k) h (α:=(List (List Int))×(List Int)) (J:=fun | (l1199,l1200)=>(⟨[(1,.ptr 1 0),(4,.row 94 0 l1199.length),(5,.row 1180 0 v1.1.length),(6,.bool v1.2),(7,.row 1230 0 v2.1.length),(9,.row 100 0 l1200.length),(10,.int n1012)],[(94,some (27,.intss l1199)),(1180,some (27,.intss v1.1)),(1230,some (3,.ints v2.1)),(100,some (3,.ints l1200))],[(1,some [.int p_0.g.n,.ro false (.pairs p_0.g.bars),.ro false (.ints p_0.ground)])]⟩:PS)) ?_ ?_)))))))
   ·rintro ⟨l1199,l1200⟩ h;show VC _ _ _ (⟨[(1,.ptr 1 0),(4,.row 94 0 l1199.length),(5,.row 1180 0 v1.1.length),(6,.bool v1.2),(7,.row 1230 0 v2.1.length),(9,.row 100 0 l1200.length),(10,.int n1012)],[(94,some (27,.intss l1199)),(1180,some (27,.intss v1.1)),(1230,some (3,.ints v2.1)),(100,some (3,.ints l1200))],[(1,some [.int p_0.g.n,.ro false (.pairs p_0.g.bars),.ro false (.ints p_0.ground)])]⟩:PS);refine Ab (Aa O ?_);obtain ⟨hg5,h⟩:=Ac h;refine Ae tt O hg5 (Aa O (Ah ?_));show ∃ _,_;exact ⟨(l1199,l1200,(n1012+(1:Int))),(En.of ⟨O,O,O,O,O,O,O,Y⟩ ⟨O,O,O,O,Y⟩ ⟨O,Y⟩),h⟩
   intro k h;refine Aq (Bd (α:=Int) (fun (i1222:Int)=>(⟨[(1,.ptr 1 0),(4,.row 94 0 l1010.length),(5,.row 1180 0 v1.1.length),(6,.bool v1.2),(7,.row 1230 0 v2.1.length),(9,.row 100 0 l1011.length),(10,.int n1012),(11,.int i1222)],[(94,some (27,.intss l1010)),(1180,some (27,.intss v1.1)),(1230,some (3,.ints v2.1)),(100,some (3,.ints l1011))],[(1,some [.int p_0.g.n,.ro false (.pairs p_0.g.bars),.ro false (.ints p_0.ground)])]⟩:PS)) (Cw N p_0 v1 v2 l1010 l1011 k) h (En.of ⟨O,O,O,O,O,O,O,O,Y⟩ ⟨O,O,O,O,Y⟩ ⟨O,Y⟩) (fun _=>O) ?_);rintro n i1222 h;rw [Cw] at h;show VC _ _ _ (⟨[(1,.ptr 1 0),(4,.row 94 0 l1010.length),(5,.row 1180 0 v1.1.length),(6,.bool v1.2),(7,.row 1230 0 v2.1.length),(9,.row 100 0 l1011.length),(10,.int n1012),(11,.int i1222)],[(94,some (27,.intss l1010)),(1180,some (27,.intss v1.1)),(1230,some (3,.ints v2.1)),(100,some (3,.ints l1011))],[(1,some [.int p_0.g.n,.ro false (.pairs p_0.g.bars),.ro false (.ints p_0.ground)])]⟩:PS);refine Ai (Ai (Ab ?_));iterate 4 refine Aa O ?_
   refine Ah (Au O (fun hb6=>?_) (fun hb6=>?_))
   ·replace h:=Ak hb6 h;refine As (Ai (Aq (Ai (Ai (Ab (Aa O (Aa O (Aa O ?_))))))));obtain ⟨hg7,h⟩:=Ac h;refine Ae tt O hg7 (Ae tt O hg7 ?_);obtain ⟨hg8,h⟩:=Ac h;refine Ae tt O hg8 (Aa O ?_);obtain ⟨v1243,hc9,h⟩:=Ag h;refine Ba (Eu N l1011 ((v1.1.getD ((i1222).toNat) []).getD ((0:Int).toNat) 0) v1243 hc9) O O O O O O O O ⟨(.inl ⟨O,O⟩),O,Y⟩ (Ah (Au O (fun hb10=>?_) (fun hb10=>?_)))
    ·replace h:=Ak hb10 h;refine Bn (Ab (Aa O ?_));obtain ⟨hg11,h⟩:=Ac h;refine Ae tt O hg11 (Aa O (Ah ?_));show ∃ _,_;exact ⟨(i1222+(1:Int)),(En.of ⟨O,O,O,O,O,O,O,O,Y⟩ ⟨O,O,O,O,Y⟩ ⟨O,Y⟩),h⟩
    replace h:=Al hb10 h;refine As (Ai (Ab (Aa O (Ah (Ai (Bi 8 [] [0,0,0,0,12,28,60,124,255,511] (by kernel_rfl) (by kernel_rfl) (by kernel_rfl) (by kernel_rfl) (by kernel_rfl) O (by rfl) ?_))))));iterate 4 refine Br tt O (Ad O) O O O O O Y ?_
    iterate 2 refine Br tt O (Ad O) O O O O O hg7 ?_
    refine Br tt O (Ad O) O O O O O hg8 (Br tt O (Ad O) O O O O O Y (Pm ?_));show VO _ _ _ _ _;obtain ⟨v1244,hc12,h⟩:=Ag h;refine Ba (Pq N p_0 v2.1 ((v1.1.getD ((i1222).toNat) []).getD ((0:Int).toNat) 0) v1244 hc12) O O O O O O O O ⟨⟨O,O,O,Y⟩,(.inl ⟨O,O⟩),O,Y⟩ (Aa O (Ah (Ai (Ai (Ab (Aa O (Ah (Cr (F:=fun k=>Cl N v1 l1011 i1222 v1244 k) h (α:=Bool) (J:=fun (ready1253:Bool)=>(⟨[(1,.ptr 1 0),(4,.row 94 0 l1010.length),(5,.row 1180 0 v1.1.length),(6,.bool v1.2),(7,.row 1230 0 v2.1.length),(9,.row 100 0 l1011.length),(10,.int n1012),(11,.int i1222),(12,.bool ready1253)],[(94,some (27,.intss l1010)),(1180,some (27,.intss v1.1)),(1230,some (3,.ints v2.1)),(100,some (3,.ints l1011))],[(1,some [.int p_0.g.n,.ro false (.pairs p_0.g.bars),.ro false (.ints p_0.ground)])]⟩:PS)) ?_ ?_))))))))
    ·rintro ready1253 h;show VC _ _ _ (⟨[(1,.ptr 1 0),(4,.row 94 0 l1010.length),(5,.row 1180 0 v1.1.length),(6,.bool v1.2),(7,.row 1230 0 v2.1.length),(9,.row 100 0 l1011.length),(10,.int n1012),(11,.int i1222),(12,.bool ready1253)],[(94,some (27,.intss l1010)),(1180,some (27,.intss v1.1)),(1230,some (3,.ints v2.1)),(100,some (3,.ints l1011))],[(1,some [.int p_0.g.n,.ro false (.pairs p_0.g.bars),.ro false (.ints p_0.ground)])]⟩:PS);refine Ai (Ab (Aa O (Ah (Au O (fun hb13=>?_) (fun hb13=>?_)))))
     ·replace h:=Ak hb13 h;refine Ai (Ab (Aa O (Gt tt (Ad O) O O O O (Aa O (Aa O (Ae tt O hg7 (Ae tt O hg7 ?_)))))));obtain ⟨hg14,h⟩:=Ac h;refine oAppNil tt (Ad O) O O O O O O O (fun _=>O) O O O O O hg14 (oFreeze (t:=92) O O O O (Ep tt O O O O O O O O O O O ?_));obtain ⟨hg15,h⟩:=Ac h;refine Da tt O O O O O O O O O O O O O O O O (Nat.le_of_eq (Nat.zero_add _)) hg15 (Aa O (Ah (Ai (Ab (Aa O (Aa O (Aa O (Ae tt O hg7 (Ae tt O hg7 ?_)))))))));obtain ⟨hg16,h⟩:=Ac h;refine Da tt O O O O O O O O O O O O O O O O Y hg16 (Aa O (Ah (Bn ?_)));show ∃ _,_;exact ⟨((l1010++([(([]:List Int)++(v1.1.getD ((i1222).toNat) []))]:List (List Int))),(l1011++(v1.1.getD ((i1222).toNat) []))),(En.of ⟨O,O,O,O,O,O,O,Y⟩ ⟨O,O,O,O,Y⟩ ⟨O,Y⟩),h⟩
     replace h:=Al hb13 h;refine As (Ab (Aa O ?_));obtain ⟨hg17,h⟩:=Ac h;refine Ae tt O hg17 (Aa O (Ah ?_));show ∃ _,_;exact ⟨(i1222+(1:Int)),(En.of ⟨O,O,O,O,O,O,O,O,Y⟩ ⟨O,O,O,O,Y⟩ ⟨O,Y⟩),h⟩
    intro k h;refine Aq (Bd (α:=Bool×Int) (fun | (ready1257,k1258)=>(⟨[(1,.ptr 1 0),(4,.row 94 0 l1010.length),(5,.row 1180 0 v1.1.length),(6,.bool v1.2),(7,.row 1230 0 v2.1.length),(9,.row 100 0 l1011.length),(10,.int n1012),(11,.int i1222),(12,.bool ready1257),(13,.row 1580 0 v1244.length),(14,.int k1258)],[(94,some (27,.intss l1010)),(1180,some (27,.intss v1.1)),(1230,some (3,.ints v2.1)),(100,some (3,.ints l1011)),(1580,some (3,.ints v1244))],[(1,some [.int p_0.g.n,.ro false (.pairs p_0.g.bars),.ro false (.ints p_0.ground)])]⟩:PS)) (Cl N v1 l1011 i1222 v1244 k) h (En.of ⟨rfl,rfl,rfl,rfl,rfl,rfl,rfl,rfl,rfl,rfl,rfl,Y⟩ ⟨rfl,rfl,rfl,rfl,rfl,Y⟩ ⟨rfl,Y⟩) (fun _=>rfl) ?_);rintro n ⟨ready1257,k1258⟩ h;rw [Cl] at h;show VC _ _ _ (⟨[(1,.ptr 1 0),(4,.row 94 0 l1010.length),(5,.row 1180 0 v1.1.length),(6,.bool v1.2),(7,.row 1230 0 v2.1.length),(9,.row 100 0 l1011.length),(10,.int n1012),(11,.int i1222),(12,.bool ready1257),(13,.row 1580 0 v1244.length),(14,.int k1258)],[(94,some (27,.intss l1010)),(1180,some (27,.intss v1.1)),(1230,some (3,.ints v2.1)),(100,some (3,.ints l1011)),(1580,some (3,.ints v1244))],[(1,some [.int p_0.g.n,.ro false (.pairs p_0.g.bars),.ro false (.ints p_0.ground)])]⟩:PS);refine Ai (Ai (Ab ?_));iterate 4 refine Aa O ?_
    refine Ah (Au O (fun hb18=>?_) (fun hb18=>?_))
    ·replace h:=Ak hb18 h;refine As (Ai (Aq (Bs (by kernel_rfl) (by kernel_rfl) ?_)));iterate 2 refine Ax tt O (Ad O) O O O Y ?_
     refine Dj O O O (fun hb19=>?_) (fun hb19=>?_)
     ·replace h:=Ak hb19 h;iterate 3 refine Ax tt O (Av O O O O hb19) O O O Y ?_
      obtain ⟨hg20,h⟩:=Ac h;iterate 2 refine Ax tt O (Av O O O O hb19) O O O hg20 ?_
      obtain ⟨v1261,hc21,h⟩:=Ag h;refine Hp (Eu N l1011 (v1244.getD ((k1258).toNat) 0) v1261 hc21) O (Av O O O O hb19) O O O O O O ⟨(.inl ⟨O,O⟩),O,Y⟩ (Ax tt O (Av O O O O hb19) O O O Y (Dj O O O (fun hb22=>?_) (fun hb22=>?_)))
      ·replace h:=Ak hb22 h;iterate 9 refine Ex O O O O hb22 O O ?_
       refine Ay O (Av O O O O hb19) O O O hb22 O (Ay O (Ad O) O O O hb19 O (Ax tt O (Ad O) O O O Y (Hq (Ab (Aa O ?_)))));obtain ⟨hg23,h⟩:=Ac h;refine Ae tt O hg23 (Aa O (Ah ?_));show ∃ _,_;exact ⟨(true,(k1258+(1:Int))),(En.of ⟨O,O,O,O,O,O,O,O,O,O,O,Y⟩ ⟨O,O,O,O,O,Y⟩ ⟨O,Y⟩),h⟩
      replace h:=Al hb22 h;iterate 2 refine Ax tt O (Av O O O O hb22) O O O Y ?_
      iterate 2 refine Ax tt O (Av O O O O hb22) O O O hg7 ?_
      iterate 2 refine Ax tt O (Av O O O O hb22) O O O Y ?_
      iterate 2 refine Ax tt O (Av O O O O hb22) O O O hg20 ?_
      obtain ⟨v1262,hc24,h⟩:=Ag h;refine Hp (Eu N (v1.1.getD ((i1222).toNat) []) (v1244.getD ((k1258).toNat) 0) v1262 hc24) O (Av O O O O hb22) O O O O O O ⟨O,O,Y⟩ (Ct O (Av O O O O hb19) O O O hb22 O (Ay O (Ad O) O O O hb19 O (Ax tt O (Ad O) O O O Y (Hq (Ab (Aa O ?_))))));obtain ⟨hg25,h⟩:=Ac h;refine Ae tt O hg25 (Aa O (Ah ?_));show ∃ _,_;exact ⟨(v1262,(k1258+(1:Int))),(En.of ⟨O,O,O,O,O,O,O,O,O,O,O,Y⟩ ⟨O,O,O,O,O,Y⟩ ⟨O,Y⟩),h⟩
     replace h:=Al hb19 h;iterate 7 refine cNoT O O O O hb19 O O ?_
     iterate 9 refine cNoU O O O O O ?_
     refine cNoT O O O O hb19 O O (Ct O (Ad O) O O O hb19 O (Ax tt O (Ad O) O O O Y (Hq (Ab (Aa O ?_)))));obtain ⟨hg26,h⟩:=Ac h;refine Ae tt O hg26 (Aa O (Ah ?_));show ∃ _,_;exact ⟨(false,(k1258+(1:Int))),(En.of ⟨O,O,O,O,O,O,O,O,O,O,O,Y⟩ ⟨O,O,O,O,O,Y⟩ ⟨O,Y⟩),h⟩
    replace h:=Al hb18 h;refine Bn ?_;show ∃ _,_;exact ⟨ready1257,(En.of ⟨O,O,O,O,O,O,O,O,O,Y⟩ ⟨O,O,O,O,Y⟩ ⟨O,Y⟩),h⟩
   replace h:=Al hb6 h;refine Bn ?_;show ∃ _,_;exact ⟨(l1010,l1011),(En.of ⟨O,O,O,O,O,O,O,Y⟩ ⟨O,O,O,O,Y⟩ ⟨O,Y⟩),h⟩
  replace h:=Al hb4 h;refine Bn ?_;show ∃ _,_;exact ⟨l1010,(En.of ⟨O,O,Y⟩ ⟨O,Y⟩ trivial),h⟩
 replace h:=Al hb3 h;refine Sw O O O O hb3 O O (Bp O O O O O hb3 O (Ah (Gf O O (Bn ?_))));show ∃ _,_;exact ⟨l1010,(En.of ⟨O,O,Y⟩ ⟨O,Y⟩ trivial),h⟩
def Ff (N:Nat) (n_0:Int) (mask_1:Int) (k:(List Int)→Option (List Int)):Nat→((List Int)×Int)→Option (List Int)
 | 0,_=>none
 | n+1,(l5,i6)=>
  cnd (decide (i6<n_0)) (
   grd (0≤i6) <|
   cnd ((andI (shrI mask_1 i6) (1:Int))==(1:Int)) (
    grd (l5.length+1≤4294967296) <|
    grd (Bc (i6+(1:Int))) <|
    Ff N n_0 mask_1 k n ((l5++([i6]:List Int)),(i6+(1:Int)))) (
    grd (Bc (i6+(1:Int))) <|
    Ff N n_0 mask_1 k n (l5,(i6+(1:Int))))) (
   k l5)
def Zj (N:Nat) (n_0:Int) (mask_1:Int):Option (List Int):=
 Ff N n_0 mask_1 (fun (l3 : List Int) =>
    some l3) N (([]:List Int),(0:Int))
theorem S_l3Set_w (N:Nat) (n_0:Int) (mask_1:Int) (r:List Int) (h:Zj N n_0 mask_1=some r):PCall Try.prog 60 [.int n_0,.int mask_1] [(3,.ints r)] (.row 0 0 r.length):=by
 unfold Zj at h;refine Aj (TT:=TT) tt Try.func60 O O Try.ntmps60 (congrArg Array.toList Try.results60) O O fun w0=>(Ai (Ab (Aa O (Ah (Ai (Ab (Gt tt (Ad O) O O O O (Aa O (Ah ?_)))))))));refine Ai (Ai (Ab (Aa O (Ah (Cr (F:=fun k=>Ff N n_0 mask_1 k) h (α:=List Int) (J:=fun (l3:List Int)=>(⟨[(5,.row 21 0 l3.length)],[(21,some (3,.ints l3))],[]⟩:PS)) ?_ ?_)))))
 ·rintro l3 h;show VC _ _ _ (⟨[(5,.row 21 0 l3.length)],[(21,some (3,.ints l3))],[]⟩:PS);refine Ai (Ab (Aa O (Aa O (Ah (Az ?_)))));show ∃ _,_;cases h;exact ⟨[21],_,O,⟨O,Y⟩,O,.eq O,O⟩
 intro k h;refine Aq (Lc 5 21 3 (.ints []) rfl rfl rfl rfl (Bd (α:=(List Int)×Int) (fun | (l5,i6)=>(⟨[(0,.int n_0),(1,.int mask_1),(5,.row 21 0 l5.length),(6,.int i6)],[(21,some (3,.ints l5))],[]⟩:PS)) (Ff N n_0 mask_1 k) h (En.of ⟨rfl,rfl,rfl,rfl,Y⟩ ⟨rfl,Y⟩ trivial) (fun _=>rfl) ?_));rintro n ⟨l5,i6⟩ h;rw [Ff] at h;show VC _ _ _ (⟨[(0,.int n_0),(1,.int mask_1),(5,.row 21 0 l5.length),(6,.int i6)],[(21,some (3,.ints l5))],[]⟩:PS);refine Ai (Ai (Ab (Aa O (Aa O (Aa O (Ah (Au O (fun hb1=>?_) (fun hb1=>?_))))))))
 ·replace h:=Ak hb1 h;refine As (Ai (Aq (Ai (Ab (Aa O (Aa O ?_))))));obtain ⟨hg2,h⟩:=Ac h;refine Ae tt O hg2 (Aa O (Aa O (Ah (Au O (fun hb3=>?_) (fun hb3=>?_)))))
  ·replace h:=Ak hb3 h;refine Ab (Aa O (Aa O (Ep tt O O O O O O O O O O O ?_)));obtain ⟨hg4,h⟩:=Ac h;refine Da tt O O O O O O O O O O O O O O O O (Nat.le_of_eq (Nat.zero_add _)) hg4 (Aa O (Ah (Ab (Aa O ?_))));obtain ⟨hg5,h⟩:=Ac h;refine Ae tt O hg5 (Aa O (Ah ?_));show ∃ _,_;exact ⟨((l5++([i6]:List Int)),(i6+(1:Int))),(En.of ⟨O,O,O,O,Y⟩ ⟨O,Y⟩ trivial),h⟩
  replace h:=Al hb3 h;refine As (Ab (Aa O ?_));obtain ⟨hg6,h⟩:=Ac h;refine Ae tt O hg6 (Aa O (Ah ?_));show ∃ _,_;exact ⟨(l5,(i6+(1:Int))),(En.of ⟨O,O,O,O,Y⟩ ⟨O,Y⟩ trivial),h⟩
 replace h:=Al hb1 h;refine Bn ?_;show ∃ _,_;exact ⟨l5,(En.of ⟨O,Y⟩ ⟨O,Y⟩ trivial),h⟩
end
section
open Go.RowKit Go.Deep
def Ck (N:Nat) (l970:List (List Int)) (l971:List Int) (x1173:Int) (v1193:List Int) (k:Bool→Option ((List (List Int))×Bool)):Nat→(Bool×Int)→Option ((List (List Int))×Bool)
 | 0,_=>none
 | n+1,(ready1206,x1207)=>
  cnd (decide (x1207<(v1193.length:Int))) (
   grd (0≤x1207∧x1207<(v1193.length:Int)) <|
   cnd ready1206 (
    (Di N l971 (v1193.getD ((x1207).toNat) 0)).bind fun v1210=>
    cnd v1210 (
     grd (Bc (x1207+(1:Int))) <|
     Ck N l970 l971 x1173 v1193 k n (true,(x1207+(1:Int)))) (
     (Di N (l970.getD ((x1173).toNat) []) (v1193.getD ((x1207).toNat) 0)).bind fun v1211=>
     grd (Bc (x1207+(1:Int))) <|
     Ck N l970 l971 x1173 v1193 k n (v1211,(x1207+(1:Int))))) (
    grd (Bc (x1207+(1:Int))) <|
    Ck N l970 l971 x1173 v1193 k n (false,(x1207+(1:Int))))) (
   k ready1206)
def Dm (N:Nat) (p_0:Pin) (l969:List (List Int)) (l970:List (List Int)) (l971:List Int) (k:((List (List Int))×(List (List Int))×(List Int))→Option ((List (List Int))×Bool)):Nat→Int→Option ((List (List Int))×Bool)
 | 0,_=>none
 | n+1,x1173=>
  cnd (decide (x1173<(l970.length:Int))) (
   grd (0≤x1173∧x1173<(l970.length:Int)) <|
   grd (0≤(0:Int)∧(0:Int)<((l970.getD ((x1173).toNat) []).length:Int)) <|
   (Es N p_0 ((l970.getD ((x1173).toNat) []).getD ((0:Int).toNat) 0)).bind fun v1193=>
   Ck N l970 l971 x1173 v1193 (fun (ready1202 : Bool) =>
      cnd ready1202 (
       grd (0<(l970.getD ((x1173).toNat) []).length) <|
       grd (l969.length+1≤4294967296) <|
       grd (l971.length≤l971.length) <|
       grd (l971.length+(l970.getD ((x1173).toNat) []).length≤4294967296) <|
       grd (0≤x1173∧x1173≤(l970.length:Int)) <|
       grd (((x1173).toNat)≤l970.length) <|
       grd (l970.length≤4294967296) <|
       grd (Bc (x1173+(1:Int))) <|
       grd (0≤(x1173+(1:Int))∧(x1173+(1:Int))≤(l970.length:Int)) <|
       grd (((x1173).toNat)=((x1173).toNat)∧(0+(((x1173+(1:Int))).toNat))=((x1173).toNat)+1∧(l970.length-(((x1173+(1:Int))).toNat))=l970.length-(((x1173).toNat)+1)∧((x1173).toNat)<l970.length) <|
       k ((l969++[(l970.getD ((x1173).toNat) [])]),(l970.take ((x1173).toNat)++l970.drop (((x1173).toNat)+1)),((l971.take l971.length)++((l969++[(l970.getD ((x1173).toNat) [])]).getD l969.length [])))) (
       grd (Bc (x1173+(1:Int))) <|
       Dm N p_0 l969 l970 l971 k n (x1173+(1:Int)))) N (true,(0:Int))) (
   k (l969,l970,l971))
def Cu (N:Nat) (p_0:Pin) (k:(List (List Int))→Option ((List (List Int))×Bool)):Nat→((List (List Int))×(List (List Int))×(List Int))→Option ((List (List Int))×Bool)
 | 0,_=>none
 | n+1,(l969,l970,l971)=>
  cnd (decide ((l970.length:Int) > (0:Int))) (
   Dm N p_0 l969 l970 l971 (fun (x:(List (List Int))×(List (List Int))×(List Int))=>
     match x with
     | (l1150,l1151,l1152)=>
      Cu N p_0 k n (l1150,l1151,l1152)) N (0:Int)) (
   k l969)
def Ht (N:Nat) (p_0:Pin):Option ((List (List Int))×Bool):=
 (Fo N p_0).bind fun v1=>
 cnd (!v1.2) (
  some (([]:List (List Int)),false)) (
  Cu N p_0 (fun (l606 : List (List Int)) =>
     some (l606,true)) N (([]:List (List Int)),v1.1,([]:List Int)))
theorem Xb (N:Nat) (p_0:Pin) (r:(List (List Int))×Bool) (h:Ht N p_0=some r):PCallD Try.prog 10 [pD p_0] 27 3 (.intss r.1) (.tup [.row 0 0 r.1.length,.bool r.2]):=by
 unfold Ht at h;refine Rw (TT:=TT) tt Try.func10 O O Try.ntmps10 (congrArg Array.toList Try.results10) O O O fun w0=>(Ai (Ab (Lh O O O O O O O O O (Aa O (Aa O (Ah (Ai (Ab (Gt tt (Ad O) O O O O ?_)))))))));refine Aa O (Ah (Ai (Ab (Aa O ?_))));obtain ⟨v1,hc1,h⟩:=Ag h;refine Aa9 10 (Mn N p_0 v1 hc1) O O O O O O O O O O O (fun _ h=>by cases h) ⟨⟨O,O,O,Y⟩,Y⟩ ?_;iterate 5 refine Aa O ?_
 refine Ah (Ai (Ai (Ab (Aa O (Aa O (Ah (Au O (fun hb2=>?_) (fun hb2=>?_))))))))
 ·replace h:=Ak hb2 h;refine Ai (Ab (Aa O (Aa O (Aa O (Ah (Lc 2 9001 27 (.intss []) O O O O (vEn (En.newFam 12 3 (.ints []) O O O O (fun _ h=>by cases h) O) (vEn (En.asRefs 9001 12 (q:=.intss []) (qR:=dR 12 (.intss [])) O O O O) (Az ?_)))))))));show ∃ _,_;cases h;exact ⟨9001,12,_,O,O,O,O,O,.eq O,O⟩
 replace h:=Al hb2 h;refine As (Ai (Ab (Gt tt (Ad O) O O O O (Aa O (Ah (Ai (Cr (F:=fun k=>Cu N p_0 k) h (α:=List (List Int)) (J:=fun (l606:List (List Int))=>(⟨[(4,.row 9627 0 l606.length)],[(9627,some (27,dR 11 (.intss l606))),(8589934603,some (3,dF (.intss l606)))],[]⟩:PS)) ?_ ?_)))))))
 ·rintro l606 h;show VC _ _ _ (⟨[(4,.row 9627 0 l606.length)],[(9627,some (27,dR 11 (.intss l606))),(8589934603,some (3,dF (.intss l606)))],[]⟩:PS);refine Ai (Ab (Aa O (Aa O (Aa O (Ah (Az ?_))))));show ∃ _,_;cases h;exact ⟨9627,11,_,O,O,O,O,O,.eq O,O⟩
 intro k h;refine Aq (Lc 4 9680 27 (.intss []) rfl rfl rfl rfl (vEn (En.newFam 11 3 (.ints []) rfl rfl rfl rfl (fun _ h=>by cases h) rfl) (vEn (En.asRefs 9680 11 (q:=.intss []) (qR:=dR 11 (.intss [])) rfl rfl rfl rfl) (Lc 7 9694 3 (.ints []) rfl rfl rfl rfl (Bd (α:=(List (List Int))×(List (List Int))×(List Int)) (fun | (l969,l970,l971)=>(⟨[(1,.ptr 1 0),(4,.row 9680 0 l969.length),(5,.row 1160 0 l970.length),(7,.row 9694 0 l971.length)],[(9680,some (27,dR 11 (.intss l969))),(8589934603,some (3,dF (.intss l969))),(1160,some (27,dR 10 (.intss l970))),(8589934602,some (3,dF (.intss l970))),(9694,some (3,.ints l971))],[(1,some [.int p_0.g.n,.ro false (.pairs p_0.g.bars),.ro false (.ints p_0.ground)])]⟩:PS)) (Cu N p_0 k) h (En.of ⟨rfl,rfl,rfl,rfl,Y⟩ ⟨rfl,rfl,rfl,rfl,rfl,Y⟩ ⟨rfl,Y⟩) (fun _=>rfl) ?_)))));rintro n ⟨l969,l970,l971⟩ h;rw [Cu] at h;show VC _ _ _ (⟨[(1,.ptr 1 0),(4,.row 9680 0 l969.length),(5,.row 1160 0 l970.length),(7,.row 9694 0 l971.length)],[(9680,some (27,dR 11 (.intss l969))),(8589934603,some (3,dF (.intss l969))),(1160,some (27,dR 10 (.intss l970))),(8589934602,some (3,dF (.intss l970))),(9694,some (3,.ints l971))],[(1,some [.int p_0.g.n,.ro false (.pairs p_0.g.bars),.ro false (.ints p_0.ground)])]⟩:PS);refine Ai (Ai (Ab (Aa O (Aa O (Aa O (Ah (Au O (fun hb3=>?_) (fun hb3=>?_))))))))
 ·replace h:=Ak hb3 h;refine As (Aq (Ai (Ab (Aa rfl (Aa rfl (Aa rfl (Ah (Cr (F:=fun k=>Dm N p_0 l969 l970 l971 k) h (α:=(List (List Int))×(List (List Int))×(List Int)) (J:=fun | (l1150,l1151,l1152)=>(⟨[(1,.ptr 1 0),(4,.row 9680 0 l1150.length),(5,.row 67 0 l1151.length),(7,.row 9694 0 l1152.length)],[(9680,some (27,dR 11 (.intss l1150))),(8589934603,some (3,dF (.intss l1150))),(67,some (27,dR 10 (.intss l1151))),(8589934602,some (3,dF (.intss l1151))),(9694,some (3,.ints l1152))],[(1,some [.int p_0.g.n,.ro false (.pairs p_0.g.bars),.ro false (.ints p_0.ground)])]⟩:PS)) ?_ ?_))))))))
  ·rintro ⟨l1150,l1151,l1152⟩ h;show ∃ _,_;exact ⟨(l1150,l1151,l1152),(En.ren [1160] [67] O ⟨.inr O,.inr O,.inr O,.inr O,Y⟩ ⟨.inr O,.inr O,.inr O,.inr O,.inr O,Y⟩ ⟨.inr ⟨_,_,O,O,⟨.inr O,.inr O,.inr O,Y⟩⟩,Y⟩),h⟩
  intro k h;refine Aq (Bd (α:=Int) (fun (x1173:Int)=>(⟨[(1,.ptr 1 0),(4,.row 9680 0 l969.length),(5,.row 1160 0 l970.length),(7,.row 9694 0 l971.length),(26,.row 1160 0 l970.length),(27,.int (l970.length:Int)),(28,.int x1173)],[(9680,some (27,dR 11 (.intss l969))),(8589934603,some (3,dF (.intss l969))),(1160,some (27,dR 10 (.intss l970))),(8589934602,some (3,dF (.intss l970))),(9694,some (3,.ints l971))],[(1,some [.int p_0.g.n,.ro false (.pairs p_0.g.bars),.ro false (.ints p_0.ground)])]⟩:PS)) (Dm N p_0 l969 l970 l971 k) h (En.of ⟨O,O,O,O,O,O,O,Y⟩ ⟨O,O,O,O,O,Y⟩ ⟨O,Y⟩) (fun _=>O) ?_);rintro n x1173 h;rw [Dm] at h;show VC _ _ _ (⟨[(1,.ptr 1 0),(4,.row 9680 0 l969.length),(5,.row 1160 0 l970.length),(7,.row 9694 0 l971.length),(26,.row 1160 0 l970.length),(27,.int (l970.length:Int)),(28,.int x1173)],[(9680,some (27,dR 11 (.intss l969))),(8589934603,some (3,dF (.intss l969))),(1160,some (27,dR 10 (.intss l970))),(8589934602,some (3,dF (.intss l970))),(9694,some (3,.ints l971))],[(1,some [.int p_0.g.n,.ro false (.pairs p_0.g.bars),.ro false (.ints p_0.ground)])]⟩:PS);refine Ai (Ab (Aa O (Ah (Ai (Au O (fun hb4=>?_) (fun hb4=>?_))))))
  ·replace h:=Ak hb4 h;refine As (Ai (Aq (Ai (Ab (Aa O ?_)))));obtain ⟨hg5,h⟩:=Ac h;refine Ae tt O hg5 (oLoadD tt (Ad O) (.intss l970) O O O O O O O O O hg5 (Aa O (Aa O (Ah (Ai (Ab (Aa O (Ah (Ai ?_)))))))));refine Ai (Bi 7 [4] [0,0,2,6,15,31,0] (by kernel_rfl) (by kernel_rfl) (by kernel_rfl) (by kernel_rfl) (by kernel_rfl) O (by rfl) ?_);iterate 2 refine Br tt O (Ad O) O O O O O Y ?_
   obtain ⟨hg6,h⟩:=Ac h;refine Xq (Ad O) (Ww tt (q:=(.intss l970)) O O O O O O (by simp only [Sq.len,List.length_set,List.length_append,List.length_replicate] at *; omega) O hg6) O O O (Xq (Ad O) (Wb tt (q:=(.intss l970)) O O O O O (by simp only [Sq.len,List.length_set,List.length_append,List.length_replicate] at *; omega) hg6 O) O O O ?_);obtain ⟨v1193,hc7,h⟩:=Ag h;refine Lk (Kn N p_0 ((l970.getD ((x1173).toNat) []).getD ((0:Int).toNat) 0) v1193 hc7) rfl (Ad rfl) rfl rfl rfl rfl rfl rfl (by first | rfl | kernel_rfl | (simp [nrL,nm,Fc,nmT,Gu]; done)) rfl (by first | rfl | kernel_rfl | (simp [Kr,nrL,nm,Fc,nmT,Gu,hid,Gk,Dh,Ca]; done) | (simp [Kr,nrL,nm,Fc,nmT,Gu,hid,Gk,Dh,Ca]; decide)) ⟨⟨rfl,rfl,rfl,Y⟩,rfl,Y⟩ ?_;iterate 2 refine Br tt O (Ad O) O O O O O Y ?_
   refine Pm ?_;show VO _ _ _ _ _;refine Ah (Cr (F:=fun k=>Ck N l970 l971 x1173 v1193 k) h (α:=Bool) (J:=fun (ready1202:Bool)=>(⟨[(1,.ptr 1 0),(4,.row 9680 0 l969.length),(5,.row 1160 0 l970.length),(7,.row 9694 0 l971.length),(8,.int x1173),(9,.irow 10 ((x1173).toNat) ((l970.getD ((x1173).toNat) []).length)),(10,.bool ready1202),(26,.row 1160 0 l970.length),(27,.int (l970.length:Int)),(28,.int x1173)],[(9680,some (27,dR 11 (.intss l969))),(8589934603,some (3,dF (.intss l969))),(1160,some (27,dR 10 (.intss l970))),(8589934602,some (3,dF (.intss l970))),(9694,some (3,.ints l971))],[(1,some [.int p_0.g.n,.ro false (.pairs p_0.g.bars),.ro false (.ints p_0.ground)])]⟩:PS)) ?_ ?_)
   ·rintro ready1202 h;show VC _ _ _ (⟨[(1,.ptr 1 0),(4,.row 9680 0 l969.length),(5,.row 1160 0 l970.length),(7,.row 9694 0 l971.length),(8,.int x1173),(9,.irow 10 ((x1173).toNat) ((l970.getD ((x1173).toNat) []).length)),(10,.bool ready1202),(26,.row 1160 0 l970.length),(27,.int (l970.length:Int)),(28,.int x1173)],[(9680,some (27,dR 11 (.intss l969))),(8589934603,some (3,dF (.intss l969))),(1160,some (27,dR 10 (.intss l970))),(8589934602,some (3,dF (.intss l970))),(9694,some (3,.ints l971))],[(1,some [.int p_0.g.n,.ro false (.pairs p_0.g.bars),.ro false (.ints p_0.ground)])]⟩:PS);refine Ai (Ab (Aa O (Ah (Au O (fun hb8=>?_) (fun hb8=>?_)))))
    ·replace h:=Ak hb8 h;refine Ai (Ab (Aa O (Aa O ?_)));obtain ⟨hg9,h⟩:=Ac h;refine vEnO (En.also 9 57 (En.trans (En.pull 57 9712 10 ((x1173).toNat) O O (fam_get (q:=(.intss l970)) O (by simp only [Sq.len,List.length_set,List.length_append,List.length_replicate] at *; omega)) O O O O) (En.adopt 57 9712 9680 11 (q:=(.intss l969)) O O O O O O (by simp [Sq.len,Fq.len,Ro,Fq.hole]) (pushI _ _) O (d':=.irow 11 l969.length (l970.getD ((x1173).toNat) []).length) (by simp [Fq.len]) O)) O O (q:=(.intss l970)) O O (by simp only [Sq.len,List.length_set,List.length_append,List.length_replicate] at *; omega) hg9 O) (oBuildI tt O O O O O O O O O O ?_);obtain ⟨hg10,h⟩:=Ac h;refine oAppendD (.intss (l969++[(l970.getD ((x1173).toNat) [])])) tt (q:=(.intss l969)) O O O O O O O O (Nat.le_of_eq (Nat.zero_add _)) O O O O O O O (appI 11 l969 (l970.getD ((x1173).toNat) [])) hg10 (Aa O (Ah (Ai (Ab (Aa O (Aa O ?_))))));obtain ⟨hg11,h⟩:=Ac h;obtain ⟨hg12,h⟩:=Ac h;refine oAppendI tt rfl (qF:=(.intss (l969++[(l970.getD ((x1173).toNat) [])]))) rfl rfl rfl rfl rfl rfl rfl rfl rfl rfl rfl rfl rfl rfl rfl (by first | (simp [Sq.len]; done) | simp only [Sq.len,List.length_set,List.length_append,List.length_replicate] at *; omega) (by simp [Sq.nn,Sq.len]) (Nat.le_refl _) hg12 (Aa rfl (Ah (Ai (Bi 9 [4] [0,0,0,6,15,0,0,64,224,511,1023] (by kernel_rfl) (by kernel_rfl) (by kernel_rfl) (by kernel_rfl) (by kernel_rfl) rfl (by rfl) (Abs tt (Ad rfl) rfl rfl rfl rfl rfl ?_)))));iterate 2 refine Br tt O (Ad O) O O O O O Y ?_
     obtain ⟨hg13,h⟩:=Ac h;refine Br tt O (Ad O) O O O O O hg13 ?_;obtain ⟨hg14,h⟩:=Ac h;obtain ⟨hg15,h⟩:=Ac h;refine nAppNilR tt (Ad O) (.irefs 10 []) O O O O O O O O O O O O O O O O O O O O (by simp [Sq.len,dR,Gq]; omega) (by simp [Sq.len,Sq.take,Sq.drop,dR,Gq]; omega) ?_;iterate 2 refine Br tt O (Ad O) O O O O O Y ?_
     obtain ⟨hg16,h⟩:=Ac h;refine Br tt O (Ad O) O O O O O hg16 ?_;obtain ⟨hg17,h⟩:=Ac h;refine Br tt O (Ad O) O O O O O hg17 (Pm ?_);show VO _ _ _ _ _;obtain ⟨hg18,h⟩:=Ac h;refine Da tt O O O O O O O O O O O O O O O O (by simp [Sq.len,dR,Gq]; omega) (by simp [Sq.len,Sq.take,Sq.drop,dR,Gq]; omega) (vEnO (En.dropR 1160 O) (vEnO (En.re 67 10 O O (rmI 10 l970 hg18.1 hg18.2.1 hg18.2.2.1 hg18.2.2.2) O O O) (oRowT 72 67 (rmLen l970 hg18.1 hg18.2.1 hg18.2.2.1 hg18.2.2.2) O (Aa O (Ah (Bn ?_))))));show ∃ _,_;exact ⟨((l969++[(l970.getD ((x1173).toNat) [])]),(l970.take ((x1173).toNat)++l970.drop (((x1173).toNat)+1)),((l971.take l971.length)++((l969++[(l970.getD ((x1173).toNat) [])]).getD l969.length []))),(En.of ⟨O,O,O,O,Y⟩ ⟨O,O,O,O,O,Y⟩ ⟨O,Y⟩),h⟩
    replace h:=Al hb8 h;refine As (Ab ?_);obtain ⟨hg19,h⟩:=Ac h;refine Ae tt O hg19 (Aa O (Ah ?_));show ∃ _,_;exact ⟨(x1173+(1:Int)),(En.of ⟨O,O,O,O,O,O,O,Y⟩ ⟨O,O,O,O,O,Y⟩ ⟨O,Y⟩),h⟩
   intro k h;refine Aq (Bd (α:=Bool×Int) (fun | (ready1206,x1207)=>(⟨[(1,.ptr 1 0),(4,.row 9680 0 l969.length),(5,.row 1160 0 l970.length),(7,.row 9694 0 l971.length),(8,.int x1173),(9,.irow 10 ((x1173).toNat) ((l970.getD ((x1173).toNat) []).length)),(10,.bool ready1206),(26,.row 1160 0 l970.length),(27,.int (l970.length:Int)),(28,.int x1173),(37,.row 1370 0 v1193.length),(38,.int (v1193.length:Int)),(39,.int x1207)],[(9680,some (27,dR 11 (.intss l969))),(8589934603,some (3,dF (.intss l969))),(1160,some (27,dR 10 (.intss l970))),(8589934602,some (3,dF (.intss l970))),(9694,some (3,.ints l971)),(1370,some (3,.ints v1193))],[(1,some [.int p_0.g.n,.ro false (.pairs p_0.g.bars),.ro false (.ints p_0.ground)])]⟩:PS)) (Ck N l970 l971 x1173 v1193 k) h (En.of ⟨rfl,rfl,rfl,rfl,rfl,rfl,rfl,rfl,rfl,rfl,rfl,rfl,rfl,Y⟩ ⟨rfl,rfl,rfl,rfl,rfl,rfl,Y⟩ ⟨rfl,Y⟩) (fun _=>rfl) ?_);rintro n ⟨ready1206,x1207⟩ h;rw [Ck] at h;show VC _ _ _ (⟨[(1,.ptr 1 0),(4,.row 9680 0 l969.length),(5,.row 1160 0 l970.length),(7,.row 9694 0 l971.length),(8,.int x1173),(9,.irow 10 ((x1173).toNat) ((l970.getD ((x1173).toNat) []).length)),(10,.bool ready1206),(26,.row 1160 0 l970.length),(27,.int (l970.length:Int)),(28,.int x1173),(37,.row 1370 0 v1193.length),(38,.int (v1193.length:Int)),(39,.int x1207)],[(9680,some (27,dR 11 (.intss l969))),(8589934603,some (3,dF (.intss l969))),(1160,some (27,dR 10 (.intss l970))),(8589934602,some (3,dF (.intss l970))),(9694,some (3,.ints l971)),(1370,some (3,.ints v1193))],[(1,some [.int p_0.g.n,.ro false (.pairs p_0.g.bars),.ro false (.ints p_0.ground)])]⟩:PS);refine Ai (Ab (Aa O (Ah (Ai (Au O (fun hb20=>?_) (fun hb20=>?_))))))
   ·replace h:=Ak hb20 h;refine As (Ai (Aq (Ai (Ab ?_))));obtain ⟨hg21,h⟩:=Ac h;refine Ae tt O hg21 (Ae tt O hg21 (Aa O (Ah (Ab (Aa O (Aa O (Bu O O O (fun hb22=>?_) (fun hb22=>?_))))))))
    ·replace h:=Ak hb22 h;iterate 2 refine Bt tt O O O O O hb22 O O O Y ?_
     obtain ⟨v1210,hc23,h⟩:=Ag h;refine Ll (Fg N l971 (v1193.getD ((x1207).toNat) 0) v1210 hc23) O O O O hb22 O O O O O O O ⟨(.inl ⟨O,O⟩),O,Y⟩ (Bt tt O O O O O hb22 O O O Y (Bu O O O (fun hb24=>?_) (fun hb24=>?_)))
     ·replace h:=Ak hb24 h;iterate 3 refine Lv O O O O hb24 O O ?_
      refine oPickGT O O O O hb22 O O O O hb24 O (Cf O O O O O hb22 O (Aa O (Ah (Ab ?_))));obtain ⟨hg25,h⟩:=Ac h;refine Ae tt O hg25 (Aa O (Ah ?_));show ∃ _,_;exact ⟨(true,(x1207+(1:Int))),(En.of ⟨O,O,O,O,O,O,O,O,O,O,O,O,O,Y⟩ ⟨O,O,O,O,O,O,Y⟩ ⟨O,Y⟩),h⟩
     replace h:=Al hb24 h;iterate 2 refine Bt tt O O O O O hb24 O O O Y ?_
     obtain ⟨v1211,hc26,h⟩:=Ag h;refine Ll (Fg N (l970.getD ((x1173).toNat) []) (v1193.getD ((x1207).toNat) 0) v1211 hc26) O O O O hb24 O O O O O O O ⟨⟨_,deep_at (q:=(.intss l970)) O O O (by simp only [Sq.len,List.length_set,List.length_append,List.length_replicate] at *; omega),O,O⟩,O,Y⟩ (oPickGF O O O O hb22 O O O O hb24 O (Cf O O O O O hb22 O (Aa O (Ah (Ab ?_)))));obtain ⟨hg27,h⟩:=Ac h;refine Ae tt O hg27 (Aa O (Ah ?_));show ∃ _,_;exact ⟨(v1211,(x1207+(1:Int))),(En.of ⟨O,O,O,O,O,O,O,O,O,O,O,O,O,Y⟩ ⟨O,O,O,O,O,O,Y⟩ ⟨O,Y⟩),h⟩
    replace h:=Al hb22 h;iterate 4 refine Sw O O O O hb22 O O ?_
    iterate 3 refine oNoU O O O O O ?_
    refine Sw O O O O hb22 O O (Bp O O O O O hb22 O (Aa O (Ah (Ab ?_))));obtain ⟨hg28,h⟩:=Ac h;refine Ae tt O hg28 (Aa O (Ah ?_));show ∃ _,_;exact ⟨(false,(x1207+(1:Int))),(En.of ⟨O,O,O,O,O,O,O,O,O,O,O,O,O,Y⟩ ⟨O,O,O,O,O,O,Y⟩ ⟨O,Y⟩),h⟩
   replace h:=Al hb20 h;refine Bn ?_;show ∃ _,_;exact ⟨ready1206,(En.of ⟨O,O,O,O,O,O,O,O,O,O,Y⟩ ⟨O,O,O,O,O,Y⟩ ⟨O,Y⟩),h⟩
  replace h:=Al hb4 h;refine Bn ?_;show ∃ _,_;exact ⟨(l969,l970,l971),(En.ren [67] [1160] O ⟨.inr O,.inr O,.inr O,.inr O,Y⟩ ⟨.inr O,.inr O,.inr O,.inr O,.inr O,Y⟩ ⟨.inr ⟨_,_,O,O,⟨.inr O,.inr O,.inr O,Y⟩⟩,Y⟩),h⟩
 replace h:=Al hb3 h;refine Bn ?_;show ∃ _,_;exact ⟨l969,(En.ren [9627] [9680] O ⟨.inr O,Y⟩ ⟨.inr O,.inr O,Y⟩ trivial),h⟩
end
section
variable {N:Nat}
theorem Abn (hN:4000000≤N) {p:Pin} {ow:List Int} (hI:Do N p=some (ow,true)) (hp:Aw p=true) (hl:ow.length=p.g.bars.length) (ho:Own p 0 ow) {v:Int} (hv:Ps p v=true):Es N p v=some (Gx p ow v):=by
 unfold Es;rw [Sa hN hI (fun _=>⟨hp,hl,ho⟩),Option.bind_some];have hbd:=Bg hp;show cnd (!true) _ _=_;rw [Bool.not_true,cnd_false,Pj N hN hp,Option.bind_some,hv];have hr:=Mw hv;obtain ⟨n,hn⟩:∃ n:Nat,p.g.n=n:=⟨p.g.n.toNat,by omega⟩;have en:(p.g.n).toNat=n:=by omega
 show cnd (!true) _ _=_;rw [Bool.not_true,cnd_false,cnd_true];show grd (0≤v∧v<((mat p.g.n.toNat (dp p ow)).length:Int)) _=_;rw [Xl,Ao (by omega),en];refine fold (N:=N) (len:=n) (st:=fun j=>sel (fun u=>(u:Int)) (fun u=>dp p ow v.toNat u) j) (F:=fun m s=>Be N v (mat n (dp p ow),true) (fun (l5:List Int)=>some l5) m s) (by omega) (fun m i hi=>?_) fun m=>?_
 ·show Be N v (mat n (dp p ow),true) _ (m+1) (sel _ _ i,(i:Int))=Be N v (mat n (dp p ow),true) _ m (sel _ _ (i+1),((i+1:Nat):Int));rw [Be];have ei:((i:Int)).toNat=i:=by omega
  have hsl:=sel_len (fun u=>(u:Int)) (fun u=>dp p ow v.toNat u) i;show cnd (decide ((i:Int)<(((mat n (dp p ow)).getD v.toNat []).length:Int))) (grd (0≤(i:Int)∧(i:Int)<(((mat n (dp p ow)).getD v.toNat []).length:Int)) (cnd (((mat n (dp p ow)).getD v.toNat []).getD (i:Int).toNat false) _ _)) _=_;rw [Jd _ (by omega),ei,Ti _ (by omega) hi,Dk (by omega),Ao (by omega),Ao (by omega),Cy (by omega) (by omega),Cy (by omega) (by omega),Am,sel_succ];cases dp p ow v.toNat i <;> rfl
 show Be N v (mat n (dp p ow),true) _ (m+1) (sel _ _ n,(n:Int))=_;rw [Be];show cnd (decide ((n:Int)<(((mat n (dp p ow)).getD v.toNat []).length:Int))) _ _=_;rw [Jd _ (by omega),Dx (by omega)];show some _=_;rw [Gx,en]
theorem dp_inner {p:Pin} (ow:List Int) {a b:Nat} (ha:a<p.g.n.toNat) (hb:b<p.g.n.toNat) (h:dp p ow a b=true):Ps p (b:Int)=true:=by
 have key:∀ {x y:Nat},Aaq p ow p.g.bars.length x y=true→Ps p (y:Int)=true:=fun {x y} h=>by
  simp only [Aaq,arc,Bool.or_eq_true,Bool.and_eq_true,decide_eq_true_eq,List.any_eq_true] at h;rcases h with ⟨rfl,h⟩ | ⟨i,_,_,h⟩
  ·exact h
  exact h
 have hw:=Vw _ (Nat.le_refl _) a b ha hb h;clear h
 induction hw with
 | one _ _ h=>exact key h
 | step h1 h2 h3 hw ih=>exact ih h2 hb
theorem Qs {p:Pin} (ow:List Int) (v x:Int):x∈Gx p ow v↔0≤x∧x<((p.g.n.toNat:Nat):Int)∧dp p ow v.toNat x.toNat=true:=by
 unfold Gx sel;simp only [List.mem_map,List.mem_filter,List.mem_range];constructor
 ·rintro ⟨k,⟨h1,h2⟩,rfl⟩;have e:((k:Int)).toNat=k:=by omega
  rw [e];exact ⟨by omega,by omega,h2⟩
 rintro ⟨h1,h2,h3⟩;exact ⟨x.toNat,⟨by omega,h3⟩,by omega⟩
theorem reachL_nd {p:Pin} (ow:List Int) (v:Int):(Gx p ow v).Nodup:=by
 unfold Gx sel;rw [List.nodup_iff_pairwise_ne];refine List.Pairwise.map _ (fun a b h=>?_) (List.nodup_iff_pairwise_ne.1 (List.nodup_range.filter _));omega
theorem nd_lt:∀ {A B:List Int} {x:Int},A.Nodup→(∀ a∈A,a∈B)→x∈B→x∉A→A.length<B.length
 | [],B,x,_,_,hx,_=>by
  cases B with
  | nil=>cases hx
  | cons b B=>simp
 | a::A,B,x,h1,h2,hx,hn=>by
  have h3:=List.nodup_cons.1 h1;have ha:a∈B:=h2 a (by simp);have hxa:x≠a:=fun e=>hn (by simp [e])
  have:=nd_lt (A:=A) (B:=B.erase a) (x:=x) h3.2 (fun c hc=>by
   have hca:c≠a:=fun e=>h3.1 (e ▸ hc)
   exact (List.mem_erase_of_ne hca).2 (h2 c (by simp [hc]))) ((List.mem_erase_of_ne hxa).2 hx) (fun h=>hn (by simp [h]))
  rw [List.length_erase_of_mem ha] at this;have hp:0<B.length:=List.length_pos_of_mem ha;rw [List.length_cons]; omega
def rdy (p:Pin) (ow:List Int) (I:List Int) (D:List Int) (u:Int):Bool:=(Gx p ow u).all fun x=>D.contains x || (I.filter (mt p ow u)).contains x
section
variable {p:Pin} {ow:List Int}
theorem rep_of (E:Eqv (mt p ow) (Af p)) {x:Int} (hx:x∈Af p):∃ w∈Lt (mt p ow) (Af p),mt p ow w x=true:=by
 have hne:=Kk hx (E.rf x hx);have hm:=Pi hne;refine ⟨((Af p).filter (mt p ow x)).getD 0 0,?_,E.sy _ _ hm.2⟩;refine List.mem_filter.2 ⟨hm.1,?_⟩;rw [Vy E hm.1 hx (E.sy _ _ hm.2)]; simp
theorem inner_mem (hp:Aw p=true) {x:Int} (h:Ps p x=true):x∈Af p:=by
 have:=Jy hp x;rw [h] at this; simpa using this
theorem rdy_ex (hp:Aw p=true) (E:Eqv (mt p ow) (Af p)) {D:List Int} (hD:∀ u∈Lt (mt p ow) (Af p),D.contains u=true→∀ x∈Af p,mt p ow u x=true→D.contains x=true):∀ (n:Nat) (u:Int),u∈Lt (mt p ow) (Af p)→D.contains u=false→(Gx p ow u).length≤n →
  ∃ w∈Lt (mt p ow) (Af p),D.contains w=false∧rdy p ow (Af p) D w=true:=by
 have hbd:=Bg hp;intro n
 induction n with
 | zero=>
  intro u hu hd hn;refine ⟨u,hu,hd,?_⟩;have:Gx p ow u=[]:=List.eq_nil_of_length_eq_zero (by omega);unfold rdy; rw [this]; rfl
 | succ n ih=>
  intro u hu hd hn
  cases hr:rdy p ow (Af p) D u with
  | true=>exact ⟨u,hu,hd,hr⟩
  | false=>
   unfold rdy at hr;rw [List.all_eq_false] at hr;obtain ⟨x,hx,h1⟩:=hr
   have h1:D.contains x=false∧((Af p).filter (mt p ow u)).contains x=false:=by
    cases a:D.contains x <;> cases b:((Af p).filter (mt p ow u)).contains x <;> simp_all
   have hu1:=(Fj hu).1;have hui:=Fu hp hu1;have hur:=Mw hui;obtain ⟨x1,x2,x3⟩:=(Qs ow u x).1 hx;have ex:((x.toNat:Nat):Int)=x:=by omega
   have hxi:Ps p x=true:=by have:=dp_inner ow (by omega) (by omega) x3; rwa [ex] at this
   have hxm:=inner_mem hp hxi;obtain ⟨w,hw,hwx⟩:=rep_of E hxm;have hw1:=(Fj hw).1;have hwi:=Fu hp hw1;have hwr:=Mw hwi
   have hwd:D.contains w=false:=by
    cases h:D.contains w with
    | false=>rfl
    | true=>have:=hD w hw h x hxm hwx; rw [h1.1] at this; cases this
   have hnx:mt p ow u x=false:=by
    cases h:mt p ow u x with
    | false=>rfl
    | true=>
     have:x∈(Af p).filter (mt p ow u):=List.mem_filter.2 ⟨hxm,h⟩;have h2:((Af p).filter (mt p ow u)).contains x=true:=by simpa using this
     rw [h1.2] at h2; cases h2
   have hwx2:dp p ow w.toNat x.toNat=true∧dp p ow x.toNat w.toNat=true:=by
    simp only [mt,Bool.and_eq_true] at hwx; exact hwx
   have hlt:(Gx p ow w).length<(Gx p ow u).length:=by
    refine nd_lt (x:=u) (reachL_nd ow w) (fun a ha=>?_) ((Qs ow u u).2 ⟨by omega,by omega,dp_self ow hui⟩) (fun h=>?_)
    ·obtain ⟨a1,a2,a3⟩:=(Qs ow w a).1 ha;exact (Qs ow u a).2 ⟨a1,a2,Wf ow (by omega) (Wf ow (by omega) x3 hwx2.2) a3⟩
    obtain ⟨a1,a2,a3⟩:=(Qs ow w u).1 h;have h5:dp p ow x.toNat u.toNat=true:=Wf ow (by omega) hwx2.2 a3;have h6:mt p ow u x=true:=by simp only [mt,Bool.and_eq_true]; exact ⟨x3,h5⟩
    rw [hnx] at h6; cases h6
   exact ih w hw hwd (by omega)
end
theorem dropG {α:Type} {l:List α} {i:Nat} (d:α) (hi:i<l.length):l.drop i=l.getD i d::l.drop (i+1):=by
 rw [List.drop_eq_getElem_cons hi,List.getD_eq_getElem?_getD,List.getElem?_eq_getElem hi]; rfl
theorem ogI3 (hN:4000000≤N) {L:List (List Int)} {D V:List Int} {i:Nat} (hL:(L.getD i []).length≤1000) (hD:D.length≤1000) (hV:V.length≤1000) (kk:Bool→Option (List (List Int)×Bool)):∀ (fuel j:Nat) (f:Bool),j≤V.length→V.length<fuel+j →
  Ck N L D (i:Int) V kk fuel (f,(j:Int))=kk (f&&(V.drop j).all fun x=>D.contains x || (L.getD i []).contains x):=by
 intro fuel
 induction fuel with
 | zero=>intro j f h1 h2; omega
 | succ fuel ih=>
  intro j f h1 h2;rw [Ck];by_cases hj:j<V.length
  ·rw [Dk (by omega),Ao (by omega),show ((j:Int)).toNat=j from by omega,show ((i:Int)).toNat=i from by omega,dropG 0 hj,List.all_cons]
   cases f with
   | false=>
    rw [cnd_false,Cy (by omega) (by omega),Am];refine (ih (j+1) _ (by omega) (by omega)).trans ?_;simp
   | true=>
    rw [cnd_true,Qi N hN (by omega),Option.bind_some]
    cases hc:D.contains (V.getD j 0) with
    | true=>
     rw [cnd_true,Cy (by omega) (by omega),Am];refine (ih (j+1) _ (by omega) (by omega)).trans ?_;simp
    | false=>
     rw [cnd_false,Qi N hN (by omega),Option.bind_some,Cy (by omega) (by omega),Am];refine (ih (j+1) _ (by omega) (by omega)).trans ?_;rw [Bool.false_or,Bool.true_and]
  rw [Dx (by omega),show j=V.length from by omega,List.drop_length]; simp
theorem ogS3 (hN:4000000≤N) {v1:List (List Int)×Bool} {D V:List Int} {i:Nat} (hL:(v1.1.getD i []).length≤1000) (hD:D.length≤1000) (hV:V.length≤1000) (kk:Bool→Option (List (List Int)×Bool)):∀ (fuel j:Nat) (f:Bool),j≤V.length→V.length<fuel+j →
  Cl N v1 D (i:Int) V kk fuel (f,(j:Int))=kk (f&&(V.drop j).all fun x=>D.contains x || (v1.1.getD i []).contains x):=by
 intro fuel
 induction fuel with
 | zero=>intro j f h1 h2; omega
 | succ fuel ih=>
  intro j f h1 h2;rw [Cl];by_cases hj:j<V.length
  ·rw [Dk (by omega),show ((j:Int)).toNat=j from by omega,show ((i:Int)).toNat=i from by omega,dropG 0 hj,List.all_cons]
   cases f with
   | false=>
    rw [cnd_false,Cy (by omega) (by omega),Am];refine (ih (j+1) _ (by omega) (by omega)).trans ?_;simp
   | true=>
    rw [cnd_true,Ao (by omega),Kh N hN (by omega),Option.bind_some]
    cases hc:D.contains (V.getD j 0) with
    | true=>
     rw [cnd_true,Cy (by omega) (by omega),Am];refine (ih (j+1) _ (by omega) (by omega)).trans ?_;simp
    | false=>
     rw [cnd_false,Kh N hN (by omega),Option.bind_some,Cy (by omega) (by omega),Am];refine (ih (j+1) _ (by omega) (by omega)).trans ?_;rw [Bool.false_or,Bool.true_and]
  rw [Dx (by omega),show j=V.length from by omega,List.drop_length]; simp
section
variable {p:Pin} {ow:List Int}
def grp (p:Pin) (ow:List Int) (u:Int):List Int:=(Af p).filter (mt p ow u)
theorem grp_len (hp:Aw p=true) (u:Int):(grp p ow u).length≤8:=Nat.le_trans (List.length_filter_le _ _) (Lo hp)
theorem Qh {Q:List Int} {i:Nat} (hi:i<Q.length):(Q.map (grp p ow)).getD i []=grp p ow (Q.getD i 0):=by
 rw [List.getD_eq_getElem?_getD,List.getElem?_map,List.getElem?_eq_getElem hi,List.getD_eq_getElem?_getD,List.getElem?_eq_getElem hi]; rfl
theorem Abm:∀ {Q:List Int} {i:Nat},Q.Nodup→i<Q.length→Q.take i++Q.drop (i+1)=Q.filter (· != Q.getD i 0)
 | [],i,_,h=>by simp at h
 | q::Q,0,hn,_=>by
  have h1:=List.nodup_cons.1 hn
  have:Q.filter (· != q)=Q:=List.filter_eq_self.2 fun a ha=>by
   rw [bne_iff_ne]; exact fun e=>h1.1 (e ▸ ha)
  simp [this]
 | q::Q,i+1,hn,h=>by
  have h1:=List.nodup_cons.1 hn;have hi:i<Q.length:=by simpa using h
  have ih:=Abm h1.2 hi;have hm:Q.getD i 0∈Q:=Kg hi;have hq:(q != Q.getD i 0)=true:=by rw [bne_iff_ne]; exact fun e=>h1.1 (e ▸ hm)
  have e:(q::Q).getD (i+1) 0=Q.getD i 0:=rfl;rw [e,List.filter_cons,if_pos hq,←ih];rfl
def OrdT (p:Pin) (ow:List Int):List Int→List (List Int)→Prop
 | _,[]=>True
 | D,g::gs=>(∃ u∈Af p,g=grp p ow u∧g.getD 0 0=u∧rdy p ow (Af p) D u=true)∧OrdT p ow (D++g) gs
theorem ogI2 (hN:4000000≤N) (hp:Aw p=true) (hl:ow.length=p.g.bars.length) (ho:Own p 0 ow) (hI:Do N p=some (ow,true)) {Q:List Int} (hQ:∀ u∈Q,u∈Lt (mt p ow) (Af p)) (hnd:Q.Nodup) (hQ8:Q.length≤8) {O:List (List Int)} (hO:O.length≤100) {D:List Int} (hD:D.length≤500)
  (k:List (List Int)×List (List Int)×List Int→Option (List (List Int)×Bool)):∀ (fuel i:Nat),i≤Q.length→Q.length<fuel+i →
  Dm N p O (Q.map (grp p ow)) D k fuel (i:Int)=match (Q.drop i).find? (rdy p ow (Af p) D) with
   | some u=>k (O++[grp p ow u],(Q.filter (· != u)).map (grp p ow),D++grp p ow u)
   | none=>k (O,Q.map (grp p ow),D):=by
 have E:=Xw hp ow fun v h=>Fu hp h;intro fuel
 induction fuel with
 | zero=>intro i h1 h2; omega
 | succ fuel ih=>
  intro i h1 h2;have hml:(Q.map (grp p ow)).length=Q.length:=List.length_map ..;rw [Dm];by_cases hi:i<Q.length
  ·have ei:((i:Int)).toNat=i:=by omega
   have hu:=hQ _ (Kg hi);have hur:=Fj hu;have hui:=Fu hp hur.1;have hg8:=grp_len (ow:=ow) hp (Q.getD i 0);have hne:=Kk (m:=mt p ow (Q.getD i 0)) hur.1 (E.rf _ hur.1);have hpos:0<(grp p ow (Q.getD i 0)).length:=List.length_pos_iff.2 hne;have hh:(grp p ow (Q.getD i 0)).getD 0 0=Q.getD i 0:=hur.2;have hrl:=Ml hp ow (Q.getD i 0);have e1:(((i:Int)+1)).toNat=i+1:=by omega
   rw [Dk (by omega),ei,Qh hi,Ao (by omega),Ao (by omega),show ((0:Int)).toNat=0 from rfl,hh,Abn hN hI hp hl ho hui,Option.bind_some];refine (ogI3 hN (L:=Q.map (grp p ow)) (D:=D) (V:=Gx p ow (Q.getD i 0)) (i:=i) (by rw [Qh hi]; omega) (by omega) (by omega) _ N 0 true (by omega) (by omega)).trans ?_;rw [List.drop_zero,Bool.true_and,Qh hi,dropG 0 hi,List.find?_cons];have er:((Gx p ow (Q.getD i 0)).all fun x=>D.contains x || (grp p ow (Q.getD i 0)).contains x)=rdy p ow (Af p) D (Q.getD i 0):=rfl;rw [er]
   cases hr:rdy p ow (Af p) D (Q.getD i 0) with
   | false=>
    rw [cnd_false,Cy (by omega) (by omega),Am];exact ih (i+1) (by omega) (by omega)
   | true=>
    have e2:(O++[grp p ow (Q.getD i 0)]).getD O.length []=grp p ow (Q.getD i 0):=by simp
    have e3:(Q.map (grp p ow)).take i++(Q.map (grp p ow)).drop (i+1)=(Q.filter (· != Q.getD i 0)).map (grp p ow):=by
     rw [←Abm hnd hi,List.map_append,List.map_take,List.map_drop]
    rw [cnd_true,Ao (by omega),Ao (by omega),Ao (by omega),Ao (by omega),Ao (by omega),Ao (by omega),Ao (by omega),Cy (by omega) (by omega),Ao (by omega),e1,Ao (by omega),e2,e3,List.take_length]
  have:i=Q.length:=by omega
  rw [Dx (by omega),this,List.drop_length]; rfl
theorem ogS2 (hN:4000000≤N) (hp:Aw p=true) (hl:ow.length=p.g.bars.length) (ho:Own p 0 ow) {R:List Int} (hQ:∀ u∈R,u∈Lt (mt p ow) (Af p)) (hQ8:R.length≤8) {b1 b2:Bool} {O:List (List Int)} (hO:O.length≤100) {D:List Int} (hD:D.length≤500)
  (k:List (List Int)×List Int→Option (List (List Int)×Bool)):∀ (fuel i:Nat),i≤R.length→R.length<fuel+i →
  Cw N p (R.map (grp p ow),b1) (ow,b2) O D k fuel (i:Int)=match (R.drop i).find? (fun u=>!D.contains u&&rdy p ow (Af p) D u) with
   | some u=>k (O++[grp p ow u],D++grp p ow u)
   | none=>k (O,D):=by
 have E:=Xw hp ow fun v h=>Fu hp h;intro fuel
 induction fuel with
 | zero=>intro i h1 h2; omega
 | succ fuel ih=>
  intro i h1 h2;have hml:(R.map (grp p ow)).length=R.length:=List.length_map ..;rw [Cw];by_cases hi:i<R.length
  ·have ei:((i:Int)).toNat=i:=by omega
   have hu:=hQ _ (Kg hi);have hur:=Fj hu;have hui:=Fu hp hur.1;have hg8:=grp_len (ow:=ow) hp (R.getD i 0);have hne:=Kk (m:=mt p ow (R.getD i 0)) hur.1 (E.rf _ hur.1);have hpos:0<(grp p ow (R.getD i 0)).length:=List.length_pos_iff.2 hne;have hh:(grp p ow (R.getD i 0)).getD 0 0=R.getD i 0:=hur.2;have hrl:=Ml hp ow (R.getD i 0);rw [Dk (by show (i:Int)<((R.map (grp p ow)).length:Int); omega)];show grd (0≤(i:Int)∧(i:Int)<((R.map (grp p ow)).length:Int)) (grd (0≤(0:Int)∧(0:Int)<(((R.map (grp p ow)).getD ((i:Int)).toNat []).length:Int)) ((Fe N D (((R.map (grp p ow)).getD ((i:Int)).toNat []).getD ((0:Int)).toNat 0)).bind _))=_;rw [ei,Qh hi,Ao (by omega),Ao (by omega),show ((0:Int)).toNat=0 from rfl,hh,Kh N hN (by omega),Option.bind_some,dropG 0 hi,List.find?_cons]
   cases hd:D.contains (R.getD i 0) with
   | true=>
    rw [cnd_true,Cy (by omega) (by omega),Am];rw [Bool.not_true,Bool.false_and];exact ih (i+1) (by omega) (by omega)
   | false=>
    rw [cnd_false,Bool.not_false,Bool.true_and];show (Hk N p ow (R.getD i 0)).bind _=_;rw [reach_s hN hp hl ho hui,Option.bind_some];refine (ogS3 hN (v1:=(R.map (grp p ow),b1)) (D:=D) (V:=Gx p ow (R.getD i 0)) (i:=i) (by show ((R.map (grp p ow)).getD i []).length≤1000; rw [Qh hi]; omega) (by omega) (by omega) _ N 0 true (by omega) (by omega)).trans ?_;have er:((Gx p ow (R.getD i 0)).drop 0).all (fun x=>D.contains x || ((R.map (grp p ow)).getD i []).contains x)=rdy p ow (Af p) D (R.getD i 0):=by rw [Qh hi]; rfl
    show cnd (true&&((Gx p ow (R.getD i 0)).drop 0).all (fun x=>D.contains x || ((R.map (grp p ow)).getD i []).contains x)) (grd ((grp p ow (R.getD i 0)).length≤4294967296) (grd _ (grd (D.length+(grp p ow (R.getD i 0)).length≤4294967296) (k (O++[[]++grp p ow (R.getD i 0)],D++grp p ow (R.getD i 0)))))) _=_;rw [er,Bool.true_and]
    cases hr:rdy p ow (Af p) D (R.getD i 0) with
    | false=>
     rw [cnd_false,Cy (by omega) (by omega),Am];exact ih (i+1) (by omega) (by omega)
    | true=>
     rw [cnd_true,Ao (by omega),Ao (by omega),Ao (by omega),List.nil_append]
  have:i=R.length:=by omega
  rw [Dx (by show ¬ (i:Int)<((R.map (grp p ow)).length:Int); omega),this,List.drop_length]; rfl
theorem og_main (hN:4000000≤N) (hp:Aw p=true) (hl:ow.length=p.g.bars.length) (ho:Own p 0 ow) (hI:Do N p=some (ow,true)) {b2:Bool} (kI:List (List Int)→Option (List (List Int)×Bool)) :
  ∀ (c:Nat) (D:List Int) (O:List (List Int)) (fS fI:Nat),((Lt (mt p ow) (Af p)).filter fun u=>!D.contains u).length=c→c<fS→c<fI→D.length+8*c≤400→O.length+c=(Lt (mt p ow) (Af p)).length →
  (∀ g∈O,g.length≤8)→(∀ u∈Lt (mt p ow) (Af p),D.contains u=true→∀ x∈Af p,mt p ow u x=true→D.contains x=true) →
  ∃ r:List (List Int),(∃ s:List (List Int),r=O++s∧OrdT p ow D s∧s.Perm (((Lt (mt p ow) (Af p)).filter fun u=>!D.contains u).map (grp p ow)))∧r.length≤8∧(∀ g∈r,g.length≤8)∧Cm N p ((Lt (mt p ow) (Af p)).map (grp p ow),true) (ow,b2) kI fS (O,D,(O.length:Int))=kI r ∧
   Cu N p kI fI (O,((Lt (mt p ow) (Af p)).filter fun u=>!D.contains u).map (grp p ow),D)=kI r:=by
 have E:=Xw hp ow fun v h=>Fu hp h;have hil:=Lo hp;have hRl:(Lt (mt p ow) (Af p)).length≤8:=Nat.le_trans (List.length_filter_le _ _) hil;have hRn:(Lt (mt p ow) (Af p)).Nodup:=(Wh p).filter _;have hRa:=Xc E (Wh p);intro c
 induction c with
 | zero=>
  intro D O fS fI hc h1 h2 h3 h4 h5 h6;obtain ⟨fS,rfl⟩:∃ f,fS=f+1:=⟨fS-1,by omega⟩;obtain ⟨fI,rfl⟩:∃ f,fI=f+1:=⟨fI-1,by omega⟩;have hml:((Lt (mt p ow) (Af p)).map (grp p ow)).length=(Lt (mt p ow) (Af p)).length:=List.length_map ..;refine ⟨O,⟨[],by simp,Y,by rw [List.eq_nil_of_length_eq_zero hc]; exact List.Perm.refl _⟩,by omega,h5,?_,?_⟩
  ·rw [Cm,Dx (by show ¬ (O.length:Int)<(((Lt (mt p ow) (Af p)).map (grp p ow)).length:Int); omega)]
  rw [Cu,List.eq_nil_of_length_eq_zero hc]; rfl
 | succ c ih=>
  intro D O fS fI hc h1 h2 h3 h4 h5 h6;obtain ⟨fS,rfl⟩:∃ f,fS=f+1:=⟨fS-1,by omega⟩;obtain ⟨fI,rfl⟩:∃ f,fI=f+1:=⟨fI-1,by omega⟩;have hml:((Lt (mt p ow) (Af p)).map (grp p ow)).length=(Lt (mt p ow) (Af p)).length:=List.length_map ..;have hml2:(((Lt (mt p ow) (Af p)).filter fun u=>!D.contains u).map (grp p ow)).length=c+1:=by rw [List.length_map]; exact hc
  have hQn:((Lt (mt p ow) (Af p)).filter fun u=>!D.contains u).Nodup:=hRn.filter _
  obtain ⟨u0,hu0⟩:∃ u,u∈(Lt (mt p ow) (Af p)).filter fun u=>!D.contains u:=by
   cases hq:(Lt (mt p ow) (Af p)).filter fun u=>!D.contains u with
   | nil=>rw [hq] at hc; simp at hc
   | cons a l=>exact ⟨a,by simp⟩
  have hu1:=List.mem_filter.1 hu0;have hu2:D.contains u0=false:=by have:=hu1.2; simpa using this
  obtain ⟨w,hw,hwd,hwr⟩:=rdy_ex hp E h6 (Gx p ow u0).length u0 hu1.1 hu2 (Nat.le_refl _)
  obtain ⟨u,hu⟩:∃ u,(Lt (mt p ow) (Af p)).find? (fun u=>!D.contains u&&rdy p ow (Af p) D u)=some u:=by
   cases hf:(Lt (mt p ow) (Af p)).find? (fun u=>!D.contains u&&rdy p ow (Af p) D u) with
   | some u=>exact ⟨u,rfl⟩
   | none=>
    have:=List.find?_eq_none.1 hf w hw;rw [hwd,hwr] at this; simp at this
  have humem:=List.mem_of_find?_eq_some hu
  have hup:D.contains u=false∧rdy p ow (Af p) D u=true:=by
   have:=List.find?_some hu;simp only [Bool.and_eq_true,Bool.not_eq_true'] at this;exact this
  have huQ:((Lt (mt p ow) (Af p)).filter fun u=>!D.contains u).find? (rdy p ow (Af p) D)=some u:=by
   rw [List.find?_filter,←hu];congr 1;funext a;rw [Bool.eq_iff_iff,decide_eq_true_iff,Bool.and_eq_true]
  have hur:=Fj humem;have hg8:=grp_len (ow:=ow) hp u
  have hself:∀ x∈Lt (mt p ow) (Af p),(grp p ow u).contains x=(x==u):=fun x hx=>by
   rw [Bool.eq_iff_iff,List.contains_iff_mem,beq_iff_eq];constructor
   ·intro h;have h7:=(List.mem_filter.1 h).2;apply Classical.byContradiction;intro hne;have h8:=Vy E hur.1 (Fj hx).1 h7;have h9:=(Fj hx).2;rw [←h8,hur.2] at h9;exact hne h9.symm
   rintro rfl;exact List.mem_filter.2 ⟨hur.1,E.rf _ hur.1⟩
  have hnext:((Lt (mt p ow) (Af p)).filter fun x=>!(D++grp p ow u).contains x)=((Lt (mt p ow) (Af p)).filter fun u=>!D.contains u).filter (· != u):=by
   rw [List.filter_filter];refine List.filter_congr fun x hx=>?_
   have:(D++grp p ow u).contains x=(D.contains x || (x==u)):=by
    rw [←hself x hx,Bool.eq_iff_iff,Bool.or_eq_true,List.contains_iff_mem,List.contains_iff_mem,List.contains_iff_mem,List.mem_append]
   rw [this,Bool.not_or,Bool.and_comm];rfl
  have hlen:(((Lt (mt p ow) (Af p)).filter fun u=>!D.contains u).filter (· != u)).length=c:=by
   have hm:u∈(Lt (mt p ow) (Af p)).filter fun u=>!D.contains u:=List.mem_filter.2 ⟨humem,by rw [hup.1]; rfl⟩;have:=List.length_erase_of_mem hm;rw [hQn.erase_eq_filter] at this;omega
  have hinv:∀ v∈Lt (mt p ow) (Af p),(D++grp p ow u).contains v=true→∀ x∈Af p,mt p ow v x=true→(D++grp p ow u).contains x=true:=fun v hv hc2 x hx hm=>by
   rw [List.contains_iff_mem,List.mem_append] at hc2 ⊢;rcases hc2 with h | h
   ·left;have:=h6 v hv (List.contains_iff_mem.2 h) x hx hm;exact List.contains_iff_mem.1 this
   right;have h7:(grp p ow u).contains v=true:=List.contains_iff_mem.2 h;rw [hself v hv,beq_iff_eq] at h7;subst h7;exact List.mem_filter.2 ⟨hx,hm⟩
  obtain ⟨r,⟨s,s1,s2,s3⟩,r1,r2,r3,r4⟩:=ih (D++grp p ow u) (O++[grp p ow u]) fS fI (by rw [hnext]; exact hlen) (by omega) (by omega) (by rw [List.length_append]; omega) (by rw [List.length_append,List.length_singleton]; omega) (fun g hg=>by
   rw [List.mem_append,List.mem_singleton] at hg;rcases hg with hg | rfl
   ·exact h5 g hg
   exact hg8) hinv
  refine ⟨r,⟨grp p ow u::s,by rw [s1,List.append_assoc]; rfl,⟨⟨u,hur.1,rfl,hur.2,hup.2⟩,s2⟩,?_⟩,r1,r2,?_,?_⟩
  ·have hm:u∈(Lt (mt p ow) (Af p)).filter fun u=>!D.contains u:=List.mem_filter.2 ⟨humem,by rw [hup.1]; rfl⟩;have hq:=(List.perm_cons_erase hm).map (grp p ow);rw [hQn.erase_eq_filter,List.map_cons] at hq;rw [hnext] at s3;exact (s3.cons _).trans hq.symm
  ·rw [Cm,Dk (by show (O.length:Int)<(((Lt (mt p ow) (Af p)).map (grp p ow)).length:Int); omega)];show cnd true _ _=_;rw [cnd_true];refine (ogS2 hN hp hl ho (R:=Lt (mt p ow) (Af p)) (fun _ h=>h) hRl (by omega) (by omega) _ N 0 (by omega) (by omega)).trans ?_;rw [List.drop_zero,hu];show grd _ _=_;rw [Cy (by omega) (by omega)];rw [List.length_append,List.length_singleton] at r3;exact r3
  rw [Cu,Dk (by omega)];refine (ogI2 hN hp hl ho hI (Q:=(Lt (mt p ow) (Af p)).filter fun u=>!D.contains u) (fun x h=>(List.mem_filter.1 h).1) hQn (by omega) (by omega) (by omega) _ N 0 (by omega) (by omega)).trans ?_;rw [List.drop_zero,huQ];rw [hnext] at r4;exact r4
end
theorem cls_sum {m:Int→Int→Bool} {R:List Int}:∀ {l:List Int},(∀ x∈l,R.countP (fun u=>m u x)=1)→(R.map fun u=>(l.filter (m u)).length).sum=l.length
 | [],_=>by
  have:∀ R:List Int,(R.map fun u=>(([]:List Int).filter (m u)).length).sum=0:=fun R=>by
   induction R with
   | nil=>rfl
   | cons a R ih=>simpa using ih
  exact this R
 | x::l,h=>by
  have ih:=cls_sum (l:=l) fun y hy=>h y (by simp [hy]);have hx:=h x (by simp)
  have:∀ R:List Int,(R.map fun u=>((x::l).filter (m u)).length).sum=R.countP (fun u=>m u x)+(R.map fun u=>(l.filter (m u)).length).sum:=fun R=>by
   induction R with
   | nil=>rfl
   | cons a R ih=>
    rw [List.map_cons,List.sum_cons,List.map_cons,List.sum_cons,ih,List.countP_cons,List.filter_cons];cases m a x <;> simp <;> omega
  rw [this R,ih,hx,List.length_cons]; omega
theorem reps_one {p:Pin} {ow:List Int} (hp:Aw p=true) {x:Int} (hx:x∈Af p):(Lt (mt p ow) (Af p)).countP (fun u=>mt p ow u x)=1:=by
 have E:=Xw (ow:=ow) hp fun v h=>Fu hp h;obtain ⟨w,hw,hwx⟩:=rep_of E hx;have hRn:(Lt (mt p ow) (Af p)).Nodup:=(Wh p).filter _;have hRa:=Xc E (Wh p);have hq:=(List.perm_cons_erase hw);rw [hq.countP_eq,List.countP_cons,if_pos hwx]
 have:((Lt (mt p ow) (Af p)).erase w).countP (fun u=>mt p ow u x)=0:=by
  rw [List.countP_eq_zero];intro a ha hax;rw [hRn.erase_eq_filter,List.mem_filter] at ha;have hne:a≠w:=by simpa using ha.2
  have h1:mt p ow a w=true:=E.tr a x w hx hax (E.sy _ _ hwx);have h2:=Vy E (Fj ha.1).1 (Fj hw).1 h1;have h3:=(Fj ha.1).2;rw [h2,(Fj hw).2] at h3;exact hne h3.symm
 omega
theorem order_y (hN:4000000≤N) {p:Pin} (hb:p.g.bars.length≤3000000) (hg:p.ground.length≤3000000):∃ (ow:List Int) (b:Bool) (r:List (List Int)),Dy N p=some (ow,b)∧Do N p=some (ow,b)∧(b=true→Aw p=true∧ow.length=p.g.bars.length∧Own p 0 ow)∧r.length≤8∧(∀ g∈r,g.length≤8)∧Hy N p=some (r,b)∧Ht N p=some (r,b)∧(b=true→OrdT p ow [] r∧r.Perm ((Lt (mt p ow) (Af p)).map (grp p ow))):=by
 obtain ⟨ow,b,hS,hI,hf,h1,h2⟩:=groups_y (N:=N) hN hb hg;unfold Hy Ht;rw [h1,h2,hS,Option.bind_some,Option.bind_some,Option.bind_some]
 cases b with
 | false=>
  refine ⟨ow,false,[],O,hI,hf,by simp,by simp,?_,O,fun h=>by cases h⟩;obtain ⟨M,rfl⟩:∃ M,N=M+1:=⟨N-1,by omega⟩;rw [Cm]; rfl
 | true=>
  obtain ⟨hp,hl,ho⟩:=hf rfl;have hil:=Lo hp;have hRl:(Lt (mt p ow) (Af p)).length≤8:=Nat.le_trans (List.length_filter_le _ _) hil;have e0:(Lt (mt p ow) (Af p)).filter (fun u=>!([]:List Int).contains u)=Lt (mt p ow) (Af p):=List.filter_eq_self.2 fun a _=>rfl;obtain ⟨r,⟨s,s1,s2,s3⟩,r1,r2,r3,r4⟩:=og_main hN hp hl ho hI (b2:=true) (fun (l:List (List Int))=>some (l,true)) (Lt (mt p ow) (Af p)).length [] [] N N (by rw [e0]) (by omega) (by omega) (by simp; omega) (by simp) (by simp) (by simp);rw [e0] at r4 s3;rw [List.nil_append] at s1;subst s1;refine ⟨ow,true,r,O,hI,hf,r1,r2,r3,?_,fun _=>⟨s2,s3⟩⟩;show cnd (!true) _ _=_;rw [Bool.not_true,cnd_false];exact r4
end
section
open Go.RowKit
def L_big (N:Nat) (code_0:List Int):Option (Bool):=
 some (decide ((code_0.length:Int) > (1048576:Int)))
theorem L_big_w (N:Nat) (code_0:List Int) (r:Bool) (h:L_big N code_0=some r):PCall Try.prog 4 [.ro false (.bytes code_0)] [] (.bool r):=by
 unfold L_big at h;refine Aj (TT:=TT) tt Try.func4 O O Try.ntmps4 (congrArg Array.toList Try.results4) O O fun w0=>(Ai (Ab (Aa O (Ah (Ai (Ab ?_))))));iterate 4 refine Aa O ?_
 refine Ah (Az ?_);show ∃ _,_;cases h;exact ⟨[],_,O,Y,O,.eq O,O⟩
def Mf (N:Nat) (c_0:Cur):Option (Int×Int×Int):=
 cnd (decide (c_0.i<(c_0.b.length:Int))) (
  grd (0≤c_0.i∧c_0.i<(c_0.b.length:Int)) <|
  grd (0≤(c_0.b.getD ((c_0.i).toNat) 0)∧(c_0.b.getD ((c_0.i).toNat) 0)<256) <|
  some ((andI (w64 ((andI (xorI (shrI (w64 ((w64 (c_0.h*(6364136223846793005:Int)))+(1442695040888963407:Int))) 33) (shrI (w64 ((w64 (c_0.h*(6364136223846793005:Int)))+(1442695040888963407:Int))) 45)) (255:Int))+(c_0.b.getD ((c_0.i).toNat) 0))) (255:Int)),(w64 (c_0.i+(1:Int))),(w64 ((w64 (c_0.h*(6364136223846793005:Int)))+(1442695040888963407:Int))))) (
  some ((andI (xorI (shrI (w64 ((w64 (c_0.h*(6364136223846793005:Int)))+(1442695040888963407:Int))) 33) (shrI (w64 ((w64 (c_0.h*(6364136223846793005:Int)))+(1442695040888963407:Int))) 45)) (255:Int)),c_0.i,(w64 ((w64 (c_0.h*(6364136223846793005:Int)))+(1442695040888963407:Int)))))
theorem Qo (N:Nat) (c_0:Cur) (r:Int×Int×Int) (h:Mf N c_0=some r):MCall Try.prog 59 [.ptr 1000000 0] [] [1000000] [] [] [[.ro false (.bytes c_0.b),.int c_0.i,.int c_0.h]] [[.ro false (.bytes c_0.b),.int r.2.1,.int r.2.2]] (.int r.1):=by
 unfold Mf at h;refine Gd (TT:=TT) tt Try.func59 O O Try.ntmps59 (congrArg Array.toList Try.results59) O O O O O fun w0 O0=>(Ai (Ab (Aa O (Ah (Ai (Ab ?_))))));iterate 5 refine Aa O ?_
 refine Km (Ad O) (pMulW O O O) O O (Km (Ad O) (pAddW O O O) O O (Aa O (Aa O (Ar tt O O O O O O O O O O O ⟨Y,Y⟩ (Ah (Ai (Bs (by kernel_rfl) (by kernel_rfl) ?_)))))));iterate 4 refine Ax tt O (Ad O) O O O Y ?_
 refine Rq (Ad O) (pShrU O O O (by decide)) O O ?_;iterate 4 refine Ax tt O (Ad O) O O O Y ?_
 refine Rq (Ad O) (pShrU O O O (by decide)) O O (Rq (Ad O) (pXor O O O) O O ?_);iterate 2 refine Ax tt O (Ad O) O O O Y ?_
 refine Hq (Ai (Ai (Bs (by kernel_rfl) (by kernel_rfl) ?_)));iterate 10 refine Ax tt O (Ad O) O O O Y ?_
 refine Hq (Au O (fun hb1=>?_) (fun hb1=>?_))
 ·replace h:=Ak hb1 h;refine Ai (Bs (by kernel_rfl) (by kernel_rfl) ?_);iterate 9 refine Ax tt O (Ad O) O O O Y ?_
  obtain ⟨hg2,h⟩:=Ac h;refine Ax tt O (Ad O) O O O hg2 (Ax tt O (Ad O) O O O Y ?_);obtain ⟨hg3,h⟩:=Ac h;refine Rq (Ad O) (pConvI Try.underlying5 Try.underlying3 O O hg3) O O (Rq (Ad O) (pAddW O O O) O O ?_);iterate 2 refine Ax tt O (Ad O) O O O Y ?_
  refine Hq (Ab ?_);iterate 5 refine Aa O ?_
  refine Km (Ad O) (pAddW O O O) O O (Aa O (Aa O (Ar tt O O O O O O O O O O O ⟨Y,Y⟩ (Ah (Ai (Ab (Aa O (Aa O (Ah ?_)))))))));refine Az ?_;show ∃ _,_;cases h;exact ⟨[],O,Y,⟨O,Y⟩,O⟩
 replace h:=Al hb1 h;refine As (Ai (Ab (Aa O (Aa O (Ah (Az ?_))))));show ∃ _,_;cases h;exact ⟨[],O,Y,⟨O,Y⟩,O⟩
def Cb (N:Nat) (c_0:Cur) (n_1:Int):Option (Int×Int×Int):=
 cnd (decide (n_1≤(0:Int))) (
  some ((0:Int),c_0.i,c_0.h)) (
  cnd (decide (n_1≤(256:Int))) (
   (Mf N c_0).bind fun v1=>
   grd (n_1≠0) <|
   some ((Int.tmod v1.1 n_1),v1.2.1,v1.2.2)) (
   (Mf N c_0).bind fun v2=>
   (Mf N (⟨c_0.b,v2.2.1,v2.2.2⟩:Cur)).bind fun v3=>
   (Mf N (⟨c_0.b,v3.2.1,v3.2.2⟩:Cur)).bind fun v4=>
   (Mf N (⟨c_0.b,v4.2.1,v4.2.2⟩:Cur)).bind fun v5=>
   grd (Bc (v2.1*(16777216:Int))) <|
   grd (Bc (v3.1*(65536:Int))) <|
   grd (Bc ((v2.1*(16777216:Int))+(v3.1*(65536:Int)))) <|
   grd (Bc (v4.1*(256:Int))) <|
   grd (Bc (((v2.1*(16777216:Int))+(v3.1*(65536:Int)))+(v4.1*(256:Int)))) <|
   grd (Bc ((((v2.1*(16777216:Int))+(v3.1*(65536:Int)))+(v4.1*(256:Int)))+v5.1)) <|
   grd (n_1≠0) <|
   some ((Int.tmod ((((v2.1*(16777216:Int))+(v3.1*(65536:Int)))+(v4.1*(256:Int)))+v5.1) n_1),v5.2.1,v5.2.2)))
theorem Bv (N:Nat) (c_0:Cur) (n_1:Int) (r:Int×Int×Int) (h:Cb N c_0 n_1=some r):MCall Try.prog 42 [.ptr 1000000 0,.int n_1] [] [1000000] [] [] [[.ro false (.bytes c_0.b),.int c_0.i,.int c_0.h]] [[.ro false (.bytes c_0.b),.int r.2.1,.int r.2.2]] (.int r.1):=by
 unfold Cb at h;refine Gd (TT:=TT) tt Try.func42 O O Try.ntmps42 (congrArg Array.toList Try.results42) O O O O O fun w0 O0=>(Ai (Ab (Aa O (Ah (Ai (Ai (Ab (Aa O (Aa O ?_)))))))));refine Ah (Au O (fun hb1=>?_) (fun hb1=>?_))
 ·replace h:=Ak hb1 h;refine Ai (Ab (Aa O (Ah (Az ?_))));show ∃ _,_;cases h;exact ⟨[],O,Y,⟨O,Y⟩,O⟩
 replace h:=Al hb1 h;refine As (Ai (Ai (Ab (Aa O (Aa O (Ah (Au O (fun hb2=>?_) (fun hb2=>?_))))))))
 ·replace h:=Ak hb2 h;refine Ai (Ab (Aa O ?_));obtain ⟨v1,hc3,h⟩:=Ag h;refine Fv (Qo N c_0 v1 hc3) [] [1000000] [] O O O O O O Y ⟨O,Y⟩ ⟨⟨O,O⟩,Y⟩ (Aa O ?_);obtain ⟨hg4,h⟩:=Ac h;refine Ae tt O hg4 (Aa O (Ah (Az ?_)));show ∃ _,_;cases h;exact ⟨[],O,Y,⟨O,Y⟩,O⟩
 replace h:=Al hb2 h;refine As (Ai (Ab (Aa O ?_)));obtain ⟨v2,hc5,h⟩:=Ag h;refine Fv (Qo N c_0 v2 hc5) [] [1000000] [] O O O O O O Y ⟨O,Y⟩ ⟨⟨O,O⟩,Y⟩ (Aa O (Ah (Ai (Ab (Aa O ?_)))));obtain ⟨v3,hc6,h⟩:=Ag h;refine Fv (Qo N (⟨c_0.b,v2.2.1,v2.2.2⟩:Cur) v3 hc6) [] [1000000] [] O O O O O O Y ⟨O,Y⟩ ⟨⟨O,O⟩,Y⟩ (Aa O (Ah (Ai (Ab (Aa O ?_)))));obtain ⟨v4,hc7,h⟩:=Ag h;refine Fv (Qo N (⟨c_0.b,v3.2.1,v3.2.2⟩:Cur) v4 hc7) [] [1000000] [] O O O O O O Y ⟨O,Y⟩ ⟨⟨O,O⟩,Y⟩ (Aa O (Ah (Ai (Ab (Aa O ?_)))));obtain ⟨v5,hc8,h⟩:=Ag h;refine Fv (Qo N (⟨c_0.b,v4.2.1,v4.2.2⟩:Cur) v5 hc8) [] [1000000] [] O O O O O O Y ⟨O,Y⟩ ⟨⟨O,O⟩,Y⟩ (Aa O (Ah (Ai (Ab (Aa O ?_)))));obtain ⟨hg9,h⟩:=Ac h;refine Ae tt O hg9 (Aa O ?_);obtain ⟨hg10,h⟩:=Ac h;refine Ae tt O hg10 ?_;obtain ⟨hg11,h⟩:=Ac h;refine Ae tt O hg11 (Aa O ?_);obtain ⟨hg12,h⟩:=Ac h;refine Ae tt O hg12 ?_;obtain ⟨hg13,h⟩:=Ac h;refine Ae tt O hg13 (Aa O ?_);obtain ⟨hg14,h⟩:=Ac h;refine Ae tt O hg14 (Aa O ?_);obtain ⟨hg15,h⟩:=Ac h;refine Ae tt O hg15 (Aa O (Ah (Az ?_)));show ∃ _,_;cases h;exact ⟨[],O,Y,⟨O,Y⟩,O⟩
def Su (N:Nat) (c_0:Cur) (n_1:Int):Option (Bool×Int×Int):=
 (Cb N c_0 n_1).bind fun v1=>
 some ((v1.1==(0:Int)),v1.2.1,v1.2.2)
theorem Abq (N:Nat) (c_0:Cur) (n_1:Int) (r:Bool×Int×Int) (h:Su N c_0 n_1=some r):MCall Try.prog 41 [.ptr 1000000 0,.int n_1] [] [1000000] [] [] [[.ro false (.bytes c_0.b),.int c_0.i,.int c_0.h]] [[.ro false (.bytes c_0.b),.int r.2.1,.int r.2.2]] (.bool r.1):=by
 unfold Su at h;refine Gd (TT:=TT) tt Try.func41 O O Try.ntmps41 (congrArg Array.toList Try.results41) O O O O O fun w0 O0=>(Ai (Ab (Aa O (Ah (Ai (Ab (Aa O (Aa O ?_))))))));obtain ⟨v1,hc1,h⟩:=Ag h;refine Fv (Bv N c_0 n_1 v1 hc1) [] [1000000] [] O O O O O O Y ⟨O,Y⟩ ⟨⟨O,O⟩,⟨O,O⟩,Y⟩ (Aa O (Aa O (Ah (Az ?_))));show ∃ _,_;cases h;exact ⟨[],O,Y,⟨O,Y⟩,O⟩
def Bb (N:Nat) (c_0:Cur) (inner_1:Int) (v1:Int×Int×Int) (k:((List (Int×Int))×Int×Int×Int)→Option (Pin×Int×Int)):Nat→((List (Int×Int))×Int×Int×Int×Int)→Option (Pin×Int×Int)
 | 0,_=>none
 | n+1,(l213,v214,c215,c216,c217)=>
  cnd (decide (v214<(((2:Int)+v1.1)+inner_1))) (
   cnd (decide (v214 > ((2:Int)+v1.1))) (
    (Su N (⟨c_0.b,c215,c216⟩:Cur) (2:Int)).bind fun v258=>
    cnd v258.1 (
     jn (fun (x : Int × Int) =>
         match x with
         | (c271,c272)=>
          (Cb N (⟨c_0.b,c271,c272⟩:Cur) v214).bind fun v273=>
          grd (Bc (v273.1+(1:Int))) <|
          grd (Bc (v214-(1:Int))) <|
          (Cb N (⟨c_0.b,v273.2.1,v273.2.2⟩:Cur) (v214-(1:Int))).bind fun v274=>
          grd (Bc ((v273.1+(1:Int))+v274.1)) <|
          grd (v214≠0) <|
          (Df N (⟨c217,l213⟩:Grf) (v273.1,v214)).bind fun v275=>
          (Df N v275 ((Int.tmod ((v273.1+(1:Int))+v274.1) v214),v214)).bind fun v276=>
          grd (Bc (v214+(1:Int))) <|
          Bb N c_0 inner_1 v1 k n (v276.bars,(v214+(1:Int)),v274.2.1,v274.2.2,v276.n)) fun k277=>
      cnd (decide ((l213.length:Int) > (0:Int))) (
       (Cb N (⟨c_0.b,v258.2.1,v258.2.2⟩:Cur) (l213.length:Int)).bind fun v278=>
       grd (0≤v278.1∧v278.1<(l213.length:Int)) <|
       grd (Bc (((l213.getD ((v278.1).toNat) (0,0)).2)+(1:Int))) <|
       grd (Bc (v214-(1:Int))) <|
       (Cb N (⟨c_0.b,v278.2.1,v278.2.2⟩:Cur) (v214-(1:Int))).bind fun v279=>
       grd (Bc ((((l213.getD ((v278.1).toNat) (0,0)).2)+(1:Int))+v279.1)) <|
       grd (v214≠0) <|
       cnd ((Int.tmod ((((l213.getD ((v278.1).toNat) (0,0)).2)+(1:Int))+v279.1) v214)==((l213.getD ((v278.1).toNat) (0,0)).1)) (
        cnd ((Int.tmod (((l213.getD ((v278.1).toNat) (0,0)).2)+(1:Int)) v214) != ((l213.getD ((v278.1).toNat) (0,0)).1)) (
         cnd ((Int.tmod (((l213.getD ((v278.1).toNat) (0,0)).2)+(1:Int)) v214) != ((l213.getD ((v278.1).toNat) (0,0)).2)) (
          (Hz N (⟨c217,l213⟩:Grf) v278.1).bind fun v280=>
          (Df N v280.1 ((l213.getD ((v278.1).toNat) (0,0)).1,v214)).bind fun v281=>
          (Df N v281 ((l213.getD ((v278.1).toNat) (0,0)).2,v214)).bind fun v282=>
          (Df N v282 ((Int.tmod (((l213.getD ((v278.1).toNat) (0,0)).2)+(1:Int)) v214),v214)).bind fun v283=>
          grd (Bc (v214+(1:Int))) <|
          Bb N c_0 inner_1 v1 k n (v283.bars,(v214+(1:Int)),v279.2.1,v279.2.2,v283.n)) (
          k277 (v279.2.1,v279.2.2))) (
         k277 (v279.2.1,v279.2.2))) (
        jn (fun (w284 : Int) =>
           cnd (w284 != ((l213.getD ((v278.1).toNat) (0,0)).1)) (
            cnd (w284 != ((l213.getD ((v278.1).toNat) (0,0)).2)) (
             (Hz N (⟨c217,l213⟩:Grf) v278.1).bind fun v285=>
             (Df N v285.1 ((l213.getD ((v278.1).toNat) (0,0)).1,v214)).bind fun v286=>
             (Df N v286 ((l213.getD ((v278.1).toNat) (0,0)).2,v214)).bind fun v287=>
             (Df N v287 (w284,v214)).bind fun v288=>
             grd (Bc (v214+(1:Int))) <|
             Bb N c_0 inner_1 v1 k n (v288.bars,(v214+(1:Int)),v279.2.1,v279.2.2,v288.n)) (
             k277 (v279.2.1,v279.2.2))) (
            k277 (v279.2.1,v279.2.2))) fun k289=>
         cnd ((Int.tmod ((((l213.getD ((v278.1).toNat) (0,0)).2)+(1:Int))+v279.1) v214)==((l213.getD ((v278.1).toNat) (0,0)).2)) (
          k289 (Int.tmod (((l213.getD ((v278.1).toNat) (0,0)).2)+(1:Int)) v214)) (
          k289 (Int.tmod ((((l213.getD ((v278.1).toNat) (0,0)).2)+(1:Int))+v279.1) v214)))) (
       k277 (v258.2.1,v258.2.2))) (
     (Cb N (⟨c_0.b,v258.2.1,v258.2.2⟩:Cur) v214).bind fun v290=>
     grd (Bc (v290.1+(1:Int))) <|
     grd (Bc (v214-(1:Int))) <|
     (Cb N (⟨c_0.b,v290.2.1,v290.2.2⟩:Cur) (v214-(1:Int))).bind fun v291=>
     grd (Bc ((v290.1+(1:Int))+v291.1)) <|
     grd (v214≠0) <|
     (Df N (⟨c217,l213⟩:Grf) (v290.1,v214)).bind fun v292=>
     (Df N v292 ((Int.tmod ((v290.1+(1:Int))+v291.1) v214),v214)).bind fun v293=>
     grd (Bc (v214+(1:Int))) <|
     Bb N c_0 inner_1 v1 k n (v293.bars,(v214+(1:Int)),v291.2.1,v291.2.2,v293.n))) (
    (Cb N (⟨c_0.b,c215,c216⟩:Cur) v214).bind fun v294=>
    grd (Bc (v294.1+(1:Int))) <|
    grd (Bc (v214-(1:Int))) <|
    (Cb N (⟨c_0.b,v294.2.1,v294.2.2⟩:Cur) (v214-(1:Int))).bind fun v295=>
    grd (Bc ((v294.1+(1:Int))+v295.1)) <|
    grd (v214≠0) <|
    (Df N (⟨c217,l213⟩:Grf) (v294.1,v214)).bind fun v296=>
    (Df N v296 ((Int.tmod ((v294.1+(1:Int))+v295.1) v214),v214)).bind fun v297=>
    grd (Bc (v214+(1:Int))) <|
    Bb N c_0 inner_1 v1 k n (v297.bars,(v214+(1:Int)),v295.2.1,v295.2.2,v297.n))) (
   k (l213,c215,c216,c217))
def Jl (N:Nat) (c_0:Cur) (inner_1:Int):Option (Pin×Int×Int):=
 (Cb N c_0 (2:Int)).bind fun v1=>
 grd (Bc ((2:Int)+v1.1)) <|
 grd (Bc (((2:Int)+v1.1)+inner_1)) <|
 grd (0≤((2:Int)+v1.1)∧((2:Int)+v1.1)<64∧Bc ((1:Int)*2 ^ ((((2:Int)+v1.1)).toNat))) <|
 grd (Bc (((1:Int)*2 ^ ((((2:Int)+v1.1)).toNat))-(1:Int))) <|
 (Zj N ((2:Int)+v1.1) (((1:Int)*2 ^ ((((2:Int)+v1.1)).toNat))-(1:Int))).bind fun v2=>
 Bb N c_0 inner_1 v1 (fun (x:(List (Int×Int))×Int×Int×Int)=>
   match x with
   | (l148,c149,c150,c151)=>
    some ((⟨⟨c151,l148⟩,v2⟩:Pin),c149,c150)) N (([]:List (Int×Int)),((2:Int)+v1.1),v1.2.1,v1.2.2,(((2:Int)+v1.1)+inner_1))
theorem Yh (N:Nat) (c_0:Cur) (inner_1:Int) (r:Pin×Int×Int) (h:Jl N c_0 inner_1=some r):MCall Try.prog 43 [.ptr 1000000 0,.int inner_1] [900101,900102] [1000000] [(52,.pairs []),(3,.ints [])] [(52,.pairs r.1.g.bars),(3,.ints r.1.ground)] [[.ro false (.bytes c_0.b),.int c_0.i,.int c_0.h]] [[.ro false (.bytes c_0.b),.int r.2.1,.int r.2.2]] (.agg [.int r.1.g.n,.row 900101 0 r.1.g.bars.length,.row 900102 0 r.1.ground.length]):=by
 unfold Jl at h;refine Gd (TT:=TT) tt Try.func43 O O Try.ntmps43 (congrArg Array.toList Try.results43) O O O O O fun w0 O0=>(Ai (Ab (Bw tt O O O O O O O O O (Ah (Ai (Ab (Aa O ?_)))))));obtain ⟨v1,hc1,h⟩:=Ag h;refine Fv (Bv N c_0 (2:Int) v1 hc1) [] [1000000] [] O O O O O O Y ⟨O,Y⟩ ⟨⟨O,O⟩,⟨O,O⟩,Y⟩ ?_;obtain ⟨hg2,h⟩:=Ac h;refine Ae tt O hg2 (Aa O (Ah (Ai (Ab (Aa O (Aa O ?_))))));obtain ⟨hg3,h⟩:=Ac h;refine Ae tt O hg3 (Gt tt (Ad O) O O O O (Km (Ad O) (Ez Hm O O) O O (Bw tt O O O O O O O O O (Ar tt O O O O O O O O O O O ⟨Y,Y,Y⟩ (Ah (Ai (Bi 8 [5,7] [0,0,0,4,12,30,63,0,255] (by kernel_rfl) (by kernel_rfl) (by kernel_rfl) (by kernel_rfl) (by kernel_rfl) O (by rfl) ?_)))))));iterate 3 refine Br tt O (Ad O) O O O O O Y ?_
 obtain ⟨hg4,h⟩:=Ac h;refine Br tt O (Ad O) O O O O O hg4 ?_;obtain ⟨hg5,h⟩:=Ac h;refine Br tt O (Ad O) O O O O O hg5 ?_;obtain ⟨v2,hc6,h⟩:=Ag h;refine Lk (S_l3Set_w N ((2:Int)+v1.1) (((1:Int)*2 ^ ((((2:Int)+v1.1)).toNat))-(1:Int)) v2 hc6) rfl (Ad rfl) rfl rfl rfl rfl rfl rfl (by first | rfl | kernel_rfl | (simp [nrL,nm,Fc,nmT,Gu]; done)) rfl (by first | rfl | kernel_rfl | (simp [Kr,nrL,nm,Fc,nmT,Gu,hid,Gk,Dh,Ca]; done) | (simp [Kr,nrL,nm,Fc,nmT,Gu,hid,Gk,Dh,Ca]; decide)) ⟨rfl,rfl,Y⟩ (nPure (Ad rfl) (Ez Yv rfl rfl) rfl rfl rfl rfl (nAlloc tt (Ad rfl) rfl rfl rfl rfl rfl rfl rfl rfl rfl rfl (Pm ?_)));show VO _ _ _ _ _;refine Ar tt rfl rfl rfl rfl rfl rfl rfl rfl rfl rfl rfl ⟨Y,Y,Y,Y⟩ (Ah (Ai (Ai (Ab (Aa rfl (Aa rfl (Ah (Cr (F:=fun k=>Bb N c_0 inner_1 v1 k) h (α:=(List (Int×Int))×Int×Int×Int) (J:=fun | (l148,c149,c150,c151)=>(⟨[(4,.ptr 4 0),(7,.ptr 7 0)],[(9503,some (52,.pairs l148)),(1290,some (3,.ints v2))],[(1000000,some [.ro false (.bytes c_0.b),.int c149,.int c150]),(4,some [.int (0:Int),.nil,.nil]),(7,some [.int c151,.row 9503 0 l148.length,.row 1290 0 v2.length])]⟩:PS)) ?_ ?_))))))))
 ·rintro ⟨l148,c149,c150,c151⟩ h;show VC _ _ _ (⟨[(4,.ptr 4 0),(7,.ptr 7 0)],[(9503,some (52,.pairs l148)),(1290,some (3,.ints v2))],[(1000000,some [.ro false (.bytes c_0.b),.int c149,.int c150]),(4,some [.int (0:Int),.nil,.nil]),(7,some [.int c151,.row 9503 0 l148.length,.row 1290 0 v2.length])]⟩:PS);refine Ai (Ab (Aa O (Ar tt O O O O O O O O O O O ⟨Y,Y,Y,Y⟩ (Ah (Az ?_)))));show ∃ _,_;cases h;exact ⟨[9503,1290],O,⟨O,O,Y⟩,⟨O,Y⟩,O⟩
 intro k h;refine Aq (Zh 7 1 9504 52 (.pairs []) rfl rfl rfl rfl rfl (Bd (α:=(List (Int×Int))×Int×Int×Int×Int) (fun | (l213,v214,c215,c216,c217)=>(⟨[(0,.ptr 1000000 0),(1,.int inner_1),(4,.ptr 4 0),(5,.int ((2:Int)+v1.1)),(7,.ptr 7 0),(8,.int v214)],[(9504,some (52,.pairs l213)),(1290,some (3,.ints v2))],[(1000000,some [.ro false (.bytes c_0.b),.int c215,.int c216]),(4,some [.int (0:Int),.nil,.nil]),(7,some [.int c217,.row 9504 0 l213.length,.row 1290 0 v2.length])]⟩:PS)) (Bb N c_0 inner_1 v1 k) h (En.of ⟨rfl,rfl,rfl,rfl,rfl,rfl,Y⟩ ⟨rfl,rfl,Y⟩ ⟨rfl,rfl,rfl,Y⟩) (fun _=>rfl) ?_));rintro n ⟨l213,v214,c215,c216,c217⟩ h;rw [Bb] at h;show VC _ _ _ (⟨[(0,.ptr 1000000 0),(1,.int inner_1),(4,.ptr 4 0),(5,.int ((2:Int)+v1.1)),(7,.ptr 7 0),(8,.int v214)],[(9504,some (52,.pairs l213)),(1290,some (3,.ints v2))],[(1000000,some [.ro false (.bytes c_0.b),.int c215,.int c216]),(4,some [.int (0:Int),.nil,.nil]),(7,some [.int c217,.row 9504 0 l213.length,.row 1290 0 v2.length])]⟩:PS);refine Ai (Ai (Ab (Aa O (Aa O (Aa O (Ae tt O hg3 (Aa O (Ah (Au O (fun hb7=>?_) (fun hb7=>?_))))))))))
 ·replace h:=Ak hb7 h;refine As (Ai (Aq (Ai (Ai (Ab ?_)))));iterate 4 refine Aa O ?_
  refine Bu O O O (fun hb8=>?_) (fun hb8=>?_)
  ·replace h:=Ak hb8 h;refine Bt tt O O O O O hb8 O O O Y ?_;obtain ⟨v258,hc9,h⟩:=Ag h;refine oMCallG (Abq N (⟨c_0.b,c215,c216⟩:Cur) (2:Int) v258 hc9) [] [1000000] [] O O O O hb8 O O O O O Y ⟨O,Y⟩ ⟨⟨O,O⟩,⟨O,O⟩,Y⟩ (Cf O O O O O hb8 O (Aa O (Bu O O O (fun hb10=>?_) (fun hb10=>?_))))
   ·replace h:=Ak hb10 h;iterate 5 refine Bt tt O O O O O hb10 O O O Y ?_
    refine Cf rfl rfl rfl rfl rfl hb10 rfl (Ah (vJoinN h (α:=Int×Int) (J:=fun | (c271,c272)=>(⟨[(0,.ptr 1000000 0),(1,.int inner_1),(4,.ptr 4 0),(5,.int ((2:Int)+v1.1)),(7,.ptr 7 0),(8,.int v214)],[(9504,some (52,.pairs l213)),(1290,some (3,.ints v2))],[(1000000,some [.ro false (.bytes c_0.b),.int c271,.int c272]),(4,some [.int (0:Int),.nil,.nil]),(7,some [.int c217,.row 9504 0 l213.length,.row 1290 0 v2.length])]⟩:PS)) ?_ ?_))
    ·rintro ⟨c271,c272⟩ h;show VC _ _ _ (⟨[(0,.ptr 1000000 0),(1,.int inner_1),(4,.ptr 4 0),(5,.int ((2:Int)+v1.1)),(7,.ptr 7 0),(8,.int v214)],[(9504,some (52,.pairs l213)),(1290,some (3,.ints v2))],[(1000000,some [.ro false (.bytes c_0.b),.int c271,.int c272]),(4,some [.int (0:Int),.nil,.nil]),(7,some [.int c217,.row 9504 0 l213.length,.row 1290 0 v2.length])]⟩:PS);refine Ai (Ab (Aa O (Aa O ?_)));obtain ⟨v273,hc11,h⟩:=Ag h;refine Fv (Bv N (⟨c_0.b,c271,c272⟩:Cur) v214 v273 hc11) [] [1000000] [] O O O O O O Y ⟨O,Y⟩ ⟨⟨O,O⟩,⟨O,O⟩,Y⟩ (Aa O (Ah (Ai (Ab (Aa O ?_)))));obtain ⟨hg12,h⟩:=Ac h;refine Ae tt O hg12 (Aa O (Aa O ?_));obtain ⟨hg13,h⟩:=Ac h;refine Ae tt O hg13 ?_;obtain ⟨v274,hc14,h⟩:=Ag h;refine Fv (Bv N (⟨c_0.b,v273.2.1,v273.2.2⟩:Cur) (v214-(1:Int)) v274 hc14) [] [1000000] [] O O O O O O Y ⟨O,Y⟩ ⟨⟨O,O⟩,⟨O,O⟩,Y⟩ ?_;obtain ⟨hg15,h⟩:=Ac h;refine Ae tt O hg15 (Aa O ?_);obtain ⟨hg16,h⟩:=Ac h;refine Ae tt O hg16 (Aa O (Ah (Ab ?_)));iterate 4 refine Aa O ?_
     refine Km (Ad O) (Ez Cg O O) O O ?_;obtain ⟨v275,hc17,h⟩:=Ag h;refine Ba (Ec N (⟨c217,l213⟩:Grf) (v273.1,v214) v275 hc17) O O O O O O O O ⟨⟨O,(.inl ⟨O,O⟩),Y⟩,⟨O,O,Y⟩,Y⟩ (Aa O (Aa O (Km (Ad O) (Ez Cg O O) O O ?_)));obtain ⟨v276,hc18,h⟩:=Ag h;refine Ba (Ec N v275 ((Int.tmod ((v273.1+(1:Int))+v274.1) v214),v214) v276 hc18) O O O O O O O O ⟨⟨O,(.inl ⟨O,O⟩),Y⟩,⟨O,O,Y⟩,Y⟩ (Aa O (Ar tt O O O O O O O O O O O ⟨Y,Y,Y⟩ (Ah (Ab (Aa O ?_)))));obtain ⟨hg19,h⟩:=Ac h;refine Ae tt O hg19 (Aa O (Ah ?_));show ∃ _,_;exact ⟨(v276.bars,(v214+(1:Int)),v274.2.1,v274.2.2,v276.n),(En.ren [9504] [2450] O ⟨.inr O,.inr O,.inr O,.inr O,.inr O,.inr O,Y⟩ ⟨.inr O,.inr O,Y⟩ ⟨.inr ⟨_,_,O,O,⟨.inr O,.inr O,.inr O,Y⟩⟩,.inr ⟨_,_,O,O,⟨.inr O,.inr O,.inr O,Y⟩⟩,.inr ⟨_,_,O,O,⟨.inr O,.inr O,.inr O,Y⟩⟩,Y⟩),h⟩
    intro k277 h;refine Au O (fun hb20=>?_) (fun hb20=>?_)
    ·replace h:=Ak hb20 h;refine Ai (Ab ?_);iterate 5 refine Aa O ?_
     obtain ⟨v278,hc21,h⟩:=Ag h;refine Fv (Bv N (⟨c_0.b,v258.2.1,v258.2.2⟩:Cur) (l213.length:Int) v278 hc21) [] [1000000] [] O O O O O O Y ⟨O,Y⟩ ⟨⟨O,O⟩,⟨O,O⟩,Y⟩ (Aa O (Ah (Ai (Ab ?_))));iterate 4 refine Aa O ?_
     obtain ⟨hg22,h⟩:=Ac h;refine Ae tt O hg22 (Ae tt O hg22 (Bw tt O O O O O O O O O (Ar tt O O O O O O O O O O O ⟨Y,Y,Y⟩ (Ah (Ai (Bi 9 [6,1061000000] [0,1,3,0,0,16,56,127,0,511,1023] (by kernel_rfl) (by kernel_rfl) (by kernel_rfl) (by kernel_rfl) (by kernel_rfl) O (by rfl) ?_))))));iterate 2 refine Br tt O (Ad O) O O O O O Y ?_
     obtain ⟨hg23,h⟩:=Ac h;refine Br tt O (Ad O) O O O O O hg23 ?_;iterate 2 refine Br tt O (Ad O) O O O O O Y ?_
     obtain ⟨hg24,h⟩:=Ac h;refine Br tt O (Ad O) O O O O O hg24 ?_;obtain ⟨v279,hc25,h⟩:=Ag h;refine nMCall (rids:=[]) (bids:=[]) (pids:=[]) (Ad rfl) (Bv N (⟨c_0.b,v278.2.1,v278.2.2⟩:Cur) (v214-(1:Int)) v279 hc25) [] [1000000] [] rfl rfl rfl rfl rfl (by first | rfl | kernel_rfl) rfl rfl rfl rfl rfl (by first | rfl | kernel_rfl)  trivial ⟨rfl,Y⟩ ⟨⟨rfl,rfl⟩,⟨rfl,rfl⟩,Y⟩ ?_;obtain ⟨hg26,h⟩:=Ac h;refine Br tt O (Ad O) O O O O O hg26 (Br tt O (Ad O) O O O O O Y (Pm ?_));show VO _ _ _ _ _;obtain ⟨hg27,h⟩:=Ac h;refine Ae tt O hg27 (Aa O (Ah (Ai (Ai (Ab ?_)))));iterate 5 refine Aa O ?_
     refine Bu O O O (fun hb28=>?_) (fun hb28=>?_)
     ·replace h:=Ak hb28 h;iterate 4 refine Lv O O O O hb28 O O ?_
      refine Cf O O O O O hb28 O (Ah (Ce O O (Ab (Aa O (Aa O (Ae tt O hg23 (Aa O (Ae tt O hg27 (Aa O ?_)))))))));refine Ah (Ai (Ab ?_));iterate 5 refine Aa O ?_
      refine Bu O O O (fun hb29=>?_) (fun hb29=>?_)
      ·replace h:=Ak hb29 h;iterate 4 refine Bt tt O O O O O hb29 O O O Y ?_
       refine Cf O O O O O hb29 O (Ah (Au O (fun hb30=>?_) (fun hb30=>?_)))
       ·replace h:=Ak hb30 h;refine Ai (Ab (Aa O (Aa O (Aa O ?_))));obtain ⟨v280,hc31,h⟩:=Ag h;refine Ba (Rc N (⟨c217,l213⟩:Grf) v278.1 v280 hc31) O O O O O O O O ⟨⟨O,(.inl ⟨O,O⟩),Y⟩,O,Y⟩ (Aa O (Aa O (Aa O (Bw tt O O O O O O O O O (Ar tt O O O O O O O O O O O ⟨Y,Y,Y⟩ (Aa O (Ah (Ai (Bi 10 [5] [0,0,2,0,14,31,0,64,0,448,1023,2047] (by kernel_rfl) (by kernel_rfl) (by kernel_rfl) (by kernel_rfl) (by kernel_rfl) O (by rfl) ?_)))))))));iterate 4 refine Br tt O (Ad O) O O O O O Y ?_
        refine nPure (Ad O) (Ez Cg O O) O O O O ?_;obtain ⟨v281,hc32,h⟩:=Ag h;refine Lk (Ec N v280.1 ((l213.getD ((v278.1).toNat) (0,0)).1,v214) v281 hc32) rfl (Ad rfl) rfl rfl rfl rfl rfl rfl (by first | rfl | kernel_rfl | (simp [nrL,nm,Fc,nmT,Gu]; done)) rfl (by first | rfl | kernel_rfl | (simp [Kr,nrL,nm,Fc,nmT,Gu,hid,Gk,Dh,Ca]; done) | (simp [Kr,nrL,nm,Fc,nmT,Gu,hid,Gk,Dh,Ca]; decide)) ⟨⟨rfl,(.inl ⟨rfl,rfl⟩),Y⟩,⟨rfl,rfl,Y⟩,Y⟩ ?_;iterate 3 refine Br tt O (Ad O) O O O O O Y ?_
        refine nPure (Ad O) (Ez Cg O O) O O O O (Pm ?_);show VO _ _ _ _ _;obtain ⟨v282,hc33,h⟩:=Ag h;refine Ba (Ec N v281 ((l213.getD ((v278.1).toNat) (0,0)).2,v214) v282 hc33) O O O O O O O O ⟨⟨O,(.inl ⟨O,O⟩),Y⟩,⟨O,O,Y⟩,Y⟩ (Ar tt O O O O O O O O O O O ⟨Y,Y,Y⟩ (Ah (Ai (Ab (Aa O (Aa O (Aa O (Km (Ad O) (Ez Cg O O) O O ?_))))))));obtain ⟨v283,hc34,h⟩:=Ag h;refine Ba (Ec N v282 ((Int.tmod (((l213.getD ((v278.1).toNat) (0,0)).2)+(1:Int)) v214),v214) v283 hc34) O O O O O O O O ⟨⟨O,(.inl ⟨O,O⟩),Y⟩,⟨O,O,Y⟩,Y⟩ (Aa O (Ar tt O O O O O O O O O O O ⟨Y,Y,Y⟩ (Ah (Bn (Ab (Aa O ?_))))));obtain ⟨hg35,h⟩:=Ac h;refine Ae tt O hg35 (Aa O (Ah ?_));show ∃ _,_;exact ⟨(v283.bars,(v214+(1:Int)),v279.2.1,v279.2.2,v283.n),(En.ren [9504] [2220] O ⟨.inr O,.inr O,.inr O,.inr O,.inr O,.inr O,Y⟩ ⟨.inr O,.inr O,Y⟩ ⟨.inr ⟨_,_,O,O,⟨.inr O,.inr O,.inr O,Y⟩⟩,.inr ⟨_,_,O,O,⟨.inr O,.inr O,.inr O,Y⟩⟩,.inr ⟨_,_,O,O,⟨.inr O,.inr O,.inr O,Y⟩⟩,Y⟩),h⟩
       replace h:=Al hb30 h;refine As ?_;show ∃ _,_;exact ⟨(v279.2.1,v279.2.2),(En.of ⟨O,O,O,O,O,O,Y⟩ ⟨O,O,Y⟩ ⟨O,O,O,Y⟩),h⟩
      replace h:=Al hb29 h;iterate 4 refine Sw O O O O hb29 O O ?_
      refine Bp O O O O O hb29 O (Ah (Gf O O (As ?_)));show ∃ _,_;exact ⟨(v279.2.1,v279.2.2),(En.of ⟨O,O,O,O,O,O,Y⟩ ⟨O,O,Y⟩ ⟨O,O,O,Y⟩),h⟩
     replace h:=Al hb28 h;iterate 4 refine Bt tt O O O O O hb28 O O O Y ?_
     refine Bp O O O O O hb28 O (Ah (vJoinN h (α:=Int) (J:=fun (w284:Int)=>(⟨[(0,.ptr 1000000 0),(1,.int inner_1),(4,.ptr 4 0),(5,.int ((2:Int)+v1.1)),(7,.ptr 7 0),(8,.int v214),(9,.int v278.1),(10,.ptr 10 0),(11,.int w284)],[(9504,some (52,.pairs l213)),(1290,some (3,.ints v2))],[(1000000,some [.ro false (.bytes c_0.b),.int v279.2.1,.int v279.2.2]),(4,some [.int (0:Int),.nil,.nil]),(7,some [.int c217,.row 9504 0 l213.length,.row 1290 0 v2.length]),(10,some [.int ((l213.getD ((v278.1).toNat) (0,0)).1),.int ((l213.getD ((v278.1).toNat) (0,0)).2)])]⟩:PS)) ?_ ?_))
     ·rintro w284 h;show VC _ _ _ (⟨[(0,.ptr 1000000 0),(1,.int inner_1),(4,.ptr 4 0),(5,.int ((2:Int)+v1.1)),(7,.ptr 7 0),(8,.int v214),(9,.int v278.1),(10,.ptr 10 0),(11,.int w284)],[(9504,some (52,.pairs l213)),(1290,some (3,.ints v2))],[(1000000,some [.ro false (.bytes c_0.b),.int v279.2.1,.int v279.2.2]),(4,some [.int (0:Int),.nil,.nil]),(7,some [.int c217,.row 9504 0 l213.length,.row 1290 0 v2.length]),(10,some [.int ((l213.getD ((v278.1).toNat) (0,0)).1),.int ((l213.getD ((v278.1).toNat) (0,0)).2)])]⟩:PS);refine Ai (Ab ?_);iterate 5 refine Aa O ?_
      refine Bu O O O (fun hb36=>?_) (fun hb36=>?_)
      ·replace h:=Ak hb36 h;iterate 4 refine Bt tt O O O O O hb36 O O O Y ?_
       refine Cf O O O O O hb36 O (Ah (Au O (fun hb37=>?_) (fun hb37=>?_)))
       ·replace h:=Ak hb37 h;refine Ai (Ab (Aa O (Aa O (Aa O ?_))));obtain ⟨v285,hc38,h⟩:=Ag h;refine Ba (Rc N (⟨c217,l213⟩:Grf) v278.1 v285 hc38) O O O O O O O O ⟨⟨O,(.inl ⟨O,O⟩),Y⟩,O,Y⟩ (Aa O (Aa O (Aa O (Bw tt O O O O O O O O O (Ar tt O O O O O O O O O O O ⟨Y,Y,Y⟩ (Aa O (Ah (Ai (Bi 10 [5] [0,0,2,0,14,31,0,64,0,448,1023,2047] (by kernel_rfl) (by kernel_rfl) (by kernel_rfl) (by kernel_rfl) (by kernel_rfl) O (by rfl) ?_)))))))));iterate 4 refine Br tt O (Ad O) O O O O O Y ?_
        refine nPure (Ad O) (Ez Cg O O) O O O O ?_;obtain ⟨v286,hc39,h⟩:=Ag h;refine Lk (Ec N v285.1 ((l213.getD ((v278.1).toNat) (0,0)).1,v214) v286 hc39) rfl (Ad rfl) rfl rfl rfl rfl rfl rfl (by first | rfl | kernel_rfl | (simp [nrL,nm,Fc,nmT,Gu]; done)) rfl (by first | rfl | kernel_rfl | (simp [Kr,nrL,nm,Fc,nmT,Gu,hid,Gk,Dh,Ca]; done) | (simp [Kr,nrL,nm,Fc,nmT,Gu,hid,Gk,Dh,Ca]; decide)) ⟨⟨rfl,(.inl ⟨rfl,rfl⟩),Y⟩,⟨rfl,rfl,Y⟩,Y⟩ ?_;iterate 3 refine Br tt O (Ad O) O O O O O Y ?_
        refine nPure (Ad O) (Ez Cg O O) O O O O (Pm ?_);show VO _ _ _ _ _;obtain ⟨v287,hc40,h⟩:=Ag h;refine Ba (Ec N v286 ((l213.getD ((v278.1).toNat) (0,0)).2,v214) v287 hc40) O O O O O O O O ⟨⟨O,(.inl ⟨O,O⟩),Y⟩,⟨O,O,Y⟩,Y⟩ (Ar tt O O O O O O O O O O O ⟨Y,Y,Y⟩ (Ah (Ai (Ab (Aa O (Aa O (Aa O (Km (Ad O) (Ez Cg O O) O O ?_))))))));obtain ⟨v288,hc41,h⟩:=Ag h;refine Ba (Ec N v287 (w284,v214) v288 hc41) O O O O O O O O ⟨⟨O,(.inl ⟨O,O⟩),Y⟩,⟨O,O,Y⟩,Y⟩ (Aa O (Ar tt O O O O O O O O O O O ⟨Y,Y,Y⟩ (Ah (Bn (Ab (Aa O ?_))))));obtain ⟨hg42,h⟩:=Ac h;refine Ae tt O hg42 (Aa O (Ah ?_));show ∃ _,_;exact ⟨(v288.bars,(v214+(1:Int)),v279.2.1,v279.2.2,v288.n),(En.ren [9504] [2220] O ⟨.inr O,.inr O,.inr O,.inr O,.inr O,.inr O,Y⟩ ⟨.inr O,.inr O,Y⟩ ⟨.inr ⟨_,_,O,O,⟨.inr O,.inr O,.inr O,Y⟩⟩,.inr ⟨_,_,O,O,⟨.inr O,.inr O,.inr O,Y⟩⟩,.inr ⟨_,_,O,O,⟨.inr O,.inr O,.inr O,Y⟩⟩,Y⟩),h⟩
       replace h:=Al hb37 h;refine As ?_;show ∃ _,_;exact ⟨(v279.2.1,v279.2.2),(En.of ⟨O,O,O,O,O,O,Y⟩ ⟨O,O,Y⟩ ⟨O,O,O,Y⟩),h⟩
      replace h:=Al hb36 h;iterate 4 refine Sw O O O O hb36 O O ?_
      refine Bp O O O O O hb36 O (Ah (Gf O O (As ?_)));show ∃ _,_;exact ⟨(v279.2.1,v279.2.2),(En.of ⟨O,O,O,O,O,O,Y⟩ ⟨O,O,Y⟩ ⟨O,O,O,Y⟩),h⟩
     intro k289 h;refine Au O (fun hb43=>?_) (fun hb43=>?_)
     ·replace h:=Ak hb43 h;refine Ab (Aa O (Aa O (Ae tt O hg23 (Aa O (Ae tt O hg27 (Aa O (Ah ?_)))))));show ∃ _,_;exact ⟨(Int.tmod (((l213.getD ((v278.1).toNat) (0,0)).2)+(1:Int)) v214),(En.of ⟨O,O,O,O,O,O,O,O,O,Y⟩ ⟨O,O,Y⟩ ⟨O,O,O,O,Y⟩),h⟩
     replace h:=Al hb43 h;refine As ?_;show ∃ _,_;exact ⟨(Int.tmod ((((l213.getD ((v278.1).toNat) (0,0)).2)+(1:Int))+v279.1) v214),(En.of ⟨O,O,O,O,O,O,O,O,O,Y⟩ ⟨O,O,Y⟩ ⟨O,O,O,O,Y⟩),h⟩
    replace h:=Al hb20 h;refine As ?_;show ∃ _,_;exact ⟨(v258.2.1,v258.2.2),(En.of ⟨O,O,O,O,O,O,Y⟩ ⟨O,O,Y⟩ ⟨O,O,O,Y⟩),h⟩
   replace h:=Al hb10 h;iterate 5 refine Sw O O O O hb10 O O ?_
   refine Bp O O O O O hb10 O (Ah (Gf O O (As (Ai (Ab (Aa O (Aa O ?_)))))));obtain ⟨v290,hc44,h⟩:=Ag h;refine Fv (Bv N (⟨c_0.b,v258.2.1,v258.2.2⟩:Cur) v214 v290 hc44) [] [1000000] [] O O O O O O Y ⟨O,Y⟩ ⟨⟨O,O⟩,⟨O,O⟩,Y⟩ (Aa O (Ah (Ai (Ab (Aa O ?_)))));obtain ⟨hg45,h⟩:=Ac h;refine Ae tt O hg45 (Aa O (Aa O ?_));obtain ⟨hg46,h⟩:=Ac h;refine Ae tt O hg46 ?_;obtain ⟨v291,hc47,h⟩:=Ag h;refine Fv (Bv N (⟨c_0.b,v290.2.1,v290.2.2⟩:Cur) (v214-(1:Int)) v291 hc47) [] [1000000] [] O O O O O O Y ⟨O,Y⟩ ⟨⟨O,O⟩,⟨O,O⟩,Y⟩ ?_;obtain ⟨hg48,h⟩:=Ac h;refine Ae tt O hg48 (Aa O ?_);obtain ⟨hg49,h⟩:=Ac h;refine Ae tt O hg49 (Aa O (Ah (Ab ?_)));iterate 4 refine Aa O ?_
   refine Km (Ad O) (Ez Cg O O) O O ?_;obtain ⟨v292,hc50,h⟩:=Ag h;refine Ba (Ec N (⟨c217,l213⟩:Grf) (v290.1,v214) v292 hc50) O O O O O O O O ⟨⟨O,(.inl ⟨O,O⟩),Y⟩,⟨O,O,Y⟩,Y⟩ (Aa O (Aa O (Km (Ad O) (Ez Cg O O) O O ?_)));obtain ⟨v293,hc51,h⟩:=Ag h;refine Ba (Ec N v292 ((Int.tmod ((v290.1+(1:Int))+v291.1) v214),v214) v293 hc51) O O O O O O O O ⟨⟨O,(.inl ⟨O,O⟩),Y⟩,⟨O,O,Y⟩,Y⟩ (Aa O (Ar tt O O O O O O O O O O O ⟨Y,Y,Y⟩ (Ah (Ab (Aa O ?_)))));obtain ⟨hg52,h⟩:=Ac h;refine Ae tt O hg52 (Aa O (Ah ?_));show ∃ _,_;exact ⟨(v293.bars,(v214+(1:Int)),v291.2.1,v291.2.2,v293.n),(En.ren [9504] [2450] O ⟨.inr O,.inr O,.inr O,.inr O,.inr O,.inr O,Y⟩ ⟨.inr O,.inr O,Y⟩ ⟨.inr ⟨_,_,O,O,⟨.inr O,.inr O,.inr O,Y⟩⟩,.inr ⟨_,_,O,O,⟨.inr O,.inr O,.inr O,Y⟩⟩,.inr ⟨_,_,O,O,⟨.inr O,.inr O,.inr O,Y⟩⟩,Y⟩),h⟩
  replace h:=Al hb8 h;iterate 2 refine Sw O O O O hb8 O O ?_
  refine Bp O O O O O hb8 O (Aa O ?_);iterate 5 refine Sw O O O O O O O ?_
  refine Bp O O O O O O O (Ah (Gf O O (As (Ai (Ab (Aa O (Aa O ?_)))))));obtain ⟨v294,hc53,h⟩:=Ag h;refine Fv (Bv N (⟨c_0.b,c215,c216⟩:Cur) v214 v294 hc53) [] [1000000] [] O O O O O O Y ⟨O,Y⟩ ⟨⟨O,O⟩,⟨O,O⟩,Y⟩ (Aa O (Ah (Ai (Ab (Aa O ?_)))));obtain ⟨hg54,h⟩:=Ac h;refine Ae tt O hg54 (Aa O (Aa O ?_));obtain ⟨hg55,h⟩:=Ac h;refine Ae tt O hg55 ?_;obtain ⟨v295,hc56,h⟩:=Ag h;refine Fv (Bv N (⟨c_0.b,v294.2.1,v294.2.2⟩:Cur) (v214-(1:Int)) v295 hc56) [] [1000000] [] O O O O O O Y ⟨O,Y⟩ ⟨⟨O,O⟩,⟨O,O⟩,Y⟩ ?_;obtain ⟨hg57,h⟩:=Ac h;refine Ae tt O hg57 (Aa O ?_);obtain ⟨hg58,h⟩:=Ac h;refine Ae tt O hg58 (Aa O (Ah (Ab ?_)));iterate 4 refine Aa O ?_
  refine Km (Ad O) (Ez Cg O O) O O ?_;obtain ⟨v296,hc59,h⟩:=Ag h;refine Ba (Ec N (⟨c217,l213⟩:Grf) (v294.1,v214) v296 hc59) O O O O O O O O ⟨⟨O,(.inl ⟨O,O⟩),Y⟩,⟨O,O,Y⟩,Y⟩ (Aa O (Aa O (Km (Ad O) (Ez Cg O O) O O ?_)));obtain ⟨v297,hc60,h⟩:=Ag h;refine Ba (Ec N v296 ((Int.tmod ((v294.1+(1:Int))+v295.1) v214),v214) v297 hc60) O O O O O O O O ⟨⟨O,(.inl ⟨O,O⟩),Y⟩,⟨O,O,Y⟩,Y⟩ (Aa O (Ar tt O O O O O O O O O O O ⟨Y,Y,Y⟩ (Ah (Ab (Aa O ?_)))));obtain ⟨hg61,h⟩:=Ac h;refine Ae tt O hg61 (Aa O (Ah ?_));show ∃ _,_;exact ⟨(v297.bars,(v214+(1:Int)),v295.2.1,v295.2.2,v297.n),(En.ren [9504] [2450] O ⟨.inr O,.inr O,.inr O,.inr O,.inr O,.inr O,Y⟩ ⟨.inr O,.inr O,Y⟩ ⟨.inr ⟨_,_,O,O,⟨.inr O,.inr O,.inr O,Y⟩⟩,.inr ⟨_,_,O,O,⟨.inr O,.inr O,.inr O,Y⟩⟩,.inr ⟨_,_,O,O,⟨.inr O,.inr O,.inr O,Y⟩⟩,Y⟩),h⟩
 replace h:=Al hb7 h;refine Bn ?_;show ∃ _,_;exact ⟨(l213,c215,c216,c217),(En.ren [9503] [9504] O ⟨.inr O,.inr O,Y⟩ ⟨.inr O,.inr O,Y⟩ ⟨.inr ⟨_,_,O,O,⟨.inr O,.inr O,.inr O,Y⟩⟩,.inr ⟨_,_,O,O,⟨.inr O,.inr O,.inr O,Y⟩⟩,.inr ⟨_,_,O,O,⟨.inr O,.inr O,.inr O,Y⟩⟩,Y⟩),h⟩
def Wp (N:Nat) (g_0:Grf) (a_1:Int) (b_2:Int):Option (Grf×Bool):=
 (Lm N g_0).bind fun v1=>
 cnd (!v1) (
  (Gi N g_0).bind fun v2=>
  some ((⟨v2.n,v2.bars⟩:Grf),false)) (
  cnd (decide (a_1<(0:Int))) (
   (Gi N g_0).bind fun v3=>
   some ((⟨v3.n,v3.bars⟩:Grf),false)) (
   cnd (decide (b_2<(0:Int))) (
    (Gi N g_0).bind fun v4=>
    some ((⟨v4.n,v4.bars⟩:Grf),false)) (
    cnd (decide (a_1≥g_0.n)) (
     (Gi N g_0).bind fun v5=>
     some ((⟨v5.n,v5.bars⟩:Grf),false)) (
     cnd (decide (b_2≥g_0.n)) (
      (Gi N g_0).bind fun v6=>
      some ((⟨v6.n,v6.bars⟩:Grf),false)) (
      cnd (a_1==b_2) (
       (Gi N g_0).bind fun v7=>
       some ((⟨v7.n,v7.bars⟩:Grf),false)) (
       cnd (decide ((g_0.bars.length:Int)≥(24:Int))) (
        (Gi N g_0).bind fun v8=>
        some ((⟨v8.n,v8.bars⟩:Grf),false)) (
        (Df N g_0 ((min a_1 b_2),(max a_1 b_2))).bind fun v9=>
        some ((⟨v9.n,v9.bars⟩:Grf),true))))))))
theorem S_AddBar_w (N:Nat) (g_0:Grf) (a_1:Int) (b_2:Int) (r:Grf×Bool) (h:Wp N g_0 a_1 b_2=some r):PCall Try.prog 45 [gD g_0,.int a_1,.int b_2] [(52,.pairs r.1.bars)] (.tup [.agg [.int r.1.n,.row 0 0 r.1.bars.length],.bool r.2]):=by
 unfold Wp at h;refine Aj (TT:=TT) tt Try.func45 O O Try.ntmps45 (congrArg Array.toList Try.results45) O O fun w0=>(Ai (Ab (Lh O O O O O O O O O (Bw tt O O O O O O O O O (Aa O (Ah (Ai (Ai (Ab ?_)))))))));refine Aa O ?_;obtain ⟨v1,hc1,h⟩:=Ag h;refine Ba (Qv N g_0 v1 hc1) O O O O O O O O ⟨⟨O,O,Y⟩,Y⟩ (Aa O (Aa O (Bu O O O (fun hb2=>?_) (fun hb2=>?_))))
 ·replace h:=Ak hb2 h;iterate 2 refine Lv O O O O hb2 O O ?_
  refine Cf O O O O O hb2 O (Aa O ?_);iterate 2 refine Lv O O O O O O O ?_
  refine Cf O O O O O O O (Aa O ?_);iterate 4 refine Lv O O O O O O O ?_
  refine Cf O O O O O O O (Aa O ?_);iterate 4 refine Lv O O O O O O O ?_
  refine Cf O O O O O O O (Aa O ?_);iterate 3 refine Lv O O O O O O O ?_
  refine Cf O O O O O O O (Aa O ?_);iterate 4 refine Lv O O O O O O O ?_
  refine Cf O O O O O O O (Ah (Ce O O (Ai (Ab (Aa O ?_)))));obtain ⟨v2,hc3,h⟩:=Ag h;refine Ba (Hj N g_0 v2 hc3) O O O O O O O O ⟨⟨O,O,Y⟩,Y⟩ (Ar tt O O O O O O O O O O O ⟨Y,Y,Y⟩ (Aa O (Ah (Az ?_))));show ∃ _,_;cases h;exact ⟨[1430],_,O,⟨O,Y⟩,O,.eq O,O⟩
 replace h:=Al hb2 h;iterate 2 refine Bt tt O O O O O hb2 O O O Y ?_
 refine Bp O O O O O hb2 O (Aa O (Bu O O O (fun hb4=>?_) (fun hb4=>?_)))
 ·replace h:=Ak hb4 h;iterate 2 refine Lv O O O O hb4 O O ?_
  refine Cf O O O O O hb4 O (Aa O ?_);iterate 4 refine Lv O O O O O O O ?_
  refine Cf O O O O O O O (Aa O ?_);iterate 4 refine Lv O O O O O O O ?_
  refine Cf O O O O O O O (Aa O ?_);iterate 3 refine Lv O O O O O O O ?_
  refine Cf O O O O O O O (Aa O ?_);iterate 4 refine Lv O O O O O O O ?_
  refine Cf O O O O O O O (Ah (Ce O O (Ai (Ab (Aa O ?_)))));obtain ⟨v3,hc5,h⟩:=Ag h;refine Ba (Hj N g_0 v3 hc5) O O O O O O O O ⟨⟨O,O,Y⟩,Y⟩ (Ar tt O O O O O O O O O O O ⟨Y,Y,Y⟩ (Aa O (Ah (Az ?_))));show ∃ _,_;cases h;exact ⟨[1430],_,O,⟨O,Y⟩,O,.eq O,O⟩
 replace h:=Al hb4 h;iterate 2 refine Bt tt O O O O O hb4 O O O Y ?_
 refine Bp O O O O O hb4 O (Aa O (Bu O O O (fun hb6=>?_) (fun hb6=>?_)))
 ·replace h:=Ak hb6 h;iterate 4 refine Lv O O O O hb6 O O ?_
  refine Cf O O O O O hb6 O (Aa O ?_);iterate 4 refine Lv O O O O O O O ?_
  refine Cf O O O O O O O (Aa O ?_);iterate 3 refine Lv O O O O O O O ?_
  refine Cf O O O O O O O (Aa O ?_);iterate 4 refine Lv O O O O O O O ?_
  refine Cf O O O O O O O (Ah (Ce O O (Ai (Ab (Aa O ?_)))));obtain ⟨v4,hc7,h⟩:=Ag h;refine Ba (Hj N g_0 v4 hc7) O O O O O O O O ⟨⟨O,O,Y⟩,Y⟩ (Ar tt O O O O O O O O O O O ⟨Y,Y,Y⟩ (Aa O (Ah (Az ?_))));show ∃ _,_;cases h;exact ⟨[1430],_,O,⟨O,Y⟩,O,.eq O,O⟩
 replace h:=Al hb6 h;iterate 4 refine Bt tt O O O O O hb6 O O O Y ?_
 refine Bp O O O O O hb6 O (Aa O (Bu O O O (fun hb8=>?_) (fun hb8=>?_)))
 ·replace h:=Ak hb8 h;iterate 4 refine Lv O O O O hb8 O O ?_
  refine Cf O O O O O hb8 O (Aa O ?_);iterate 3 refine Lv O O O O O O O ?_
  refine Cf O O O O O O O (Aa O ?_);iterate 4 refine Lv O O O O O O O ?_
  refine Cf O O O O O O O (Ah (Ce O O (Ai (Ab (Aa O ?_)))));obtain ⟨v5,hc9,h⟩:=Ag h;refine Ba (Hj N g_0 v5 hc9) O O O O O O O O ⟨⟨O,O,Y⟩,Y⟩ (Ar tt O O O O O O O O O O O ⟨Y,Y,Y⟩ (Aa O (Ah (Az ?_))));show ∃ _,_;cases h;exact ⟨[1430],_,O,⟨O,Y⟩,O,.eq O,O⟩
 replace h:=Al hb8 h;iterate 4 refine Bt tt O O O O O hb8 O O O Y ?_
 refine Bp O O O O O hb8 O (Aa O (Bu O O O (fun hb10=>?_) (fun hb10=>?_)))
 ·replace h:=Ak hb10 h;iterate 3 refine Lv O O O O hb10 O O ?_
  refine Cf O O O O O hb10 O (Aa O ?_);iterate 4 refine Lv O O O O O O O ?_
  refine Cf O O O O O O O (Ah (Ce O O (Ai (Ab (Aa O ?_)))));obtain ⟨v6,hc11,h⟩:=Ag h;refine Ba (Hj N g_0 v6 hc11) O O O O O O O O ⟨⟨O,O,Y⟩,Y⟩ (Ar tt O O O O O O O O O O O ⟨Y,Y,Y⟩ (Aa O (Ah (Az ?_))));show ∃ _,_;cases h;exact ⟨[1430],_,O,⟨O,Y⟩,O,.eq O,O⟩
 replace h:=Al hb10 h;iterate 3 refine Bt tt O O O O O hb10 O O O Y ?_
 refine Bp O O O O O hb10 O (Aa O (Bu O O O (fun hb12=>?_) (fun hb12=>?_)))
 ·replace h:=Ak hb12 h;iterate 4 refine Lv O O O O hb12 O O ?_
  refine Cf O O O O O hb12 O (Ah (Ce O O (Ai (Ab (Aa O ?_)))));obtain ⟨v7,hc13,h⟩:=Ag h;refine Ba (Hj N g_0 v7 hc13) O O O O O O O O ⟨⟨O,O,Y⟩,Y⟩ (Ar tt O O O O O O O O O O O ⟨Y,Y,Y⟩ (Aa O (Ah (Az ?_))));show ∃ _,_;cases h;exact ⟨[1430],_,O,⟨O,Y⟩,O,.eq O,O⟩
 replace h:=Al hb12 h;iterate 4 refine Bt tt O O O O O hb12 O O O Y ?_
 refine Bp O O O O O hb12 O (Ah (Au O (fun hb14=>?_) (fun hb14=>?_)))
 ·replace h:=Ak hb14 h;refine Ai (Ab (Aa O ?_));obtain ⟨v8,hc15,h⟩:=Ag h;refine Ba (Hj N g_0 v8 hc15) O O O O O O O O ⟨⟨O,O,Y⟩,Y⟩ (Ar tt O O O O O O O O O O O ⟨Y,Y,Y⟩ (Aa O (Ah (Az ?_))));show ∃ _,_;cases h;exact ⟨[1430],_,O,⟨O,Y⟩,O,.eq O,O⟩
 replace h:=Al hb14 h;refine As (Ai (Ab ?_));iterate 7 refine Aa O ?_
 refine Km (Ad O) (Ez Cg O O) O O ?_;obtain ⟨v9,hc16,h⟩:=Ag h;refine Ba (Ec N g_0 ((min a_1 b_2),(max a_1 b_2)) v9 hc16) O O O O O O O O ⟨⟨O,O,Y⟩,⟨O,O,Y⟩,Y⟩ (Ar tt O O O O O O O O O O O ⟨Y,Y,Y⟩ (Aa O (Ah (Az ?_))));show ∃ _,_;cases h;exact ⟨[1520],_,O,⟨O,Y⟩,O,.eq O,O⟩
end
section
open Go.RowKit
theorem Aaw:BuildOK Try.prog 67 [(0,1),(1,1),(2,1)] [.slice none 0 0,.int .i64 0,.int .i64 0]:=bld (by kernel_rfl) (by kernel_rfl)
end
section
open Go.RowKit
def Qu (N:Nat) (c_0:Cur):Option (Pin×Int×Int):=
 (Cb N c_0 (4:Int)).bind fun v1=>
 grd (Bc ((1:Int)+v1.1)) <|
 (Jl N (⟨c_0.b,v1.2.1,v1.2.2⟩:Cur) ((1:Int)+v1.1)).bind fun v2=>
 (Cb N (⟨c_0.b,v2.2.1,v2.2.2⟩:Cur) (8:Int)).bind fun v3=>
 cnd (v3.1==(0:Int)) (
  (Cb N (⟨c_0.b,v3.2.1,v3.2.2⟩:Cur) (v2.1.g.bars.length:Int)).bind fun v4=>
  (Hz N v2.1.g v4.1).bind fun v5=>
  some ((⟨⟨v5.1.n,v5.1.bars⟩,v2.1.ground⟩:Pin),v4.2.1,v4.2.2)) (
  cnd (v3.1==(1:Int)) (
   (Cb N (⟨c_0.b,v3.2.1,v3.2.2⟩:Cur) v2.1.g.n).bind fun v6=>
   (Cb N (⟨c_0.b,v6.2.1,v6.2.2⟩:Cur) v2.1.g.n).bind fun v7=>
   (Wp N v2.1.g v6.1 v7.1).bind fun v8=>
   some ((⟨⟨v8.1.n,v8.1.bars⟩,v2.1.ground⟩:Pin),v7.2.1,v7.2.2)) (
   cnd (v3.1==(2:Int)) (
    (Cb N (⟨c_0.b,v3.2.1,v3.2.2⟩:Cur) (4:Int)).bind fun v9=>
    grd (Bc (v9.1-(1:Int))) <|
    (Cb N (⟨c_0.b,v9.2.1,v9.2.2⟩:Cur) (9:Int)).bind fun v10=>
    some ((⟨⟨v2.1.g.n,v2.1.g.bars⟩,([(v9.1-(1:Int)),v10.1]:List Int)⟩:Pin),v10.2.1,v10.2.2)) (
    some ((⟨⟨v2.1.g.n,v2.1.g.bars⟩,v2.1.ground⟩:Pin),v3.2.1,v3.2.2))))
theorem Xk (N:Nat) (c_0:Cur) (r:Pin×Int×Int) (h:Qu N c_0=some r):MCall Try.prog 25 [.ptr 1000000 0] [900101,900102] [1000000] [(52,.pairs []),(3,.ints [])] [(52,.pairs r.1.g.bars),(3,.ints r.1.ground)] [[.ro false (.bytes c_0.b),.int c_0.i,.int c_0.h]] [[.ro false (.bytes c_0.b),.int r.2.1,.int r.2.2]] (.agg [.int r.1.g.n,.row 900101 0 r.1.g.bars.length,.row 900102 0 r.1.ground.length]):=by
 unfold Qu at h;refine Gd (TT:=TT) tt Try.func25 O O Try.ntmps25 (congrArg Array.toList Try.results25) O O O O O fun w0 O0=>(Ai (Ab (Bw tt O O O O O O O O O (Ah (Ai (Ab (Aa O (Aa O ?_))))))));obtain ⟨v1,hc1,h⟩:=Ag h;refine Fv (Bv N c_0 (4:Int) v1 hc1) [] [1000000] [] O O O O O O Y ⟨O,Y⟩ ⟨⟨O,O⟩,⟨O,O⟩,Y⟩ ?_;obtain ⟨hg2,h⟩:=Ac h;refine Ae tt O hg2 (vEnO (En.zero 9503 52 (.pairs []) O O) (vEnO (En.zero 9504 3 (.ints []) O O) ?_));obtain ⟨v2,hc3,h⟩:=Ag h;refine Fv (Yh N (⟨c_0.b,v1.2.1,v1.2.2⟩:Cur) ((1:Int)+v1.1) v2 hc3) [9503,9504] [1000000] [1140,1141] O O O O O O ⟨O,O,Y⟩ ⟨O,Y⟩ ⟨⟨O,O⟩,⟨O,O⟩,Y⟩ (Bw tt O O O O O O O O O (Ar tt O O O O O O O O O O O ⟨Y,Y,Y,Y⟩ (Ah (Ai (Ai (Ab (Aa O ?_)))))));obtain ⟨v3,hc4,h⟩:=Ag h;refine Fv (Bv N (⟨c_0.b,v2.2.1,v2.2.2⟩:Cur) (8:Int) v3 hc4) [] [1000000] [] O O O O O O Y ⟨O,Y⟩ ⟨⟨O,O⟩,⟨O,O⟩,Y⟩ (Ah (Aq (Ai (Ab (Aa O (Aa O (Ah (Au O (fun hb5=>?_) (fun hb5=>?_)))))))))
 ·replace h:=Ak hb5 h;refine Ai (Bi 14 [7,8,12,1071000000,1130000004] [0,1,0,0,8,24,56,124,255,511,1023,1023,0,6143,16383] (by kernel_rfl) (by kernel_rfl) (by kernel_rfl) (by kernel_rfl) (by kernel_rfl) O (by rfl) ?_);iterate 7 refine Br tt O (Ad O) O O O O O Y ?_
  obtain ⟨v4,hc6,h⟩:=Ag h;refine nMCall (rids:=[]) (bids:=[]) (pids:=[]) (Ad rfl) (Bv N (⟨c_0.b,v3.2.1,v3.2.2⟩:Cur) (v2.1.g.bars.length:Int) v4 hc6) [] [1000000] [] rfl rfl rfl rfl rfl (by first | rfl | kernel_rfl) rfl rfl rfl rfl rfl (by first | rfl | kernel_rfl)  trivial ⟨rfl,Y⟩ ⟨⟨rfl,rfl⟩,⟨rfl,rfl⟩,Y⟩ ?_;obtain ⟨v5,hc7,h⟩:=Ag h;refine Lk (Rc N v2.1.g v4.1 v5 hc7) rfl (Ad rfl) rfl rfl rfl rfl rfl rfl (by first | rfl | kernel_rfl | (simp [nrL,nm,Fc,nmT,Gu]; done)) rfl (by first | rfl | kernel_rfl | (simp [Kr,nrL,nm,Fc,nmT,Gu,hid,Gk,Dh,Ca]; done) | (simp [Kr,nrL,nm,Fc,nmT,Gu,hid,Gk,Dh,Ca]; decide)) ⟨⟨rfl,(.inl ⟨rfl,rfl⟩),Y⟩,rfl,Y⟩ ?_;iterate 3 refine Br tt O (Ad O) O O O O O Y ?_
  refine nAlloc tt (Ad O) O O O O O O O O O O (nStoreB tt (Ad O) O O O O O O O O O O O O (Pm ?_));show VO _ _ _ _ _;refine Aa O (Ah (Ab (Aa O (Aa O (Ar tt O O O O O O O O O O O ⟨Y,Y,Y⟩ (Ah (Ai (Ab (Aa O ?_)))))))));refine Ar tt O O O O O O O O O O O ⟨Y,Y,Y,Y⟩ (Ah (Az ?_));show ∃ _,_;cases h;exact ⟨[1280,1141],O,⟨O,O,Y⟩,⟨O,Y⟩,O⟩
 replace h:=Al hb5 h;refine Ai (Ab (Aa O (Aa O (Ah (Au O (fun hb8=>?_) (fun hb8=>?_))))))
 ·replace h:=Ak hb8 h;refine Ai (Ab ?_);iterate 4 refine Aa O ?_
  obtain ⟨v6,hc9,h⟩:=Ag h;refine Fv (Bv N (⟨c_0.b,v3.2.1,v3.2.2⟩:Cur) v2.1.g.n v6 hc9) [] [1000000] [] O O O O O O Y ⟨O,Y⟩ ⟨⟨O,O⟩,⟨O,O⟩,Y⟩ (Aa O (Ah (Ai (Ab ?_))));iterate 4 refine Aa O ?_
  obtain ⟨v7,hc10,h⟩:=Ag h;refine Fv (Bv N (⟨c_0.b,v6.2.1,v6.2.2⟩:Cur) v2.1.g.n v7 hc10) [] [1000000] [] O O O O O O Y ⟨O,Y⟩ ⟨⟨O,O⟩,⟨O,O⟩,Y⟩ (Aa O (Ah (Ai (Ab ?_))));iterate 4 refine Aa O ?_
  obtain ⟨v8,hc11,h⟩:=Ag h;refine Ba (S_AddBar_w N v2.1.g v6.1 v7.1 v8 hc11) O O O O O O O O ⟨⟨O,(.inl ⟨O,O⟩),Y⟩,O,O,Y⟩ (Aa O (Aa O (Aa O (Bw tt O O O O O O O O O (Ar tt O O O O O O O O O O O ⟨Y,Y,Y⟩ (Aa O (Ah (Ab (Aa O ?_)))))))));refine Aa O (Ar tt O O O O O O O O O O O ⟨Y,Y,Y⟩ (Ah (Ai (Ab (Aa O (Ar tt O O O O O O O O O O O ⟨Y,Y,Y,Y⟩ (Ah (Az ?_))))))));show ∃ _,_;cases h;exact ⟨[1500,1141],O,⟨O,O,Y⟩,⟨O,Y⟩,O⟩
 replace h:=Al hb8 h;refine Ai (Ab (Aa O (Aa O (Ah (Au O (fun hb12=>?_) (fun hb12=>?_))))))
 ·replace h:=Ak hb12 h;refine Ab (Aa O ?_);obtain ⟨v9,hc13,h⟩:=Ag h;refine Fv (Bv N (⟨c_0.b,v3.2.1,v3.2.2⟩:Cur) (4:Int) v9 hc13) [] [1000000] [] O O O O O O Y ⟨O,Y⟩ ⟨⟨O,O⟩,⟨O,O⟩,Y⟩ ?_;obtain ⟨hg14,h⟩:=Ac h;refine Ae tt O hg14 (Aa O ?_);obtain ⟨v10,hc15,h⟩:=Ag h;refine Fv (Bv N (⟨c_0.b,v9.2.1,v9.2.2⟩:Cur) (9:Int) v10 hc15) [] [1000000] [] O O O O O O Y ⟨O,Y⟩ ⟨⟨O,O⟩,⟨O,O⟩,Y⟩ (Ep tt O O O O O O O O O O O (Aa O (Ar tt O O O O O O O O O O O ⟨Y,Y⟩ (Ah (Ai (Ab (Aa O (Ar tt O O O O O O O O O O O ⟨Y,Y,Y,Y⟩ (Ah ?_)))))))));refine Az ?_;show ∃ _,_;cases h;exact ⟨[1140,62],O,⟨O,O,Y⟩,⟨O,Y⟩,O⟩
 replace h:=Al hb12 h;refine As (Ai (Ab (Aa O (Ar tt O O O O O O O O O O O ⟨Y,Y,Y,Y⟩ (Ah (Az ?_))))));show ∃ _,_;cases h;exact ⟨[1140,1141],O,⟨O,O,Y⟩,⟨O,Y⟩,O⟩
def La (N:Nat) (code_0:List Int) (k:Int→Option (Cur)):Nat→(Int×Int)→Option (Cur)
 | 0,_=>none
 | n+1,(h5,i6)=>
  cnd (decide (i6<(code_0.length:Int))) (
   cnd (decide (i6<(4000:Int))) (
    grd (Bc (h5*(131:Int))) <|
    grd (0≤i6∧i6<(code_0.length:Int)) <|
    grd (0≤(code_0.getD ((i6).toNat) 0)∧(code_0.getD ((i6).toNat) 0)<256) <|
    grd (Bc ((h5*(131:Int))+(code_0.getD ((i6).toNat) 0))) <|
    grd (Bc (((h5*(131:Int))+(code_0.getD ((i6).toNat) 0))+(7:Int))) <|
    grd (Bc (i6+(1:Int))) <|
    La N code_0 k n ((andI (((h5*(131:Int))+(code_0.getD ((i6).toNat) 0))+(7:Int)) (1073741823:Int)),(i6+(1:Int)))) (
    k h5)) (
   k h5)
def Tr (N:Nat) (code_0:List Int):Option (Cur):=
 grd (Bc ((10101:Int)+(code_0.length:Int))) <|
 La N code_0 (fun (h3 : Int) =>
    some (⟨code_0,(0:Int),h3⟩:Cur)) N (((10101:Int)+(code_0.length:Int)),(0:Int))
theorem Aae (N:Nat) (code_0:List Int) (r:Cur) (h:Tr N code_0=some r):PCallB Try.prog 26 [.ro false (.bytes code_0)] [.ro false (.bytes r.b),.int r.i,.int r.h]:=by
 unfold Tr at h;refine pcallB_intro (TT:=TT) tt Try.func26 O O Try.ntmps26 (congrArg Array.toList Try.results26) O O O fun w0 O0=>(Ai (Ab (Aa O (Ah (Ai (Ab (Aa O (Aa O ?_))))))));obtain ⟨hg1,h⟩:=Ac h;refine Ae tt O hg1 (Aa O (Ah (Ai (Ai (Ab (Aa O (Ah (Cr (F:=fun k=>La N code_0 k) h (α:=Int) (J:=fun (h3:Int)=>(⟨[(0,.ro false (.bytes code_0)),(3,.int h3)],[],[]⟩:PS)) ?_ ?_))))))))
 ·rintro h3 h;show VC _ _ _ (⟨[(0,.ro false (.bytes code_0)),(3,.int h3)],[],[]⟩:PS);refine Ai (Ab (Aa O (Aa O (Km (Ad O) (Ez Aaw O O) O O (Lh O O O O O O O O O (Aa O (Ah (Az ?_))))))));show ∃ _,_;cases h;exact ⟨31,O,O,O⟩
 intro k h;refine Aq (Bd (α:=Int×Int) (fun | (h5,i6)=>(⟨[(0,.ro false (.bytes code_0)),(3,.int h5),(4,.int i6)],[],[]⟩:PS)) (La N code_0 k) h (En.of ⟨rfl,rfl,rfl,Y⟩ trivial trivial) (fun _=>rfl) ?_);rintro n ⟨h5,i6⟩ h;rw [La] at h;show VC _ _ _ (⟨[(0,.ro false (.bytes code_0)),(3,.int h5),(4,.int i6)],[],[]⟩:PS);refine Ai (Ai (Ab ?_));iterate 5 refine Aa O ?_
 refine Bu O O O (fun hb2=>?_) (fun hb2=>?_)
 ·replace h:=Ak hb2 h;iterate 2 refine Bt tt O O O O O hb2 O O O Y ?_
  refine Cf O O O O O hb2 O (Ah (Au O (fun hb3=>?_) (fun hb3=>?_)))
  ·replace h:=Ak hb3 h;refine As (Ai (Aq (Ab (Aa O ?_))));obtain ⟨hg4,h⟩:=Ac h;refine Ae tt O hg4 (Aa O (Aa O ?_));obtain ⟨hg5,h⟩:=Ac h;refine Ae tt O hg5 (Aa O ?_);obtain ⟨hg6,h⟩:=Ac h;refine Km (Ad O) (pConvI Try.underlying5 Try.underlying3 O O hg6) O O ?_;obtain ⟨hg7,h⟩:=Ac h;refine Ae tt O hg7 ?_;obtain ⟨hg8,h⟩:=Ac h;refine Ae tt O hg8 (Aa O (Aa O (Ah (Ab (Aa O ?_)))));obtain ⟨hg9,h⟩:=Ac h;refine Ae tt O hg9 (Aa O (Ah ?_));show ∃ _,_;exact ⟨((andI (((h5*(131:Int))+(code_0.getD ((i6).toNat) 0))+(7:Int)) (1073741823:Int)),(i6+(1:Int))),(En.of ⟨O,O,O,Y⟩ trivial trivial),h⟩
  replace h:=Al hb3 h;refine Bn ?_;show ∃ _,_;exact ⟨h5,(En.of ⟨O,O,Y⟩ trivial trivial),h⟩
 replace h:=Al hb2 h;iterate 2 refine Sw O O O O hb2 O O ?_
 refine Bp O O O O O hb2 O (Ah (Gf O O (Bn ?_)));show ∃ _,_;exact ⟨h5,(En.of ⟨O,O,Y⟩ trivial trivial),h⟩
def Qw (N:Nat) (l_0:List Int) (x_1:Int) (k:Unit→Option (Bool)):Nat→Int→Option (Bool)
 | 0,_=>none
 | n+1,i3=>
  cnd (decide (i3<(l_0.length:Int))) (
   grd (0≤i3∧i3<(l_0.length:Int)) <|
   cnd ((l_0.getD ((i3).toNat) 0)==x_1) (
    some true) (
    grd (Bc (i3+(1:Int))) <|
    Qw N l_0 x_1 k n (i3+(1:Int)))) (
   k ())
def L_has (N:Nat) (l_0:List Int) (x_1:Int):Option (Bool):=
 Qw N l_0 x_1 (fun (_ : Unit) =>
    some false) N (0:Int)
theorem L_has_w (N:Nat) (l_0:List Int) (x_1:Int) (r:Bool) (h:L_has N l_0 x_1=some r):PCall Try.prog 19 [.ro false (.ints l_0),.int x_1] [] (.bool r):=by
 unfold L_has at h;refine Aj (TT:=TT) tt Try.func19 O O Try.ntmps19 (congrArg Array.toList Try.results19) O O fun w0=>(Ai (Ab (Aa O (Ah (Ai (Ai (Ab (Aa O (Ah ?_)))))))));refine Cr (F:=fun k=>Qw N l_0 x_1 k) h (α:=Unit) (J:=fun (_:Unit)=>(⟨[],[],[]⟩:PS)) ?_ ?_
 ·rintro ⟨⟩ h;show VC _ _ _ (⟨[],[],[]⟩:PS);refine Ai (Ab (Aa O (Ah (Az ?_))));show ∃ _,_;cases h;exact ⟨[],_,O,Y,O,.eq O,O⟩
 intro k h;refine Aq (Bd (α:=Int) (fun (i3:Int)=>(⟨[(0,.ro false (.ints l_0)),(1,.int x_1),(5,.int i3)],[],[]⟩:PS)) (Qw N l_0 x_1 k) h (En.of ⟨O,O,O,Y⟩ trivial trivial) (fun _=>O) ?_);rintro n i3 h;rw [Qw] at h;show VC _ _ _ (⟨[(0,.ro false (.ints l_0)),(1,.int x_1),(5,.int i3)],[],[]⟩:PS);refine Ai (Ai (Ab ?_));iterate 4 refine Aa O ?_
 refine Ah (Au O (fun hb1=>?_) (fun hb1=>?_))
 ·replace h:=Ak hb1 h;refine As (Ai (Aq (Ai (Ab (Aa O (Aa O ?_))))));obtain ⟨hg2,h⟩:=Ac h;refine Ae tt O hg2 (Aa O (Aa O (Aa O (Ah (Au O (fun hb3=>?_) (fun hb3=>?_))))))
  ·replace h:=Ak hb3 h;refine Ai (Ab (Aa O (Ah (Az ?_))));show ∃ _,_;cases h;exact ⟨[],_,O,Y,O,.eq O,O⟩
  replace h:=Al hb3 h;refine As (Ab (Aa O ?_));obtain ⟨hg4,h⟩:=Ac h;refine Ae tt O hg4 (Aa O (Ah ?_));show ∃ _,_;exact ⟨(i3+(1:Int)),(En.of ⟨O,O,O,Y⟩ trivial trivial),h⟩
 replace h:=Al hb1 h;refine Bn ?_;show ∃ _,_;exact ⟨(),(En.of trivial trivial trivial),h⟩
def Hc (N:Nat) (a_0:List Int) (b_1:List Int) (k:Unit→Option (Bool)):Nat→Int→Option (Bool)
 | 0,_=>none
 | n+1,i3=>
  cnd (decide (i3<(a_0.length:Int))) (
   grd (0≤i3∧i3<(a_0.length:Int)) <|
   grd (0≤i3∧i3<(b_1.length:Int)) <|
   cnd ((a_0.getD ((i3).toNat) 0) != (b_1.getD ((i3).toNat) 0)) (
    some false) (
    grd (Bc (i3+(1:Int))) <|
    Hc N a_0 b_1 k n (i3+(1:Int)))) (
   k ())
def Jw (N:Nat) (a_0:List Int) (b_1:List Int):Option (Bool):=
 cnd ((a_0.length:Int) != (b_1.length:Int)) (
  some false) (
  Hc N a_0 b_1 (fun (_ : Unit) =>
     some true) N (0:Int))
theorem Pp (N:Nat) (a_0:List Int) (b_1:List Int) (r:Bool) (h:Jw N a_0 b_1=some r):PCall Try.prog 12 [.ro false (.ints a_0),.ro false (.ints b_1)] [] (.bool r):=by
 unfold Jw at h;refine Aj (TT:=TT) tt Try.func12 O O Try.ntmps12 (congrArg Array.toList Try.results12) O O fun w0=>(Ai (Ab (Aa O (Ah (Ai (Ai (Ab ?_)))))));iterate 5 refine Aa O ?_
 refine Ah (Au O (fun hb1=>?_) (fun hb1=>?_))
 ·replace h:=Ak hb1 h;refine Ai (Ab (Aa O (Ah (Az ?_))));show ∃ _,_;cases h;exact ⟨[],_,O,Y,O,.eq O,O⟩
 replace h:=Al hb1 h;refine As (Ai (Ai (Ab (Aa O (Ah (Cr (F:=fun k=>Hc N a_0 b_1 k) h (α:=Unit) (J:=fun (_:Unit)=>(⟨[],[],[]⟩:PS)) ?_ ?_))))))
 ·rintro ⟨⟩ h;show VC _ _ _ (⟨[],[],[]⟩:PS);refine Ai (Ab (Aa O (Ah (Az ?_))));show ∃ _,_;cases h;exact ⟨[],_,O,Y,O,.eq O,O⟩
 intro k h;refine Aq (Bd (α:=Int) (fun (i3:Int)=>(⟨[(0,.ro false (.ints a_0)),(1,.ro false (.ints b_1)),(5,.int i3)],[],[]⟩:PS)) (Hc N a_0 b_1 k) h (En.of ⟨O,O,O,Y⟩ trivial trivial) (fun _=>O) ?_);rintro n i3 h;rw [Hc] at h;show VC _ _ _ (⟨[(0,.ro false (.ints a_0)),(1,.ro false (.ints b_1)),(5,.int i3)],[],[]⟩:PS);refine Ai (Ai (Ab ?_));iterate 4 refine Aa O ?_
 refine Ah (Au O (fun hb2=>?_) (fun hb2=>?_))
 ·replace h:=Ak hb2 h;refine As (Ai (Aq (Ai (Bs (by kernel_rfl) (by kernel_rfl) ?_))));iterate 2 refine Ax tt O (Ad O) O O O Y ?_
  obtain ⟨hg3,h⟩:=Ac h;refine Ax tt O (Ad O) O O O hg3 ?_;iterate 3 refine Ax tt O (Ad O) O O O Y ?_
  obtain ⟨hg4,h⟩:=Ac h;refine Ax tt O (Ad O) O O O hg4 ?_;iterate 2 refine Ax tt O (Ad O) O O O Y ?_
  refine Hq (Au O (fun hb5=>?_) (fun hb5=>?_))
  ·replace h:=Ak hb5 h;refine Ai (Ab (Aa O (Ah (Az ?_))));show ∃ _,_;cases h;exact ⟨[],_,O,Y,O,.eq O,O⟩
  replace h:=Al hb5 h;refine As (Ab (Aa O ?_));obtain ⟨hg6,h⟩:=Ac h;refine Ae tt O hg6 (Aa O (Ah ?_));show ∃ _,_;exact ⟨(i3+(1:Int)),(En.of ⟨O,O,O,Y⟩ trivial trivial),h⟩
 replace h:=Al hb2 h;refine Bn ?_;show ∃ _,_;exact ⟨(),(En.of trivial trivial trivial),h⟩
def Gn (N:Nat) (code_0:List Int):Option (Pin):=
 (Tr N code_0).bind fun v1=>
 (Qu N v1).bind fun v2=>
 some (⟨⟨v2.1.g.n,v2.1.g.bars⟩,v2.1.ground⟩:Pin)
theorem Tk (N:Nat) (code_0:List Int) (r:Pin) (h:Gn N code_0=some r):PCall Try.prog 5 [.ro false (.bytes code_0)] [(52,.pairs r.g.bars),(3,.ints r.ground)] (.agg [.int r.g.n,.row 0 0 r.g.bars.length,.row 1 0 r.ground.length]):=by
 unfold Gn at h;refine Aj (TT:=TT) tt Try.func5 O O Try.ntmps5 (congrArg Array.toList Try.results5) O O fun w0=>(Ai (Ab (Bw tt O O O O O O O O O (Ah (Ai (Ab (Aa O ?_)))))));obtain ⟨v1,hc1,h⟩:=Ag h;refine oCallB (Aae N code_0 v1 hc1) O O O O O ⟨O,O,Y⟩ (vEnO (En.zero 9503 52 (.pairs []) O O) (vEnO (En.zero 9504 3 (.ints []) O O) ?_));obtain ⟨v2,hc2,h⟩:=Ag h;refine Fv (Xk N v1 v2 hc2) [9503,9504] [4] [1050,1051] O O O O O O ⟨O,O,Y⟩ ⟨O,Y⟩ ⟨⟨O,O⟩,Y⟩ (Ar tt O O O O O O O O O O O ⟨Y,Y,Y,Y⟩ (Ah (Az ?_)));show ∃ _,_;cases h;exact ⟨[1050,1051],_,O,⟨O,O,Y⟩,O,.eq O,O⟩
end
section
open Go.RowKit
def Ok {α:Type} (o:Option α) (P:α→Prop):Prop:=∃ r,o=some r∧P r
section
variable {α β:Type} {P Q:α→Prop}
theorem Fb {r:α} (h:P r):Ok (some r) P:=⟨r,rfl,h⟩
theorem Bz {o:Option β} {R:β→Prop} {f:β→Option α} (h:Ok o R) (hf:∀ r,R r→Ok (f r) P):Ok (o.bind f) P:=by
 obtain ⟨r,rfl,hr⟩:=h;exact hf r hr
theorem Dc {p:Prop} [Decidable p] {o:Option α} (hp:p) (h:Ok o P):Ok (grd p o) P:=by rw [Ao hp]; exact h
theorem Fa {b:Bool} {x y:Option α} (h1:b=true→Ok x P) (h2:b=false→Ok y P):Ok (cnd b x y) P:=by
 cases b with
 | true=>exact h1 rfl
 | false=>exact h2 rfl
theorem ok_jn {σ:Type} {k:σ→Option α} {f:(σ→Option α)→Option α} {R:σ→Prop} (hk:∀ x,R x→Ok (k x) P) (hf:∀ k':σ→Option α,(∀ x,R x→Ok (k' x) P)→Ok (f k') P):Ok (jn k f) P:=hf k hk
end
def Byt (l:List Int):Prop:=∀ i:Nat,i<l.length→0≤l.getD i 0∧l.getD i 0<256
structure CK (c:Cur):Prop where
 byt:Byt c.b
 len:c.b.length≤1048576
 nn:0≤c.i
theorem and_low {x:Int} {m:Nat} (hm:m<4611686018427387904):0≤andI x (m:Int)∧andI x (m:Int)≤m:=by
 unfold andI;have e:(BitVec.ofInt 64 (m:Int)).toNat=m:=by rw [BitVec.toNat_ofInt]; omega
 rw [BitVec.toNat_and,e];have h:(BitVec.ofInt 64 x).toNat &&& m≤m:=Nat.and_le_right;rw [show IntKind.i64.wrap (((BitVec.ofInt 64 x).toNat &&& m:Nat):Int)=(((BitVec.ofInt 64 x).toNat &&& m:Nat):Int) from w64_id (by omega) (by omega)];omega
theorem and_255 (x:Int):0≤andI x (255:Int)∧andI x (255:Int)<256:=by
 have:=and_low (x:=x) (m:=255) (by omega);have e:((255:Nat):Int)=(255:Int):=rfl;rw [e] at this;omega
variable {N:Nat}
theorem byte_s {c:Cur} (h:CK c):Ok (Mf N c) fun r=>0≤r.1∧r.1<256∧0≤r.2.1:=by
 unfold Mf;have hl:=h.len;have hn:=h.nn;refine Fa (fun hb=>?_) (fun hb=>?_)
 ·rw [decide_eq_true_eq] at hb;have hy:=h.byt c.i.toNat (by omega);refine Dc ⟨hn,hb⟩ (Dc hy (Fb ?_));have:=and_255 (w64 ((andI (xorI (shrI (w64 ((w64 (c.h*(6364136223846793005:Int)))+(1442695040888963407:Int))) 33) (shrI (w64 ((w64 (c.h*(6364136223846793005:Int)))+(1442695040888963407:Int))) 45)) (255:Int))+(c.b.getD ((c.i).toNat) 0)));refine ⟨this.1,this.2,?_⟩;show 0≤w64 (c.i+1);rw [show w64 (c.i+1)=c.i+1 from w64_id (by omega) (by omega)];omega
 refine Fb ?_;have:=and_255 (xorI (shrI (w64 ((w64 (c.h*(6364136223846793005:Int)))+(1442695040888963407:Int))) 33) (shrI (w64 ((w64 (c.h*(6364136223846793005:Int)))+(1442695040888963407:Int))) 45));exact ⟨this.1,this.2,hn⟩
structure Bel (n:Int) (r:Int×Int×Int):Prop where
 nn:0≤r.1
 lt:0<n→r.1<n
 zero:n≤0→r.1=0
 cur:0≤r.2.1
theorem Jt {c:Cur} (h:CK c) (n:Int):Ok (Cb N c n) (Bel n):=by
 unfold Cb;refine Fa (fun hb=>?_) (fun hb=>?_)
 ·rw [decide_eq_true_eq] at hb;exact Fb ⟨by omega,by omega,by intro; rfl,h.nn⟩
 rw [decide_eq_false_iff_not] at hb;refine Fa (fun hb2=>?_) (fun hb2=>?_)
 ·refine Bz (byte_s h) fun v hv=>?_;obtain ⟨h1,h2,h3⟩:=hv;refine Dc (by omega) (Fb ?_);have e1:=Int.tmod_nonneg n h1;have e2:=Int.tmod_lt_of_pos v.1 (show 0<n by omega);exact ⟨e1,fun _=>e2,by omega,h3⟩
 refine Bz (byte_s h) fun v2 h2=>(Bz (byte_s ⟨h.byt,h.len,h2.2.2⟩) fun v3 h3=>(Bz (byte_s ⟨h.byt,h.len,h3.2.2⟩) fun v4 h4=>(Bz (byte_s ⟨h.byt,h.len,h4.2.2⟩) fun v5 h5=>?_)));obtain ⟨a2,b2,_⟩:=h2;obtain ⟨a3,b3,_⟩:=h3;obtain ⟨a4,b4,_⟩:=h4;obtain ⟨a5,b5,c5⟩:=h5;refine Dc ⟨by omega,by omega⟩ (Dc ⟨by omega,by omega⟩ (Dc ⟨by omega,by omega⟩ (Dc ⟨by omega,by omega⟩ (Dc ⟨by omega,by omega⟩ (Dc ⟨by omega,by omega⟩ (Dc (by omega) (Fb ?_)))))));have e1:=Int.tmod_nonneg (a:=(((v2.1*(16777216:Int))+(v3.1*(65536:Int)))+(v4.1*(256:Int)))+v5.1) n (by omega);have e2:=Int.tmod_lt_of_pos ((((v2.1*(16777216:Int))+(v3.1*(65536:Int)))+(v4.1*(256:Int)))+v5.1) (show 0<n by omega);exact ⟨e1,fun _=>e2,by omega,c5⟩
theorem once_s {c:Cur} (h:CK c) (n:Int):Ok (Su N c n) fun r=>0≤r.2.1:=by
 unfold Su;exact Bz (Jt h n) fun v hv=>Fb hv.cur
theorem new_s (hN:4000000≤N) {l:List Int} (hb:Byt l) (hl:l.length≤1048576):Ok (Tr N l) fun r=>CK r∧r.b=l:=by
 unfold Tr;refine Dc ⟨by omega,by omega⟩ ?_
 have key:∀ (fuel i:Nat) (h:Int),0≤h→h≤1073741823→i≤4000→4001<fuel+i→Ok (La N l (fun h3=>some (⟨l,(0:Int),h3⟩:Cur)) fuel (h,(i:Int))) fun r=>CK r∧r.b=l:=by
  intro fuel
  induction fuel with
  | zero=>intro i h h1 h2 h4 h3; omega
  | succ fuel ih=>
   intro i h h1 h2 h4 h3;rw [La];refine Fa (fun c1=>?_) (fun c1=>Fb ⟨⟨hb,hl,by simp⟩,O⟩);refine Fa (fun c2=>?_) (fun c2=>Fb ⟨⟨hb,hl,by simp⟩,O⟩);rw [decide_eq_true_eq] at c1 c2;have hy:=hb i (by omega);have hi:((i:Int)).toNat=i:=rfl;rw [hi];refine Dc ⟨by omega,by omega⟩ (Dc ⟨by omega,c1⟩ (Dc hy (Dc ⟨by omega,by omega⟩ (Dc ⟨by omega,by omega⟩ (Dc ⟨by omega,by omega⟩ ?_)))));have ha:=and_low (x:=h*(131:Int)+l.getD i 0+(7:Int)) (m:=1073741823) (by omega);have e:((1073741823:Nat):Int)=(1073741823:Int):=rfl;rw [e] at ha;exact ih (i+1) _ ha.1 ha.2 (by omega) (by omega)
 exact key N 0 _ (by omega) (by omega) (by omega) (by omega)
theorem CK.at {c:Cur} (h:CK c) {i x:Int} (hi:0≤i):CK ⟨c.b,i,x⟩:=⟨h.byt,h.len,hi⟩
end
section
variable {N:Nat}
def bitB (m:Int) (j:Nat):Bool:=andI (shrI m (j:Int)) (1:Int)==(1:Int)
def setU (m:Int) (k:Nat):List Int:=((List.range k).filter (bitB m)).map fun (j:Nat)=>(j:Int)
theorem setU_succ (m:Int) (k:Nat):setU m (k+1)=cnd (bitB m k) (setU m k++[(k:Int)]) (setU m k):=by
 unfold setU;rw [List.range_succ,List.filter_append,List.map_append];cases h:bitB m k <;> simp [h,cnd]
theorem setU_len (m:Int) (k:Nat):(setU m k).length≤k:=by
 unfold setU;rw [List.length_map];exact Nat.le_trans (List.length_filter_le _ _) (by simp)
theorem setS_s (hN:4000000≤N) {n m:Int} (hn:n≤1000):Zj N n m=some (setU m n.toNat):=by
 unfold Zj;refine Eq.trans ?_ (fold (N:=N) (len:=n.toNat) (σ:=List Int) (st:=fun i=>setU m i) (F:=fun f s=>Ff N n m (fun l3=>some l3) f (s.1,s.2)) (fin:=some (setU m n.toNat)) (by omega) (fun f i hi=>?_) fun f=>?_)
 ·simp [setU]
 ·show Ff N n m _ (f+1) (setU m i,(i:Int))=Ff N n m _ f (setU m (i+1),((i+1:Nat):Int));have hl:=setU_len m i;rw [Ff,Dk (by omega),Ao (by omega),setU_succ];show cnd (bitB m i) _ _=_
  cases bitB m i with
  | true=>rw [cnd_true,cnd_true,Ao (by omega),Cy (by omega) (by omega),Am]
  | false=>rw [cnd_false,cnd_false,Cy (by omega) (by omega),Am]
 show Ff N n m _ (f+1) (setU m n.toNat,((n.toNat:Nat):Int))=_;rw [Ff,Dx (by omega)]
end
section
open Go.RowKit
variable {N:Nat}
theorem l2CopyD {g:Grf} (h:g.bars.length≤3000000):Gi N g=some g:=by
 unfold Gi;rw [Ao (by omega)]; rfl
structure GD (m:Int) (k:Nat) (g:Grf):Prop where
 len:g.bars.length≤k
 rg:∀ e∈g.bars,0≤e.1∧e.1<m∧0≤e.2∧e.2<m
theorem put_d (hN:4000000≤N) {g:Grf} {m:Int} {k:Nat} (h:GD m k g) (hk:k≤999) {x:Int×Int} (hx:0≤x.1∧x.1<m∧0≤x.2∧x.2<m):Ok (Df N g x) fun r=>GD m (k+1) r∧r.n=g.n:=by
 have hl:=h.len;obtain ⟨L,h1,h2,h3⟩:=put0_s (N:=N) hN (g:=g) (by omega) x;refine ⟨_,h1,⟨by simp only; omega,fun e he=>?_⟩,O⟩;rcases (h3 e).1 he with rfl | h4
 ·exact hx
 exact h.rg e h4
theorem remove_d (hN:4000000≤N) {g:Grf} {m:Int} {k:Nat} (h:GD m k g) (hk:k≤999) (i:Int):Ok (Hz N g i) fun r=>GD m k r.1∧r.1.n=g.n:=by
 have hl:=h.len;unfold Hz;rw [Sl N hN,Option.bind_some]
 have cp:∀ b:Bool,Ok ((Gi N g).bind fun v=>some ((⟨v.n,v.bars⟩:Grf),b)) fun r=>GD m k r.1∧r.1.n=g.n:=fun b=>by
  rw [l2CopyD (by omega)]; exact Fb ⟨h,rfl⟩
 refine Fa (fun _=>cp _) fun _=>Fa (fun _=>cp _) fun a1=>Fa (fun _=>cp _) fun a2=>?_;rw [decide_eq_false_iff_not] at a1 a2;have t1:=List.length_take_le i.toNat g.bars
 have hlen:(((([]:List (Int×Int))++((g.bars.take (i.toNat)).drop 0))++((g.bars.take g.bars.length).drop (((i+(1:Int))).toNat)))).length+1=g.bars.length:=by
  simp only [List.nil_append,List.drop_zero,List.take_length,List.length_append,List.length_take,List.length_drop]; omega
 refine Dc ⟨by omega,by omega⟩ (Dc (by simp only [List.length_drop]; omega) (Dc ⟨by omega,by omega⟩ (Dc ⟨by omega,by omega⟩ (Dc ?_ (Fb ⟨⟨?_,?_⟩,O⟩)))))
 ·rw [←List.length_append]; omega
 ·simp only; omega
 intro e he;refine h.rg e ?_;simp only [List.nil_append,List.drop_zero,List.take_length,List.mem_append] at he;rcases he with he | he
 ·exact List.mem_of_mem_take he
 exact List.mem_of_mem_drop he
theorem add_d (hN:4000000≤N) {g:Grf} {m:Int} {k:Nat} (h:GD m k g) (hk:k≤999) (hm:g.n≤m) (a b:Int):Ok (Wp N g a b) fun r=>GD m (k+1) r.1∧r.1.n=g.n:=by
 have hl:=h.len;unfold Wp;rw [Sl N hN,Option.bind_some]
 have cp:∀ b:Bool,Ok ((Gi N g).bind fun v=>some ((⟨v.n,v.bars⟩:Grf),b)) fun r=>GD m (k+1) r.1∧r.1.n=g.n:=fun b=>by
  rw [l2CopyD (by omega)]; exact Fb ⟨⟨by simp only; omega,h.rg⟩,rfl⟩
 refine Fa (fun _=>cp _) fun _=>Fa (fun _=>cp _) fun a1=>Fa (fun _=>cp _) fun a2=>Fa (fun _=>cp _) fun a3=>Fa (fun _=>cp _) fun a4=>Fa (fun _=>cp _) fun _=>Fa (fun _=>cp _) fun _=>?_;rw [decide_eq_false_iff_not] at a1 a2 a3 a4;refine Bz (put_d hN h hk (x:=(min a b,max a b)) ⟨by simp only; omega,by simp only; omega,by simp only; omega,by simp only; omega⟩) fun r hr=>Fb hr
structure PD (k:Nat) (p:Pin):Prop where
 gd:GD 64 k p.g
 gl:p.ground.length≤3
 n0:0≤p.g.n
 n1:p.g.n≤64
theorem iso_d (hN:4000000≤N) {c:Cur} (hc:CK c) {inner:Int} (hi:0≤inner∧inner≤4):Ok (Jl N c inner) fun r=>PD 40 r.1∧0≤r.2.1:=by
 unfold Jl;refine Bz (Jt hc 2) fun v1 h1=>?_;have b0:=h1.nn;have b1:=h1.lt (by omega)
 have hp:(2:Int) ^ ((2:Int)+v1.1).toNat≤8:=by
  have:((2:Int)+v1.1).toNat=2∨((2:Int)+v1.1).toNat=3:=by omega
  rcases this with e | e <;> rw [e] <;> decide
 have hp0:0≤(2:Int) ^ ((2:Int)+v1.1).toNat:=by
  have:((2:Int)+v1.1).toNat=2∨((2:Int)+v1.1).toNat=3:=by omega
  rcases this with e | e <;> rw [e] <;> decide
 refine Dc ⟨by omega,by omega⟩ (Dc ⟨by omega,by omega⟩ (Dc ⟨by omega,by omega,⟨by omega,by omega⟩⟩ (Dc ⟨by omega,by omega⟩ ?_)));rw [setS_s hN (by omega),Option.bind_some];generalize hgr:setU _ _=gr
 have hgl:gr.length≤3:=by
  have:=setU_len ((1:Int)*2 ^ ((((2:Int)+v1.1)).toNat)-(1:Int)) ((2:Int)+v1.1).toNat;rw [←hgr]; omega
 have key:∀ (fuel:Nat) (l:List (Int×Int)) (v i h n:Int),GD 64 (3*v.toNat) ⟨n,l⟩→0≤n→n≤64→2≤v→v≤8→0≤i→10<fuel+v→Ok (Bb N c inner v1 (fun (x:(List (Int×Int))×Int×Int×Int)=>
   match x with
   | (l148,c149,c150,c151)=>
    some ((⟨⟨c151,l148⟩,gr⟩:Pin),c149,c150)) fuel (l,v,i,h,n)) fun r=>PD 40 r.1∧0≤r.2.1:=by
  intro fuel
  induction fuel with
  | zero=>intro l v i h n h1 h2 h3 h4 h5 h6 h7; omega
  | succ fuel ih=>
   intro l v i h n hg hn0 hn1 hv2 hv8 hi0 hf;rw [Bb]
   have two:∀ (g:Grf) (x y w i h:Int),GD 64 (3*v.toNat) g→0≤g.n→g.n≤64→0≤x∧x<64→0≤w∧w<64→0≤i→v≤7→Ok ((Df N g (x,v)).bind fun v275=>(Df N v275 (w,v)).bind fun v276=>grd (Bc (v+(1:Int))) <| Bb N c inner v1 (fun (x:(List (Int×Int))×Int×Int×Int)=>
     match x with
     | (l148,c149,c150,c151)=>
      some ((⟨⟨c151,l148⟩,gr⟩:Pin),c149,c150)) fuel (v276.bars,(v+(1:Int)),i,h,v276.n)) fun r=>PD 40 r.1∧0≤r.2.1:=by
    intro g x y w i h hg hn0 hn1 hx hw hi hv7;refine Bz (put_d hN hg (by omega) ⟨hx.1,hx.2,by omega,by omega⟩) fun g1 k1=>(Bz (put_d hN k1.1 (by omega) ⟨hw.1,hw.2,by omega,by omega⟩) fun g2 k2=>(Dc ⟨by omega,by omega⟩ (ih _ _ _ _ _ ⟨?_,k2.1.rg⟩ ?_ ?_ (by omega) (by omega) hi (by omega))))
    ·have:=k2.1.len; simp only; omega
    ·rw [k2.2,k1.2]; exact hn0
    rw [k2.2,k1.2]; exact hn1
   have tm:∀ x:Int,0≤x→0≤Int.tmod x v∧Int.tmod x v<64:=fun x hx=>⟨Int.tmod_nonneg v hx,by have:=Int.tmod_lt_of_pos x (show 0<v by omega); omega⟩
   have plain : ∀ (i h : Int), 0 ≤ i → v ≤ 7 → Ok ((Cb N (⟨c.b, i, h⟩ : Cur) v).bind fun v273 =>
        grd (Bc (v273.1+(1:Int))) <|
        grd (Bc (v-(1:Int))) <|
        (Cb N (⟨c.b,v273.2.1,v273.2.2⟩:Cur) (v-(1:Int))).bind fun v274=>
        grd (Bc ((v273.1+(1:Int))+v274.1)) <|
        grd (v≠0) <|
        (Df N (⟨n,l⟩:Grf) (v273.1,v)).bind fun v275=>
        (Df N v275 ((Int.tmod ((v273.1+(1:Int))+v274.1) v),v)).bind fun v276=>
        grd (Bc (v+(1:Int))) <|
        Bb N c inner v1 (fun (x:(List (Int×Int))×Int×Int×Int)=>
   match x with
   | (l148,c149,c150,c151)=>
    some ((⟨⟨c151,l148⟩,gr⟩:Pin),c149,c150)) fuel (v276.bars,(v+(1:Int)),v274.2.1,v274.2.2,v276.n)) fun r=>PD 40 r.1∧0≤r.2.1:=by
    intro i h hi0 hv7;refine Bz (Jt (hc.at hi0) v) fun r hr=>?_;have r0:=hr.nn;have r1:=hr.lt (by omega);refine Dc ⟨by omega,by omega⟩ (Dc ⟨by omega,by omega⟩ (Bz (Jt (hc.at hr.cur) (v-1)) fun s hs=>?_));have s0:=hs.nn;have s1:=hs.lt (by omega);refine Dc ⟨by omega,by omega⟩ (Dc (by omega) ?_);exact two _ _ 0 _ _ _ hg hn0 hn1 ⟨by omega,by omega⟩ (tm _ (by omega)) hs.cur hv7
   refine Fa (fun c1=>?_) (fun c1=>?_)
   ·rw [decide_eq_true_eq] at c1;have hv7:v≤7:=by omega
    refine Fa (fun c2=>?_) (fun c2=>plain _ _ hi0 hv7);refine Bz (once_s (hc.at hi0) 2) fun o ho=>(Fa (fun c3=>?_) (fun c3=>plain _ _ ho hv7));refine ok_jn (R:=fun x=>0≤x.1) (fun x hx=>plain _ _ hx hv7) fun k' hk'=>(Fa (fun c4=>?_) (fun c4=>hk' _ ho));rw [decide_eq_true_eq] at c4;refine Bz (Jt (hc.at ho) (l.length:Int)) fun r hr=>?_;have r0:=hr.nn;have r1:=hr.lt (by omega)
    have hin:l.getD r.1.toNat (0,0)∈l:=by
     rw [List.getD_eq_getElem?_getD,List.getElem?_eq_getElem (show r.1.toNat<l.length by omega)]; exact List.getElem_mem (by omega)
    generalize l.getD r.1.toNat (0,0)=e at hin;obtain ⟨e1,e2,e3,e4⟩:=hg.rg e hin;refine Dc ⟨by omega,by omega⟩ (Dc ⟨by omega,by omega⟩ (Dc ⟨by omega,by omega⟩ (Bz (Jt (hc.at hr.cur) (v-1)) fun s hs=>?_)));have s0:=hs.nn;have s1:=hs.lt (by omega);refine Dc ⟨by omega,by omega⟩ (Dc (by omega) ?_)
    have three : ∀ w : Int, 0 ≤ w ∧ w < 64 → Ok ((Hz N (⟨n, l⟩ : Grf) r.1).bind fun v280 =>
          (Df N v280.1 (e.1,v)).bind fun v281=>
          (Df N v281 (e.2,v)).bind fun v282=>
          (Df N v282 (w,v)).bind fun v283=>
          grd (Bc (v+(1:Int))) <|
          Bb N c inner v1 (fun (x:(List (Int×Int))×Int×Int×Int)=>
   match x with
   | (l148,c149,c150,c151)=>
    some ((⟨⟨c151,l148⟩,gr⟩:Pin),c149,c150)) fuel (v283.bars,(v+(1:Int)),s.2.1,s.2.2,v283.n)) fun r=>PD 40 r.1∧0≤r.2.1:=by
     intro w hw;refine Bz (remove_d hN hg (by omega) r.1) fun g0 k0=>(Bz (put_d hN k0.1 (by omega) ⟨e1,e2,by omega,by omega⟩) fun g1 k1=>(Bz (put_d hN k1.1 (by omega) ⟨e3,e4,by omega,by omega⟩) fun g2 k2=>(Bz (put_d hN k2.1 (by omega) ⟨hw.1,hw.2,by omega,by omega⟩) fun g3 k3=>?_)));have hn:g3.n=n:=by rw [k3.2,k2.2,k1.2,k0.2]
     refine Dc ⟨by omega,by omega⟩ (ih _ _ _ _ _ ⟨?_,k3.1.rg⟩ (by omega) (by omega) (by omega) (by omega) hs.cur (by omega));have:=k3.1.len; simp only; omega
    refine Fa (fun c5=>?_) (fun c5=>?_)
    ·refine Fa (fun c6=>?_) (fun c6=>hk' _ hs.cur);refine Fa (fun c7=>?_) (fun c7=>hk' _ hs.cur);exact three _ (tm _ (by omega))
    refine ok_jn (R:=fun w=>0≤w∧w<64) (fun w hw=>?_) fun k2 hk2=>?_
    ·refine Fa (fun c6=>?_) (fun c6=>hk' _ hs.cur);refine Fa (fun c7=>?_) (fun c7=>hk' _ hs.cur);exact three _ hw
    refine Fa (fun c6=>?_) (fun c6=>?_)
    ·exact hk2 _ (tm _ (by omega))
    exact hk2 _ (tm _ (by omega))
   ·exact Fb ⟨⟨⟨by have:=hg.len; simp only at this ⊢; omega,hg.rg⟩,hgl,hn0,hn1⟩,hi0⟩
 exact key N [] _ _ _ _ ⟨by simp,by simp⟩ (by omega) (by omega) (by omega) (by omega) h1.cur (by omega)
theorem any_d (hN:4000000≤N) {c:Cur} (hc:CK c):Ok (Qu N c) fun r=>PD 41 r.1∧0≤r.2.1:=by
 unfold Qu;refine Bz (Jt hc 4) fun v1 h1=>?_;have b0:=h1.nn;have b1:=h1.lt (by omega);refine Dc ⟨by omega,by omega⟩ (Bz (iso_d hN (hc.at h1.cur) ⟨by omega,by omega⟩) fun v2 h2=>?_);obtain ⟨p2,c2⟩:=h2;refine Bz (Jt (hc.at c2) 8) fun v3 h3=>?_;have wk:GD 64 41 v2.1.g:=⟨by have:=p2.gd.len; omega,p2.gd.rg⟩;refine Fa (fun c1=>?_) (fun c1=>?_)
 ·refine Bz (Jt (hc.at h3.cur) _) fun v4 h4=>?_;refine Bz (remove_d hN p2.gd (by omega) v4.1) fun v5 h5=>Fb ⟨⟨⟨?_,h5.1.rg⟩,p2.gl,?_,?_⟩,h4.cur⟩
  ·have:=h5.1.len; simp only; omega
  ·have:=p2.n0; simp only; rw [h5.2]; exact this
  have:=p2.n1; simp only; rw [h5.2]; exact this
 refine Fa (fun c1=>?_) (fun c1=>?_)
 ·refine Bz (Jt (hc.at h3.cur) _) fun v4 h4=>?_;refine Bz (Jt (hc.at h4.cur) _) fun v5 h5=>(Bz (add_d hN p2.gd (by omega) p2.n1 v4.1 v5.1) fun v6 h6=>Fb ⟨⟨⟨h6.1.len,h6.1.rg⟩,p2.gl,?_,?_⟩,h5.cur⟩)
  ·have:=p2.n0; simp only; rw [h6.2]; exact this
  have:=p2.n1; simp only; rw [h6.2]; exact this
 refine Fa (fun c1=>?_) (fun c1=>Fb ⟨⟨wk,p2.gl,p2.n0,p2.n1⟩,h3.cur⟩);refine Bz (Jt (hc.at h3.cur) 4) fun v4 h4=>?_;have d0:=h4.nn;have d1:=h4.lt (by omega);refine Dc ⟨by omega,by omega⟩ (Bz (Jt (hc.at h4.cur) 9) fun v5 h5=>Fb ⟨⟨wk,by simp,p2.n0,p2.n1⟩,h5.cur⟩)
end
section
open Go.RowKit
variable {n:Nat} {N:Nat}
theorem has_s (hN:4000000≤N) {l:List Int} (hl:l.length≤3000000) (x:Int):L_has N l x=some (l.contains x):=by
 have key:∀ (fuel i:Nat),i≤l.length→l.length<fuel+i→Qw N l x (fun (_:Unit)=>some false) fuel (i:Int)=some ((l.drop i).contains x):=by
  intro fuel
  induction fuel with
  | zero=>intro i h1 h2; omega
  | succ fuel ih=>
   intro i h1 h2;rw [Qw];by_cases hi:i<l.length
   ·have e2:((i:Int)).toNat=i:=rfl
    have ed:l.drop i=l.getD i 0::l.drop (i+1):=by
     rw [List.drop_eq_getElem_cons hi]; simp [List.getD_eq_getElem?_getD,hi]
    rw [Dk (by omega),Ao (by omega),e2,ed,List.contains_cons];by_cases e:l.getD i 0=x
    ·rw [Rb e,e]; simp
    rw [Lz e,Cy (by omega) (by omega),Am,ih (i+1) (by omega) (by omega)];have:(x==l.getD i 0)=false:=by simpa using fun h=>e h.symm
    rw [this,Bool.false_or]
   rw [Dx (by omega),List.drop_eq_nil_of_le (by omega)]; rfl
 have:=key N 0 (by omega) (by omega);simpa [L_has] using this
theorem Xi (hN:4000000≤N) {l:List Int} (hl:l.length≤3000000):Jw N l l=some true:=by
 have key:∀ (fuel i:Nat),i≤l.length→l.length<fuel+i→Hc N l l (fun (_:Unit)=>some true) fuel (i:Int)=some true:=by
  intro fuel
  induction fuel with
  | zero=>intro i h1 h2; omega
  | succ fuel ih=>
   intro i h1 h2;rw [Hc];by_cases hi:i<l.length
   ·rw [Dk (by omega),Ao (by omega),Ao (by omega),Fy rfl,Cy (by omega) (by omega),Am,ih (i+1) (by omega) (by omega)]
   rw [Dx (by omega)]
 unfold Jw;rw [Fy rfl];exact key N 0 (by omega) (by omega)
end
end Go.Proofs.Ytaipbhnpandbkaa
