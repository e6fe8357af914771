/- Texts that the proof needs, put together: G7 G31 G33 G34 G14 G8 G15. -/
import Derived.Test.YtaipbhnpandbkaaBLb3
set_option maxRecDepth 20000
set_option maxHeartbeats 1600000
set_option linter.unusedVariables false
set_option linter.unusedSimpArgs false
namespace Go.Proofs.Ytaipbhnpandbkaa
section
open Go.RowKit
def Gz (N:Nat) (g_0:Grf) (k:Unit→Option (Bool)):Nat→Int→Option (Bool)
 | 0,_=>none
 | n+1,x8=>
  cnd (decide (x8<(g_0.bars.length:Int))) (
   grd (0≤x8∧x8<(g_0.bars.length:Int)) <|
   cnd (decide (((g_0.bars.getD ((x8).toNat) (0,0)).1)<(0:Int))) (
    some false) (
    cnd (decide (((g_0.bars.getD ((x8).toNat) (0,0)).1)≥((g_0.bars.getD ((x8).toNat) (0,0)).2))) (
     some false) (
     cnd (decide (((g_0.bars.getD ((x8).toNat) (0,0)).2)≥g_0.n)) (
      some false) (
      cnd (decide (x8 > (0:Int))) (
       grd (Bc (x8-(1:Int))) <|
       grd (0≤(x8-(1:Int))∧(x8-(1:Int))<(g_0.bars.length:Int)) <|
       (Kp N (g_0.bars.getD (((x8-(1:Int))).toNat) (0,0)) (g_0.bars.getD ((x8).toNat) (0,0))).bind fun v10=>
       cnd (decide (v10 > (0:Int))) (
        some false) (
        grd (Bc (x8+(1:Int))) <|
        Gz N g_0 k n (x8+(1:Int)))) (
       grd (Bc (x8+(1:Int))) <|
       Gz N g_0 k n (x8+(1:Int))))))) (
   k ())
def Sf (N:Nat) (g_0:Grf):Option (Bool):=
 (Sk N g_0.n (1:Int) (8:Int)).bind fun v1=>
 cnd (!v1) (
  some false) (
  cnd (decide ((g_0.bars.length:Int) > (24:Int))) (
   some false) (
   Gz N g_0 (fun (_ : Unit) =>
      some true) N (0:Int)))
theorem I_IsGraph_w (N:Nat) (g_0:Grf) (r:Bool) (h:Sf N g_0=some r):PCall Try.prog 52 [gD g_0] [] (.bool r):=by
 unfold Sf at h;refine Aj (TT:=TT) tt Try.func52 O O Try.ntmps52 (congrArg Array.toList Try.results52) O O fun w0=>(Ai (Ab (Lh O O O O O O O O O (Aa O (Ah (Ai (Ai (Ab (Aa O ?_)))))))));refine Aa O ?_;obtain ⟨v1,hc1,h⟩:=Ag h;refine Ba (Abo N g_0.n (1:Int) (8:Int) v1 hc1) O O O O O O O O ⟨O,O,O,Y⟩ (Aa O (Aa O (Bu O O O (fun hb2=>?_) (fun hb2=>?_))))
 ·replace h:=Ak hb2 h;iterate 4 refine Lv O O O O hb2 O O ?_
  refine Cf O O O O O hb2 O (Ah (Ce O O (Ai (Ab (Aa O (Ah (Az ?_)))))));show ∃ _,_;cases h;exact ⟨[],_,O,Y,O,.eq O,O⟩
 replace h:=Al hb2 h;iterate 4 refine Bt tt O O O O O hb2 O O O Y ?_
 refine Bp O O O O O hb2 O (Ah (Au O (fun hb3=>?_) (fun hb3=>?_)))
 ·replace h:=Ak hb3 h;refine Ai (Ab (Aa O (Ah (Az ?_))));show ∃ _,_;cases h;exact ⟨[],_,O,Y,O,.eq O,O⟩
 replace h:=Al hb3 h;refine As (Ai (Ai (Ab ?_)));iterate 4 refine Aa O ?_
 refine Ah (Cr (F:=fun k=>Gz N g_0 k) h (α:=Unit) (J:=fun (_:Unit)=>(⟨[],[],[]⟩:PS)) ?_ ?_)
 ·rintro ⟨⟩ h;show VC _ _ _ (⟨[],[],[]⟩:PS);refine Ai (Ab (Aa O (Ah (Az ?_))));show ∃ _,_;cases h;exact ⟨[],_,O,Y,O,.eq O,O⟩
 intro k h;refine Aq (Bd (α:=Int) (fun (x8:Int)=>(⟨[(1,.ptr 1 0),(16,.ro false (.pairs g_0.bars)),(17,.int (g_0.bars.length:Int)),(18,.int x8)],[],[(1,some [.int g_0.n,.ro false (.pairs g_0.bars)])]⟩:PS)) (Gz N g_0 k) h (En.of ⟨O,O,O,O,Y⟩ trivial ⟨O,Y⟩) (fun _=>O) ?_);rintro n x8 h;rw [Gz] at h;show VC _ _ _ (⟨[(1,.ptr 1 0),(16,.ro false (.pairs g_0.bars)),(17,.int (g_0.bars.length:Int)),(18,.int x8)],[],[(1,some [.int g_0.n,.ro false (.pairs g_0.bars)])]⟩:PS);refine Ai (Ab (Aa O (Ah (Ai (Au O (fun hb4=>?_) (fun hb4=>?_))))))
 ·replace h:=Ak hb4 h;refine As (Ai (Aq (Ai (Ab (Aa O ?_)))));obtain ⟨hg5,h⟩:=Ac h;refine Ae tt O hg5 (Aa O (Bw tt O O O O O O O O O (Aa O (Ar tt O O O O O O O O O O O ⟨Y,Y,Y⟩ (Ah (Ai (Bs (by kernel_rfl) (by kernel_rfl) ?_)))))));iterate 4 refine Ax tt O (Ad O) O O O Y ?_
  refine Dj O O O (fun hb6=>?_) (fun hb6=>?_)
  ·replace h:=Ak hb6 h;iterate 5 refine Ex O O O O hb6 O O ?_
   refine Ay O (Ad O) O O O hb6 O (Ax tt O (Ad O) O O O Y ?_);iterate 5 refine Ex O O O O O O O ?_
   refine Ay O (Ad O) O O O O O (Ax tt O (Ad O) O O O Y ?_);iterate 3 refine Ex O O O O O O O ?_
   iterate 9 refine cNoU O O O O O ?_
   refine Ex O O O O O O O (Ay O (Ad O) O O O O O (Hq (Ce O O (Ai (Ab (Aa O (Ah (Az ?_))))))));show ∃ _,_;cases h;exact ⟨[],_,O,Y,O,.eq O,O⟩
  replace h:=Al hb6 h;iterate 5 refine Ax tt O (Av O O O O hb6) O O O Y ?_
  refine Ct O (Ad O) O O O hb6 O (Ax tt O (Ad O) O O O Y (Dj O O O (fun hb7=>?_) (fun hb7=>?_)))
  ·replace h:=Ak hb7 h;iterate 5 refine Ex O O O O hb7 O O ?_
   refine Ay O (Ad O) O O O hb7 O (Ax tt O (Ad O) O O O Y ?_);iterate 3 refine Ex O O O O O O O ?_
   iterate 9 refine cNoU O O O O O ?_
   refine Ex O O O O O O O (Ay O (Ad O) O O O O O (Hq (Ce O O (Ai (Ab (Aa O (Ah (Az ?_))))))));show ∃ _,_;cases h;exact ⟨[],_,O,Y,O,.eq O,O⟩
  replace h:=Al hb7 h;iterate 5 refine Ax tt O (Av O O O O hb7) O O O Y ?_
  refine Ct O (Ad O) O O O hb7 O (Ax tt O (Ad O) O O O Y (Dj O O O (fun hb8=>?_) (fun hb8=>?_)))
  ·replace h:=Ak hb8 h;iterate 3 refine Ex O O O O hb8 O O ?_
   iterate 9 refine cNoU O O O O O ?_
   refine Ex O O O O hb8 O O (Ay O (Ad O) O O O hb8 O (Hq (Ce O O (Ai (Ab (Aa O (Ah (Az ?_))))))));show ∃ _,_;cases h;exact ⟨[],_,O,Y,O,.eq O,O⟩
  replace h:=Al hb8 h;iterate 3 refine Ax tt O (Av O O O O hb8) O O O Y ?_
  refine Dj O O O (fun hb9=>?_) (fun hb9=>?_)
  ·replace h:=Ak hb9 h;iterate 3 refine Ax tt O (Av O O O O hb9) O O O Y ?_
   obtain ⟨hg10,h⟩:=Ac h;refine Ax tt O (Av O O O O hb9) O O O hg10 ?_;obtain ⟨hg11,h⟩:=Ac h;refine Ax tt O (Av O O O O hb9) O O O hg11 ?_;iterate 2 refine Ax tt O (Av O O O O hb9) O O O Y ?_
   obtain ⟨v10,hc12,h⟩:=Ag h;refine Hp (Zv N (g_0.bars.getD (((x8-(1:Int))).toNat) (0,0)) (g_0.bars.getD ((x8).toNat) (0,0)) v10 hc12) O (Av O O O O hb9) O O O O O O ⟨⟨O,O,Y⟩,⟨O,O,Y⟩,Y⟩ (Ax tt O (Av O O O O hb9) O O O Y (Ay O (Av O O O O hb8) O O O hb9 O (Ct O (Ad O) O O O hb8 O (Hq (Au O (fun hb13=>?_) (fun hb13=>?_))))))
   ·replace h:=Ak hb13 h;refine Ai (Ab (Aa O (Ah (Az ?_))));show ∃ _,_;cases h;exact ⟨[],_,O,Y,O,.eq O,O⟩
   replace h:=Al hb13 h;refine As (Ab ?_);obtain ⟨hg14,h⟩:=Ac h;refine Ae tt O hg14 (Aa O (Ah ?_));show ∃ _,_;exact ⟨(x8+(1:Int)),(En.of ⟨O,O,O,O,Y⟩ trivial ⟨O,Y⟩),h⟩
  replace h:=Al hb9 h;iterate 9 refine cNoT O O O O hb9 O O ?_
  refine Ct O (Av O O O O hb8) O O O hb9 O (Ct O (Ad O) O O O hb8 O (Hq (Gf O O (As (Ab ?_)))));obtain ⟨hg15,h⟩:=Ac h;refine Ae tt O hg15 (Aa O (Ah ?_));show ∃ _,_;exact ⟨(x8+(1:Int)),(En.of ⟨O,O,O,O,Y⟩ trivial ⟨O,Y⟩),h⟩
 replace h:=Al hb4 h;refine Bn ?_;show ∃ _,_;exact ⟨(),(En.of trivial trivial trivial),h⟩
def Ev (N:Nat) (g_0:Grf) (k:Unit→Option (Bool)):Nat→Int→Option (Bool)
 | 0,_=>none
 | n+1,i3=>
  cnd (decide (i3<(g_0.bars.length:Int))) (
   grd (Bc (i3-(1:Int))) <|
   grd (0≤(i3-(1:Int))∧(i3-(1:Int))<(g_0.bars.length:Int)) <|
   grd (0≤i3∧i3<(g_0.bars.length:Int)) <|
   cnd (((g_0.bars.getD (((i3-(1:Int))).toNat) (0,0)).1==(g_0.bars.getD ((i3).toNat) (0,0)).1)&&((g_0.bars.getD (((i3-(1:Int))).toNat) (0,0)).2==(g_0.bars.getD ((i3).toNat) (0,0)).2)) (
    some true) (
    grd (Bc (i3+(1:Int))) <|
    Ev N g_0 k n (i3+(1:Int)))) (
   k ())
def Ln (N:Nat) (g_0:Grf):Option (Bool):=
 Ev N g_0 (fun (_ : Unit) =>
    some false) N (1:Int)
theorem Aau (N:Nat) (g_0:Grf) (r:Bool) (h:Ln N g_0=some r):PCall Try.prog 53 [gD g_0] [] (.bool r):=by
 unfold Ln at h;refine Aj (TT:=TT) tt Try.func53 O O Try.ntmps53 (congrArg Array.toList Try.results53) O O fun w0=>(Ai (Ab (Lh O O O O O O O O O (Aa O (Ah (Ai (Ai (Ab (Aa O ?_)))))))));refine Ah (Cr (F:=fun k=>Ev N g_0 k) h (α:=Unit) (J:=fun (_:Unit)=>(⟨[],[],[]⟩:PS)) ?_ ?_)
 ·rintro ⟨⟩ h;show VC _ _ _ (⟨[],[],[]⟩:PS);refine Ai (Ab (Aa O (Ah (Az ?_))));show ∃ _,_;cases h;exact ⟨[],_,O,Y,O,.eq O,O⟩
 intro k h;refine Aq (Bd (α:=Int) (fun (i3:Int)=>(⟨[(1,.ptr 1 0),(3,.int i3)],[],[(1,some [.int g_0.n,.ro false (.pairs g_0.bars)])]⟩:PS)) (Ev N g_0 k) h (En.of ⟨O,O,Y⟩ trivial ⟨O,Y⟩) (fun _=>O) ?_);rintro n i3 h;rw [Ev] at h;show VC _ _ _ (⟨[(1,.ptr 1 0),(3,.int i3)],[],[(1,some [.int g_0.n,.ro false (.pairs g_0.bars)])]⟩:PS);refine Ai (Ai (Ab ?_));iterate 5 refine Aa O ?_
 refine Ah (Au O (fun hb1=>?_) (fun hb1=>?_))
 ·replace h:=Ak hb1 h;refine As (Ai (Aq (Ai (Bs (by kernel_rfl) (by kernel_rfl) ?_))));iterate 3 refine Ax tt O (Ad O) O O O Y ?_
  obtain ⟨hg2,h⟩:=Ac h;refine Ax tt O (Ad O) O O O hg2 ?_;obtain ⟨hg3,h⟩:=Ac h;refine Ax tt O (Ad O) O O O hg3 ?_;iterate 4 refine Ax tt O (Ad O) O O O Y ?_
  obtain ⟨hg4,h⟩:=Ac h;refine Ax tt O (Ad O) O O O hg4 (Ax tt O (Ad O) O O O Y (Rq (Ad O) (pEqP Xx O O O) O O (Hq (Au O (fun hb5=>?_) (fun hb5=>?_)))))
  ·replace h:=Ak hb5 h;refine Ai (Ab (Aa O (Ah (Az ?_))));show ∃ _,_;cases h;exact ⟨[],_,O,Y,O,.eq O,O⟩
  replace h:=Al hb5 h;refine As (Ab (Aa O ?_));obtain ⟨hg6,h⟩:=Ac h;refine Ae tt O hg6 (Aa O (Ah ?_));show ∃ _,_;exact ⟨(i3+(1:Int)),(En.of ⟨O,O,Y⟩ trivial ⟨O,Y⟩),h⟩
 replace h:=Al hb1 h;refine Bn ?_;show ∃ _,_;exact ⟨(),(En.of trivial trivial trivial),h⟩
def Sj (N:Nat) (x_0:Int×Int) (v_1:Int):Option (Bool):=
 cnd (x_0.1==v_1) (
  some true) (
  some (x_0.2==v_1))
theorem M_Bar_has_w (N:Nat) (x_0:Int×Int) (v_1:Int) (r:Bool) (h:Sj N x_0 v_1=some r):PCall Try.prog 37 [.agg [.int x_0.1,.int x_0.2],.int v_1] [] (.bool r):=by
 unfold Sj at h;refine Aj (TT:=TT) tt Try.func37 O O Try.ntmps37 (congrArg Array.toList Try.results37) O O fun w0=>(Ai (Ab (Lh O O O O O O O O O (Aa O (Ah (Ai (Ab ?_)))))));iterate 5 refine Aa O ?_
 refine Bu O O O (fun hb1=>?_) (fun hb1=>?_)
 ·replace h:=Ak hb1 h;iterate 4 refine Lv O O O O hb1 O O ?_
  refine Cf O O O O O hb1 O (Aa O (Ah (Az ?_)));show ∃ _,_;cases h;exact ⟨[],_,O,Y,O,.eq O,O⟩
 replace h:=Al hb1 h;iterate 4 refine Bt tt O O O O O hb1 O O O Y ?_
 refine Bp O O O O O hb1 O (Aa O (Ah (Az ?_)));show ∃ _,_;cases h;exact ⟨[],_,O,Y,O,.eq O,O⟩
def Hu (N:Nat) (x_0:Int×Int) (v_1:Int):Option (Int):=
 cnd (x_0.1==v_1) (
  some x_0.2) (
  some x_0.1)
theorem We (N:Nat) (x_0:Int×Int) (v_1:Int) (r:Int) (h:Hu N x_0 v_1=some r):PCall Try.prog 49 [.agg [.int x_0.1,.int x_0.2],.int v_1] [] (.int r):=by
 unfold Hu at h;refine Aj (TT:=TT) tt Try.func49 O O Try.ntmps49 (congrArg Array.toList Try.results49) O O fun w0=>(Ai (Ab (Lh O O O O O O O O O (Aa O (Ah (Ai (Ai (Ab ?_))))))));iterate 4 refine Aa O ?_
 refine Ah (Au O (fun hb1=>?_) (fun hb1=>?_))
 ·replace h:=Ak hb1 h;refine Ai (Ab (Aa O (Aa O (Aa O (Ah (Az ?_))))));show ∃ _,_;cases h;exact ⟨[],_,O,Y,O,.eq O,O⟩
 replace h:=Al hb1 h;refine As (Ai (Ab (Aa O (Aa O (Aa O (Ah (Az ?_)))))));show ∃ _,_;cases h;exact ⟨[],_,O,Y,O,.eq O,O⟩
end
section
open Go.RowKit
def Ki (N:Nat) (p_0:Pbl):Option (Pbl):=
 (Ld N p_0.free).bind fun v1=>
 (Ld N p_0.tails).bind fun v2=>
 (Ld N p_0.placed).bind fun v3=>
 some (⟨v1,v2,v3⟩:Pbl)
theorem Ys (N:Nat) (p_0:Pbl) (r:Pbl) (h:Ki N p_0=some r):PCall Try.prog 78 [bD p_0] [(3,.ints r.free),(3,.ints r.tails),(3,.ints r.placed)] (.agg [.row 0 0 r.free.length,.row 1 0 r.tails.length,.row 2 0 r.placed.length]):=by
 unfold Ki at h;refine Aj (TT:=TT) tt Try.func78 O O Try.ntmps78 (congrArg Array.toList Try.results78) O O fun w0=>(Ai (Ab (Lh O O O O O O O O O (Bw tt O O O O O O O O O (Ah (Ai (Bi 8 [2,5] [0,1,3,0,8,31,0,64,255,511,1023] (by kernel_rfl) (by kernel_rfl) (by kernel_rfl) (by kernel_rfl) (by kernel_rfl) O (by rfl) ?_)))))));iterate 2 refine Br tt O (Ad O) O O O O O Y ?_
 obtain ⟨v1,hc1,h⟩:=Ag h;refine Lk (Sg N p_0.free v1 hc1) rfl (Ad rfl) rfl rfl rfl rfl rfl rfl (by first | rfl | kernel_rfl | (simp [nrL,nm,Fc,nmT,Gu]; done)) rfl (by first | rfl | kernel_rfl | (simp [Kr,nrL,nm,Fc,nmT,Gu,hid,Gk,Dh,Ca]; done) | (simp [Kr,nrL,nm,Fc,nmT,Gu,hid,Gk,Dh,Ca]; decide)) ⟨rfl,Y⟩ ?_;iterate 2 refine Br tt O (Ad O) O O O O O Y ?_
 obtain ⟨v2,hc2,h⟩:=Ag h;refine Lk (Sg N p_0.tails v2 hc2) rfl (Ad rfl) rfl rfl rfl rfl rfl rfl (by first | rfl | kernel_rfl | (simp [nrL,nm,Fc,nmT,Gu]; done)) rfl (by first | rfl | kernel_rfl | (simp [Kr,nrL,nm,Fc,nmT,Gu,hid,Gk,Dh,Ca]; done) | (simp [Kr,nrL,nm,Fc,nmT,Gu,hid,Gk,Dh,Ca]; decide)) ⟨rfl,Y⟩ ?_;iterate 2 refine Br tt O (Ad O) O O O O O Y ?_
 refine Pm ?_;show VO _ _ _ _ _;obtain ⟨v3,hc3,h⟩:=Ag h;refine Ba (Sg N p_0.placed v3 hc3) O O O O O O O O ⟨O,Y⟩ (Km (Ad O) (Ez Fh O O) O O (Ar tt O O O O O O O O O O O ⟨Y,Y,Y,Y⟩ (Ah (Az ?_))));show ∃ _,_;cases h;exact ⟨[1050,1080,1110],_,O,⟨O,O,O,Y⟩,O,.eq O,O⟩
end
section
open Go.RowKit
def Jq (N:Nat) (p_1:Pbl) (a_2:Int) (from298:List (Int×Int)) (x299:Int) (v307:Int) (k:(List Int)→Option (Bool×(List Int)×(List Int)×(List Int))):Nat→((List Int)×Int)→Option (Bool×(List Int)×(List Int)×(List Int))
 | 0,_=>none
 | n+1,(l312,at313)=>
  cnd (at313 != a_2) (
   grd (0≤(Yy (Wc from298 v307 x299) at313)∧(Yy (Wc from298 v307 x299) at313)<(p_1.tails.length:Int)) <|
   grd (0≤(Yy (Wc from298 v307 x299) at313)∧(Yy (Wc from298 v307 x299) at313)<(l312.length:Int)) <|
   Jq N p_1 a_2 from298 x299 v307 k n ((l312.set (((Yy (Wc from298 v307 x299) at313)).toNat) at313),(l312.getD (((Yy (Wc from298 v307 x299) at313)).toNat) 0))) (
   k l312)
def Et (N:Nat) (bars_0:List (Int×Int)) (p_1:Pbl) (a_2:Int) (b_3:Int) (i211:Int) (k:((List Int)×(List (Int×Int)))→Option (Bool×(List Int)×(List Int)×(List Int))):Nat→((List Int)×(List (Int×Int))×Int)→Option (Bool×(List Int)×(List Int)×(List Int))
 | 0,_=>none
 | n+1,(l297,from298,x299)=>
  cnd (decide (x299<(p_1.placed.length:Int))) (
   grd (0≤x299∧x299<(p_1.placed.length:Int)) <|
   grd (0≤x299∧x299<(p_1.tails.length:Int)) <|
   grd (0≤i211∧i211<(l297.length:Int)) <|
   cnd ((p_1.tails.getD ((x299).toNat) 0) != (l297.getD ((i211).toNat) 0)) (
    grd (Bc (x299+(1:Int))) <|
    Et N bars_0 p_1 a_2 b_3 i211 k n (l297,from298,(x299+(1:Int)))) (
    grd (0≤(p_1.placed.getD ((x299).toNat) 0)∧(p_1.placed.getD ((x299).toNat) 0)<(bars_0.length:Int)) <|
    (Hu N (bars_0.getD (((p_1.placed.getD ((x299).toNat) 0)).toNat) (0,0)) (l297.getD ((i211).toNat) 0)).bind fun v307=>
    cnd (Aav from298 v307) (
     grd (Bc (x299+(1:Int))) <|
     Et N bars_0 p_1 a_2 b_3 i211 k n (l297,from298,(x299+(1:Int)))) (
     cnd (v307==b_3) (
      grd (l297.length+1≤4294967296) <|
      grd (Bc (x299+(1:Int))) <|
      Et N bars_0 p_1 a_2 b_3 i211 k n ((l297++([v307]:List Int)),(Wc from298 v307 x299),(x299+(1:Int)))) (
      grd (0≤v307∧v307<(p_1.free.length:Int)) <|
      cnd ((p_1.free.getD ((v307).toNat) 0)==(0:Int)) (
       grd (l297.length+1≤4294967296) <|
       grd (Bc (x299+(1:Int))) <|
       Et N bars_0 p_1 a_2 b_3 i211 k n ((l297++([v307]:List Int)),(Wc from298 v307 x299),(x299+(1:Int)))) (
       grd (Bc ((p_1.free.getD ((v307).toNat) 0)-(1:Int))) <|
       grd (0≤a_2∧a_2<(p_1.free.length:Int)) <|
       grd (0≤a_2∧a_2<((p_1.free.set ((v307).toNat) ((p_1.free.getD ((v307).toNat) 0)-(1:Int))).length:Int)) <|
       grd (Bc (((p_1.free.set ((v307).toNat) ((p_1.free.getD ((v307).toNat) 0)-(1:Int))).getD ((a_2).toNat) 0)+(1:Int))) <|
       Jq N p_1 a_2 from298 x299 v307 (fun (l310 : List Int) =>
          grd (p_1.free.length=((p_1.free.set ((v307).toNat) ((p_1.free.getD ((v307).toNat) 0)-(1:Int))).set ((a_2).toNat) (((p_1.free.set ((v307).toNat) ((p_1.free.getD ((v307).toNat) 0)-(1:Int))).getD ((a_2).toNat) 0)+(1:Int))).length) <|
          grd (p_1.tails.length=l310.length) <|
          some (true,((p_1.free.set ((v307).toNat) ((p_1.free.getD ((v307).toNat) 0)-(1:Int))).set ((a_2).toNat) (((p_1.free.set ((v307).toNat) ((p_1.free.getD ((v307).toNat) 0)-(1:Int))).getD ((a_2).toNat) 0)+(1:Int))),l310,p_1.placed)) N (p_1.tails,v307)))))) (
   k (l297,from298))
def Ds (N:Nat) (bars_0:List (Int×Int)) (p_1:Pbl) (a_2:Int) (b_3:Int) (k:Unit→Option (Bool×(List Int)×(List Int)×(List Int))):Nat→((List Int)×(List (Int×Int))×Int)→Option (Bool×(List Int)×(List Int)×(List Int))
 | 0,_=>none
 | n+1,(l209,from210,i211)=>
  cnd (decide (i211<(l209.length:Int))) (
   Et N bars_0 p_1 a_2 b_3 i211 (fun (x:(List Int)×(List (Int×Int)))=>
     match x with
     | (l287,from288)=>
      grd (Bc (i211+(1:Int))) <|
      Ds N bars_0 p_1 a_2 b_3 k n (l287,from288,(i211+(1:Int)))) N (l209,from210,(0:Int))) (
   k ())
def Rh (N:Nat) (bars_0:List (Int×Int)) (p_1:Pbl) (a_2:Int) (b_3:Int):Option (Bool×(List Int)×(List Int)×(List Int)):=
 Ds N bars_0 p_1 a_2 b_3 (fun (_ : Unit) =>
    some (false,p_1.free,p_1.tails,p_1.placed)) N (([a_2]:List Int),(Wc ([]:List (Int×Int)) a_2 (-1:Int)),(0:Int))
theorem Abu (N:Nat) (bars_0:List (Int×Int)) (p_1:Pbl) (a_2:Int) (b_3:Int) (r:Bool×(List Int)×(List Int)×(List Int)) (h:Rh N bars_0 p_1 a_2 b_3=some r):MCall Try.prog 83 [.ro false (.pairs bars_0),.ptr 1000001 0,.int a_2,.int b_3] [900010,900011,900012] [1000001] [(3,.ints p_1.free),(3,.ints p_1.tails),(3,.ints p_1.placed)] [(3,.ints r.2.1),(3,.ints r.2.2.1),(3,.ints r.2.2.2)] [[.row 900010 0 p_1.free.length,.row 900011 0 p_1.tails.length,.row 900012 0 p_1.placed.length]] [[.row 900010 0 r.2.1.length,.row 900011 0 r.2.2.1.length,.row 900012 0 r.2.2.2.length]] (.bool r.1):=by
 unfold Rh at h;refine Gd (TT:=TT) tt Try.func83 rfl rfl Try.ntmps83 (congrArg Array.toList Try.results83) rfl rfl rfl rfl rfl fun w0 O0=>(Ai (Ab (Aa rfl (Ah (Ai (Ab (oMakeMap rfl rfl rfl rfl fun mk2 hmk2=>(Aa rfl (oMapSet tt hmk2 rfl (by first | exact .inl rfl | exact .inr rfl) rfl rfl rfl rfl rfl rfl ?_)))))))));repeat (first | refine mapC_nil ?_ | refine mapC_hit ?_ | refine mapC_same rfl ?_ | refine mapC_dead ?_)
 show VO _ _ _ _ _;refine Aa O (Aa O (Ah (Ai (Ab (Aa O (Ep tt O O O O O O O O O O O (Aa O (Ah (Ai ?_)))))))));refine Ai (Ab (Aa O (Ah (Cr (F:=fun k=>Ds N bars_0 p_1 a_2 b_3 k) h (α:=Unit) (J:=fun (_:Unit)=>(⟨[],[(900010,some (3,.ints p_1.free)),(900011,some (3,.ints p_1.tails)),(900012,some (3,.ints p_1.placed))],[(1000001,some [.row 900010 0 p_1.free.length,.row 900011 0 p_1.tails.length,.row 900012 0 p_1.placed.length])]⟩:PS)) ?_ ?_))))
 ·rintro ⟨⟩ h;show VC _ _ _ (⟨[],[(900010,some (3,.ints p_1.free)),(900011,some (3,.ints p_1.tails)),(900012,some (3,.ints p_1.placed))],[(1000001,some [.row 900010 0 p_1.free.length,.row 900011 0 p_1.tails.length,.row 900012 0 p_1.placed.length])]⟩:PS);refine Ai (Ab (Aa O (Ah (Az ?_))));show ∃ _,_;cases h;exact ⟨[900010,900011,900012],O,⟨O,O,O,Y⟩,⟨O,Y⟩,O⟩
 intro k h;refine Aq (Bd (α:=(List Int)×(List (Int×Int))×Int) (fun | (l209,from210,i211)=>(⟨[(0,.ro false (.pairs bars_0)),(1,.ptr 1000001 0),(2,.int a_2),(3,.int b_3),(9,.map mk2 from210),(10,.row 24 0 l209.length),(11,.int i211)],[(24,some (3,.ints l209)),(900010,some (3,.ints p_1.free)),(900011,some (3,.ints p_1.tails)),(900012,some (3,.ints p_1.placed))],[(1000001,some [.row 900010 0 p_1.free.length,.row 900011 0 p_1.tails.length,.row 900012 0 p_1.placed.length])]⟩:PS)) (Ds N bars_0 p_1 a_2 b_3 k) h (En.of ⟨rfl,rfl,rfl,rfl,rfl,rfl,rfl,Y⟩ ⟨rfl,rfl,rfl,rfl,Y⟩ ⟨rfl,Y⟩) (fun _=>rfl) ?_);rintro n ⟨l209,from210,i211⟩ h;rw [Ds] at h;show VC _ _ _ (⟨[(0,.ro false (.pairs bars_0)),(1,.ptr 1000001 0),(2,.int a_2),(3,.int b_3),(9,.map mk2 from210),(10,.row 24 0 l209.length),(11,.int i211)],[(24,some (3,.ints l209)),(900010,some (3,.ints p_1.free)),(900011,some (3,.ints p_1.tails)),(900012,some (3,.ints p_1.placed))],[(1000001,some [.row 900010 0 p_1.free.length,.row 900011 0 p_1.tails.length,.row 900012 0 p_1.placed.length])]⟩:PS);refine Ai (Ai (Ab ?_));iterate 4 refine Aa O ?_
 refine Ah (Au O (fun hb2=>?_) (fun hb2=>?_))
 ·replace h:=Ak hb2 h;refine As (Ai (Aq (Ai (Ab ?_))));iterate 6 refine Aa O ?_
  refine Ah (Cr (F:=fun k=>Et N bars_0 p_1 a_2 b_3 i211 k) h (α:=(List Int)×(List (Int×Int))) (J:=fun | (l287,from288)=>(⟨[(0,.ro false (.pairs bars_0)),(1,.ptr 1000001 0),(2,.int a_2),(3,.int b_3),(9,.map mk2 from288),(10,.row 24 0 l287.length),(11,.int i211)],[(24,some (3,.ints l287)),(900010,some (3,.ints p_1.free)),(900011,some (3,.ints p_1.tails)),(900012,some (3,.ints p_1.placed))],[(1000001,some [.row 900010 0 p_1.free.length,.row 900011 0 p_1.tails.length,.row 900012 0 p_1.placed.length])]⟩:PS)) ?_ ?_)
  ·rintro ⟨l287,from288⟩ h;show VC _ _ _ (⟨[(0,.ro false (.pairs bars_0)),(1,.ptr 1000001 0),(2,.int a_2),(3,.int b_3),(9,.map mk2 from288),(10,.row 24 0 l287.length),(11,.int i211)],[(24,some (3,.ints l287)),(900010,some (3,.ints p_1.free)),(900011,some (3,.ints p_1.tails)),(900012,some (3,.ints p_1.placed))],[(1000001,some [.row 900010 0 p_1.free.length,.row 900011 0 p_1.tails.length,.row 900012 0 p_1.placed.length])]⟩:PS);refine Ab (Aa O ?_);obtain ⟨hg3,h⟩:=Ac h;refine Ae tt O hg3 (Aa O (Ah ?_));show ∃ _,_;exact ⟨(l287,from288,(i211+(1:Int))),(En.of ⟨O,O,O,O,O,O,O,Y⟩ ⟨O,O,O,O,Y⟩ ⟨O,Y⟩),h⟩
  intro k h;refine Aq (Bd (α:=(List Int)×(List (Int×Int))×Int) (fun | (l297,from298,x299)=>(⟨[(0,.ro false (.pairs bars_0)),(1,.ptr 1000001 0),(2,.int a_2),(3,.int b_3),(9,.map mk2 from298),(10,.row 24 0 l297.length),(11,.int i211),(34,.row 900012 0 p_1.placed.length),(35,.int (p_1.placed.length:Int)),(36,.int x299)],[(24,some (3,.ints l297)),(900012,some (3,.ints p_1.placed)),(900010,some (3,.ints p_1.free)),(900011,some (3,.ints p_1.tails))],[(1000001,some [.row 900010 0 p_1.free.length,.row 900011 0 p_1.tails.length,.row 900012 0 p_1.placed.length])]⟩:PS)) (Et N bars_0 p_1 a_2 b_3 i211 k) h (En.of ⟨rfl,rfl,rfl,rfl,rfl,rfl,rfl,rfl,rfl,rfl,Y⟩ ⟨rfl,rfl,rfl,rfl,Y⟩ ⟨rfl,Y⟩) (fun _=>rfl) ?_);rintro n ⟨l297,from298,x299⟩ h;rw [Et] at h;show VC _ _ _ (⟨[(0,.ro false (.pairs bars_0)),(1,.ptr 1000001 0),(2,.int a_2),(3,.int b_3),(9,.map mk2 from298),(10,.row 24 0 l297.length),(11,.int i211),(34,.row 900012 0 p_1.placed.length),(35,.int (p_1.placed.length:Int)),(36,.int x299)],[(24,some (3,.ints l297)),(900012,some (3,.ints p_1.placed)),(900010,some (3,.ints p_1.free)),(900011,some (3,.ints p_1.tails))],[(1000001,some [.row 900010 0 p_1.free.length,.row 900011 0 p_1.tails.length,.row 900012 0 p_1.placed.length])]⟩:PS);refine Ai (Ab (Aa O (Ah (Ai (Au O (fun hb4=>?_) (fun hb4=>?_))))))
  ·replace h:=Ak hb4 h;refine As (Ai (Aq (Ai (Ab (Aa O ?_)))));obtain ⟨hg5,h⟩:=Ac h;refine Ae tt O hg5 (Ae tt O hg5 (Aa O (Aa O (Ah (Ai (Ai (Bs (by kernel_rfl) (by kernel_rfl) ?_)))))));iterate 5 refine Ax tt O (Ad O) O O O Y ?_
   obtain ⟨hg6,h⟩:=Ac h;iterate 2 refine Ax tt O (Ad O) O O O hg6 ?_
   iterate 2 refine Ax tt O (Ad O) O O O Y ?_
   obtain ⟨hg7,h⟩:=Ac h;iterate 2 refine Ax tt O (Ad O) O O O hg7 ?_
   refine Ax tt O (Ad O) O O O Y (Hq (Au O (fun hb8=>?_) (fun hb8=>?_)))
   ·replace h:=Ak hb8 h;refine Bn (Ab ?_);obtain ⟨hg9,h⟩:=Ac h;refine Ae tt O hg9 (Aa O (Ah ?_));show ∃ _,_;exact ⟨(l297,from298,(x299+(1:Int))),(En.of ⟨O,O,O,O,O,O,O,O,O,O,Y⟩ ⟨O,O,O,O,Y⟩ ⟨O,Y⟩),h⟩
   replace h:=Al hb8 h;refine As (Ai (Bs (by kernel_rfl) (by kernel_rfl) ?_));iterate 2 refine Ax tt O (Ad O) O O O Y ?_
   obtain ⟨hg10,h⟩:=Ac h;refine Ax tt O (Ad O) O O O hg10 ?_;iterate 3 refine Ax tt O (Ad O) O O O Y ?_
   iterate 2 refine Ax tt O (Ad O) O O O hg7 ?_
   obtain ⟨v307,hc11,h⟩:=Ag h;refine Hp (We N (bars_0.getD (((p_1.placed.getD ((x299).toNat) 0)).toNat) (0,0)) (l297.getD ((i211).toNat) 0) v307 hc11) O (Ad O) O O O O O O ⟨⟨O,O,Y⟩,O,Y⟩ (Ax tt O (Ad O) O O O Y (Hq (Ai (Ai (Ab ?_)))));iterate 8 refine Aa O ?_
   refine Ah (Ai (Ab (Aa O (Ah (Au O (fun hb12=>?_) (fun hb12=>?_))))))
   ·replace h:=Ak hb12 h;refine Bn (Ab ?_);obtain ⟨hg13,h⟩:=Ac h;refine Ae tt O hg13 (Aa O (Ah ?_));show ∃ _,_;exact ⟨(l297,from298,(x299+(1:Int))),(En.of ⟨O,O,O,O,O,O,O,O,O,O,Y⟩ ⟨O,O,O,O,Y⟩ ⟨O,Y⟩),h⟩
   replace h:=Al hb12 h;refine As (Ai (Ab (Aa rfl (Aa rfl (Aa rfl (oMapSet tt hmk2 rfl (by first | exact .inl rfl | exact .inr rfl) rfl rfl rfl rfl rfl rfl ?_))))));repeat (first | refine mapC_nil ?_ | refine mapC_hit ?_ | refine mapC_same rfl ?_ | refine mapC_dead ?_)
   show VO _ _ _ _ _;refine Ah (Ai (Ai (Ab ?_)));iterate 4 refine Aa O ?_
   refine Bu O O O (fun hb14=>?_) (fun hb14=>?_)
   ·replace h:=Ak hb14 h;iterate 8 refine Lv O O O O hb14 O O ?_
    refine Cf O O O O O hb14 O (Ah (Ce O O (Ai (Ab (Aa O (Aa O (Ep tt O O O O O O O O O O O ?_)))))));obtain ⟨hg15,h⟩:=Ac h;refine Da tt O O O O O O O O O O O O O O O O (Nat.le_of_eq (Nat.zero_add _)) hg15 (Aa O (Ah (Bn (Ab ?_))));obtain ⟨hg16,h⟩:=Ac h;refine Ae tt O hg16 (Aa O (Ah ?_));show ∃ _,_;exact ⟨((l297++([v307]:List Int)),(Wc from298 v307 x299),(x299+(1:Int))),(En.of ⟨O,O,O,O,O,O,O,O,O,O,Y⟩ ⟨O,O,O,O,Y⟩ ⟨O,Y⟩),h⟩
   replace h:=Al hb14 h;iterate 5 refine Bt tt O O O O O hb14 O O O Y ?_
   obtain ⟨hg17,h⟩:=Ac h;iterate 2 refine Bt tt O O O O O hb14 O O O hg17 ?_
   refine Bt tt O O O O O hb14 O O O Y (Bp O O O O O hb14 O (Ah (Au O (fun hb18=>?_) (fun hb18=>?_))))
   ·replace h:=Ak hb18 h;refine Ai (Ab (Aa O (Aa O (Ep tt O O O O O O O O O O O ?_))));obtain ⟨hg19,h⟩:=Ac h;refine Da tt O O O O O O O O O O O O O O O O (Nat.le_of_eq (Nat.zero_add _)) hg19 (Aa O (Ah (Bn (Ab ?_))));obtain ⟨hg20,h⟩:=Ac h;refine Ae tt O hg20 (Aa O (Ah ?_));show ∃ _,_;exact ⟨((l297++([v307]:List Int)),(Wc from298 v307 x299),(x299+(1:Int))),(En.of ⟨O,O,O,O,O,O,O,O,O,O,Y⟩ ⟨O,O,O,O,Y⟩ ⟨O,Y⟩),h⟩
   replace h:=Al hb18 h;refine As (Ai (Ab ?_));iterate 5 refine Aa O ?_
   refine Ae tt O hg17 (Ae tt O hg17 ?_);obtain ⟨hg21,h⟩:=Ac h;refine Ae tt O hg21 (Ae tt O hg17 (Ar tt O O O O O O O O O O ⟨_,_,O,hg17.1,hg17.2⟩ ⟨hg17,Y⟩ (Ah (Ai (Ab ?_)))));iterate 5 refine Aa O ?_
   obtain ⟨hg22,h⟩:=Ac h;refine Ae tt O hg22 ?_;obtain ⟨hg23,h⟩:=Ac h;refine Ae tt O hg23 ?_;obtain ⟨hg24,h⟩:=Ac h;refine Ae tt O hg24 (Ae tt O hg22 (Ar tt O O O O O O O O O O ⟨_,_,O,hg23.1,hg23.2⟩ ⟨hg23,Y⟩ (Ah (Ai (Ai (Ab (Aa O (Aa O (Ah ?_)))))))));refine Cr (F:=fun k=>Jq N p_1 a_2 from298 x299 v307 k) h (α:=List Int) (J:=fun (l310:List Int)=>(⟨[],[(900010,some (3,.ints ((p_1.free.set ((v307).toNat) ((p_1.free.getD ((v307).toNat) 0)-(1:Int))).set ((a_2).toNat) (((p_1.free.set ((v307).toNat) ((p_1.free.getD ((v307).toNat) 0)-(1:Int))).getD ((a_2).toNat) 0)+(1:Int))))),(900011,some (3,.ints l310)),(900012,some (3,.ints p_1.placed))],[(1000001,some [.row 900010 0 p_1.free.length,.row 900011 0 p_1.tails.length,.row 900012 0 p_1.placed.length])]⟩:PS)) ?_ ?_
   ·rintro l310 h;show VC _ _ _ (⟨[],[(900010,some (3,.ints ((p_1.free.set ((v307).toNat) ((p_1.free.getD ((v307).toNat) 0)-(1:Int))).set ((a_2).toNat) (((p_1.free.set ((v307).toNat) ((p_1.free.getD ((v307).toNat) 0)-(1:Int))).getD ((a_2).toNat) 0)+(1:Int))))),(900011,some (3,.ints l310)),(900012,some (3,.ints p_1.placed))],[(1000001,some [.row 900010 0 p_1.free.length,.row 900011 0 p_1.tails.length,.row 900012 0 p_1.placed.length])]⟩:PS);refine Ai (Ab (Aa O (Ah ?_)));show VC ..;obtain ⟨hg25,h⟩:=Ac h;refine vRowB 1000001 0 900010 O O hg25 O ?_;obtain ⟨hg26,h⟩:=Ac h;refine vRowB 1000001 1 900011 O O hg26 O (Az ?_);show ∃ _,_;cases h;exact ⟨[900010,900011,900012],O,⟨O,O,O,Y⟩,⟨O,Y⟩,O⟩
   intro k h;refine Aq (Bd (α:=(List Int)×Int) (fun | (l312,at313)=>(⟨[(1,.ptr 1000001 0),(2,.int a_2),(9,.map mk2 (Wc from298 v307 x299)),(17,.int at313)],[(900010,some (3,.ints ((p_1.free.set ((v307).toNat) ((p_1.free.getD ((v307).toNat) 0)-(1:Int))).set ((a_2).toNat) (((p_1.free.set ((v307).toNat) ((p_1.free.getD ((v307).toNat) 0)-(1:Int))).getD ((a_2).toNat) 0)+(1:Int))))),(900011,some (3,.ints l312)),(900012,some (3,.ints p_1.placed))],[(1000001,some [.row 900010 0 p_1.free.length,.row 900011 0 p_1.tails.length,.row 900012 0 p_1.placed.length])]⟩:PS)) (Jq N p_1 a_2 from298 x299 v307 k) h (En.of ⟨rfl,rfl,rfl,rfl,Y⟩ ⟨rfl,rfl,rfl,Y⟩ ⟨rfl,Y⟩) (fun _=>rfl) ?_);rintro n ⟨l312,at313⟩ h;rw [Jq] at h;show VC _ _ _ (⟨[(1,.ptr 1000001 0),(2,.int a_2),(9,.map mk2 (Wc from298 v307 x299)),(17,.int at313)],[(900010,some (3,.ints ((p_1.free.set ((v307).toNat) ((p_1.free.getD ((v307).toNat) 0)-(1:Int))).set ((a_2).toNat) (((p_1.free.set ((v307).toNat) ((p_1.free.getD ((v307).toNat) 0)-(1:Int))).getD ((a_2).toNat) 0)+(1:Int))))),(900011,some (3,.ints l312)),(900012,some (3,.ints p_1.placed))],[(1000001,some [.row 900010 0 p_1.free.length,.row 900011 0 p_1.tails.length,.row 900012 0 p_1.placed.length])]⟩:PS);refine Ai (Ai (Ab (Aa O (Aa O (Aa O (Ah (Au O (fun hb27=>?_) (fun hb27=>?_))))))))
   ·replace h:=Ak hb27 h;refine As (Aq (Ai (Ab ?_)));iterate 4 refine Aa O ?_
    refine Ah (Ai (Ab ?_));iterate 5 refine Aa O ?_
    obtain ⟨hg28,h⟩:=Ac h;refine Ae tt O hg28 ?_;obtain ⟨hg29,h⟩:=Ac h;refine Ae tt O hg29 (Aa O (Ah (Ai (Ab ?_))));iterate 6 refine Aa O ?_
    refine Ae tt O hg28 (Ar tt O O O O O O O O O O ⟨_,_,O,hg29.1,hg29.2⟩ ⟨hg29,Y⟩ (Ah (Ab (Aa O (Aa O (Ah ?_))))));show ∃ _,_;exact ⟨((l312.set (((Yy (Wc from298 v307 x299) at313)).toNat) at313),(l312.getD (((Yy (Wc from298 v307 x299) at313)).toNat) 0)),(En.of ⟨O,O,O,O,Y⟩ ⟨O,O,O,Y⟩ ⟨O,Y⟩),h⟩
   replace h:=Al hb27 h;refine Bn ?_;show ∃ _,_;exact ⟨l312,(En.of trivial ⟨O,O,O,Y⟩ ⟨O,Y⟩),h⟩
  replace h:=Al hb4 h;refine Bn ?_;show ∃ _,_;exact ⟨(l297,from298),(En.of ⟨O,O,O,O,O,O,O,Y⟩ ⟨O,O,O,O,Y⟩ ⟨O,Y⟩),h⟩
 replace h:=Al hb2 h;refine Bn ?_;show ∃ _,_;exact ⟨(),(En.of trivial ⟨O,O,O,Y⟩ ⟨O,Y⟩),h⟩
def Ha (N:Nat) (bars_0:List (Int×Int)) (a_2:Int) (b_3:Int) (want_4:Int) (k:((List Int)×(List Int)×(List Int))→Option (Bool×(List Int)×(List Int)×(List Int))):Nat→((List Int)×(List Int)×(List Int))→Option (Bool×(List Int)×(List Int)×(List Int))
 | 0,_=>none
 | n+1,(l16,l17,l18)=>
  grd (0≤a_2∧a_2<(l16.length:Int)) <|
  grd (0≤b_3∧b_3<(l16.length:Int)) <|
  grd (Bc ((l16.getD ((a_2).toNat) 0)+(l16.getD ((b_3).toNat) 0))) <|
  cnd (decide (((l16.getD ((a_2).toNat) 0)+(l16.getD ((b_3).toNat) 0))<want_4)) (
   (Rh N bars_0 (⟨l16,l17,l18⟩:Pbl) a_2 b_3).bind fun v21=>
   cnd (!v21.1) (
    (Rh N bars_0 (⟨v21.2.1,v21.2.2.1,v21.2.2.2⟩:Pbl) b_3 a_2).bind fun v22=>
    cnd (!v22.1) (
     some (false,v22.2.1,v22.2.2.1,v22.2.2.2)) (
     Ha N bars_0 a_2 b_3 want_4 k n (v22.2.1,v22.2.2.1,v22.2.2.2))) (
    Ha N bars_0 a_2 b_3 want_4 k n (v21.2.1,v21.2.2.1,v21.2.2.2))) (
   k (l16,l17,l18))
def Wq (N:Nat) (bars_0:List (Int×Int)) (p_1:Pbl) (a_2:Int) (b_3:Int) (want_4:Int):Option (Bool×(List Int)×(List Int)×(List Int)):=
 Ha N bars_0 a_2 b_3 want_4 (fun (x:(List Int)×(List Int)×(List Int))=>
   match x with
   | (l10,l11,l12)=>
    some (true,l10,l11,l12)) N (p_1.free,p_1.tails,p_1.placed)
theorem I_gather_w (N:Nat) (bars_0:List (Int×Int)) (p_1:Pbl) (a_2:Int) (b_3:Int) (want_4:Int) (r:Bool×(List Int)×(List Int)×(List Int)) (h:Wq N bars_0 p_1 a_2 b_3 want_4=some r):MCall Try.prog 82 [.ro false (.pairs bars_0),.ptr 1000001 0,.int a_2,.int b_3,.int want_4] [900010,900011,900012] [1000001] [(3,.ints p_1.free),(3,.ints p_1.tails),(3,.ints p_1.placed)] [(3,.ints r.2.1),(3,.ints r.2.2.1),(3,.ints r.2.2.2)] [[.row 900010 0 p_1.free.length,.row 900011 0 p_1.tails.length,.row 900012 0 p_1.placed.length]] [[.row 900010 0 r.2.1.length,.row 900011 0 r.2.2.1.length,.row 900012 0 r.2.2.2.length]] (.bool r.1):=by
 unfold Wq at h;refine Gd (TT:=TT) tt Try.func82 rfl rfl Try.ntmps82 (congrArg Array.toList Try.results82) rfl rfl rfl rfl rfl fun w0 O0=>(Ai (Ab (Aa rfl (Ah (Ai (Cr (F:=fun k=>Ha N bars_0 a_2 b_3 want_4 k) h (α:=(List Int)×(List Int)×(List Int)) (J:=fun | (l10,l11,l12)=>(⟨[],[(900010,some (3,.ints l10)),(900011,some (3,.ints l11)),(900012,some (3,.ints l12))],[(1000001,some [.row 900010 0 l10.length,.row 900011 0 l11.length,.row 900012 0 l12.length])]⟩:PS)) ?_ ?_))))))
 ·rintro ⟨l10,l11,l12⟩ h;show VC _ _ _ (⟨[],[(900010,some (3,.ints l10)),(900011,some (3,.ints l11)),(900012,some (3,.ints l12))],[(1000001,some [.row 900010 0 l10.length,.row 900011 0 l11.length,.row 900012 0 l12.length])]⟩:PS);refine Ai (Ab (Aa O (Ah (Az ?_))));show ∃ _,_;cases h;exact ⟨[900010,900011,900012],O,⟨O,O,O,Y⟩,⟨O,Y⟩,O⟩
 intro k h;refine Aq (Bd (α:=(List Int)×(List Int)×(List Int)) (fun | (l16,l17,l18)=>(⟨[(0,.ro false (.pairs bars_0)),(1,.ptr 1000001 0),(2,.int a_2),(3,.int b_3),(4,.int want_4)],[(900010,some (3,.ints l16)),(900011,some (3,.ints l17)),(900012,some (3,.ints l18))],[(1000001,some [.row 900010 0 l16.length,.row 900011 0 l17.length,.row 900012 0 l18.length])]⟩:PS)) (Ha N bars_0 a_2 b_3 want_4 k) h (En.of ⟨rfl,rfl,rfl,rfl,rfl,Y⟩ ⟨rfl,rfl,rfl,Y⟩ ⟨rfl,Y⟩) (fun _=>rfl) ?_);rintro n ⟨l16,l17,l18⟩ h;rw [Ha] at h;show VC _ _ _ (⟨[(0,.ro false (.pairs bars_0)),(1,.ptr 1000001 0),(2,.int a_2),(3,.int b_3),(4,.int want_4)],[(900010,some (3,.ints l16)),(900011,some (3,.ints l17)),(900012,some (3,.ints l18))],[(1000001,some [.row 900010 0 l16.length,.row 900011 0 l17.length,.row 900012 0 l18.length])]⟩:PS);refine Ai (Ai (Bs (by kernel_rfl) (by kernel_rfl) ?_));iterate 5 refine Ax tt O (Ad O) O O O Y ?_
 obtain ⟨hg1,h⟩:=Ac h;iterate 2 refine Ax tt O (Ad O) O O O hg1 ?_
 iterate 5 refine Ax tt O (Ad O) O O O Y ?_
 obtain ⟨hg2,h⟩:=Ac h;iterate 2 refine Ax tt O (Ad O) O O O hg2 ?_
 obtain ⟨hg3,h⟩:=Ac h;refine Ax tt O (Ad O) O O O hg3 ?_;iterate 2 refine Ax tt O (Ad O) O O O Y ?_
 refine Hq (Au O (fun hb4=>?_) (fun hb4=>?_))
 ·replace h:=Ak hb4 h;refine As (Aq (Ai (Ab ?_)));iterate 4 refine Aa O ?_
  obtain ⟨v21,hc5,h⟩:=Ag h;refine Fv (Abu N bars_0 (⟨l16,l17,l18⟩:Pbl) a_2 b_3 v21 hc5) [900010,900011,900012] [1000001] [1320,1321,1322] O O O O O O ⟨O,O,O,Y⟩ ⟨O,Y⟩ ⟨.inl O,⟨O,O⟩,⟨O,O⟩,⟨O,O⟩,Y⟩ (Aa O (Aa O (Bu O O O (fun hb6=>?_) (fun hb6=>?_))))
  ·replace h:=Ak hb6 h;iterate 4 refine Bt tt O O O O O hb6 O O O Y ?_
   obtain ⟨v22,hc7,h⟩:=Ag h;refine oMCallG (Abu N bars_0 (⟨v21.2.1,v21.2.2.1,v21.2.2.2⟩:Pbl) b_3 a_2 v22 hc7) [1320,1321,1322] [1000001] [1390,1391,1392] O O O O hb6 O O O O O ⟨O,O,O,Y⟩ ⟨O,Y⟩ ⟨.inl O,⟨O,O⟩,⟨O,O⟩,⟨O,O⟩,Y⟩ (Bt tt O O O O O hb6 O O O Y (Cf O O O O O hb6 O (Ah (Au O (fun hb8=>?_) (fun hb8=>?_)))))
   ·replace h:=Ak hb8 h;refine Ai (Ab (Aa O (Ah (Az ?_))));show ∃ _,_;cases h;exact ⟨[1390,1391,1392],O,⟨O,O,O,Y⟩,⟨O,Y⟩,O⟩
   replace h:=Al hb8 h;refine As ?_;show ∃ _,_;exact ⟨(v22.2.1,v22.2.2.1,v22.2.2.2),(En.ren [900010,900011,900012] [1390,1391,1392] O ⟨.inr O,.inr O,.inr O,.inr O,.inr O,Y⟩ ⟨.inr O,.inr O,.inr O,Y⟩ ⟨.inr ⟨_,_,O,O,⟨.inr O,.inr O,.inr O,Y⟩⟩,Y⟩),h⟩
  replace h:=Al hb6 h;iterate 6 refine Sw O O O O hb6 O O ?_
  refine Bp O O O O O hb6 O (Ah (Gf O O (As ?_)));show ∃ _,_;exact ⟨(v21.2.1,v21.2.2.1,v21.2.2.2),(En.ren [900010,900011,900012] [1320,1321,1322] O ⟨.inr O,.inr O,.inr O,.inr O,.inr O,Y⟩ ⟨.inr O,.inr O,.inr O,Y⟩ ⟨.inr ⟨_,_,O,O,⟨.inr O,.inr O,.inr O,Y⟩⟩,Y⟩),h⟩
 replace h:=Al hb4 h;refine Bn ?_;show ∃ _,_;exact ⟨(l16,l17,l18),(En.of trivial ⟨O,O,O,Y⟩ ⟨O,Y⟩),h⟩
def Tt (N:Nat) (bars_0:List (Int×Int)) (l_1:Int) (p_2:Pbl) (e_3:Int):Option (Bool×(List Int)×(List Int)×(List Int)):=
 grd (0≤e_3∧e_3<(bars_0.length:Int)) <|
 grd (Bc (l_1+(1:Int))) <|
 (Wq N bars_0 (⟨p_2.free,p_2.tails,p_2.placed⟩:Pbl) ((bars_0.getD ((e_3).toNat) (0,0)).1) ((bars_0.getD ((e_3).toNat) (0,0)).2) (l_1+(1:Int))).bind fun v1=>
 cnd (!v1.1) (
  some (false,v1.2.1,v1.2.2.1,v1.2.2.2)) (
  grd (0≤((bars_0.getD ((e_3).toNat) (0,0)).1)∧((bars_0.getD ((e_3).toNat) (0,0)).1)<(v1.2.1.length:Int)) <|
  jn (fun (tail2 : Int) =>
     grd (0≤tail2∧tail2<(v1.2.1.length:Int)) <|
     grd (Bc ((v1.2.1.getD ((tail2).toNat) 0)-(1:Int))) <|
     grd (v1.2.2.1.length+1≤4294967296) <|
     grd (v1.2.2.2.length+1≤4294967296) <|
     grd (v1.2.1.length=(v1.2.1.set ((tail2).toNat) ((v1.2.1.getD ((tail2).toNat) 0)-(1:Int))).length) <|
     some (true,(v1.2.1.set ((tail2).toNat) ((v1.2.1.getD ((tail2).toNat) 0)-(1:Int))),(v1.2.2.1++([tail2]:List Int)),(v1.2.2.2++([e_3]:List Int)))) fun k3=>
   cnd ((v1.2.1.getD (((bars_0.getD ((e_3).toNat) (0,0)).1).toNat) 0)==(0:Int)) (
    k3 ((bars_0.getD ((e_3).toNat) (0,0)).2)) (
    k3 ((bars_0.getD ((e_3).toNat) (0,0)).1)))
theorem I_place_w (N:Nat) (bars_0:List (Int×Int)) (l_1:Int) (p_2:Pbl) (e_3:Int) (r:Bool×(List Int)×(List Int)×(List Int)) (h:Tt N bars_0 l_1 p_2 e_3=some r):MCall Try.prog 79 [.ro false (.pairs bars_0),.int l_1,.ptr 1000002 0,.int e_3] [900020,900021,900022] [1000002] [(3,.ints p_2.free),(3,.ints p_2.tails),(3,.ints p_2.placed)] [(3,.ints r.2.1),(3,.ints r.2.2.1),(3,.ints r.2.2.2)] [[.row 900020 0 p_2.free.length,.row 900021 0 p_2.tails.length,.row 900022 0 p_2.placed.length]] [[.row 900020 0 r.2.1.length,.row 900021 0 r.2.2.1.length,.row 900022 0 r.2.2.2.length]] (.bool r.1):=by
 unfold Tt at h;refine Gd (TT:=TT) tt Try.func79 O O Try.ntmps79 (congrArg Array.toList Try.results79) O O O O O fun w0 O0=>(Ai (Ab (Aa O (Ah (Ai (Ab (Aa O (Aa O ?_))))))));obtain ⟨hg1,h⟩:=Ac h;refine Ae tt O hg1 (Aa O (Bw tt O O O O O O O O O (Ar tt O O O O O O O O O O O ⟨Y,Y,Y⟩ (Ah (Ai (Ai (Ab ?_)))))));iterate 7 refine Aa O ?_
 obtain ⟨hg2,h⟩:=Ac h;refine Ae tt O hg2 ?_;obtain ⟨v1,hc3,h⟩:=Ag h;refine Fv (I_gather_w N bars_0 (⟨p_2.free,p_2.tails,p_2.placed⟩:Pbl) ((bars_0.getD ((e_3).toNat) (0,0)).1) ((bars_0.getD ((e_3).toNat) (0,0)).2) (l_1+(1:Int)) v1 hc3) [900020,900021,900022] [1000002] [1230,1231,1232] O O O O O O ⟨O,O,O,Y⟩ ⟨O,Y⟩ ⟨.inl O,⟨O,O⟩,⟨O,O⟩,⟨O,O⟩,⟨O,O⟩,Y⟩ (Aa O (Ah (Au O (fun hb4=>?_) (fun hb4=>?_))))
 ·replace h:=Ak hb4 h;refine Ai (Ab (Aa O (Ah (Az ?_))));show ∃ _,_;cases h;exact ⟨[1230,1231,1232],O,⟨O,O,O,Y⟩,⟨O,Y⟩,O⟩
 replace h:=Al hb4 h;refine As (Ai (Ab (Aa O (Aa O (Aa O (Ah (Ai (Ai (Bs (by kernel_rfl) (by kernel_rfl) ?_)))))))));iterate 6 refine Ax tt O (Ad O) O O O Y ?_
 obtain ⟨hg5,h⟩:=Ac h;iterate 2 refine Ax tt O (Ad O) O O O hg5 ?_
 refine Ax tt O (Ad O) O O O Y (Hq (vJoinN h (α:=Int) (J:=fun (tail2:Int)=>(⟨[(2,.ptr 1000002 0),(3,.int e_3),(10,.int tail2)],[(1230,some (3,.ints v1.2.1)),(1231,some (3,.ints v1.2.2.1)),(1232,some (3,.ints v1.2.2.2))],[(1000002,some [.row 1230 0 v1.2.1.length,.row 1231 0 v1.2.2.1.length,.row 1232 0 v1.2.2.2.length])]⟩:PS)) ?_ ?_))
 ·rintro tail2 h;show VC _ _ _ (⟨[(2,.ptr 1000002 0),(3,.int e_3),(10,.int tail2)],[(1230,some (3,.ints v1.2.1)),(1231,some (3,.ints v1.2.2.1)),(1232,some (3,.ints v1.2.2.2))],[(1000002,some [.row 1230 0 v1.2.1.length,.row 1231 0 v1.2.2.1.length,.row 1232 0 v1.2.2.2.length])]⟩:PS);refine Ai (Ab ?_);iterate 5 refine Aa O ?_
  obtain ⟨hg6,h⟩:=Ac h;refine Ae tt O hg6 (Ae tt O hg6 ?_);obtain ⟨hg7,h⟩:=Ac h;refine Ae tt O hg7 (Ae tt O hg6 (Ar tt O O O O O O O O O O ⟨_,_,O,hg6.1,hg6.2⟩ ⟨hg6,Y⟩ (Ah (Ai (Ab ?_)))));iterate 6 refine Aa O ?_
  refine Ep tt O O O O O O O O O O O ?_;obtain ⟨hg8,h⟩:=Ac h;refine Da tt O O O O O O O O O O O O O O O O (Nat.le_of_eq (Nat.zero_add _)) hg8 (Aa O (Aa O (Ar tt O O O O O O O O O O O ⟨Y,Y⟩ (Ah (Ai (Ab ?_))))));iterate 6 refine Aa O ?_
  refine Ep tt O O O O O O O O O O O ?_;obtain ⟨hg9,h⟩:=Ac h;refine Da tt O O O O O O O O O O O O O O O O (Nat.le_of_eq (Nat.zero_add _)) hg9 (Aa O (Aa O (Ar tt O O O O O O O O O O O ⟨Y,Y⟩ (Ah (Ai (Ab (Aa O (Ah ?_))))))));show VC ..;obtain ⟨hg10,h⟩:=Ac h;refine vRowB 1000002 0 1230 O O hg10 O (Az ?_);show ∃ _,_;cases h;exact ⟨[1230,1231,1232],O,⟨O,O,O,Y⟩,⟨O,Y⟩,O⟩
 intro k3 h;refine Au O (fun hb11=>?_) (fun hb11=>?_)
 ·replace h:=Ak hb11 h;refine Ab (Aa O (Aa O (Aa O (Ah ?_))));show ∃ _,_;exact ⟨(bars_0.getD ((e_3).toNat) (0,0)).2,(En.of ⟨O,O,O,Y⟩ ⟨O,O,O,Y⟩ ⟨O,Y⟩),h⟩
 replace h:=Al hb11 h;refine As ?_;show ∃ _,_;exact ⟨(bars_0.getD ((e_3).toNat) (0,0)).1,(En.of ⟨O,O,O,Y⟩ ⟨O,O,O,Y⟩ ⟨O,Y⟩),h⟩
def Lr (N:Nat) (bars_1:List (Int×Int)) (l_3:Int) (k:((List Int)×(List Int)×(List Int))→Option (Pbl)):Nat→((List Int)×(List Int)×(List Int)×Int)→Option (Pbl)
 | 0,_=>none
 | n+1,(l39,l40,l41,x42)=>
  cnd (decide (x42<(bars_1.length:Int))) (
   (Ki N (⟨l39,l40,l41⟩:Pbl)).bind fun v45=>
   (Tt N bars_1 l_3 (⟨v45.free,v45.tails,v45.placed⟩:Pbl) x42).bind fun v46=>
   cnd v46.1 (
    grd (Bc (x42+(1:Int))) <|
    Lr N bars_1 l_3 k n (v46.2.1,v46.2.2.1,v46.2.2.2,(x42+(1:Int)))) (
    grd (Bc (x42+(1:Int))) <|
    Lr N bars_1 l_3 k n (l39,l40,l41,(x42+(1:Int))))) (
   k (l39,l40,l41))
def Mz (N:Nat) (points_0:Int) (k_2:Int) (k:(List Int)→Option (Pbl)):Nat→((List Int)×Int)→Option (Pbl)
 | 0,_=>none
 | n+1,(l49,x50)=>
  cnd (decide (x50<points_0)) (
   grd (l49.length+1≤4294967296) <|
   grd (Bc (x50+(1:Int))) <|
   Mz N points_0 k_2 k n ((l49++([k_2]:List Int)),(x50+(1:Int)))) (
   k l49)
def I_play (N:Nat) (points_0:Int) (bars_1:List (Int×Int)) (k_2:Int) (l_3:Int):Option (Pbl):=
 Mz N points_0 k_2 (fun (l4 : List Int) =>
    Lr N bars_1 l_3 (fun (x:(List Int)×(List Int)×(List Int))=>
      match x with
      | (l24,l25,l26)=>
       some (⟨l24,l25,l26⟩:Pbl)) N (l4,([]:List Int),([]:List Int),(0:Int))) N (([]:List Int),(0:Int))
theorem I_play_w (N:Nat) (points_0:Int) (bars_1:List (Int×Int)) (k_2:Int) (l_3:Int) (r:Pbl) (h:I_play N points_0 bars_1 k_2 l_3=some r):PCall Try.prog 73 [.int points_0,.ro false (.pairs bars_1),.int k_2,.int l_3] [(3,.ints r.free),(3,.ints r.tails),(3,.ints r.placed)] (.agg [.row 0 0 r.free.length,.row 1 0 r.tails.length,.row 2 0 r.placed.length]):=by
 unfold I_play at h;refine Aj (TT:=TT) tt Try.func73 O O Try.ntmps73 (congrArg Array.toList Try.results73) O O fun w0=>(Ai (Ab (Bw tt O O O O O O O O O (Ah (Ai (Ab (Km (Ad O) (Ez Fh O O) O O (Bw tt O O O O O O O O O (Ar tt O O O O O O O O O O O ⟨Y,Y,Y,Y⟩ ?_)))))))));refine Ah (Ai (Ai (Ab (Aa O (Aa O (Ah (Cr (F:=fun k=>Mz N points_0 k_2 k) h (α:=List Int) (J:=fun (l4:List Int)=>(⟨[(1,.ro false (.pairs bars_1)),(3,.int l_3),(8,.ptr 8 0),(9,.ptr 9 0)],[(20,some (3,.ints l4))],[(8,some [.nil,.nil,.nil]),(9,some [.row 20 0 l4.length,.nil,.nil])]⟩:PS)) ?_ ?_)))))))
 ·rintro l4 h;show VC _ _ _ (⟨[(1,.ro false (.pairs bars_1)),(3,.int l_3),(8,.ptr 8 0),(9,.ptr 9 0)],[(20,some (3,.ints l4))],[(8,some [.nil,.nil,.nil]),(9,some [.row 20 0 l4.length,.nil,.nil])]⟩:PS);refine Ai (Ai (Ab (Aa rfl (Aa rfl (Aa rfl (Ah (Cr (F:=fun k=>Lr N bars_1 l_3 k) h (α:=(List Int)×(List Int)×(List Int)) (J:=fun | (l24,l25,l26)=>(⟨[(8,.ptr 8 0),(9,.ptr 9 0)],[(20,some (3,.ints l24)),(9505,some (3,.ints l25)),(9506,some (3,.ints l26))],[(8,some [.nil,.nil,.nil]),(9,some [.row 20 0 l24.length,.row 9505 0 l25.length,.row 9506 0 l26.length])]⟩:PS)) ?_ ?_)))))))
  ·rintro ⟨l24,l25,l26⟩ h;show VC _ _ _ (⟨[(8,.ptr 8 0),(9,.ptr 9 0)],[(20,some (3,.ints l24)),(9505,some (3,.ints l25)),(9506,some (3,.ints l26))],[(8,some [.nil,.nil,.nil]),(9,some [.row 20 0 l24.length,.row 9505 0 l25.length,.row 9506 0 l26.length])]⟩:PS);refine Ai (Ab (Aa O (Ar tt O O O O O O O O O O O ⟨Y,Y,Y,Y⟩ (Ah (Az ?_)))));show ∃ _,_;cases h;exact ⟨[20,9505,9506],_,O,⟨O,O,O,Y⟩,O,.eq O,O⟩
  intro k h;refine Aq (Zh 9 1 9507 3 (.ints []) rfl rfl rfl rfl rfl (Zh 9 2 9508 3 (.ints []) rfl rfl rfl rfl rfl (Bd (α:=(List Int)×(List Int)×(List Int)×Int) (fun | (l39,l40,l41,x42)=>(⟨[(1,.ro false (.pairs bars_1)),(3,.int l_3),(8,.ptr 8 0),(9,.ptr 9 0),(24,.int (bars_1.length:Int)),(25,.int x42)],[(20,some (3,.ints l39)),(9507,some (3,.ints l40)),(9508,some (3,.ints l41))],[(8,some [.nil,.nil,.nil]),(9,some [.row 20 0 l39.length,.row 9507 0 l40.length,.row 9508 0 l41.length])]⟩:PS)) (Lr N bars_1 l_3 k) h (En.of ⟨rfl,rfl,rfl,rfl,rfl,rfl,Y⟩ ⟨rfl,rfl,rfl,Y⟩ ⟨rfl,rfl,Y⟩) (fun _=>rfl) ?_)));rintro n ⟨l39,l40,l41,x42⟩ h;rw [Lr] at h;show VC _ _ _ (⟨[(1,.ro false (.pairs bars_1)),(3,.int l_3),(8,.ptr 8 0),(9,.ptr 9 0),(24,.int (bars_1.length:Int)),(25,.int x42)],[(20,some (3,.ints l39)),(9507,some (3,.ints l40)),(9508,some (3,.ints l41))],[(8,some [.nil,.nil,.nil]),(9,some [.row 20 0 l39.length,.row 9507 0 l40.length,.row 9508 0 l41.length])]⟩:PS);refine Ai (Ab (Aa O (Ah (Ai (Au O (fun hb1=>?_) (fun hb1=>?_))))))
  ·replace h:=Ak hb1 h;refine As (Ai (Aq (Ai (Ab (Aa O (Aa O (Ah (Ai (Ab ?_)))))))));refine Aa O ?_;obtain ⟨v45,hc2,h⟩:=Ag h;refine Ba (Ys N (⟨l39,l40,l41⟩:Pbl) v45 hc2) O O O O O O O O ⟨⟨(.inl ⟨O,O⟩),(.inl ⟨O,O⟩),(.inl ⟨O,O⟩),Y⟩,Y⟩ (Bw tt O O O O O O O O O (Ar tt O O O O O O O O O O O ⟨Y,Y,Y,Y⟩ (Ah (Ai (Ab (Aa O (Aa O (Aa O ?_))))))));obtain ⟨v46,hc3,h⟩:=Ag h;refine Fv (I_place_w N bars_1 l_3 (⟨v45.free,v45.tails,v45.placed⟩:Pbl) x42 v46 hc3) [1290,1291,1292] [11] [1330,1331,1332] O O O O O O ⟨O,O,O,Y⟩ ⟨O,Y⟩ ⟨.inl O,⟨O,O⟩,⟨O,O⟩,⟨O,O⟩,Y⟩ (Ah (Au O (fun hb4=>?_) (fun hb4=>?_)))
   ·replace h:=Ak hb4 h;refine Ab (Aa O (Ar tt O O O O O O O O O O O ⟨Y,Y,Y,Y⟩ (Ah (Ab ?_))));obtain ⟨hg5,h⟩:=Ac h;refine Ae tt O hg5 (Aa O (Ah ?_));show ∃ _,_;exact ⟨(v46.2.1,v46.2.2.1,v46.2.2.2,(x42+(1:Int))),(En.ren [20,9507,9508] [1330,1331,1332] O ⟨.inr O,.inr O,.inr O,.inr O,.inr O,.inr O,Y⟩ ⟨.inr O,.inr O,.inr O,Y⟩ ⟨.inr ⟨_,_,O,O,⟨.inr O,.inr O,.inr O,Y⟩⟩,.inr ⟨_,_,O,O,⟨.inr O,.inr O,.inr O,Y⟩⟩,Y⟩),h⟩
   replace h:=Al hb4 h;refine As (Ab ?_);obtain ⟨hg6,h⟩:=Ac h;refine Ae tt O hg6 (Aa O (Ah ?_));show ∃ _,_;exact ⟨(l39,l40,l41,(x42+(1:Int))),(En.of ⟨O,O,O,O,O,O,Y⟩ ⟨O,O,O,Y⟩ ⟨O,O,Y⟩),h⟩
  replace h:=Al hb1 h;refine Bn ?_;show ∃ _,_;exact ⟨(l39,l40,l41),(En.ren [9505,9506] [9507,9508] O ⟨.inr O,.inr O,Y⟩ ⟨.inr O,.inr O,.inr O,Y⟩ ⟨.inr ⟨_,_,O,O,⟨.inr O,.inr O,.inr O,Y⟩⟩,.inr ⟨_,_,O,O,⟨.inr O,.inr O,.inr O,Y⟩⟩,Y⟩),h⟩
 intro k h;refine Aq (Zh 9 0 20 3 (.ints []) rfl rfl rfl rfl rfl (Bd (α:=(List Int)×Int) (fun | (l49,x50)=>(⟨[(1,.ro false (.pairs bars_1)),(2,.int k_2),(3,.int l_3),(8,.ptr 8 0),(9,.ptr 9 0),(13,.int points_0),(14,.int x50)],[(20,some (3,.ints l49))],[(8,some [.nil,.nil,.nil]),(9,some [.row 20 0 l49.length,.nil,.nil])]⟩:PS)) (Mz N points_0 k_2 k) h (En.of ⟨rfl,rfl,rfl,rfl,rfl,rfl,rfl,Y⟩ ⟨rfl,Y⟩ ⟨rfl,rfl,Y⟩) (fun _=>rfl) ?_));rintro n ⟨l49,x50⟩ h;rw [Mz] at h;show VC _ _ _ (⟨[(1,.ro false (.pairs bars_1)),(2,.int k_2),(3,.int l_3),(8,.ptr 8 0),(9,.ptr 9 0),(13,.int points_0),(14,.int x50)],[(20,some (3,.ints l49))],[(8,some [.nil,.nil,.nil]),(9,some [.row 20 0 l49.length,.nil,.nil])]⟩:PS);refine Ai (Ab (Aa O (Ah (Ai (Au O (fun hb7=>?_) (fun hb7=>?_))))))
 ·replace h:=Ak hb7 h;refine As (Ai (Aq (Ab (Aa O (Aa O (Aa O (Ep tt O O O O O O O O O O O ?_)))))));obtain ⟨hg8,h⟩:=Ac h;refine Da tt O O O O O O O O O O O O O O O O (Nat.le_of_eq (Nat.zero_add _)) hg8 (Aa O (Ar tt O O O O O O O O O O O ⟨Y,Y⟩ (Ah (Ab ?_))));obtain ⟨hg9,h⟩:=Ac h;refine Ae tt O hg9 (Aa O (Ah ?_));show ∃ _,_;exact ⟨((l49++([k_2]:List Int)),(x50+(1:Int))),(En.of ⟨O,O,O,O,O,O,O,Y⟩ ⟨O,Y⟩ ⟨O,O,Y⟩),h⟩
 replace h:=Al hb7 h;refine Bn ?_;show ∃ _,_;exact ⟨l49,(En.of ⟨O,O,O,O,Y⟩ ⟨O,Y⟩ ⟨O,O,Y⟩),h⟩
end
section
open Go.RowKit
def Dl (N:Nat) (g_0:Grf) (p_1:Pbl) (a_2:Int) (b_3:Int) (l106:List Int) (k108:Int) (k:((List Int)×(List Int)×(List Bool))→Option (Pbl×Bool)):Nat→((List Int)×(List Int)×(List Bool)×Int)→Option (Pbl×Bool)
 | 0,_=>none
 | n+1,(l149,l150,l151,i152)=>
  cnd (decide (i152<(p_1.placed.length:Int))) (
   grd (0≤i152∧i152<(p_1.tails.length:Int)) <|
   cnd ((p_1.tails.getD ((i152).toNat) 0) != (l106.getD ((k108).toNat) 0)) (
    grd (Bc (i152+(1:Int))) <|
    Dl N g_0 p_1 a_2 b_3 l106 k108 k n (l149,l150,l151,(i152+(1:Int)))) (
    grd (0≤i152∧i152<(p_1.placed.length:Int)) <|
    grd (0≤(p_1.placed.getD ((i152).toNat) 0)∧(p_1.placed.getD ((i152).toNat) 0)<(g_0.bars.length:Int)) <|
    (Kj N (g_0.bars.getD (((p_1.placed.getD ((i152).toNat) 0)).toNat) (0,0)) (l106.getD ((k108).toNat) 0)).bind fun v155=>
    grd (0≤v155∧v155<((List.replicate ((g_0.n).toNat) (false:Bool)).length:Int)) <|
    grd (0≤v155∧v155<(l151.length:Int)) <|
    cnd (l151.getD ((v155).toNat) false) (
     grd (Bc (i152+(1:Int))) <|
     Dl N g_0 p_1 a_2 b_3 l106 k108 k n (l149,l150,l151,(i152+(1:Int)))) (
     grd (0≤v155∧v155<((List.replicate ((g_0.n).toNat) (0:Int)).length:Int)) <|
     grd (0≤v155∧v155<(l149.length:Int)) <|
     cnd (v155 != b_3) (
      grd (0≤v155∧v155<(p_1.free.length:Int)) <|
      cnd (decide ((p_1.free.getD ((v155).toNat) 0) > (0:Int))) (
       grd ((List.replicate ((g_0.n).toNat) (0:Int)).length=(l149.set ((v155).toNat) i152).length) <|
       (Sb N g_0 p_1 (l149.set ((v155).toNat) i152) a_2 v155).bind fun v156=>
       some ((⟨v156.free,v156.tails,v156.placed⟩:Pbl),true)) (
       grd (l150.length+1≤4294967296) <|
       grd (Bc (i152+(1:Int))) <|
       Dl N g_0 p_1 a_2 b_3 l106 k108 k n ((l149.set ((v155).toNat) i152),(l150++([v155]:List Int)),(l151.set ((v155).toNat) true),(i152+(1:Int))))) (
      grd (l150.length+1≤4294967296) <|
      grd (Bc (i152+(1:Int))) <|
      Dl N g_0 p_1 a_2 b_3 l106 k108 k n ((l149.set ((v155).toNat) i152),(l150++([v155]:List Int)),(l151.set ((v155).toNat) true),(i152+(1:Int))))))) (
   k (l149,l150,l151))
def Ch (N:Nat) (g_0:Grf) (p_1:Pbl) (a_2:Int) (b_3:Int) (k:Unit→Option (Pbl×Bool)):Nat→((List Int)×(List Int)×(List Bool)×Int)→Option (Pbl×Bool)
 | 0,_=>none
 | n+1,(l105,l106,l107,k108)=>
  cnd (decide (k108<(l106.length:Int))) (
   grd (0≤k108∧k108<(l106.length:Int)) <|
   Dl N g_0 p_1 a_2 b_3 l106 k108 (fun (x:(List Int)×(List Int)×(List Bool))=>
     match x with
     | (l143,l144,l145)=>
      grd (Bc (k108+(1:Int))) <|
      Ch N g_0 p_1 a_2 b_3 k n (l143,l144,l145,(k108+(1:Int)))) N (l105,l106,l107,(0:Int))) (
   k ())
def Fz (N:Nat) (g_0:Grf) (k:(List Int)→Option (Pbl×Bool)):Nat→((List Int)×Int)→Option (Pbl×Bool)
 | 0,_=>none
 | n+1,(l158,i159)=>
  cnd (decide (i159<g_0.n)) (
   grd (0≤i159∧i159<((List.replicate ((g_0.n).toNat) (0:Int)).length:Int)) <|
   grd (0≤i159∧i159<(l158.length:Int)) <|
   grd (Bc (i159+(1:Int))) <|
   Fz N g_0 k n ((l158.set ((i159).toNat) (-1:Int)),(i159+(1:Int)))) (
   k l158)
def Lg (N:Nat) (g_0:Grf) (p_1:Pbl) (a_2:Int) (b_3:Int):Option (Pbl×Bool):=
 grd (0≤g_0.n∧g_0.n≤4294967296) <|
 Fz N g_0 (fun (l3 : List Int) =>
    grd (0≤a_2∧a_2<((List.replicate ((g_0.n).toNat) (false:Bool)).length:Int)) <|
    Ch N g_0 p_1 a_2 b_3 (fun (_ : Unit) =>
       some ((⟨p_1.free,p_1.tails,p_1.placed⟩:Pbl),false)) N (l3,([a_2]:List Int),((List.replicate ((g_0.n).toNat) (false:Bool)).set ((a_2).toNat) true),(0:Int))) N ((List.replicate ((g_0.n).toNat) (0:Int)),(0:Int))
theorem Aaj (N:Nat) (g_0:Grf) (p_1:Pbl) (a_2:Int) (b_3:Int) (r:Pbl×Bool) (h:Lg N g_0 p_1 a_2 b_3=some r) (halt:r.2=true):PCall Try.prog 77 [gD g_0,bD p_1,.int a_2,.int b_3] [(3,.ints r.1.free),(3,.ints r.1.tails),(3,.ints r.1.placed)] (.tup [.agg [.row 0 0 r.1.free.length,.row 1 0 r.1.tails.length,.row 2 0 r.1.placed.length],.bool r.2]):=by
 unfold Lg at h;refine Aj (TT:=TT) tt Try.func77 O O Try.ntmps77 (congrArg Array.toList Try.results77) O O fun w0=>(Ai (Ab ?_));iterate 2 refine Lh O O O O O O O O O ?_
 refine Bw tt O O O O O O O O O (Aa O (Ah (Ai (Ab (Aa O (Aa O ?_))))));obtain ⟨hg1,h⟩:=Ac h;refine Aa2 tt O O O O O O O O O O O hg1 (Aa O (Ah (Ai (Ai (Ab (Aa O (Ah (Cr (F:=fun k=>Fz N g_0 k) h (α:=List Int) (J:=fun (l3:List Int)=>(⟨[(2,.int a_2),(3,.int b_3),(4,.ptr 4 0),(5,.ptr 5 0),(8,.ptr 8 0),(10,.row 20 0 ((List.replicate ((g_0.n).toNat) (0:Int)).length))],[(20,some (3,.ints l3))],[(4,some [.int g_0.n,.ro false (.pairs g_0.bars)]),(5,some [.ro false (.ints p_1.free),.ro false (.ints p_1.tails),.ro false (.ints p_1.placed)]),(8,some [.nil,.nil,.nil])]⟩:PS)) ?_ ?_))))))))
 ·rintro l3 h;show VC _ _ _ (⟨[(2,.int a_2),(3,.int b_3),(4,.ptr 4 0),(5,.ptr 5 0),(8,.ptr 8 0),(10,.row 20 0 ((List.replicate ((g_0.n).toNat) (0:Int)).length))],[(20,some (3,.ints l3))],[(4,some [.int g_0.n,.ro false (.pairs g_0.bars)]),(5,some [.ro false (.ints p_1.free),.ro false (.ints p_1.tails),.ro false (.ints p_1.placed)]),(8,some [.nil,.nil,.nil])]⟩:PS);refine Ai (Ab (Aa O (Ep tt O O O O O O O O O O O (Aa O (Ah (Ai (Ab (Aa O (Aa O ?_)))))))));refine Aa2 tt O O O O O O O O O O O hg1 (Aa O (Ah (Ai (Ab (Aa O (Aa O ?_))))));obtain ⟨hg2,h⟩:=Ac h;refine Ae tt O hg2 (Ar tt O O O O O O O O O O ⟨_,_,O,hg2.1,hg2.2⟩ ⟨hg2,Y⟩ (Ah (Ai (Ai (Ab (Aa O (Ah (Cr (F:=fun k=>Ch N g_0 p_1 a_2 b_3 k) h (α:=Unit) (J:=fun (_:Unit)=>(⟨[(5,.ptr 5 0),(8,.ptr 8 0)],[],[(5,some [.ro false (.ints p_1.free),.ro false (.ints p_1.tails),.ro false (.ints p_1.placed)]),(8,some [.nil,.nil,.nil])]⟩:PS)) ?_ ?_))))))))
  ·rintro ⟨⟩ h;show VC _ _ _ (⟨[(5,.ptr 5 0),(8,.ptr 8 0)],[],[(5,some [.ro false (.ints p_1.free),.ro false (.ints p_1.tails),.ro false (.ints p_1.placed)]),(8,some [.nil,.nil,.nil])]⟩:PS);refine Ai (Ab (Aa O (Ar tt O O O O O O O O O O O ⟨Y,Y,Y,Y⟩ (Aa O (Ah ?_)))));show VC ..;cases h;cases halt
  intro k h;refine Aq (Bd (α:=(List Int)×(List Int)×(List Bool)×Int) (fun | (l105,l106,l107,k108)=>(⟨[(2,.int a_2),(3,.int b_3),(4,.ptr 4 0),(5,.ptr 5 0),(8,.ptr 8 0),(10,.row 20 0 ((List.replicate ((g_0.n).toNat) (0:Int)).length)),(12,.row 31 0 l106.length),(13,.row 34 0 ((List.replicate ((g_0.n).toNat) (false:Bool)).length)),(14,.int k108)],[(20,some (3,.ints l105)),(31,some (3,.ints l106)),(34,some (4,.bools l107))],[(4,some [.int g_0.n,.ro false (.pairs g_0.bars)]),(5,some [.ro false (.ints p_1.free),.ro false (.ints p_1.tails),.ro false (.ints p_1.placed)]),(8,some [.nil,.nil,.nil])]⟩:PS)) (Ch N g_0 p_1 a_2 b_3 k) h (En.of ⟨rfl,rfl,rfl,rfl,rfl,rfl,rfl,rfl,rfl,Y⟩ ⟨rfl,rfl,rfl,Y⟩ ⟨rfl,rfl,rfl,Y⟩) (fun _=>rfl) ?_);rintro n ⟨l105,l106,l107,k108⟩ h;rw [Ch] at h;show VC _ _ _ (⟨[(2,.int a_2),(3,.int b_3),(4,.ptr 4 0),(5,.ptr 5 0),(8,.ptr 8 0),(10,.row 20 0 ((List.replicate ((g_0.n).toNat) (0:Int)).length)),(12,.row 31 0 l106.length),(13,.row 34 0 ((List.replicate ((g_0.n).toNat) (false:Bool)).length)),(14,.int k108)],[(20,some (3,.ints l105)),(31,some (3,.ints l106)),(34,some (4,.bools l107))],[(4,some [.int g_0.n,.ro false (.pairs g_0.bars)]),(5,some [.ro false (.ints p_1.free),.ro false (.ints p_1.tails),.ro false (.ints p_1.placed)]),(8,some [.nil,.nil,.nil])]⟩:PS);refine Ai (Ai (Ab ?_));iterate 4 refine Aa O ?_
  refine Ah (Au O (fun hb3=>?_) (fun hb3=>?_))
  ·replace h:=Ak hb3 h;refine As (Ai (Aq (Ai (Ab (Aa O (Aa O ?_))))));obtain ⟨hg4,h⟩:=Ac h;refine Ae tt rfl hg4 (Ae tt rfl hg4 (Aa rfl (Ah (Ai (Ab (Aa rfl (Ah (Cr (F:=fun k=>Dl N g_0 p_1 a_2 b_3 l106 k108 k) h (α:=(List Int)×(List Int)×(List Bool)) (J:=fun | (l143,l144,l145)=>(⟨[(2,.int a_2),(3,.int b_3),(4,.ptr 4 0),(5,.ptr 5 0),(8,.ptr 8 0),(10,.row 20 0 ((List.replicate ((g_0.n).toNat) (0:Int)).length)),(12,.row 31 0 l144.length),(13,.row 34 0 ((List.replicate ((g_0.n).toNat) (false:Bool)).length)),(14,.int k108)],[(20,some (3,.ints l143)),(31,some (3,.ints l144)),(34,some (4,.bools l145))],[(4,some [.int g_0.n,.ro false (.pairs g_0.bars)]),(5,some [.ro false (.ints p_1.free),.ro false (.ints p_1.tails),.ro false (.ints p_1.placed)]),(8,some [.nil,.nil,.nil])]⟩:PS)) ?_ ?_))))))))
   ·rintro ⟨l143,l144,l145⟩ h;show VC _ _ _ (⟨[(2,.int a_2),(3,.int b_3),(4,.ptr 4 0),(5,.ptr 5 0),(8,.ptr 8 0),(10,.row 20 0 ((List.replicate ((g_0.n).toNat) (0:Int)).length)),(12,.row 31 0 l144.length),(13,.row 34 0 ((List.replicate ((g_0.n).toNat) (false:Bool)).length)),(14,.int k108)],[(20,some (3,.ints l143)),(31,some (3,.ints l144)),(34,some (4,.bools l145))],[(4,some [.int g_0.n,.ro false (.pairs g_0.bars)]),(5,some [.ro false (.ints p_1.free),.ro false (.ints p_1.tails),.ro false (.ints p_1.placed)]),(8,some [.nil,.nil,.nil])]⟩:PS);refine Ab (Aa O ?_);obtain ⟨hg5,h⟩:=Ac h;refine Ae tt O hg5 (Aa O (Ah ?_));show ∃ _,_;exact ⟨(l143,l144,l145,(k108+(1:Int))),(En.of ⟨O,O,O,O,O,O,O,O,O,Y⟩ ⟨O,O,O,Y⟩ ⟨O,O,O,Y⟩),h⟩
   intro k h;refine Aq (Bd (α:=(List Int)×(List Int)×(List Bool)×Int) (fun | (l149,l150,l151,i152)=>(⟨[(2,.int a_2),(3,.int b_3),(4,.ptr 4 0),(5,.ptr 5 0),(8,.ptr 8 0),(10,.row 20 0 ((List.replicate ((g_0.n).toNat) (0:Int)).length)),(12,.row 31 0 l150.length),(13,.row 34 0 ((List.replicate ((g_0.n).toNat) (false:Bool)).length)),(14,.int k108),(15,.int (l106.getD ((k108).toNat) 0)),(16,.int i152)],[(20,some (3,.ints l149)),(31,some (3,.ints l150)),(34,some (4,.bools l151))],[(4,some [.int g_0.n,.ro false (.pairs g_0.bars)]),(5,some [.ro false (.ints p_1.free),.ro false (.ints p_1.tails),.ro false (.ints p_1.placed)]),(8,some [.nil,.nil,.nil])]⟩:PS)) (Dl N g_0 p_1 a_2 b_3 l106 k108 k) h (En.of ⟨rfl,rfl,rfl,rfl,rfl,rfl,rfl,rfl,rfl,rfl,rfl,Y⟩ ⟨rfl,rfl,rfl,Y⟩ ⟨rfl,rfl,rfl,Y⟩) (fun _=>rfl) ?_);rintro n ⟨l149,l150,l151,i152⟩ h;rw [Dl] at h;show VC _ _ _ (⟨[(2,.int a_2),(3,.int b_3),(4,.ptr 4 0),(5,.ptr 5 0),(8,.ptr 8 0),(10,.row 20 0 ((List.replicate ((g_0.n).toNat) (0:Int)).length)),(12,.row 31 0 l150.length),(13,.row 34 0 ((List.replicate ((g_0.n).toNat) (false:Bool)).length)),(14,.int k108),(15,.int (l106.getD ((k108).toNat) 0)),(16,.int i152)],[(20,some (3,.ints l149)),(31,some (3,.ints l150)),(34,some (4,.bools l151))],[(4,some [.int g_0.n,.ro false (.pairs g_0.bars)]),(5,some [.ro false (.ints p_1.free),.ro false (.ints p_1.tails),.ro false (.ints p_1.placed)]),(8,some [.nil,.nil,.nil])]⟩:PS);refine Ai (Ai (Ab ?_));iterate 5 refine Aa O ?_
   refine Ah (Au O (fun hb6=>?_) (fun hb6=>?_))
   ·replace h:=Ak hb6 h;refine As (Ai (Aq (Ai (Ai (Ab (Aa O (Aa O (Aa O ?_))))))));obtain ⟨hg7,h⟩:=Ac h;refine Ae tt O hg7 (Aa O (Aa O (Aa O (Ah (Au O (fun hb8=>?_) (fun hb8=>?_))))))
    ·replace h:=Ak hb8 h;refine Bn (Ab (Aa O ?_));obtain ⟨hg9,h⟩:=Ac h;refine Ae tt O hg9 (Aa O (Ah ?_));show ∃ _,_;exact ⟨(l149,l150,l151,(i152+(1:Int))),(En.of ⟨O,O,O,O,O,O,O,O,O,O,O,Y⟩ ⟨O,O,O,Y⟩ ⟨O,O,O,Y⟩),h⟩
    replace h:=Al hb8 h;refine As (Ai (Bs (by kernel_rfl) (by kernel_rfl) ?_));iterate 5 refine Ax tt O (Ad O) O O O Y ?_
    obtain ⟨hg10,h⟩:=Ac h;refine Ax tt O (Ad O) O O O hg10 (Ax tt O (Ad O) O O O Y ?_);obtain ⟨hg11,h⟩:=Ac h;refine Ax tt O (Ad O) O O O hg11 ?_;iterate 2 refine Ax tt O (Ad O) O O O Y ?_
    obtain ⟨v155,hc12,h⟩:=Ag h;refine Hp (Rd N (g_0.bars.getD (((p_1.placed.getD ((i152).toNat) 0)).toNat) (0,0)) (l106.getD ((k108).toNat) 0) v155 hc12) O (Ad O) O O O O O O ⟨⟨O,O,Y⟩,O,Y⟩ (Ax tt O (Ad O) O O O Y (Hq (Ai (Ai (Ab (Aa O (Aa O ?_)))))));obtain ⟨hg13,h⟩:=Ac h;refine Ae tt O hg13 ?_;obtain ⟨hg14,h⟩:=Ac h;refine Ae tt O hg14 (Ah (Au O (fun hb15=>?_) (fun hb15=>?_)))
    ·replace h:=Ak hb15 h;refine Bn (Ab (Aa O ?_));obtain ⟨hg16,h⟩:=Ac h;refine Ae tt O hg16 (Aa O (Ah ?_));show ∃ _,_;exact ⟨(l149,l150,l151,(i152+(1:Int))),(En.of ⟨O,O,O,O,O,O,O,O,O,O,O,Y⟩ ⟨O,O,O,Y⟩ ⟨O,O,O,Y⟩),h⟩
    replace h:=Al hb15 h;refine As (Ai (Ab (Aa O (Aa O (Ae tt O hg13 (Ar tt O O O O O O O O O O ⟨_,_,O,hg14.1,hg14.2⟩ ⟨hg14,Y⟩ (Ah (Ai (Ab ?_)))))))));refine Aa O (Aa O (Aa O ?_));obtain ⟨hg17,h⟩:=Ac h;refine Ae tt O hg17 ?_;obtain ⟨hg18,h⟩:=Ac h;refine Ar tt O O O O O O O O O O ⟨_,_,O,hg18.1,hg18.2⟩ ⟨hg18,Y⟩ (Ah (Ai (Ai (Ab ?_))));iterate 4 refine Aa O ?_
    refine Bu O O O (fun hb19=>?_) (fun hb19=>?_)
    ·replace h:=Ak hb19 h;iterate 3 refine Bt tt O O O O O hb19 O O O Y ?_
     obtain ⟨hg20,h⟩:=Ac h;refine Bt tt O O O O O hb19 O O O hg20 ?_;iterate 2 refine Bt tt O O O O O hb19 O O O Y ?_
     refine Cf O O O O O hb19 O (Ah (Au O (fun hb21=>?_) (fun hb21=>?_)))
     ·replace h:=Ak hb21 h;refine Ai (Ab ?_);iterate 5 refine Aa O ?_
      obtain ⟨hg22,h⟩:=Ac h;obtain ⟨v156,hc23,h⟩:=Ag h;refine Ba (Aaf N g_0 p_1 (l149.set ((v155).toNat) i152) a_2 v155 v156 hc23) O O O O O O O O ⟨⟨O,O,Y⟩,⟨O,O,O,Y⟩,(.inl ⟨hg22,O⟩),O,O,Y⟩ (Ar tt O O O O O O O O O O O ⟨Y,Y,Y,Y⟩ (Aa O (Ah (Az ?_))));show ∃ _,_;cases h;exact ⟨[2000,2001,2002],_,O,⟨O,O,O,Y⟩,O,.eq O,O⟩
     replace h:=Al hb21 h;refine As (Ab (Aa O (Aa O (Ep tt O O O O O O O O O O O ?_))));obtain ⟨hg24,h⟩:=Ac h;refine Da tt O O O O O O O O O O O O O O O O (Nat.le_of_eq (Nat.zero_add _)) hg24 (Aa O (Ah (Ab (Aa O ?_))));obtain ⟨hg25,h⟩:=Ac h;refine Ae tt O hg25 (Aa O (Ah ?_));show ∃ _,_;exact ⟨((l149.set ((v155).toNat) i152),(l150++([v155]:List Int)),(l151.set ((v155).toNat) true),(i152+(1:Int))),(En.of ⟨O,O,O,O,O,O,O,O,O,O,O,Y⟩ ⟨O,O,O,Y⟩ ⟨O,O,O,Y⟩),h⟩
    replace h:=Al hb19 h;iterate 6 refine Sw O O O O hb19 O O ?_
    refine Bp O O O O O hb19 O (Ah (Gf O O (As (Ab (Aa O (Aa O (Ep tt O O O O O O O O O O O ?_)))))));obtain ⟨hg26,h⟩:=Ac h;refine Da tt O O O O O O O O O O O O O O O O (Nat.le_of_eq (Nat.zero_add _)) hg26 (Aa O (Ah (Ab (Aa O ?_))));obtain ⟨hg27,h⟩:=Ac h;refine Ae tt O hg27 (Aa O (Ah ?_));show ∃ _,_;exact ⟨((l149.set ((v155).toNat) i152),(l150++([v155]:List Int)),(l151.set ((v155).toNat) true),(i152+(1:Int))),(En.of ⟨O,O,O,O,O,O,O,O,O,O,O,Y⟩ ⟨O,O,O,Y⟩ ⟨O,O,O,Y⟩),h⟩
   replace h:=Al hb6 h;refine Bn ?_;show ∃ _,_;exact ⟨(l149,l150,l151),(En.of ⟨O,O,O,O,O,O,O,O,O,Y⟩ ⟨O,O,O,Y⟩ ⟨O,O,O,Y⟩),h⟩
  replace h:=Al hb3 h;refine Bn ?_;show ∃ _,_;exact ⟨(),(En.of ⟨O,O,Y⟩ trivial ⟨O,O,Y⟩),h⟩
 intro k h;refine Aq (Bd (α:=(List Int)×Int) (fun | (l158,i159)=>(⟨[(2,.int a_2),(3,.int b_3),(4,.ptr 4 0),(5,.ptr 5 0),(8,.ptr 8 0),(10,.row 20 0 ((List.replicate ((g_0.n).toNat) (0:Int)).length)),(11,.int i159)],[(20,some (3,.ints l158))],[(4,some [.int g_0.n,.ro false (.pairs g_0.bars)]),(5,some [.ro false (.ints p_1.free),.ro false (.ints p_1.tails),.ro false (.ints p_1.placed)]),(8,some [.nil,.nil,.nil])]⟩:PS)) (Fz N g_0 k) h (En.of ⟨rfl,rfl,rfl,rfl,rfl,rfl,rfl,Y⟩ ⟨rfl,Y⟩ ⟨rfl,rfl,rfl,Y⟩) (fun _=>rfl) ?_);rintro n ⟨l158,i159⟩ h;rw [Fz] at h;show VC _ _ _ (⟨[(2,.int a_2),(3,.int b_3),(4,.ptr 4 0),(5,.ptr 5 0),(8,.ptr 8 0),(10,.row 20 0 ((List.replicate ((g_0.n).toNat) (0:Int)).length)),(11,.int i159)],[(20,some (3,.ints l158))],[(4,some [.int g_0.n,.ro false (.pairs g_0.bars)]),(5,some [.ro false (.ints p_1.free),.ro false (.ints p_1.tails),.ro false (.ints p_1.placed)]),(8,some [.nil,.nil,.nil])]⟩:PS);refine Ai (Ai (Ab ?_));iterate 4 refine Aa O ?_
 refine Ah (Au O (fun hb28=>?_) (fun hb28=>?_))
 ·replace h:=Ak hb28 h;refine As (Ai (Aq (Ab (Aa O (Aa O ?_)))));obtain ⟨hg29,h⟩:=Ac h;refine Ae tt O hg29 ?_;obtain ⟨hg30,h⟩:=Ac h;refine Ar tt O O O O O O O O O O ⟨_,_,O,hg30.1,hg30.2⟩ ⟨hg30,Y⟩ (Ah (Ab (Aa O ?_)));obtain ⟨hg31,h⟩:=Ac h;refine Ae tt O hg31 (Aa O (Ah ?_));show ∃ _,_;exact ⟨((l158.set ((i159).toNat) (-1:Int)),(i159+(1:Int))),(En.of ⟨O,O,O,O,O,O,O,Y⟩ ⟨O,Y⟩ ⟨O,O,O,Y⟩),h⟩
 replace h:=Al hb28 h;refine Bn ?_;show ∃ _,_;exact ⟨l158,(En.of ⟨O,O,O,O,O,O,Y⟩ ⟨O,Y⟩ ⟨O,O,O,Y⟩),h⟩
theorem Zy (N:Nat) (g_0:Grf) (p_1:Pbl) (a_2:Int) (b_3:Int) (r:Pbl×Bool) (h:Lg N g_0 p_1 a_2 b_3=some r) (halt:r.2=false):PCall Try.prog 77 [gD g_0,bD p_1,.int a_2,.int b_3] [] (.tup [.agg [.any,.any,.any],.bool r.2]):=by
 unfold Lg at h;refine Aj (TT:=TT) tt Try.func77 O O Try.ntmps77 (congrArg Array.toList Try.results77) O O fun w0=>(Ai (Ab ?_));iterate 2 refine Lh O O O O O O O O O ?_
 refine Bw tt O O O O O O O O O (Aa O (Ah (Ai (Ab (Aa O (Aa O ?_))))));obtain ⟨hg1,h⟩:=Ac h;refine Aa2 tt O O O O O O O O O O O hg1 (Aa O (Ah (Ai (Ai (Ab (Aa O (Ah (Cr (F:=fun k=>Fz N g_0 k) h (α:=List Int) (J:=fun (l3:List Int)=>(⟨[(2,.int a_2),(3,.int b_3),(4,.ptr 4 0),(5,.ptr 5 0),(8,.ptr 8 0),(10,.row 20 0 ((List.replicate ((g_0.n).toNat) (0:Int)).length))],[(20,some (3,.ints l3))],[(4,some [.int g_0.n,.ro false (.pairs g_0.bars)]),(5,some [.ro false (.ints p_1.free),.ro false (.ints p_1.tails),.ro false (.ints p_1.placed)]),(8,some [.nil,.nil,.nil])]⟩:PS)) ?_ ?_))))))))
 ·rintro l3 h;show VC _ _ _ (⟨[(2,.int a_2),(3,.int b_3),(4,.ptr 4 0),(5,.ptr 5 0),(8,.ptr 8 0),(10,.row 20 0 ((List.replicate ((g_0.n).toNat) (0:Int)).length))],[(20,some (3,.ints l3))],[(4,some [.int g_0.n,.ro false (.pairs g_0.bars)]),(5,some [.ro false (.ints p_1.free),.ro false (.ints p_1.tails),.ro false (.ints p_1.placed)]),(8,some [.nil,.nil,.nil])]⟩:PS);refine Ai (Ab (Aa O (Ep tt O O O O O O O O O O O (Aa O (Ah (Ai (Ab (Aa O (Aa O ?_)))))))));refine Aa2 tt O O O O O O O O O O O hg1 (Aa O (Ah (Ai (Ab (Aa O (Aa O ?_))))));obtain ⟨hg2,h⟩:=Ac h;refine Ae tt O hg2 (Ar tt O O O O O O O O O O ⟨_,_,O,hg2.1,hg2.2⟩ ⟨hg2,Y⟩ (Ah (Ai (Ai (Ab (Aa O (Ah (Cr (F:=fun k=>Ch N g_0 p_1 a_2 b_3 k) h (α:=Unit) (J:=fun (_:Unit)=>(⟨[(5,.ptr 5 0),(8,.ptr 8 0)],[],[(5,some [.ro false (.ints p_1.free),.ro false (.ints p_1.tails),.ro false (.ints p_1.placed)]),(8,some [.nil,.nil,.nil])]⟩:PS)) ?_ ?_))))))))
  ·rintro ⟨⟩ h;show VC _ _ _ (⟨[(5,.ptr 5 0),(8,.ptr 8 0)],[],[(5,some [.ro false (.ints p_1.free),.ro false (.ints p_1.tails),.ro false (.ints p_1.placed)]),(8,some [.nil,.nil,.nil])]⟩:PS);refine Ai (Ab (Aa O (Ar tt O O O O O O O O O O O ⟨Y,Y,Y,Y⟩ (Aa O (Ah (Az ?_))))));show ∃ _,_;cases h;exact ⟨[],_,O,Y,O,(wkTup O O ⟨wkAgg O O ⟨.any O O,.any O O,.any O O,Y⟩,.eq O,Y⟩),O⟩
  intro k h;refine Aq (Bd (α:=(List Int)×(List Int)×(List Bool)×Int) (fun | (l105,l106,l107,k108)=>(⟨[(2,.int a_2),(3,.int b_3),(4,.ptr 4 0),(5,.ptr 5 0),(8,.ptr 8 0),(10,.row 20 0 ((List.replicate ((g_0.n).toNat) (0:Int)).length)),(12,.row 31 0 l106.length),(13,.row 34 0 ((List.replicate ((g_0.n).toNat) (false:Bool)).length)),(14,.int k108)],[(20,some (3,.ints l105)),(31,some (3,.ints l106)),(34,some (4,.bools l107))],[(4,some [.int g_0.n,.ro false (.pairs g_0.bars)]),(5,some [.ro false (.ints p_1.free),.ro false (.ints p_1.tails),.ro false (.ints p_1.placed)]),(8,some [.nil,.nil,.nil])]⟩:PS)) (Ch N g_0 p_1 a_2 b_3 k) h (En.of ⟨rfl,rfl,rfl,rfl,rfl,rfl,rfl,rfl,rfl,Y⟩ ⟨rfl,rfl,rfl,Y⟩ ⟨rfl,rfl,rfl,Y⟩) (fun _=>rfl) ?_);rintro n ⟨l105,l106,l107,k108⟩ h;rw [Ch] at h;show VC _ _ _ (⟨[(2,.int a_2),(3,.int b_3),(4,.ptr 4 0),(5,.ptr 5 0),(8,.ptr 8 0),(10,.row 20 0 ((List.replicate ((g_0.n).toNat) (0:Int)).length)),(12,.row 31 0 l106.length),(13,.row 34 0 ((List.replicate ((g_0.n).toNat) (false:Bool)).length)),(14,.int k108)],[(20,some (3,.ints l105)),(31,some (3,.ints l106)),(34,some (4,.bools l107))],[(4,some [.int g_0.n,.ro false (.pairs g_0.bars)]),(5,some [.ro false (.ints p_1.free),.ro false (.ints p_1.tails),.ro false (.ints p_1.placed)]),(8,some [.nil,.nil,.nil])]⟩:PS);refine Ai (Ai (Ab ?_));iterate 4 refine Aa O ?_
  refine Ah (Au O (fun hb3=>?_) (fun hb3=>?_))
  ·replace h:=Ak hb3 h;refine As (Ai (Aq (Ai (Ab (Aa O (Aa O ?_))))));obtain ⟨hg4,h⟩:=Ac h;refine Ae tt rfl hg4 (Ae tt rfl hg4 (Aa rfl (Ah (Ai (Ab (Aa rfl (Ah (Cr (F:=fun k=>Dl N g_0 p_1 a_2 b_3 l106 k108 k) h (α:=(List Int)×(List Int)×(List Bool)) (J:=fun | (l143,l144,l145)=>(⟨[(2,.int a_2),(3,.int b_3),(4,.ptr 4 0),(5,.ptr 5 0),(8,.ptr 8 0),(10,.row 20 0 ((List.replicate ((g_0.n).toNat) (0:Int)).length)),(12,.row 31 0 l144.length),(13,.row 34 0 ((List.replicate ((g_0.n).toNat) (false:Bool)).length)),(14,.int k108)],[(20,some (3,.ints l143)),(31,some (3,.ints l144)),(34,some (4,.bools l145))],[(4,some [.int g_0.n,.ro false (.pairs g_0.bars)]),(5,some [.ro false (.ints p_1.free),.ro false (.ints p_1.tails),.ro false (.ints p_1.placed)]),(8,some [.nil,.nil,.nil])]⟩:PS)) ?_ ?_))))))))
   ·rintro ⟨l143,l144,l145⟩ h;show VC _ _ _ (⟨[(2,.int a_2),(3,.int b_3),(4,.ptr 4 0),(5,.ptr 5 0),(8,.ptr 8 0),(10,.row 20 0 ((List.replicate ((g_0.n).toNat) (0:Int)).length)),(12,.row 31 0 l144.length),(13,.row 34 0 ((List.replicate ((g_0.n).toNat) (false:Bool)).length)),(14,.int k108)],[(20,some (3,.ints l143)),(31,some (3,.ints l144)),(34,some (4,.bools l145))],[(4,some [.int g_0.n,.ro false (.pairs g_0.bars)]),(5,some [.ro false (.ints p_1.free),.ro false (.ints p_1.tails),.ro false (.ints p_1.placed)]),(8,some [.nil,.nil,.nil])]⟩:PS);refine Ab (Aa O ?_);obtain ⟨hg5,h⟩:=Ac h;refine Ae tt O hg5 (Aa O (Ah ?_));show ∃ _,_;exact ⟨(l143,l144,l145,(k108+(1:Int))),(En.of ⟨O,O,O,O,O,O,O,O,O,Y⟩ ⟨O,O,O,Y⟩ ⟨O,O,O,Y⟩),h⟩
   intro k h;refine Aq (Bd (α:=(List Int)×(List Int)×(List Bool)×Int) (fun | (l149,l150,l151,i152)=>(⟨[(2,.int a_2),(3,.int b_3),(4,.ptr 4 0),(5,.ptr 5 0),(8,.ptr 8 0),(10,.row 20 0 ((List.replicate ((g_0.n).toNat) (0:Int)).length)),(12,.row 31 0 l150.length),(13,.row 34 0 ((List.replicate ((g_0.n).toNat) (false:Bool)).length)),(14,.int k108),(15,.int (l106.getD ((k108).toNat) 0)),(16,.int i152)],[(20,some (3,.ints l149)),(31,some (3,.ints l150)),(34,some (4,.bools l151))],[(4,some [.int g_0.n,.ro false (.pairs g_0.bars)]),(5,some [.ro false (.ints p_1.free),.ro false (.ints p_1.tails),.ro false (.ints p_1.placed)]),(8,some [.nil,.nil,.nil])]⟩:PS)) (Dl N g_0 p_1 a_2 b_3 l106 k108 k) h (En.of ⟨rfl,rfl,rfl,rfl,rfl,rfl,rfl,rfl,rfl,rfl,rfl,Y⟩ ⟨rfl,rfl,rfl,Y⟩ ⟨rfl,rfl,rfl,Y⟩) (fun _=>rfl) ?_);rintro n ⟨l149,l150,l151,i152⟩ h;rw [Dl] at h;show VC _ _ _ (⟨[(2,.int a_2),(3,.int b_3),(4,.ptr 4 0),(5,.ptr 5 0),(8,.ptr 8 0),(10,.row 20 0 ((List.replicate ((g_0.n).toNat) (0:Int)).length)),(12,.row 31 0 l150.length),(13,.row 34 0 ((List.replicate ((g_0.n).toNat) (false:Bool)).length)),(14,.int k108),(15,.int (l106.getD ((k108).toNat) 0)),(16,.int i152)],[(20,some (3,.ints l149)),(31,some (3,.ints l150)),(34,some (4,.bools l151))],[(4,some [.int g_0.n,.ro false (.pairs g_0.bars)]),(5,some [.ro false (.ints p_1.free),.ro false (.ints p_1.tails),.ro false (.ints p_1.placed)]),(8,some [.nil,.nil,.nil])]⟩:PS);refine Ai (Ai (Ab ?_));iterate 5 refine Aa O ?_
   refine Ah (Au O (fun hb6=>?_) (fun hb6=>?_))
   ·replace h:=Ak hb6 h;refine As (Ai (Aq (Ai (Ai (Ab (Aa O (Aa O (Aa O ?_))))))));obtain ⟨hg7,h⟩:=Ac h;refine Ae tt O hg7 (Aa O (Aa O (Aa O (Ah (Au O (fun hb8=>?_) (fun hb8=>?_))))))
    ·replace h:=Ak hb8 h;refine Bn (Ab (Aa O ?_));obtain ⟨hg9,h⟩:=Ac h;refine Ae tt O hg9 (Aa O (Ah ?_));show ∃ _,_;exact ⟨(l149,l150,l151,(i152+(1:Int))),(En.of ⟨O,O,O,O,O,O,O,O,O,O,O,Y⟩ ⟨O,O,O,Y⟩ ⟨O,O,O,Y⟩),h⟩
    replace h:=Al hb8 h;refine As (Ai (Bs (by kernel_rfl) (by kernel_rfl) ?_));iterate 5 refine Ax tt O (Ad O) O O O Y ?_
    obtain ⟨hg10,h⟩:=Ac h;refine Ax tt O (Ad O) O O O hg10 (Ax tt O (Ad O) O O O Y ?_);obtain ⟨hg11,h⟩:=Ac h;refine Ax tt O (Ad O) O O O hg11 ?_;iterate 2 refine Ax tt O (Ad O) O O O Y ?_
    obtain ⟨v155,hc12,h⟩:=Ag h;refine Hp (Rd N (g_0.bars.getD (((p_1.placed.getD ((i152).toNat) 0)).toNat) (0,0)) (l106.getD ((k108).toNat) 0) v155 hc12) O (Ad O) O O O O O O ⟨⟨O,O,Y⟩,O,Y⟩ (Ax tt O (Ad O) O O O Y (Hq (Ai (Ai (Ab (Aa O (Aa O ?_)))))));obtain ⟨hg13,h⟩:=Ac h;refine Ae tt O hg13 ?_;obtain ⟨hg14,h⟩:=Ac h;refine Ae tt O hg14 (Ah (Au O (fun hb15=>?_) (fun hb15=>?_)))
    ·replace h:=Ak hb15 h;refine Bn (Ab (Aa O ?_));obtain ⟨hg16,h⟩:=Ac h;refine Ae tt O hg16 (Aa O (Ah ?_));show ∃ _,_;exact ⟨(l149,l150,l151,(i152+(1:Int))),(En.of ⟨O,O,O,O,O,O,O,O,O,O,O,Y⟩ ⟨O,O,O,Y⟩ ⟨O,O,O,Y⟩),h⟩
    replace h:=Al hb15 h;refine As (Ai (Ab (Aa O (Aa O (Ae tt O hg13 (Ar tt O O O O O O O O O O ⟨_,_,O,hg14.1,hg14.2⟩ ⟨hg14,Y⟩ (Ah (Ai (Ab ?_)))))))));refine Aa O (Aa O (Aa O ?_));obtain ⟨hg17,h⟩:=Ac h;refine Ae tt O hg17 ?_;obtain ⟨hg18,h⟩:=Ac h;refine Ar tt O O O O O O O O O O ⟨_,_,O,hg18.1,hg18.2⟩ ⟨hg18,Y⟩ (Ah (Ai (Ai (Ab ?_))));iterate 4 refine Aa O ?_
    refine Bu O O O (fun hb19=>?_) (fun hb19=>?_)
    ·replace h:=Ak hb19 h;iterate 3 refine Bt tt O O O O O hb19 O O O Y ?_
     obtain ⟨hg20,h⟩:=Ac h;refine Bt tt O O O O O hb19 O O O hg20 ?_;iterate 2 refine Bt tt O O O O O hb19 O O O Y ?_
     refine Cf O O O O O hb19 O (Ah (Au O (fun hb21=>?_) (fun hb21=>?_)))
     ·replace h:=Ak hb21 h;refine Ai (Ab ?_);iterate 5 refine Aa O ?_
      obtain ⟨hg22,h⟩:=Ac h;obtain ⟨v156,hc23,h⟩:=Ag h;refine Ba (Aaf N g_0 p_1 (l149.set ((v155).toNat) i152) a_2 v155 v156 hc23) O O O O O O O O ⟨⟨O,O,Y⟩,⟨O,O,O,Y⟩,(.inl ⟨hg22,O⟩),O,O,Y⟩ (Ar tt O O O O O O O O O O O ⟨Y,Y,Y,Y⟩ (Aa O (Ah ?_)));show VC ..;cases h;cases halt
     replace h:=Al hb21 h;refine As (Ab (Aa O (Aa O (Ep tt O O O O O O O O O O O ?_))));obtain ⟨hg24,h⟩:=Ac h;refine Da tt O O O O O O O O O O O O O O O O (Nat.le_of_eq (Nat.zero_add _)) hg24 (Aa O (Ah (Ab (Aa O ?_))));obtain ⟨hg25,h⟩:=Ac h;refine Ae tt O hg25 (Aa O (Ah ?_));show ∃ _,_;exact ⟨((l149.set ((v155).toNat) i152),(l150++([v155]:List Int)),(l151.set ((v155).toNat) true),(i152+(1:Int))),(En.of ⟨O,O,O,O,O,O,O,O,O,O,O,Y⟩ ⟨O,O,O,Y⟩ ⟨O,O,O,Y⟩),h⟩
    replace h:=Al hb19 h;iterate 6 refine Sw O O O O hb19 O O ?_
    refine Bp O O O O O hb19 O (Ah (Gf O O (As (Ab (Aa O (Aa O (Ep tt O O O O O O O O O O O ?_)))))));obtain ⟨hg26,h⟩:=Ac h;refine Da tt O O O O O O O O O O O O O O O O (Nat.le_of_eq (Nat.zero_add _)) hg26 (Aa O (Ah (Ab (Aa O ?_))));obtain ⟨hg27,h⟩:=Ac h;refine Ae tt O hg27 (Aa O (Ah ?_));show ∃ _,_;exact ⟨((l149.set ((v155).toNat) i152),(l150++([v155]:List Int)),(l151.set ((v155).toNat) true),(i152+(1:Int))),(En.of ⟨O,O,O,O,O,O,O,O,O,O,O,Y⟩ ⟨O,O,O,Y⟩ ⟨O,O,O,Y⟩),h⟩
   replace h:=Al hb6 h;refine Bn ?_;show ∃ _,_;exact ⟨(l149,l150,l151),(En.of ⟨O,O,O,O,O,O,O,O,O,Y⟩ ⟨O,O,O,Y⟩ ⟨O,O,O,Y⟩),h⟩
  replace h:=Al hb3 h;refine Bn ?_;show ∃ _,_;exact ⟨(),(En.of ⟨O,O,Y⟩ trivial ⟨O,O,Y⟩),h⟩
 intro k h;refine Aq (Bd (α:=(List Int)×Int) (fun | (l158,i159)=>(⟨[(2,.int a_2),(3,.int b_3),(4,.ptr 4 0),(5,.ptr 5 0),(8,.ptr 8 0),(10,.row 20 0 ((List.replicate ((g_0.n).toNat) (0:Int)).length)),(11,.int i159)],[(20,some (3,.ints l158))],[(4,some [.int g_0.n,.ro false (.pairs g_0.bars)]),(5,some [.ro false (.ints p_1.free),.ro false (.ints p_1.tails),.ro false (.ints p_1.placed)]),(8,some [.nil,.nil,.nil])]⟩:PS)) (Fz N g_0 k) h (En.of ⟨rfl,rfl,rfl,rfl,rfl,rfl,rfl,Y⟩ ⟨rfl,Y⟩ ⟨rfl,rfl,rfl,Y⟩) (fun _=>rfl) ?_);rintro n ⟨l158,i159⟩ h;rw [Fz] at h;show VC _ _ _ (⟨[(2,.int a_2),(3,.int b_3),(4,.ptr 4 0),(5,.ptr 5 0),(8,.ptr 8 0),(10,.row 20 0 ((List.replicate ((g_0.n).toNat) (0:Int)).length)),(11,.int i159)],[(20,some (3,.ints l158))],[(4,some [.int g_0.n,.ro false (.pairs g_0.bars)]),(5,some [.ro false (.ints p_1.free),.ro false (.ints p_1.tails),.ro false (.ints p_1.placed)]),(8,some [.nil,.nil,.nil])]⟩:PS);refine Ai (Ai (Ab ?_));iterate 4 refine Aa O ?_
 refine Ah (Au O (fun hb28=>?_) (fun hb28=>?_))
 ·replace h:=Ak hb28 h;refine As (Ai (Aq (Ab (Aa O (Aa O ?_)))));obtain ⟨hg29,h⟩:=Ac h;refine Ae tt O hg29 ?_;obtain ⟨hg30,h⟩:=Ac h;refine Ar tt O O O O O O O O O O ⟨_,_,O,hg30.1,hg30.2⟩ ⟨hg30,Y⟩ (Ah (Ab (Aa O ?_)));obtain ⟨hg31,h⟩:=Ac h;refine Ae tt O hg31 (Aa O (Ah ?_));show ∃ _,_;exact ⟨((l158.set ((i159).toNat) (-1:Int)),(i159+(1:Int))),(En.of ⟨O,O,O,O,O,O,O,Y⟩ ⟨O,Y⟩ ⟨O,O,O,Y⟩),h⟩
 replace h:=Al hb28 h;refine Bn ?_;show ∃ _,_;exact ⟨l158,(En.of ⟨O,O,O,O,O,O,Y⟩ ⟨O,Y⟩ ⟨O,O,O,Y⟩),h⟩
def Eg (N:Nat) (g_0:Grf) (a_2:Int) (b_3:Int) (want_4:Int) (k:((List Int)×(List Int)×(List Int))→Option (Pbl×Bool)):Nat→((List Int)×(List Int)×(List Int))→Option (Pbl×Bool)
 | 0,_=>none
 | n+1,(l17,l18,l19)=>
  grd (0≤a_2∧a_2<(l17.length:Int)) <|
  grd (0≤b_3∧b_3<(l17.length:Int)) <|
  grd (Bc ((l17.getD ((a_2).toNat) 0)+(l17.getD ((b_3).toNat) 0))) <|
  cnd (decide (((l17.getD ((a_2).toNat) 0)+(l17.getD ((b_3).toNat) 0))<want_4)) (
   (Lg N g_0 (⟨l17,l18,l19⟩:Pbl) a_2 b_3).bind fun v22=>
   cnd v22.2 (
    Eg N g_0 a_2 b_3 want_4 k n (v22.1.free,v22.1.tails,v22.1.placed)) (
    (Lg N g_0 (⟨l17,l18,l19⟩:Pbl) b_3 a_2).bind fun v23=>
    cnd v23.2 (
     Eg N g_0 a_2 b_3 want_4 k n (v23.1.free,v23.1.tails,v23.1.placed)) (
     some ((⟨l17,l18,l19⟩:Pbl),false)))) (
   k (l17,l18,l19))
def Mm (N:Nat) (g_0:Grf) (p_1:Pbl) (a_2:Int) (b_3:Int) (want_4:Int):Option (Pbl×Bool):=
 (Sm N p_1).bind fun v1=>
 Eg N g_0 a_2 b_3 want_4 (fun (x:(List Int)×(List Int)×(List Int))=>
   match x with
   | (l11,l12,l13)=>
    some ((⟨l11,l12,l13⟩:Pbl),true)) N (v1.free,v1.tails,v1.placed)
theorem S_l4Gather_w (N:Nat) (g_0:Grf) (p_1:Pbl) (a_2:Int) (b_3:Int) (want_4:Int) (r:Pbl×Bool) (h:Mm N g_0 p_1 a_2 b_3 want_4=some r):PCall Try.prog 70 [gD g_0,bD p_1,.int a_2,.int b_3,.int want_4] [(3,.ints r.1.free),(3,.ints r.1.tails),(3,.ints r.1.placed)] (.tup [.agg [.row 0 0 r.1.free.length,.row 1 0 r.1.tails.length,.row 2 0 r.1.placed.length],.bool r.2]):=by
 unfold Mm at h;refine Aj (TT:=TT) tt Try.func70 O O Try.ntmps70 (congrArg Array.toList Try.results70) O O fun w0=>(Ai (Ab ?_));iterate 2 refine Lh O O O O O O O O O ?_
 refine Bw tt O O O O O O O O O (Aa O (Ah (Ai (Ab (Aa O ?_)))));obtain ⟨v1,hc1,h⟩:=Ag h;refine Ba (Aa3 N p_1 v1 hc1) rfl rfl rfl rfl rfl rfl rfl rfl ⟨⟨rfl,rfl,rfl,Y⟩,Y⟩ (Bw tt rfl rfl rfl rfl rfl rfl rfl rfl rfl (Ar tt rfl rfl rfl rfl rfl rfl rfl rfl rfl rfl rfl ⟨Y,Y,Y,Y⟩ (Ah (Ai (Cr (F:=fun k=>Eg N g_0 a_2 b_3 want_4 k) h (α:=(List Int)×(List Int)×(List Int)) (J:=fun | (l11,l12,l13)=>(⟨[(10,.ptr 10 0),(12,.ptr 12 0)],[(1160,some (3,.ints l11)),(1161,some (3,.ints l12)),(1162,some (3,.ints l13))],[(10,some [.nil,.nil,.nil]),(12,some [.row 1160 0 l11.length,.row 1161 0 l12.length,.row 1162 0 l13.length])]⟩:PS)) ?_ ?_)))))
 ·rintro ⟨l11,l12,l13⟩ h;show VC _ _ _ (⟨[(10,.ptr 10 0),(12,.ptr 12 0)],[(1160,some (3,.ints l11)),(1161,some (3,.ints l12)),(1162,some (3,.ints l13))],[(10,some [.nil,.nil,.nil]),(12,some [.row 1160 0 l11.length,.row 1161 0 l12.length,.row 1162 0 l13.length])]⟩:PS);refine Ai (Ab (Aa O (Ar tt O O O O O O O O O O O ⟨Y,Y,Y,Y⟩ (Aa O (Ah (Az ?_))))));show ∃ _,_;cases h;exact ⟨[1160,1161,1162],_,O,⟨O,O,O,Y⟩,O,.eq O,O⟩
 intro k h;refine Aq (Bd (α:=(List Int)×(List Int)×(List Int)) (fun | (l17,l18,l19)=>(⟨[(2,.int a_2),(3,.int b_3),(4,.int want_4),(5,.ptr 5 0),(10,.ptr 10 0),(12,.ptr 12 0)],[(1160,some (3,.ints l17)),(1161,some (3,.ints l18)),(1162,some (3,.ints l19))],[(5,some [.int g_0.n,.ro false (.pairs g_0.bars)]),(10,some [.nil,.nil,.nil]),(12,some [.row 1160 0 l17.length,.row 1161 0 l18.length,.row 1162 0 l19.length])]⟩:PS)) (Eg N g_0 a_2 b_3 want_4 k) h (En.of ⟨rfl,rfl,rfl,rfl,rfl,rfl,Y⟩ ⟨rfl,rfl,rfl,Y⟩ ⟨rfl,rfl,rfl,Y⟩) (fun _=>rfl) ?_);rintro n ⟨l17,l18,l19⟩ h;rw [Eg] at h;show VC _ _ _ (⟨[(2,.int a_2),(3,.int b_3),(4,.int want_4),(5,.ptr 5 0),(10,.ptr 10 0),(12,.ptr 12 0)],[(1160,some (3,.ints l17)),(1161,some (3,.ints l18)),(1162,some (3,.ints l19))],[(5,some [.int g_0.n,.ro false (.pairs g_0.bars)]),(10,some [.nil,.nil,.nil]),(12,some [.row 1160 0 l17.length,.row 1161 0 l18.length,.row 1162 0 l19.length])]⟩:PS);refine Ai (Ai (Bs (by kernel_rfl) (by kernel_rfl) ?_));iterate 3 refine Ax tt O (Ad O) O O O Y ?_
 obtain ⟨hg2,h⟩:=Ac h;iterate 2 refine Ax tt O (Ad O) O O O hg2 ?_
 iterate 3 refine Ax tt O (Ad O) O O O Y ?_
 obtain ⟨hg3,h⟩:=Ac h;iterate 2 refine Ax tt O (Ad O) O O O hg3 ?_
 obtain ⟨hg4,h⟩:=Ac h;refine Ax tt O (Ad O) O O O hg4 ?_;iterate 2 refine Ax tt O (Ad O) O O O Y ?_
 refine Hq (Au O (fun hb5=>?_) (fun hb5=>?_))
 ·replace h:=Ak hb5 h;refine As (Aq (Ai (Ab ?_)));iterate 4 refine Aa O ?_
  obtain ⟨v22,hc6,h⟩:=Ag h;refine bsplit v22.2 (fun hb7=>?_) (fun hb7=>?_)
  ·replace h:=Ak hb7 h;refine Ba (Aaj N g_0 (⟨l17,l18,l19⟩:Pbl) a_2 b_3 v22 hc6 hb7) O O O O O O O O ⟨⟨O,O,Y⟩,⟨(.inl ⟨O,O⟩),(.inl ⟨O,O⟩),(.inl ⟨O,O⟩),Y⟩,O,O,Y⟩ (Aa O (Aa O (Aa O (Bw tt O O O O O O O O O (Ar tt O O O O O O O O O O O ⟨Y,Y,Y,Y⟩ (Aa O (Ah (Ai (Ai ?_)))))))));refine Ab (Aa O (Aa O (Ah (Gf O (by rw [hb7]; rfl) (As (Ai (Ai (Ab (Aa O ?_)))))))));refine Aa O (Ah (Gf O (by rw [hb7]; rfl) (As (Ab (Aa O (Ar tt O O O O O O O O O O O ⟨Y,Y,Y,Y⟩ (Ah ?_)))))));show ∃ _,_;exact ⟨(v22.1.free,v22.1.tails,v22.1.placed),(En.ren [1160,1161,1162] [1350,1351,1352] O ⟨.inr O,.inr O,.inr O,.inr O,.inr O,.inr O,Y⟩ ⟨.inr O,.inr O,.inr O,Y⟩ ⟨.inr ⟨_,_,O,O,⟨.inr O,.inr O,Y⟩⟩,.inr ⟨_,_,O,O,⟨.inr O,.inr O,.inr O,Y⟩⟩,.inr ⟨_,_,O,O,⟨.inr O,.inr O,.inr O,Y⟩⟩,Y⟩),h⟩
  replace h:=Al hb7 h;refine Ba (Zy N g_0 (⟨l17,l18,l19⟩:Pbl) a_2 b_3 v22 hc6 hb7) O O O O O O O O ⟨⟨O,O,Y⟩,⟨(.inl ⟨O,O⟩),(.inl ⟨O,O⟩),(.inl ⟨O,O⟩),Y⟩,O,O,Y⟩ (Aa O (Aa O (Aa O (Bw tt O O O O O O O O O (Ar tt O O O O O O O O O O O ⟨Y,Y,Y,Y⟩ (Aa O (Ah (Ai (Ai ?_)))))))));refine Ab (Aa O (Aa O (Ah (Ce O (by rw [hb7]; rfl) (Ab ?_)))));iterate 4 refine Aa O ?_
  obtain ⟨v23,hc8,h⟩:=Ag h;refine bsplit v23.2 (fun hb9=>?_) (fun hb9=>?_)
  ·replace h:=Ak hb9 h;refine Ba (Aaj N g_0 (⟨l17,l18,l19⟩:Pbl) b_3 a_2 v23 hc8 hb9) O O O O O O O O ⟨⟨O,O,Y⟩,⟨(.inl ⟨O,O⟩),(.inl ⟨O,O⟩),(.inl ⟨O,O⟩),Y⟩,O,O,Y⟩ (Aa O (Aa O (Aa O (Ar tt O O O O O O O O O O O ⟨Y,Y,Y,Y⟩ (Aa O (Ah (Ai (Ai (Ab ?_)))))))));refine Aa O (Aa O (Ah (Gf O (by rw [hb9]; rfl) (As (Ab (Aa O (Ar tt O O O O O O O O O O O ⟨Y,Y,Y,Y⟩ (Ah ?_))))))));show ∃ _,_;exact ⟨(v23.1.free,v23.1.tails,v23.1.placed),(En.ren [1160,1161,1162] [1450,1451,1452] O ⟨.inr O,.inr O,.inr O,.inr O,.inr O,.inr O,Y⟩ ⟨.inr O,.inr O,.inr O,Y⟩ ⟨.inr ⟨_,_,O,O,⟨.inr O,.inr O,Y⟩⟩,.inr ⟨_,_,O,O,⟨.inr O,.inr O,.inr O,Y⟩⟩,.inr ⟨_,_,O,O,⟨.inr O,.inr O,.inr O,Y⟩⟩,Y⟩),h⟩
  replace h:=Al hb9 h;refine Ba (Zy N g_0 (⟨l17,l18,l19⟩:Pbl) b_3 a_2 v23 hc8 hb9) O O O O O O O O ⟨⟨O,O,Y⟩,⟨(.inl ⟨O,O⟩),(.inl ⟨O,O⟩),(.inl ⟨O,O⟩),Y⟩,O,O,Y⟩ (Aa O (Aa O (Aa O (Ar tt O O O O O O O O O O O ⟨Y,Y,Y,Y⟩ (Aa O (Ah (Ai (Ai (Ab ?_)))))))));refine Aa O (Aa O (Ah (Ce O (by rw [hb9]; rfl) (Ai (Ab (Aa O (Ar tt O O O O O O O O O O O ⟨Y,Y,Y,Y⟩ (Aa O (Ah ?_)))))))));refine Az ?_;show ∃ _,_;cases h;exact ⟨[1160,1161,1162],_,O,⟨O,O,O,Y⟩,O,.eq O,O⟩
 replace h:=Al hb5 h;refine Bn ?_;show ∃ _,_;exact ⟨(l17,l18,l19),(En.of ⟨O,O,Y⟩ ⟨O,O,O,Y⟩ ⟨O,O,Y⟩),h⟩
def Jc (N:Nat) (points_0:Int) (bars_1:List (Int×Int)):Option (Int):=
 (I_play N points_0 bars_1 (2:Int) (3:Int)).bind fun v1=>
 some (v1.placed.length:Int)
theorem Vv (N:Nat) (points_0:Int) (bars_1:List (Int×Int)) (r:Int) (h:Jc N points_0 bars_1=some r):PCall Try.prog 65 [.int points_0,.ro false (.pairs bars_1)] [] (.int r):=by
 unfold Jc at h;refine Aj (TT:=TT) tt Try.func65 O O Try.ntmps65 (congrArg Array.toList Try.results65) O O fun w0=>(Ai (Ab (Aa O (Ah (Ai (Ab (Aa O (Aa O ?_))))))));obtain ⟨v1,hc1,h⟩:=Ag h;refine Ba (I_play_w N points_0 bars_1 (2:Int) (3:Int) v1 hc1) O O O O O O O O ⟨O,O,O,O,Y⟩ (Km (Ad O) (pField (fld (off:=2) (by kernel_rfl)) O O O) O O (Aa O (Aa O (Ah (Az ?_)))));show ∃ _,_;cases h;exact ⟨[],_,O,Y,O,.eq O,O⟩
end
section
open Go.RowKit
def Ft (N:Nat) (p_0:Pin) (k:Unit→Option (Bool)):Nat→Int→Option (Bool)
 | 0,_=>none
 | n+1,i13=>
  cnd (decide (i13<(p_0.g.bars.length:Int))) (
   grd (0≤i13∧i13<(p_0.g.bars.length:Int)) <|
   (Fe N p_0.ground ((p_0.g.bars.getD ((i13).toNat) (0,0)).1)).bind fun v16=>
   cnd v16 (
    (Fe N p_0.ground ((p_0.g.bars.getD ((i13).toNat) (0,0)).2)).bind fun v17=>
    cnd v17 (
     some false) (
     grd (Bc (i13+(1:Int))) <|
     Ft N p_0 k n (i13+(1:Int)))) (
    grd (Bc (i13+(1:Int))) <|
    Ft N p_0 k n (i13+(1:Int)))) (
   k ())
def Fw (N:Nat) (p_0:Pin) (k:Unit→Option (Bool)):Nat→Int→Option (Bool)
 | 0,_=>none
 | n+1,i19=>
  cnd (decide (i19<(p_0.ground.length:Int))) (
   grd (0≤i19∧i19<(p_0.ground.length:Int)) <|
   cnd (decide ((p_0.ground.getD ((i19).toNat) 0)<(0:Int))) (
    some false) (
    cnd (decide ((p_0.ground.getD ((i19).toNat) 0)≥p_0.g.n)) (
     some false) (
     cnd (decide (i19 > (0:Int))) (
      grd (Bc (i19-(1:Int))) <|
      grd (0≤(i19-(1:Int))∧(i19-(1:Int))<(p_0.ground.length:Int)) <|
      cnd (decide ((p_0.ground.getD (((i19-(1:Int))).toNat) 0)≥(p_0.ground.getD ((i19).toNat) 0))) (
       some false) (
       grd (Bc (i19+(1:Int))) <|
       Fw N p_0 k n (i19+(1:Int)))) (
      grd (Bc (i19+(1:Int))) <|
      Fw N p_0 k n (i19+(1:Int)))))) (
   k ())
def Ka (N:Nat) (p_0:Pin):Option (Bool):=
 Fw N p_0 (fun (_ : Unit) =>
    Ft N p_0 (fun (_ : Unit) =>
       (Pa N p_0.g).bind fun v9=>
       cnd v9 (
        cnd (decide ((p_0.ground.length:Int)≥(2:Int))) (
         cnd (decide ((p_0.g.bars.length:Int)≤(15:Int))) (
          grd (Bc ((2:Int)*(p_0.ground.length:Int))) <|
          grd (Bc ((p_0.g.bars.length:Int)+((2:Int)*(p_0.ground.length:Int)))) <|
          grd (Bc (((p_0.g.bars.length:Int)+((2:Int)*(p_0.ground.length:Int)))-(3:Int))) <|
          some (decide ((((p_0.g.bars.length:Int)+((2:Int)*(p_0.ground.length:Int)))-(3:Int))≤(24:Int)))) (
          some false)) (
         some false)) (
        some false)) N (0:Int)) N (0:Int)
theorem Pr (N:Nat) (p_0:Pin) (r:Bool) (h:Ka N p_0=some r):PCall Try.prog 40 [pD p_0] [] (.bool r):=by
 unfold Ka at h;refine Aj (TT:=TT) tt Try.func40 O O Try.ntmps40 (congrArg Array.toList Try.results40) O O fun w0=>(Ai (Ab (Lh O O O O O O O O O (Aa O (Ah (Ai (Ai (Ab (Aa O ?_)))))))));refine Ah (Cr (F:=fun k=>Fw N p_0 k) h (α:=Unit) (J:=fun (_:Unit)=>(⟨[(1,.ptr 1 0)],[],[(1,some [.int p_0.g.n,.ro false (.pairs p_0.g.bars),.ro false (.ints p_0.ground)])]⟩:PS)) ?_ ?_)
 ·rintro ⟨⟩ h;show VC _ _ _ (⟨[(1,.ptr 1 0)],[],[(1,some [.int p_0.g.n,.ro false (.pairs p_0.g.bars),.ro false (.ints p_0.ground)])]⟩:PS);refine Ai (Ai (Ab (Aa O (Ah (Cr (F:=fun k=>Ft N p_0 k) h (α:=Unit) (J:=fun (_:Unit)=>(⟨[(1,.ptr 1 0)],[],[(1,some [.int p_0.g.n,.ro false (.pairs p_0.g.bars),.ro false (.ints p_0.ground)])]⟩:PS)) ?_ ?_)))))
  ·rintro ⟨⟩ h;show VC _ _ _ (⟨[(1,.ptr 1 0)],[],[(1,some [.int p_0.g.n,.ro false (.pairs p_0.g.bars),.ro false (.ints p_0.ground)])]⟩:PS);refine Ai (Ab (Aa O (Aa O ?_)));obtain ⟨v9,hc1,h⟩:=Ag h;refine Ba (S_l17Simple_w N p_0.g v9 hc1) O O O O O O O O ⟨⟨O,O,Y⟩,Y⟩ (Aa O (Bu O O O (fun hb2=>?_) (fun hb2=>?_)))
   ·replace h:=Ak hb2 h;iterate 4 refine Bt tt O O O O O hb2 O O O Y ?_
    refine Cf O O O O O hb2 O (Aa O (Bu O O O (fun hb3=>?_) (fun hb3=>?_)))
    ·replace h:=Ak hb3 h;iterate 5 refine Bt tt O O O O O hb3 O O O Y ?_
     refine Cf O O O O O hb3 O (Aa O (Bu O O O (fun hb4=>?_) (fun hb4=>?_)))
     ·replace h:=Ak hb4 h;iterate 7 refine Bt tt O O O O O hb4 O O O Y ?_
      obtain ⟨hg5,h⟩:=Ac h;refine Bt tt O O O O O hb4 O O O hg5 ?_;obtain ⟨hg6,h⟩:=Ac h;refine Bt tt O O O O O hb4 O O O hg6 ?_;obtain ⟨hg7,h⟩:=Ac h;refine Bt tt O O O O O hb4 O O O hg7 (Bt tt O O O O O hb4 O O O Y (Cf O O O O O hb4 O (Aa O (Ah (Az ?_)))));show ∃ _,_;cases h;exact ⟨[],_,O,Y,O,.eq O,O⟩
     replace h:=Al hb4 h;iterate 11 refine Sw O O O O hb4 O O ?_
     refine Bp O O O O O hb4 O (Aa O (Ah (Az ?_)));show ∃ _,_;cases h;exact ⟨[],_,O,Y,O,.eq O,O⟩
    replace h:=Al hb3 h;iterate 5 refine Sw O O O O hb3 O O ?_
    refine Bp O O O O O hb3 O (Aa O ?_);iterate 11 refine Sw O O O O O O O ?_
    refine Bp O O O O O O O (Aa O (Ah (Az ?_)));show ∃ _,_;cases h;exact ⟨[],_,O,Y,O,.eq O,O⟩
   replace h:=Al hb2 h;iterate 4 refine Sw O O O O hb2 O O ?_
   refine Bp O O O O O hb2 O (Aa O ?_);iterate 5 refine Sw O O O O O O O ?_
   refine Bp O O O O O O O (Aa O ?_);iterate 11 refine Sw O O O O O O O ?_
   refine Bp O O O O O O O (Aa O (Ah (Az ?_)));show ∃ _,_;cases h;exact ⟨[],_,O,Y,O,.eq O,O⟩
  intro k h;refine Aq (Bd (α:=Int) (fun (i13:Int)=>(⟨[(1,.ptr 1 0),(4,.int i13)],[],[(1,some [.int p_0.g.n,.ro false (.pairs p_0.g.bars),.ro false (.ints p_0.ground)])]⟩:PS)) (Ft N p_0 k) h (En.of ⟨O,O,Y⟩ trivial ⟨O,Y⟩) (fun _=>O) ?_);rintro n i13 h;rw [Ft] at h;show VC _ _ _ (⟨[(1,.ptr 1 0),(4,.int i13)],[],[(1,some [.int p_0.g.n,.ro false (.pairs p_0.g.bars),.ro false (.ints p_0.ground)])]⟩:PS);refine Ai (Ai (Ab ?_));iterate 6 refine Aa O ?_
  refine Ah (Au O (fun hb8=>?_) (fun hb8=>?_))
  ·replace h:=Ak hb8 h;refine As (Ai (Aq (Ai (Bs (by kernel_rfl) (by kernel_rfl) ?_))));iterate 6 refine Ax tt O (Ad O) O O O Y ?_
   obtain ⟨hg9,h⟩:=Ac h;refine Ax tt O (Ad O) O O O hg9 ?_;iterate 2 refine Ax tt O (Ad O) O O O Y ?_
   obtain ⟨v16,hc10,h⟩:=Ag h;refine Hp (Eu N p_0.ground ((p_0.g.bars.getD ((i13).toNat) (0,0)).1) v16 hc10) O (Ad O) O O O O O O ⟨O,O,Y⟩ (Ax tt O (Ad O) O O O Y (Dj O O O (fun hb11=>?_) (fun hb11=>?_)))
   ·replace h:=Ak hb11 h;iterate 6 refine Ax tt O (Av O O O O hb11) O O O Y ?_
    refine Ax tt O (Av O O O O hb11) O O O hg9 ?_;iterate 2 refine Ax tt O (Av O O O O hb11) O O O Y ?_
    obtain ⟨v17,hc12,h⟩:=Ag h;refine Hp (Eu N p_0.ground ((p_0.g.bars.getD ((i13).toNat) (0,0)).2) v17 hc12) O (Av O O O O hb11) O O O O O O ⟨O,O,Y⟩ (Ay O (Ad O) O O O hb11 O (Hq (Au O (fun hb13=>?_) (fun hb13=>?_))))
    ·replace h:=Ak hb13 h;refine Ai (Ab (Aa O (Ah (Az ?_))));show ∃ _,_;cases h;exact ⟨[],_,O,Y,O,.eq O,O⟩
    replace h:=Al hb13 h;refine As (Ab (Aa O ?_));obtain ⟨hg14,h⟩:=Ac h;refine Ae tt O hg14 (Aa O (Ah ?_));show ∃ _,_;exact ⟨(i13+(1:Int)),(En.of ⟨O,O,Y⟩ trivial ⟨O,Y⟩),h⟩
   replace h:=Al hb11 h;iterate 10 refine cNoT O O O O hb11 O O ?_
   refine Ct O (Ad O) O O O hb11 O (Hq (Gf O O (As (Ab (Aa O ?_)))));obtain ⟨hg15,h⟩:=Ac h;refine Ae tt O hg15 (Aa O (Ah ?_));show ∃ _,_;exact ⟨(i13+(1:Int)),(En.of ⟨O,O,Y⟩ trivial ⟨O,Y⟩),h⟩
  replace h:=Al hb8 h;refine Bn ?_;show ∃ _,_;exact ⟨(),(En.of ⟨O,Y⟩ trivial ⟨O,Y⟩),h⟩
 intro k h;refine Aq (Bd (α:=Int) (fun (i19:Int)=>(⟨[(1,.ptr 1 0),(3,.int i19)],[],[(1,some [.int p_0.g.n,.ro false (.pairs p_0.g.bars),.ro false (.ints p_0.ground)])]⟩:PS)) (Fw N p_0 k) h (En.of ⟨O,O,Y⟩ trivial ⟨O,Y⟩) (fun _=>O) ?_);rintro n i19 h;rw [Fw] at h;show VC _ _ _ (⟨[(1,.ptr 1 0),(3,.int i19)],[],[(1,some [.int p_0.g.n,.ro false (.pairs p_0.g.bars),.ro false (.ints p_0.ground)])]⟩:PS);refine Ai (Ai (Ab ?_));iterate 5 refine Aa O ?_
 refine Ah (Au O (fun hb16=>?_) (fun hb16=>?_))
 ·replace h:=Ak hb16 h;refine As (Ai (Aq (Ai (Bs (by kernel_rfl) (by kernel_rfl) ?_))));iterate 3 refine Ax tt O (Ad O) O O O Y ?_
  obtain ⟨hg17,h⟩:=Ac h;refine Ax tt O (Ad O) O O O hg17 ?_;iterate 3 refine Ax tt O (Ad O) O O O Y ?_
  refine Dj O O O (fun hb18=>?_) (fun hb18=>?_)
  ·replace h:=Ak hb18 h;iterate 9 refine Ex O O O O hb18 O O ?_
   refine Ay O (Ad O) O O O hb18 O (Ax tt O (Ad O) O O O Y ?_);iterate 3 refine Ex O O O O O O O ?_
   iterate 12 refine cNoU O O O O O ?_
   refine Ex O O O O O O O (Ay O (Ad O) O O O O O (Hq (Ce O O (Ai (Ab (Aa O (Ah (Az ?_))))))));show ∃ _,_;cases h;exact ⟨[],_,O,Y,O,.eq O,O⟩
  replace h:=Al hb18 h;iterate 3 refine Ax tt O (Av O O O O hb18) O O O Y ?_
  refine Ax tt O (Av O O O O hb18) O O O hg17 ?_;iterate 5 refine Ax tt O (Av O O O O hb18) O O O Y ?_
  refine Ct O (Ad O) O O O hb18 O (Ax tt O (Ad O) O O O Y (Dj O O O (fun hb19=>?_) (fun hb19=>?_)))
  ·replace h:=Ak hb19 h;iterate 3 refine Ex O O O O hb19 O O ?_
   iterate 12 refine cNoU O O O O O ?_
   refine Ex O O O O hb19 O O (Ay O (Ad O) O O O hb19 O (Hq (Ce O O (Ai (Ab (Aa O (Ah (Az ?_))))))));show ∃ _,_;cases h;exact ⟨[],_,O,Y,O,.eq O,O⟩
  replace h:=Al hb19 h;iterate 3 refine Ax tt O (Av O O O O hb19) O O O Y ?_
  refine Dj O O O (fun hb20=>?_) (fun hb20=>?_)
  ·replace h:=Ak hb20 h;iterate 3 refine Ax tt O (Av O O O O hb20) O O O Y ?_
   obtain ⟨hg21,h⟩:=Ac h;refine Ax tt O (Av O O O O hb20) O O O hg21 ?_;obtain ⟨hg22,h⟩:=Ac h;refine Ax tt O (Av O O O O hb20) O O O hg22 ?_;iterate 4 refine Ax tt O (Av O O O O hb20) O O O Y ?_
   refine Ax tt O (Av O O O O hb20) O O O hg17 ?_;iterate 2 refine Ax tt O (Av O O O O hb20) O O O Y ?_
   refine Ay O (Av O O O O hb19) O O O hb20 O (Ct O (Ad O) O O O hb19 O (Hq (Au O (fun hb23=>?_) (fun hb23=>?_))))
   ·replace h:=Ak hb23 h;refine Ai (Ab (Aa O (Ah (Az ?_))));show ∃ _,_;cases h;exact ⟨[],_,O,Y,O,.eq O,O⟩
   replace h:=Al hb23 h;refine As (Ab (Aa O ?_));obtain ⟨hg24,h⟩:=Ac h;refine Ae tt O hg24 (Aa O (Ah ?_));show ∃ _,_;exact ⟨(i19+(1:Int)),(En.of ⟨O,O,Y⟩ trivial ⟨O,Y⟩),h⟩
  replace h:=Al hb20 h;iterate 12 refine cNoT O O O O hb20 O O ?_
  refine Ct O (Av O O O O hb19) O O O hb20 O (Ct O (Ad O) O O O hb19 O (Hq (Gf O O (As (Ab (Aa O ?_))))));obtain ⟨hg25,h⟩:=Ac h;refine Ae tt O hg25 (Aa O (Ah ?_));show ∃ _,_;exact ⟨(i19+(1:Int)),(En.of ⟨O,O,Y⟩ trivial ⟨O,Y⟩),h⟩
 replace h:=Al hb16 h;refine Bn ?_;show ∃ _,_;exact ⟨(),(En.of ⟨O,Y⟩ trivial ⟨O,Y⟩),h⟩
def Db (N:Nat) (p_0:Pin) (k:(List Int)→Option (List Int)):Nat→((List Int)×Int)→Option (List Int)
 | 0,_=>none
 | n+1,(l17,i18)=>
  cnd (decide (i18<p_0.g.n)) (
   (Ka N p_0).bind fun v21=>
   cnd v21 (
    (Fe N p_0.ground i18).bind fun v22=>
    cnd (!v22) (
     grd (l17.length+1≤4294967296) <|
     grd (Bc (i18+(1:Int))) <|
     Db N p_0 k n ((l17++([i18]:List Int)),(i18+(1:Int)))) (
     grd (Bc (i18+(1:Int))) <|
     Db N p_0 k n (l17,(i18+(1:Int))))) (
    k l17)) (
   k l17)
def Dv (N:Nat) (p_0:Pin):Option (List Int):=
 Db N p_0 (fun (l11 : List Int) =>
    some l11) N (([]:List Int),(0:Int))
theorem Gr (N:Nat) (p_0:Pin) (r:List Int) (h:Dv N p_0=some r):PCall Try.prog 20 [pD p_0] [(3,.ints r)] (.row 0 0 r.length):=by
 unfold Dv at h;refine Aj (TT:=TT) tt Try.func20 O O Try.ntmps20 (congrArg Array.toList Try.results20) O O fun w0=>(Ai (Ab (Lh O O O O O O O O O (Aa O (Ah (Ai (Ab (Gt tt (Ad O) O O O O (Aa O ?_)))))))));refine Ah (Ai (Ai (Ab (Aa O (Ah (Cr (F:=fun k=>Db N p_0 k) h (α:=List Int) (J:=fun (l11:List Int)=>(⟨[(3,.row 25 0 l11.length)],[(25,some (3,.ints l11))],[]⟩:PS)) ?_ ?_))))))
 ·rintro l11 h;show VC _ _ _ (⟨[(3,.row 25 0 l11.length)],[(25,some (3,.ints l11))],[]⟩:PS);refine Ai (Ab (Aa O (Aa O (Ah (Az ?_)))));show ∃ _,_;cases h;exact ⟨[25],_,O,⟨O,Y⟩,O,.eq O,O⟩
 intro k h;refine Aq (Lc 3 25 3 (.ints []) rfl rfl rfl rfl (Bd (α:=(List Int)×Int) (fun | (l17,i18)=>(⟨[(1,.ptr 1 0),(3,.row 25 0 l17.length),(4,.int i18)],[(25,some (3,.ints l17))],[(1,some [.int p_0.g.n,.ro false (.pairs p_0.g.bars),.ro false (.ints p_0.ground)])]⟩:PS)) (Db N p_0 k) h (En.of ⟨rfl,rfl,rfl,Y⟩ ⟨rfl,Y⟩ ⟨rfl,Y⟩) (fun _=>rfl) ?_));rintro n ⟨l17,i18⟩ h;rw [Db] at h;show VC _ _ _ (⟨[(1,.ptr 1 0),(3,.row 25 0 l17.length),(4,.int i18)],[(25,some (3,.ints l17))],[(1,some [.int p_0.g.n,.ro false (.pairs p_0.g.bars),.ro false (.ints p_0.ground)])]⟩:PS);refine Ai (Ai (Ab ?_));iterate 6 refine Aa O ?_
 refine Bu O O O (fun hb1=>?_) (fun hb1=>?_)
 ·replace h:=Ak hb1 h;refine Bt tt O O O O O hb1 O O O Y ?_;obtain ⟨v21,hc2,h⟩:=Ag h;refine Ll (Pr N p_0 v21 hc2) O O O O hb1 O O O O O O O ⟨⟨O,O,O,Y⟩,Y⟩ (Cf O O O O O hb1 O (Ah (Au O (fun hb3=>?_) (fun hb3=>?_))))
  ·replace h:=Ak hb3 h;refine As (Ai (Aq (Ai (Ab (Aa O (Aa O (Aa O ?_)))))));obtain ⟨v22,hc4,h⟩:=Ag h;refine Ba (Eu N p_0.ground i18 v22 hc4) O O O O O O O O ⟨O,O,Y⟩ (Aa O (Ah (Au O (fun hb5=>?_) (fun hb5=>?_))))
   ·replace h:=Ak hb5 h;refine Ab (Aa O (Aa O (Ep tt O O O O O O O O O O O ?_)));obtain ⟨hg6,h⟩:=Ac h;refine Da tt O O O O O O O O O O O O O O O O (Nat.le_of_eq (Nat.zero_add _)) hg6 (Aa O (Ah (Ab (Aa O ?_))));obtain ⟨hg7,h⟩:=Ac h;refine Ae tt O hg7 (Aa O (Ah ?_));show ∃ _,_;exact ⟨((l17++([i18]:List Int)),(i18+(1:Int))),(En.of ⟨O,O,O,Y⟩ ⟨O,Y⟩ ⟨O,Y⟩),h⟩
   replace h:=Al hb5 h;refine As (Ab (Aa O ?_));obtain ⟨hg8,h⟩:=Ac h;refine Ae tt O hg8 (Aa O (Ah ?_));show ∃ _,_;exact ⟨(l17,(i18+(1:Int))),(En.of ⟨O,O,O,Y⟩ ⟨O,Y⟩ ⟨O,Y⟩),h⟩
  replace h:=Al hb3 h;refine Bn ?_;show ∃ _,_;exact ⟨l17,(En.of ⟨O,Y⟩ ⟨O,Y⟩ trivial),h⟩
 replace h:=Al hb1 h;iterate 2 refine Sw O O O O hb1 O O ?_
 refine Bp O O O O O hb1 O (Ah (Gf O O (Bn ?_)));show ∃ _,_;exact ⟨l17,(En.of ⟨O,Y⟩ ⟨O,Y⟩ trivial),h⟩
def Ej (N:Nat) (p_0:Pin) (l10:List Int) (v11:List Int) (k:Unit→Option (Bool)):Nat→Int→Option (Bool)
 | 0,_=>none
 | n+1,i14=>
  cnd (decide (i14<(v11.length:Int))) (
   grd (0≤i14∧i14<(v11.length:Int)) <|
   grd (0≤(v11.getD ((i14).toNat) 0)∧(v11.getD ((i14).toNat) 0)<((List.replicate ((p_0.g.n).toNat) (0:Int)).length:Int)) <|
   grd (0≤(v11.getD ((i14).toNat) 0)∧(v11.getD ((i14).toNat) 0)<(l10.length:Int)) <|
   cnd ((l10.getD (((v11.getD ((i14).toNat) 0)).toNat) 0) != (2:Int)) (
    some false) (
    grd (Bc (i14+(1:Int))) <|
    Ej N p_0 l10 v11 k n (i14+(1:Int)))) (
   k ())
def Ei (N:Nat) (p_0:Pin) (l_1:List Int) (k:(List Int)→Option (Bool)):Nat→((List Int)×Int)→Option (Bool)
 | 0,_=>none
 | n+1,(l18,i19)=>
  cnd (decide (i19<(l_1.length:Int))) (
   grd (0≤i19∧i19<(l_1.length:Int)) <|
   grd (0≤i19∧i19<(p_0.g.bars.length:Int)) <|
   cnd ((l_1.getD ((i19).toNat) 0) != ((p_0.g.bars.getD ((i19).toNat) (0,0)).1)) (
    cnd ((l_1.getD ((i19).toNat) 0) != ((p_0.g.bars.getD ((i19).toNat) (0,0)).2)) (
     some false) (
     (Fe N p_0.ground (l_1.getD ((i19).toNat) 0)).bind fun v22=>
     cnd v22 (
      some false) (
      grd (0≤(l_1.getD ((i19).toNat) 0)∧(l_1.getD ((i19).toNat) 0)<((List.replicate ((p_0.g.n).toNat) (0:Int)).length:Int)) <|
      grd (0≤(l_1.getD ((i19).toNat) 0)∧(l_1.getD ((i19).toNat) 0)<(l18.length:Int)) <|
      grd (Bc ((l18.getD (((l_1.getD ((i19).toNat) 0)).toNat) 0)+(1:Int))) <|
      grd (Bc (i19+(1:Int))) <|
      Ei N p_0 l_1 k n ((l18.set (((l_1.getD ((i19).toNat) 0)).toNat) ((l18.getD (((l_1.getD ((i19).toNat) 0)).toNat) 0)+(1:Int))),(i19+(1:Int)))))) (
    (Fe N p_0.ground (l_1.getD ((i19).toNat) 0)).bind fun v23=>
    cnd v23 (
     some false) (
     grd (0≤(l_1.getD ((i19).toNat) 0)∧(l_1.getD ((i19).toNat) 0)<((List.replicate ((p_0.g.n).toNat) (0:Int)).length:Int)) <|
     grd (0≤(l_1.getD ((i19).toNat) 0)∧(l_1.getD ((i19).toNat) 0)<(l18.length:Int)) <|
     grd (Bc ((l18.getD (((l_1.getD ((i19).toNat) 0)).toNat) 0)+(1:Int))) <|
     grd (Bc (i19+(1:Int))) <|
     Ei N p_0 l_1 k n ((l18.set (((l_1.getD ((i19).toNat) 0)).toNat) ((l18.getD (((l_1.getD ((i19).toNat) 0)).toNat) 0)+(1:Int))),(i19+(1:Int)))))) (
   k l18)
def Kx (N:Nat) (p_0:Pin) (l_1:List Int):Option (Bool):=
 (Ka N p_0).bind fun v1=>
 cnd (!v1) (
  some false) (
  cnd ((l_1.length:Int) != (p_0.g.bars.length:Int)) (
   some false) (
   grd (0≤p_0.g.n∧p_0.g.n≤4294967296) <|
   Ei N p_0 l_1 (fun (l10 : List Int) =>
      (Dv N p_0).bind fun v11=>
      Ej N p_0 l10 v11 (fun (_ : Unit) =>
         some true) N (0:Int)) N ((List.replicate ((p_0.g.n).toNat) (0:Int)),(0:Int))))
theorem Vt (N:Nat) (p_0:Pin) (l_1:List Int) (r:Bool) (h:Kx N p_0 l_1=some r):PCall Try.prog 23 [pD p_0,.ro false (.ints l_1)] [] (.bool r):=by
 unfold Kx at h;refine Aj (TT:=TT) tt Try.func23 O O Try.ntmps23 (congrArg Array.toList Try.results23) O O fun w0=>(Ai (Ab (Lh O O O O O O O O O (Aa O (Ah (Ai (Ai (Ab (Aa O ?_)))))))));obtain ⟨v1,hc1,h⟩:=Ag h;refine Ba (Pr N p_0 v1 hc1) O O O O O O O O ⟨⟨O,O,O,Y⟩,Y⟩ (Aa O (Aa O (Bu O O O (fun hb2=>?_) (fun hb2=>?_))))
 ·replace h:=Ak hb2 h;iterate 7 refine Lv O O O O hb2 O O ?_
  refine Cf O O O O O hb2 O (Ah (Ce O O (Ai (Ab (Aa O (Ah (Az ?_)))))));show ∃ _,_;cases h;exact ⟨[],_,O,Y,O,.eq O,O⟩
 replace h:=Al hb2 h;iterate 7 refine Bt tt O O O O O hb2 O O O Y ?_
 refine Bp O O O O O hb2 O (Ah (Au O (fun hb3=>?_) (fun hb3=>?_)))
 ·replace h:=Ak hb3 h;refine Ai (Ab (Aa O (Ah (Az ?_))));show ∃ _,_;cases h;exact ⟨[],_,O,Y,O,.eq O,O⟩
 replace h:=Al hb3 h;refine As (Ai (Ab (Aa O (Aa O (Aa O ?_)))));obtain ⟨hg4,h⟩:=Ac h;refine Aa2 tt O O O O O O O O O O O hg4 (Aa O (Ah (Ai (Ai (Ab (Aa O (Ah (Cr (F:=fun k=>Ei N p_0 l_1 k) h (α:=List Int) (J:=fun (l10:List Int)=>(⟨[(2,.ptr 2 0),(5,.row 24 0 ((List.replicate ((p_0.g.n).toNat) (0:Int)).length))],[(24,some (3,.ints l10))],[(2,some [.int p_0.g.n,.ro false (.pairs p_0.g.bars),.ro false (.ints p_0.ground)])]⟩:PS)) ?_ ?_))))))))
 ·rintro l10 h;show VC _ _ _ (⟨[(2,.ptr 2 0),(5,.row 24 0 ((List.replicate ((p_0.g.n).toNat) (0:Int)).length))],[(24,some (3,.ints l10))],[(2,some [.int p_0.g.n,.ro false (.pairs p_0.g.bars),.ro false (.ints p_0.ground)])]⟩:PS);refine Ai (Ab (Aa O ?_));obtain ⟨v11,hc5,h⟩:=Ag h;refine Ba (Gr N p_0 v11 hc5) O O O O O O O O ⟨⟨O,O,O,Y⟩,Y⟩ (Aa O (Ah (Ai (Ai (Ab (Aa O (Ah (Cr (F:=fun k=>Ej N p_0 l10 v11 k) h (α:=Unit) (J:=fun (_:Unit)=>(⟨[],[],[]⟩:PS)) ?_ ?_))))))))
  ·rintro ⟨⟩ h;show VC _ _ _ (⟨[],[],[]⟩:PS);refine Ai (Ab (Aa O (Ah (Az ?_))));show ∃ _,_;cases h;exact ⟨[],_,O,Y,O,.eq O,O⟩
  intro k h;refine Aq (Bd (α:=Int) (fun (i14:Int)=>(⟨[(5,.row 24 0 ((List.replicate ((p_0.g.n).toNat) (0:Int)).length)),(7,.row 1810 0 v11.length),(8,.int i14)],[(24,some (3,.ints l10)),(1810,some (3,.ints v11))],[]⟩:PS)) (Ej N p_0 l10 v11 k) h (En.of ⟨O,O,O,Y⟩ ⟨O,O,Y⟩ trivial) (fun _=>O) ?_);rintro n i14 h;rw [Ej] at h;show VC _ _ _ (⟨[(5,.row 24 0 ((List.replicate ((p_0.g.n).toNat) (0:Int)).length)),(7,.row 1810 0 v11.length),(8,.int i14)],[(24,some (3,.ints l10)),(1810,some (3,.ints v11))],[]⟩:PS);refine Ai (Ai (Ab ?_));iterate 4 refine Aa O ?_
  refine Ah (Au O (fun hb6=>?_) (fun hb6=>?_))
  ·replace h:=Ak hb6 h;refine As (Ai (Aq (Ai (Ab (Aa O (Aa O (Aa O ?_)))))));obtain ⟨hg7,h⟩:=Ac h;refine Ae tt O hg7 (Ae tt O hg7 ?_);obtain ⟨hg8,h⟩:=Ac h;refine Ae tt O hg8 ?_;obtain ⟨hg9,h⟩:=Ac h;refine Ae tt O hg9 (Aa O (Ah (Au O (fun hb10=>?_) (fun hb10=>?_))))
   ·replace h:=Ak hb10 h;refine Ai (Ab (Aa O (Ah (Az ?_))));show ∃ _,_;cases h;exact ⟨[],_,O,Y,O,.eq O,O⟩
   replace h:=Al hb10 h;refine As (Ab (Aa O ?_));obtain ⟨hg11,h⟩:=Ac h;refine Ae tt O hg11 (Aa O (Ah ?_));show ∃ _,_;exact ⟨(i14+(1:Int)),(En.of ⟨O,O,O,Y⟩ ⟨O,O,Y⟩ trivial),h⟩
  replace h:=Al hb6 h;refine Bn ?_;show ∃ _,_;exact ⟨(),(En.of trivial trivial trivial),h⟩
 intro k h;refine Aq (Bd (α:=(List Int)×Int) (fun | (l18,i19)=>(⟨[(1,.ro false (.ints l_1)),(2,.ptr 2 0),(5,.row 24 0 ((List.replicate ((p_0.g.n).toNat) (0:Int)).length)),(6,.int i19)],[(24,some (3,.ints l18))],[(2,some [.int p_0.g.n,.ro false (.pairs p_0.g.bars),.ro false (.ints p_0.ground)])]⟩:PS)) (Ei N p_0 l_1 k) h (En.of ⟨rfl,rfl,rfl,rfl,Y⟩ ⟨rfl,Y⟩ ⟨rfl,Y⟩) (fun _=>rfl) ?_);rintro n ⟨l18,i19⟩ h;rw [Ei] at h;show VC _ _ _ (⟨[(1,.ro false (.ints l_1)),(2,.ptr 2 0),(5,.row 24 0 ((List.replicate ((p_0.g.n).toNat) (0:Int)).length)),(6,.int i19)],[(24,some (3,.ints l18))],[(2,some [.int p_0.g.n,.ro false (.pairs p_0.g.bars),.ro false (.ints p_0.ground)])]⟩:PS);refine Ai (Ai (Ab ?_));iterate 4 refine Aa O ?_
 refine Ah (Au O (fun hb12=>?_) (fun hb12=>?_))
 ·replace h:=Ak hb12 h;refine As (Ai (Aq (Ai (Ai (Bs (by kernel_rfl) (by kernel_rfl) ?_)))));iterate 2 refine Ax tt O (Ad O) O O O Y ?_
  obtain ⟨hg13,h⟩:=Ac h;refine Ax tt O (Ad O) O O O hg13 ?_;iterate 5 refine Ax tt O (Ad O) O O O Y ?_
  obtain ⟨hg14,h⟩:=Ac h;refine Ax tt O (Ad O) O O O hg14 ?_;iterate 4 refine Ax tt O (Ad O) O O O Y ?_
  refine Dj O O O (fun hb15=>?_) (fun hb15=>?_)
  ·replace h:=Ak hb15 h;iterate 2 refine Ax tt O (Av O O O O hb15) O O O Y ?_
   refine Ax tt O (Av O O O O hb15) O O O hg13 ?_;iterate 5 refine Ax tt O (Av O O O O hb15) O O O Y ?_
   refine Ax tt O (Av O O O O hb15) O O O hg14 ?_;iterate 3 refine Ax tt O (Av O O O O hb15) O O O Y ?_
   refine Ay O (Ad O) O O O hb15 O (Ax tt O (Ad O) O O O Y (Dj O O O (fun hb16=>?_) (fun hb16=>?_)))
   ·replace h:=Ak hb16 h;iterate 7 refine Ex O O O O hb16 O O ?_
    refine Ay O (Ad O) O O O hb16 O (Hq (Ce O O (Ai (Ab (Aa O (Ah (Az ?_)))))));show ∃ _,_;cases h;exact ⟨[],_,O,Y,O,.eq O,O⟩
   replace h:=Al hb16 h;iterate 4 refine Ax tt O (Av O O O O hb16) O O O Y ?_
   refine Ax tt O (Av O O O O hb16) O O O hg13 (Ax tt O (Av O O O O hb16) O O O Y ?_);obtain ⟨v22,hc17,h⟩:=Ag h;refine Hp (Eu N p_0.ground (l_1.getD ((i19).toNat) 0) v22 hc17) O (Av O O O O hb16) O O O O O O ⟨O,O,Y⟩ (Ct O (Ad O) O O O hb16 O (Hq (Au O (fun hb18=>?_) (fun hb18=>?_))))
   ·replace h:=Ak hb18 h;refine Ai (Ab (Aa O (Ah (Az ?_))));show ∃ _,_;cases h;exact ⟨[],_,O,Y,O,.eq O,O⟩
   replace h:=Al hb18 h;refine As (Bi 13 [] [0,0,0,6,14,0,0,0,192,448,992,2016,4064,8191,16383] (by kernel_rfl) (by kernel_rfl) (by kernel_rfl) (by kernel_rfl) (by kernel_rfl) O (by rfl) ?_);iterate 3 refine Br tt O (Ad O) O O O O O Y ?_
   refine Br tt O (Ad O) O O O O O hg13 ?_;iterate 4 refine Br tt O (Ad O) O O O O O Y ?_
   refine Br tt O (Ad O) O O O O O hg13 (Br tt O (Ad O) O O O O O Y ?_);obtain ⟨hg19,h⟩:=Ac h;refine Br tt O (Ad O) O O O O O hg19 ?_;obtain ⟨hg20,h⟩:=Ac h;refine Br tt O (Ad O) O O O O O hg20 ?_;obtain ⟨hg21,h⟩:=Ac h;refine Br tt O (Ad O) O O O O O hg21 (Pm ?_);show VO _ _ _ _ _;refine Ae tt O hg19 (Ar tt O O O O O O O O O O ⟨_,_,O,hg20.1,hg20.2⟩ ⟨hg20,Y⟩ (Ah (Ab (Aa O ?_))));obtain ⟨hg22,h⟩:=Ac h;refine Ae tt O hg22 (Aa O (Ah ?_));show ∃ _,_;exact ⟨((l18.set (((l_1.getD ((i19).toNat) 0)).toNat) ((l18.getD (((l_1.getD ((i19).toNat) 0)).toNat) 0)+(1:Int))),(i19+(1:Int))),(En.of ⟨O,O,O,O,Y⟩ ⟨O,Y⟩ ⟨O,Y⟩),h⟩
  replace h:=Al hb15 h;iterate 12 refine cNoT O O O O hb15 O O ?_
  refine Ct O (Ad O) O O O hb15 O (Ax tt O (Ad O) O O O Y ?_);iterate 4 refine Ax tt O (Av O O O O O) O O O Y ?_
  refine Ax tt O (Av O O O O O) O O O hg13 (Ax tt O (Av O O O O O) O O O Y ?_);obtain ⟨v23,hc23,h⟩:=Ag h;refine Hp (Eu N p_0.ground (l_1.getD ((i19).toNat) 0) v23 hc23) O (Av O O O O O) O O O O O O ⟨O,O,Y⟩ (Ct O (Ad O) O O O O O (Hq (Au O (fun hb24=>?_) (fun hb24=>?_))))
  ·replace h:=Ak hb24 h;refine Ai (Ab (Aa O (Ah (Az ?_))));show ∃ _,_;cases h;exact ⟨[],_,O,Y,O,.eq O,O⟩
  replace h:=Al hb24 h;refine As (Bi 13 [] [0,0,0,6,14,0,0,0,192,448,992,2016,4064,8191,16383] (by kernel_rfl) (by kernel_rfl) (by kernel_rfl) (by kernel_rfl) (by kernel_rfl) O (by rfl) ?_);iterate 3 refine Br tt O (Ad O) O O O O O Y ?_
  refine Br tt O (Ad O) O O O O O hg13 ?_;iterate 4 refine Br tt O (Ad O) O O O O O Y ?_
  refine Br tt O (Ad O) O O O O O hg13 (Br tt O (Ad O) O O O O O Y ?_);obtain ⟨hg25,h⟩:=Ac h;refine Br tt O (Ad O) O O O O O hg25 ?_;obtain ⟨hg26,h⟩:=Ac h;refine Br tt O (Ad O) O O O O O hg26 ?_;obtain ⟨hg27,h⟩:=Ac h;refine Br tt O (Ad O) O O O O O hg27 (Pm ?_);show VO _ _ _ _ _;refine Ae tt O hg25 (Ar tt O O O O O O O O O O ⟨_,_,O,hg26.1,hg26.2⟩ ⟨hg26,Y⟩ (Ah (Ab (Aa O ?_))));obtain ⟨hg28,h⟩:=Ac h;refine Ae tt O hg28 (Aa O (Ah ?_));show ∃ _,_;exact ⟨((l18.set (((l_1.getD ((i19).toNat) 0)).toNat) ((l18.getD (((l_1.getD ((i19).toNat) 0)).toNat) 0)+(1:Int))),(i19+(1:Int))),(En.of ⟨O,O,O,O,Y⟩ ⟨O,Y⟩ ⟨O,Y⟩),h⟩
 replace h:=Al hb12 h;refine Bn ?_;show ∃ _,_;exact ⟨l18,(En.of ⟨O,O,Y⟩ ⟨O,Y⟩ ⟨O,Y⟩),h⟩
def Gb (N:Nat) (s_0:List Int) (v_1:Int) (k:Unit→Option (Int)):Nat→Int→Option (Int)
 | 0,_=>none
 | n+1,x3=>
  cnd (decide (x3<(s_0.length:Int))) (
   grd (0≤x3∧x3<(s_0.length:Int)) <|
   cnd (v_1==(s_0.getD ((x3).toNat) 0)) (
    some x3) (
    grd (Bc (x3+(1:Int))) <|
    Gb N s_0 v_1 k n (x3+(1:Int)))) (
   k ())
def Rl (N:Nat) (s_0:List Int) (v_1:Int):Option (Int):=
 Gb N s_0 v_1 (fun (_ : Unit) =>
    some (-1:Int)) N (0:Int)
theorem G_Index_int_w (N:Nat) (s_0:List Int) (v_1:Int) (r:Int) (h:Rl N s_0 v_1=some r):PCall Try.prog 51 [.ro false (.ints s_0),.int v_1] [] (.int r):=by
 unfold Rl at h;refine Aj (TT:=TT) tt Try.func51 O O Try.ntmps51 (congrArg Array.toList Try.results51) O O fun w0=>(Ai (Ab (Aa O (Ah (Ai (Ai (Ab (Aa O (Aa O ?_)))))))));refine Aa O (Ah (Cr (F:=fun k=>Gb N s_0 v_1 k) h (α:=Unit) (J:=fun (_:Unit)=>(⟨[],[],[]⟩:PS)) ?_ ?_))
 ·rintro ⟨⟩ h;show VC _ _ _ (⟨[],[],[]⟩:PS);refine Ai (Ab (Aa O (Ah (Az ?_))));show ∃ _,_;cases h;exact ⟨[],_,O,Y,O,.eq O,O⟩
 intro k h;refine Aq (Bd (α:=Int) (fun (x3:Int)=>(⟨[(0,.ro false (.ints s_0)),(1,.int v_1),(7,.int (s_0.length:Int)),(8,.int x3)],[],[]⟩:PS)) (Gb N s_0 v_1 k) h (En.of ⟨O,O,O,O,Y⟩ trivial trivial) (fun _=>O) ?_);rintro n x3 h;rw [Gb] at h;show VC _ _ _ (⟨[(0,.ro false (.ints s_0)),(1,.int v_1),(7,.int (s_0.length:Int)),(8,.int x3)],[],[]⟩:PS);refine Ai (Ab (Aa O (Ah (Ai (Au O (fun hb1=>?_) (fun hb1=>?_))))))
 ·replace h:=Ak hb1 h;refine As (Ai (Aq (Ai (Ab (Aa O (Aa O (Ah (Ai (Ab ?_)))))))));refine Aa O (Aa O (Aa O ?_));obtain ⟨hg2,h⟩:=Ac h;refine Ae tt O hg2 (Aa O (Aa O (Ah (Au O (fun hb3=>?_) (fun hb3=>?_)))))
  ·replace h:=Ak hb3 h;refine Ai (Ab (Aa O (Aa O (Ah (Az ?_)))));show ∃ _,_;cases h;exact ⟨[],_,O,Y,O,.eq O,O⟩
  replace h:=Al hb3 h;refine As (Ab ?_);obtain ⟨hg4,h⟩:=Ac h;refine Ae tt O hg4 (Aa O (Ah ?_));show ∃ _,_;exact ⟨(x3+(1:Int)),(En.of ⟨O,O,O,O,Y⟩ trivial trivial),h⟩
 replace h:=Al hb1 h;refine Bn ?_;show ∃ _,_;exact ⟨(),(En.of trivial trivial trivial),h⟩
end
section
open Go.RowKit
end
section
open Go.RowKit
def Di (N:Nat) (s_0:List Int) (v_1:Int):Option (Bool):=
 (Rl N s_0 v_1).bind fun v1=>
 some (decide (v1≥(0:Int)))
theorem Fg (N:Nat) (s_0:List Int) (v_1:Int) (r:Bool) (h:Di N s_0 v_1=some r):PCall Try.prog 35 [.ro false (.ints s_0),.int v_1] [] (.bool r):=by
 unfold Di at h;refine Aj (TT:=TT) tt Try.func35 O O Try.ntmps35 (congrArg Array.toList Try.results35) O O fun w0=>(Ai (Ab (Aa O (Ah (Ai (Ab (Aa O (Aa O ?_))))))));obtain ⟨v1,hc1,h⟩:=Ag h;refine Ba (G_Index_int_w N s_0 v_1 v1 hc1) O O O O O O O O ⟨O,O,Y⟩ (Aa O (Aa O (Ah (Az ?_))));show ∃ _,_;cases h;exact ⟨[],_,O,Y,O,.eq O,O⟩
def Fp (N:Nat) (p_0:Pin) (k:Unit→Option (Bool)):Nat→Int→Option (Bool)
 | 0,_=>none
 | n+1,x17=>
  cnd (decide (x17<(p_0.g.bars.length:Int))) (
   grd (0≤x17∧x17<(p_0.g.bars.length:Int)) <|
   (Di N p_0.ground ((p_0.g.bars.getD ((x17).toNat) (0,0)).1)).bind fun v20=>
   cnd v20 (
    (Di N p_0.ground ((p_0.g.bars.getD ((x17).toNat) (0,0)).2)).bind fun v21=>
    cnd v21 (
     some false) (
     grd (Bc (x17+(1:Int))) <|
     Fp N p_0 k n (x17+(1:Int)))) (
    grd (Bc (x17+(1:Int))) <|
    Fp N p_0 k n (x17+(1:Int)))) (
   k ())
def Fl (N:Nat) (p_0:Pin) (k:Unit→Option (Bool)):Nat→Int→Option (Bool)
 | 0,_=>none
 | n+1,x24=>
  cnd (decide (x24<(p_0.ground.length:Int))) (
   grd (0≤x24∧x24<(p_0.ground.length:Int)) <|
   (Lf N p_0.g (p_0.ground.getD ((x24).toNat) 0)).bind fun v26=>
   cnd (!v26) (
    some false) (
    cnd (decide (x24 > (0:Int))) (
     grd (Bc (x24-(1:Int))) <|
     grd (0≤(x24-(1:Int))∧(x24-(1:Int))<(p_0.ground.length:Int)) <|
     cnd (decide ((p_0.ground.getD (((x24-(1:Int))).toNat) 0)≥(p_0.ground.getD ((x24).toNat) 0))) (
      some false) (
      grd (Bc (x24+(1:Int))) <|
      Fl N p_0 k n (x24+(1:Int)))) (
     grd (Bc (x24+(1:Int))) <|
     Fl N p_0 k n (x24+(1:Int))))) (
   k ())
def Kd (N:Nat) (p_0:Pin):Option (Bool):=
 (Sf N p_0.g).bind fun v1=>
 cnd (!v1) (
  some false) (
  (Ln N p_0.g).bind fun v2=>
  cnd v2 (
   some false) (
   cnd (decide ((p_0.ground.length:Int)<(2:Int))) (
    some false) (
    cnd (decide ((p_0.g.bars.length:Int) > (15:Int))) (
     some false) (
     grd (Bc ((2:Int)*(p_0.ground.length:Int))) <|
     grd (Bc ((p_0.g.bars.length:Int)+((2:Int)*(p_0.ground.length:Int)))) <|
     grd (Bc (((p_0.g.bars.length:Int)+((2:Int)*(p_0.ground.length:Int)))-(3:Int))) <|
     cnd (decide ((((p_0.g.bars.length:Int)+((2:Int)*(p_0.ground.length:Int)))-(3:Int)) > (24:Int))) (
      some false) (
      Fl N p_0 (fun (_ : Unit) =>
         Fp N p_0 (fun (_ : Unit) =>
            some true) N (0:Int)) N (0:Int))))))
theorem Pv (N:Nat) (p_0:Pin) (r:Bool) (h:Kd N p_0=some r):PCall Try.prog 36 [pD p_0] [] (.bool r):=by
 unfold Kd at h;refine Aj (TT:=TT) tt Try.func36 O O Try.ntmps36 (congrArg Array.toList Try.results36) O O fun w0=>(Ai (Ab (Lh O O O O O O O O O (Aa O (Ah (Ai (Ab (Aa O (Aa O ?_)))))))));refine Bw tt O O O O O O O O O (Ar tt O O O O O O O O O O O ⟨Y,Y,Y⟩ (Ah (Ai (Ai (Ab (Aa O ?_))))));obtain ⟨v1,hc1,h⟩:=Ag h;refine Ba (I_IsGraph_w N p_0.g v1 hc1) O O O O O O O O ⟨⟨O,O,Y⟩,Y⟩ (Aa O (Aa O (Bu O O O (fun hb2=>?_) (fun hb2=>?_))))
 ·replace h:=Ak hb2 h;iterate 2 refine Lv O O O O hb2 O O ?_
  refine Cf O O O O O hb2 O (Aa O ?_);iterate 4 refine Lv O O O O O O O ?_
  refine Cf O O O O O O O (Aa O ?_);iterate 4 refine Lv O O O O O O O ?_
  refine Cf O O O O O O O (Aa O ?_);iterate 10 refine Lv O O O O O O O ?_
  refine Cf O O O O O O O (Ah (Ce O O (Ai (Ab (Aa O (Ah (Az ?_)))))));show ∃ _,_;cases h;exact ⟨[],_,O,Y,O,.eq O,O⟩
 replace h:=Al hb2 h;refine Bt tt O O O O O hb2 O O O Y ?_;obtain ⟨v2,hc3,h⟩:=Ag h;refine Ll (Aau N p_0.g v2 hc3) O O O O hb2 O O O O O O O ⟨⟨O,O,Y⟩,Y⟩ (Bp O O O O O hb2 O (Aa O (Bu O O O (fun hb4=>?_) (fun hb4=>?_))))
 ·replace h:=Ak hb4 h;iterate 4 refine Lv O O O O hb4 O O ?_
  refine Cf O O O O O hb4 O (Aa O ?_);iterate 4 refine Lv O O O O O O O ?_
  refine Cf O O O O O O O (Aa O ?_);iterate 10 refine Lv O O O O O O O ?_
  refine Cf O O O O O O O (Ah (Ce O O (Ai (Ab (Aa O (Ah (Az ?_)))))));show ∃ _,_;cases h;exact ⟨[],_,O,Y,O,.eq O,O⟩
 replace h:=Al hb4 h;iterate 4 refine Bt tt O O O O O hb4 O O O Y ?_
 refine Bp O O O O O hb4 O (Aa O (Bu O O O (fun hb5=>?_) (fun hb5=>?_)))
 ·replace h:=Ak hb5 h;iterate 4 refine Lv O O O O hb5 O O ?_
  refine Cf O O O O O hb5 O (Aa O ?_);iterate 10 refine Lv O O O O O O O ?_
  refine Cf O O O O O O O (Ah (Ce O O (Ai (Ab (Aa O (Ah (Az ?_)))))));show ∃ _,_;cases h;exact ⟨[],_,O,Y,O,.eq O,O⟩
 replace h:=Al hb5 h;iterate 4 refine Bt tt O O O O O hb5 O O O Y ?_
 refine Bp O O O O O hb5 O (Aa O (Bu O O O (fun hb6=>?_) (fun hb6=>?_)))
 ·replace h:=Ak hb6 h;iterate 10 refine Lv O O O O hb6 O O ?_
  refine Cf O O O O O hb6 O (Ah (Ce O O (Ai (Ab (Aa O (Ah (Az ?_)))))));show ∃ _,_;cases h;exact ⟨[],_,O,Y,O,.eq O,O⟩
 replace h:=Al hb6 h;iterate 6 refine Bt tt O O O O O hb6 O O O Y ?_
 obtain ⟨hg7,h⟩:=Ac h;refine Bt tt O O O O O hb6 O O O hg7 ?_;obtain ⟨hg8,h⟩:=Ac h;refine Bt tt O O O O O hb6 O O O hg8 ?_;obtain ⟨hg9,h⟩:=Ac h;refine Bt tt O O O O O hb6 O O O hg9 (Bt tt O O O O O hb6 O O O Y (Bp O O O O O hb6 O (Ah (Au O (fun hb10=>?_) (fun hb10=>?_)))))
 ·replace h:=Ak hb10 h;refine Ai (Ab (Aa O (Ah (Az ?_))));show ∃ _,_;cases h;exact ⟨[],_,O,Y,O,.eq O,O⟩
 replace h:=Al hb10 h;refine As (Ai (Ai (Ab ?_)));iterate 4 refine Aa O ?_
 refine Ah (Cr (F:=fun k=>Fl N p_0 k) h (α:=Unit) (J:=fun (_:Unit)=>(⟨[(1,.ptr 1 0),(3,.ptr 3 0)],[],[(1,some [.int p_0.g.n,.ro false (.pairs p_0.g.bars),.ro false (.ints p_0.ground)]),(3,some [.int p_0.g.n,.ro false (.pairs p_0.g.bars)])]⟩:PS)) ?_ ?_)
 ·rintro ⟨⟩ h;show VC _ _ _ (⟨[(1,.ptr 1 0),(3,.ptr 3 0)],[],[(1,some [.int p_0.g.n,.ro false (.pairs p_0.g.bars),.ro false (.ints p_0.ground)]),(3,some [.int p_0.g.n,.ro false (.pairs p_0.g.bars)])]⟩:PS);refine Ai (Ai (Ab ?_));iterate 4 refine Aa O ?_
  refine Ah (Cr (F:=fun k=>Fp N p_0 k) h (α:=Unit) (J:=fun (_:Unit)=>(⟨[],[],[]⟩:PS)) ?_ ?_)
  ·rintro ⟨⟩ h;show VC _ _ _ (⟨[],[],[]⟩:PS);refine Ai (Ab (Aa O (Ah (Az ?_))));show ∃ _,_;cases h;exact ⟨[],_,O,Y,O,.eq O,O⟩
  intro k h;refine Aq (Bd (α:=Int) (fun (x17:Int)=>(⟨[(1,.ptr 1 0),(69,.ro false (.pairs p_0.g.bars)),(70,.int (p_0.g.bars.length:Int)),(71,.int x17)],[],[(1,some [.int p_0.g.n,.ro false (.pairs p_0.g.bars),.ro false (.ints p_0.ground)])]⟩:PS)) (Fp N p_0 k) h (En.of ⟨O,O,O,O,Y⟩ trivial ⟨O,Y⟩) (fun _=>O) ?_);rintro n x17 h;rw [Fp] at h;show VC _ _ _ (⟨[(1,.ptr 1 0),(69,.ro false (.pairs p_0.g.bars)),(70,.int (p_0.g.bars.length:Int)),(71,.int x17)],[],[(1,some [.int p_0.g.n,.ro false (.pairs p_0.g.bars),.ro false (.ints p_0.ground)])]⟩:PS);refine Ai (Ab (Aa O (Ah (Ai (Au O (fun hb11=>?_) (fun hb11=>?_))))))
  ·replace h:=Ak hb11 h;refine As (Ai (Aq (Ai (Ab ?_))));obtain ⟨hg12,h⟩:=Ac h;refine Ae tt O hg12 (Aa O (Bw tt O O O O O O O O O (Ar tt O O O O O O O O O O O ⟨Y,Y,Y⟩ (Ah (Ai (Ab ?_))))));iterate 4 refine Aa O ?_
   obtain ⟨v20,hc13,h⟩:=Ag h;refine Ba (Fg N p_0.ground ((p_0.g.bars.getD ((x17).toNat) (0,0)).1) v20 hc13) O O O O O O O O ⟨O,O,Y⟩ (Aa O (Bu O O O (fun hb14=>?_) (fun hb14=>?_)))
   ·replace h:=Ak hb14 h;iterate 4 refine Bt tt O O O O O hb14 O O O Y ?_
    obtain ⟨v21,hc15,h⟩:=Ag h;refine Ll (Fg N p_0.ground ((p_0.g.bars.getD ((x17).toNat) (0,0)).2) v21 hc15) O O O O hb14 O O O O O O O ⟨O,O,Y⟩ (Cf O O O O O hb14 O (Ah (Au O (fun hb16=>?_) (fun hb16=>?_))))
    ·replace h:=Ak hb16 h;refine Ai (Ab (Aa O (Ah (Az ?_))));show ∃ _,_;cases h;exact ⟨[],_,O,Y,O,.eq O,O⟩
    replace h:=Al hb16 h;refine As (Ab ?_);obtain ⟨hg17,h⟩:=Ac h;refine Ae tt O hg17 (Aa O (Ah ?_));show ∃ _,_;exact ⟨(x17+(1:Int)),(En.of ⟨O,O,O,O,Y⟩ trivial ⟨O,Y⟩),h⟩
   replace h:=Al hb14 h;iterate 5 refine Sw O O O O hb14 O O ?_
   refine Bp O O O O O hb14 O (Ah (Gf O O (As (Ab ?_))));obtain ⟨hg18,h⟩:=Ac h;refine Ae tt O hg18 (Aa O (Ah ?_));show ∃ _,_;exact ⟨(x17+(1:Int)),(En.of ⟨O,O,O,O,Y⟩ trivial ⟨O,Y⟩),h⟩
  replace h:=Al hb11 h;refine Bn ?_;show ∃ _,_;exact ⟨(),(En.of trivial trivial trivial),h⟩
 intro k h;refine Aq (Bd (α:=Int) (fun (x24:Int)=>(⟨[(1,.ptr 1 0),(3,.ptr 3 0),(42,.ro false (.ints p_0.ground)),(43,.int (p_0.ground.length:Int)),(44,.int x24)],[],[(1,some [.int p_0.g.n,.ro false (.pairs p_0.g.bars),.ro false (.ints p_0.ground)]),(3,some [.int p_0.g.n,.ro false (.pairs p_0.g.bars)])]⟩:PS)) (Fl N p_0 k) h (En.of ⟨O,O,O,O,O,Y⟩ trivial ⟨O,O,Y⟩) (fun _=>O) ?_);rintro n x24 h;rw [Fl] at h;show VC _ _ _ (⟨[(1,.ptr 1 0),(3,.ptr 3 0),(42,.ro false (.ints p_0.ground)),(43,.int (p_0.ground.length:Int)),(44,.int x24)],[],[(1,some [.int p_0.g.n,.ro false (.pairs p_0.g.bars),.ro false (.ints p_0.ground)]),(3,some [.int p_0.g.n,.ro false (.pairs p_0.g.bars)])]⟩:PS);refine Ai (Ab (Aa O (Ah (Ai (Au O (fun hb19=>?_) (fun hb19=>?_))))))
 ·replace h:=Ak hb19 h;refine As (Ai (Aq (Ai (Ab (Aa O ?_)))));obtain ⟨hg20,h⟩:=Ac h;refine Ae tt O hg20 (Aa O (Aa O (Aa O (Ah (Ai (Ab (Aa O (Aa O ?_))))))));obtain ⟨v26,hc21,h⟩:=Ag h;refine Ba (Wd N p_0.g (p_0.ground.getD ((x24).toNat) 0) v26 hc21) O O O O O O O O ⟨⟨O,O,Y⟩,O,Y⟩ (Aa O (Aa O (Bu O O O (fun hb22=>?_) (fun hb22=>?_))))
  ·replace h:=Ak hb22 h;iterate 3 refine Lv O O O O hb22 O O ?_
   iterate 8 refine oNoU O O O O O ?_
   refine Lv O O O O hb22 O O (Cf O O O O O hb22 O (Ah (Ce O O (Ai (Ab (Aa O (Ah (Az ?_))))))));show ∃ _,_;cases h;exact ⟨[],_,O,Y,O,.eq O,O⟩
  replace h:=Al hb22 h;iterate 3 refine Bt tt O O O O O hb22 O O O Y ?_
  refine Bu O O O (fun hb23=>?_) (fun hb23=>?_)
  ·replace h:=Ak hb23 h;iterate 3 refine Bt tt O O O O O hb23 O O O Y ?_
   obtain ⟨hg24,h⟩:=Ac h;refine Bt tt O O O O O hb23 O O O hg24 ?_;obtain ⟨hg25,h⟩:=Ac h;refine Bt tt O O O O O hb23 O O O hg25 ?_;iterate 3 refine Bt tt O O O O O hb23 O O O Y ?_
   refine oPickGT O O O O hb22 O O O O hb23 O (Bp O O O O O hb22 O (Ah (Au O (fun hb26=>?_) (fun hb26=>?_))))
   ·replace h:=Ak hb26 h;refine Ai (Ab (Aa O (Ah (Az ?_))));show ∃ _,_;cases h;exact ⟨[],_,O,Y,O,.eq O,O⟩
   replace h:=Al hb26 h;refine As (Ab ?_);obtain ⟨hg27,h⟩:=Ac h;refine Ae tt O hg27 (Aa O (Ah ?_));show ∃ _,_;exact ⟨(x24+(1:Int)),(En.of ⟨O,O,O,O,O,Y⟩ trivial ⟨O,O,Y⟩),h⟩
  replace h:=Al hb23 h;iterate 8 refine Sw O O O O hb23 O O ?_
  refine oPickGF O O O O hb22 O O O O hb23 O (Bp O O O O O hb22 O (Ah (Gf O O (As (Ab ?_)))));obtain ⟨hg28,h⟩:=Ac h;refine Ae tt O hg28 (Aa O (Ah ?_));show ∃ _,_;exact ⟨(x24+(1:Int)),(En.of ⟨O,O,O,O,O,Y⟩ trivial ⟨O,O,Y⟩),h⟩
 replace h:=Al hb19 h;refine Bn ?_;show ∃ _,_;exact ⟨(),(En.of ⟨O,O,Y⟩ trivial ⟨O,O,Y⟩),h⟩
def Co (N:Nat) (p_0:Pin) (v_1:Int):Option (Bool):=
 (Lf N p_0.g v_1).bind fun v1=>
 cnd v1 (
  (Di N p_0.ground v_1).bind fun v2=>
  some (!v2)) (
  some false)
theorem Fk (N:Nat) (p_0:Pin) (v_1:Int) (r:Bool) (h:Co N p_0 v_1=some r):PCall Try.prog 29 [pD p_0,.int v_1] [] (.bool r):=by
 unfold Co at h;refine Aj (TT:=TT) tt Try.func29 O O Try.ntmps29 (congrArg Array.toList Try.results29) O O fun w0=>(Ai (Ab (Lh O O O O O O O O O (Aa O (Ah (Ai (Ab (Aa O (Aa O ?_)))))))));refine Aa O ?_;obtain ⟨v1,hc1,h⟩:=Ag h;refine Ba (Wd N p_0.g v_1 v1 hc1) O O O O O O O O ⟨⟨O,O,Y⟩,O,Y⟩ (Aa O (Bu O O O (fun hb2=>?_) (fun hb2=>?_)))
 ·replace h:=Ak hb2 h;iterate 3 refine Bt tt O O O O O hb2 O O O Y ?_
  obtain ⟨v2,hc3,h⟩:=Ag h;refine Ll (Fg N p_0.ground v_1 v2 hc3) O O O O hb2 O O O O O O O ⟨O,O,Y⟩ (Bt tt O O O O O hb2 O O O Y (Cf O O O O O hb2 O (Aa O (Ah (Az ?_)))));show ∃ _,_;cases h;exact ⟨[],_,O,Y,O,.eq O,O⟩
 replace h:=Al hb2 h;iterate 5 refine Sw O O O O hb2 O O ?_
 refine Bp O O O O O hb2 O (Aa O (Ah (Az ?_)));show ∃ _,_;cases h;exact ⟨[],_,O,Y,O,.eq O,O⟩
def Dq (N:Nat) (p_0:Pin) (k:(List Int)→Option (List Int)):Nat→((List Int)×Int)→Option (List Int)
 | 0,_=>none
 | n+1,(l12,x13)=>
  cnd (decide (x13<p_0.g.n)) (
   (Di N p_0.ground x13).bind fun v15=>
   cnd (!v15) (
    grd (l12.length+1≤4294967296) <|
    grd (Bc (x13+(1:Int))) <|
    Dq N p_0 k n ((l12++([x13]:List Int)),(x13+(1:Int)))) (
    grd (Bc (x13+(1:Int))) <|
    Dq N p_0 k n (l12,(x13+(1:Int))))) (
   k l12)
def Fi (N:Nat) (p_0:Pin):Option (List Int):=
 (Kd N p_0).bind fun v1=>
 cnd (!v1) (
  some ([]:List Int)) (
  Dq N p_0 (fun (l8 : List Int) =>
     some l8) N (([]:List Int),(0:Int)))
theorem Pg (N:Nat) (p_0:Pin) (r:List Int) (h:Fi N p_0=some r):PCall Try.prog 32 [pD p_0] [(3,.ints r)] (.row 0 0 r.length):=by
 unfold Fi at h;refine Aj (TT:=TT) tt Try.func32 O O Try.ntmps32 (congrArg Array.toList Try.results32) O O fun w0=>(Ai (Ab (Lh O O O O O O O O O (Aa O (Ah (Ai (Ab (Gt tt (Ad O) O O O O (Aa O ?_)))))))));refine Ah (Ai (Ai (Ab (Aa O ?_))));obtain ⟨v1,hc1,h⟩:=Ag h;refine Ba (Pv N p_0 v1 hc1) O O O O O O O O ⟨⟨O,O,O,Y⟩,Y⟩ (Aa O (Ah (Au O (fun hb2=>?_) (fun hb2=>?_))))
 ·replace h:=Ak hb2 h;refine Ai (Ab (Aa O (Aa O (Ah (Lc 2 9001 3 (.ints []) O O O O (Az ?_))))));show ∃ _,_;cases h;exact ⟨[9001],_,O,⟨O,Y⟩,O,.eq O,O⟩
 replace h:=Al hb2 h;refine As (Ai (Ai (Ab ?_)));iterate 4 refine Aa O ?_
 refine Ah (Cr (F:=fun k=>Dq N p_0 k) h (α:=List Int) (J:=fun (l8:List Int)=>(⟨[(3,.row 24 0 l8.length)],[(24,some (3,.ints l8))],[]⟩:PS)) ?_ ?_)
 ·rintro l8 h;show VC _ _ _ (⟨[(3,.row 24 0 l8.length)],[(24,some (3,.ints l8))],[]⟩:PS);refine Ai (Ab (Aa O (Aa O (Ah (Az ?_)))));show ∃ _,_;cases h;exact ⟨[24],_,O,⟨O,Y⟩,O,.eq O,O⟩
 intro k h;refine Aq (Lc 3 24 3 (.ints []) rfl rfl rfl rfl (Bd (α:=(List Int)×Int) (fun | (l12,x13)=>(⟨[(1,.ptr 1 0),(3,.row 24 0 l12.length),(12,.int p_0.g.n),(13,.int x13)],[(24,some (3,.ints l12))],[(1,some [.int p_0.g.n,.ro false (.pairs p_0.g.bars),.ro false (.ints p_0.ground)])]⟩:PS)) (Dq N p_0 k) h (En.of ⟨rfl,rfl,rfl,rfl,Y⟩ ⟨rfl,Y⟩ ⟨rfl,Y⟩) (fun _=>rfl) ?_));rintro n ⟨l12,x13⟩ h;rw [Dq] at h;show VC _ _ _ (⟨[(1,.ptr 1 0),(3,.row 24 0 l12.length),(12,.int p_0.g.n),(13,.int x13)],[(24,some (3,.ints l12))],[(1,some [.int p_0.g.n,.ro false (.pairs p_0.g.bars),.ro false (.ints p_0.ground)])]⟩:PS);refine Ai (Ab (Aa O (Ah (Ai (Au O (fun hb3=>?_) (fun hb3=>?_))))))
 ·replace h:=Ak hb3 h;refine As (Ai (Aq (Ai (Ab (Aa O (Aa O (Ah (Ai (Ab ?_)))))))));refine Aa O (Aa O (Aa O ?_));obtain ⟨v15,hc4,h⟩:=Ag h;refine Ba (Fg N p_0.ground x13 v15 hc4) O O O O O O O O ⟨O,O,Y⟩ (Aa O (Ah (Au O (fun hb5=>?_) (fun hb5=>?_))))
  ·replace h:=Ak hb5 h;refine Ab (Aa O (Aa O (Ep tt O O O O O O O O O O O ?_)));obtain ⟨hg6,h⟩:=Ac h;refine Da tt O O O O O O O O O O O O O O O O (Nat.le_of_eq (Nat.zero_add _)) hg6 (Aa O (Ah (Ab ?_)));obtain ⟨hg7,h⟩:=Ac h;refine Ae tt O hg7 (Aa O (Ah ?_));show ∃ _,_;exact ⟨((l12++([x13]:List Int)),(x13+(1:Int))),(En.of ⟨O,O,O,O,Y⟩ ⟨O,Y⟩ ⟨O,Y⟩),h⟩
  replace h:=Al hb5 h;refine As (Ab ?_);obtain ⟨hg8,h⟩:=Ac h;refine Ae tt O hg8 (Aa O (Ah ?_));show ∃ _,_;exact ⟨(l12,(x13+(1:Int))),(En.of ⟨O,O,O,O,Y⟩ ⟨O,Y⟩ ⟨O,Y⟩),h⟩
 replace h:=Al hb3 h;refine Bn ?_;show ∃ _,_;exact ⟨l12,(En.of ⟨O,Y⟩ ⟨O,Y⟩ trivial),h⟩
def Cq (N:Nat) (p_0:Pin) (l10:List Int) (v11:List Int) (k:Unit→Option (Bool)):Nat→Int→Option (Bool)
 | 0,_=>none
 | n+1,x14=>
  cnd (decide (x14<(v11.length:Int))) (
   grd (0≤x14∧x14<(v11.length:Int)) <|
   grd (0≤(v11.getD ((x14).toNat) 0)∧(v11.getD ((x14).toNat) 0)<((List.replicate ((p_0.g.n).toNat) (0:Int)).length:Int)) <|
   grd (0≤(v11.getD ((x14).toNat) 0)∧(v11.getD ((x14).toNat) 0)<(l10.length:Int)) <|
   cnd ((l10.getD (((v11.getD ((x14).toNat) 0)).toNat) 0) != (2:Int)) (
    some false) (
    grd (Bc (x14+(1:Int))) <|
    Cq N p_0 l10 v11 k n (x14+(1:Int)))) (
   k ())
def Dt (N:Nat) (p_0:Pin) (l_1:List Int) (k:(List Int)→Option (Bool)):Nat→((List Int)×Int)→Option (Bool)
 | 0,_=>none
 | n+1,(l18,x19)=>
  cnd (decide (x19<(l_1.length:Int))) (
   grd (0≤x19∧x19<(l_1.length:Int)) <|
   grd (0≤x19∧x19<(p_0.g.bars.length:Int)) <|
   (Sj N (p_0.g.bars.getD ((x19).toNat) (0,0)) (l_1.getD ((x19).toNat) 0)).bind fun v22=>
   cnd (!v22) (
    some false) (
    (Co N p_0 (l_1.getD ((x19).toNat) 0)).bind fun v23=>
    cnd (!v23) (
     some false) (
     grd (0≤(l_1.getD ((x19).toNat) 0)∧(l_1.getD ((x19).toNat) 0)<((List.replicate ((p_0.g.n).toNat) (0:Int)).length:Int)) <|
     grd (0≤(l_1.getD ((x19).toNat) 0)∧(l_1.getD ((x19).toNat) 0)<(l18.length:Int)) <|
     grd (Bc ((l18.getD (((l_1.getD ((x19).toNat) 0)).toNat) 0)+(1:Int))) <|
     grd (Bc (x19+(1:Int))) <|
     Dt N p_0 l_1 k n ((l18.set (((l_1.getD ((x19).toNat) 0)).toNat) ((l18.getD (((l_1.getD ((x19).toNat) 0)).toNat) 0)+(1:Int))),(x19+(1:Int)))))) (
   k l18)
def Fx (N:Nat) (p_0:Pin) (l_1:List Int):Option (Bool):=
 (Kd N p_0).bind fun v1=>
 cnd (!v1) (
  some false) (
  cnd ((l_1.length:Int) != (p_0.g.bars.length:Int)) (
   some false) (
   grd (0≤p_0.g.n∧p_0.g.n≤4294967296) <|
   Dt N p_0 l_1 (fun (l10 : List Int) =>
      (Fi N p_0).bind fun v11=>
      Cq N p_0 l10 v11 (fun (_ : Unit) =>
         some true) N (0:Int)) N ((List.replicate ((p_0.g.n).toNat) (0:Int)),(0:Int))))
theorem Ri (N:Nat) (p_0:Pin) (l_1:List Int) (r:Bool) (h:Fx N p_0 l_1=some r):PCall Try.prog 13 [pD p_0,.ro false (.ints l_1)] [] (.bool r):=by
 unfold Fx at h;refine Aj (TT:=TT) tt Try.func13 O O Try.ntmps13 (congrArg Array.toList Try.results13) O O fun w0=>(Ai (Ab (Lh O O O O O O O O O (Aa O (Ah (Ai (Ai (Ab (Aa O ?_)))))))));obtain ⟨v1,hc1,h⟩:=Ag h;refine Ba (Pv N p_0 v1 hc1) O O O O O O O O ⟨⟨O,O,O,Y⟩,Y⟩ (Aa O (Aa O (Bu O O O (fun hb2=>?_) (fun hb2=>?_))))
 ·replace h:=Ak hb2 h;iterate 7 refine Lv O O O O hb2 O O ?_
  refine Cf O O O O O hb2 O (Ah (Ce O O (Ai (Ab (Aa O (Ah (Az ?_)))))));show ∃ _,_;cases h;exact ⟨[],_,O,Y,O,.eq O,O⟩
 replace h:=Al hb2 h;iterate 7 refine Bt tt O O O O O hb2 O O O Y ?_
 refine Bp O O O O O hb2 O (Ah (Au O (fun hb3=>?_) (fun hb3=>?_)))
 ·replace h:=Ak hb3 h;refine Ai (Ab (Aa O (Ah (Az ?_))));show ∃ _,_;cases h;exact ⟨[],_,O,Y,O,.eq O,O⟩
 replace h:=Al hb3 h;refine As (Ai (Ab (Aa O (Aa O (Aa O ?_)))));obtain ⟨hg4,h⟩:=Ac h;refine Aa2 tt O O O O O O O O O O O hg4 (Aa O (Ah (Ai (Ai (Ab (Aa O (Aa O (Aa O (Ah ?_)))))))));refine Cr (F:=fun k=>Dt N p_0 l_1 k) h (α:=List Int) (J:=fun (l10:List Int)=>(⟨[(2,.ptr 2 0),(5,.row 25 0 ((List.replicate ((p_0.g.n).toNat) (0:Int)).length))],[(25,some (3,.ints l10))],[(2,some [.int p_0.g.n,.ro false (.pairs p_0.g.bars),.ro false (.ints p_0.ground)])]⟩:PS)) ?_ ?_
 ·rintro l10 h;show VC _ _ _ (⟨[(2,.ptr 2 0),(5,.row 25 0 ((List.replicate ((p_0.g.n).toNat) (0:Int)).length))],[(25,some (3,.ints l10))],[(2,some [.int p_0.g.n,.ro false (.pairs p_0.g.bars),.ro false (.ints p_0.ground)])]⟩:PS);refine Ai (Ai (Ab (Aa O ?_)));obtain ⟨v11,hc5,h⟩:=Ag h;refine Ba (Pg N p_0 v11 hc5) O O O O O O O O ⟨⟨O,O,O,Y⟩,Y⟩ (Aa O (Aa O (Ah (Cr (F:=fun k=>Cq N p_0 l10 v11 k) h (α:=Unit) (J:=fun (_:Unit)=>(⟨[],[],[]⟩:PS)) ?_ ?_))))
  ·rintro ⟨⟩ h;show VC _ _ _ (⟨[],[],[]⟩:PS);refine Ai (Ab (Aa O (Ah (Az ?_))));show ∃ _,_;cases h;exact ⟨[],_,O,Y,O,.eq O,O⟩
  intro k h;refine Aq (Bd (α:=Int) (fun (x14:Int)=>(⟨[(5,.row 25 0 ((List.replicate ((p_0.g.n).toNat) (0:Int)).length)),(56,.row 1560 0 v11.length),(57,.int (v11.length:Int)),(58,.int x14)],[(25,some (3,.ints l10)),(1560,some (3,.ints v11))],[]⟩:PS)) (Cq N p_0 l10 v11 k) h (En.of ⟨O,O,O,O,Y⟩ ⟨O,O,Y⟩ trivial) (fun _=>O) ?_);rintro n x14 h;rw [Cq] at h;show VC _ _ _ (⟨[(5,.row 25 0 ((List.replicate ((p_0.g.n).toNat) (0:Int)).length)),(56,.row 1560 0 v11.length),(57,.int (v11.length:Int)),(58,.int x14)],[(25,some (3,.ints l10)),(1560,some (3,.ints v11))],[]⟩:PS);refine Ai (Ab (Aa O (Ah (Ai (Au O (fun hb6=>?_) (fun hb6=>?_))))))
  ·replace h:=Ak hb6 h;refine As (Ai (Aq (Ai (Ab ?_))));obtain ⟨hg7,h⟩:=Ac h;refine Ae tt O hg7 (Ae tt O hg7 (Aa O (Ah (Ai (Ab (Aa O (Aa O ?_)))))));obtain ⟨hg8,h⟩:=Ac h;refine Ae tt O hg8 ?_;obtain ⟨hg9,h⟩:=Ac h;refine Ae tt O hg9 (Aa O (Ah (Au O (fun hb10=>?_) (fun hb10=>?_))))
   ·replace h:=Ak hb10 h;refine Ai (Ab (Aa O (Ah (Az ?_))));show ∃ _,_;cases h;exact ⟨[],_,O,Y,O,.eq O,O⟩
   replace h:=Al hb10 h;refine As (Ab ?_);obtain ⟨hg11,h⟩:=Ac h;refine Ae tt O hg11 (Aa O (Ah ?_));show ∃ _,_;exact ⟨(x14+(1:Int)),(En.of ⟨O,O,O,O,Y⟩ ⟨O,O,Y⟩ trivial),h⟩
  replace h:=Al hb6 h;refine Bn ?_;show ∃ _,_;exact ⟨(),(En.of trivial trivial trivial),h⟩
 intro k h;refine Aq (Bd (α:=(List Int)×Int) (fun | (l18,x19)=>(⟨[(2,.ptr 2 0),(5,.row 25 0 ((List.replicate ((p_0.g.n).toNat) (0:Int)).length)),(26,.ro false (.ints l_1)),(27,.int (l_1.length:Int)),(28,.int x19)],[(25,some (3,.ints l18))],[(2,some [.int p_0.g.n,.ro false (.pairs p_0.g.bars),.ro false (.ints p_0.ground)])]⟩:PS)) (Dt N p_0 l_1 k) h (En.of ⟨rfl,rfl,rfl,rfl,rfl,Y⟩ ⟨rfl,Y⟩ ⟨rfl,Y⟩) (fun _=>rfl) ?_);rintro n ⟨l18,x19⟩ h;rw [Dt] at h;show VC _ _ _ (⟨[(2,.ptr 2 0),(5,.row 25 0 ((List.replicate ((p_0.g.n).toNat) (0:Int)).length)),(26,.ro false (.ints l_1)),(27,.int (l_1.length:Int)),(28,.int x19)],[(25,some (3,.ints l18))],[(2,some [.int p_0.g.n,.ro false (.pairs p_0.g.bars),.ro false (.ints p_0.ground)])]⟩:PS);refine Ai (Ab (Aa O (Ah (Ai (Au O (fun hb12=>?_) (fun hb12=>?_))))))
 ·replace h:=Ak hb12 h;refine As (Ai (Aq (Ai (Ab (Aa O ?_)))));obtain ⟨hg13,h⟩:=Ac h;refine Ae tt O hg13 (Aa O (Aa O (Aa O (Ah (Ai (Ai (Ab ?_)))))));iterate 4 refine Aa O ?_
  obtain ⟨hg14,h⟩:=Ac h;refine Ae tt O hg14 (Aa O (Aa O ?_));obtain ⟨v22,hc15,h⟩:=Ag h;refine Ba (M_Bar_has_w N (p_0.g.bars.getD ((x19).toNat) (0,0)) (l_1.getD ((x19).toNat) 0) v22 hc15) O O O O O O O O ⟨⟨O,O,Y⟩,O,Y⟩ (Aa O (Aa O (Bu O O O (fun hb16=>?_) (fun hb16=>?_))))
  ·replace h:=Ak hb16 h;iterate 4 refine Lv O O O O hb16 O O ?_
   refine Cf O O O O O hb16 O (Ah (Ce O O (Ai (Ab (Aa O (Ah (Az ?_)))))));show ∃ _,_;cases h;exact ⟨[],_,O,Y,O,.eq O,O⟩
  replace h:=Al hb16 h;iterate 2 refine Bt tt O O O O O hb16 O O O Y ?_
  obtain ⟨v23,hc17,h⟩:=Ag h;refine Ll (Fk N p_0 (l_1.getD ((x19).toNat) 0) v23 hc17) O O O O hb16 O O O O O O O ⟨⟨O,O,O,Y⟩,O,Y⟩ (Bt tt O O O O O hb16 O O O Y (Bp O O O O O hb16 O (Ah (Au O (fun hb18=>?_) (fun hb18=>?_)))))
  ·replace h:=Ak hb18 h;refine Ai (Ab (Aa O (Ah (Az ?_))));show ∃ _,_;cases h;exact ⟨[],_,O,Y,O,.eq O,O⟩
  replace h:=Al hb18 h;refine As (Ab (Aa O (Aa O ?_)));obtain ⟨hg19,h⟩:=Ac h;refine Ae tt O hg19 ?_;obtain ⟨hg20,h⟩:=Ac h;refine Ae tt O hg20 ?_;obtain ⟨hg21,h⟩:=Ac h;refine Ae tt O hg21 (Ae tt O hg19 (Ar tt O O O O O O O O O O ⟨_,_,O,hg20.1,hg20.2⟩ ⟨hg20,Y⟩ (Ah (Ab ?_))));obtain ⟨hg22,h⟩:=Ac h;refine Ae tt O hg22 (Aa O (Ah ?_));show ∃ _,_;exact ⟨((l18.set (((l_1.getD ((x19).toNat) 0)).toNat) ((l18.getD (((l_1.getD ((x19).toNat) 0)).toNat) 0)+(1:Int))),(x19+(1:Int))),(En.of ⟨O,O,O,O,O,Y⟩ ⟨O,Y⟩ ⟨O,Y⟩),h⟩
 replace h:=Al hb12 h;refine Bn ?_;show ∃ _,_;exact ⟨l18,(En.of ⟨O,O,Y⟩ ⟨O,Y⟩ ⟨O,Y⟩),h⟩
end
end Go.Proofs.Ytaipbhnpandbkaa
