/- Texts that the proof needs, put together: G7 G31 G33 G34 G14 G8 G15. -/
import Derived.Test.YtcljhpldfanhkaaBJf3
set_option maxRecDepth 20000
set_option maxHeartbeats 1600000
set_option linter.unusedVariables false
set_option linter.unusedSimpArgs false
namespace Go.Proofs.Ytcljhpldfanhkaa
section
open Go.RowKit
def Gs (N:Nat) (g_0:Grf) (k:Unit→Option (Bool)):Nat→Int→Option (Bool)
 | 0,_=>none
 | n+1,x8=>
  cnd (decide (x8<(g_0.bars.length:Int))) (
   grd (0≤x8∧x8<(g_0.bars.length:Int)) <|
   cnd (decide (((g_0.bars.getD ((x8).toNat) (0,0)).1)<(0:Int))) (
    some false) (
    cnd (decide (((g_0.bars.getD ((x8).toNat) (0,0)).1)≥((g_0.bars.getD ((x8).toNat) (0,0)).2))) (
     some false) (
     cnd (decide (((g_0.bars.getD ((x8).toNat) (0,0)).2)≥g_0.n)) (
      some false) (
      cnd (decide (x8 > (0:Int))) (
       grd (Bf (x8-(1:Int))) <|
       grd (0≤(x8-(1:Int))∧(x8-(1:Int))<(g_0.bars.length:Int)) <|
       (Kf N (g_0.bars.getD (((x8-(1:Int))).toNat) (0,0)) (g_0.bars.getD ((x8).toNat) (0,0))).bind fun v10=>
       cnd (decide (v10 > (0:Int))) (
        some false) (
        grd (Bf (x8+(1:Int))) <|
        Gs N g_0 k n (x8+(1:Int)))) (
       grd (Bf (x8+(1:Int))) <|
       Gs N g_0 k n (x8+(1:Int))))))) (
   k ())
def Rt (N:Nat) (g_0:Grf):Option (Bool):=
 (Qu N g_0.n (1:Int) (8:Int)).bind fun v1=>
 cnd (!v1) (
  some false) (
  cnd (decide ((g_0.bars.length:Int) > (24:Int))) (
   some false) (
   Gs N g_0 (fun (_ : Unit) =>
      some true) N (0:Int)))
theorem I_IsGraph_w (N:Nat) (g_0:Grf) (r:Bool) (h:Rt N g_0=some r):PCall Try.prog 147 [gD g_0] [] (.bool r):=by
 unfold Rt at h
 refine Ah (TT:=TT) tt Try.func147 rfl rfl Try.ntmps147 (congrArg Array.toList Try.results147) rfl rfl fun w0=>?_
 refine Ag ?_
 refine Aa ?_
 refine Km rfl rfl rfl rfl rfl rfl rfl rfl rfl ?_
 refine oV5 tt rfl Tvv ?_
 refine Ae ?_
 show VC ..
 iterate 2 refine Ag ?_
 refine Aa ?_
 iterate 2 refine oV5 tt rfl Tvv ?_
 obtain ⟨v1,hc1,h⟩:=Ac h
 refine Ba (Wx N g_0.n (1:Int) (8:Int) v1 hc1) rfl rfl rfl rfl rfl rfl rfl rfl ⟨rfl,rfl,rfl,Tvv⟩ ?_
 iterate 2 refine oV5 tt rfl Tvv ?_
 refine Bc rfl rfl rfl (fun hb2=>?_) (fun hb2=>?_)
 ·replace h:=Ai hb2 h
  iterate 4 refine Hm rfl rfl rfl rfl hb2 rfl rfl ?_
  refine Be rfl rfl rfl rfl rfl hb2 rfl ?_
  refine Ae ?_
  show VC ..
  refine Bs rfl rfl ?_
  refine Ag ?_
  refine Aa ?_
  refine oV5 tt rfl Tvv ?_
  refine Ae ?_
  show VC ..
  refine Bb ?_
  show ∃ _,_
  cases h
  exact ⟨[],_,rfl,Tvv,rfl,(.eq rfl),rfl⟩
 replace h:=Aj hb2 h
 iterate 4 refine Bd tt rfl rfl rfl rfl rfl hb2 rfl rfl rfl Tvv ?_
 refine Av rfl rfl rfl rfl rfl hb2 rfl ?_
 refine Ae ?_
 show VC ..
 refine Au rfl (fun hb3=>?_) (fun hb3=>?_)
 ·replace h:=Ai hb3 h
  refine Ag ?_
  refine Aa ?_
  refine oV5 tt rfl Tvv ?_
  refine Ae ?_
  show VC ..
  refine Bb ?_
  show ∃ _,_
  cases h
  exact ⟨[],_,rfl,Tvv,rfl,(.eq rfl),rfl⟩
 replace h:=Aj hb3 h
 refine Ar ?_
 show VC ..
 iterate 2 refine Ag ?_
 refine Aa ?_
 iterate 4 refine oV5 tt rfl Tvv ?_
 refine Ae ?_
 show VC ..
 refine Ck (F:=fun k=>Gs N g_0 k) h (α:=Unit) (J:=fun (_:Unit)=>(⟨[],[],[]⟩:PS)) ?_ ?_
 ·rintro ⟨⟩ h
  show VC _ _ _ (⟨[],[],[]⟩:PS)
  refine Ag ?_
  refine Aa ?_
  refine oV5 tt rfl Tvv ?_
  refine Ae ?_
  show VC ..
  refine Bb ?_
  show ∃ _,_
  cases h
  exact ⟨[],_,rfl,Tvv,rfl,(.eq rfl),rfl⟩
 intro k h
 refine Aq ?_
 refine Bh (α:=Int) (fun (x8:Int)=>(⟨[(1,.ptr 1 0),(16,.ro false (.pairs g_0.bars)),(17,.int (g_0.bars.length:Int)),(18,.int x8)],[],[(1,some [.int g_0.n,.ro false (.pairs g_0.bars)])]⟩:PS)) (Gs N g_0 k) h (En.of ⟨rfl,rfl,rfl,rfl,Tvv⟩ trivial ⟨rfl,Tvv⟩) (fun _=>rfl) ?_
 rintro n x8 h
 rw [Gs] at h
 show VC _ _ _ (⟨[(1,.ptr 1 0),(16,.ro false (.pairs g_0.bars)),(17,.int (g_0.bars.length:Int)),(18,.int x8)],[],[(1,some [.int g_0.n,.ro false (.pairs g_0.bars)])]⟩:PS)
 refine Ag ?_
 refine Aa ?_
 refine oV5 tt rfl Tvv ?_
 refine Ae ?_
 show VC ..
 refine Ag ?_
 refine Au rfl (fun hb4=>?_) (fun hb4=>?_)
 ·replace h:=Ai hb4 h
  refine Ar ?_
  show VC ..
  refine Ag ?_
  refine Aq ?_
  refine Ag ?_
  refine Aa ?_
  refine oV5 tt rfl Tvv ?_
  obtain ⟨hg5,h⟩:=Ab h
  refine oV5 tt rfl hg5 ?_
  refine oV5 tt rfl Tvv ?_
  refine Bj tt rfl rfl rfl rfl rfl rfl rfl rfl rfl ?_
  refine oV5 tt rfl Tvv ?_
  refine Ao tt rfl rfl rfl rfl rfl rfl rfl rfl rfl rfl rfl ⟨Tvv,Tvv,Tvv⟩ ?_
  refine Ae ?_
  show VC ..
  refine Ag ?_
  refine Cg (by kernel_rfl) (by kernel_rfl) ?_
  iterate 4 refine Bi tt rfl (Ad rfl) rfl rfl rfl Tvv ?_
  refine Gd rfl rfl rfl (fun hb6=>?_) (fun hb6=>?_)
  ·replace h:=Ai hb6 h
   iterate 5 refine Pe rfl rfl rfl rfl hb6 rfl rfl ?_
   refine Cs rfl (Ad rfl) rfl rfl rfl hb6 rfl ?_
   refine Bi tt rfl (Ad rfl) rfl rfl rfl Tvv ?_
   iterate 5 refine Pe rfl rfl rfl rfl rfl rfl rfl ?_
   refine Cs rfl (Ad rfl) rfl rfl rfl rfl rfl ?_
   refine Bi tt rfl (Ad rfl) rfl rfl rfl Tvv ?_
   iterate 3 refine Pe rfl rfl rfl rfl rfl rfl rfl ?_
   iterate 9 refine cNoU rfl rfl rfl rfl rfl ?_
   refine Pe rfl rfl rfl rfl rfl rfl rfl ?_
   refine Cs rfl (Ad rfl) rfl rfl rfl rfl rfl ?_
   refine La ?_
   show VC ..
   refine Bs rfl rfl ?_
   refine Ag ?_
   refine Aa ?_
   refine oV5 tt rfl Tvv ?_
   refine Ae ?_
   show VC ..
   refine Bb ?_
   show ∃ _,_
   cases h
   exact ⟨[],_,rfl,Tvv,rfl,(.eq rfl),rfl⟩
  replace h:=Aj hb6 h
  iterate 5 refine Bi tt rfl (Ax rfl rfl rfl rfl hb6) rfl rfl rfl Tvv ?_
  refine Do rfl (Ad rfl) rfl rfl rfl hb6 rfl ?_
  refine Bi tt rfl (Ad rfl) rfl rfl rfl Tvv ?_
  refine Gd rfl rfl rfl (fun hb7=>?_) (fun hb7=>?_)
  ·replace h:=Ai hb7 h
   iterate 5 refine Pe rfl rfl rfl rfl hb7 rfl rfl ?_
   refine Cs rfl (Ad rfl) rfl rfl rfl hb7 rfl ?_
   refine Bi tt rfl (Ad rfl) rfl rfl rfl Tvv ?_
   iterate 3 refine Pe rfl rfl rfl rfl rfl rfl rfl ?_
   iterate 9 refine cNoU rfl rfl rfl rfl rfl ?_
   refine Pe rfl rfl rfl rfl rfl rfl rfl ?_
   refine Cs rfl (Ad rfl) rfl rfl rfl rfl rfl ?_
   refine La ?_
   show VC ..
   refine Bs rfl rfl ?_
   refine Ag ?_
   refine Aa ?_
   refine oV5 tt rfl Tvv ?_
   refine Ae ?_
   show VC ..
   refine Bb ?_
   show ∃ _,_
   cases h
   exact ⟨[],_,rfl,Tvv,rfl,(.eq rfl),rfl⟩
  replace h:=Aj hb7 h
  iterate 5 refine Bi tt rfl (Ax rfl rfl rfl rfl hb7) rfl rfl rfl Tvv ?_
  refine Do rfl (Ad rfl) rfl rfl rfl hb7 rfl ?_
  refine Bi tt rfl (Ad rfl) rfl rfl rfl Tvv ?_
  refine Gd rfl rfl rfl (fun hb8=>?_) (fun hb8=>?_)
  ·replace h:=Ai hb8 h
   iterate 3 refine Pe rfl rfl rfl rfl hb8 rfl rfl ?_
   iterate 9 refine cNoU rfl rfl rfl rfl rfl ?_
   refine Pe rfl rfl rfl rfl hb8 rfl rfl ?_
   refine Cs rfl (Ad rfl) rfl rfl rfl hb8 rfl ?_
   refine La ?_
   show VC ..
   refine Bs rfl rfl ?_
   refine Ag ?_
   refine Aa ?_
   refine oV5 tt rfl Tvv ?_
   refine Ae ?_
   show VC ..
   refine Bb ?_
   show ∃ _,_
   cases h
   exact ⟨[],_,rfl,Tvv,rfl,(.eq rfl),rfl⟩
  replace h:=Aj hb8 h
  iterate 3 refine Bi tt rfl (Ax rfl rfl rfl rfl hb8) rfl rfl rfl Tvv ?_
  refine Gd rfl rfl rfl (fun hb9=>?_) (fun hb9=>?_)
  ·replace h:=Ai hb9 h
   iterate 3 refine Bi tt rfl (Ax rfl rfl rfl rfl hb9) rfl rfl rfl Tvv ?_
   obtain ⟨hg10,h⟩:=Ab h
   refine Bi tt rfl (Ax rfl rfl rfl rfl hb9) rfl rfl rfl hg10 ?_
   obtain ⟨hg11,h⟩:=Ab h
   refine Bi tt rfl (Ax rfl rfl rfl rfl hb9) rfl rfl rfl hg11 ?_
   iterate 2 refine Bi tt rfl (Ax rfl rfl rfl rfl hb9) rfl rfl rfl Tvv ?_
   obtain ⟨v10,hc12,h⟩:=Ac h
   refine Pr (Yx N (g_0.bars.getD (((x8-(1:Int))).toNat) (0,0)) (g_0.bars.getD ((x8).toNat) (0,0)) v10 hc12) rfl (Ax rfl rfl rfl rfl hb9) rfl rfl rfl rfl rfl rfl ⟨⟨rfl,rfl,Tvv⟩,⟨rfl,rfl,Tvv⟩,Tvv⟩ ?_
   refine Bi tt rfl (Ax rfl rfl rfl rfl hb9) rfl rfl rfl Tvv ?_
   refine Cs rfl (Ax rfl rfl rfl rfl hb8) rfl rfl rfl hb9 rfl ?_
   refine Do rfl (Ad rfl) rfl rfl rfl hb8 rfl ?_
   refine La ?_
   show VC ..
   refine Au rfl (fun hb13=>?_) (fun hb13=>?_)
   ·replace h:=Ai hb13 h
    refine Ag ?_
    refine Aa ?_
    refine oV5 tt rfl Tvv ?_
    refine Ae ?_
    show VC ..
    refine Bb ?_
    show ∃ _,_
    cases h
    exact ⟨[],_,rfl,Tvv,rfl,(.eq rfl),rfl⟩
   replace h:=Aj hb13 h
   refine Ar ?_
   show VC ..
   refine Aa ?_
   obtain ⟨hg14,h⟩:=Ab h
   refine oV5 tt rfl hg14 ?_
   refine oV5 tt rfl Tvv ?_
   refine Ae ?_
   show ∃ _,_
   exact ⟨(x8+(1:Int)),(En.of ⟨rfl,rfl,rfl,rfl,Tvv⟩ trivial ⟨rfl,Tvv⟩),h⟩
  replace h:=Aj hb9 h
  iterate 9 refine cNoT rfl rfl rfl rfl hb9 rfl rfl ?_
  refine Do rfl (Ax rfl rfl rfl rfl hb8) rfl rfl rfl hb9 rfl ?_
  refine Do rfl (Ad rfl) rfl rfl rfl hb8 rfl ?_
  refine La ?_
  show VC ..
  refine Cz rfl rfl ?_
  refine Ar ?_
  show VC ..
  refine Aa ?_
  obtain ⟨hg15,h⟩:=Ab h
  refine oV5 tt rfl hg15 ?_
  refine oV5 tt rfl Tvv ?_
  refine Ae ?_
  show ∃ _,_
  exact ⟨(x8+(1:Int)),(En.of ⟨rfl,rfl,rfl,rfl,Tvv⟩ trivial ⟨rfl,Tvv⟩),h⟩
 replace h:=Aj hb4 h
 refine Bq ?_
 show ∃ _,_
 exact ⟨(),(En.of trivial trivial trivial),h⟩
def Ew (N:Nat) (g_0:Grf) (k:Unit→Option (Bool)):Nat→Int→Option (Bool)
 | 0,_=>none
 | n+1,i3=>
  cnd (decide (i3<(g_0.bars.length:Int))) (
   grd (Bf (i3-(1:Int))) <|
   grd (0≤(i3-(1:Int))∧(i3-(1:Int))<(g_0.bars.length:Int)) <|
   grd (0≤i3∧i3<(g_0.bars.length:Int)) <|
   cnd (((g_0.bars.getD (((i3-(1:Int))).toNat) (0,0)).1==(g_0.bars.getD ((i3).toNat) (0,0)).1)&&((g_0.bars.getD (((i3-(1:Int))).toNat) (0,0)).2==(g_0.bars.getD ((i3).toNat) (0,0)).2)) (
    some true) (
    grd (Bf (i3+(1:Int))) <|
    Ew N g_0 k n (i3+(1:Int)))) (
   k ())
def Lj (N:Nat) (g_0:Grf):Option (Bool):=
 Ew N g_0 (fun (_ : Unit) =>
    some false) N (1:Int)
theorem Aah (N:Nat) (g_0:Grf) (r:Bool) (h:Lj N g_0=some r):PCall Try.prog 148 [gD g_0] [] (.bool r):=by
 unfold Lj at h
 refine Ah (TT:=TT) tt Try.func148 rfl rfl Try.ntmps148 (congrArg Array.toList Try.results148) rfl rfl fun w0=>?_
 refine Ag ?_
 refine Aa ?_
 refine Km rfl rfl rfl rfl rfl rfl rfl rfl rfl ?_
 refine oV5 tt rfl Tvv ?_
 refine Ae ?_
 show VC ..
 iterate 2 refine Ag ?_
 refine Aa ?_
 refine oV5 tt rfl Tvv ?_
 refine Ae ?_
 show VC ..
 refine Ck (F:=fun k=>Ew N g_0 k) h (α:=Unit) (J:=fun (_:Unit)=>(⟨[],[],[]⟩:PS)) ?_ ?_
 ·rintro ⟨⟩ h
  show VC _ _ _ (⟨[],[],[]⟩:PS)
  refine Ag ?_
  refine Aa ?_
  refine oV5 tt rfl Tvv ?_
  refine Ae ?_
  show VC ..
  refine Bb ?_
  show ∃ _,_
  cases h
  exact ⟨[],_,rfl,Tvv,rfl,(.eq rfl),rfl⟩
 intro k h
 refine Aq ?_
 refine Bh (α:=Int) (fun (i3:Int)=>(⟨[(1,.ptr 1 0),(3,.int i3)],[],[(1,some [.int g_0.n,.ro false (.pairs g_0.bars)])]⟩:PS)) (Ew N g_0 k) h (En.of ⟨rfl,rfl,Tvv⟩ trivial ⟨rfl,Tvv⟩) (fun _=>rfl) ?_
 rintro n i3 h
 rw [Ew] at h
 show VC _ _ _ (⟨[(1,.ptr 1 0),(3,.int i3)],[],[(1,some [.int g_0.n,.ro false (.pairs g_0.bars)])]⟩:PS)
 iterate 2 refine Ag ?_
 refine Aa ?_
 iterate 5 refine oV5 tt rfl Tvv ?_
 refine Ae ?_
 show VC ..
 refine Au rfl (fun hb1=>?_) (fun hb1=>?_)
 ·replace h:=Ai hb1 h
  refine Ar ?_
  show VC ..
  refine Ag ?_
  refine Aq ?_
  refine Ag ?_
  refine Cg (by kernel_rfl) (by kernel_rfl) ?_
  iterate 3 refine Bi tt rfl (Ad rfl) rfl rfl rfl Tvv ?_
  obtain ⟨hg2,h⟩:=Ab h
  refine Bi tt rfl (Ad rfl) rfl rfl rfl hg2 ?_
  obtain ⟨hg3,h⟩:=Ab h
  refine Bi tt rfl (Ad rfl) rfl rfl rfl hg3 ?_
  iterate 4 refine Bi tt rfl (Ad rfl) rfl rfl rfl Tvv ?_
  obtain ⟨hg4,h⟩:=Ab h
  refine Bi tt rfl (Ad rfl) rfl rfl rfl hg4 ?_
  refine Bi tt rfl (Ad rfl) rfl rfl rfl Tvv ?_
  refine Xu (Ad rfl) (pEqP Rw rfl rfl rfl) rfl rfl ?_
  refine La ?_
  show VC ..
  refine Au rfl (fun hb5=>?_) (fun hb5=>?_)
  ·replace h:=Ai hb5 h
   refine Ag ?_
   refine Aa ?_
   refine oV5 tt rfl Tvv ?_
   refine Ae ?_
   show VC ..
   refine Bb ?_
   show ∃ _,_
   cases h
   exact ⟨[],_,rfl,Tvv,rfl,(.eq rfl),rfl⟩
  replace h:=Aj hb5 h
  refine Ar ?_
  show VC ..
  refine Aa ?_
  refine oV5 tt rfl Tvv ?_
  obtain ⟨hg6,h⟩:=Ab h
  refine oV5 tt rfl hg6 ?_
  refine oV5 tt rfl Tvv ?_
  refine Ae ?_
  show ∃ _,_
  exact ⟨(i3+(1:Int)),(En.of ⟨rfl,rfl,Tvv⟩ trivial ⟨rfl,Tvv⟩),h⟩
 replace h:=Aj hb1 h
 refine Bq ?_
 show ∃ _,_
 exact ⟨(),(En.of trivial trivial trivial),h⟩
def Rd (N:Nat) (x_0:Int×Int) (v_1:Int):Option (Bool):=
 cnd (x_0.1==v_1) (
  some true) (
  some (x_0.2==v_1))
theorem M_Bar_has_w (N:Nat) (x_0:Int×Int) (v_1:Int) (r:Bool) (h:Rd N x_0 v_1=some r):PCall Try.prog 129 [.agg [.int x_0.1,.int x_0.2],.int v_1] [] (.bool r):=by
 unfold Rd at h
 refine Ah (TT:=TT) tt Try.func129 rfl rfl Try.ntmps129 (congrArg Array.toList Try.results129) rfl rfl fun w0=>?_
 refine Ag ?_
 refine Aa ?_
 refine Km rfl rfl rfl rfl rfl rfl rfl rfl rfl ?_
 refine oV5 tt rfl Tvv ?_
 refine Ae ?_
 show VC ..
 refine Ag ?_
 refine Aa ?_
 iterate 5 refine oV5 tt rfl Tvv ?_
 refine Bc rfl rfl rfl (fun hb1=>?_) (fun hb1=>?_)
 ·replace h:=Ai hb1 h
  iterate 4 refine Hm rfl rfl rfl rfl hb1 rfl rfl ?_
  refine Be rfl rfl rfl rfl rfl hb1 rfl ?_
  refine oV5 tt rfl Tvv ?_
  refine Ae ?_
  show VC ..
  refine Bb ?_
  show ∃ _,_
  cases h
  exact ⟨[],_,rfl,Tvv,rfl,(.eq rfl),rfl⟩
 replace h:=Aj hb1 h
 iterate 4 refine Bd tt rfl rfl rfl rfl rfl hb1 rfl rfl rfl Tvv ?_
 refine Av rfl rfl rfl rfl rfl hb1 rfl ?_
 refine oV5 tt rfl Tvv ?_
 refine Ae ?_
 show VC ..
 refine Bb ?_
 show ∃ _,_
 cases h
 exact ⟨[],_,rfl,Tvv,rfl,(.eq rfl),rfl⟩
def Hw (N:Nat) (x_0:Int×Int) (v_1:Int):Option (Int):=
 cnd (x_0.1==v_1) (
  some x_0.2) (
  some x_0.1)
theorem Wa (N:Nat) (x_0:Int×Int) (v_1:Int) (r:Int) (h:Hw N x_0 v_1=some r):PCall Try.prog 174 [.agg [.int x_0.1,.int x_0.2],.int v_1] [] (.int r):=by
 unfold Hw at h
 refine Ah (TT:=TT) tt Try.func174 rfl rfl Try.ntmps174 (congrArg Array.toList Try.results174) rfl rfl fun w0=>?_
 refine Ag ?_
 refine Aa ?_
 refine Km rfl rfl rfl rfl rfl rfl rfl rfl rfl ?_
 refine oV5 tt rfl Tvv ?_
 refine Ae ?_
 show VC ..
 iterate 2 refine Ag ?_
 refine Aa ?_
 iterate 4 refine oV5 tt rfl Tvv ?_
 refine Ae ?_
 show VC ..
 refine Au rfl (fun hb1=>?_) (fun hb1=>?_)
 ·replace h:=Ai hb1 h
  refine Ag ?_
  refine Aa ?_
  iterate 3 refine oV5 tt rfl Tvv ?_
  refine Ae ?_
  show VC ..
  refine Bb ?_
  show ∃ _,_
  cases h
  exact ⟨[],_,rfl,Tvv,rfl,(.eq rfl),rfl⟩
 replace h:=Aj hb1 h
 refine Ar ?_
 show VC ..
 refine Ag ?_
 refine Aa ?_
 iterate 3 refine oV5 tt rfl Tvv ?_
 refine Ae ?_
 show VC ..
 refine Bb ?_
 show ∃ _,_
 cases h
 exact ⟨[],_,rfl,Tvv,rfl,(.eq rfl),rfl⟩
end
section
open Go.RowKit
def Kg (N:Nat) (p_0:Pbl):Option (Pbl):=
 (Kv N p_0.free).bind fun v1=>
 (Kv N p_0.tails).bind fun v2=>
 (Kv N p_0.placed).bind fun v3=>
 some (⟨v1,v2,v3⟩:Pbl)
theorem Zv (N:Nat) (p_0:Pbl) (r:Pbl) (h:Kg N p_0=some r):PCall Try.prog 201 [bD p_0] [(3,.ints r.free),(3,.ints r.tails),(3,.ints r.placed)] (.agg [.row 0 0 r.free.length,.row 1 0 r.tails.length,.row 2 0 r.placed.length]):=by
 unfold Kg at h
 refine Ah (TT:=TT) tt Try.func201 rfl rfl Try.ntmps201 (congrArg Array.toList Try.results201) rfl rfl fun w0=>?_
 refine Ag ?_
 refine Aa ?_
 refine Km rfl rfl rfl rfl rfl rfl rfl rfl rfl ?_
 refine Bj tt rfl rfl rfl rfl rfl rfl rfl rfl rfl ?_
 refine Ae ?_
 show VC ..
 refine Ag ?_
 refine Bl 8 [2,5] [0,1,3,0,8,31,0,64,255,511,1023] (by kernel_rfl) (by kernel_rfl) (by kernel_rfl) (by kernel_rfl) (by kernel_rfl) rfl (by rfl) ?_
 iterate 2 refine Bo tt rfl (Ad rfl) rfl rfl rfl rfl rfl Tvv ?_
 obtain ⟨v1,hc1,h⟩:=Ac h
 refine Jh (Rr N p_0.free v1 hc1) rfl (Ad rfl) rfl rfl rfl rfl rfl rfl (by first | rfl | kernel_rfl | (simp [nrL,nm,Dy,nmT,Es]; done)) rfl (by first | rfl | kernel_rfl | (simp [Jj,nrL,nm,Dy,nmT,Es,hid,Ez,Cf,Bn]; done) | (simp [Jj,nrL,nm,Dy,nmT,Es,hid,Ez,Cf,Bn]; decide)) ⟨rfl,Tvv⟩ ?_
 iterate 2 refine Bo tt rfl (Ad rfl) rfl rfl rfl rfl rfl Tvv ?_
 obtain ⟨v2,hc2,h⟩:=Ac h
 refine Jh (Rr N p_0.tails v2 hc2) rfl (Ad rfl) rfl rfl rfl rfl rfl rfl (by first | rfl | kernel_rfl | (simp [nrL,nm,Dy,nmT,Es]; done)) rfl (by first | rfl | kernel_rfl | (simp [Jj,nrL,nm,Dy,nmT,Es,hid,Ez,Cf,Bn]; done) | (simp [Jj,nrL,nm,Dy,nmT,Es,hid,Ez,Cf,Bn]; decide)) ⟨rfl,Tvv⟩ ?_
 iterate 2 refine Bo tt rfl (Ad rfl) rfl rfl rfl rfl rfl Tvv ?_
 refine Lt ?_
 show VO _ _ _ _ _
 obtain ⟨v3,hc3,h⟩:=Ac h
 refine Ba (Rr N p_0.placed v3 hc3) rfl rfl rfl rfl rfl rfl rfl rfl ⟨rfl,Tvv⟩ ?_
 refine Du (Ad rfl) (Dp Fe rfl rfl) rfl rfl ?_
 refine Ao tt rfl rfl rfl rfl rfl rfl rfl rfl rfl rfl rfl ⟨Tvv,Tvv,Tvv,Tvv⟩ ?_
 refine Ae ?_
 show VC ..
 refine Bb ?_
 show ∃ _,_
 cases h
 exact ⟨[1050,1080,1110],_,rfl,⟨rfl,rfl,rfl,Tvv⟩,rfl,(.eq rfl),rfl⟩
def Cu (N:Nat) (p_0:Pin) (done_1:List Int) (v_2:Int) (k:(List Int)→Option (List Int)):Nat→((List Int)×Int)→Option (List Int)
 | 0,_=>none
 | n+1,(l41,i42)=>
  cnd (decide (i42<(p_0.g.bars.length:Int))) (
   grd (0≤i42∧i42<(p_0.g.bars.length:Int)) <|
   cnd (((p_0.g.bars.getD ((i42).toNat) (0,0)).1)==v_2) (
    (Eg N (p_0.g.bars.getD ((i42).toNat) (0,0)) v_2).bind fun v49=>
    (Cw N p_0.ground v49).bind fun v50=>
    cnd v50 (
     grd (l41.length+1≤4294967296) <|
     grd (Bf (i42+(1:Int))) <|
     Cu N p_0 done_1 v_2 k n ((l41++([i42]:List Int)),(i42+(1:Int)))) (
     (Cw N done_1 v49).bind fun v51=>
     cnd v51 (
      grd (l41.length+1≤4294967296) <|
      grd (Bf (i42+(1:Int))) <|
      Cu N p_0 done_1 v_2 k n ((l41++([i42]:List Int)),(i42+(1:Int)))) (
      grd (Bf (i42+(1:Int))) <|
      Cu N p_0 done_1 v_2 k n (l41,(i42+(1:Int)))))) (
    cnd (((p_0.g.bars.getD ((i42).toNat) (0,0)).2)==v_2) (
     (Eg N (p_0.g.bars.getD ((i42).toNat) (0,0)) v_2).bind fun v52=>
     (Cw N p_0.ground v52).bind fun v53=>
     cnd v53 (
      grd (l41.length+1≤4294967296) <|
      grd (Bf (i42+(1:Int))) <|
      Cu N p_0 done_1 v_2 k n ((l41++([i42]:List Int)),(i42+(1:Int)))) (
      (Cw N done_1 v52).bind fun v54=>
      cnd v54 (
       grd (l41.length+1≤4294967296) <|
       grd (Bf (i42+(1:Int))) <|
       Cu N p_0 done_1 v_2 k n ((l41++([i42]:List Int)),(i42+(1:Int)))) (
       grd (Bf (i42+(1:Int))) <|
       Cu N p_0 done_1 v_2 k n (l41,(i42+(1:Int)))))) (
     grd (Bf (i42+(1:Int))) <|
     Cu N p_0 done_1 v_2 k n (l41,(i42+(1:Int)))))) (
   k l41)
def Re (N:Nat) (p_0:Pin) (done_1:List Int) (v_2:Int):Option (List Int):=
 Cu N p_0 done_1 v_2 (fun (l27 : List Int) =>
    some l27) N (([]:List Int),(0:Int))
theorem S_l26Bars_w (N:Nat) (p_0:Pin) (done_1:List Int) (v_2:Int) (r:List Int) (h:Re N p_0 done_1 v_2=some r):PCall Try.prog 112 [pD p_0,.ro false (.ints done_1),.int v_2] [(3,.ints r)] (.row 0 0 r.length):=by
 unfold Re at h
 refine Ah (TT:=TT) tt Try.func112 rfl rfl Try.ntmps112 (congrArg Array.toList Try.results112) rfl rfl fun w0=>?_
 refine Ag ?_
 refine Aa ?_
 refine Km rfl rfl rfl rfl rfl rfl rfl rfl rfl ?_
 refine oV5 tt rfl Tvv ?_
 refine Ae ?_
 show VC ..
 refine Ag ?_
 refine Aa ?_
 refine Fa tt (Ad rfl) rfl rfl rfl rfl ?_
 refine oV5 tt rfl Tvv ?_
 refine Ae ?_
 show VC ..
 iterate 2 refine Ag ?_
 refine Aa ?_
 refine oV5 tt rfl Tvv ?_
 refine Ae ?_
 show VC ..
 refine Ck (F:=fun k=>Cu N p_0 done_1 v_2 k) h (α:=List Int) (J:=fun (l27:List Int)=>(⟨[(7,.row 51 0 l27.length)],[(51,some (3,.ints l27))],[]⟩:PS)) ?_ ?_
 ·rintro l27 h
  show VC _ _ _ (⟨[(7,.row 51 0 l27.length)],[(51,some (3,.ints l27))],[]⟩:PS)
  refine Ag ?_
  refine Aa ?_
  iterate 2 refine oV5 tt rfl Tvv ?_
  refine Ae ?_
  show VC ..
  refine Bb ?_
  show ∃ _,_
  cases h
  exact ⟨[51],_,rfl,⟨rfl,Tvv⟩,rfl,(.eq rfl),rfl⟩
 intro k h
 refine Aq ?_
 refine Md 7 51 3 (.ints []) rfl rfl rfl rfl ?_
 refine Bh (α:=(List Int)×Int) (fun | (l41,i42)=>(⟨[(1,.ro false (.ints done_1)),(2,.int v_2),(3,.ptr 3 0),(7,.row 51 0 l41.length),(8,.int i42)],[(51,some (3,.ints l41))],[(3,some [.int p_0.g.n,.ro false (.pairs p_0.g.bars),.ro false (.ints p_0.ground)])]⟩:PS)) (Cu N p_0 done_1 v_2 k) h (En.of ⟨rfl,rfl,rfl,rfl,rfl,Tvv⟩ ⟨rfl,Tvv⟩ ⟨rfl,Tvv⟩) (fun _=>rfl) ?_
 rintro n ⟨l41,i42⟩ h
 rw [Cu] at h
 show VC _ _ _ (⟨[(1,.ro false (.ints done_1)),(2,.int v_2),(3,.ptr 3 0),(7,.row 51 0 l41.length),(8,.int i42)],[(51,some (3,.ints l41))],[(3,some [.int p_0.g.n,.ro false (.pairs p_0.g.bars),.ro false (.ints p_0.ground)])]⟩:PS)
 iterate 2 refine Ag ?_
 refine Aa ?_
 iterate 6 refine oV5 tt rfl Tvv ?_
 refine Ae ?_
 show VC ..
 refine Au rfl (fun hb1=>?_) (fun hb1=>?_)
 ·replace h:=Ai hb1 h
  refine Ar ?_
  show VC ..
  refine Ag ?_
  refine Aq ?_
  refine Ag ?_
  refine Aa ?_
  iterate 4 refine oV5 tt rfl Tvv ?_
  obtain ⟨hg2,h⟩:=Ab h
  refine oV5 tt rfl hg2 ?_
  refine oV5 tt rfl Tvv ?_
  refine Bj tt rfl rfl rfl rfl rfl rfl rfl rfl rfl ?_
  refine Ao tt rfl rfl rfl rfl rfl rfl rfl rfl rfl rfl rfl ⟨Tvv,Tvv,Tvv⟩ ?_
  refine Ae ?_
  show VC ..
  refine Ag ?_
  refine Aa ?_
  iterate 5 refine oV5 tt rfl Tvv ?_
  refine Bc rfl rfl rfl (fun hb3=>?_) (fun hb3=>?_)
  ·replace h:=Ai hb3 h
   iterate 4 refine Hm rfl rfl rfl rfl hb3 rfl rfl ?_
   refine Be rfl rfl rfl rfl rfl hb3 rfl ?_
   refine Ae ?_
   show VC ..
   refine Bs rfl rfl ?_
   refine Ag ?_
   refine Aa ?_
   iterate 2 refine oV5 tt rfl Tvv ?_
   obtain ⟨v49,hc4,h⟩:=Ac h
   refine Ba (Gt N (p_0.g.bars.getD ((i42).toNat) (0,0)) v_2 v49 hc4) rfl rfl rfl rfl rfl rfl rfl rfl ⟨⟨rfl,rfl,Tvv⟩,rfl,Tvv⟩ ?_
   refine oV5 tt rfl Tvv ?_
   refine Ae ?_
   show VC ..
   refine Ag ?_
   refine Aa ?_
   iterate 3 refine oV5 tt rfl Tvv ?_
   obtain ⟨v50,hc5,h⟩:=Ac h
   refine Ba (Ct N p_0.ground v49 v50 hc5) rfl rfl rfl rfl rfl rfl rfl rfl ⟨rfl,rfl,Tvv⟩ ?_
   refine oV5 tt rfl Tvv ?_
   refine Bc rfl rfl rfl (fun hb6=>?_) (fun hb6=>?_)
   ·replace h:=Ai hb6 h
    iterate 3 refine Hm rfl rfl rfl rfl hb6 rfl rfl ?_
    refine Be rfl rfl rfl rfl rfl hb6 rfl ?_
    refine Ae ?_
    show VC ..
    refine Bs rfl rfl ?_
    refine Aa ?_
    iterate 2 refine oV5 tt rfl Tvv ?_
    refine Cv tt rfl rfl rfl rfl rfl rfl rfl rfl rfl rfl rfl ?_
    obtain ⟨hg7,h⟩:=Ab h
    refine Bp tt rfl rfl rfl rfl rfl rfl rfl rfl rfl rfl rfl rfl rfl rfl rfl rfl (Nat.le_of_eq (Nat.zero_add _)) hg7 ?_
    refine oV5 tt rfl Tvv ?_
    refine Ae ?_
    show VC ..
    refine Aa ?_
    refine oV5 tt rfl Tvv ?_
    obtain ⟨hg8,h⟩:=Ab h
    refine oV5 tt rfl hg8 ?_
    refine oV5 tt rfl Tvv ?_
    refine Ae ?_
    show ∃ _,_
    exact ⟨((l41++([i42]:List Int)),(i42+(1:Int))),(En.of ⟨rfl,rfl,rfl,rfl,rfl,Tvv⟩ ⟨rfl,Tvv⟩ ⟨rfl,Tvv⟩),h⟩
   replace h:=Aj hb6 h
   iterate 2 refine Bd tt rfl rfl rfl rfl rfl hb6 rfl rfl rfl Tvv ?_
   obtain ⟨v51,hc9,h⟩:=Ac h
   refine Fj (Ct N done_1 v49 v51 hc9) rfl rfl rfl rfl hb6 rfl rfl rfl rfl rfl rfl rfl ⟨rfl,rfl,Tvv⟩ ?_
   refine Av rfl rfl rfl rfl rfl hb6 rfl ?_
   refine Ae ?_
   show VC ..
   refine Au rfl (fun hb10=>?_) (fun hb10=>?_)
   ·replace h:=Ai hb10 h
    refine Aa ?_
    iterate 2 refine oV5 tt rfl Tvv ?_
    refine Cv tt rfl rfl rfl rfl rfl rfl rfl rfl rfl rfl rfl ?_
    obtain ⟨hg11,h⟩:=Ab h
    refine Bp tt rfl rfl rfl rfl rfl rfl rfl rfl rfl rfl rfl rfl rfl rfl rfl rfl (Nat.le_of_eq (Nat.zero_add _)) hg11 ?_
    refine oV5 tt rfl Tvv ?_
    refine Ae ?_
    show VC ..
    refine Aa ?_
    refine oV5 tt rfl Tvv ?_
    obtain ⟨hg12,h⟩:=Ab h
    refine oV5 tt rfl hg12 ?_
    refine oV5 tt rfl Tvv ?_
    refine Ae ?_
    show ∃ _,_
    exact ⟨((l41++([i42]:List Int)),(i42+(1:Int))),(En.of ⟨rfl,rfl,rfl,rfl,rfl,Tvv⟩ ⟨rfl,Tvv⟩ ⟨rfl,Tvv⟩),h⟩
   replace h:=Aj hb10 h
   refine Ar ?_
   show VC ..
   refine Aa ?_
   refine oV5 tt rfl Tvv ?_
   obtain ⟨hg13,h⟩:=Ab h
   refine oV5 tt rfl hg13 ?_
   refine oV5 tt rfl Tvv ?_
   refine Ae ?_
   show ∃ _,_
   exact ⟨(l41,(i42+(1:Int))),(En.of ⟨rfl,rfl,rfl,rfl,rfl,Tvv⟩ ⟨rfl,Tvv⟩ ⟨rfl,Tvv⟩),h⟩
  replace h:=Aj hb3 h
  iterate 4 refine Bd tt rfl rfl rfl rfl rfl hb3 rfl rfl rfl Tvv ?_
  refine Av rfl rfl rfl rfl rfl hb3 rfl ?_
  refine Ae ?_
  show VC ..
  refine Au rfl (fun hb14=>?_) (fun hb14=>?_)
  ·replace h:=Ai hb14 h
   refine Ag ?_
   refine Aa ?_
   iterate 2 refine oV5 tt rfl Tvv ?_
   obtain ⟨v52,hc15,h⟩:=Ac h
   refine Ba (Gt N (p_0.g.bars.getD ((i42).toNat) (0,0)) v_2 v52 hc15) rfl rfl rfl rfl rfl rfl rfl rfl ⟨⟨rfl,rfl,Tvv⟩,rfl,Tvv⟩ ?_
   refine oV5 tt rfl Tvv ?_
   refine Ae ?_
   show VC ..
   refine Ag ?_
   refine Aa ?_
   iterate 3 refine oV5 tt rfl Tvv ?_
   obtain ⟨v53,hc16,h⟩:=Ac h
   refine Ba (Ct N p_0.ground v52 v53 hc16) rfl rfl rfl rfl rfl rfl rfl rfl ⟨rfl,rfl,Tvv⟩ ?_
   refine oV5 tt rfl Tvv ?_
   refine Bc rfl rfl rfl (fun hb17=>?_) (fun hb17=>?_)
   ·replace h:=Ai hb17 h
    iterate 3 refine Hm rfl rfl rfl rfl hb17 rfl rfl ?_
    refine Be rfl rfl rfl rfl rfl hb17 rfl ?_
    refine Ae ?_
    show VC ..
    refine Bs rfl rfl ?_
    refine Aa ?_
    iterate 2 refine oV5 tt rfl Tvv ?_
    refine Cv tt rfl rfl rfl rfl rfl rfl rfl rfl rfl rfl rfl ?_
    obtain ⟨hg18,h⟩:=Ab h
    refine Bp tt rfl rfl rfl rfl rfl rfl rfl rfl rfl rfl rfl rfl rfl rfl rfl rfl (Nat.le_of_eq (Nat.zero_add _)) hg18 ?_
    refine oV5 tt rfl Tvv ?_
    refine Ae ?_
    show VC ..
    refine Aa ?_
    refine oV5 tt rfl Tvv ?_
    obtain ⟨hg19,h⟩:=Ab h
    refine oV5 tt rfl hg19 ?_
    refine oV5 tt rfl Tvv ?_
    refine Ae ?_
    show ∃ _,_
    exact ⟨((l41++([i42]:List Int)),(i42+(1:Int))),(En.of ⟨rfl,rfl,rfl,rfl,rfl,Tvv⟩ ⟨rfl,Tvv⟩ ⟨rfl,Tvv⟩),h⟩
   replace h:=Aj hb17 h
   iterate 2 refine Bd tt rfl rfl rfl rfl rfl hb17 rfl rfl rfl Tvv ?_
   obtain ⟨v54,hc20,h⟩:=Ac h
   refine Fj (Ct N done_1 v52 v54 hc20) rfl rfl rfl rfl hb17 rfl rfl rfl rfl rfl rfl rfl ⟨rfl,rfl,Tvv⟩ ?_
   refine Av rfl rfl rfl rfl rfl hb17 rfl ?_
   refine Ae ?_
   show VC ..
   refine Au rfl (fun hb21=>?_) (fun hb21=>?_)
   ·replace h:=Ai hb21 h
    refine Aa ?_
    iterate 2 refine oV5 tt rfl Tvv ?_
    refine Cv tt rfl rfl rfl rfl rfl rfl rfl rfl rfl rfl rfl ?_
    obtain ⟨hg22,h⟩:=Ab h
    refine Bp tt rfl rfl rfl rfl rfl rfl rfl rfl rfl rfl rfl rfl rfl rfl rfl rfl (Nat.le_of_eq (Nat.zero_add _)) hg22 ?_
    refine oV5 tt rfl Tvv ?_
    refine Ae ?_
    show VC ..
    refine Aa ?_
    refine oV5 tt rfl Tvv ?_
    obtain ⟨hg23,h⟩:=Ab h
    refine oV5 tt rfl hg23 ?_
    refine oV5 tt rfl Tvv ?_
    refine Ae ?_
    show ∃ _,_
    exact ⟨((l41++([i42]:List Int)),(i42+(1:Int))),(En.of ⟨rfl,rfl,rfl,rfl,rfl,Tvv⟩ ⟨rfl,Tvv⟩ ⟨rfl,Tvv⟩),h⟩
   replace h:=Aj hb21 h
   refine Ar ?_
   show VC ..
   refine Aa ?_
   refine oV5 tt rfl Tvv ?_
   obtain ⟨hg24,h⟩:=Ab h
   refine oV5 tt rfl hg24 ?_
   refine oV5 tt rfl Tvv ?_
   refine Ae ?_
   show ∃ _,_
   exact ⟨(l41,(i42+(1:Int))),(En.of ⟨rfl,rfl,rfl,rfl,rfl,Tvv⟩ ⟨rfl,Tvv⟩ ⟨rfl,Tvv⟩),h⟩
  replace h:=Aj hb14 h
  refine Ar ?_
  show VC ..
  refine Aa ?_
  refine oV5 tt rfl Tvv ?_
  obtain ⟨hg25,h⟩:=Ab h
  refine oV5 tt rfl hg25 ?_
  refine oV5 tt rfl Tvv ?_
  refine Ae ?_
  show ∃ _,_
  exact ⟨(l41,(i42+(1:Int))),(En.of ⟨rfl,rfl,rfl,rfl,rfl,Tvv⟩ ⟨rfl,Tvv⟩ ⟨rfl,Tvv⟩),h⟩
 replace h:=Aj hb1 h
 refine Bq ?_
 show ∃ _,_
 exact ⟨l41,(En.of ⟨rfl,Tvv⟩ ⟨rfl,Tvv⟩ trivial),h⟩
end
section
open Go.RowKit
def Jq (N:Nat) (p_1:Pbl) (a_2:Int) (from298:List (Int×Int)) (x299:Int) (v307:Int) (k:(List Int)→Option (Bool×(List Int)×(List Int)×(List Int))):Nat→((List Int)×Int)→Option (Bool×(List Int)×(List Int)×(List Int))
 | 0,_=>none
 | n+1,(l312,at313)=>
  cnd (at313 != a_2) (
   grd (0≤(Yz (Tu from298 v307 x299) at313)∧(Yz (Tu from298 v307 x299) at313)<(p_1.tails.length:Int)) <|
   grd (0≤(Yz (Tu from298 v307 x299) at313)∧(Yz (Tu from298 v307 x299) at313)<(l312.length:Int)) <|
   Jq N p_1 a_2 from298 x299 v307 k n ((l312.set (((Yz (Tu from298 v307 x299) at313)).toNat) at313),(l312.getD (((Yz (Tu from298 v307 x299) at313)).toNat) 0))) (
   k l312)
def Ex (N:Nat) (bars_0:List (Int×Int)) (p_1:Pbl) (a_2:Int) (b_3:Int) (i211:Int) (k:((List Int)×(List (Int×Int)))→Option (Bool×(List Int)×(List Int)×(List Int))):Nat→((List Int)×(List (Int×Int))×Int)→Option (Bool×(List Int)×(List Int)×(List Int))
 | 0,_=>none
 | n+1,(l297,from298,x299)=>
  cnd (decide (x299<(p_1.placed.length:Int))) (
   grd (0≤x299∧x299<(p_1.placed.length:Int)) <|
   grd (0≤x299∧x299<(p_1.tails.length:Int)) <|
   grd (0≤i211∧i211<(l297.length:Int)) <|
   cnd ((p_1.tails.getD ((x299).toNat) 0) != (l297.getD ((i211).toNat) 0)) (
    grd (Bf (x299+(1:Int))) <|
    Ex N bars_0 p_1 a_2 b_3 i211 k n (l297,from298,(x299+(1:Int)))) (
    grd (0≤(p_1.placed.getD ((x299).toNat) 0)∧(p_1.placed.getD ((x299).toNat) 0)<(bars_0.length:Int)) <|
    (Hw N (bars_0.getD (((p_1.placed.getD ((x299).toNat) 0)).toNat) (0,0)) (l297.getD ((i211).toNat) 0)).bind fun v307=>
    cnd (Aal from298 v307) (
     grd (Bf (x299+(1:Int))) <|
     Ex N bars_0 p_1 a_2 b_3 i211 k n (l297,from298,(x299+(1:Int)))) (
     cnd (v307==b_3) (
      grd (l297.length+1≤4294967296) <|
      grd (Bf (x299+(1:Int))) <|
      Ex N bars_0 p_1 a_2 b_3 i211 k n ((l297++([v307]:List Int)),(Tu from298 v307 x299),(x299+(1:Int)))) (
      grd (0≤v307∧v307<(p_1.free.length:Int)) <|
      cnd ((p_1.free.getD ((v307).toNat) 0)==(0:Int)) (
       grd (l297.length+1≤4294967296) <|
       grd (Bf (x299+(1:Int))) <|
       Ex N bars_0 p_1 a_2 b_3 i211 k n ((l297++([v307]:List Int)),(Tu from298 v307 x299),(x299+(1:Int)))) (
       grd (Bf ((p_1.free.getD ((v307).toNat) 0)-(1:Int))) <|
       grd (0≤a_2∧a_2<(p_1.free.length:Int)) <|
       grd (0≤a_2∧a_2<((p_1.free.set ((v307).toNat) ((p_1.free.getD ((v307).toNat) 0)-(1:Int))).length:Int)) <|
       grd (Bf (((p_1.free.set ((v307).toNat) ((p_1.free.getD ((v307).toNat) 0)-(1:Int))).getD ((a_2).toNat) 0)+(1:Int))) <|
       Jq N p_1 a_2 from298 x299 v307 (fun (l310 : List Int) =>
          grd (p_1.free.length=((p_1.free.set ((v307).toNat) ((p_1.free.getD ((v307).toNat) 0)-(1:Int))).set ((a_2).toNat) (((p_1.free.set ((v307).toNat) ((p_1.free.getD ((v307).toNat) 0)-(1:Int))).getD ((a_2).toNat) 0)+(1:Int))).length) <|
          grd (p_1.tails.length=l310.length) <|
          some (true,((p_1.free.set ((v307).toNat) ((p_1.free.getD ((v307).toNat) 0)-(1:Int))).set ((a_2).toNat) (((p_1.free.set ((v307).toNat) ((p_1.free.getD ((v307).toNat) 0)-(1:Int))).getD ((a_2).toNat) 0)+(1:Int))),l310,p_1.placed)) N (p_1.tails,v307)))))) (
   k (l297,from298))
def Dn (N:Nat) (bars_0:List (Int×Int)) (p_1:Pbl) (a_2:Int) (b_3:Int) (k:Unit→Option (Bool×(List Int)×(List Int)×(List Int))):Nat→((List Int)×(List (Int×Int))×Int)→Option (Bool×(List Int)×(List Int)×(List Int))
 | 0,_=>none
 | n+1,(l209,from210,i211)=>
  cnd (decide (i211<(l209.length:Int))) (
   Ex N bars_0 p_1 a_2 b_3 i211 (fun (x:(List Int)×(List (Int×Int)))=>
     match x with
     | (l287,from288)=>
      grd (Bf (i211+(1:Int))) <|
      Dn N bars_0 p_1 a_2 b_3 k n (l287,from288,(i211+(1:Int)))) N (l209,from210,(0:Int))) (
   k ())
def Qm (N:Nat) (bars_0:List (Int×Int)) (p_1:Pbl) (a_2:Int) (b_3:Int):Option (Bool×(List Int)×(List Int)×(List Int)):=
 Dn N bars_0 p_1 a_2 b_3 (fun (_ : Unit) =>
    some (false,p_1.free,p_1.tails,p_1.placed)) N (([a_2]:List Int),(Tu ([]:List (Int×Int)) a_2 (-1:Int)),(0:Int))
theorem Aas (N:Nat) (bars_0:List (Int×Int)) (p_1:Pbl) (a_2:Int) (b_3:Int) (r:Bool×(List Int)×(List Int)×(List Int)) (h:Qm N bars_0 p_1 a_2 b_3=some r):MCall Try.prog 212 [.ro false (.pairs bars_0),.ptr 1000001 0,.int a_2,.int b_3] [900010,900011,900012] [1000001] [(3,.ints p_1.free),(3,.ints p_1.tails),(3,.ints p_1.placed)] [(3,.ints r.2.1),(3,.ints r.2.2.1),(3,.ints r.2.2.2)] [[.row 900010 0 p_1.free.length,.row 900011 0 p_1.tails.length,.row 900012 0 p_1.placed.length]] [[.row 900010 0 r.2.1.length,.row 900011 0 r.2.2.1.length,.row 900012 0 r.2.2.2.length]] (.bool r.1):=by
 unfold Qm at h
 refine Hs (TT:=TT) tt Try.func212 rfl rfl Try.ntmps212 (congrArg Array.toList Try.results212) rfl rfl rfl rfl rfl fun w0 O0=>?_
 refine Ag ?_
 refine Aa ?_
 refine oV5 tt rfl Tvv ?_
 refine Ae ?_
 show VC ..
 refine Ag ?_
 refine Aa ?_
 refine oMakeMap rfl rfl rfl rfl fun mk2 hmk2=>?_
 refine oV5 tt rfl Tvv ?_
 refine oMapSet tt hmk2 rfl (by first | exact .inl rfl | exact .inr rfl) rfl rfl rfl rfl rfl rfl ?_
 repeat (first | refine mapC_nil ?_ | refine mapC_hit ?_ | refine mapC_same rfl ?_ | refine mapC_dead ?_)
 show VO _ _ _ _ _
 iterate 2 refine oV5 tt rfl Tvv ?_
 refine Ae ?_
 show VC ..
 refine Ag ?_
 refine Aa ?_
 refine oV5 tt rfl Tvv ?_
 refine Cv tt rfl rfl rfl rfl rfl rfl rfl rfl rfl rfl rfl ?_
 refine oV5 tt rfl Tvv ?_
 refine Ae ?_
 show VC ..
 iterate 2 refine Ag ?_
 refine Aa ?_
 refine oV5 tt rfl Tvv ?_
 refine Ae ?_
 show VC ..
 refine Ck (F:=fun k=>Dn N bars_0 p_1 a_2 b_3 k) h (α:=Unit) (J:=fun (_:Unit)=>(⟨[],[(900010,some (3,.ints p_1.free)),(900011,some (3,.ints p_1.tails)),(900012,some (3,.ints p_1.placed))],[(1000001,some [.row 900010 0 p_1.free.length,.row 900011 0 p_1.tails.length,.row 900012 0 p_1.placed.length])]⟩:PS)) ?_ ?_
 ·rintro ⟨⟩ h
  show VC _ _ _ (⟨[],[(900010,some (3,.ints p_1.free)),(900011,some (3,.ints p_1.tails)),(900012,some (3,.ints p_1.placed))],[(1000001,some [.row 900010 0 p_1.free.length,.row 900011 0 p_1.tails.length,.row 900012 0 p_1.placed.length])]⟩:PS)
  refine Ag ?_
  refine Aa ?_
  refine oV5 tt rfl Tvv ?_
  refine Ae ?_
  show VC ..
  refine Bb ?_
  show ∃ _,_
  cases h
  exact ⟨[900010,900011,900012],rfl,⟨rfl,rfl,rfl,Tvv⟩,⟨rfl,Tvv⟩,rfl⟩
 intro k h
 refine Aq ?_
 refine Bh (α:=(List Int)×(List (Int×Int))×Int) (fun | (l209,from210,i211)=>(⟨[(0,.ro false (.pairs bars_0)),(1,.ptr 1000001 0),(2,.int a_2),(3,.int b_3),(9,.map mk2 from210),(10,.row 24 0 l209.length),(11,.int i211)],[(24,some (3,.ints l209)),(900010,some (3,.ints p_1.free)),(900011,some (3,.ints p_1.tails)),(900012,some (3,.ints p_1.placed))],[(1000001,some [.row 900010 0 p_1.free.length,.row 900011 0 p_1.tails.length,.row 900012 0 p_1.placed.length])]⟩:PS)) (Dn N bars_0 p_1 a_2 b_3 k) h (En.of ⟨rfl,rfl,rfl,rfl,rfl,rfl,rfl,Tvv⟩ ⟨rfl,rfl,rfl,rfl,Tvv⟩ ⟨rfl,Tvv⟩) (fun _=>rfl) ?_
 rintro n ⟨l209,from210,i211⟩ h
 rw [Dn] at h
 show VC _ _ _ (⟨[(0,.ro false (.pairs bars_0)),(1,.ptr 1000001 0),(2,.int a_2),(3,.int b_3),(9,.map mk2 from210),(10,.row 24 0 l209.length),(11,.int i211)],[(24,some (3,.ints l209)),(900010,some (3,.ints p_1.free)),(900011,some (3,.ints p_1.tails)),(900012,some (3,.ints p_1.placed))],[(1000001,some [.row 900010 0 p_1.free.length,.row 900011 0 p_1.tails.length,.row 900012 0 p_1.placed.length])]⟩:PS)
 iterate 2 refine Ag ?_
 refine Aa ?_
 iterate 4 refine oV5 tt rfl Tvv ?_
 refine Ae ?_
 show VC ..
 refine Au rfl (fun hb2=>?_) (fun hb2=>?_)
 ·replace h:=Ai hb2 h
  refine Ar ?_
  show VC ..
  refine Ag ?_
  refine Aq ?_
  refine Ag ?_
  refine Aa ?_
  iterate 6 refine oV5 tt rfl Tvv ?_
  refine Ae ?_
  show VC ..
  refine Ck (F:=fun k=>Ex N bars_0 p_1 a_2 b_3 i211 k) h (α:=(List Int)×(List (Int×Int))) (J:=fun | (l287,from288)=>(⟨[(0,.ro false (.pairs bars_0)),(1,.ptr 1000001 0),(2,.int a_2),(3,.int b_3),(9,.map mk2 from288),(10,.row 24 0 l287.length),(11,.int i211)],[(24,some (3,.ints l287)),(900010,some (3,.ints p_1.free)),(900011,some (3,.ints p_1.tails)),(900012,some (3,.ints p_1.placed))],[(1000001,some [.row 900010 0 p_1.free.length,.row 900011 0 p_1.tails.length,.row 900012 0 p_1.placed.length])]⟩:PS)) ?_ ?_
  ·rintro ⟨l287,from288⟩ h
   show VC _ _ _ (⟨[(0,.ro false (.pairs bars_0)),(1,.ptr 1000001 0),(2,.int a_2),(3,.int b_3),(9,.map mk2 from288),(10,.row 24 0 l287.length),(11,.int i211)],[(24,some (3,.ints l287)),(900010,some (3,.ints p_1.free)),(900011,some (3,.ints p_1.tails)),(900012,some (3,.ints p_1.placed))],[(1000001,some [.row 900010 0 p_1.free.length,.row 900011 0 p_1.tails.length,.row 900012 0 p_1.placed.length])]⟩:PS)
   refine Aa ?_
   refine oV5 tt rfl Tvv ?_
   obtain ⟨hg3,h⟩:=Ab h
   refine oV5 tt rfl hg3 ?_
   refine oV5 tt rfl Tvv ?_
   refine Ae ?_
   show ∃ _,_
   exact ⟨(l287,from288,(i211+(1:Int))),(En.of ⟨rfl,rfl,rfl,rfl,rfl,rfl,rfl,Tvv⟩ ⟨rfl,rfl,rfl,rfl,Tvv⟩ ⟨rfl,Tvv⟩),h⟩
  intro k h
  refine Aq ?_
  refine Bh (α:=(List Int)×(List (Int×Int))×Int) (fun | (l297,from298,x299)=>(⟨[(0,.ro false (.pairs bars_0)),(1,.ptr 1000001 0),(2,.int a_2),(3,.int b_3),(9,.map mk2 from298),(10,.row 24 0 l297.length),(11,.int i211),(34,.row 900012 0 p_1.placed.length),(35,.int (p_1.placed.length:Int)),(36,.int x299)],[(24,some (3,.ints l297)),(900012,some (3,.ints p_1.placed)),(900010,some (3,.ints p_1.free)),(900011,some (3,.ints p_1.tails))],[(1000001,some [.row 900010 0 p_1.free.length,.row 900011 0 p_1.tails.length,.row 900012 0 p_1.placed.length])]⟩:PS)) (Ex N bars_0 p_1 a_2 b_3 i211 k) h (En.of ⟨rfl,rfl,rfl,rfl,rfl,rfl,rfl,rfl,rfl,rfl,Tvv⟩ ⟨rfl,rfl,rfl,rfl,Tvv⟩ ⟨rfl,Tvv⟩) (fun _=>rfl) ?_
  rintro n ⟨l297,from298,x299⟩ h
  rw [Ex] at h
  show VC _ _ _ (⟨[(0,.ro false (.pairs bars_0)),(1,.ptr 1000001 0),(2,.int a_2),(3,.int b_3),(9,.map mk2 from298),(10,.row 24 0 l297.length),(11,.int i211),(34,.row 900012 0 p_1.placed.length),(35,.int (p_1.placed.length:Int)),(36,.int x299)],[(24,some (3,.ints l297)),(900012,some (3,.ints p_1.placed)),(900010,some (3,.ints p_1.free)),(900011,some (3,.ints p_1.tails))],[(1000001,some [.row 900010 0 p_1.free.length,.row 900011 0 p_1.tails.length,.row 900012 0 p_1.placed.length])]⟩:PS)
  refine Ag ?_
  refine Aa ?_
  refine oV5 tt rfl Tvv ?_
  refine Ae ?_
  show VC ..
  refine Ag ?_
  refine Au rfl (fun hb4=>?_) (fun hb4=>?_)
  ·replace h:=Ai hb4 h
   refine Ar ?_
   show VC ..
   refine Ag ?_
   refine Aq ?_
   refine Ag ?_
   refine Aa ?_
   refine oV5 tt rfl Tvv ?_
   obtain ⟨hg5,h⟩:=Ab h
   iterate 2 refine oV5 tt rfl hg5 ?_
   iterate 2 refine oV5 tt rfl Tvv ?_
   refine Ae ?_
   show VC ..
   iterate 2 refine Ag ?_
   refine Cg (by kernel_rfl) (by kernel_rfl) ?_
   iterate 5 refine Bi tt rfl (Ad rfl) rfl rfl rfl Tvv ?_
   obtain ⟨hg6,h⟩:=Ab h
   iterate 2 refine Bi tt rfl (Ad rfl) rfl rfl rfl hg6 ?_
   iterate 2 refine Bi tt rfl (Ad rfl) rfl rfl rfl Tvv ?_
   obtain ⟨hg7,h⟩:=Ab h
   iterate 2 refine Bi tt rfl (Ad rfl) rfl rfl rfl hg7 ?_
   refine Bi tt rfl (Ad rfl) rfl rfl rfl Tvv ?_
   refine La ?_
   show VC ..
   refine Au rfl (fun hb8=>?_) (fun hb8=>?_)
   ·replace h:=Ai hb8 h
    refine Bq ?_
    show VC ..
    refine Aa ?_
    obtain ⟨hg9,h⟩:=Ab h
    refine oV5 tt rfl hg9 ?_
    refine oV5 tt rfl Tvv ?_
    refine Ae ?_
    show ∃ _,_
    exact ⟨(l297,from298,(x299+(1:Int))),(En.of ⟨rfl,rfl,rfl,rfl,rfl,rfl,rfl,rfl,rfl,rfl,Tvv⟩ ⟨rfl,rfl,rfl,rfl,Tvv⟩ ⟨rfl,Tvv⟩),h⟩
   replace h:=Aj hb8 h
   refine Ar ?_
   show VC ..
   refine Ag ?_
   refine Cg (by kernel_rfl) (by kernel_rfl) ?_
   iterate 2 refine Bi tt rfl (Ad rfl) rfl rfl rfl Tvv ?_
   obtain ⟨hg10,h⟩:=Ab h
   refine Bi tt rfl (Ad rfl) rfl rfl rfl hg10 ?_
   iterate 3 refine Bi tt rfl (Ad rfl) rfl rfl rfl Tvv ?_
   iterate 2 refine Bi tt rfl (Ad rfl) rfl rfl rfl hg7 ?_
   obtain ⟨v307,hc11,h⟩:=Ac h
   refine Pr (Wa N (bars_0.getD (((p_1.placed.getD ((x299).toNat) 0)).toNat) (0,0)) (l297.getD ((i211).toNat) 0) v307 hc11) rfl (Ad rfl) rfl rfl rfl rfl rfl rfl ⟨⟨rfl,rfl,Tvv⟩,rfl,Tvv⟩ ?_
   refine Bi tt rfl (Ad rfl) rfl rfl rfl Tvv ?_
   refine La ?_
   show VC ..
   iterate 2 refine Ag ?_
   refine Aa ?_
   iterate 8 refine oV5 tt rfl Tvv ?_
   refine Ae ?_
   show VC ..
   refine Ag ?_
   refine Aa ?_
   refine oV5 tt rfl Tvv ?_
   refine Ae ?_
   show VC ..
   refine Au rfl (fun hb12=>?_) (fun hb12=>?_)
   ·replace h:=Ai hb12 h
    refine Bq ?_
    show VC ..
    refine Aa ?_
    obtain ⟨hg13,h⟩:=Ab h
    refine oV5 tt rfl hg13 ?_
    refine oV5 tt rfl Tvv ?_
    refine Ae ?_
    show ∃ _,_
    exact ⟨(l297,from298,(x299+(1:Int))),(En.of ⟨rfl,rfl,rfl,rfl,rfl,rfl,rfl,rfl,rfl,rfl,Tvv⟩ ⟨rfl,rfl,rfl,rfl,Tvv⟩ ⟨rfl,Tvv⟩),h⟩
   replace h:=Aj hb12 h
   refine Ar ?_
   show VC ..
   refine Ag ?_
   refine Aa ?_
   iterate 3 refine oV5 tt rfl Tvv ?_
   refine oMapSet tt hmk2 rfl (by first | exact .inl rfl | exact .inr rfl) rfl rfl rfl rfl rfl rfl ?_
   repeat (first | refine mapC_nil ?_ | refine mapC_hit ?_ | refine mapC_same rfl ?_ | refine mapC_dead ?_)
   show VO _ _ _ _ _
   refine Ae ?_
   show VC ..
   iterate 2 refine Ag ?_
   refine Aa ?_
   iterate 4 refine oV5 tt rfl Tvv ?_
   refine Bc rfl rfl rfl (fun hb14=>?_) (fun hb14=>?_)
   ·replace h:=Ai hb14 h
    iterate 8 refine Hm rfl rfl rfl rfl hb14 rfl rfl ?_
    refine Be rfl rfl rfl rfl rfl hb14 rfl ?_
    refine Ae ?_
    show VC ..
    refine Bs rfl rfl ?_
    refine Ag ?_
    refine Aa ?_
    iterate 2 refine oV5 tt rfl Tvv ?_
    refine Cv tt rfl rfl rfl rfl rfl rfl rfl rfl rfl rfl rfl ?_
    obtain ⟨hg15,h⟩:=Ab h
    refine Bp tt rfl rfl rfl rfl rfl rfl rfl rfl rfl rfl rfl rfl rfl rfl rfl rfl (Nat.le_of_eq (Nat.zero_add _)) hg15 ?_
    refine oV5 tt rfl Tvv ?_
    refine Ae ?_
    show VC ..
    refine Bq ?_
    show VC ..
    refine Aa ?_
    obtain ⟨hg16,h⟩:=Ab h
    refine oV5 tt rfl hg16 ?_
    refine oV5 tt rfl Tvv ?_
    refine Ae ?_
    show ∃ _,_
    exact ⟨((l297++([v307]:List Int)),(Tu from298 v307 x299),(x299+(1:Int))),(En.of ⟨rfl,rfl,rfl,rfl,rfl,rfl,rfl,rfl,rfl,rfl,Tvv⟩ ⟨rfl,rfl,rfl,rfl,Tvv⟩ ⟨rfl,Tvv⟩),h⟩
   replace h:=Aj hb14 h
   iterate 5 refine Bd tt rfl rfl rfl rfl rfl hb14 rfl rfl rfl Tvv ?_
   obtain ⟨hg17,h⟩:=Ab h
   iterate 2 refine Bd tt rfl rfl rfl rfl rfl hb14 rfl rfl rfl hg17 ?_
   refine Bd tt rfl rfl rfl rfl rfl hb14 rfl rfl rfl Tvv ?_
   refine Av rfl rfl rfl rfl rfl hb14 rfl ?_
   refine Ae ?_
   show VC ..
   refine Au rfl (fun hb18=>?_) (fun hb18=>?_)
   ·replace h:=Ai hb18 h
    refine Ag ?_
    refine Aa ?_
    iterate 2 refine oV5 tt rfl Tvv ?_
    refine Cv tt rfl rfl rfl rfl rfl rfl rfl rfl rfl rfl rfl ?_
    obtain ⟨hg19,h⟩:=Ab h
    refine Bp tt rfl rfl rfl rfl rfl rfl rfl rfl rfl rfl rfl rfl rfl rfl rfl rfl (Nat.le_of_eq (Nat.zero_add _)) hg19 ?_
    refine oV5 tt rfl Tvv ?_
    refine Ae ?_
    show VC ..
    refine Bq ?_
    show VC ..
    refine Aa ?_
    obtain ⟨hg20,h⟩:=Ab h
    refine oV5 tt rfl hg20 ?_
    refine oV5 tt rfl Tvv ?_
    refine Ae ?_
    show ∃ _,_
    exact ⟨((l297++([v307]:List Int)),(Tu from298 v307 x299),(x299+(1:Int))),(En.of ⟨rfl,rfl,rfl,rfl,rfl,rfl,rfl,rfl,rfl,rfl,Tvv⟩ ⟨rfl,rfl,rfl,rfl,Tvv⟩ ⟨rfl,Tvv⟩),h⟩
   replace h:=Aj hb18 h
   refine Ar ?_
   show VC ..
   refine Ag ?_
   refine Aa ?_
   iterate 5 refine oV5 tt rfl Tvv ?_
   iterate 2 refine oV5 tt rfl hg17 ?_
   obtain ⟨hg21,h⟩:=Ab h
   refine oV5 tt rfl hg21 ?_
   refine oV5 tt rfl hg17 ?_
   refine Ao tt rfl rfl rfl rfl rfl rfl rfl rfl rfl rfl ⟨_,_,rfl,hg17.1,hg17.2⟩ ⟨hg17,Tvv⟩ ?_
   refine Ae ?_
   show VC ..
   refine Ag ?_
   refine Aa ?_
   iterate 5 refine oV5 tt rfl Tvv ?_
   obtain ⟨hg22,h⟩:=Ab h
   refine oV5 tt rfl hg22 ?_
   obtain ⟨hg23,h⟩:=Ab h
   refine oV5 tt rfl hg23 ?_
   obtain ⟨hg24,h⟩:=Ab h
   refine oV5 tt rfl hg24 ?_
   refine oV5 tt rfl hg22 ?_
   refine Ao tt rfl rfl rfl rfl rfl rfl rfl rfl rfl rfl ⟨_,_,rfl,hg23.1,hg23.2⟩ ⟨hg23,Tvv⟩ ?_
   refine Ae ?_
   show VC ..
   iterate 2 refine Ag ?_
   refine Aa ?_
   iterate 2 refine oV5 tt rfl Tvv ?_
   refine Ae ?_
   show VC ..
   refine Ck (F:=fun k=>Jq N p_1 a_2 from298 x299 v307 k) h (α:=List Int) (J:=fun (l310:List Int)=>(⟨[],[(900010,some (3,.ints ((p_1.free.set ((v307).toNat) ((p_1.free.getD ((v307).toNat) 0)-(1:Int))).set ((a_2).toNat) (((p_1.free.set ((v307).toNat) ((p_1.free.getD ((v307).toNat) 0)-(1:Int))).getD ((a_2).toNat) 0)+(1:Int))))),(900011,some (3,.ints l310)),(900012,some (3,.ints p_1.placed))],[(1000001,some [.row 900010 0 p_1.free.length,.row 900011 0 p_1.tails.length,.row 900012 0 p_1.placed.length])]⟩:PS)) ?_ ?_
   ·rintro l310 h
    show VC _ _ _ (⟨[],[(900010,some (3,.ints ((p_1.free.set ((v307).toNat) ((p_1.free.getD ((v307).toNat) 0)-(1:Int))).set ((a_2).toNat) (((p_1.free.set ((v307).toNat) ((p_1.free.getD ((v307).toNat) 0)-(1:Int))).getD ((a_2).toNat) 0)+(1:Int))))),(900011,some (3,.ints l310)),(900012,some (3,.ints p_1.placed))],[(1000001,some [.row 900010 0 p_1.free.length,.row 900011 0 p_1.tails.length,.row 900012 0 p_1.placed.length])]⟩:PS)
    refine Ag ?_
    refine Aa ?_
    refine oV5 tt rfl Tvv ?_
    refine Ae ?_
    show VC ..
    obtain ⟨hg25,h⟩:=Ab h
    refine vRowB 1000001 0 900010 rfl rfl hg25 rfl ?_
    obtain ⟨hg26,h⟩:=Ab h
    refine vRowB 1000001 1 900011 rfl rfl hg26 rfl ?_
    refine Bb ?_
    show ∃ _,_
    cases h
    exact ⟨[900010,900011,900012],rfl,⟨rfl,rfl,rfl,Tvv⟩,⟨rfl,Tvv⟩,rfl⟩
   intro k h
   refine Aq ?_
   refine Bh (α:=(List Int)×Int) (fun | (l312,at313)=>(⟨[(1,.ptr 1000001 0),(2,.int a_2),(9,.map mk2 (Tu from298 v307 x299)),(17,.int at313)],[(900010,some (3,.ints ((p_1.free.set ((v307).toNat) ((p_1.free.getD ((v307).toNat) 0)-(1:Int))).set ((a_2).toNat) (((p_1.free.set ((v307).toNat) ((p_1.free.getD ((v307).toNat) 0)-(1:Int))).getD ((a_2).toNat) 0)+(1:Int))))),(900011,some (3,.ints l312)),(900012,some (3,.ints p_1.placed))],[(1000001,some [.row 900010 0 p_1.free.length,.row 900011 0 p_1.tails.length,.row 900012 0 p_1.placed.length])]⟩:PS)) (Jq N p_1 a_2 from298 x299 v307 k) h (En.of ⟨rfl,rfl,rfl,rfl,Tvv⟩ ⟨rfl,rfl,rfl,Tvv⟩ ⟨rfl,Tvv⟩) (fun _=>rfl) ?_
   rintro n ⟨l312,at313⟩ h
   rw [Jq] at h
   show VC _ _ _ (⟨[(1,.ptr 1000001 0),(2,.int a_2),(9,.map mk2 (Tu from298 v307 x299)),(17,.int at313)],[(900010,some (3,.ints ((p_1.free.set ((v307).toNat) ((p_1.free.getD ((v307).toNat) 0)-(1:Int))).set ((a_2).toNat) (((p_1.free.set ((v307).toNat) ((p_1.free.getD ((v307).toNat) 0)-(1:Int))).getD ((a_2).toNat) 0)+(1:Int))))),(900011,some (3,.ints l312)),(900012,some (3,.ints p_1.placed))],[(1000001,some [.row 900010 0 p_1.free.length,.row 900011 0 p_1.tails.length,.row 900012 0 p_1.placed.length])]⟩:PS)
   iterate 2 refine Ag ?_
   refine Aa ?_
   iterate 3 refine oV5 tt rfl Tvv ?_
   refine Ae ?_
   show VC ..
   refine Au rfl (fun hb27=>?_) (fun hb27=>?_)
   ·replace h:=Ai hb27 h
    refine Ar ?_
    show VC ..
    refine Aq ?_
    refine Ag ?_
    refine Aa ?_
    iterate 4 refine oV5 tt rfl Tvv ?_
    refine Ae ?_
    show VC ..
    refine Ag ?_
    refine Aa ?_
    iterate 5 refine oV5 tt rfl Tvv ?_
    obtain ⟨hg28,h⟩:=Ab h
    refine oV5 tt rfl hg28 ?_
    obtain ⟨hg29,h⟩:=Ab h
    refine oV5 tt rfl hg29 ?_
    refine oV5 tt rfl Tvv ?_
    refine Ae ?_
    show VC ..
    refine Ag ?_
    refine Aa ?_
    iterate 6 refine oV5 tt rfl Tvv ?_
    refine oV5 tt rfl hg28 ?_
    refine Ao tt rfl rfl rfl rfl rfl rfl rfl rfl rfl rfl ⟨_,_,rfl,hg29.1,hg29.2⟩ ⟨hg29,Tvv⟩ ?_
    refine Ae ?_
    show VC ..
    refine Aa ?_
    iterate 2 refine oV5 tt rfl Tvv ?_
    refine Ae ?_
    show ∃ _,_
    exact ⟨((l312.set (((Yz (Tu from298 v307 x299) at313)).toNat) at313),(l312.getD (((Yz (Tu from298 v307 x299) at313)).toNat) 0)),(En.of ⟨rfl,rfl,rfl,rfl,Tvv⟩ ⟨rfl,rfl,rfl,Tvv⟩ ⟨rfl,Tvv⟩),h⟩
   replace h:=Aj hb27 h
   refine Bq ?_
   show ∃ _,_
   exact ⟨l312,(En.of trivial ⟨rfl,rfl,rfl,Tvv⟩ ⟨rfl,Tvv⟩),h⟩
  replace h:=Aj hb4 h
  refine Bq ?_
  show ∃ _,_
  exact ⟨(l297,from298),(En.of ⟨rfl,rfl,rfl,rfl,rfl,rfl,rfl,Tvv⟩ ⟨rfl,rfl,rfl,rfl,Tvv⟩ ⟨rfl,Tvv⟩),h⟩
 replace h:=Aj hb2 h
 refine Bq ?_
 show ∃ _,_
 exact ⟨(),(En.of trivial ⟨rfl,rfl,rfl,Tvv⟩ ⟨rfl,Tvv⟩),h⟩
def Gv (N:Nat) (bars_0:List (Int×Int)) (a_2:Int) (b_3:Int) (want_4:Int) (k:((List Int)×(List Int)×(List Int))→Option (Bool×(List Int)×(List Int)×(List Int))):Nat→((List Int)×(List Int)×(List Int))→Option (Bool×(List Int)×(List Int)×(List Int))
 | 0,_=>none
 | n+1,(l16,l17,l18)=>
  grd (0≤a_2∧a_2<(l16.length:Int)) <|
  grd (0≤b_3∧b_3<(l16.length:Int)) <|
  grd (Bf ((l16.getD ((a_2).toNat) 0)+(l16.getD ((b_3).toNat) 0))) <|
  cnd (decide (((l16.getD ((a_2).toNat) 0)+(l16.getD ((b_3).toNat) 0))<want_4)) (
   (Qm N bars_0 (⟨l16,l17,l18⟩:Pbl) a_2 b_3).bind fun v21=>
   cnd (!v21.1) (
    (Qm N bars_0 (⟨v21.2.1,v21.2.2.1,v21.2.2.2⟩:Pbl) b_3 a_2).bind fun v22=>
    cnd (!v22.1) (
     some (false,v22.2.1,v22.2.2.1,v22.2.2.2)) (
     Gv N bars_0 a_2 b_3 want_4 k n (v22.2.1,v22.2.2.1,v22.2.2.2))) (
    Gv N bars_0 a_2 b_3 want_4 k n (v21.2.1,v21.2.2.1,v21.2.2.2))) (
   k (l16,l17,l18))
def Wf (N:Nat) (bars_0:List (Int×Int)) (p_1:Pbl) (a_2:Int) (b_3:Int) (want_4:Int):Option (Bool×(List Int)×(List Int)×(List Int)):=
 Gv N bars_0 a_2 b_3 want_4 (fun (x:(List Int)×(List Int)×(List Int))=>
   match x with
   | (l10,l11,l12)=>
    some (true,l10,l11,l12)) N (p_1.free,p_1.tails,p_1.placed)
theorem I_gather_w (N:Nat) (bars_0:List (Int×Int)) (p_1:Pbl) (a_2:Int) (b_3:Int) (want_4:Int) (r:Bool×(List Int)×(List Int)×(List Int)) (h:Wf N bars_0 p_1 a_2 b_3 want_4=some r):MCall Try.prog 210 [.ro false (.pairs bars_0),.ptr 1000001 0,.int a_2,.int b_3,.int want_4] [900010,900011,900012] [1000001] [(3,.ints p_1.free),(3,.ints p_1.tails),(3,.ints p_1.placed)] [(3,.ints r.2.1),(3,.ints r.2.2.1),(3,.ints r.2.2.2)] [[.row 900010 0 p_1.free.length,.row 900011 0 p_1.tails.length,.row 900012 0 p_1.placed.length]] [[.row 900010 0 r.2.1.length,.row 900011 0 r.2.2.1.length,.row 900012 0 r.2.2.2.length]] (.bool r.1):=by
 unfold Wf at h
 refine Hs (TT:=TT) tt Try.func210 rfl rfl Try.ntmps210 (congrArg Array.toList Try.results210) rfl rfl rfl rfl rfl fun w0 O0=>?_
 refine Ag ?_
 refine Aa ?_
 refine oV5 tt rfl Tvv ?_
 refine Ae ?_
 show VC ..
 refine Ag ?_
 refine Ck (F:=fun k=>Gv N bars_0 a_2 b_3 want_4 k) h (α:=(List Int)×(List Int)×(List Int)) (J:=fun | (l10,l11,l12)=>(⟨[],[(900010,some (3,.ints l10)),(900011,some (3,.ints l11)),(900012,some (3,.ints l12))],[(1000001,some [.row 900010 0 l10.length,.row 900011 0 l11.length,.row 900012 0 l12.length])]⟩:PS)) ?_ ?_
 ·rintro ⟨l10,l11,l12⟩ h
  show VC _ _ _ (⟨[],[(900010,some (3,.ints l10)),(900011,some (3,.ints l11)),(900012,some (3,.ints l12))],[(1000001,some [.row 900010 0 l10.length,.row 900011 0 l11.length,.row 900012 0 l12.length])]⟩:PS)
  refine Ag ?_
  refine Aa ?_
  refine oV5 tt rfl Tvv ?_
  refine Ae ?_
  show VC ..
  refine Bb ?_
  show ∃ _,_
  cases h
  exact ⟨[900010,900011,900012],rfl,⟨rfl,rfl,rfl,Tvv⟩,⟨rfl,Tvv⟩,rfl⟩
 intro k h
 refine Aq ?_
 refine Bh (α:=(List Int)×(List Int)×(List Int)) (fun | (l16,l17,l18)=>(⟨[(0,.ro false (.pairs bars_0)),(1,.ptr 1000001 0),(2,.int a_2),(3,.int b_3),(4,.int want_4)],[(900010,some (3,.ints l16)),(900011,some (3,.ints l17)),(900012,some (3,.ints l18))],[(1000001,some [.row 900010 0 l16.length,.row 900011 0 l17.length,.row 900012 0 l18.length])]⟩:PS)) (Gv N bars_0 a_2 b_3 want_4 k) h (En.of ⟨rfl,rfl,rfl,rfl,rfl,Tvv⟩ ⟨rfl,rfl,rfl,Tvv⟩ ⟨rfl,Tvv⟩) (fun _=>rfl) ?_
 rintro n ⟨l16,l17,l18⟩ h
 rw [Gv] at h
 show VC _ _ _ (⟨[(0,.ro false (.pairs bars_0)),(1,.ptr 1000001 0),(2,.int a_2),(3,.int b_3),(4,.int want_4)],[(900010,some (3,.ints l16)),(900011,some (3,.ints l17)),(900012,some (3,.ints l18))],[(1000001,some [.row 900010 0 l16.length,.row 900011 0 l17.length,.row 900012 0 l18.length])]⟩:PS)
 iterate 2 refine Ag ?_
 refine Cg (by kernel_rfl) (by kernel_rfl) ?_
 iterate 5 refine Bi tt rfl (Ad rfl) rfl rfl rfl Tvv ?_
 obtain ⟨hg1,h⟩:=Ab h
 iterate 2 refine Bi tt rfl (Ad rfl) rfl rfl rfl hg1 ?_
 iterate 5 refine Bi tt rfl (Ad rfl) rfl rfl rfl Tvv ?_
 obtain ⟨hg2,h⟩:=Ab h
 iterate 2 refine Bi tt rfl (Ad rfl) rfl rfl rfl hg2 ?_
 obtain ⟨hg3,h⟩:=Ab h
 refine Bi tt rfl (Ad rfl) rfl rfl rfl hg3 ?_
 iterate 2 refine Bi tt rfl (Ad rfl) rfl rfl rfl Tvv ?_
 refine La ?_
 show VC ..
 refine Au rfl (fun hb4=>?_) (fun hb4=>?_)
 ·replace h:=Ai hb4 h
  refine Ar ?_
  show VC ..
  refine Aq ?_
  refine Ag ?_
  refine Aa ?_
  iterate 4 refine oV5 tt rfl Tvv ?_
  obtain ⟨v21,hc5,h⟩:=Ac h
  refine Gc (Aas N bars_0 (⟨l16,l17,l18⟩:Pbl) a_2 b_3 v21 hc5) [900010,900011,900012] [1000001] [1320,1321,1322] rfl rfl rfl rfl rfl rfl ⟨rfl,rfl,rfl,Tvv⟩ ⟨rfl,Tvv⟩ ⟨.inl rfl,⟨rfl,rfl⟩,⟨rfl,rfl⟩,⟨rfl,rfl⟩,Tvv⟩ ?_
  iterate 2 refine oV5 tt rfl Tvv ?_
  refine Bc rfl rfl rfl (fun hb6=>?_) (fun hb6=>?_)
  ·replace h:=Ai hb6 h
   iterate 4 refine Bd tt rfl rfl rfl rfl rfl hb6 rfl rfl rfl Tvv ?_
   obtain ⟨v22,hc7,h⟩:=Ac h
   refine oMCallG (Aas N bars_0 (⟨v21.2.1,v21.2.2.1,v21.2.2.2⟩:Pbl) b_3 a_2 v22 hc7) [1320,1321,1322] [1000001] [1390,1391,1392] rfl rfl rfl rfl hb6 rfl rfl rfl rfl rfl ⟨rfl,rfl,rfl,Tvv⟩ ⟨rfl,Tvv⟩ ⟨.inl rfl,⟨rfl,rfl⟩,⟨rfl,rfl⟩,⟨rfl,rfl⟩,Tvv⟩ ?_
   refine Bd tt rfl rfl rfl rfl rfl hb6 rfl rfl rfl Tvv ?_
   refine Be rfl rfl rfl rfl rfl hb6 rfl ?_
   refine Ae ?_
   show VC ..
   refine Au rfl (fun hb8=>?_) (fun hb8=>?_)
   ·replace h:=Ai hb8 h
    refine Ag ?_
    refine Aa ?_
    refine oV5 tt rfl Tvv ?_
    refine Ae ?_
    show VC ..
    refine Bb ?_
    show ∃ _,_
    cases h
    exact ⟨[1390,1391,1392],rfl,⟨rfl,rfl,rfl,Tvv⟩,⟨rfl,Tvv⟩,rfl⟩
   replace h:=Aj hb8 h
   refine Ar ?_
   show ∃ _,_
   exact ⟨(v22.2.1,v22.2.2.1,v22.2.2.2),(En.ren [900010,900011,900012] [1390,1391,1392] rfl ⟨.inr rfl,.inr rfl,.inr rfl,.inr rfl,.inr rfl,Tvv⟩ ⟨.inr rfl,.inr rfl,.inr rfl,Tvv⟩ ⟨.inr ⟨_,_,rfl,rfl,⟨.inr rfl,.inr rfl,.inr rfl,Tvv⟩⟩,Tvv⟩),h⟩
  replace h:=Aj hb6 h
  iterate 6 refine Jn rfl rfl rfl rfl hb6 rfl rfl ?_
  refine Av rfl rfl rfl rfl rfl hb6 rfl ?_
  refine Ae ?_
  show VC ..
  refine Cz rfl rfl ?_
  refine Ar ?_
  show ∃ _,_
  exact ⟨(v21.2.1,v21.2.2.1,v21.2.2.2),(En.ren [900010,900011,900012] [1320,1321,1322] rfl ⟨.inr rfl,.inr rfl,.inr rfl,.inr rfl,.inr rfl,Tvv⟩ ⟨.inr rfl,.inr rfl,.inr rfl,Tvv⟩ ⟨.inr ⟨_,_,rfl,rfl,⟨.inr rfl,.inr rfl,.inr rfl,Tvv⟩⟩,Tvv⟩),h⟩
 replace h:=Aj hb4 h
 refine Bq ?_
 show ∃ _,_
 exact ⟨(l16,l17,l18),(En.of trivial ⟨rfl,rfl,rfl,Tvv⟩ ⟨rfl,Tvv⟩),h⟩
def Ta (N:Nat) (bars_0:List (Int×Int)) (l_1:Int) (p_2:Pbl) (e_3:Int):Option (Bool×(List Int)×(List Int)×(List Int)):=
 grd (0≤e_3∧e_3<(bars_0.length:Int)) <|
 grd (Bf (l_1+(1:Int))) <|
 (Wf N bars_0 (⟨p_2.free,p_2.tails,p_2.placed⟩:Pbl) ((bars_0.getD ((e_3).toNat) (0,0)).1) ((bars_0.getD ((e_3).toNat) (0,0)).2) (l_1+(1:Int))).bind fun v1=>
 cnd (!v1.1) (
  some (false,v1.2.1,v1.2.2.1,v1.2.2.2)) (
  grd (0≤((bars_0.getD ((e_3).toNat) (0,0)).1)∧((bars_0.getD ((e_3).toNat) (0,0)).1)<(v1.2.1.length:Int)) <|
  jn (fun (tail2 : Int) =>
     grd (0≤tail2∧tail2<(v1.2.1.length:Int)) <|
     grd (Bf ((v1.2.1.getD ((tail2).toNat) 0)-(1:Int))) <|
     grd (v1.2.2.1.length+1≤4294967296) <|
     grd (v1.2.2.2.length+1≤4294967296) <|
     grd (v1.2.1.length=(v1.2.1.set ((tail2).toNat) ((v1.2.1.getD ((tail2).toNat) 0)-(1:Int))).length) <|
     some (true,(v1.2.1.set ((tail2).toNat) ((v1.2.1.getD ((tail2).toNat) 0)-(1:Int))),(v1.2.2.1++([tail2]:List Int)),(v1.2.2.2++([e_3]:List Int)))) fun k3=>
   cnd ((v1.2.1.getD (((bars_0.getD ((e_3).toNat) (0,0)).1).toNat) 0)==(0:Int)) (
    k3 ((bars_0.getD ((e_3).toNat) (0,0)).2)) (
    k3 ((bars_0.getD ((e_3).toNat) (0,0)).1)))
theorem I_place_w (N:Nat) (bars_0:List (Int×Int)) (l_1:Int) (p_2:Pbl) (e_3:Int) (r:Bool×(List Int)×(List Int)×(List Int)) (h:Ta N bars_0 l_1 p_2 e_3=some r):MCall Try.prog 202 [.ro false (.pairs bars_0),.int l_1,.ptr 1000002 0,.int e_3] [900020,900021,900022] [1000002] [(3,.ints p_2.free),(3,.ints p_2.tails),(3,.ints p_2.placed)] [(3,.ints r.2.1),(3,.ints r.2.2.1),(3,.ints r.2.2.2)] [[.row 900020 0 p_2.free.length,.row 900021 0 p_2.tails.length,.row 900022 0 p_2.placed.length]] [[.row 900020 0 r.2.1.length,.row 900021 0 r.2.2.1.length,.row 900022 0 r.2.2.2.length]] (.bool r.1):=by
 unfold Ta at h
 refine Hs (TT:=TT) tt Try.func202 rfl rfl Try.ntmps202 (congrArg Array.toList Try.results202) rfl rfl rfl rfl rfl fun w0 O0=>?_
 refine Ag ?_
 refine Aa ?_
 refine oV5 tt rfl Tvv ?_
 refine Ae ?_
 show VC ..
 refine Ag ?_
 refine Aa ?_
 iterate 2 refine oV5 tt rfl Tvv ?_
 obtain ⟨hg1,h⟩:=Ab h
 refine oV5 tt rfl hg1 ?_
 refine oV5 tt rfl Tvv ?_
 refine Bj tt rfl rfl rfl rfl rfl rfl rfl rfl rfl ?_
 refine Ao tt rfl rfl rfl rfl rfl rfl rfl rfl rfl rfl rfl ⟨Tvv,Tvv,Tvv⟩ ?_
 refine Ae ?_
 show VC ..
 iterate 2 refine Ag ?_
 refine Aa ?_
 iterate 7 refine oV5 tt rfl Tvv ?_
 obtain ⟨hg2,h⟩:=Ab h
 refine oV5 tt rfl hg2 ?_
 obtain ⟨v1,hc3,h⟩:=Ac h
 refine Gc (I_gather_w N bars_0 (⟨p_2.free,p_2.tails,p_2.placed⟩:Pbl) ((bars_0.getD ((e_3).toNat) (0,0)).1) ((bars_0.getD ((e_3).toNat) (0,0)).2) (l_1+(1:Int)) v1 hc3) [900020,900021,900022] [1000002] [1230,1231,1232] rfl rfl rfl rfl rfl rfl ⟨rfl,rfl,rfl,Tvv⟩ ⟨rfl,Tvv⟩ ⟨.inl rfl,⟨rfl,rfl⟩,⟨rfl,rfl⟩,⟨rfl,rfl⟩,⟨rfl,rfl⟩,Tvv⟩ ?_
 refine oV5 tt rfl Tvv ?_
 refine Ae ?_
 show VC ..
 refine Au rfl (fun hb4=>?_) (fun hb4=>?_)
 ·replace h:=Ai hb4 h
  refine Ag ?_
  refine Aa ?_
  refine oV5 tt rfl Tvv ?_
  refine Ae ?_
  show VC ..
  refine Bb ?_
  show ∃ _,_
  cases h
  exact ⟨[1230,1231,1232],rfl,⟨rfl,rfl,rfl,Tvv⟩,⟨rfl,Tvv⟩,rfl⟩
 replace h:=Aj hb4 h
 refine Ar ?_
 show VC ..
 refine Ag ?_
 refine Aa ?_
 iterate 3 refine oV5 tt rfl Tvv ?_
 refine Ae ?_
 show VC ..
 iterate 2 refine Ag ?_
 refine Cg (by kernel_rfl) (by kernel_rfl) ?_
 iterate 6 refine Bi tt rfl (Ad rfl) rfl rfl rfl Tvv ?_
 obtain ⟨hg5,h⟩:=Ab h
 iterate 2 refine Bi tt rfl (Ad rfl) rfl rfl rfl hg5 ?_
 refine Bi tt rfl (Ad rfl) rfl rfl rfl Tvv ?_
 refine La ?_
 show VC ..
 refine Aaz h (α:=Int) (J:=fun (tail2:Int)=>(⟨[(2,.ptr 1000002 0),(3,.int e_3),(10,.int tail2)],[(1230,some (3,.ints v1.2.1)),(1231,some (3,.ints v1.2.2.1)),(1232,some (3,.ints v1.2.2.2))],[(1000002,some [.row 1230 0 v1.2.1.length,.row 1231 0 v1.2.2.1.length,.row 1232 0 v1.2.2.2.length])]⟩:PS)) ?_ ?_
 ·rintro tail2 h
  show VC _ _ _ (⟨[(2,.ptr 1000002 0),(3,.int e_3),(10,.int tail2)],[(1230,some (3,.ints v1.2.1)),(1231,some (3,.ints v1.2.2.1)),(1232,some (3,.ints v1.2.2.2))],[(1000002,some [.row 1230 0 v1.2.1.length,.row 1231 0 v1.2.2.1.length,.row 1232 0 v1.2.2.2.length])]⟩:PS)
  refine Ag ?_
  refine Aa ?_
  iterate 5 refine oV5 tt rfl Tvv ?_
  obtain ⟨hg6,h⟩:=Ab h
  iterate 2 refine oV5 tt rfl hg6 ?_
  obtain ⟨hg7,h⟩:=Ab h
  refine oV5 tt rfl hg7 ?_
  refine oV5 tt rfl hg6 ?_
  refine Ao tt rfl rfl rfl rfl rfl rfl rfl rfl rfl rfl ⟨_,_,rfl,hg6.1,hg6.2⟩ ⟨hg6,Tvv⟩ ?_
  refine Ae ?_
  show VC ..
  refine Ag ?_
  refine Aa ?_
  iterate 6 refine oV5 tt rfl Tvv ?_
  refine Cv tt rfl rfl rfl rfl rfl rfl rfl rfl rfl rfl rfl ?_
  obtain ⟨hg8,h⟩:=Ab h
  refine Bp tt rfl rfl rfl rfl rfl rfl rfl rfl rfl rfl rfl rfl rfl rfl rfl rfl (Nat.le_of_eq (Nat.zero_add _)) hg8 ?_
  iterate 2 refine oV5 tt rfl Tvv ?_
  refine Ao tt rfl rfl rfl rfl rfl rfl rfl rfl rfl rfl rfl ⟨Tvv,Tvv⟩ ?_
  refine Ae ?_
  show VC ..
  refine Ag ?_
  refine Aa ?_
  iterate 6 refine oV5 tt rfl Tvv ?_
  refine Cv tt rfl rfl rfl rfl rfl rfl rfl rfl rfl rfl rfl ?_
  obtain ⟨hg9,h⟩:=Ab h
  refine Bp tt rfl rfl rfl rfl rfl rfl rfl rfl rfl rfl rfl rfl rfl rfl rfl rfl (Nat.le_of_eq (Nat.zero_add _)) hg9 ?_
  iterate 2 refine oV5 tt rfl Tvv ?_
  refine Ao tt rfl rfl rfl rfl rfl rfl rfl rfl rfl rfl rfl ⟨Tvv,Tvv⟩ ?_
  refine Ae ?_
  show VC ..
  refine Ag ?_
  refine Aa ?_
  refine oV5 tt rfl Tvv ?_
  refine Ae ?_
  show VC ..
  obtain ⟨hg10,h⟩:=Ab h
  refine vRowB 1000002 0 1230 rfl rfl hg10 rfl ?_
  refine Bb ?_
  show ∃ _,_
  cases h
  exact ⟨[1230,1231,1232],rfl,⟨rfl,rfl,rfl,Tvv⟩,⟨rfl,Tvv⟩,rfl⟩
 intro k3 h
 refine Au rfl (fun hb11=>?_) (fun hb11=>?_)
 ·replace h:=Ai hb11 h
  refine Aa ?_
  iterate 3 refine oV5 tt rfl Tvv ?_
  refine Ae ?_
  show ∃ _,_
  exact ⟨(bars_0.getD ((e_3).toNat) (0,0)).2,(En.of ⟨rfl,rfl,rfl,Tvv⟩ ⟨rfl,rfl,rfl,Tvv⟩ ⟨rfl,Tvv⟩),h⟩
 replace h:=Aj hb11 h
 refine Ar ?_
 show ∃ _,_
 exact ⟨(bars_0.getD ((e_3).toNat) (0,0)).1,(En.of ⟨rfl,rfl,rfl,Tvv⟩ ⟨rfl,rfl,rfl,Tvv⟩ ⟨rfl,Tvv⟩),h⟩
def Li (N:Nat) (bars_1:List (Int×Int)) (l_3:Int) (k:((List Int)×(List Int)×(List Int))→Option (Pbl)):Nat→((List Int)×(List Int)×(List Int)×Int)→Option (Pbl)
 | 0,_=>none
 | n+1,(l39,l40,l41,x42)=>
  cnd (decide (x42<(bars_1.length:Int))) (
   (Kg N (⟨l39,l40,l41⟩:Pbl)).bind fun v45=>
   (Ta N bars_1 l_3 (⟨v45.free,v45.tails,v45.placed⟩:Pbl) x42).bind fun v46=>
   cnd v46.1 (
    grd (Bf (x42+(1:Int))) <|
    Li N bars_1 l_3 k n (v46.2.1,v46.2.2.1,v46.2.2.2,(x42+(1:Int)))) (
    grd (Bf (x42+(1:Int))) <|
    Li N bars_1 l_3 k n (l39,l40,l41,(x42+(1:Int))))) (
   k (l39,l40,l41))
def Ml (N:Nat) (points_0:Int) (k_2:Int) (k:(List Int)→Option (Pbl)):Nat→((List Int)×Int)→Option (Pbl)
 | 0,_=>none
 | n+1,(l49,x50)=>
  cnd (decide (x50<points_0)) (
   grd (l49.length+1≤4294967296) <|
   grd (Bf (x50+(1:Int))) <|
   Ml N points_0 k_2 k n ((l49++([k_2]:List Int)),(x50+(1:Int)))) (
   k l49)
def I_play (N:Nat) (points_0:Int) (bars_1:List (Int×Int)) (k_2:Int) (l_3:Int):Option (Pbl):=
 Ml N points_0 k_2 (fun (l4 : List Int) =>
    Li N bars_1 l_3 (fun (x:(List Int)×(List Int)×(List Int))=>
      match x with
      | (l24,l25,l26)=>
       some (⟨l24,l25,l26⟩:Pbl)) N (l4,([]:List Int),([]:List Int),(0:Int))) N (([]:List Int),(0:Int))
theorem I_play_w (N:Nat) (points_0:Int) (bars_1:List (Int×Int)) (k_2:Int) (l_3:Int) (r:Pbl) (h:I_play N points_0 bars_1 k_2 l_3=some r):PCall Try.prog 183 [.int points_0,.ro false (.pairs bars_1),.int k_2,.int l_3] [(3,.ints r.free),(3,.ints r.tails),(3,.ints r.placed)] (.agg [.row 0 0 r.free.length,.row 1 0 r.tails.length,.row 2 0 r.placed.length]):=by
 unfold I_play at h
 refine Ah (TT:=TT) tt Try.func183 rfl rfl Try.ntmps183 (congrArg Array.toList Try.results183) rfl rfl fun w0=>?_
 refine Ag ?_
 refine Aa ?_
 refine Bj tt rfl rfl rfl rfl rfl rfl rfl rfl rfl ?_
 refine Ae ?_
 show VC ..
 refine Ag ?_
 refine Aa ?_
 refine Du (Ad rfl) (Dp Fe rfl rfl) rfl rfl ?_
 refine Bj tt rfl rfl rfl rfl rfl rfl rfl rfl rfl ?_
 refine Ao tt rfl rfl rfl rfl rfl rfl rfl rfl rfl rfl rfl ⟨Tvv,Tvv,Tvv,Tvv⟩ ?_
 refine Ae ?_
 show VC ..
 iterate 2 refine Ag ?_
 refine Aa ?_
 iterate 2 refine oV5 tt rfl Tvv ?_
 refine Ae ?_
 show VC ..
 refine Ck (F:=fun k=>Ml N points_0 k_2 k) h (α:=List Int) (J:=fun (l4:List Int)=>(⟨[(1,.ro false (.pairs bars_1)),(3,.int l_3),(8,.ptr 8 0),(9,.ptr 9 0)],[(20,some (3,.ints l4))],[(8,some [.nil,.nil,.nil]),(9,some [.row 20 0 l4.length,.nil,.nil])]⟩:PS)) ?_ ?_
 ·rintro l4 h
  show VC _ _ _ (⟨[(1,.ro false (.pairs bars_1)),(3,.int l_3),(8,.ptr 8 0),(9,.ptr 9 0)],[(20,some (3,.ints l4))],[(8,some [.nil,.nil,.nil]),(9,some [.row 20 0 l4.length,.nil,.nil])]⟩:PS)
  iterate 2 refine Ag ?_
  refine Aa ?_
  iterate 3 refine oV5 tt rfl Tvv ?_
  refine Ae ?_
  show VC ..
  refine Ck (F:=fun k=>Li N bars_1 l_3 k) h (α:=(List Int)×(List Int)×(List Int)) (J:=fun | (l24,l25,l26)=>(⟨[(8,.ptr 8 0),(9,.ptr 9 0)],[(20,some (3,.ints l24)),(9505,some (3,.ints l25)),(9506,some (3,.ints l26))],[(8,some [.nil,.nil,.nil]),(9,some [.row 20 0 l24.length,.row 9505 0 l25.length,.row 9506 0 l26.length])]⟩:PS)) ?_ ?_
  ·rintro ⟨l24,l25,l26⟩ h
   show VC _ _ _ (⟨[(8,.ptr 8 0),(9,.ptr 9 0)],[(20,some (3,.ints l24)),(9505,some (3,.ints l25)),(9506,some (3,.ints l26))],[(8,some [.nil,.nil,.nil]),(9,some [.row 20 0 l24.length,.row 9505 0 l25.length,.row 9506 0 l26.length])]⟩:PS)
   refine Ag ?_
   refine Aa ?_
   refine oV5 tt rfl Tvv ?_
   refine Ao tt rfl rfl rfl rfl rfl rfl rfl rfl rfl rfl rfl ⟨Tvv,Tvv,Tvv,Tvv⟩ ?_
   refine Ae ?_
   show VC ..
   refine Bb ?_
   show ∃ _,_
   cases h
   exact ⟨[20,9505,9506],_,rfl,⟨rfl,rfl,rfl,Tvv⟩,rfl,(.eq rfl),rfl⟩
  intro k h
  refine Aq ?_
  refine Xh 9 1 9507 3 (.ints []) rfl rfl rfl rfl rfl ?_
  refine Xh 9 2 9508 3 (.ints []) rfl rfl rfl rfl rfl ?_
  refine Bh (α:=(List Int)×(List Int)×(List Int)×Int) (fun | (l39,l40,l41,x42)=>(⟨[(1,.ro false (.pairs bars_1)),(3,.int l_3),(8,.ptr 8 0),(9,.ptr 9 0),(24,.int (bars_1.length:Int)),(25,.int x42)],[(20,some (3,.ints l39)),(9507,some (3,.ints l40)),(9508,some (3,.ints l41))],[(8,some [.nil,.nil,.nil]),(9,some [.row 20 0 l39.length,.row 9507 0 l40.length,.row 9508 0 l41.length])]⟩:PS)) (Li N bars_1 l_3 k) h (En.of ⟨rfl,rfl,rfl,rfl,rfl,rfl,Tvv⟩ ⟨rfl,rfl,rfl,Tvv⟩ ⟨rfl,rfl,Tvv⟩) (fun _=>rfl) ?_
  rintro n ⟨l39,l40,l41,x42⟩ h
  rw [Li] at h
  show VC _ _ _ (⟨[(1,.ro false (.pairs bars_1)),(3,.int l_3),(8,.ptr 8 0),(9,.ptr 9 0),(24,.int (bars_1.length:Int)),(25,.int x42)],[(20,some (3,.ints l39)),(9507,some (3,.ints l40)),(9508,some (3,.ints l41))],[(8,some [.nil,.nil,.nil]),(9,some [.row 20 0 l39.length,.row 9507 0 l40.length,.row 9508 0 l41.length])]⟩:PS)
  refine Ag ?_
  refine Aa ?_
  refine oV5 tt rfl Tvv ?_
  refine Ae ?_
  show VC ..
  refine Ag ?_
  refine Au rfl (fun hb1=>?_) (fun hb1=>?_)
  ·replace h:=Ai hb1 h
   refine Ar ?_
   show VC ..
   refine Ag ?_
   refine Aq ?_
   refine Ag ?_
   refine Aa ?_
   iterate 2 refine oV5 tt rfl Tvv ?_
   refine Ae ?_
   show VC ..
   refine Ag ?_
   refine Aa ?_
   refine oV5 tt rfl Tvv ?_
   obtain ⟨v45,hc2,h⟩:=Ac h
   refine Ba (Zv N (⟨l39,l40,l41⟩:Pbl) v45 hc2) rfl rfl rfl rfl rfl rfl rfl rfl ⟨⟨(.inl ⟨rfl,rfl⟩),(.inl ⟨rfl,rfl⟩),(.inl ⟨rfl,rfl⟩),Tvv⟩,Tvv⟩ ?_
   refine Bj tt rfl rfl rfl rfl rfl rfl rfl rfl rfl ?_
   refine Ao tt rfl rfl rfl rfl rfl rfl rfl rfl rfl rfl rfl ⟨Tvv,Tvv,Tvv,Tvv⟩ ?_
   refine Ae ?_
   show VC ..
   refine Ag ?_
   refine Aa ?_
   iterate 3 refine oV5 tt rfl Tvv ?_
   obtain ⟨v46,hc3,h⟩:=Ac h
   refine Gc (I_place_w N bars_1 l_3 (⟨v45.free,v45.tails,v45.placed⟩:Pbl) x42 v46 hc3) [1290,1291,1292] [11] [1330,1331,1332] rfl rfl rfl rfl rfl rfl ⟨rfl,rfl,rfl,Tvv⟩ ⟨rfl,Tvv⟩ ⟨.inl rfl,⟨rfl,rfl⟩,⟨rfl,rfl⟩,⟨rfl,rfl⟩,Tvv⟩ ?_
   refine Ae ?_
   show VC ..
   refine Au rfl (fun hb4=>?_) (fun hb4=>?_)
   ·replace h:=Ai hb4 h
    refine Aa ?_
    refine oV5 tt rfl Tvv ?_
    refine Ao tt rfl rfl rfl rfl rfl rfl rfl rfl rfl rfl rfl ⟨Tvv,Tvv,Tvv,Tvv⟩ ?_
    refine Ae ?_
    show VC ..
    refine Aa ?_
    obtain ⟨hg5,h⟩:=Ab h
    refine oV5 tt rfl hg5 ?_
    refine oV5 tt rfl Tvv ?_
    refine Ae ?_
    show ∃ _,_
    exact ⟨(v46.2.1,v46.2.2.1,v46.2.2.2,(x42+(1:Int))),(En.ren [20,9507,9508] [1330,1331,1332] rfl ⟨.inr rfl,.inr rfl,.inr rfl,.inr rfl,.inr rfl,.inr rfl,Tvv⟩ ⟨.inr rfl,.inr rfl,.inr rfl,Tvv⟩ ⟨.inr ⟨_,_,rfl,rfl,⟨.inr rfl,.inr rfl,.inr rfl,Tvv⟩⟩,.inr ⟨_,_,rfl,rfl,⟨.inr rfl,.inr rfl,.inr rfl,Tvv⟩⟩,Tvv⟩),h⟩
   replace h:=Aj hb4 h
   refine Ar ?_
   show VC ..
   refine Aa ?_
   obtain ⟨hg6,h⟩:=Ab h
   refine oV5 tt rfl hg6 ?_
   refine oV5 tt rfl Tvv ?_
   refine Ae ?_
   show ∃ _,_
   exact ⟨(l39,l40,l41,(x42+(1:Int))),(En.of ⟨rfl,rfl,rfl,rfl,rfl,rfl,Tvv⟩ ⟨rfl,rfl,rfl,Tvv⟩ ⟨rfl,rfl,Tvv⟩),h⟩
  replace h:=Aj hb1 h
  refine Bq ?_
  show ∃ _,_
  exact ⟨(l39,l40,l41),(En.ren [9505,9506] [9507,9508] rfl ⟨.inr rfl,.inr rfl,Tvv⟩ ⟨.inr rfl,.inr rfl,.inr rfl,Tvv⟩ ⟨.inr ⟨_,_,rfl,rfl,⟨.inr rfl,.inr rfl,.inr rfl,Tvv⟩⟩,.inr ⟨_,_,rfl,rfl,⟨.inr rfl,.inr rfl,.inr rfl,Tvv⟩⟩,Tvv⟩),h⟩
 intro k h
 refine Aq ?_
 refine Xh 9 0 20 3 (.ints []) rfl rfl rfl rfl rfl ?_
 refine Bh (α:=(List Int)×Int) (fun | (l49,x50)=>(⟨[(1,.ro false (.pairs bars_1)),(2,.int k_2),(3,.int l_3),(8,.ptr 8 0),(9,.ptr 9 0),(13,.int points_0),(14,.int x50)],[(20,some (3,.ints l49))],[(8,some [.nil,.nil,.nil]),(9,some [.row 20 0 l49.length,.nil,.nil])]⟩:PS)) (Ml N points_0 k_2 k) h (En.of ⟨rfl,rfl,rfl,rfl,rfl,rfl,rfl,Tvv⟩ ⟨rfl,Tvv⟩ ⟨rfl,rfl,Tvv⟩) (fun _=>rfl) ?_
 rintro n ⟨l49,x50⟩ h
 rw [Ml] at h
 show VC _ _ _ (⟨[(1,.ro false (.pairs bars_1)),(2,.int k_2),(3,.int l_3),(8,.ptr 8 0),(9,.ptr 9 0),(13,.int points_0),(14,.int x50)],[(20,some (3,.ints l49))],[(8,some [.nil,.nil,.nil]),(9,some [.row 20 0 l49.length,.nil,.nil])]⟩:PS)
 refine Ag ?_
 refine Aa ?_
 refine oV5 tt rfl Tvv ?_
 refine Ae ?_
 show VC ..
 refine Ag ?_
 refine Au rfl (fun hb7=>?_) (fun hb7=>?_)
 ·replace h:=Ai hb7 h
  refine Ar ?_
  show VC ..
  refine Ag ?_
  refine Aq ?_
  refine Aa ?_
  iterate 3 refine oV5 tt rfl Tvv ?_
  refine Cv tt rfl rfl rfl rfl rfl rfl rfl rfl rfl rfl rfl ?_
  obtain ⟨hg8,h⟩:=Ab h
  refine Bp tt rfl rfl rfl rfl rfl rfl rfl rfl rfl rfl rfl rfl rfl rfl rfl rfl (Nat.le_of_eq (Nat.zero_add _)) hg8 ?_
  refine oV5 tt rfl Tvv ?_
  refine Ao tt rfl rfl rfl rfl rfl rfl rfl rfl rfl rfl rfl ⟨Tvv,Tvv⟩ ?_
  refine Ae ?_
  show VC ..
  refine Aa ?_
  obtain ⟨hg9,h⟩:=Ab h
  refine oV5 tt rfl hg9 ?_
  refine oV5 tt rfl Tvv ?_
  refine Ae ?_
  show ∃ _,_
  exact ⟨((l49++([k_2]:List Int)),(x50+(1:Int))),(En.of ⟨rfl,rfl,rfl,rfl,rfl,rfl,rfl,Tvv⟩ ⟨rfl,Tvv⟩ ⟨rfl,rfl,Tvv⟩),h⟩
 replace h:=Aj hb7 h
 refine Bq ?_
 show ∃ _,_
 exact ⟨l49,(En.of ⟨rfl,rfl,rfl,rfl,Tvv⟩ ⟨rfl,Tvv⟩ ⟨rfl,rfl,Tvv⟩),h⟩
end
section
open Go.RowKit
def Dd (N:Nat) (g_0:Grf) (p_1:Pbl) (a_2:Int) (b_3:Int) (l106:List Int) (k108:Int) (k:((List Int)×(List Int)×(List Bool))→Option (Pbl×Bool)):Nat→((List Int)×(List Int)×(List Bool)×Int)→Option (Pbl×Bool)
 | 0,_=>none
 | n+1,(l149,l150,l151,i152)=>
  cnd (decide (i152<(p_1.placed.length:Int))) (
   grd (0≤i152∧i152<(p_1.tails.length:Int)) <|
   cnd ((p_1.tails.getD ((i152).toNat) 0) != (l106.getD ((k108).toNat) 0)) (
    grd (Bf (i152+(1:Int))) <|
    Dd N g_0 p_1 a_2 b_3 l106 k108 k n (l149,l150,l151,(i152+(1:Int)))) (
    grd (0≤i152∧i152<(p_1.placed.length:Int)) <|
    grd (0≤(p_1.placed.getD ((i152).toNat) 0)∧(p_1.placed.getD ((i152).toNat) 0)<(g_0.bars.length:Int)) <|
    (Eg N (g_0.bars.getD (((p_1.placed.getD ((i152).toNat) 0)).toNat) (0,0)) (l106.getD ((k108).toNat) 0)).bind fun v155=>
    grd (0≤v155∧v155<((List.replicate ((g_0.n).toNat) (false:Bool)).length:Int)) <|
    grd (0≤v155∧v155<(l151.length:Int)) <|
    cnd (l151.getD ((v155).toNat) false) (
     grd (Bf (i152+(1:Int))) <|
     Dd N g_0 p_1 a_2 b_3 l106 k108 k n (l149,l150,l151,(i152+(1:Int)))) (
     grd (0≤v155∧v155<((List.replicate ((g_0.n).toNat) (0:Int)).length:Int)) <|
     grd (0≤v155∧v155<(l149.length:Int)) <|
     cnd (v155 != b_3) (
      grd (0≤v155∧v155<(p_1.free.length:Int)) <|
      cnd (decide ((p_1.free.getD ((v155).toNat) 0) > (0:Int))) (
       grd ((List.replicate ((g_0.n).toNat) (0:Int)).length=(l149.set ((v155).toNat) i152).length) <|
       (Rj N g_0 p_1 (l149.set ((v155).toNat) i152) a_2 v155).bind fun v156=>
       some ((⟨v156.free,v156.tails,v156.placed⟩:Pbl),true)) (
       grd (l150.length+1≤4294967296) <|
       grd (Bf (i152+(1:Int))) <|
       Dd N g_0 p_1 a_2 b_3 l106 k108 k n ((l149.set ((v155).toNat) i152),(l150++([v155]:List Int)),(l151.set ((v155).toNat) true),(i152+(1:Int))))) (
      grd (l150.length+1≤4294967296) <|
      grd (Bf (i152+(1:Int))) <|
      Dd N g_0 p_1 a_2 b_3 l106 k108 k n ((l149.set ((v155).toNat) i152),(l150++([v155]:List Int)),(l151.set ((v155).toNat) true),(i152+(1:Int))))))) (
   k (l149,l150,l151))
def Ca (N:Nat) (g_0:Grf) (p_1:Pbl) (a_2:Int) (b_3:Int) (k:Unit→Option (Pbl×Bool)):Nat→((List Int)×(List Int)×(List Bool)×Int)→Option (Pbl×Bool)
 | 0,_=>none
 | n+1,(l105,l106,l107,k108)=>
  cnd (decide (k108<(l106.length:Int))) (
   grd (0≤k108∧k108<(l106.length:Int)) <|
   Dd N g_0 p_1 a_2 b_3 l106 k108 (fun (x:(List Int)×(List Int)×(List Bool))=>
     match x with
     | (l143,l144,l145)=>
      grd (Bf (k108+(1:Int))) <|
      Ca N g_0 p_1 a_2 b_3 k n (l143,l144,l145,(k108+(1:Int)))) N (l105,l106,l107,(0:Int))) (
   k ())
def Fy (N:Nat) (g_0:Grf) (k:(List Int)→Option (Pbl×Bool)):Nat→((List Int)×Int)→Option (Pbl×Bool)
 | 0,_=>none
 | n+1,(l158,i159)=>
  cnd (decide (i159<g_0.n)) (
   grd (0≤i159∧i159<((List.replicate ((g_0.n).toNat) (0:Int)).length:Int)) <|
   grd (0≤i159∧i159<(l158.length:Int)) <|
   grd (Bf (i159+(1:Int))) <|
   Fy N g_0 k n ((l158.set ((i159).toNat) (-1:Int)),(i159+(1:Int)))) (
   k l158)
def Lf (N:Nat) (g_0:Grf) (p_1:Pbl) (a_2:Int) (b_3:Int):Option (Pbl×Bool):=
 grd (0≤g_0.n∧g_0.n≤4294967296) <|
 Fy N g_0 (fun (l3 : List Int) =>
    grd (0≤a_2∧a_2<((List.replicate ((g_0.n).toNat) (false:Bool)).length:Int)) <|
    Ca N g_0 p_1 a_2 b_3 (fun (_ : Unit) =>
       some ((⟨p_1.free,p_1.tails,p_1.placed⟩:Pbl),false)) N (l3,([a_2]:List Int),((List.replicate ((g_0.n).toNat) (false:Bool)).set ((a_2).toNat) true),(0:Int))) N ((List.replicate ((g_0.n).toNat) (0:Int)),(0:Int))
theorem Yj (N:Nat) (g_0:Grf) (p_1:Pbl) (a_2:Int) (b_3:Int) (r:Pbl×Bool) (h:Lf N g_0 p_1 a_2 b_3=some r) (halt:r.2=true):PCall Try.prog 204 [gD g_0,bD p_1,.int a_2,.int b_3] [(3,.ints r.1.free),(3,.ints r.1.tails),(3,.ints r.1.placed)] (.tup [.agg [.row 0 0 r.1.free.length,.row 1 0 r.1.tails.length,.row 2 0 r.1.placed.length],.bool r.2]):=by
 unfold Lf at h
 refine Ah (TT:=TT) tt Try.func204 rfl rfl Try.ntmps204 (congrArg Array.toList Try.results204) rfl rfl fun w0=>?_
 refine Ag ?_
 refine Aa ?_
 iterate 2 refine Km rfl rfl rfl rfl rfl rfl rfl rfl rfl ?_
 refine Bj tt rfl rfl rfl rfl rfl rfl rfl rfl rfl ?_
 refine oV5 tt rfl Tvv ?_
 refine Ae ?_
 show VC ..
 refine Ag ?_
 refine Aa ?_
 iterate 2 refine oV5 tt rfl Tvv ?_
 obtain ⟨hg1,h⟩:=Ab h
 refine oMake tt rfl rfl rfl rfl rfl rfl rfl rfl rfl rfl rfl hg1 ?_
 refine oV5 tt rfl Tvv ?_
 refine Ae ?_
 show VC ..
 iterate 2 refine Ag ?_
 refine Aa ?_
 refine oV5 tt rfl Tvv ?_
 refine Ae ?_
 show VC ..
 refine Ck (F:=fun k=>Fy N g_0 k) h (α:=List Int) (J:=fun (l3:List Int)=>(⟨[(2,.int a_2),(3,.int b_3),(4,.ptr 4 0),(5,.ptr 5 0),(8,.ptr 8 0),(10,.row 20 0 ((List.replicate ((g_0.n).toNat) (0:Int)).length))],[(20,some (3,.ints l3))],[(4,some [.int g_0.n,.ro false (.pairs g_0.bars)]),(5,some [.ro false (.ints p_1.free),.ro false (.ints p_1.tails),.ro false (.ints p_1.placed)]),(8,some [.nil,.nil,.nil])]⟩:PS)) ?_ ?_
 ·rintro l3 h
  show VC _ _ _ (⟨[(2,.int a_2),(3,.int b_3),(4,.ptr 4 0),(5,.ptr 5 0),(8,.ptr 8 0),(10,.row 20 0 ((List.replicate ((g_0.n).toNat) (0:Int)).length))],[(20,some (3,.ints l3))],[(4,some [.int g_0.n,.ro false (.pairs g_0.bars)]),(5,some [.ro false (.ints p_1.free),.ro false (.ints p_1.tails),.ro false (.ints p_1.placed)]),(8,some [.nil,.nil,.nil])]⟩:PS)
  refine Ag ?_
  refine Aa ?_
  refine oV5 tt rfl Tvv ?_
  refine Cv tt rfl rfl rfl rfl rfl rfl rfl rfl rfl rfl rfl ?_
  refine oV5 tt rfl Tvv ?_
  refine Ae ?_
  show VC ..
  refine Ag ?_
  refine Aa ?_
  iterate 2 refine oV5 tt rfl Tvv ?_
  refine oMake tt rfl rfl rfl rfl rfl rfl rfl rfl rfl rfl rfl hg1 ?_
  refine oV5 tt rfl Tvv ?_
  refine Ae ?_
  show VC ..
  refine Ag ?_
  refine Aa ?_
  iterate 2 refine oV5 tt rfl Tvv ?_
  obtain ⟨hg2,h⟩:=Ab h
  refine oV5 tt rfl hg2 ?_
  refine Ao tt rfl rfl rfl rfl rfl rfl rfl rfl rfl rfl ⟨_,_,rfl,hg2.1,hg2.2⟩ ⟨hg2,Tvv⟩ ?_
  refine Ae ?_
  show VC ..
  iterate 2 refine Ag ?_
  refine Aa ?_
  refine oV5 tt rfl Tvv ?_
  refine Ae ?_
  show VC ..
  refine Ck (F:=fun k=>Ca N g_0 p_1 a_2 b_3 k) h (α:=Unit) (J:=fun (_:Unit)=>(⟨[(5,.ptr 5 0),(8,.ptr 8 0)],[],[(5,some [.ro false (.ints p_1.free),.ro false (.ints p_1.tails),.ro false (.ints p_1.placed)]),(8,some [.nil,.nil,.nil])]⟩:PS)) ?_ ?_
  ·rintro ⟨⟩ h
   show VC _ _ _ (⟨[(5,.ptr 5 0),(8,.ptr 8 0)],[],[(5,some [.ro false (.ints p_1.free),.ro false (.ints p_1.tails),.ro false (.ints p_1.placed)]),(8,some [.nil,.nil,.nil])]⟩:PS)
   refine Ag ?_
   refine Aa ?_
   refine oV5 tt rfl Tvv ?_
   refine Ao tt rfl rfl rfl rfl rfl rfl rfl rfl rfl rfl rfl ⟨Tvv,Tvv,Tvv,Tvv⟩ ?_
   refine oV5 tt rfl Tvv ?_
   refine Ae ?_
   show VC ..
   cases h
   cases halt
  intro k h
  refine Aq ?_
  refine Bh (α:=(List Int)×(List Int)×(List Bool)×Int) (fun | (l105,l106,l107,k108)=>(⟨[(2,.int a_2),(3,.int b_3),(4,.ptr 4 0),(5,.ptr 5 0),(8,.ptr 8 0),(10,.row 20 0 ((List.replicate ((g_0.n).toNat) (0:Int)).length)),(12,.row 31 0 l106.length),(13,.row 34 0 ((List.replicate ((g_0.n).toNat) (false:Bool)).length)),(14,.int k108)],[(20,some (3,.ints l105)),(31,some (3,.ints l106)),(34,some (4,.bools l107))],[(4,some [.int g_0.n,.ro false (.pairs g_0.bars)]),(5,some [.ro false (.ints p_1.free),.ro false (.ints p_1.tails),.ro false (.ints p_1.placed)]),(8,some [.nil,.nil,.nil])]⟩:PS)) (Ca N g_0 p_1 a_2 b_3 k) h (En.of ⟨rfl,rfl,rfl,rfl,rfl,rfl,rfl,rfl,rfl,Tvv⟩ ⟨rfl,rfl,rfl,Tvv⟩ ⟨rfl,rfl,rfl,Tvv⟩) (fun _=>rfl) ?_
  rintro n ⟨l105,l106,l107,k108⟩ h
  rw [Ca] at h
  show VC _ _ _ (⟨[(2,.int a_2),(3,.int b_3),(4,.ptr 4 0),(5,.ptr 5 0),(8,.ptr 8 0),(10,.row 20 0 ((List.replicate ((g_0.n).toNat) (0:Int)).length)),(12,.row 31 0 l106.length),(13,.row 34 0 ((List.replicate ((g_0.n).toNat) (false:Bool)).length)),(14,.int k108)],[(20,some (3,.ints l105)),(31,some (3,.ints l106)),(34,some (4,.bools l107))],[(4,some [.int g_0.n,.ro false (.pairs g_0.bars)]),(5,some [.ro false (.ints p_1.free),.ro false (.ints p_1.tails),.ro false (.ints p_1.placed)]),(8,some [.nil,.nil,.nil])]⟩:PS)
  iterate 2 refine Ag ?_
  refine Aa ?_
  iterate 4 refine oV5 tt rfl Tvv ?_
  refine Ae ?_
  show VC ..
  refine Au rfl (fun hb3=>?_) (fun hb3=>?_)
  ·replace h:=Ai hb3 h
   refine Ar ?_
   show VC ..
   refine Ag ?_
   refine Aq ?_
   refine Ag ?_
   refine Aa ?_
   iterate 2 refine oV5 tt rfl Tvv ?_
   obtain ⟨hg4,h⟩:=Ab h
   iterate 2 refine oV5 tt rfl hg4 ?_
   refine oV5 tt rfl Tvv ?_
   refine Ae ?_
   show VC ..
   refine Ag ?_
   refine Aa ?_
   refine oV5 tt rfl Tvv ?_
   refine Ae ?_
   show VC ..
   refine Ck (F:=fun k=>Dd N g_0 p_1 a_2 b_3 l106 k108 k) h (α:=(List Int)×(List Int)×(List Bool)) (J:=fun | (l143,l144,l145)=>(⟨[(2,.int a_2),(3,.int b_3),(4,.ptr 4 0),(5,.ptr 5 0),(8,.ptr 8 0),(10,.row 20 0 ((List.replicate ((g_0.n).toNat) (0:Int)).length)),(12,.row 31 0 l144.length),(13,.row 34 0 ((List.replicate ((g_0.n).toNat) (false:Bool)).length)),(14,.int k108)],[(20,some (3,.ints l143)),(31,some (3,.ints l144)),(34,some (4,.bools l145))],[(4,some [.int g_0.n,.ro false (.pairs g_0.bars)]),(5,some [.ro false (.ints p_1.free),.ro false (.ints p_1.tails),.ro false (.ints p_1.placed)]),(8,some [.nil,.nil,.nil])]⟩:PS)) ?_ ?_
   ·rintro ⟨l143,l144,l145⟩ h
    show VC _ _ _ (⟨[(2,.int a_2),(3,.int b_3),(4,.ptr 4 0),(5,.ptr 5 0),(8,.ptr 8 0),(10,.row 20 0 ((List.replicate ((g_0.n).toNat) (0:Int)).length)),(12,.row 31 0 l144.length),(13,.row 34 0 ((List.replicate ((g_0.n).toNat) (false:Bool)).length)),(14,.int k108)],[(20,some (3,.ints l143)),(31,some (3,.ints l144)),(34,some (4,.bools l145))],[(4,some [.int g_0.n,.ro false (.pairs g_0.bars)]),(5,some [.ro false (.ints p_1.free),.ro false (.ints p_1.tails),.ro false (.ints p_1.placed)]),(8,some [.nil,.nil,.nil])]⟩:PS)
    refine Aa ?_
    refine oV5 tt rfl Tvv ?_
    obtain ⟨hg5,h⟩:=Ab h
    refine oV5 tt rfl hg5 ?_
    refine oV5 tt rfl Tvv ?_
    refine Ae ?_
    show ∃ _,_
    exact ⟨(l143,l144,l145,(k108+(1:Int))),(En.of ⟨rfl,rfl,rfl,rfl,rfl,rfl,rfl,rfl,rfl,Tvv⟩ ⟨rfl,rfl,rfl,Tvv⟩ ⟨rfl,rfl,rfl,Tvv⟩),h⟩
   intro k h
   refine Aq ?_
   refine Bh (α:=(List Int)×(List Int)×(List Bool)×Int) (fun | (l149,l150,l151,i152)=>(⟨[(2,.int a_2),(3,.int b_3),(4,.ptr 4 0),(5,.ptr 5 0),(8,.ptr 8 0),(10,.row 20 0 ((List.replicate ((g_0.n).toNat) (0:Int)).length)),(12,.row 31 0 l150.length),(13,.row 34 0 ((List.replicate ((g_0.n).toNat) (false:Bool)).length)),(14,.int k108),(15,.int (l106.getD ((k108).toNat) 0)),(16,.int i152)],[(20,some (3,.ints l149)),(31,some (3,.ints l150)),(34,some (4,.bools l151))],[(4,some [.int g_0.n,.ro false (.pairs g_0.bars)]),(5,some [.ro false (.ints p_1.free),.ro false (.ints p_1.tails),.ro false (.ints p_1.placed)]),(8,some [.nil,.nil,.nil])]⟩:PS)) (Dd N g_0 p_1 a_2 b_3 l106 k108 k) h (En.of ⟨rfl,rfl,rfl,rfl,rfl,rfl,rfl,rfl,rfl,rfl,rfl,Tvv⟩ ⟨rfl,rfl,rfl,Tvv⟩ ⟨rfl,rfl,rfl,Tvv⟩) (fun _=>rfl) ?_
   rintro n ⟨l149,l150,l151,i152⟩ h
   rw [Dd] at h
   show VC _ _ _ (⟨[(2,.int a_2),(3,.int b_3),(4,.ptr 4 0),(5,.ptr 5 0),(8,.ptr 8 0),(10,.row 20 0 ((List.replicate ((g_0.n).toNat) (0:Int)).length)),(12,.row 31 0 l150.length),(13,.row 34 0 ((List.replicate ((g_0.n).toNat) (false:Bool)).length)),(14,.int k108),(15,.int (l106.getD ((k108).toNat) 0)),(16,.int i152)],[(20,some (3,.ints l149)),(31,some (3,.ints l150)),(34,some (4,.bools l151))],[(4,some [.int g_0.n,.ro false (.pairs g_0.bars)]),(5,some [.ro false (.ints p_1.free),.ro false (.ints p_1.tails),.ro false (.ints p_1.placed)]),(8,some [.nil,.nil,.nil])]⟩:PS)
   iterate 2 refine Ag ?_
   refine Aa ?_
   iterate 5 refine oV5 tt rfl Tvv ?_
   refine Ae ?_
   show VC ..
   refine Au rfl (fun hb6=>?_) (fun hb6=>?_)
   ·replace h:=Ai hb6 h
    refine Ar ?_
    show VC ..
    refine Ag ?_
    refine Aq ?_
    iterate 2 refine Ag ?_
    refine Aa ?_
    iterate 3 refine oV5 tt rfl Tvv ?_
    obtain ⟨hg7,h⟩:=Ab h
    refine oV5 tt rfl hg7 ?_
    iterate 3 refine oV5 tt rfl Tvv ?_
    refine Ae ?_
    show VC ..
    refine Au rfl (fun hb8=>?_) (fun hb8=>?_)
    ·replace h:=Ai hb8 h
     refine Bq ?_
     show VC ..
     refine Aa ?_
     refine oV5 tt rfl Tvv ?_
     obtain ⟨hg9,h⟩:=Ab h
     refine oV5 tt rfl hg9 ?_
     refine oV5 tt rfl Tvv ?_
     refine Ae ?_
     show ∃ _,_
     exact ⟨(l149,l150,l151,(i152+(1:Int))),(En.of ⟨rfl,rfl,rfl,rfl,rfl,rfl,rfl,rfl,rfl,rfl,rfl,Tvv⟩ ⟨rfl,rfl,rfl,Tvv⟩ ⟨rfl,rfl,rfl,Tvv⟩),h⟩
    replace h:=Aj hb8 h
    refine Ar ?_
    show VC ..
    refine Ag ?_
    refine Cg (by kernel_rfl) (by kernel_rfl) ?_
    iterate 5 refine Bi tt rfl (Ad rfl) rfl rfl rfl Tvv ?_
    obtain ⟨hg10,h⟩:=Ab h
    refine Bi tt rfl (Ad rfl) rfl rfl rfl hg10 ?_
    refine Bi tt rfl (Ad rfl) rfl rfl rfl Tvv ?_
    obtain ⟨hg11,h⟩:=Ab h
    refine Bi tt rfl (Ad rfl) rfl rfl rfl hg11 ?_
    iterate 2 refine Bi tt rfl (Ad rfl) rfl rfl rfl Tvv ?_
    obtain ⟨v155,hc12,h⟩:=Ac h
    refine Pr (Gt N (g_0.bars.getD (((p_1.placed.getD ((i152).toNat) 0)).toNat) (0,0)) (l106.getD ((k108).toNat) 0) v155 hc12) rfl (Ad rfl) rfl rfl rfl rfl rfl rfl ⟨⟨rfl,rfl,Tvv⟩,rfl,Tvv⟩ ?_
    refine Bi tt rfl (Ad rfl) rfl rfl rfl Tvv ?_
    refine La ?_
    show VC ..
    iterate 2 refine Ag ?_
    refine Aa ?_
    iterate 2 refine oV5 tt rfl Tvv ?_
    obtain ⟨hg13,h⟩:=Ab h
    refine oV5 tt rfl hg13 ?_
    obtain ⟨hg14,h⟩:=Ab h
    refine oV5 tt rfl hg14 ?_
    refine Ae ?_
    show VC ..
    refine Au rfl (fun hb15=>?_) (fun hb15=>?_)
    ·replace h:=Ai hb15 h
     refine Bq ?_
     show VC ..
     refine Aa ?_
     refine oV5 tt rfl Tvv ?_
     obtain ⟨hg16,h⟩:=Ab h
     refine oV5 tt rfl hg16 ?_
     refine oV5 tt rfl Tvv ?_
     refine Ae ?_
     show ∃ _,_
     exact ⟨(l149,l150,l151,(i152+(1:Int))),(En.of ⟨rfl,rfl,rfl,rfl,rfl,rfl,rfl,rfl,rfl,rfl,rfl,Tvv⟩ ⟨rfl,rfl,rfl,Tvv⟩ ⟨rfl,rfl,rfl,Tvv⟩),h⟩
    replace h:=Aj hb15 h
    refine Ar ?_
    show VC ..
    refine Ag ?_
    refine Aa ?_
    iterate 2 refine oV5 tt rfl Tvv ?_
    refine oV5 tt rfl hg13 ?_
    refine Ao tt rfl rfl rfl rfl rfl rfl rfl rfl rfl rfl ⟨_,_,rfl,hg14.1,hg14.2⟩ ⟨hg14,Tvv⟩ ?_
    refine Ae ?_
    show VC ..
    refine Ag ?_
    refine Aa ?_
    iterate 3 refine oV5 tt rfl Tvv ?_
    obtain ⟨hg17,h⟩:=Ab h
    refine oV5 tt rfl hg17 ?_
    obtain ⟨hg18,h⟩:=Ab h
    refine Ao tt rfl rfl rfl rfl rfl rfl rfl rfl rfl rfl ⟨_,_,rfl,hg18.1,hg18.2⟩ ⟨hg18,Tvv⟩ ?_
    refine Ae ?_
    show VC ..
    iterate 2 refine Ag ?_
    refine Aa ?_
    iterate 4 refine oV5 tt rfl Tvv ?_
    refine Bc rfl rfl rfl (fun hb19=>?_) (fun hb19=>?_)
    ·replace h:=Ai hb19 h
     iterate 3 refine Bd tt rfl rfl rfl rfl rfl hb19 rfl rfl rfl Tvv ?_
     obtain ⟨hg20,h⟩:=Ab h
     refine Bd tt rfl rfl rfl rfl rfl hb19 rfl rfl rfl hg20 ?_
     iterate 2 refine Bd tt rfl rfl rfl rfl rfl hb19 rfl rfl rfl Tvv ?_
     refine Be rfl rfl rfl rfl rfl hb19 rfl ?_
     refine Ae ?_
     show VC ..
     refine Au rfl (fun hb21=>?_) (fun hb21=>?_)
     ·replace h:=Ai hb21 h
      refine Ag ?_
      refine Aa ?_
      iterate 5 refine oV5 tt rfl Tvv ?_
      obtain ⟨hg22,h⟩:=Ab h
      obtain ⟨v156,hc23,h⟩:=Ac h
      refine Ba (Zl N g_0 p_1 (l149.set ((v155).toNat) i152) a_2 v155 v156 hc23) rfl rfl rfl rfl rfl rfl rfl rfl ⟨⟨rfl,rfl,Tvv⟩,⟨rfl,rfl,rfl,Tvv⟩,(.inl ⟨hg22,rfl⟩),rfl,rfl,Tvv⟩ ?_
      refine Ao tt rfl rfl rfl rfl rfl rfl rfl rfl rfl rfl rfl ⟨Tvv,Tvv,Tvv,Tvv⟩ ?_
      refine oV5 tt rfl Tvv ?_
      refine Ae ?_
      show VC ..
      refine Bb ?_
      show ∃ _,_
      cases h
      exact ⟨[2000,2001,2002],_,rfl,⟨rfl,rfl,rfl,Tvv⟩,rfl,(.eq rfl),rfl⟩
     replace h:=Aj hb21 h
     refine Ar ?_
     show VC ..
     refine Aa ?_
     iterate 2 refine oV5 tt rfl Tvv ?_
     refine Cv tt rfl rfl rfl rfl rfl rfl rfl rfl rfl rfl rfl ?_
     obtain ⟨hg24,h⟩:=Ab h
     refine Bp tt rfl rfl rfl rfl rfl rfl rfl rfl rfl rfl rfl rfl rfl rfl rfl rfl (Nat.le_of_eq (Nat.zero_add _)) hg24 ?_
     refine oV5 tt rfl Tvv ?_
     refine Ae ?_
     show VC ..
     refine Aa ?_
     refine oV5 tt rfl Tvv ?_
     obtain ⟨hg25,h⟩:=Ab h
     refine oV5 tt rfl hg25 ?_
     refine oV5 tt rfl Tvv ?_
     refine Ae ?_
     show ∃ _,_
     exact ⟨((l149.set ((v155).toNat) i152),(l150++([v155]:List Int)),(l151.set ((v155).toNat) true),(i152+(1:Int))),(En.of ⟨rfl,rfl,rfl,rfl,rfl,rfl,rfl,rfl,rfl,rfl,rfl,Tvv⟩ ⟨rfl,rfl,rfl,Tvv⟩ ⟨rfl,rfl,rfl,Tvv⟩),h⟩
    replace h:=Aj hb19 h
    iterate 6 refine Jn rfl rfl rfl rfl hb19 rfl rfl ?_
    refine Av rfl rfl rfl rfl rfl hb19 rfl ?_
    refine Ae ?_
    show VC ..
    refine Cz rfl rfl ?_
    refine Ar ?_
    show VC ..
    refine Aa ?_
    iterate 2 refine oV5 tt rfl Tvv ?_
    refine Cv tt rfl rfl rfl rfl rfl rfl rfl rfl rfl rfl rfl ?_
    obtain ⟨hg26,h⟩:=Ab h
    refine Bp tt rfl rfl rfl rfl rfl rfl rfl rfl rfl rfl rfl rfl rfl rfl rfl rfl (Nat.le_of_eq (Nat.zero_add _)) hg26 ?_
    refine oV5 tt rfl Tvv ?_
    refine Ae ?_
    show VC ..
    refine Aa ?_
    refine oV5 tt rfl Tvv ?_
    obtain ⟨hg27,h⟩:=Ab h
    refine oV5 tt rfl hg27 ?_
    refine oV5 tt rfl Tvv ?_
    refine Ae ?_
    show ∃ _,_
    exact ⟨((l149.set ((v155).toNat) i152),(l150++([v155]:List Int)),(l151.set ((v155).toNat) true),(i152+(1:Int))),(En.of ⟨rfl,rfl,rfl,rfl,rfl,rfl,rfl,rfl,rfl,rfl,rfl,Tvv⟩ ⟨rfl,rfl,rfl,Tvv⟩ ⟨rfl,rfl,rfl,Tvv⟩),h⟩
   replace h:=Aj hb6 h
   refine Bq ?_
   show ∃ _,_
   exact ⟨(l149,l150,l151),(En.of ⟨rfl,rfl,rfl,rfl,rfl,rfl,rfl,rfl,rfl,Tvv⟩ ⟨rfl,rfl,rfl,Tvv⟩ ⟨rfl,rfl,rfl,Tvv⟩),h⟩
  replace h:=Aj hb3 h
  refine Bq ?_
  show ∃ _,_
  exact ⟨(),(En.of ⟨rfl,rfl,Tvv⟩ trivial ⟨rfl,rfl,Tvv⟩),h⟩
 intro k h
 refine Aq ?_
 refine Bh (α:=(List Int)×Int) (fun | (l158,i159)=>(⟨[(2,.int a_2),(3,.int b_3),(4,.ptr 4 0),(5,.ptr 5 0),(8,.ptr 8 0),(10,.row 20 0 ((List.replicate ((g_0.n).toNat) (0:Int)).length)),(11,.int i159)],[(20,some (3,.ints l158))],[(4,some [.int g_0.n,.ro false (.pairs g_0.bars)]),(5,some [.ro false (.ints p_1.free),.ro false (.ints p_1.tails),.ro false (.ints p_1.placed)]),(8,some [.nil,.nil,.nil])]⟩:PS)) (Fy N g_0 k) h (En.of ⟨rfl,rfl,rfl,rfl,rfl,rfl,rfl,Tvv⟩ ⟨rfl,Tvv⟩ ⟨rfl,rfl,rfl,Tvv⟩) (fun _=>rfl) ?_
 rintro n ⟨l158,i159⟩ h
 rw [Fy] at h
 show VC _ _ _ (⟨[(2,.int a_2),(3,.int b_3),(4,.ptr 4 0),(5,.ptr 5 0),(8,.ptr 8 0),(10,.row 20 0 ((List.replicate ((g_0.n).toNat) (0:Int)).length)),(11,.int i159)],[(20,some (3,.ints l158))],[(4,some [.int g_0.n,.ro false (.pairs g_0.bars)]),(5,some [.ro false (.ints p_1.free),.ro false (.ints p_1.tails),.ro false (.ints p_1.placed)]),(8,some [.nil,.nil,.nil])]⟩:PS)
 iterate 2 refine Ag ?_
 refine Aa ?_
 iterate 4 refine oV5 tt rfl Tvv ?_
 refine Ae ?_
 show VC ..
 refine Au rfl (fun hb28=>?_) (fun hb28=>?_)
 ·replace h:=Ai hb28 h
  refine Ar ?_
  show VC ..
  refine Ag ?_
  refine Aq ?_
  refine Aa ?_
  iterate 2 refine oV5 tt rfl Tvv ?_
  obtain ⟨hg29,h⟩:=Ab h
  refine oV5 tt rfl hg29 ?_
  obtain ⟨hg30,h⟩:=Ab h
  refine Ao tt rfl rfl rfl rfl rfl rfl rfl rfl rfl rfl ⟨_,_,rfl,hg30.1,hg30.2⟩ ⟨hg30,Tvv⟩ ?_
  refine Ae ?_
  show VC ..
  refine Aa ?_
  refine oV5 tt rfl Tvv ?_
  obtain ⟨hg31,h⟩:=Ab h
  refine oV5 tt rfl hg31 ?_
  refine oV5 tt rfl Tvv ?_
  refine Ae ?_
  show ∃ _,_
  exact ⟨((l158.set ((i159).toNat) (-1:Int)),(i159+(1:Int))),(En.of ⟨rfl,rfl,rfl,rfl,rfl,rfl,rfl,Tvv⟩ ⟨rfl,Tvv⟩ ⟨rfl,rfl,rfl,Tvv⟩),h⟩
 replace h:=Aj hb28 h
 refine Bq ?_
 show ∃ _,_
 exact ⟨l158,(En.of ⟨rfl,rfl,rfl,rfl,rfl,rfl,Tvv⟩ ⟨rfl,Tvv⟩ ⟨rfl,rfl,rfl,Tvv⟩),h⟩
theorem Zf (N:Nat) (g_0:Grf) (p_1:Pbl) (a_2:Int) (b_3:Int) (r:Pbl×Bool) (h:Lf N g_0 p_1 a_2 b_3=some r) (halt:r.2=false):PCall Try.prog 204 [gD g_0,bD p_1,.int a_2,.int b_3] [] (.tup [.agg [.any,.any,.any],.bool r.2]):=by
 unfold Lf at h
 refine Ah (TT:=TT) tt Try.func204 rfl rfl Try.ntmps204 (congrArg Array.toList Try.results204) rfl rfl fun w0=>?_
 refine Ag ?_
 refine Aa ?_
 iterate 2 refine Km rfl rfl rfl rfl rfl rfl rfl rfl rfl ?_
 refine Bj tt rfl rfl rfl rfl rfl rfl rfl rfl rfl ?_
 refine oV5 tt rfl Tvv ?_
 refine Ae ?_
 show VC ..
 refine Ag ?_
 refine Aa ?_
 iterate 2 refine oV5 tt rfl Tvv ?_
 obtain ⟨hg1,h⟩:=Ab h
 refine oMake tt rfl rfl rfl rfl rfl rfl rfl rfl rfl rfl rfl hg1 ?_
 refine oV5 tt rfl Tvv ?_
 refine Ae ?_
 show VC ..
 iterate 2 refine Ag ?_
 refine Aa ?_
 refine oV5 tt rfl Tvv ?_
 refine Ae ?_
 show VC ..
 refine Ck (F:=fun k=>Fy N g_0 k) h (α:=List Int) (J:=fun (l3:List Int)=>(⟨[(2,.int a_2),(3,.int b_3),(4,.ptr 4 0),(5,.ptr 5 0),(8,.ptr 8 0),(10,.row 20 0 ((List.replicate ((g_0.n).toNat) (0:Int)).length))],[(20,some (3,.ints l3))],[(4,some [.int g_0.n,.ro false (.pairs g_0.bars)]),(5,some [.ro false (.ints p_1.free),.ro false (.ints p_1.tails),.ro false (.ints p_1.placed)]),(8,some [.nil,.nil,.nil])]⟩:PS)) ?_ ?_
 ·rintro l3 h
  show VC _ _ _ (⟨[(2,.int a_2),(3,.int b_3),(4,.ptr 4 0),(5,.ptr 5 0),(8,.ptr 8 0),(10,.row 20 0 ((List.replicate ((g_0.n).toNat) (0:Int)).length))],[(20,some (3,.ints l3))],[(4,some [.int g_0.n,.ro false (.pairs g_0.bars)]),(5,some [.ro false (.ints p_1.free),.ro false (.ints p_1.tails),.ro false (.ints p_1.placed)]),(8,some [.nil,.nil,.nil])]⟩:PS)
  refine Ag ?_
  refine Aa ?_
  refine oV5 tt rfl Tvv ?_
  refine Cv tt rfl rfl rfl rfl rfl rfl rfl rfl rfl rfl rfl ?_
  refine oV5 tt rfl Tvv ?_
  refine Ae ?_
  show VC ..
  refine Ag ?_
  refine Aa ?_
  iterate 2 refine oV5 tt rfl Tvv ?_
  refine oMake tt rfl rfl rfl rfl rfl rfl rfl rfl rfl rfl rfl hg1 ?_
  refine oV5 tt rfl Tvv ?_
  refine Ae ?_
  show VC ..
  refine Ag ?_
  refine Aa ?_
  iterate 2 refine oV5 tt rfl Tvv ?_
  obtain ⟨hg2,h⟩:=Ab h
  refine oV5 tt rfl hg2 ?_
  refine Ao tt rfl rfl rfl rfl rfl rfl rfl rfl rfl rfl ⟨_,_,rfl,hg2.1,hg2.2⟩ ⟨hg2,Tvv⟩ ?_
  refine Ae ?_
  show VC ..
  iterate 2 refine Ag ?_
  refine Aa ?_
  refine oV5 tt rfl Tvv ?_
  refine Ae ?_
  show VC ..
  refine Ck (F:=fun k=>Ca N g_0 p_1 a_2 b_3 k) h (α:=Unit) (J:=fun (_:Unit)=>(⟨[(5,.ptr 5 0),(8,.ptr 8 0)],[],[(5,some [.ro false (.ints p_1.free),.ro false (.ints p_1.tails),.ro false (.ints p_1.placed)]),(8,some [.nil,.nil,.nil])]⟩:PS)) ?_ ?_
  ·rintro ⟨⟩ h
   show VC _ _ _ (⟨[(5,.ptr 5 0),(8,.ptr 8 0)],[],[(5,some [.ro false (.ints p_1.free),.ro false (.ints p_1.tails),.ro false (.ints p_1.placed)]),(8,some [.nil,.nil,.nil])]⟩:PS)
   refine Ag ?_
   refine Aa ?_
   refine oV5 tt rfl Tvv ?_
   refine Ao tt rfl rfl rfl rfl rfl rfl rfl rfl rfl rfl rfl ⟨Tvv,Tvv,Tvv,Tvv⟩ ?_
   refine oV5 tt rfl Tvv ?_
   refine Ae ?_
   show VC ..
   refine Bb ?_
   show ∃ _,_
   cases h
   exact ⟨[],_,rfl,Tvv,rfl,(wkTup rfl rfl ⟨wkAgg rfl rfl ⟨.any rfl rfl,.any rfl rfl,.any rfl rfl,Tvv⟩,.eq rfl,Tvv⟩),rfl⟩
  intro k h
  refine Aq ?_
  refine Bh (α:=(List Int)×(List Int)×(List Bool)×Int) (fun | (l105,l106,l107,k108)=>(⟨[(2,.int a_2),(3,.int b_3),(4,.ptr 4 0),(5,.ptr 5 0),(8,.ptr 8 0),(10,.row 20 0 ((List.replicate ((g_0.n).toNat) (0:Int)).length)),(12,.row 31 0 l106.length),(13,.row 34 0 ((List.replicate ((g_0.n).toNat) (false:Bool)).length)),(14,.int k108)],[(20,some (3,.ints l105)),(31,some (3,.ints l106)),(34,some (4,.bools l107))],[(4,some [.int g_0.n,.ro false (.pairs g_0.bars)]),(5,some [.ro false (.ints p_1.free),.ro false (.ints p_1.tails),.ro false (.ints p_1.placed)]),(8,some [.nil,.nil,.nil])]⟩:PS)) (Ca N g_0 p_1 a_2 b_3 k) h (En.of ⟨rfl,rfl,rfl,rfl,rfl,rfl,rfl,rfl,rfl,Tvv⟩ ⟨rfl,rfl,rfl,Tvv⟩ ⟨rfl,rfl,rfl,Tvv⟩) (fun _=>rfl) ?_
  rintro n ⟨l105,l106,l107,k108⟩ h
  rw [Ca] at h
  show VC _ _ _ (⟨[(2,.int a_2),(3,.int b_3),(4,.ptr 4 0),(5,.ptr 5 0),(8,.ptr 8 0),(10,.row 20 0 ((List.replicate ((g_0.n).toNat) (0:Int)).length)),(12,.row 31 0 l106.length),(13,.row 34 0 ((List.replicate ((g_0.n).toNat) (false:Bool)).length)),(14,.int k108)],[(20,some (3,.ints l105)),(31,some (3,.ints l106)),(34,some (4,.bools l107))],[(4,some [.int g_0.n,.ro false (.pairs g_0.bars)]),(5,some [.ro false (.ints p_1.free),.ro false (.ints p_1.tails),.ro false (.ints p_1.placed)]),(8,some [.nil,.nil,.nil])]⟩:PS)
  iterate 2 refine Ag ?_
  refine Aa ?_
  iterate 4 refine oV5 tt rfl Tvv ?_
  refine Ae ?_
  show VC ..
  refine Au rfl (fun hb3=>?_) (fun hb3=>?_)
  ·replace h:=Ai hb3 h
   refine Ar ?_
   show VC ..
   refine Ag ?_
   refine Aq ?_
   refine Ag ?_
   refine Aa ?_
   iterate 2 refine oV5 tt rfl Tvv ?_
   obtain ⟨hg4,h⟩:=Ab h
   iterate 2 refine oV5 tt rfl hg4 ?_
   refine oV5 tt rfl Tvv ?_
   refine Ae ?_
   show VC ..
   refine Ag ?_
   refine Aa ?_
   refine oV5 tt rfl Tvv ?_
   refine Ae ?_
   show VC ..
   refine Ck (F:=fun k=>Dd N g_0 p_1 a_2 b_3 l106 k108 k) h (α:=(List Int)×(List Int)×(List Bool)) (J:=fun | (l143,l144,l145)=>(⟨[(2,.int a_2),(3,.int b_3),(4,.ptr 4 0),(5,.ptr 5 0),(8,.ptr 8 0),(10,.row 20 0 ((List.replicate ((g_0.n).toNat) (0:Int)).length)),(12,.row 31 0 l144.length),(13,.row 34 0 ((List.replicate ((g_0.n).toNat) (false:Bool)).length)),(14,.int k108)],[(20,some (3,.ints l143)),(31,some (3,.ints l144)),(34,some (4,.bools l145))],[(4,some [.int g_0.n,.ro false (.pairs g_0.bars)]),(5,some [.ro false (.ints p_1.free),.ro false (.ints p_1.tails),.ro false (.ints p_1.placed)]),(8,some [.nil,.nil,.nil])]⟩:PS)) ?_ ?_
   ·rintro ⟨l143,l144,l145⟩ h
    show VC _ _ _ (⟨[(2,.int a_2),(3,.int b_3),(4,.ptr 4 0),(5,.ptr 5 0),(8,.ptr 8 0),(10,.row 20 0 ((List.replicate ((g_0.n).toNat) (0:Int)).length)),(12,.row 31 0 l144.length),(13,.row 34 0 ((List.replicate ((g_0.n).toNat) (false:Bool)).length)),(14,.int k108)],[(20,some (3,.ints l143)),(31,some (3,.ints l144)),(34,some (4,.bools l145))],[(4,some [.int g_0.n,.ro false (.pairs g_0.bars)]),(5,some [.ro false (.ints p_1.free),.ro false (.ints p_1.tails),.ro false (.ints p_1.placed)]),(8,some [.nil,.nil,.nil])]⟩:PS)
    refine Aa ?_
    refine oV5 tt rfl Tvv ?_
    obtain ⟨hg5,h⟩:=Ab h
    refine oV5 tt rfl hg5 ?_
    refine oV5 tt rfl Tvv ?_
    refine Ae ?_
    show ∃ _,_
    exact ⟨(l143,l144,l145,(k108+(1:Int))),(En.of ⟨rfl,rfl,rfl,rfl,rfl,rfl,rfl,rfl,rfl,Tvv⟩ ⟨rfl,rfl,rfl,Tvv⟩ ⟨rfl,rfl,rfl,Tvv⟩),h⟩
   intro k h
   refine Aq ?_
   refine Bh (α:=(List Int)×(List Int)×(List Bool)×Int) (fun | (l149,l150,l151,i152)=>(⟨[(2,.int a_2),(3,.int b_3),(4,.ptr 4 0),(5,.ptr 5 0),(8,.ptr 8 0),(10,.row 20 0 ((List.replicate ((g_0.n).toNat) (0:Int)).length)),(12,.row 31 0 l150.length),(13,.row 34 0 ((List.replicate ((g_0.n).toNat) (false:Bool)).length)),(14,.int k108),(15,.int (l106.getD ((k108).toNat) 0)),(16,.int i152)],[(20,some (3,.ints l149)),(31,some (3,.ints l150)),(34,some (4,.bools l151))],[(4,some [.int g_0.n,.ro false (.pairs g_0.bars)]),(5,some [.ro false (.ints p_1.free),.ro false (.ints p_1.tails),.ro false (.ints p_1.placed)]),(8,some [.nil,.nil,.nil])]⟩:PS)) (Dd N g_0 p_1 a_2 b_3 l106 k108 k) h (En.of ⟨rfl,rfl,rfl,rfl,rfl,rfl,rfl,rfl,rfl,rfl,rfl,Tvv⟩ ⟨rfl,rfl,rfl,Tvv⟩ ⟨rfl,rfl,rfl,Tvv⟩) (fun _=>rfl) ?_
   rintro n ⟨l149,l150,l151,i152⟩ h
   rw [Dd] at h
   show VC _ _ _ (⟨[(2,.int a_2),(3,.int b_3),(4,.ptr 4 0),(5,.ptr 5 0),(8,.ptr 8 0),(10,.row 20 0 ((List.replicate ((g_0.n).toNat) (0:Int)).length)),(12,.row 31 0 l150.length),(13,.row 34 0 ((List.replicate ((g_0.n).toNat) (false:Bool)).length)),(14,.int k108),(15,.int (l106.getD ((k108).toNat) 0)),(16,.int i152)],[(20,some (3,.ints l149)),(31,some (3,.ints l150)),(34,some (4,.bools l151))],[(4,some [.int g_0.n,.ro false (.pairs g_0.bars)]),(5,some [.ro false (.ints p_1.free),.ro false (.ints p_1.tails),.ro false (.ints p_1.placed)]),(8,some [.nil,.nil,.nil])]⟩:PS)
   iterate 2 refine Ag ?_
   refine Aa ?_
   iterate 5 refine oV5 tt rfl Tvv ?_
   refine Ae ?_
   show VC ..
   refine Au rfl (fun hb6=>?_) (fun hb6=>?_)
   ·replace h:=Ai hb6 h
    refine Ar ?_
    show VC ..
    refine Ag ?_
    refine Aq ?_
    iterate 2 refine Ag ?_
    refine Aa ?_
    iterate 3 refine oV5 tt rfl Tvv ?_
    obtain ⟨hg7,h⟩:=Ab h
    refine oV5 tt rfl hg7 ?_
    iterate 3 refine oV5 tt rfl Tvv ?_
    refine Ae ?_
    show VC ..
    refine Au rfl (fun hb8=>?_) (fun hb8=>?_)
    ·replace h:=Ai hb8 h
     refine Bq ?_
     show VC ..
     refine Aa ?_
     refine oV5 tt rfl Tvv ?_
     obtain ⟨hg9,h⟩:=Ab h
     refine oV5 tt rfl hg9 ?_
     refine oV5 tt rfl Tvv ?_
     refine Ae ?_
     show ∃ _,_
     exact ⟨(l149,l150,l151,(i152+(1:Int))),(En.of ⟨rfl,rfl,rfl,rfl,rfl,rfl,rfl,rfl,rfl,rfl,rfl,Tvv⟩ ⟨rfl,rfl,rfl,Tvv⟩ ⟨rfl,rfl,rfl,Tvv⟩),h⟩
    replace h:=Aj hb8 h
    refine Ar ?_
    show VC ..
    refine Ag ?_
    refine Cg (by kernel_rfl) (by kernel_rfl) ?_
    iterate 5 refine Bi tt rfl (Ad rfl) rfl rfl rfl Tvv ?_
    obtain ⟨hg10,h⟩:=Ab h
    refine Bi tt rfl (Ad rfl) rfl rfl rfl hg10 ?_
    refine Bi tt rfl (Ad rfl) rfl rfl rfl Tvv ?_
    obtain ⟨hg11,h⟩:=Ab h
    refine Bi tt rfl (Ad rfl) rfl rfl rfl hg11 ?_
    iterate 2 refine Bi tt rfl (Ad rfl) rfl rfl rfl Tvv ?_
    obtain ⟨v155,hc12,h⟩:=Ac h
    refine Pr (Gt N (g_0.bars.getD (((p_1.placed.getD ((i152).toNat) 0)).toNat) (0,0)) (l106.getD ((k108).toNat) 0) v155 hc12) rfl (Ad rfl) rfl rfl rfl rfl rfl rfl ⟨⟨rfl,rfl,Tvv⟩,rfl,Tvv⟩ ?_
    refine Bi tt rfl (Ad rfl) rfl rfl rfl Tvv ?_
    refine La ?_
    show VC ..
    iterate 2 refine Ag ?_
    refine Aa ?_
    iterate 2 refine oV5 tt rfl Tvv ?_
    obtain ⟨hg13,h⟩:=Ab h
    refine oV5 tt rfl hg13 ?_
    obtain ⟨hg14,h⟩:=Ab h
    refine oV5 tt rfl hg14 ?_
    refine Ae ?_
    show VC ..
    refine Au rfl (fun hb15=>?_) (fun hb15=>?_)
    ·replace h:=Ai hb15 h
     refine Bq ?_
     show VC ..
     refine Aa ?_
     refine oV5 tt rfl Tvv ?_
     obtain ⟨hg16,h⟩:=Ab h
     refine oV5 tt rfl hg16 ?_
     refine oV5 tt rfl Tvv ?_
     refine Ae ?_
     show ∃ _,_
     exact ⟨(l149,l150,l151,(i152+(1:Int))),(En.of ⟨rfl,rfl,rfl,rfl,rfl,rfl,rfl,rfl,rfl,rfl,rfl,Tvv⟩ ⟨rfl,rfl,rfl,Tvv⟩ ⟨rfl,rfl,rfl,Tvv⟩),h⟩
    replace h:=Aj hb15 h
    refine Ar ?_
    show VC ..
    refine Ag ?_
    refine Aa ?_
    iterate 2 refine oV5 tt rfl Tvv ?_
    refine oV5 tt rfl hg13 ?_
    refine Ao tt rfl rfl rfl rfl rfl rfl rfl rfl rfl rfl ⟨_,_,rfl,hg14.1,hg14.2⟩ ⟨hg14,Tvv⟩ ?_
    refine Ae ?_
    show VC ..
    refine Ag ?_
    refine Aa ?_
    iterate 3 refine oV5 tt rfl Tvv ?_
    obtain ⟨hg17,h⟩:=Ab h
    refine oV5 tt rfl hg17 ?_
    obtain ⟨hg18,h⟩:=Ab h
    refine Ao tt rfl rfl rfl rfl rfl rfl rfl rfl rfl rfl ⟨_,_,rfl,hg18.1,hg18.2⟩ ⟨hg18,Tvv⟩ ?_
    refine Ae ?_
    show VC ..
    iterate 2 refine Ag ?_
    refine Aa ?_
    iterate 4 refine oV5 tt rfl Tvv ?_
    refine Bc rfl rfl rfl (fun hb19=>?_) (fun hb19=>?_)
    ·replace h:=Ai hb19 h
     iterate 3 refine Bd tt rfl rfl rfl rfl rfl hb19 rfl rfl rfl Tvv ?_
     obtain ⟨hg20,h⟩:=Ab h
     refine Bd tt rfl rfl rfl rfl rfl hb19 rfl rfl rfl hg20 ?_
     iterate 2 refine Bd tt rfl rfl rfl rfl rfl hb19 rfl rfl rfl Tvv ?_
     refine Be rfl rfl rfl rfl rfl hb19 rfl ?_
     refine Ae ?_
     show VC ..
     refine Au rfl (fun hb21=>?_) (fun hb21=>?_)
     ·replace h:=Ai hb21 h
      refine Ag ?_
      refine Aa ?_
      iterate 5 refine oV5 tt rfl Tvv ?_
      obtain ⟨hg22,h⟩:=Ab h
      obtain ⟨v156,hc23,h⟩:=Ac h
      refine Ba (Zl N g_0 p_1 (l149.set ((v155).toNat) i152) a_2 v155 v156 hc23) rfl rfl rfl rfl rfl rfl rfl rfl ⟨⟨rfl,rfl,Tvv⟩,⟨rfl,rfl,rfl,Tvv⟩,(.inl ⟨hg22,rfl⟩),rfl,rfl,Tvv⟩ ?_
      refine Ao tt rfl rfl rfl rfl rfl rfl rfl rfl rfl rfl rfl ⟨Tvv,Tvv,Tvv,Tvv⟩ ?_
      refine oV5 tt rfl Tvv ?_
      refine Ae ?_
      show VC ..
      cases h
      cases halt
     replace h:=Aj hb21 h
     refine Ar ?_
     show VC ..
     refine Aa ?_
     iterate 2 refine oV5 tt rfl Tvv ?_
     refine Cv tt rfl rfl rfl rfl rfl rfl rfl rfl rfl rfl rfl ?_
     obtain ⟨hg24,h⟩:=Ab h
     refine Bp tt rfl rfl rfl rfl rfl rfl rfl rfl rfl rfl rfl rfl rfl rfl rfl rfl (Nat.le_of_eq (Nat.zero_add _)) hg24 ?_
     refine oV5 tt rfl Tvv ?_
     refine Ae ?_
     show VC ..
     refine Aa ?_
     refine oV5 tt rfl Tvv ?_
     obtain ⟨hg25,h⟩:=Ab h
     refine oV5 tt rfl hg25 ?_
     refine oV5 tt rfl Tvv ?_
     refine Ae ?_
     show ∃ _,_
     exact ⟨((l149.set ((v155).toNat) i152),(l150++([v155]:List Int)),(l151.set ((v155).toNat) true),(i152+(1:Int))),(En.of ⟨rfl,rfl,rfl,rfl,rfl,rfl,rfl,rfl,rfl,rfl,rfl,Tvv⟩ ⟨rfl,rfl,rfl,Tvv⟩ ⟨rfl,rfl,rfl,Tvv⟩),h⟩
    replace h:=Aj hb19 h
    iterate 6 refine Jn rfl rfl rfl rfl hb19 rfl rfl ?_
    refine Av rfl rfl rfl rfl rfl hb19 rfl ?_
    refine Ae ?_
    show VC ..
    refine Cz rfl rfl ?_
    refine Ar ?_
    show VC ..
    refine Aa ?_
    iterate 2 refine oV5 tt rfl Tvv ?_
    refine Cv tt rfl rfl rfl rfl rfl rfl rfl rfl rfl rfl rfl ?_
    obtain ⟨hg26,h⟩:=Ab h
    refine Bp tt rfl rfl rfl rfl rfl rfl rfl rfl rfl rfl rfl rfl rfl rfl rfl rfl (Nat.le_of_eq (Nat.zero_add _)) hg26 ?_
    refine oV5 tt rfl Tvv ?_
    refine Ae ?_
    show VC ..
    refine Aa ?_
    refine oV5 tt rfl Tvv ?_
    obtain ⟨hg27,h⟩:=Ab h
    refine oV5 tt rfl hg27 ?_
    refine oV5 tt rfl Tvv ?_
    refine Ae ?_
    show ∃ _,_
    exact ⟨((l149.set ((v155).toNat) i152),(l150++([v155]:List Int)),(l151.set ((v155).toNat) true),(i152+(1:Int))),(En.of ⟨rfl,rfl,rfl,rfl,rfl,rfl,rfl,rfl,rfl,rfl,rfl,Tvv⟩ ⟨rfl,rfl,rfl,Tvv⟩ ⟨rfl,rfl,rfl,Tvv⟩),h⟩
   replace h:=Aj hb6 h
   refine Bq ?_
   show ∃ _,_
   exact ⟨(l149,l150,l151),(En.of ⟨rfl,rfl,rfl,rfl,rfl,rfl,rfl,rfl,rfl,Tvv⟩ ⟨rfl,rfl,rfl,Tvv⟩ ⟨rfl,rfl,rfl,Tvv⟩),h⟩
  replace h:=Aj hb3 h
  refine Bq ?_
  show ∃ _,_
  exact ⟨(),(En.of ⟨rfl,rfl,Tvv⟩ trivial ⟨rfl,rfl,Tvv⟩),h⟩
 intro k h
 refine Aq ?_
 refine Bh (α:=(List Int)×Int) (fun | (l158,i159)=>(⟨[(2,.int a_2),(3,.int b_3),(4,.ptr 4 0),(5,.ptr 5 0),(8,.ptr 8 0),(10,.row 20 0 ((List.replicate ((g_0.n).toNat) (0:Int)).length)),(11,.int i159)],[(20,some (3,.ints l158))],[(4,some [.int g_0.n,.ro false (.pairs g_0.bars)]),(5,some [.ro false (.ints p_1.free),.ro false (.ints p_1.tails),.ro false (.ints p_1.placed)]),(8,some [.nil,.nil,.nil])]⟩:PS)) (Fy N g_0 k) h (En.of ⟨rfl,rfl,rfl,rfl,rfl,rfl,rfl,Tvv⟩ ⟨rfl,Tvv⟩ ⟨rfl,rfl,rfl,Tvv⟩) (fun _=>rfl) ?_
 rintro n ⟨l158,i159⟩ h
 rw [Fy] at h
 show VC _ _ _ (⟨[(2,.int a_2),(3,.int b_3),(4,.ptr 4 0),(5,.ptr 5 0),(8,.ptr 8 0),(10,.row 20 0 ((List.replicate ((g_0.n).toNat) (0:Int)).length)),(11,.int i159)],[(20,some (3,.ints l158))],[(4,some [.int g_0.n,.ro false (.pairs g_0.bars)]),(5,some [.ro false (.ints p_1.free),.ro false (.ints p_1.tails),.ro false (.ints p_1.placed)]),(8,some [.nil,.nil,.nil])]⟩:PS)
 iterate 2 refine Ag ?_
 refine Aa ?_
 iterate 4 refine oV5 tt rfl Tvv ?_
 refine Ae ?_
 show VC ..
 refine Au rfl (fun hb28=>?_) (fun hb28=>?_)
 ·replace h:=Ai hb28 h
  refine Ar ?_
  show VC ..
  refine Ag ?_
  refine Aq ?_
  refine Aa ?_
  iterate 2 refine oV5 tt rfl Tvv ?_
  obtain ⟨hg29,h⟩:=Ab h
  refine oV5 tt rfl hg29 ?_
  obtain ⟨hg30,h⟩:=Ab h
  refine Ao tt rfl rfl rfl rfl rfl rfl rfl rfl rfl rfl ⟨_,_,rfl,hg30.1,hg30.2⟩ ⟨hg30,Tvv⟩ ?_
  refine Ae ?_
  show VC ..
  refine Aa ?_
  refine oV5 tt rfl Tvv ?_
  obtain ⟨hg31,h⟩:=Ab h
  refine oV5 tt rfl hg31 ?_
  refine oV5 tt rfl Tvv ?_
  refine Ae ?_
  show ∃ _,_
  exact ⟨((l158.set ((i159).toNat) (-1:Int)),(i159+(1:Int))),(En.of ⟨rfl,rfl,rfl,rfl,rfl,rfl,rfl,Tvv⟩ ⟨rfl,Tvv⟩ ⟨rfl,rfl,rfl,Tvv⟩),h⟩
 replace h:=Aj hb28 h
 refine Bq ?_
 show ∃ _,_
 exact ⟨l158,(En.of ⟨rfl,rfl,rfl,rfl,rfl,rfl,Tvv⟩ ⟨rfl,Tvv⟩ ⟨rfl,rfl,rfl,Tvv⟩),h⟩
def Ei (N:Nat) (g_0:Grf) (a_2:Int) (b_3:Int) (want_4:Int) (k:((List Int)×(List Int)×(List Int))→Option (Pbl×Bool)):Nat→((List Int)×(List Int)×(List Int))→Option (Pbl×Bool)
 | 0,_=>none
 | n+1,(l17,l18,l19)=>
  grd (0≤a_2∧a_2<(l17.length:Int)) <|
  grd (0≤b_3∧b_3<(l17.length:Int)) <|
  grd (Bf ((l17.getD ((a_2).toNat) 0)+(l17.getD ((b_3).toNat) 0))) <|
  cnd (decide (((l17.getD ((a_2).toNat) 0)+(l17.getD ((b_3).toNat) 0))<want_4)) (
   (Lf N g_0 (⟨l17,l18,l19⟩:Pbl) a_2 b_3).bind fun v22=>
   cnd v22.2 (
    Ei N g_0 a_2 b_3 want_4 k n (v22.1.free,v22.1.tails,v22.1.placed)) (
    (Lf N g_0 (⟨l17,l18,l19⟩:Pbl) b_3 a_2).bind fun v23=>
    cnd v23.2 (
     Ei N g_0 a_2 b_3 want_4 k n (v23.1.free,v23.1.tails,v23.1.placed)) (
     some ((⟨l17,l18,l19⟩:Pbl),false)))) (
   k (l17,l18,l19))
def Mh (N:Nat) (g_0:Grf) (p_1:Pbl) (a_2:Int) (b_3:Int) (want_4:Int):Option (Pbl×Bool):=
 (Sj N p_1).bind fun v1=>
 Ei N g_0 a_2 b_3 want_4 (fun (x:(List Int)×(List Int)×(List Int))=>
   match x with
   | (l11,l12,l13)=>
    some ((⟨l11,l12,l13⟩:Pbl),true)) N (v1.free,v1.tails,v1.placed)
theorem S_l4Gather_w (N:Nat) (g_0:Grf) (p_1:Pbl) (a_2:Int) (b_3:Int) (want_4:Int) (r:Pbl×Bool) (h:Mh N g_0 p_1 a_2 b_3 want_4=some r):PCall Try.prog 185 [gD g_0,bD p_1,.int a_2,.int b_3,.int want_4] [(3,.ints r.1.free),(3,.ints r.1.tails),(3,.ints r.1.placed)] (.tup [.agg [.row 0 0 r.1.free.length,.row 1 0 r.1.tails.length,.row 2 0 r.1.placed.length],.bool r.2]):=by
 unfold Mh at h
 refine Ah (TT:=TT) tt Try.func185 rfl rfl Try.ntmps185 (congrArg Array.toList Try.results185) rfl rfl fun w0=>?_
 refine Ag ?_
 refine Aa ?_
 iterate 2 refine Km rfl rfl rfl rfl rfl rfl rfl rfl rfl ?_
 refine Bj tt rfl rfl rfl rfl rfl rfl rfl rfl rfl ?_
 refine oV5 tt rfl Tvv ?_
 refine Ae ?_
 show VC ..
 refine Ag ?_
 refine Aa ?_
 refine oV5 tt rfl Tvv ?_
 obtain ⟨v1,hc1,h⟩:=Ac h
 refine Ba (Aay N p_1 v1 hc1) rfl rfl rfl rfl rfl rfl rfl rfl ⟨⟨rfl,rfl,rfl,Tvv⟩,Tvv⟩ ?_
 refine Bj tt rfl rfl rfl rfl rfl rfl rfl rfl rfl ?_
 refine Ao tt rfl rfl rfl rfl rfl rfl rfl rfl rfl rfl rfl ⟨Tvv,Tvv,Tvv,Tvv⟩ ?_
 refine Ae ?_
 show VC ..
 refine Ag ?_
 refine Ck (F:=fun k=>Ei N g_0 a_2 b_3 want_4 k) h (α:=(List Int)×(List Int)×(List Int)) (J:=fun | (l11,l12,l13)=>(⟨[(10,.ptr 10 0),(12,.ptr 12 0)],[(1160,some (3,.ints l11)),(1161,some (3,.ints l12)),(1162,some (3,.ints l13))],[(10,some [.nil,.nil,.nil]),(12,some [.row 1160 0 l11.length,.row 1161 0 l12.length,.row 1162 0 l13.length])]⟩:PS)) ?_ ?_
 ·rintro ⟨l11,l12,l13⟩ h
  show VC _ _ _ (⟨[(10,.ptr 10 0),(12,.ptr 12 0)],[(1160,some (3,.ints l11)),(1161,some (3,.ints l12)),(1162,some (3,.ints l13))],[(10,some [.nil,.nil,.nil]),(12,some [.row 1160 0 l11.length,.row 1161 0 l12.length,.row 1162 0 l13.length])]⟩:PS)
  refine Ag ?_
  refine Aa ?_
  refine oV5 tt rfl Tvv ?_
  refine Ao tt rfl rfl rfl rfl rfl rfl rfl rfl rfl rfl rfl ⟨Tvv,Tvv,Tvv,Tvv⟩ ?_
  refine oV5 tt rfl Tvv ?_
  refine Ae ?_
  show VC ..
  refine Bb ?_
  show ∃ _,_
  cases h
  exact ⟨[1160,1161,1162],_,rfl,⟨rfl,rfl,rfl,Tvv⟩,rfl,(.eq rfl),rfl⟩
 intro k h
 refine Aq ?_
 refine Bh (α:=(List Int)×(List Int)×(List Int)) (fun | (l17,l18,l19)=>(⟨[(2,.int a_2),(3,.int b_3),(4,.int want_4),(5,.ptr 5 0),(10,.ptr 10 0),(12,.ptr 12 0)],[(1160,some (3,.ints l17)),(1161,some (3,.ints l18)),(1162,some (3,.ints l19))],[(5,some [.int g_0.n,.ro false (.pairs g_0.bars)]),(10,some [.nil,.nil,.nil]),(12,some [.row 1160 0 l17.length,.row 1161 0 l18.length,.row 1162 0 l19.length])]⟩:PS)) (Ei N g_0 a_2 b_3 want_4 k) h (En.of ⟨rfl,rfl,rfl,rfl,rfl,rfl,Tvv⟩ ⟨rfl,rfl,rfl,Tvv⟩ ⟨rfl,rfl,rfl,Tvv⟩) (fun _=>rfl) ?_
 rintro n ⟨l17,l18,l19⟩ h
 rw [Ei] at h
 show VC _ _ _ (⟨[(2,.int a_2),(3,.int b_3),(4,.int want_4),(5,.ptr 5 0),(10,.ptr 10 0),(12,.ptr 12 0)],[(1160,some (3,.ints l17)),(1161,some (3,.ints l18)),(1162,some (3,.ints l19))],[(5,some [.int g_0.n,.ro false (.pairs g_0.bars)]),(10,some [.nil,.nil,.nil]),(12,some [.row 1160 0 l17.length,.row 1161 0 l18.length,.row 1162 0 l19.length])]⟩:PS)
 iterate 2 refine Ag ?_
 refine Cg (by kernel_rfl) (by kernel_rfl) ?_
 iterate 3 refine Bi tt rfl (Ad rfl) rfl rfl rfl Tvv ?_
 obtain ⟨hg2,h⟩:=Ab h
 iterate 2 refine Bi tt rfl (Ad rfl) rfl rfl rfl hg2 ?_
 iterate 3 refine Bi tt rfl (Ad rfl) rfl rfl rfl Tvv ?_
 obtain ⟨hg3,h⟩:=Ab h
 iterate 2 refine Bi tt rfl (Ad rfl) rfl rfl rfl hg3 ?_
 obtain ⟨hg4,h⟩:=Ab h
 refine Bi tt rfl (Ad rfl) rfl rfl rfl hg4 ?_
 iterate 2 refine Bi tt rfl (Ad rfl) rfl rfl rfl Tvv ?_
 refine La ?_
 show VC ..
 refine Au rfl (fun hb5=>?_) (fun hb5=>?_)
 ·replace h:=Ai hb5 h
  refine Ar ?_
  show VC ..
  refine Aq ?_
  refine Ag ?_
  refine Aa ?_
  iterate 4 refine oV5 tt rfl Tvv ?_
  obtain ⟨v22,hc6,h⟩:=Ac h
  refine bsplit v22.2 (fun hb7=>?_) (fun hb7=>?_)
  ·replace h:=Ai hb7 h
   refine Ba (Yj N g_0 (⟨l17,l18,l19⟩:Pbl) a_2 b_3 v22 hc6 hb7) rfl rfl rfl rfl rfl rfl rfl rfl ⟨⟨rfl,rfl,Tvv⟩,⟨(.inl ⟨rfl,rfl⟩),(.inl ⟨rfl,rfl⟩),(.inl ⟨rfl,rfl⟩),Tvv⟩,rfl,rfl,Tvv⟩ ?_
   iterate 3 refine oV5 tt rfl Tvv ?_
   refine Bj tt rfl rfl rfl rfl rfl rfl rfl rfl rfl ?_
   refine Ao tt rfl rfl rfl rfl rfl rfl rfl rfl rfl rfl rfl ⟨Tvv,Tvv,Tvv,Tvv⟩ ?_
   refine oV5 tt rfl Tvv ?_
   refine Ae ?_
   show VC ..
   iterate 2 refine Ag ?_
   refine Aa ?_
   iterate 2 refine oV5 tt rfl Tvv ?_
   refine Ae ?_
   show VC ..
   refine Cz rfl (by rw [hb7]; rfl) ?_
   refine Ar ?_
   show VC ..
   iterate 2 refine Ag ?_
   refine Aa ?_
   iterate 2 refine oV5 tt rfl Tvv ?_
   refine Ae ?_
   show VC ..
   refine Cz rfl (by rw [hb7]; rfl) ?_
   refine Ar ?_
   show VC ..
   refine Aa ?_
   refine oV5 tt rfl Tvv ?_
   refine Ao tt rfl rfl rfl rfl rfl rfl rfl rfl rfl rfl rfl ⟨Tvv,Tvv,Tvv,Tvv⟩ ?_
   refine Ae ?_
   show ∃ _,_
   exact ⟨(v22.1.free,v22.1.tails,v22.1.placed),(En.ren [1160,1161,1162] [1350,1351,1352] rfl ⟨.inr rfl,.inr rfl,.inr rfl,.inr rfl,.inr rfl,.inr rfl,Tvv⟩ ⟨.inr rfl,.inr rfl,.inr rfl,Tvv⟩ ⟨.inr ⟨_,_,rfl,rfl,⟨.inr rfl,.inr rfl,Tvv⟩⟩,.inr ⟨_,_,rfl,rfl,⟨.inr rfl,.inr rfl,.inr rfl,Tvv⟩⟩,.inr ⟨_,_,rfl,rfl,⟨.inr rfl,.inr rfl,.inr rfl,Tvv⟩⟩,Tvv⟩),h⟩
  replace h:=Aj hb7 h
  refine Ba (Zf N g_0 (⟨l17,l18,l19⟩:Pbl) a_2 b_3 v22 hc6 hb7) rfl rfl rfl rfl rfl rfl rfl rfl ⟨⟨rfl,rfl,Tvv⟩,⟨(.inl ⟨rfl,rfl⟩),(.inl ⟨rfl,rfl⟩),(.inl ⟨rfl,rfl⟩),Tvv⟩,rfl,rfl,Tvv⟩ ?_
  iterate 3 refine oV5 tt rfl Tvv ?_
  refine Bj tt rfl rfl rfl rfl rfl rfl rfl rfl rfl ?_
  refine Ao tt rfl rfl rfl rfl rfl rfl rfl rfl rfl rfl rfl ⟨Tvv,Tvv,Tvv,Tvv⟩ ?_
  refine oV5 tt rfl Tvv ?_
  refine Ae ?_
  show VC ..
  iterate 2 refine Ag ?_
  refine Aa ?_
  iterate 2 refine oV5 tt rfl Tvv ?_
  refine Ae ?_
  show VC ..
  refine Bs rfl (by rw [hb7]; rfl) ?_
  refine Aa ?_
  iterate 4 refine oV5 tt rfl Tvv ?_
  obtain ⟨v23,hc8,h⟩:=Ac h
  refine bsplit v23.2 (fun hb9=>?_) (fun hb9=>?_)
  ·replace h:=Ai hb9 h
   refine Ba (Yj N g_0 (⟨l17,l18,l19⟩:Pbl) b_3 a_2 v23 hc8 hb9) rfl rfl rfl rfl rfl rfl rfl rfl ⟨⟨rfl,rfl,Tvv⟩,⟨(.inl ⟨rfl,rfl⟩),(.inl ⟨rfl,rfl⟩),(.inl ⟨rfl,rfl⟩),Tvv⟩,rfl,rfl,Tvv⟩ ?_
   iterate 3 refine oV5 tt rfl Tvv ?_
   refine Ao tt rfl rfl rfl rfl rfl rfl rfl rfl rfl rfl rfl ⟨Tvv,Tvv,Tvv,Tvv⟩ ?_
   refine oV5 tt rfl Tvv ?_
   refine Ae ?_
   show VC ..
   iterate 2 refine Ag ?_
   refine Aa ?_
   iterate 2 refine oV5 tt rfl Tvv ?_
   refine Ae ?_
   show VC ..
   refine Cz rfl (by rw [hb9]; rfl) ?_
   refine Ar ?_
   show VC ..
   refine Aa ?_
   refine oV5 tt rfl Tvv ?_
   refine Ao tt rfl rfl rfl rfl rfl rfl rfl rfl rfl rfl rfl ⟨Tvv,Tvv,Tvv,Tvv⟩ ?_
   refine Ae ?_
   show ∃ _,_
   exact ⟨(v23.1.free,v23.1.tails,v23.1.placed),(En.ren [1160,1161,1162] [1450,1451,1452] rfl ⟨.inr rfl,.inr rfl,.inr rfl,.inr rfl,.inr rfl,.inr rfl,Tvv⟩ ⟨.inr rfl,.inr rfl,.inr rfl,Tvv⟩ ⟨.inr ⟨_,_,rfl,rfl,⟨.inr rfl,.inr rfl,Tvv⟩⟩,.inr ⟨_,_,rfl,rfl,⟨.inr rfl,.inr rfl,.inr rfl,Tvv⟩⟩,.inr ⟨_,_,rfl,rfl,⟨.inr rfl,.inr rfl,.inr rfl,Tvv⟩⟩,Tvv⟩),h⟩
  replace h:=Aj hb9 h
  refine Ba (Zf N g_0 (⟨l17,l18,l19⟩:Pbl) b_3 a_2 v23 hc8 hb9) rfl rfl rfl rfl rfl rfl rfl rfl ⟨⟨rfl,rfl,Tvv⟩,⟨(.inl ⟨rfl,rfl⟩),(.inl ⟨rfl,rfl⟩),(.inl ⟨rfl,rfl⟩),Tvv⟩,rfl,rfl,Tvv⟩ ?_
  iterate 3 refine oV5 tt rfl Tvv ?_
  refine Ao tt rfl rfl rfl rfl rfl rfl rfl rfl rfl rfl rfl ⟨Tvv,Tvv,Tvv,Tvv⟩ ?_
  refine oV5 tt rfl Tvv ?_
  refine Ae ?_
  show VC ..
  iterate 2 refine Ag ?_
  refine Aa ?_
  iterate 2 refine oV5 tt rfl Tvv ?_
  refine Ae ?_
  show VC ..
  refine Bs rfl (by rw [hb9]; rfl) ?_
  refine Ag ?_
  refine Aa ?_
  refine oV5 tt rfl Tvv ?_
  refine Ao tt rfl rfl rfl rfl rfl rfl rfl rfl rfl rfl rfl ⟨Tvv,Tvv,Tvv,Tvv⟩ ?_
  refine oV5 tt rfl Tvv ?_
  refine Ae ?_
  show VC ..
  refine Bb ?_
  show ∃ _,_
  cases h
  exact ⟨[1160,1161,1162],_,rfl,⟨rfl,rfl,rfl,Tvv⟩,rfl,(.eq rfl),rfl⟩
 replace h:=Aj hb5 h
 refine Bq ?_
 show ∃ _,_
 exact ⟨(l17,l18,l19),(En.of ⟨rfl,rfl,Tvv⟩ ⟨rfl,rfl,rfl,Tvv⟩ ⟨rfl,rfl,Tvv⟩),h⟩
def Hp (N:Nat) (points_0:Int) (bars_1:List (Int×Int)):Option (Int):=
 (I_play N points_0 bars_1 (2:Int) (3:Int)).bind fun v1=>
 some (v1.placed.length:Int)
theorem Tn (N:Nat) (points_0:Int) (bars_1:List (Int×Int)) (r:Int) (h:Hp N points_0 bars_1=some r):PCall Try.prog 144 [.int points_0,.ro false (.pairs bars_1)] [] (.int r):=by
 unfold Hp at h
 refine Ah (TT:=TT) tt Try.func144 rfl rfl Try.ntmps144 (congrArg Array.toList Try.results144) rfl rfl fun w0=>?_
 refine Ag ?_
 refine Aa ?_
 refine oV5 tt rfl Tvv ?_
 refine Ae ?_
 show VC ..
 refine Ag ?_
 refine Aa ?_
 iterate 2 refine oV5 tt rfl Tvv ?_
 obtain ⟨v1,hc1,h⟩:=Ac h
 refine Ba (I_play_w N points_0 bars_1 (2:Int) (3:Int) v1 hc1) rfl rfl rfl rfl rfl rfl rfl rfl ⟨rfl,rfl,rfl,rfl,Tvv⟩ ?_
 refine Du (Ad rfl) (pField (fld (off:=2) (by kernel_rfl)) rfl rfl rfl) rfl rfl ?_
 iterate 2 refine oV5 tt rfl Tvv ?_
 refine Ae ?_
 show VC ..
 refine Bb ?_
 show ∃ _,_
 cases h
 exact ⟨[],_,rfl,Tvv,rfl,(.eq rfl),rfl⟩
end
section
open Go.RowKit
def Fg (N:Nat) (p_0:Pin) (k:Unit→Option (Bool)):Nat→Int→Option (Bool)
 | 0,_=>none
 | n+1,i13=>
  cnd (decide (i13<(p_0.g.bars.length:Int))) (
   grd (0≤i13∧i13<(p_0.g.bars.length:Int)) <|
   (Cw N p_0.ground ((p_0.g.bars.getD ((i13).toNat) (0,0)).1)).bind fun v16=>
   cnd v16 (
    (Cw N p_0.ground ((p_0.g.bars.getD ((i13).toNat) (0,0)).2)).bind fun v17=>
    cnd v17 (
     some false) (
     grd (Bf (i13+(1:Int))) <|
     Fg N p_0 k n (i13+(1:Int)))) (
    grd (Bf (i13+(1:Int))) <|
    Fg N p_0 k n (i13+(1:Int)))) (
   k ())
def Fm (N:Nat) (p_0:Pin) (k:Unit→Option (Bool)):Nat→Int→Option (Bool)
 | 0,_=>none
 | n+1,i19=>
  cnd (decide (i19<(p_0.ground.length:Int))) (
   grd (0≤i19∧i19<(p_0.ground.length:Int)) <|
   cnd (decide ((p_0.ground.getD ((i19).toNat) 0)<(0:Int))) (
    some false) (
    cnd (decide ((p_0.ground.getD ((i19).toNat) 0)≥p_0.g.n)) (
     some false) (
     cnd (decide (i19 > (0:Int))) (
      grd (Bf (i19-(1:Int))) <|
      grd (0≤(i19-(1:Int))∧(i19-(1:Int))<(p_0.ground.length:Int)) <|
      cnd (decide ((p_0.ground.getD (((i19-(1:Int))).toNat) 0)≥(p_0.ground.getD ((i19).toNat) 0))) (
       some false) (
       grd (Bf (i19+(1:Int))) <|
       Fm N p_0 k n (i19+(1:Int)))) (
      grd (Bf (i19+(1:Int))) <|
      Fm N p_0 k n (i19+(1:Int)))))) (
   k ())
def Cj (N:Nat) (p_0:Pin):Option (Bool):=
 Fm N p_0 (fun (_ : Unit) =>
    Fg N p_0 (fun (_ : Unit) =>
       (Mt N p_0.g).bind fun v9=>
       cnd v9 (
        cnd (decide ((p_0.ground.length:Int)≥(2:Int))) (
         cnd (decide ((p_0.g.bars.length:Int)≤(15:Int))) (
          grd (Bf ((2:Int)*(p_0.ground.length:Int))) <|
          grd (Bf ((p_0.g.bars.length:Int)+((2:Int)*(p_0.ground.length:Int)))) <|
          grd (Bf (((p_0.g.bars.length:Int)+((2:Int)*(p_0.ground.length:Int)))-(3:Int))) <|
          some (decide ((((p_0.g.bars.length:Int)+((2:Int)*(p_0.ground.length:Int)))-(3:Int))≤(24:Int)))) (
          some false)) (
         some false)) (
        some false)) N (0:Int)) N (0:Int)
theorem Hx (N:Nat) (p_0:Pin) (r:Bool) (h:Cj N p_0=some r):PCall Try.prog 75 [pD p_0] [] (.bool r):=by
 unfold Cj at h
 refine Ah (TT:=TT) tt Try.func75 rfl rfl Try.ntmps75 (congrArg Array.toList Try.results75) rfl rfl fun w0=>?_
 refine Ag ?_
 refine Aa ?_
 refine Km rfl rfl rfl rfl rfl rfl rfl rfl rfl ?_
 refine oV5 tt rfl Tvv ?_
 refine Ae ?_
 show VC ..
 iterate 2 refine Ag ?_
 refine Aa ?_
 refine oV5 tt rfl Tvv ?_
 refine Ae ?_
 show VC ..
 refine Ck (F:=fun k=>Fm N p_0 k) h (α:=Unit) (J:=fun (_:Unit)=>(⟨[(1,.ptr 1 0)],[],[(1,some [.int p_0.g.n,.ro false (.pairs p_0.g.bars),.ro false (.ints p_0.ground)])]⟩:PS)) ?_ ?_
 ·rintro ⟨⟩ h
  show VC _ _ _ (⟨[(1,.ptr 1 0)],[],[(1,some [.int p_0.g.n,.ro false (.pairs p_0.g.bars),.ro false (.ints p_0.ground)])]⟩:PS)
  iterate 2 refine Ag ?_
  refine Aa ?_
  refine oV5 tt rfl Tvv ?_
  refine Ae ?_
  show VC ..
  refine Ck (F:=fun k=>Fg N p_0 k) h (α:=Unit) (J:=fun (_:Unit)=>(⟨[(1,.ptr 1 0)],[],[(1,some [.int p_0.g.n,.ro false (.pairs p_0.g.bars),.ro false (.ints p_0.ground)])]⟩:PS)) ?_ ?_
  ·rintro ⟨⟩ h
   show VC _ _ _ (⟨[(1,.ptr 1 0)],[],[(1,some [.int p_0.g.n,.ro false (.pairs p_0.g.bars),.ro false (.ints p_0.ground)])]⟩:PS)
   refine Ag ?_
   refine Aa ?_
   iterate 2 refine oV5 tt rfl Tvv ?_
   obtain ⟨v9,hc1,h⟩:=Ac h
   refine Ba (S_l17Simple_w N p_0.g v9 hc1) rfl rfl rfl rfl rfl rfl rfl rfl ⟨⟨rfl,rfl,Tvv⟩,Tvv⟩ ?_
   refine oV5 tt rfl Tvv ?_
   refine Bc rfl rfl rfl (fun hb2=>?_) (fun hb2=>?_)
   ·replace h:=Ai hb2 h
    iterate 4 refine Bd tt rfl rfl rfl rfl rfl hb2 rfl rfl rfl Tvv ?_
    refine Be rfl rfl rfl rfl rfl hb2 rfl ?_
    refine oV5 tt rfl Tvv ?_
    refine Bc rfl rfl rfl (fun hb3=>?_) (fun hb3=>?_)
    ·replace h:=Ai hb3 h
     iterate 5 refine Bd tt rfl rfl rfl rfl rfl hb3 rfl rfl rfl Tvv ?_
     refine Be rfl rfl rfl rfl rfl hb3 rfl ?_
     refine oV5 tt rfl Tvv ?_
     refine Bc rfl rfl rfl (fun hb4=>?_) (fun hb4=>?_)
     ·replace h:=Ai hb4 h
      iterate 7 refine Bd tt rfl rfl rfl rfl rfl hb4 rfl rfl rfl Tvv ?_
      obtain ⟨hg5,h⟩:=Ab h
      refine Bd tt rfl rfl rfl rfl rfl hb4 rfl rfl rfl hg5 ?_
      obtain ⟨hg6,h⟩:=Ab h
      refine Bd tt rfl rfl rfl rfl rfl hb4 rfl rfl rfl hg6 ?_
      obtain ⟨hg7,h⟩:=Ab h
      refine Bd tt rfl rfl rfl rfl rfl hb4 rfl rfl rfl hg7 ?_
      refine Bd tt rfl rfl rfl rfl rfl hb4 rfl rfl rfl Tvv ?_
      refine Be rfl rfl rfl rfl rfl hb4 rfl ?_
      refine oV5 tt rfl Tvv ?_
      refine Ae ?_
      show VC ..
      refine Bb ?_
      show ∃ _,_
      cases h
      exact ⟨[],_,rfl,Tvv,rfl,(.eq rfl),rfl⟩
     replace h:=Aj hb4 h
     iterate 11 refine Jn rfl rfl rfl rfl hb4 rfl rfl ?_
     refine Av rfl rfl rfl rfl rfl hb4 rfl ?_
     refine oV5 tt rfl Tvv ?_
     refine Ae ?_
     show VC ..
     refine Bb ?_
     show ∃ _,_
     cases h
     exact ⟨[],_,rfl,Tvv,rfl,(.eq rfl),rfl⟩
    replace h:=Aj hb3 h
    iterate 5 refine Jn rfl rfl rfl rfl hb3 rfl rfl ?_
    refine Av rfl rfl rfl rfl rfl hb3 rfl ?_
    refine oV5 tt rfl Tvv ?_
    iterate 11 refine Jn rfl rfl rfl rfl rfl rfl rfl ?_
    refine Av rfl rfl rfl rfl rfl rfl rfl ?_
    refine oV5 tt rfl Tvv ?_
    refine Ae ?_
    show VC ..
    refine Bb ?_
    show ∃ _,_
    cases h
    exact ⟨[],_,rfl,Tvv,rfl,(.eq rfl),rfl⟩
   replace h:=Aj hb2 h
   iterate 4 refine Jn rfl rfl rfl rfl hb2 rfl rfl ?_
   refine Av rfl rfl rfl rfl rfl hb2 rfl ?_
   refine oV5 tt rfl Tvv ?_
   iterate 5 refine Jn rfl rfl rfl rfl rfl rfl rfl ?_
   refine Av rfl rfl rfl rfl rfl rfl rfl ?_
   refine oV5 tt rfl Tvv ?_
   iterate 11 refine Jn rfl rfl rfl rfl rfl rfl rfl ?_
   refine Av rfl rfl rfl rfl rfl rfl rfl ?_
   refine oV5 tt rfl Tvv ?_
   refine Ae ?_
   show VC ..
   refine Bb ?_
   show ∃ _,_
   cases h
   exact ⟨[],_,rfl,Tvv,rfl,(.eq rfl),rfl⟩
  intro k h
  refine Aq ?_
  refine Bh (α:=Int) (fun (i13:Int)=>(⟨[(1,.ptr 1 0),(4,.int i13)],[],[(1,some [.int p_0.g.n,.ro false (.pairs p_0.g.bars),.ro false (.ints p_0.ground)])]⟩:PS)) (Fg N p_0 k) h (En.of ⟨rfl,rfl,Tvv⟩ trivial ⟨rfl,Tvv⟩) (fun _=>rfl) ?_
  rintro n i13 h
  rw [Fg] at h
  show VC _ _ _ (⟨[(1,.ptr 1 0),(4,.int i13)],[],[(1,some [.int p_0.g.n,.ro false (.pairs p_0.g.bars),.ro false (.ints p_0.ground)])]⟩:PS)
  iterate 2 refine Ag ?_
  refine Aa ?_
  iterate 6 refine oV5 tt rfl Tvv ?_
  refine Ae ?_
  show VC ..
  refine Au rfl (fun hb8=>?_) (fun hb8=>?_)
  ·replace h:=Ai hb8 h
   refine Ar ?_
   show VC ..
   refine Ag ?_
   refine Aq ?_
   refine Ag ?_
   refine Cg (by kernel_rfl) (by kernel_rfl) ?_
   iterate 6 refine Bi tt rfl (Ad rfl) rfl rfl rfl Tvv ?_
   obtain ⟨hg9,h⟩:=Ab h
   refine Bi tt rfl (Ad rfl) rfl rfl rfl hg9 ?_
   iterate 2 refine Bi tt rfl (Ad rfl) rfl rfl rfl Tvv ?_
   obtain ⟨v16,hc10,h⟩:=Ac h
   refine Pr (Ct N p_0.ground ((p_0.g.bars.getD ((i13).toNat) (0,0)).1) v16 hc10) rfl (Ad rfl) rfl rfl rfl rfl rfl rfl ⟨rfl,rfl,Tvv⟩ ?_
   refine Bi tt rfl (Ad rfl) rfl rfl rfl Tvv ?_
   refine Gd rfl rfl rfl (fun hb11=>?_) (fun hb11=>?_)
   ·replace h:=Ai hb11 h
    iterate 6 refine Bi tt rfl (Ax rfl rfl rfl rfl hb11) rfl rfl rfl Tvv ?_
    refine Bi tt rfl (Ax rfl rfl rfl rfl hb11) rfl rfl rfl hg9 ?_
    iterate 2 refine Bi tt rfl (Ax rfl rfl rfl rfl hb11) rfl rfl rfl Tvv ?_
    obtain ⟨v17,hc12,h⟩:=Ac h
    refine Pr (Ct N p_0.ground ((p_0.g.bars.getD ((i13).toNat) (0,0)).2) v17 hc12) rfl (Ax rfl rfl rfl rfl hb11) rfl rfl rfl rfl rfl rfl ⟨rfl,rfl,Tvv⟩ ?_
    refine Cs rfl (Ad rfl) rfl rfl rfl hb11 rfl ?_
    refine La ?_
    show VC ..
    refine Au rfl (fun hb13=>?_) (fun hb13=>?_)
    ·replace h:=Ai hb13 h
     refine Ag ?_
     refine Aa ?_
     refine oV5 tt rfl Tvv ?_
     refine Ae ?_
     show VC ..
     refine Bb ?_
     show ∃ _,_
     cases h
     exact ⟨[],_,rfl,Tvv,rfl,(.eq rfl),rfl⟩
    replace h:=Aj hb13 h
    refine Ar ?_
    show VC ..
    refine Aa ?_
    refine oV5 tt rfl Tvv ?_
    obtain ⟨hg14,h⟩:=Ab h
    refine oV5 tt rfl hg14 ?_
    refine oV5 tt rfl Tvv ?_
    refine Ae ?_
    show ∃ _,_
    exact ⟨(i13+(1:Int)),(En.of ⟨rfl,rfl,Tvv⟩ trivial ⟨rfl,Tvv⟩),h⟩
   replace h:=Aj hb11 h
   iterate 10 refine cNoT rfl rfl rfl rfl hb11 rfl rfl ?_
   refine Do rfl (Ad rfl) rfl rfl rfl hb11 rfl ?_
   refine La ?_
   show VC ..
   refine Cz rfl rfl ?_
   refine Ar ?_
   show VC ..
   refine Aa ?_
   refine oV5 tt rfl Tvv ?_
   obtain ⟨hg15,h⟩:=Ab h
   refine oV5 tt rfl hg15 ?_
   refine oV5 tt rfl Tvv ?_
   refine Ae ?_
   show ∃ _,_
   exact ⟨(i13+(1:Int)),(En.of ⟨rfl,rfl,Tvv⟩ trivial ⟨rfl,Tvv⟩),h⟩
  replace h:=Aj hb8 h
  refine Bq ?_
  show ∃ _,_
  exact ⟨(),(En.of ⟨rfl,Tvv⟩ trivial ⟨rfl,Tvv⟩),h⟩
 intro k h
 refine Aq ?_
 refine Bh (α:=Int) (fun (i19:Int)=>(⟨[(1,.ptr 1 0),(3,.int i19)],[],[(1,some [.int p_0.g.n,.ro false (.pairs p_0.g.bars),.ro false (.ints p_0.ground)])]⟩:PS)) (Fm N p_0 k) h (En.of ⟨rfl,rfl,Tvv⟩ trivial ⟨rfl,Tvv⟩) (fun _=>rfl) ?_
 rintro n i19 h
 rw [Fm] at h
 show VC _ _ _ (⟨[(1,.ptr 1 0),(3,.int i19)],[],[(1,some [.int p_0.g.n,.ro false (.pairs p_0.g.bars),.ro false (.ints p_0.ground)])]⟩:PS)
 iterate 2 refine Ag ?_
 refine Aa ?_
 iterate 5 refine oV5 tt rfl Tvv ?_
 refine Ae ?_
 show VC ..
 refine Au rfl (fun hb16=>?_) (fun hb16=>?_)
 ·replace h:=Ai hb16 h
  refine Ar ?_
  show VC ..
  refine Ag ?_
  refine Aq ?_
  refine Ag ?_
  refine Cg (by kernel_rfl) (by kernel_rfl) ?_
  iterate 3 refine Bi tt rfl (Ad rfl) rfl rfl rfl Tvv ?_
  obtain ⟨hg17,h⟩:=Ab h
  refine Bi tt rfl (Ad rfl) rfl rfl rfl hg17 ?_
  iterate 3 refine Bi tt rfl (Ad rfl) rfl rfl rfl Tvv ?_
  refine Gd rfl rfl rfl (fun hb18=>?_) (fun hb18=>?_)
  ·replace h:=Ai hb18 h
   iterate 9 refine Pe rfl rfl rfl rfl hb18 rfl rfl ?_
   refine Cs rfl (Ad rfl) rfl rfl rfl hb18 rfl ?_
   refine Bi tt rfl (Ad rfl) rfl rfl rfl Tvv ?_
   iterate 3 refine Pe rfl rfl rfl rfl rfl rfl rfl ?_
   iterate 12 refine cNoU rfl rfl rfl rfl rfl ?_
   refine Pe rfl rfl rfl rfl rfl rfl rfl ?_
   refine Cs rfl (Ad rfl) rfl rfl rfl rfl rfl ?_
   refine La ?_
   show VC ..
   refine Bs rfl rfl ?_
   refine Ag ?_
   refine Aa ?_
   refine oV5 tt rfl Tvv ?_
   refine Ae ?_
   show VC ..
   refine Bb ?_
   show ∃ _,_
   cases h
   exact ⟨[],_,rfl,Tvv,rfl,(.eq rfl),rfl⟩
  replace h:=Aj hb18 h
  iterate 3 refine Bi tt rfl (Ax rfl rfl rfl rfl hb18) rfl rfl rfl Tvv ?_
  refine Bi tt rfl (Ax rfl rfl rfl rfl hb18) rfl rfl rfl hg17 ?_
  iterate 5 refine Bi tt rfl (Ax rfl rfl rfl rfl hb18) rfl rfl rfl Tvv ?_
  refine Do rfl (Ad rfl) rfl rfl rfl hb18 rfl ?_
  refine Bi tt rfl (Ad rfl) rfl rfl rfl Tvv ?_
  refine Gd rfl rfl rfl (fun hb19=>?_) (fun hb19=>?_)
  ·replace h:=Ai hb19 h
   iterate 3 refine Pe rfl rfl rfl rfl hb19 rfl rfl ?_
   iterate 12 refine cNoU rfl rfl rfl rfl rfl ?_
   refine Pe rfl rfl rfl rfl hb19 rfl rfl ?_
   refine Cs rfl (Ad rfl) rfl rfl rfl hb19 rfl ?_
   refine La ?_
   show VC ..
   refine Bs rfl rfl ?_
   refine Ag ?_
   refine Aa ?_
   refine oV5 tt rfl Tvv ?_
   refine Ae ?_
   show VC ..
   refine Bb ?_
   show ∃ _,_
   cases h
   exact ⟨[],_,rfl,Tvv,rfl,(.eq rfl),rfl⟩
  replace h:=Aj hb19 h
  iterate 3 refine Bi tt rfl (Ax rfl rfl rfl rfl hb19) rfl rfl rfl Tvv ?_
  refine Gd rfl rfl rfl (fun hb20=>?_) (fun hb20=>?_)
  ·replace h:=Ai hb20 h
   iterate 3 refine Bi tt rfl (Ax rfl rfl rfl rfl hb20) rfl rfl rfl Tvv ?_
   obtain ⟨hg21,h⟩:=Ab h
   refine Bi tt rfl (Ax rfl rfl rfl rfl hb20) rfl rfl rfl hg21 ?_
   obtain ⟨hg22,h⟩:=Ab h
   refine Bi tt rfl (Ax rfl rfl rfl rfl hb20) rfl rfl rfl hg22 ?_
   iterate 4 refine Bi tt rfl (Ax rfl rfl rfl rfl hb20) rfl rfl rfl Tvv ?_
   refine Bi tt rfl (Ax rfl rfl rfl rfl hb20) rfl rfl rfl hg17 ?_
   iterate 2 refine Bi tt rfl (Ax rfl rfl rfl rfl hb20) rfl rfl rfl Tvv ?_
   refine Cs rfl (Ax rfl rfl rfl rfl hb19) rfl rfl rfl hb20 rfl ?_
   refine Do rfl (Ad rfl) rfl rfl rfl hb19 rfl ?_
   refine La ?_
   show VC ..
   refine Au rfl (fun hb23=>?_) (fun hb23=>?_)
   ·replace h:=Ai hb23 h
    refine Ag ?_
    refine Aa ?_
    refine oV5 tt rfl Tvv ?_
    refine Ae ?_
    show VC ..
    refine Bb ?_
    show ∃ _,_
    cases h
    exact ⟨[],_,rfl,Tvv,rfl,(.eq rfl),rfl⟩
   replace h:=Aj hb23 h
   refine Ar ?_
   show VC ..
   refine Aa ?_
   refine oV5 tt rfl Tvv ?_
   obtain ⟨hg24,h⟩:=Ab h
   refine oV5 tt rfl hg24 ?_
   refine oV5 tt rfl Tvv ?_
   refine Ae ?_
   show ∃ _,_
   exact ⟨(i19+(1:Int)),(En.of ⟨rfl,rfl,Tvv⟩ trivial ⟨rfl,Tvv⟩),h⟩
  replace h:=Aj hb20 h
  iterate 12 refine cNoT rfl rfl rfl rfl hb20 rfl rfl ?_
  refine Do rfl (Ax rfl rfl rfl rfl hb19) rfl rfl rfl hb20 rfl ?_
  refine Do rfl (Ad rfl) rfl rfl rfl hb19 rfl ?_
  refine La ?_
  show VC ..
  refine Cz rfl rfl ?_
  refine Ar ?_
  show VC ..
  refine Aa ?_
  refine oV5 tt rfl Tvv ?_
  obtain ⟨hg25,h⟩:=Ab h
  refine oV5 tt rfl hg25 ?_
  refine oV5 tt rfl Tvv ?_
  refine Ae ?_
  show ∃ _,_
  exact ⟨(i19+(1:Int)),(En.of ⟨rfl,rfl,Tvv⟩ trivial ⟨rfl,Tvv⟩),h⟩
 replace h:=Aj hb16 h
 refine Bq ?_
 show ∃ _,_
 exact ⟨(),(En.of ⟨rfl,Tvv⟩ trivial ⟨rfl,Tvv⟩),h⟩
def Co (N:Nat) (p_0:Pin) (k:(List Int)→Option (List Int)):Nat→((List Int)×Int)→Option (List Int)
 | 0,_=>none
 | n+1,(l17,i18)=>
  cnd (decide (i18<p_0.g.n)) (
   (Cj N p_0).bind fun v21=>
   cnd v21 (
    (Cw N p_0.ground i18).bind fun v22=>
    cnd (!v22) (
     grd (l17.length+1≤4294967296) <|
     grd (Bf (i18+(1:Int))) <|
     Co N p_0 k n ((l17++([i18]:List Int)),(i18+(1:Int)))) (
     grd (Bf (i18+(1:Int))) <|
     Co N p_0 k n (l17,(i18+(1:Int))))) (
    k l17)) (
   k l17)
def Fh (N:Nat) (p_0:Pin):Option (List Int):=
 Co N p_0 (fun (l11 : List Int) =>
    some l11) N (([]:List Int),(0:Int))
theorem Ke (N:Nat) (p_0:Pin) (r:List Int) (h:Fh N p_0=some r):PCall Try.prog 44 [pD p_0] [(3,.ints r)] (.row 0 0 r.length):=by
 unfold Fh at h
 refine Ah (TT:=TT) tt Try.func44 rfl rfl Try.ntmps44 (congrArg Array.toList Try.results44) rfl rfl fun w0=>?_
 refine Ag ?_
 refine Aa ?_
 refine Km rfl rfl rfl rfl rfl rfl rfl rfl rfl ?_
 refine oV5 tt rfl Tvv ?_
 refine Ae ?_
 show VC ..
 refine Ag ?_
 refine Aa ?_
 refine Fa tt (Ad rfl) rfl rfl rfl rfl ?_
 refine oV5 tt rfl Tvv ?_
 refine Ae ?_
 show VC ..
 iterate 2 refine Ag ?_
 refine Aa ?_
 refine oV5 tt rfl Tvv ?_
 refine Ae ?_
 show VC ..
 refine Ck (F:=fun k=>Co N p_0 k) h (α:=List Int) (J:=fun (l11:List Int)=>(⟨[(3,.row 25 0 l11.length)],[(25,some (3,.ints l11))],[]⟩:PS)) ?_ ?_
 ·rintro l11 h
  show VC _ _ _ (⟨[(3,.row 25 0 l11.length)],[(25,some (3,.ints l11))],[]⟩:PS)
  refine Ag ?_
  refine Aa ?_
  iterate 2 refine oV5 tt rfl Tvv ?_
  refine Ae ?_
  show VC ..
  refine Bb ?_
  show ∃ _,_
  cases h
  exact ⟨[25],_,rfl,⟨rfl,Tvv⟩,rfl,(.eq rfl),rfl⟩
 intro k h
 refine Aq ?_
 refine Md 3 25 3 (.ints []) rfl rfl rfl rfl ?_
 refine Bh (α:=(List Int)×Int) (fun | (l17,i18)=>(⟨[(1,.ptr 1 0),(3,.row 25 0 l17.length),(4,.int i18)],[(25,some (3,.ints l17))],[(1,some [.int p_0.g.n,.ro false (.pairs p_0.g.bars),.ro false (.ints p_0.ground)])]⟩:PS)) (Co N p_0 k) h (En.of ⟨rfl,rfl,rfl,Tvv⟩ ⟨rfl,Tvv⟩ ⟨rfl,Tvv⟩) (fun _=>rfl) ?_
 rintro n ⟨l17,i18⟩ h
 rw [Co] at h
 show VC _ _ _ (⟨[(1,.ptr 1 0),(3,.row 25 0 l17.length),(4,.int i18)],[(25,some (3,.ints l17))],[(1,some [.int p_0.g.n,.ro false (.pairs p_0.g.bars),.ro false (.ints p_0.ground)])]⟩:PS)
 iterate 2 refine Ag ?_
 refine Aa ?_
 iterate 6 refine oV5 tt rfl Tvv ?_
 refine Bc rfl rfl rfl (fun hb1=>?_) (fun hb1=>?_)
 ·replace h:=Ai hb1 h
  refine Bd tt rfl rfl rfl rfl rfl hb1 rfl rfl rfl Tvv ?_
  obtain ⟨v21,hc2,h⟩:=Ac h
  refine Fj (Hx N p_0 v21 hc2) rfl rfl rfl rfl hb1 rfl rfl rfl rfl rfl rfl rfl ⟨⟨rfl,rfl,rfl,Tvv⟩,Tvv⟩ ?_
  refine Be rfl rfl rfl rfl rfl hb1 rfl ?_
  refine Ae ?_
  show VC ..
  refine Au rfl (fun hb3=>?_) (fun hb3=>?_)
  ·replace h:=Ai hb3 h
   refine Ar ?_
   show VC ..
   refine Ag ?_
   refine Aq ?_
   refine Ag ?_
   refine Aa ?_
   iterate 3 refine oV5 tt rfl Tvv ?_
   obtain ⟨v22,hc4,h⟩:=Ac h
   refine Ba (Ct N p_0.ground i18 v22 hc4) rfl rfl rfl rfl rfl rfl rfl rfl ⟨rfl,rfl,Tvv⟩ ?_
   refine oV5 tt rfl Tvv ?_
   refine Ae ?_
   show VC ..
   refine Au rfl (fun hb5=>?_) (fun hb5=>?_)
   ·replace h:=Ai hb5 h
    refine Aa ?_
    iterate 2 refine oV5 tt rfl Tvv ?_
    refine Cv tt rfl rfl rfl rfl rfl rfl rfl rfl rfl rfl rfl ?_
    obtain ⟨hg6,h⟩:=Ab h
    refine Bp tt rfl rfl rfl rfl rfl rfl rfl rfl rfl rfl rfl rfl rfl rfl rfl rfl (Nat.le_of_eq (Nat.zero_add _)) hg6 ?_
    refine oV5 tt rfl Tvv ?_
    refine Ae ?_
    show VC ..
    refine Aa ?_
    refine oV5 tt rfl Tvv ?_
    obtain ⟨hg7,h⟩:=Ab h
    refine oV5 tt rfl hg7 ?_
    refine oV5 tt rfl Tvv ?_
    refine Ae ?_
    show ∃ _,_
    exact ⟨((l17++([i18]:List Int)),(i18+(1:Int))),(En.of ⟨rfl,rfl,rfl,Tvv⟩ ⟨rfl,Tvv⟩ ⟨rfl,Tvv⟩),h⟩
   replace h:=Aj hb5 h
   refine Ar ?_
   show VC ..
   refine Aa ?_
   refine oV5 tt rfl Tvv ?_
   obtain ⟨hg8,h⟩:=Ab h
   refine oV5 tt rfl hg8 ?_
   refine oV5 tt rfl Tvv ?_
   refine Ae ?_
   show ∃ _,_
   exact ⟨(l17,(i18+(1:Int))),(En.of ⟨rfl,rfl,rfl,Tvv⟩ ⟨rfl,Tvv⟩ ⟨rfl,Tvv⟩),h⟩
  replace h:=Aj hb3 h
  refine Bq ?_
  show ∃ _,_
  exact ⟨l17,(En.of ⟨rfl,Tvv⟩ ⟨rfl,Tvv⟩ trivial),h⟩
 replace h:=Aj hb1 h
 iterate 2 refine Jn rfl rfl rfl rfl hb1 rfl rfl ?_
 refine Av rfl rfl rfl rfl rfl hb1 rfl ?_
 refine Ae ?_
 show VC ..
 refine Cz rfl rfl ?_
 refine Bq ?_
 show ∃ _,_
 exact ⟨l17,(En.of ⟨rfl,Tvv⟩ ⟨rfl,Tvv⟩ trivial),h⟩
def Fv (N:Nat) (s_0:List Int) (v_1:Int) (k:Unit→Option (Int)):Nat→Int→Option (Int)
 | 0,_=>none
 | n+1,x3=>
  cnd (decide (x3<(s_0.length:Int))) (
   grd (0≤x3∧x3<(s_0.length:Int)) <|
   cnd (v_1==(s_0.getD ((x3).toNat) 0)) (
    some x3) (
    grd (Bf (x3+(1:Int))) <|
    Fv N s_0 v_1 k n (x3+(1:Int)))) (
   k ())
def Qp (N:Nat) (s_0:List Int) (v_1:Int):Option (Int):=
 Fv N s_0 v_1 (fun (_ : Unit) =>
    some (-1:Int)) N (0:Int)
theorem G_Index_int_w (N:Nat) (s_0:List Int) (v_1:Int) (r:Int) (h:Qp N s_0 v_1=some r):PCall Try.prog 176 [.ro false (.ints s_0),.int v_1] [] (.int r):=by
 unfold Qp at h
 refine Ah (TT:=TT) tt Try.func176 rfl rfl Try.ntmps176 (congrArg Array.toList Try.results176) rfl rfl fun w0=>?_
 refine Ag ?_
 refine Aa ?_
 refine oV5 tt rfl Tvv ?_
 refine Ae ?_
 show VC ..
 iterate 2 refine Ag ?_
 refine Aa ?_
 iterate 3 refine oV5 tt rfl Tvv ?_
 refine Ae ?_
 show VC ..
 refine Ck (F:=fun k=>Fv N s_0 v_1 k) h (α:=Unit) (J:=fun (_:Unit)=>(⟨[],[],[]⟩:PS)) ?_ ?_
 ·rintro ⟨⟩ h
  show VC _ _ _ (⟨[],[],[]⟩:PS)
  refine Ag ?_
  refine Aa ?_
  refine oV5 tt rfl Tvv ?_
  refine Ae ?_
  show VC ..
  refine Bb ?_
  show ∃ _,_
  cases h
  exact ⟨[],_,rfl,Tvv,rfl,(.eq rfl),rfl⟩
 intro k h
 refine Aq ?_
 refine Bh (α:=Int) (fun (x3:Int)=>(⟨[(0,.ro false (.ints s_0)),(1,.int v_1),(7,.int (s_0.length:Int)),(8,.int x3)],[],[]⟩:PS)) (Fv N s_0 v_1 k) h (En.of ⟨rfl,rfl,rfl,rfl,Tvv⟩ trivial trivial) (fun _=>rfl) ?_
 rintro n x3 h
 rw [Fv] at h
 show VC _ _ _ (⟨[(0,.ro false (.ints s_0)),(1,.int v_1),(7,.int (s_0.length:Int)),(8,.int x3)],[],[]⟩:PS)
 refine Ag ?_
 refine Aa ?_
 refine oV5 tt rfl Tvv ?_
 refine Ae ?_
 show VC ..
 refine Ag ?_
 refine Au rfl (fun hb1=>?_) (fun hb1=>?_)
 ·replace h:=Ai hb1 h
  refine Ar ?_
  show VC ..
  refine Ag ?_
  refine Aq ?_
  refine Ag ?_
  refine Aa ?_
  iterate 2 refine oV5 tt rfl Tvv ?_
  refine Ae ?_
  show VC ..
  refine Ag ?_
  refine Aa ?_
  iterate 3 refine oV5 tt rfl Tvv ?_
  obtain ⟨hg2,h⟩:=Ab h
  refine oV5 tt rfl hg2 ?_
  iterate 2 refine oV5 tt rfl Tvv ?_
  refine Ae ?_
  show VC ..
  refine Au rfl (fun hb3=>?_) (fun hb3=>?_)
  ·replace h:=Ai hb3 h
   refine Ag ?_
   refine Aa ?_
   iterate 2 refine oV5 tt rfl Tvv ?_
   refine Ae ?_
   show VC ..
   refine Bb ?_
   show ∃ _,_
   cases h
   exact ⟨[],_,rfl,Tvv,rfl,(.eq rfl),rfl⟩
  replace h:=Aj hb3 h
  refine Ar ?_
  show VC ..
  refine Aa ?_
  obtain ⟨hg4,h⟩:=Ab h
  refine oV5 tt rfl hg4 ?_
  refine oV5 tt rfl Tvv ?_
  refine Ae ?_
  show ∃ _,_
  exact ⟨(x3+(1:Int)),(En.of ⟨rfl,rfl,rfl,rfl,Tvv⟩ trivial trivial),h⟩
 replace h:=Aj hb1 h
 refine Bq ?_
 show ∃ _,_
 exact ⟨(),(En.of trivial trivial trivial),h⟩
end
section
open Go.RowKit
end
section
open Go.RowKit
def Cn (N:Nat) (s_0:List Int) (v_1:Int):Option (Bool):=
 (Qp N s_0 v_1).bind fun v1=>
 some (decide (v1≥(0:Int)))
theorem Ed (N:Nat) (s_0:List Int) (v_1:Int) (r:Bool) (h:Cn N s_0 v_1=some r):PCall Try.prog 119 [.ro false (.ints s_0),.int v_1] [] (.bool r):=by
 unfold Cn at h
 refine Ah (TT:=TT) tt Try.func119 rfl rfl Try.ntmps119 (congrArg Array.toList Try.results119) rfl rfl fun w0=>?_
 refine Ag ?_
 refine Aa ?_
 refine oV5 tt rfl Tvv ?_
 refine Ae ?_
 show VC ..
 refine Ag ?_
 refine Aa ?_
 iterate 2 refine oV5 tt rfl Tvv ?_
 obtain ⟨v1,hc1,h⟩:=Ac h
 refine Ba (G_Index_int_w N s_0 v_1 v1 hc1) rfl rfl rfl rfl rfl rfl rfl rfl ⟨rfl,rfl,Tvv⟩ ?_
 iterate 2 refine oV5 tt rfl Tvv ?_
 refine Ae ?_
 show VC ..
 refine Bb ?_
 show ∃ _,_
 cases h
 exact ⟨[],_,rfl,Tvv,rfl,(.eq rfl),rfl⟩
def Fl (N:Nat) (p_0:Pin) (k:Unit→Option (Bool)):Nat→Int→Option (Bool)
 | 0,_=>none
 | n+1,x17=>
  cnd (decide (x17<(p_0.g.bars.length:Int))) (
   grd (0≤x17∧x17<(p_0.g.bars.length:Int)) <|
   (Cn N p_0.ground ((p_0.g.bars.getD ((x17).toNat) (0,0)).1)).bind fun v20=>
   cnd v20 (
    (Cn N p_0.ground ((p_0.g.bars.getD ((x17).toNat) (0,0)).2)).bind fun v21=>
    cnd v21 (
     some false) (
     grd (Bf (x17+(1:Int))) <|
     Fl N p_0 k n (x17+(1:Int)))) (
    grd (Bf (x17+(1:Int))) <|
    Fl N p_0 k n (x17+(1:Int)))) (
   k ())
def Fp (N:Nat) (p_0:Pin) (k:Unit→Option (Bool)):Nat→Int→Option (Bool)
 | 0,_=>none
 | n+1,x24=>
  cnd (decide (x24<(p_0.ground.length:Int))) (
   grd (0≤x24∧x24<(p_0.ground.length:Int)) <|
   (Lc N p_0.g (p_0.ground.getD ((x24).toNat) 0)).bind fun v26=>
   cnd (!v26) (
    some false) (
    cnd (decide (x24 > (0:Int))) (
     grd (Bf (x24-(1:Int))) <|
     grd (0≤(x24-(1:Int))∧(x24-(1:Int))<(p_0.ground.length:Int)) <|
     cnd (decide ((p_0.ground.getD (((x24-(1:Int))).toNat) 0)≥(p_0.ground.getD ((x24).toNat) 0))) (
      some false) (
      grd (Bf (x24+(1:Int))) <|
      Fp N p_0 k n (x24+(1:Int)))) (
     grd (Bf (x24+(1:Int))) <|
     Fp N p_0 k n (x24+(1:Int))))) (
   k ())
def Hk (N:Nat) (p_0:Pin):Option (Bool):=
 (Rt N p_0.g).bind fun v1=>
 cnd (!v1) (
  some false) (
  (Lj N p_0.g).bind fun v2=>
  cnd v2 (
   some false) (
   cnd (decide ((p_0.ground.length:Int)<(2:Int))) (
    some false) (
    cnd (decide ((p_0.g.bars.length:Int) > (15:Int))) (
     some false) (
     grd (Bf ((2:Int)*(p_0.ground.length:Int))) <|
     grd (Bf ((p_0.g.bars.length:Int)+((2:Int)*(p_0.ground.length:Int)))) <|
     grd (Bf (((p_0.g.bars.length:Int)+((2:Int)*(p_0.ground.length:Int)))-(3:Int))) <|
     cnd (decide ((((p_0.g.bars.length:Int)+((2:Int)*(p_0.ground.length:Int)))-(3:Int)) > (24:Int))) (
      some false) (
      Fp N p_0 (fun (_ : Unit) =>
         Fl N p_0 (fun (_ : Unit) =>
            some true) N (0:Int)) N (0:Int))))))
theorem Ju (N:Nat) (p_0:Pin) (r:Bool) (h:Hk N p_0=some r):PCall Try.prog 74 [pD p_0] [] (.bool r):=by
 unfold Hk at h
 refine Ah (TT:=TT) tt Try.func74 rfl rfl Try.ntmps74 (congrArg Array.toList Try.results74) rfl rfl fun w0=>?_
 refine Ag ?_
 refine Aa ?_
 refine Km rfl rfl rfl rfl rfl rfl rfl rfl rfl ?_
 refine oV5 tt rfl Tvv ?_
 refine Ae ?_
 show VC ..
 refine Ag ?_
 refine Aa ?_
 iterate 2 refine oV5 tt rfl Tvv ?_
 refine Bj tt rfl rfl rfl rfl rfl rfl rfl rfl rfl ?_
 refine Ao tt rfl rfl rfl rfl rfl rfl rfl rfl rfl rfl rfl ⟨Tvv,Tvv,Tvv⟩ ?_
 refine Ae ?_
 show VC ..
 iterate 2 refine Ag ?_
 refine Aa ?_
 refine oV5 tt rfl Tvv ?_
 obtain ⟨v1,hc1,h⟩:=Ac h
 refine Ba (I_IsGraph_w N p_0.g v1 hc1) rfl rfl rfl rfl rfl rfl rfl rfl ⟨⟨rfl,rfl,Tvv⟩,Tvv⟩ ?_
 iterate 2 refine oV5 tt rfl Tvv ?_
 refine Bc rfl rfl rfl (fun hb2=>?_) (fun hb2=>?_)
 ·replace h:=Ai hb2 h
  iterate 2 refine Hm rfl rfl rfl rfl hb2 rfl rfl ?_
  refine Be rfl rfl rfl rfl rfl hb2 rfl ?_
  refine oV5 tt rfl Tvv ?_
  iterate 4 refine Hm rfl rfl rfl rfl rfl rfl rfl ?_
  refine Be rfl rfl rfl rfl rfl rfl rfl ?_
  refine oV5 tt rfl Tvv ?_
  iterate 4 refine Hm rfl rfl rfl rfl rfl rfl rfl ?_
  refine Be rfl rfl rfl rfl rfl rfl rfl ?_
  refine oV5 tt rfl Tvv ?_
  iterate 10 refine Hm rfl rfl rfl rfl rfl rfl rfl ?_
  refine Be rfl rfl rfl rfl rfl rfl rfl ?_
  refine Ae ?_
  show VC ..
  refine Bs rfl rfl ?_
  refine Ag ?_
  refine Aa ?_
  refine oV5 tt rfl Tvv ?_
  refine Ae ?_
  show VC ..
  refine Bb ?_
  show ∃ _,_
  cases h
  exact ⟨[],_,rfl,Tvv,rfl,(.eq rfl),rfl⟩
 replace h:=Aj hb2 h
 refine Bd tt rfl rfl rfl rfl rfl hb2 rfl rfl rfl Tvv ?_
 obtain ⟨v2,hc3,h⟩:=Ac h
 refine Fj (Aah N p_0.g v2 hc3) rfl rfl rfl rfl hb2 rfl rfl rfl rfl rfl rfl rfl ⟨⟨rfl,rfl,Tvv⟩,Tvv⟩ ?_
 refine Av rfl rfl rfl rfl rfl hb2 rfl ?_
 refine oV5 tt rfl Tvv ?_
 refine Bc rfl rfl rfl (fun hb4=>?_) (fun hb4=>?_)
 ·replace h:=Ai hb4 h
  iterate 4 refine Hm rfl rfl rfl rfl hb4 rfl rfl ?_
  refine Be rfl rfl rfl rfl rfl hb4 rfl ?_
  refine oV5 tt rfl Tvv ?_
  iterate 4 refine Hm rfl rfl rfl rfl rfl rfl rfl ?_
  refine Be rfl rfl rfl rfl rfl rfl rfl ?_
  refine oV5 tt rfl Tvv ?_
  iterate 10 refine Hm rfl rfl rfl rfl rfl rfl rfl ?_
  refine Be rfl rfl rfl rfl rfl rfl rfl ?_
  refine Ae ?_
  show VC ..
  refine Bs rfl rfl ?_
  refine Ag ?_
  refine Aa ?_
  refine oV5 tt rfl Tvv ?_
  refine Ae ?_
  show VC ..
  refine Bb ?_
  show ∃ _,_
  cases h
  exact ⟨[],_,rfl,Tvv,rfl,(.eq rfl),rfl⟩
 replace h:=Aj hb4 h
 iterate 4 refine Bd tt rfl rfl rfl rfl rfl hb4 rfl rfl rfl Tvv ?_
 refine Av rfl rfl rfl rfl rfl hb4 rfl ?_
 refine oV5 tt rfl Tvv ?_
 refine Bc rfl rfl rfl (fun hb5=>?_) (fun hb5=>?_)
 ·replace h:=Ai hb5 h
  iterate 4 refine Hm rfl rfl rfl rfl hb5 rfl rfl ?_
  refine Be rfl rfl rfl rfl rfl hb5 rfl ?_
  refine oV5 tt rfl Tvv ?_
  iterate 10 refine Hm rfl rfl rfl rfl rfl rfl rfl ?_
  refine Be rfl rfl rfl rfl rfl rfl rfl ?_
  refine Ae ?_
  show VC ..
  refine Bs rfl rfl ?_
  refine Ag ?_
  refine Aa ?_
  refine oV5 tt rfl Tvv ?_
  refine Ae ?_
  show VC ..
  refine Bb ?_
  show ∃ _,_
  cases h
  exact ⟨[],_,rfl,Tvv,rfl,(.eq rfl),rfl⟩
 replace h:=Aj hb5 h
 iterate 4 refine Bd tt rfl rfl rfl rfl rfl hb5 rfl rfl rfl Tvv ?_
 refine Av rfl rfl rfl rfl rfl hb5 rfl ?_
 refine oV5 tt rfl Tvv ?_
 refine Bc rfl rfl rfl (fun hb6=>?_) (fun hb6=>?_)
 ·replace h:=Ai hb6 h
  iterate 10 refine Hm rfl rfl rfl rfl hb6 rfl rfl ?_
  refine Be rfl rfl rfl rfl rfl hb6 rfl ?_
  refine Ae ?_
  show VC ..
  refine Bs rfl rfl ?_
  refine Ag ?_
  refine Aa ?_
  refine oV5 tt rfl Tvv ?_
  refine Ae ?_
  show VC ..
  refine Bb ?_
  show ∃ _,_
  cases h
  exact ⟨[],_,rfl,Tvv,rfl,(.eq rfl),rfl⟩
 replace h:=Aj hb6 h
 iterate 6 refine Bd tt rfl rfl rfl rfl rfl hb6 rfl rfl rfl Tvv ?_
 obtain ⟨hg7,h⟩:=Ab h
 refine Bd tt rfl rfl rfl rfl rfl hb6 rfl rfl rfl hg7 ?_
 obtain ⟨hg8,h⟩:=Ab h
 refine Bd tt rfl rfl rfl rfl rfl hb6 rfl rfl rfl hg8 ?_
 obtain ⟨hg9,h⟩:=Ab h
 refine Bd tt rfl rfl rfl rfl rfl hb6 rfl rfl rfl hg9 ?_
 refine Bd tt rfl rfl rfl rfl rfl hb6 rfl rfl rfl Tvv ?_
 refine Av rfl rfl rfl rfl rfl hb6 rfl ?_
 refine Ae ?_
 show VC ..
 refine Au rfl (fun hb10=>?_) (fun hb10=>?_)
 ·replace h:=Ai hb10 h
  refine Ag ?_
  refine Aa ?_
  refine oV5 tt rfl Tvv ?_
  refine Ae ?_
  show VC ..
  refine Bb ?_
  show ∃ _,_
  cases h
  exact ⟨[],_,rfl,Tvv,rfl,(.eq rfl),rfl⟩
 replace h:=Aj hb10 h
 refine Ar ?_
 show VC ..
 iterate 2 refine Ag ?_
 refine Aa ?_
 iterate 4 refine oV5 tt rfl Tvv ?_
 refine Ae ?_
 show VC ..
 refine Ck (F:=fun k=>Fp N p_0 k) h (α:=Unit) (J:=fun (_:Unit)=>(⟨[(1,.ptr 1 0),(3,.ptr 3 0)],[],[(1,some [.int p_0.g.n,.ro false (.pairs p_0.g.bars),.ro false (.ints p_0.ground)]),(3,some [.int p_0.g.n,.ro false (.pairs p_0.g.bars)])]⟩:PS)) ?_ ?_
 ·rintro ⟨⟩ h
  show VC _ _ _ (⟨[(1,.ptr 1 0),(3,.ptr 3 0)],[],[(1,some [.int p_0.g.n,.ro false (.pairs p_0.g.bars),.ro false (.ints p_0.ground)]),(3,some [.int p_0.g.n,.ro false (.pairs p_0.g.bars)])]⟩:PS)
  iterate 2 refine Ag ?_
  refine Aa ?_
  iterate 4 refine oV5 tt rfl Tvv ?_
  refine Ae ?_
  show VC ..
  refine Ck (F:=fun k=>Fl N p_0 k) h (α:=Unit) (J:=fun (_:Unit)=>(⟨[],[],[]⟩:PS)) ?_ ?_
  ·rintro ⟨⟩ h
   show VC _ _ _ (⟨[],[],[]⟩:PS)
   refine Ag ?_
   refine Aa ?_
   refine oV5 tt rfl Tvv ?_
   refine Ae ?_
   show VC ..
   refine Bb ?_
   show ∃ _,_
   cases h
   exact ⟨[],_,rfl,Tvv,rfl,(.eq rfl),rfl⟩
  intro k h
  refine Aq ?_
  refine Bh (α:=Int) (fun (x17:Int)=>(⟨[(1,.ptr 1 0),(69,.ro false (.pairs p_0.g.bars)),(70,.int (p_0.g.bars.length:Int)),(71,.int x17)],[],[(1,some [.int p_0.g.n,.ro false (.pairs p_0.g.bars),.ro false (.ints p_0.ground)])]⟩:PS)) (Fl N p_0 k) h (En.of ⟨rfl,rfl,rfl,rfl,Tvv⟩ trivial ⟨rfl,Tvv⟩) (fun _=>rfl) ?_
  rintro n x17 h
  rw [Fl] at h
  show VC _ _ _ (⟨[(1,.ptr 1 0),(69,.ro false (.pairs p_0.g.bars)),(70,.int (p_0.g.bars.length:Int)),(71,.int x17)],[],[(1,some [.int p_0.g.n,.ro false (.pairs p_0.g.bars),.ro false (.ints p_0.ground)])]⟩:PS)
  refine Ag ?_
  refine Aa ?_
  refine oV5 tt rfl Tvv ?_
  refine Ae ?_
  show VC ..
  refine Ag ?_
  refine Au rfl (fun hb11=>?_) (fun hb11=>?_)
  ·replace h:=Ai hb11 h
   refine Ar ?_
   show VC ..
   refine Ag ?_
   refine Aq ?_
   refine Ag ?_
   refine Aa ?_
   obtain ⟨hg12,h⟩:=Ab h
   refine oV5 tt rfl hg12 ?_
   refine oV5 tt rfl Tvv ?_
   refine Bj tt rfl rfl rfl rfl rfl rfl rfl rfl rfl ?_
   refine Ao tt rfl rfl rfl rfl rfl rfl rfl rfl rfl rfl rfl ⟨Tvv,Tvv,Tvv⟩ ?_
   refine Ae ?_
   show VC ..
   refine Ag ?_
   refine Aa ?_
   iterate 4 refine oV5 tt rfl Tvv ?_
   obtain ⟨v20,hc13,h⟩:=Ac h
   refine Ba (Ed N p_0.ground ((p_0.g.bars.getD ((x17).toNat) (0,0)).1) v20 hc13) rfl rfl rfl rfl rfl rfl rfl rfl ⟨rfl,rfl,Tvv⟩ ?_
   refine oV5 tt rfl Tvv ?_
   refine Bc rfl rfl rfl (fun hb14=>?_) (fun hb14=>?_)
   ·replace h:=Ai hb14 h
    iterate 4 refine Bd tt rfl rfl rfl rfl rfl hb14 rfl rfl rfl Tvv ?_
    obtain ⟨v21,hc15,h⟩:=Ac h
    refine Fj (Ed N p_0.ground ((p_0.g.bars.getD ((x17).toNat) (0,0)).2) v21 hc15) rfl rfl rfl rfl hb14 rfl rfl rfl rfl rfl rfl rfl ⟨rfl,rfl,Tvv⟩ ?_
    refine Be rfl rfl rfl rfl rfl hb14 rfl ?_
    refine Ae ?_
    show VC ..
    refine Au rfl (fun hb16=>?_) (fun hb16=>?_)
    ·replace h:=Ai hb16 h
     refine Ag ?_
     refine Aa ?_
     refine oV5 tt rfl Tvv ?_
     refine Ae ?_
     show VC ..
     refine Bb ?_
     show ∃ _,_
     cases h
     exact ⟨[],_,rfl,Tvv,rfl,(.eq rfl),rfl⟩
    replace h:=Aj hb16 h
    refine Ar ?_
    show VC ..
    refine Aa ?_
    obtain ⟨hg17,h⟩:=Ab h
    refine oV5 tt rfl hg17 ?_
    refine oV5 tt rfl Tvv ?_
    refine Ae ?_
    show ∃ _,_
    exact ⟨(x17+(1:Int)),(En.of ⟨rfl,rfl,rfl,rfl,Tvv⟩ trivial ⟨rfl,Tvv⟩),h⟩
   replace h:=Aj hb14 h
   iterate 5 refine Jn rfl rfl rfl rfl hb14 rfl rfl ?_
   refine Av rfl rfl rfl rfl rfl hb14 rfl ?_
   refine Ae ?_
   show VC ..
   refine Cz rfl rfl ?_
   refine Ar ?_
   show VC ..
   refine Aa ?_
   obtain ⟨hg18,h⟩:=Ab h
   refine oV5 tt rfl hg18 ?_
   refine oV5 tt rfl Tvv ?_
   refine Ae ?_
   show ∃ _,_
   exact ⟨(x17+(1:Int)),(En.of ⟨rfl,rfl,rfl,rfl,Tvv⟩ trivial ⟨rfl,Tvv⟩),h⟩
  replace h:=Aj hb11 h
  refine Bq ?_
  show ∃ _,_
  exact ⟨(),(En.of trivial trivial trivial),h⟩
 intro k h
 refine Aq ?_
 refine Bh (α:=Int) (fun (x24:Int)=>(⟨[(1,.ptr 1 0),(3,.ptr 3 0),(42,.ro false (.ints p_0.ground)),(43,.int (p_0.ground.length:Int)),(44,.int x24)],[],[(1,some [.int p_0.g.n,.ro false (.pairs p_0.g.bars),.ro false (.ints p_0.ground)]),(3,some [.int p_0.g.n,.ro false (.pairs p_0.g.bars)])]⟩:PS)) (Fp N p_0 k) h (En.of ⟨rfl,rfl,rfl,rfl,rfl,Tvv⟩ trivial ⟨rfl,rfl,Tvv⟩) (fun _=>rfl) ?_
 rintro n x24 h
 rw [Fp] at h
 show VC _ _ _ (⟨[(1,.ptr 1 0),(3,.ptr 3 0),(42,.ro false (.ints p_0.ground)),(43,.int (p_0.ground.length:Int)),(44,.int x24)],[],[(1,some [.int p_0.g.n,.ro false (.pairs p_0.g.bars),.ro false (.ints p_0.ground)]),(3,some [.int p_0.g.n,.ro false (.pairs p_0.g.bars)])]⟩:PS)
 refine Ag ?_
 refine Aa ?_
 refine oV5 tt rfl Tvv ?_
 refine Ae ?_
 show VC ..
 refine Ag ?_
 refine Au rfl (fun hb19=>?_) (fun hb19=>?_)
 ·replace h:=Ai hb19 h
  refine Ar ?_
  show VC ..
  refine Ag ?_
  refine Aq ?_
  refine Ag ?_
  refine Aa ?_
  refine oV5 tt rfl Tvv ?_
  obtain ⟨hg20,h⟩:=Ab h
  refine oV5 tt rfl hg20 ?_
  iterate 3 refine oV5 tt rfl Tvv ?_
  refine Ae ?_
  show VC ..
  refine Ag ?_
  refine Aa ?_
  iterate 2 refine oV5 tt rfl Tvv ?_
  obtain ⟨v26,hc21,h⟩:=Ac h
  refine Ba (Wg N p_0.g (p_0.ground.getD ((x24).toNat) 0) v26 hc21) rfl rfl rfl rfl rfl rfl rfl rfl ⟨⟨rfl,rfl,Tvv⟩,rfl,Tvv⟩ ?_
  iterate 2 refine oV5 tt rfl Tvv ?_
  refine Bc rfl rfl rfl (fun hb22=>?_) (fun hb22=>?_)
  ·replace h:=Ai hb22 h
   iterate 3 refine Hm rfl rfl rfl rfl hb22 rfl rfl ?_
   iterate 8 refine oNoU rfl rfl rfl rfl rfl ?_
   refine Hm rfl rfl rfl rfl hb22 rfl rfl ?_
   refine Be rfl rfl rfl rfl rfl hb22 rfl ?_
   refine Ae ?_
   show VC ..
   refine Bs rfl rfl ?_
   refine Ag ?_
   refine Aa ?_
   refine oV5 tt rfl Tvv ?_
   refine Ae ?_
   show VC ..
   refine Bb ?_
   show ∃ _,_
   cases h
   exact ⟨[],_,rfl,Tvv,rfl,(.eq rfl),rfl⟩
  replace h:=Aj hb22 h
  iterate 3 refine Bd tt rfl rfl rfl rfl rfl hb22 rfl rfl rfl Tvv ?_
  refine Bc rfl rfl rfl (fun hb23=>?_) (fun hb23=>?_)
  ·replace h:=Ai hb23 h
   iterate 3 refine Bd tt rfl rfl rfl rfl rfl hb23 rfl rfl rfl Tvv ?_
   obtain ⟨hg24,h⟩:=Ab h
   refine Bd tt rfl rfl rfl rfl rfl hb23 rfl rfl rfl hg24 ?_
   obtain ⟨hg25,h⟩:=Ab h
   refine Bd tt rfl rfl rfl rfl rfl hb23 rfl rfl rfl hg25 ?_
   iterate 3 refine Bd tt rfl rfl rfl rfl rfl hb23 rfl rfl rfl Tvv ?_
   refine oPickGT rfl rfl rfl rfl hb22 rfl rfl rfl rfl hb23 rfl ?_
   refine Av rfl rfl rfl rfl rfl hb22 rfl ?_
   refine Ae ?_
   show VC ..
   refine Au rfl (fun hb26=>?_) (fun hb26=>?_)
   ·replace h:=Ai hb26 h
    refine Ag ?_
    refine Aa ?_
    refine oV5 tt rfl Tvv ?_
    refine Ae ?_
    show VC ..
    refine Bb ?_
    show ∃ _,_
    cases h
    exact ⟨[],_,rfl,Tvv,rfl,(.eq rfl),rfl⟩
   replace h:=Aj hb26 h
   refine Ar ?_
   show VC ..
   refine Aa ?_
   obtain ⟨hg27,h⟩:=Ab h
   refine oV5 tt rfl hg27 ?_
   refine oV5 tt rfl Tvv ?_
   refine Ae ?_
   show ∃ _,_
   exact ⟨(x24+(1:Int)),(En.of ⟨rfl,rfl,rfl,rfl,rfl,Tvv⟩ trivial ⟨rfl,rfl,Tvv⟩),h⟩
  replace h:=Aj hb23 h
  iterate 8 refine Jn rfl rfl rfl rfl hb23 rfl rfl ?_
  refine oPickGF rfl rfl rfl rfl hb22 rfl rfl rfl rfl hb23 rfl ?_
  refine Av rfl rfl rfl rfl rfl hb22 rfl ?_
  refine Ae ?_
  show VC ..
  refine Cz rfl rfl ?_
  refine Ar ?_
  show VC ..
  refine Aa ?_
  obtain ⟨hg28,h⟩:=Ab h
  refine oV5 tt rfl hg28 ?_
  refine oV5 tt rfl Tvv ?_
  refine Ae ?_
  show ∃ _,_
  exact ⟨(x24+(1:Int)),(En.of ⟨rfl,rfl,rfl,rfl,rfl,Tvv⟩ trivial ⟨rfl,rfl,Tvv⟩),h⟩
 replace h:=Aj hb19 h
 refine Bq ?_
 show ∃ _,_
 exact ⟨(),(En.of ⟨rfl,rfl,Tvv⟩ trivial ⟨rfl,rfl,Tvv⟩),h⟩
def He (N:Nat) (p_0:Pin) (v_1:Int):Option (Bool):=
 (Lc N p_0.g v_1).bind fun v1=>
 cnd v1 (
  (Cn N p_0.ground v_1).bind fun v2=>
  some (!v2)) (
  some false)
theorem Vy (N:Nat) (p_0:Pin) (v_1:Int) (r:Bool) (h:He N p_0 v_1=some r):PCall Try.prog 118 [pD p_0,.int v_1] [] (.bool r):=by
 unfold He at h
 refine Ah (TT:=TT) tt Try.func118 rfl rfl Try.ntmps118 (congrArg Array.toList Try.results118) rfl rfl fun w0=>?_
 refine Ag ?_
 refine Aa ?_
 refine Km rfl rfl rfl rfl rfl rfl rfl rfl rfl ?_
 refine oV5 tt rfl Tvv ?_
 refine Ae ?_
 show VC ..
 refine Ag ?_
 refine Aa ?_
 iterate 3 refine oV5 tt rfl Tvv ?_
 obtain ⟨v1,hc1,h⟩:=Ac h
 refine Ba (Wg N p_0.g v_1 v1 hc1) rfl rfl rfl rfl rfl rfl rfl rfl ⟨⟨rfl,rfl,Tvv⟩,rfl,Tvv⟩ ?_
 refine oV5 tt rfl Tvv ?_
 refine Bc rfl rfl rfl (fun hb2=>?_) (fun hb2=>?_)
 ·replace h:=Ai hb2 h
  iterate 3 refine Bd tt rfl rfl rfl rfl rfl hb2 rfl rfl rfl Tvv ?_
  obtain ⟨v2,hc3,h⟩:=Ac h
  refine Fj (Ed N p_0.ground v_1 v2 hc3) rfl rfl rfl rfl hb2 rfl rfl rfl rfl rfl rfl rfl ⟨rfl,rfl,Tvv⟩ ?_
  refine Bd tt rfl rfl rfl rfl rfl hb2 rfl rfl rfl Tvv ?_
  refine Be rfl rfl rfl rfl rfl hb2 rfl ?_
  refine oV5 tt rfl Tvv ?_
  refine Ae ?_
  show VC ..
  refine Bb ?_
  show ∃ _,_
  cases h
  exact ⟨[],_,rfl,Tvv,rfl,(.eq rfl),rfl⟩
 replace h:=Aj hb2 h
 iterate 5 refine Jn rfl rfl rfl rfl hb2 rfl rfl ?_
 refine Av rfl rfl rfl rfl rfl hb2 rfl ?_
 refine oV5 tt rfl Tvv ?_
 refine Ae ?_
 show VC ..
 refine Bb ?_
 show ∃ _,_
 cases h
 exact ⟨[],_,rfl,Tvv,rfl,(.eq rfl),rfl⟩
def Dh (N:Nat) (p_0:Pin) (k:(List Int)→Option (List Int)):Nat→((List Int)×Int)→Option (List Int)
 | 0,_=>none
 | n+1,(l12,x13)=>
  cnd (decide (x13<p_0.g.n)) (
   (Cn N p_0.ground x13).bind fun v15=>
   cnd (!v15) (
    grd (l12.length+1≤4294967296) <|
    grd (Bf (x13+(1:Int))) <|
    Dh N p_0 k n ((l12++([x13]:List Int)),(x13+(1:Int)))) (
    grd (Bf (x13+(1:Int))) <|
    Dh N p_0 k n (l12,(x13+(1:Int))))) (
   k l12)
def Gz (N:Nat) (p_0:Pin):Option (List Int):=
 (Hk N p_0).bind fun v1=>
 cnd (!v1) (
  some ([]:List Int)) (
  Dh N p_0 (fun (l8 : List Int) =>
     some l8) N (([]:List Int),(0:Int)))
theorem Mq (N:Nat) (p_0:Pin) (r:List Int) (h:Gz N p_0=some r):PCall Try.prog 77 [pD p_0] [(3,.ints r)] (.row 0 0 r.length):=by
 unfold Gz at h
 refine Ah (TT:=TT) tt Try.func77 rfl rfl Try.ntmps77 (congrArg Array.toList Try.results77) rfl rfl fun w0=>?_
 refine Ag ?_
 refine Aa ?_
 refine Km rfl rfl rfl rfl rfl rfl rfl rfl rfl ?_
 refine oV5 tt rfl Tvv ?_
 refine Ae ?_
 show VC ..
 refine Ag ?_
 refine Aa ?_
 refine Fa tt (Ad rfl) rfl rfl rfl rfl ?_
 refine oV5 tt rfl Tvv ?_
 refine Ae ?_
 show VC ..
 iterate 2 refine Ag ?_
 refine Aa ?_
 refine oV5 tt rfl Tvv ?_
 obtain ⟨v1,hc1,h⟩:=Ac h
 refine Ba (Ju N p_0 v1 hc1) rfl rfl rfl rfl rfl rfl rfl rfl ⟨⟨rfl,rfl,rfl,Tvv⟩,Tvv⟩ ?_
 refine oV5 tt rfl Tvv ?_
 refine Ae ?_
 show VC ..
 refine Au rfl (fun hb2=>?_) (fun hb2=>?_)
 ·replace h:=Ai hb2 h
  refine Ag ?_
  refine Aa ?_
  iterate 2 refine oV5 tt rfl Tvv ?_
  refine Ae ?_
  show VC ..
  refine Md 2 9001 3 (.ints []) rfl rfl rfl rfl ?_
  refine Bb ?_
  show ∃ _,_
  cases h
  exact ⟨[9001],_,rfl,⟨rfl,Tvv⟩,rfl,(.eq rfl),rfl⟩
 replace h:=Aj hb2 h
 refine Ar ?_
 show VC ..
 iterate 2 refine Ag ?_
 refine Aa ?_
 iterate 4 refine oV5 tt rfl Tvv ?_
 refine Ae ?_
 show VC ..
 refine Ck (F:=fun k=>Dh N p_0 k) h (α:=List Int) (J:=fun (l8:List Int)=>(⟨[(3,.row 24 0 l8.length)],[(24,some (3,.ints l8))],[]⟩:PS)) ?_ ?_
 ·rintro l8 h
  show VC _ _ _ (⟨[(3,.row 24 0 l8.length)],[(24,some (3,.ints l8))],[]⟩:PS)
  refine Ag ?_
  refine Aa ?_
  iterate 2 refine oV5 tt rfl Tvv ?_
  refine Ae ?_
  show VC ..
  refine Bb ?_
  show ∃ _,_
  cases h
  exact ⟨[24],_,rfl,⟨rfl,Tvv⟩,rfl,(.eq rfl),rfl⟩
 intro k h
 refine Aq ?_
 refine Md 3 24 3 (.ints []) rfl rfl rfl rfl ?_
 refine Bh (α:=(List Int)×Int) (fun | (l12,x13)=>(⟨[(1,.ptr 1 0),(3,.row 24 0 l12.length),(12,.int p_0.g.n),(13,.int x13)],[(24,some (3,.ints l12))],[(1,some [.int p_0.g.n,.ro false (.pairs p_0.g.bars),.ro false (.ints p_0.ground)])]⟩:PS)) (Dh N p_0 k) h (En.of ⟨rfl,rfl,rfl,rfl,Tvv⟩ ⟨rfl,Tvv⟩ ⟨rfl,Tvv⟩) (fun _=>rfl) ?_
 rintro n ⟨l12,x13⟩ h
 rw [Dh] at h
 show VC _ _ _ (⟨[(1,.ptr 1 0),(3,.row 24 0 l12.length),(12,.int p_0.g.n),(13,.int x13)],[(24,some (3,.ints l12))],[(1,some [.int p_0.g.n,.ro false (.pairs p_0.g.bars),.ro false (.ints p_0.ground)])]⟩:PS)
 refine Ag ?_
 refine Aa ?_
 refine oV5 tt rfl Tvv ?_
 refine Ae ?_
 show VC ..
 refine Ag ?_
 refine Au rfl (fun hb3=>?_) (fun hb3=>?_)
 ·replace h:=Ai hb3 h
  refine Ar ?_
  show VC ..
  refine Ag ?_
  refine Aq ?_
  refine Ag ?_
  refine Aa ?_
  iterate 2 refine oV5 tt rfl Tvv ?_
  refine Ae ?_
  show VC ..
  refine Ag ?_
  refine Aa ?_
  iterate 3 refine oV5 tt rfl Tvv ?_
  obtain ⟨v15,hc4,h⟩:=Ac h
  refine Ba (Ed N p_0.ground x13 v15 hc4) rfl rfl rfl rfl rfl rfl rfl rfl ⟨rfl,rfl,Tvv⟩ ?_
  refine oV5 tt rfl Tvv ?_
  refine Ae ?_
  show VC ..
  refine Au rfl (fun hb5=>?_) (fun hb5=>?_)
  ·replace h:=Ai hb5 h
   refine Aa ?_
   iterate 2 refine oV5 tt rfl Tvv ?_
   refine Cv tt rfl rfl rfl rfl rfl rfl rfl rfl rfl rfl rfl ?_
   obtain ⟨hg6,h⟩:=Ab h
   refine Bp tt rfl rfl rfl rfl rfl rfl rfl rfl rfl rfl rfl rfl rfl rfl rfl rfl (Nat.le_of_eq (Nat.zero_add _)) hg6 ?_
   refine oV5 tt rfl Tvv ?_
   refine Ae ?_
   show VC ..
   refine Aa ?_
   obtain ⟨hg7,h⟩:=Ab h
   refine oV5 tt rfl hg7 ?_
   refine oV5 tt rfl Tvv ?_
   refine Ae ?_
   show ∃ _,_
   exact ⟨((l12++([x13]:List Int)),(x13+(1:Int))),(En.of ⟨rfl,rfl,rfl,rfl,Tvv⟩ ⟨rfl,Tvv⟩ ⟨rfl,Tvv⟩),h⟩
  replace h:=Aj hb5 h
  refine Ar ?_
  show VC ..
  refine Aa ?_
  obtain ⟨hg8,h⟩:=Ab h
  refine oV5 tt rfl hg8 ?_
  refine oV5 tt rfl Tvv ?_
  refine Ae ?_
  show ∃ _,_
  exact ⟨(l12,(x13+(1:Int))),(En.of ⟨rfl,rfl,rfl,rfl,Tvv⟩ ⟨rfl,Tvv⟩ ⟨rfl,Tvv⟩),h⟩
 replace h:=Aj hb3 h
 refine Bq ?_
 show ∃ _,_
 exact ⟨l12,(En.of ⟨rfl,Tvv⟩ ⟨rfl,Tvv⟩ trivial),h⟩
end
end Go.Proofs.Ytcljhpldfanhkaa
