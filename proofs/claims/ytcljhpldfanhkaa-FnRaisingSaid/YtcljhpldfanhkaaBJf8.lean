/- Texts that the proof needs, put together: Qr Ph G19 G20 Pj Pk Er Pu Qc G73 G75 G12 G3 G64 G65 G66 G67 G74 G76 G77 G78 G101 G105 G110 G112 Rc Da Qs Db M22. -/
import Derived.Test.YtcljhpldfanhkaaBJf3
import Derived.Test.YtcljhpldfanhkaaBJf4
import Derived.Test.YtcljhpldfanhkaaBJf5
import Derived.Test.YtcljhpldfanhkaaBJf6
import Derived.Test.YtcljhpldfanhkaaBJf7
set_option maxRecDepth 20000
set_option maxHeartbeats 1600000
set_option linter.unusedVariables false
set_option linter.unusedSimpArgs false
namespace Go.Proofs.Ytcljhpldfanhkaa
section
variable {N:Nat}
def Cd (p:Pin):List (Int×List Int)→List Int→List Int
 | [],d=>d
 | r::l,d=>cnd (Ho p d ⟨r.1,r.2⟩) (Cd p l (d++[r.1])) d
theorem Su (p:Pin):∀ (l:List (Int×List Int)) (d:List Int),(Cd p l d).length≤d.length+l.length
 | [],d=>by simp [Cd]
 | r::l,d=>by
  rw [Cd]
  cases Ho p d ⟨r.1,r.2⟩
  ·rw [cnd_false]; omega
  rw [cnd_true]
  have:=Su p l (d++[r.1])
  simp at this ⊢; omega
theorem raisedS_l (hN:4000000≤N) {p:Pin} (hb:p.g.bars.length≤3000000) (hg:p.ground.length≤3000000) {l:List (Int×List Int)} (hl:Dr l≤1048576):∀ (n i:Nat) (d:List Int),i≤l.length→l.length<n+i→d.length≤i →
  Dm N p l (fun x=>some x) n (d,(i:Int))=some (Cd p (l.drop i) d):=by
 have hll:l.length≤1048576:=by unfold Dr at hl; omega
 intro n
 induction n with
 | zero=>intro i d h1 h2; omega
 | succ n ih=>
  intro i d h1 h2 h3
  rw [Dm]
  by_cases hi:i<l.length
  ·have hgt:l.getD i (0,[])=l[i]:=by simp [hi]
   have e:((i:Int)).toNat=i:=by omega
   have hbr:(l[i]).2.length≤1048576:=by have:=Zw (List.getElem_mem hi); omega
   have gi:0≤(i:Int)∧(i:Int)<(l.length:Int):=by omega
   have gd:d.length+1≤4294967296:=by omega
   rw [Al (by omega),Af gi,e,hgt,Abh N hN hb hg (dn:=d) (by omega) (r:=⟨(l[i]).1,(l[i]).2⟩) (by show (l[i]).2.length≤3000000; omega),Option.bind_some,List.drop_eq_getElem_cons hi,Cd]
   cases Ho p d ⟨(l[i]).1,(l[i]).2⟩
   ·rfl
   rw [Bool.not_true,cnd_false,cnd_true,Af gd,At (by omega) (by omega),Am]
   exact ih (i+1) _ (by omega) (by omega) (by simp; omega)
  rw [Ak (by omega),List.drop_of_length_le (by omega)]
  rfl
theorem raisedI_l (hN:4000000≤N) {p:Pin} (hb:p.g.bars.length≤3000000) (hg:p.ground.length≤3000000) {l:List (Int×List Int)} (hl:Dr l≤1048576):∀ (n i:Nat) (d:List Int),i≤l.length→l.length<n+i→d.length≤i →
  Dl N p l (fun x=>some x) n (d,(i:Int))=some (Cd p (l.drop i) d):=by
 have hll:l.length≤1048576:=by unfold Dr at hl; omega
 intro n
 induction n with
 | zero=>intro i d h1 h2; omega
 | succ n ih=>
  intro i d h1 h2 h3
  rw [Dl]
  by_cases hi:i<l.length
  ·have hgt:l.getD i (0,[])=l[i]:=by simp [hi]
   have e:((i:Int)).toNat=i:=by omega
   have hbr:(l[i]).2.length≤1048576:=by have:=Zw (List.getElem_mem hi); omega
   have gi:0≤(i:Int)∧(i:Int)<(l.length:Int):=by omega
   have gd:d.length+1≤4294967296:=by omega
   rw [Al (by omega),Af gi,e,hgt,Sb N hN hb hg (dn:=d) (by omega) (r:=⟨(l[i]).1,(l[i]).2⟩) (by show (l[i]).2.length≤3000000; omega),Option.bind_some,List.drop_eq_getElem_cons hi,Cd]
   cases Ho p d ⟨(l[i]).1,(l[i]).2⟩
   ·rfl
   rw [Bool.not_true,cnd_false,cnd_true,Af gd,At (by omega) (by omega),Am]
   exact ih (i+1) _ (by omega) (by omega) (by simp; omega)
  rw [Ak (by omega),List.drop_of_length_le (by omega)]
  rfl
theorem raisedS_s (hN:4000000≤N) {p:Pin} (hb:p.g.bars.length≤3000000) (hg:p.ground.length≤3000000) {l:List (Int×List Int)} (hl:Dr l≤1048576):Ek N p l=some (Cd p l []):=by
 have hll:l.length≤1048576:=by unfold Dr at hl; omega
 exact raisedS_l hN hb hg hl N 0 [] (by omega) (by omega) (by simp)
theorem Wh (hN:4000000≤N) {p:Pin} (hb:p.g.bars.length≤3000000) (hg:p.ground.length≤3000000) {l:List (Int×List Int)} (hl:Dr l≤1048576):Em N p l=some (Cd p l []):=by
 have hll:l.length≤1048576:=by unfold Dr at hl; omega
 exact raisedI_l hN hb hg hl N 0 [] (by omega) (by omega) (by simp)
def Fn (l:List (Int×List Int)) (i:Nat):Nat:=((l.drop i).map fun x=>x.2.length).sum
theorem Vw {l:List (Int×List Int)} {i:Nat} (h:i<l.length):Fn l i=(l[i]).2.length+Fn l (i+1):=by
 unfold Fn; rw [List.drop_eq_getElem_cons h,List.map_cons,List.sum_cons]
theorem raisingS_l {l:List (Int×List Int)} (hl:l.length≤1048576) (k:Int→Option Bool):∀ (n i:Nat) (s:Int),i≤l.length→l.length<n+i→0≤s→s+Fn l i≤1048576 →
  Eo N l k n (s,(i:Int))=k (s+Fn l i):=by
 intro n
 induction n with
 | zero=>intro i s h1 h2; omega
 | succ n ih=>
  intro i s h1 h2 h3 h4
  rw [Eo]
  by_cases hi:i<l.length
  ·have hgt:l.getD i (0,[])=l[i]:=by simp [hi]
   have e:((i:Int)).toNat=i:=by omega
   have gi:0≤(i:Int)∧(i:Int)<(l.length:Int):=by omega
   have hs:=Vw hi
   rw [Al (by omega),Af gi,e,hgt,At (x:=s+((l[i]).2.length:Int)) (by omega) (by omega),At (by omega) (by omega),Am,ih (i+1) _ (by omega) (by omega) (by omega) (by omega),hs]
   congr 1; omega
  rw [Ak (by omega)]
  have:Fn l i=0:=by unfold Fn; rw [List.drop_of_length_le (by omega)]; rfl
  rw [this]; congr 1; omega
theorem raisingI_l {l:List (Int×List Int)} (hl:l.length≤1048576) (k:Int→Option Bool):∀ (n i:Nat) (s:Int),i≤l.length→l.length<n+i→0≤s→s+Fn l i≤1048576 →
  El N l k n (s,(i:Int))=k (s+Fn l i):=by
 intro n
 induction n with
 | zero=>intro i s h1 h2; omega
 | succ n ih=>
  intro i s h1 h2 h3 h4
  rw [El]
  by_cases hi:i<l.length
  ·have hgt:l.getD i (0,[])=l[i]:=by simp [hi]
   have e:((i:Int)).toNat=i:=by omega
   have gi:0≤(i:Int)∧(i:Int)<(l.length:Int):=by omega
   have hs:=Vw hi
   rw [Al (by omega),Af gi,e,hgt,At (x:=s+((l[i]).2.length:Int)) (by omega) (by omega),At (by omega) (by omega),Am,ih (i+1) _ (by omega) (by omega) (by omega) (by omega),hs]
   congr 1; omega
  rw [Ak (by omega)]
  have:Fn l i=0:=by unfold Fn; rw [List.drop_of_length_le (by omega)]; rfl
  rw [this]; congr 1; omega
theorem Zd {l:List (Int×List Int)} (hl:Dr l≤1048576):Fn l 0≤1048576:=by
 unfold Dr at hl; unfold Fn; rw [List.drop_zero]; omega
theorem raisingS_0 (hN:4000000≤N) {l:List (Int×List Int)} (hl:Dr l≤1048576) (k:Int→Option Bool):Eo N l k N ((0:Int),(0:Int))=k (Fn l 0):=by
 have hll:l.length≤1048576:=by unfold Dr at hl; omega
 have hb:=Zd hl
 refine (raisingS_l (N:=N) hll k N 0 0 (by omega) (by omega) (by omega) (by omega)).trans ?_
 congr 1; omega
theorem Wq (hN:4000000≤N) {l:List (Int×List Int)} (hl:Dr l≤1048576) (k:Int→Option Bool):El N l k N ((0:Int),(0:Int))=k (Fn l 0):=by
 have hll:l.length≤1048576:=by unfold Dr at hl; omega
 have hb:=Zd hl
 refine (raisingI_l (N:=N) hll k N 0 0 (by omega) (by omega) (by omega) (by omega)).trans ?_
 congr 1; omega
theorem raising_x (hN:4000000≤N) {p:Pin} (hb:p.g.bars.length≤3000000) (hg:p.ground.length≤3000000) {l:List (Int×List Int)} (hl:Dr l≤1048576):∃ b:Bool,Gw N p l=some b∧Db N p l=some b:=by
 unfold Gw Db
 rw [raisingS_0 hN hl,Wq hN hl]
 rw [raisedS_s hN hb hg hl,Bw N hN hb hg,Sd N hN hb hg,Wh hN hb hg hl,Eu N hN hb hg,Si N hN hb hg]
 simp only [Option.bind_some]
 cases Az p
 ·exact ⟨false,rfl,rfl⟩
 rw [cnd_true,cnd_true]
 by_cases hq:((Cd p l []).length:Int)=(l.length:Int)
 ·rw [hq]
  cases ((l.length:Int)==(l.length:Int)) <;> cases ((l.length:Int)==((Aw p).length:Int)) <;> exact ⟨_,rfl,rfl⟩
 rw [Kj hq,Kj hq]
 exact ⟨false,rfl,rfl⟩
end
section
variable (N:Nat)
end
section
open Go.RowKit
def Fo (N:Nat) (g_0:Grf) (keep_1:List Int) (k:(List (Int×Int))→Option (Grf)):Nat→((List (Int×Int))×Int)→Option (Grf)
 | 0,_=>none
 | n+1,(l13,i14)=>
  cnd (decide (i14<(g_0.bars.length:Int))) (
   (Cw N keep_1 i14).bind fun v16=>
   cnd v16 (
    grd (0≤i14∧i14<(g_0.bars.length:Int)) <|
    grd (l13.length+1≤4294967296) <|
    grd (Bf (i14+(1:Int))) <|
    Fo N g_0 keep_1 k n ((l13++([((g_0.bars.getD ((i14).toNat) (0,0)).1,(g_0.bars.getD ((i14).toNat) (0,0)).2)]:List (Int×Int))),(i14+(1:Int)))) (
    grd (Bf (i14+(1:Int))) <|
    Fo N g_0 keep_1 k n (l13,(i14+(1:Int))))) (
   k l13)
def Px (N:Nat) (g_0:Grf) (keep_1:List Int):Option (Grf):=
 Fo N g_0 keep_1 (fun (l8 : List (Int × Int)) =>
    some (⟨g_0.n,l8⟩:Grf)) N (([]:List (Int×Int)),(0:Int))
theorem S_OnlyBars_w (N:Nat) (g_0:Grf) (keep_1:List Int) (r:Grf) (h:Px N g_0 keep_1=some r):PCall Try.prog 20 [gD g_0,.ro false (.ints keep_1)] [(111,.pairs r.bars)] (.agg [.int r.n,.row 0 0 r.bars.length]):=by
 unfold Px at h
 refine Ah (TT:=TT) tt Try.func20 rfl rfl Try.ntmps20 (congrArg Array.toList Try.results20) rfl rfl fun w0=>?_
 refine Ag ?_
 refine Aa ?_
 refine Km rfl rfl rfl rfl rfl rfl rfl rfl rfl ?_
 refine Bj tt rfl rfl rfl rfl rfl rfl rfl rfl rfl ?_
 refine Ae ?_
 show VC ..
 refine Ag ?_
 refine Aa ?_
 iterate 2 refine oV5 tt rfl Tvv ?_
 refine Fa tt (Ad rfl) rfl rfl rfl rfl ?_
 refine Du (Ad rfl) (Dp Gb rfl rfl) rfl rfl ?_
 refine Bj tt rfl rfl rfl rfl rfl rfl rfl rfl rfl ?_
 refine Ao tt rfl rfl rfl rfl rfl rfl rfl rfl rfl rfl rfl ⟨Tvv,Tvv,Tvv⟩ ?_
 refine Ae ?_
 show VC ..
 iterate 2 refine Ag ?_
 refine Aa ?_
 refine oV5 tt rfl Tvv ?_
 refine Ae ?_
 show VC ..
 refine Ck (F:=fun k=>Fo N g_0 keep_1 k) h (α:=List (Int×Int)) (J:=fun (l8:List (Int×Int))=>(⟨[(4,.ptr 4 0),(5,.ptr 5 0)],[(29,some (111,.pairs l8))],[(4,some [.int (0:Int),.nil]),(5,some [.int g_0.n,.row 29 0 l8.length])]⟩:PS)) ?_ ?_
 ·rintro l8 h
  show VC _ _ _ (⟨[(4,.ptr 4 0),(5,.ptr 5 0)],[(29,some (111,.pairs l8))],[(4,some [.int (0:Int),.nil]),(5,some [.int g_0.n,.row 29 0 l8.length])]⟩:PS)
  refine Ag ?_
  refine Aa ?_
  refine oV5 tt rfl Tvv ?_
  refine Ao tt rfl rfl rfl rfl rfl rfl rfl rfl rfl rfl rfl ⟨Tvv,Tvv,Tvv⟩ ?_
  refine Ae ?_
  show VC ..
  refine Bb ?_
  show ∃ _,_
  cases h
  exact ⟨[29],_,rfl,⟨rfl,Tvv⟩,rfl,(.eq rfl),rfl⟩
 intro k h
 refine Aq ?_
 refine Xh 5 1 29 111 (.pairs []) rfl rfl rfl rfl rfl ?_
 refine Bh (α:=(List (Int×Int))×Int) (fun | (l13,i14)=>(⟨[(1,.ro false (.ints keep_1)),(2,.ptr 2 0),(4,.ptr 4 0),(5,.ptr 5 0),(6,.int i14)],[(29,some (111,.pairs l13))],[(2,some [.int g_0.n,.ro false (.pairs g_0.bars)]),(4,some [.int (0:Int),.nil]),(5,some [.int g_0.n,.row 29 0 l13.length])]⟩:PS)) (Fo N g_0 keep_1 k) h (En.of ⟨rfl,rfl,rfl,rfl,rfl,Tvv⟩ ⟨rfl,Tvv⟩ ⟨rfl,rfl,rfl,Tvv⟩) (fun _=>rfl) ?_
 rintro n ⟨l13,i14⟩ h
 rw [Fo] at h
 show VC _ _ _ (⟨[(1,.ro false (.ints keep_1)),(2,.ptr 2 0),(4,.ptr 4 0),(5,.ptr 5 0),(6,.int i14)],[(29,some (111,.pairs l13))],[(2,some [.int g_0.n,.ro false (.pairs g_0.bars)]),(4,some [.int (0:Int),.nil]),(5,some [.int g_0.n,.row 29 0 l13.length])]⟩:PS)
 iterate 2 refine Ag ?_
 refine Aa ?_
 iterate 5 refine oV5 tt rfl Tvv ?_
 refine Ae ?_
 show VC ..
 refine Au rfl (fun hb1=>?_) (fun hb1=>?_)
 ·replace h:=Ai hb1 h
  refine Ar ?_
  show VC ..
  refine Ag ?_
  refine Aq ?_
  refine Ag ?_
  refine Aa ?_
  iterate 2 refine oV5 tt rfl Tvv ?_
  obtain ⟨v16,hc2,h⟩:=Ac h
  refine Ba (Ct N keep_1 i14 v16 hc2) rfl rfl rfl rfl rfl rfl rfl rfl ⟨rfl,rfl,Tvv⟩ ?_
  refine Ae ?_
  show VC ..
  refine Au rfl (fun hb3=>?_) (fun hb3=>?_)
  ·replace h:=Ai hb3 h
   refine Bl 8 [7] [0,1,0,4,0,28,60,124,255,511,1023] (by kernel_rfl) (by kernel_rfl) (by kernel_rfl) (by kernel_rfl) (by kernel_rfl) rfl (by rfl) ?_
   iterate 5 refine Bo tt rfl (Ad rfl) rfl rfl rfl rfl rfl Tvv ?_
   obtain ⟨hg4,h⟩:=Ab h
   refine Bo tt rfl (Ad rfl) rfl rfl rfl rfl rfl hg4 ?_
   refine Bo tt rfl (Ad rfl) rfl rfl rfl rfl rfl Tvv ?_
   refine Zu tt (Ad rfl) rfl rfl rfl rfl rfl rfl rfl rfl rfl rfl rfl rfl ?_
   refine Lt ?_
   show VO _ _ _ _ _
   obtain ⟨hg5,h⟩:=Ab h
   refine Bp tt rfl rfl rfl rfl rfl rfl rfl rfl rfl rfl rfl rfl rfl rfl rfl rfl (Nat.le_of_eq (Nat.zero_add _)) hg5 ?_
   refine oV5 tt rfl Tvv ?_
   refine Ao tt rfl rfl rfl rfl rfl rfl rfl rfl rfl rfl rfl ⟨Tvv,Tvv⟩ ?_
   refine Ae ?_
   show VC ..
   refine Aa ?_
   refine oV5 tt rfl Tvv ?_
   obtain ⟨hg6,h⟩:=Ab h
   refine oV5 tt rfl hg6 ?_
   refine oV5 tt rfl Tvv ?_
   refine Ae ?_
   show ∃ _,_
   exact ⟨((l13++([((g_0.bars.getD ((i14).toNat) (0,0)).1,(g_0.bars.getD ((i14).toNat) (0,0)).2)]:List (Int×Int))),(i14+(1:Int))),(En.of ⟨rfl,rfl,rfl,rfl,rfl,Tvv⟩ ⟨rfl,Tvv⟩ ⟨rfl,rfl,rfl,Tvv⟩),h⟩
  replace h:=Aj hb3 h
  refine Ar ?_
  show VC ..
  refine Aa ?_
  refine oV5 tt rfl Tvv ?_
  obtain ⟨hg7,h⟩:=Ab h
  refine oV5 tt rfl hg7 ?_
  refine oV5 tt rfl Tvv ?_
  refine Ae ?_
  show ∃ _,_
  exact ⟨(l13,(i14+(1:Int))),(En.of ⟨rfl,rfl,rfl,rfl,rfl,Tvv⟩ ⟨rfl,Tvv⟩ ⟨rfl,rfl,rfl,Tvv⟩),h⟩
 replace h:=Aj hb1 h
 refine Bq ?_
 show ∃ _,_
 exact ⟨l13,(En.of ⟨rfl,rfl,Tvv⟩ ⟨rfl,Tvv⟩ ⟨rfl,rfl,Tvv⟩),h⟩
end
section
open Go.RowKit
end
section
variable (N:Nat)
end
section
variable (N:Nat)
def sel {α:Type} (f:Nat→α) (q:Nat→Bool) (i:Nat):List α:=((List.range i).filter q).map f
theorem sel_succ {α:Type} (f:Nat→α) (q:Nat→Bool) (i:Nat):sel f q (i+1)=cnd (q i) (sel f q i++[f i]) (sel f q i):=by
 unfold sel
 rw [List.range_succ,List.filter_append,List.map_append]
 cases h:q i <;> simp [h]
theorem sel_len {α:Type} (f:Nat→α) (q:Nat→Bool) (i:Nat):(sel f q i).length≤i:=by
 unfold sel
 rw [List.length_map]
 exact Nat.le_trans (List.length_filter_le ..) (by simp)
def brAt (bars:List (Int×Int)) (i:Nat):Int×Int:=bars.getD i (0,0)
def onlyB (bars:List (Int×Int)) (keep:List Int):List (Int×Int):=sel (brAt bars) (fun i=>keep.contains (i:Int)) bars.length
theorem onlyS_s (hN:4000000≤N) {g:Grf} (hb:g.bars.length≤3000000) {l:List Int} (hl:l.length≤3000000):Px N g l=some ⟨g.n,onlyB g.bars l⟩:=by
 unfold Px
 refine (fold (len:=g.bars.length) (st:=sel (brAt g.bars) fun i=>l.contains (i:Int)) (by omega) ?_ ?_)
 ·intro n i hi
  have hl:=sel_len (brAt g.bars) (fun i=>l.contains (i:Int)) i
  rw [Fo]
  simp (disch:=omega) only [Int.toNat_natCast,tk0,List.length_cons,List.length_nil,Af,Ay,At,Al,Ak,cnd_true,cnd_false,Option.bind_some,Ln N hN (by assumption),Am,sel_succ]
  cases l.contains (i:Int)
  ·simp (disch:=omega) only [Int.toNat_natCast,tk0,List.length_cons,List.length_nil,Af,Ay,At,Al,Ak,cnd_true,cnd_false,Option.bind_some]
  simp (disch:=omega) only [Int.toNat_natCast,tk0,List.length_cons,List.length_nil,Af,Ay,At,Al,Ak,cnd_true,cnd_false,Option.bind_some]; rfl
 intro n
 rw [Fo]
 simp (disch:=omega) only [Int.toNat_natCast,tk0,List.length_cons,List.length_nil,Af,Ay,At,Al,Ak,cnd_true,cnd_false,Option.bind_some]
 rfl
end
section
open Go.RowKit
variable {n:Nat} {N:Nat}
def Jo (p:Pin):List Int→List (Int×List Int)→Prop
 | _,[]=>True
 | d,r::l=>Ho p d ⟨r.1,r.2⟩=true∧Jo p (d++[r.1]) l
def RsAll (p:Pin):List Int→List (Int×List Int)→Prop
 | _,[]=>True
 | d,r::l=>r.2=Gl p d r.1∧RsAll p (d++[r.1]) l
theorem St {p:Pin}:∀ (l:List (Int×List Int)) (d:List Int),(Cd p l d).length=d.length+l.length→Jo p d l
 | [],_,_=>trivial
 | r::l,d,h=>by
  rw [Cd] at h
  cases hk:Ho p d ⟨r.1,r.2⟩ with
  | false=>rw [hk,cnd_false] at h; simp at h
  | true=>
   rw [hk,cnd_true] at h
   exact ⟨hk,St l _ (by rw [h]; simp; omega)⟩
theorem Wd {p:Pin}:∀ (l:List (Int×List Int)) (d:List Int),Jo p d l→Cd p l d=d++l.map Prod.fst
 | [],d,_=>by rw [Cd]; simp
 | r::l,d,h=>by
  rw [Cd,h.1,cnd_true,Wd l _ h.2,List.map_cons,List.append_assoc]; rfl
theorem Ki {p:Pin} {d:List Int} {v:Int} {B:List Int} (h:Ho p d ⟨v,B⟩=true):Az p=true∧Wo p v=true∧d.contains v=false∧2≤B.length∧∀ i,i<B.length→Ka p d ⟨v,B⟩ i=true:=by
 simp only [Ho,Bool.and_eq_true,Bool.not_eq_true',decide_eq_true_eq,List.all_eq_true,List.mem_range] at h
 exact ⟨h.1,h.2.1,h.2.2.1,h.2.2.2.1,h.2.2.2.2⟩
theorem run_rs {p:Pin} (hp:Az p=true) {l:List Int} (hin:∀ v∈l,Wo p v=true):∀ (k:Nat) (O:List (Int×List Int)) (D:List Int),∃ R,Br p l k (O,D)=(O++R,D++R.map Prod.fst)∧Jo p D R∧RsAll p D R
 | 0,O,D=>⟨[],by simp [Br],Tvv,Tvv⟩
 | k+1,O,D=>by
  rw [Br]
  cases hf:l.find? (upOk p D) with
  | none=>exact ⟨[],by simp,Tvv,Tvv⟩
  | some v=>
   have hv:=List.mem_of_find?_eq_some hf
   have hu:=List.find?_some hf
   obtain ⟨R,h1,h2,h3⟩:=run_rs hp hin k (O++[(v,Gl p D v)]) (D++[v])
   refine ⟨(v,Gl p D v)::R,?_,⟨?_,h2⟩,⟨rfl,h3⟩⟩
   ·show Br p l k (O++[(v,Gl p D v)],D++[v])=_
    rw [h1]; simp
   rw [←hu]; exact Abd hp (hin v hv)
theorem Yi {p:Pin}:∀ {R:List (Int×List Int)} {D:List Int},Jo p D R→D.Nodup→(∀ v∈D,Wo p v=true)→(D++R.map Prod.fst).Nodup∧∀ v∈D++R.map Prod.fst,Wo p v=true
 | [],D,_,h1,h2=>by simpa using ⟨h1,h2⟩
 | r::R,D,h,h1,h2=>by
  obtain ⟨_,q1,q2,_⟩:=Ki h.1
  have hn:r.1∉D:=fun hh=>by
   have:D.contains r.1=true:=by simpa using hh
   rw [q2] at this; cases this
  have:=Yi (R:=R) (D:=D++[r.1]) h.2 (by
   rw [List.nodup_append]
   exact ⟨h1,by simp,fun a ha b hb=>by simp at hb; subst hb; exact fun e=>hn (e ▸ ha)⟩) fun v hv=>by
    rcases List.mem_append.1 hv with hv | hv
    ·exact h2 v hv
    simp at hv; subst hv; exact q1
  rw [List.append_assoc] at this
  exact this
theorem countP_idx {α:Type} (q:α→Bool) (d:α) (l:List α):(List.range l.length).countP (fun i=>q (l.getD i d))=l.countP q:=by
 have e:(List.range l.length).map (fun i=>l.getD i d)=l:=by
  apply List.ext_getElem
  ·simp
  intro i h1 h2
  simp [List.getD_eq_getElem?_getD,h2]
 have:=congrArg (List.countP q) e
 rw [List.countP_map] at this
 exact this
def ready (p:Pin) (D:List Int):Nat:=p.g.bars.countP (Pq (p.ground++D))
theorem barsOf_count {p:Pin} {D:List Int} {v:Int}:(Gl p D v).length=p.g.bars.countP fun e=>Ey e v&&(p.ground.contains (Bm e v) || D.contains (Bm e v)):=by
 unfold Gl Mo
 rw [←List.countP_eq_length_filter,List.countP_map,←countP_idx _ (0,0)]
 refine List.countP_congr fun i hi=>?_
 have:=holdP_at (p:=p) (dn:=D) (v:=v) (i:=i) (List.mem_range.1 hi)
 simp only [Function.comp_apply]
 rw [show (Int.ofNat i)=(i:Int) from rfl,this]
theorem Pj (a b:List Int) (x:Int):(a++b).contains x=(a.contains x || b.contains x):=by
 rw [Bool.eq_iff_iff,Bool.or_eq_true,List.contains_iff_mem,List.contains_iff_mem,List.contains_iff_mem,List.mem_append]
theorem ready_step {p:Pin} (hp:Az p=true) {D:List Int} {v:Int} (hv:Wo p v=true) (hd:D.contains v=false):ready p (D++[v])=ready p D+(Gl p D v).length:=by
 rw [barsOf_count]
 unfold ready
 have hg:p.ground.contains v=false:=by
  unfold Wo at hv
  simp only [Bool.and_eq_true,Bool.not_eq_true'] at hv
  exact hv.2
 have hlt:∀ e∈p.g.bars,e.1≠e.2:=fun e he=>by
  have:=Fw (Cy hp).1 he
  omega
 have h:=Lx (Pq (p.ground++D)) (fun e=>Ey e v&&(p.ground.contains (Bm e v) || D.contains (Bm e v))) p.g.bars
 have h0:p.g.bars.countP (fun x=>Pq (p.ground++D) x&&(Ey x v&&(p.ground.contains (Bm x v) || D.contains (Bm x v))))=0:=by
  rw [List.countP_eq_zero]
  intro e he
  simp only [Pq,Ey,Bool.and_eq_true,Bool.or_eq_true,beq_iff_eq,Pj]
  rintro ⟨⟨h1,h2⟩,h3 | h3,h4⟩
  ·rw [h3,hg,hd] at h1; simp at h1
  rw [h3,hg,hd] at h2; simp at h2
 have h1:p.g.bars.countP (fun x=>Pq (p.ground++D) x || (Ey x v&&(p.ground.contains (Bm x v) || D.contains (Bm x v))))=p.g.bars.countP (Pq (p.ground++(D++[v]))):=by
  refine List.countP_congr fun e he=>?_
  have hne:=hlt e he
  rw [Bool.eq_iff_iff.symm]
  simp only [Pq,Ey,Bm,Pj]
  have s:∀ x:Int,([v]:List Int).contains x=(x==v):=fun x=>by
   rw [Bool.eq_iff_iff,List.contains_iff_mem]; simp
  rw [s,s]
  by_cases e1:e.1=v
  ·have e2:e.2≠v:=fun h=>hne (e1.trans h.symm)
   have b2:(e.2==v)=false:=by simpa using e2
   rw [e1,hg,hd,b2]
   simp [cnd]
  by_cases e2:e.2=v
  ·have b1:(e.1==v)=false:=by simpa using e1
   rw [e2,hg,hd,b1,cnd_false]
   simp
  have b1:(e.1==v)=false:=by simpa using e1
  have b2:(e.2==v)=false:=by simpa using e2
  rw [b1,b2]; simp
 rw [h0,h1] at h
 omega
theorem bars_sum {p:Pin} (hp:Az p=true):∀ {R:List (Int×List Int)} {D:List Int},Jo p D R→RsAll p D R→ready p D+(R.map fun x=>x.2.length).sum=ready p (D++R.map Prod.fst)
 | [],D,_,_=>by simp
 | r::R,D,h,g=>by
  obtain ⟨_,q1,q2,_⟩:=Ki h.1
  have ih:=bars_sum hp (R:=R) (D:=D++[r.1]) h.2 g.2
  have:=ready_step hp q1 q2
  rw [List.append_assoc] at ih
  rw [List.map_cons,List.sum_cons,List.map_cons,g.1]
  show _=ready p (D++([r.1]++R.map Prod.fst))
  rw [←ih]
  omega
theorem all_inner {p:Pin} (hp:Az p=true) {D:List Int} (hd:D.Nodup) (hi:∀ v∈D,Wo p v=true) (hl:D.length=(Aw p).length):∀ v,Wo p v=true→v∈D:=by
 intro v hv
 have mem:∀ x,Wo p x=true→x∈Aw p:=fun x hx=>by
  have:=Rq hp x
  rw [hx] at this
  simpa using this
 apply Classical.byContradiction
 intro hn
 have:=Jg (L:=Aw p) (List.nodup_cons.2 ⟨hn,hd⟩) fun x hx=>by
  rcases List.mem_cons.1 hx with rfl | hx
  ·exact mem _ hv
  exact mem _ (hi x hx)
 rw [List.length_cons] at this
 omega
theorem ready_nil {p:Pin} (hp:Az p=true):ready p []=0:=by
 unfold ready
 rw [List.countP_eq_zero]
 intro e he
 have:=List.all_eq_true.1 (Cy hp).2.2.2.2.2.2 e he
 rw [List.append_nil]
 simpa using this
theorem ready_all {p:Pin} (hp:Az p=true) {D:List Int} (h:∀ v,Wo p v=true→v∈D):ready p D=p.g.bars.length:=by
 unfold ready
 rw [List.countP_eq_length]
 intro e he
 have hb:=Fw (Cy hp).1 he
 have key:∀ x:Int,0≤x→x<p.g.n→(p.ground++D).contains x=true:=fun x h0 h1=>by
  rw [Pj]
  cases hg:p.ground.contains x with
  | true=>rfl
  | false=>
   have:Wo p x=true:=by unfold Wo; rw [hg,inB_true.2 (by omega)]; rfl
   have:=h x this
   simpa using this
 unfold Pq
 rw [key _ (by omega) (by omega),key _ (by omega) (by omega)]; rfl
def Wp (n:Nat) (I:List (Int×Int)) (S:List Int):Prop:=∀ a b,a∈S→b∈S→a≠b→Tied n I (a,b)
theorem Za {p:Pin} {D:List Int} {v e:Int} (h:Tb p D v e=true):0≤e∧e<(p.g.bars.length:Int)∧Ey (p.g.bars.getD e.toNat (0,0)) v=true∧Bm (p.g.bars.getD e.toNat (0,0)) v∈p.ground++D:=by
 simp only [Tb,Bool.and_eq_true,Bool.or_eq_true] at h
 have h1:=inB_true.1 h.1
 refine ⟨h1.1,by omega,h.2.1,List.mem_append.2 ?_⟩
 rcases h.2.2 with h | h
 ·exact .inl (by simpa using h)
 exact .inr (by simpa using h)
theorem Aa6 {b:Int×Int} {v:Int} (h:Ey b v=true):(b.1=v∧Bm b v=b.2)∨(b.2=v∧Bm b v=b.1):=by
 unfold Ey at h
 unfold Bm
 by_cases e:b.1=v
 ·left; exact ⟨e,by rw [Pc e]⟩
 right
 have b1:(b.1==v)=false:=by simpa using e
 rw [b1] at h ⊢
 exact ⟨by simpa using h,by rw [cnd_false]⟩
theorem Xz {p:Pin} {v:Int} (h:Wo p v=true):0≤v∧v<p.g.n∧p.ground.contains v=false:=by
 unfold Wo at h
 simp only [Bool.and_eq_true,Bool.not_eq_true'] at h
 have:=inB_true.1 h.1
 exact ⟨by omega,by omega,h.2⟩
theorem rs_tied {p q:Pin} (hp:Az p=true) {LH LS H I:List (Int×Int)} {t:Nat→Bool} (h:PF N n q LH LS H I t) (hg:q.ground=p.ground) (hn:q.g.n=p.g.n):∀ {R:List (Int×List Int)} {D:List Int},Jo p D R→(∀ v∈D,Wo p v=true)→(∀ r∈R,∀ e∈r.2,p.g.bars.getD e.toNat (0,0)∈q.g.bars)→Wp n I (p.ground++D)→Wp n I (p.ground++(D++R.map Prod.fst))
 | [],D,_,_,_,ht=>by simpa using ht
 | r::R,D,hR,hD,hq,ht=>by
  obtain ⟨_,q1,q2,q3,q4⟩:=Ki hR.1
  have hpn:=h.pn
  have hI:=h.bI.spr
  have ok:=h.okI
  have rg:∀ x∈p.ground++D,0≤x∧x<(n:Int):=fun x hx=>by
   rcases List.mem_append.1 hx with hx | hx
   ·obtain ⟨i,hi,e⟩:=List.mem_iff_getElem.1 hx
    have:=h.hG i (by rw [hg]; exact hi)
    rw [hg,List.getD_eq_getElem?_getD,List.getElem?_eq_getElem hi,Option.getD_some,e] at this
    exact this
   have:=Xz (hD x hx)
   omega
  have hv:=Xz q1
  have hvS:r.1∉p.ground++D:=fun hx=>by
   have:(p.ground++D).contains r.1=true:=by simpa using hx
   rw [Pj,hv.2.2,q2] at this
   cases this
  have bar:∀ i,i<r.2.length→∃ u,u∈p.ground++D∧Tied n I (u,r.1)∧(p.g.bars.getD (r.2.getD i 0).toNat (0,0)=(r.1,u)∨p.g.bars.getD (r.2.getD i 0).toNat (0,0)=(u,r.1))∧0≤r.2.getD i 0∧r.2.getD i 0<(p.g.bars.length:Int):=fun i hi=>by
   have h1:=q4 i hi
   simp only [Ka,Bool.and_eq_true] at h1
   obtain ⟨a1,a2,a3,a4⟩:=Za h1.1
   have hm:r.2.getD i 0∈r.2:=by rw [List.getD_eq_getElem?_getD,List.getElem?_eq_getElem hi]; exact List.getElem_mem hi
   have hqb:=hq r (by simp) _ hm
   have htied:Tied n I (p.g.bars.getD (r.2.getD i 0).toNat (0,0)):=h.bI.spn _ ((h.mem _).2 (.inr hqb))
   refine ⟨_,a4,?_,?_,a1,a2⟩
   ·rcases Aa6 a3 with ⟨e1,e2⟩ | ⟨e1,e2⟩
    ·rw [e2]
     rw [show p.g.bars.getD (r.2.getD i 0).toNat (0,0)=(r.1,(p.g.bars.getD (r.2.getD i 0).toNat (0,0)).2) from Prod.ext e1 rfl] at htied
     exact htied.swap
    rw [e2]
    rw [show p.g.bars.getD (r.2.getD i 0).toNat (0,0)=((p.g.bars.getD (r.2.getD i 0).toNat (0,0)).1,r.1) from Prod.ext rfl e1] at htied
    exact htied
   rcases Aa6 a3 with ⟨e1,e2⟩ | ⟨e1,e2⟩
   ·left; rw [e2]; exact Prod.ext e1 rfl
   right; rw [e2]; exact Prod.ext rfl e1
  obtain ⟨u0,m0,t0,s0,b0,c0⟩:=bar 0 (by omega)
  obtain ⟨u1,m1,t1,s1,b1,c1⟩:=bar 1 (by omega)
  have hlt:r.2.getD 0 0<r.2.getD 1 0:=by
   have h1:=q4 1 (by omega)
   simp only [Ka,Bool.and_eq_true,Bool.or_eq_true,decide_eq_true_eq] at h1
   rcases h1.2 with h2 | h2
   ·omega
   exact h2
  have huu:u0≠u1:=fun e=>by
   subst e
   obtain ⟨p1,p2,_⟩:=Cy hp
   have hnd:=Zj p1 p2
   have g0:(r.2.getD 0 0).toNat<p.g.bars.length:=by omega
   have g1:(r.2.getD 1 0).toNat<p.g.bars.length:=by omega
   have k0:=Fw p1 (p:=p.g.bars.getD (r.2.getD 0 0).toNat (0,0)) (by rw [List.getD_eq_getElem?_getD,List.getElem?_eq_getElem g0]; exact List.getElem_mem g0)
   have k1:=Fw p1 (p:=p.g.bars.getD (r.2.getD 1 0).toNat (0,0)) (by rw [List.getD_eq_getElem?_getD,List.getElem?_eq_getElem g1]; exact List.getElem_mem g1)
   have e2:p.g.bars.getD (r.2.getD 0 0).toNat (0,0)=p.g.bars.getD (r.2.getD 1 0).toNat (0,0):=by
    rcases s0 with s0 | s0 <;> rcases s1 with s1 | s1
    ·rw [s0,s1]
    ·rw [s0] at k0; rw [s1] at k1; simp only at k0 k1; omega
    ·rw [s0] at k0; rw [s1] at k1; simp only at k0 k1; omega
    rw [s0,s1]
   have:=(List.pairwise_iff_getElem.1 hnd) (r.2.getD 0 0).toNat (r.2.getD 1 0).toNat g0 g1 (by omega)
   have gx:∀ k (hk:k<p.g.bars.length),p.g.bars.getD k (0,0)=p.g.bars[k]:=fun k hk=>by
    rw [List.getD_eq_getElem?_getD,List.getElem?_eq_getElem hk]; rfl
   rw [gx _ g0,gx _ g1] at e2
   exact this e2
  have new:∀ b∈p.ground++D,Tied n I (r.1,b):=fun b hb=>by
   by_cases e0:b=u0
   ·subst e0; exact t0.swap
   by_cases e1:b=u1
   ·subst e1; exact t1.swap
   have ru0:=rg u0 m0
   have ru1:=rg u1 m1
   have rb:=rg b hb
   exact Tied.via hI ok ru0 ru1 ⟨hv.1,by omega⟩ rb huu (fun e=>hvS (e ▸ m0)) (fun e=>hvS (e ▸ m1)) (fun e=>e0 e.symm) (fun e=>e1 e.symm) (ht u0 u1 m0 m1 huu) t0 t1 (ht u0 b m0 hb (fun e=>e0 e.symm)) (ht u1 b m1 hb (fun e=>e1 e.symm))
  have ht':Wp n I (p.ground++(D++[r.1])):=fun a b ha hb hab=>by
   rw [←List.append_assoc] at ha hb
   rcases List.mem_append.1 ha with ha | ha
   ·rcases List.mem_append.1 hb with hb | hb
    ·exact ht a b ha hb hab
    simp at hb; subst hb; exact (new a ha).swap
   simp at ha; subst ha
   rcases List.mem_append.1 hb with hb | hb
   ·exact new b hb
   simp at hb; exact absurd hb.symm hab
  have:=rs_tied hp h hg hn (R:=R) (D:=D++[r.1]) hR.2 (fun v hv=>by
   rcases List.mem_append.1 hv with hv | hv
   ·exact hD v hv
   simp at hv; subst hv; exact q1) (fun r' hr'=>hq r' (by simp [hr'])) ht'
  rw [List.append_assoc] at this
  exact this
theorem PF.tied_ground {q:Pin} {LH LS H I:List (Int×Int)} {t:Nat→Bool} (h:PF N n q LH LS H I t):Wp n I q.ground:=fun a b ha hb hab=>by
 obtain ⟨i,hi,rfl⟩:=List.mem_iff_getElem.1 ha
 obtain ⟨j,hj,rfl⟩:=List.mem_iff_getElem.1 hb
 have e:∀ k (hk:k<q.ground.length),q.ground.getD k 0=q.ground[k]:=fun k hk=>by
  rw [List.getD_eq_getElem?_getD,List.getElem?_eq_getElem hk]; rfl
 rw [←e i hi,←e j hj] at hab ⊢
 by_cases h1:i<j
 ·exact h.tie_ground h1 hj
 by_cases h2:j<i
 ·exact (h.tie_ground h2 hi).swap
 have:i=j:=by omega
 subst this
 exact absurd rfl hab
theorem PF.steady_of {q:Pin} {LH LS H I:List (Int×Int)} {t:Nat→Bool} (h:PF N n q LH LS H I t) {S:List Int} (ht:Wp n I (q.ground++S)) {v:Int} (hv:v∈q.ground++S) (hr:0≤v∧v<(n:Int)):t v.toNat=true:=by
 have g2:=h.g2
 have gm:∀ i,i<q.ground.length→q.ground.getD i 0∈q.ground++S:=fun i hi=>by
  rw [List.getD_eq_getElem?_getD,List.getElem?_eq_getElem hi]
  exact List.mem_append.2 (.inl (List.getElem_mem hi))
 rw [h.tt v.toNat (by omega),show ((v.toNat:Nat):Int)=v by omega]
 have one:∀ i,i<q.ground.length→q.ground.getD i 0=v∨Tied n I (q.ground.getD i 0,v):=fun i hi=>by
  by_cases e:q.ground.getD i 0=v
  ·exact .inl e
  exact .inr (ht _ _ (gm i hi) hv e)
 exact ⟨one 0 (by omega),one 1 (by omega)⟩
theorem PF.rigid_of {q:Pin} {LH LS H I:List (Int×Int)} {t:Nat→Bool} (h:PF N n q LH LS H I t) {S:List Int} (ht:Wp n I (q.ground++S)) (hall:∀ v,Wo q v=true→v∈S):Da N q=some true:=by
 have hpn:=h.pn
 have:=(stl_len (t:=t) (k:=n) (v:=0)).2.2 fun i _ hi=>by
  have hm:(i:Int)∈q.ground++S:=by
   rw [List.mem_append]
   cases hg:q.ground.contains (i:Int) with
   | true=>exact .inl (by simpa using hg)
   | false=>exact .inr (hall _ (by unfold Wo; rw [hg,inB_true.2 (by omega)]; rfl))
  have:=h.steady_of ht hm (by omega)
  rwa [Int.toNat_natCast] at this
 have:=h.all.1 this
 unfold Da
 rw [h.fr,Option.bind_some,this]; rfl
theorem Tt (hN:4000000≤N) {p:Pin} (hb:p.g.bars.length≤3000000) (hg:p.ground.length≤3000000):∃ (l:List (Int×List Int)) (b:Bool),l.length≤8∧(∀ x∈l,x.2.length≤15)∧Eh N p=some (l,b)∧Ft N p=some (l,b)∧Jo p [] l∧(b=true→Az p=true∧l.length=(Aw p).length∧RsAll p [] l):=by
 unfold Eh Ft
 rw [Sd N hN hb hg,Eu N hN hb hg,Option.bind_some,Option.bind_some]
 have hl:=Xq (p:=p)
 cases hp:Az p with
 | false=>
  refine ⟨[],false,by simp,by simp,?_,rfl,Tvv,fun h=>by cases h⟩
  have h0:Aw p=[]:=by unfold Aw; rw [hp]; rfl
  rw [h0]
  obtain ⟨m,rfl⟩:∃ m,N=m+1:=⟨N-1,by omega⟩
  rw [By,Ak (by simp)]
  show (Cj _ p).bind _=_
  rw [Bw _ hN hb hg,hp]; rfl
 | true=>
  rw [Bool.not_true,cnd_false,Si N hN hb hg,Option.bind_some]
  have hc:Rb (Aw p) []=(Aw p).length:=by
   unfold Rb
   rw [List.countP_eq_length]
   intro v _; rfl
  have h1:=raiseS_s (N:=N) hN hp hl (k:=fun (x:(List (Int×List Int))×(List Int))=>
   match x with
   | (l91,l92)=>
    (Cj N p).bind fun v93=>
    cnd (!v93) (
     some (([]:List (Int×List Int)),false)) (
     cnd (decide ((l92.length:Int)<((Aw p).length:Int))) (
      some (([]:List (Int×List Int)),false)) (
      some (l91,true)))) N 0 ([],[]) (by omega) (by omega) (by simp) (by simp)
  have h2:=raiseI_s (N:=N) hN hp hl (Wz hp) (k:=fun (x:(List (Int×List Int))×(List Int))=>
    match x with
    | (l92,l93)=>
     cnd ((l93.length:Int) != ((Aw p).length:Int)) (
      some (([]:List (Int×List Int)),false)) (
      some (l92,true))) N 0 ([],[]) (by omega) (by simp only [List.length_nil]; omega) (by simp only [List.length_nil]; omega) (by intro j hj; omega) (by simp only [hc]; omega)
  have hlen:=Pf (p:=p) (l:=Aw p) (Aw p).length ([],[])
  simp only [List.length_nil,Nat.zero_add] at hlen
  have hbars:=Ql (p:=p) (l:=Aw p) (Aw p).length ([],[]) (by simp)
  have hbd:=Bz hp
  obtain ⟨R,k1,k2,k3⟩:=run_rs hp (Wz hp) (Aw p).length [] []
  rw [List.nil_append,List.nil_append] at k1
  rw [Nat.sub_zero] at h1
  simp only [hc] at h2
  rw [k1] at h1 h2 hlen hbars
  simp only [List.length_map] at hlen hbars
  have hml:(R.map Prod.fst).length=R.length:=List.length_map ..
  by_cases hq:(R.map Prod.fst).length=(Aw p).length
  ·refine ⟨R,true,by omega,fun x hx=>by have:=hbars x hx; omega,h1.trans ?_,h2.trans ?_,k2,fun _=>⟨rfl,by rw [List.length_map] at hq; exact hq,k3⟩⟩
   ·show (Cj N p).bind _=_
    rw [Bw N hN hb hg,hp,Option.bind_some,Bool.not_true,cnd_false,Ak (by show ¬ (((R.map Prod.fst).length:Nat):Int)<(((Aw p).length:Nat):Int); omega)]
   show cnd (((R.map Prod.fst).length:Int) != ((Aw p).length:Int)) _ _=_
   rw [Hn (by omega)]
  refine ⟨[],false,by simp,by simp,h1.trans ?_,h2.trans ?_,Tvv,fun h=>by cases h⟩
  ·show (Cj N p).bind _=_
   rw [Bw N hN hb hg,hp,Option.bind_some,Bool.not_true,cnd_false,Al (by show (((R.map Prod.fst).length:Nat):Int)<(((Aw p).length:Nat):Int); omega)]
  show cnd (((R.map Prod.fst).length:Int) != ((Aw p).length:Int)) _ _=_
  rw [Lq (by omega)]
theorem raising_v (hN:4000000≤N) {p:Pin} (hb:p.g.bars.length≤3000000) (hg:p.ground.length≤3000000) {l:List (Int×List Int)} (hl:Dr l≤1048576):∃ b:Bool,Gw N p l=some b∧Db N p l=some b ∧
  (b=true→Az p=true∧Jo p [] l∧l.length=(Aw p).length)∧(Az p=true→Jo p [] l→l.length=(Aw p).length→Fn l 0=p.g.bars.length→b=true):=by
 obtain ⟨b,b1,b2⟩:=raising_x hN hb hg hl
 refine ⟨b,b1,b2,?_,?_⟩
 ·rintro rfl
  unfold Db at b2
  rw [Wq hN hl,Wh hN hb hg hl,Eu N hN hb hg,Si N hN hb hg] at b2
  simp only [Option.bind_some] at b2
  cases hp:Az p with
  | false=>rw [hp,cnd_false] at b2; cases b2
  | true=>
   rw [hp,cnd_true] at b2
   by_cases h1:(Cd p l []).length=l.length
   ·rw [Pc (by omega)] at b2
    by_cases h2:(Cd p l []).length=(Aw p).length
    ·exact ⟨rfl,St l [] (by simpa using h1),by omega⟩
    rw [Kj (by omega)] at b2; cases b2
   rw [Kj (by omega)] at b2; cases b2
 intro hp hR hl2 hB
 have h1:(Cd p l []).length=l.length:=by rw [Wd l [] hR]; simp
 unfold Db at b2
 rw [Wq hN hl,Wh hN hb hg hl,Eu N hN hb hg,Si N hN hb hg] at b2
 simp only [Option.bind_some] at b2
 rw [hp,cnd_true,Pc (by omega),Pc (by omega)] at b2
 have:=Option.some.inj b2
 rw [←this,beq_iff_eq]; omega
end
section
variable {N:Nat}
theorem Tx (hN:4000000≤N) {p:Pin} (hb:p.g.bars.length≤3000000) (hg:p.ground.length≤3000000):∃ b:Bool,Da N p=some b∧Ev N p=some b:=by
 obtain ⟨r,h1,h2⟩:=Zm (N:=N) hN hb hg
 exact ⟨r==0,by unfold Da; rw [h1]; rfl,by unfold Ev; rw [h2]; rfl⟩
end
section
variable {N:Nat}
theorem needsGroup_x (hN:4000000≤N) {p:Pin} (hb:p.g.bars.length≤3000000) (hg:p.ground.length≤3000000):∃ b:Bool,Lm N p=some b∧Lh N p=some b:=by
 obtain ⟨l,b,_,_,h1,h2⟩:=findRaising_x (N:=N) hN hb hg
 obtain ⟨c,g1,g2⟩:=Tx (N:=N) hN hb hg
 unfold Lm Lh
 rw [h1,h2,g1,g2]
 simp only [Option.bind_some]
 cases c
 ·exact ⟨false,rfl,rfl⟩
 exact ⟨!b,rfl,rfl⟩
end
section
open Go.RowKit
end
section
open Go.RowKit
end
section
open Go.RowKit
end
section
open Go.RowKit
end
section
open Go.RowKit
end
section
open Go.RowKit Go.Deep
end
section
open Go.RowKit
end
section
open Go.RowKit
end
section
open Go.RowKit
end
section
open Go.RowKit
end
section
open Go.RowKit
end
section
open Go.RowKit
end
section
open Go.RowKit
end
section
open Go.RowKit
end
section
open Go.RowKit Go.Deep
def Jw (N:Nat) (l_0:List ByteArray) (by_1:ByteArray) (k:ByteArray→Option (ByteArray)):Nat→(ByteArray×Int)→Option (ByteArray)
 | 0,_=>none
 | n+1,(s5,x6)=>
  cnd (decide (x6<(l_0.length:Int))) (
   grd (0≤x6∧x6<(l_0.length:Int)) <|
   cnd (decide (x6 > (0:Int))) (
    grd (s5.size+by_1.size≤9223372036854775807) <|
    grd ((s5++by_1).size+(l_0.getD ((x6).toNat) ByteArray.empty).size≤9223372036854775807) <|
    grd (Bf (x6+(1:Int))) <|
    Jw N l_0 by_1 k n (((s5++by_1)++(l_0.getD ((x6).toNat) ByteArray.empty)),(x6+(1:Int)))) (
    grd (s5.size+(l_0.getD ((x6).toNat) ByteArray.empty).size≤9223372036854775807) <|
    grd (Bf (x6+(1:Int))) <|
    Jw N l_0 by_1 k n ((s5++(l_0.getD ((x6).toNat) ByteArray.empty)),(x6+(1:Int))))) (
   k s5)
def Sw (N:Nat) (l_0:List ByteArray) (by_1:ByteArray):Option (ByteArray):=
 Jw N l_0 by_1 (fun (s3 : ByteArray) =>
    some s3) N ((ByteArray.mk #[]),(0:Int))
theorem I_glued_w (N:Nat) (l_0:List ByteArray) (by_1:ByteArray) (r:ByteArray) (h:Sw N l_0 by_1=some r):PCall Try.prog 116 [.ro false (.strs l_0),.val (.string by_1)] [] (.val (.string r)):=by
 unfold Sw at h
 refine Ah (TT:=TT) tt Try.func116 rfl rfl Try.ntmps116 (congrArg Array.toList Try.results116) rfl rfl fun w0=>?_
 refine Ag ?_
 refine Aa ?_
 refine oV5 tt rfl Tvv ?_
 refine Ae ?_
 show VC ..
 refine Ag ?_
 refine Aa ?_
 refine oV5 tt rfl Tvv ?_
 refine Ae ?_
 show VC ..
 iterate 2 refine Ag ?_
 refine Aa ?_
 iterate 3 refine oV5 tt rfl Tvv ?_
 refine Ae ?_
 show VC ..
 refine Ck (F:=fun k=>Jw N l_0 by_1 k) h (α:=ByteArray) (J:=fun (s3:ByteArray)=>(⟨[(5,.val (.string s3))],[],[]⟩:PS)) ?_ ?_
 ·rintro s3 h
  show VC _ _ _ (⟨[(5,.val (.string s3))],[],[]⟩:PS)
  refine Ag ?_
  refine Aa ?_
  iterate 2 refine oV5 tt rfl Tvv ?_
  refine Ae ?_
  show VC ..
  refine Bb ?_
  show ∃ _,_
  cases h
  exact ⟨[],_,rfl,Tvv,rfl,(.eq rfl),rfl⟩
 intro k h
 refine Aq ?_
 refine Bh (α:=ByteArray×Int) (fun | (s5,x6)=>(⟨[(1,.val (.string by_1)),(5,.val (.string s5)),(8,.ro false (.strs l_0)),(9,.int (l_0.length:Int)),(10,.int x6)],[],[]⟩:PS)) (Jw N l_0 by_1 k) h (En.of ⟨rfl,rfl,rfl,rfl,rfl,Tvv⟩ trivial trivial) (fun _=>rfl) ?_
 rintro n ⟨s5,x6⟩ h
 rw [Jw] at h
 show VC _ _ _ (⟨[(1,.val (.string by_1)),(5,.val (.string s5)),(8,.ro false (.strs l_0)),(9,.int (l_0.length:Int)),(10,.int x6)],[],[]⟩:PS)
 refine Ag ?_
 refine Aa ?_
 refine oV5 tt rfl Tvv ?_
 refine Ae ?_
 show VC ..
 refine Ag ?_
 refine Au rfl (fun hb1=>?_) (fun hb1=>?_)
 ·replace h:=Ai hb1 h
  refine Ar ?_
  show VC ..
  refine Ag ?_
  refine Aq ?_
  refine Ag ?_
  refine Aa ?_
  refine oV5 tt rfl Tvv ?_
  obtain ⟨hg2,h⟩:=Ab h
  refine oV5 tt rfl hg2 ?_
  iterate 3 refine oV5 tt rfl Tvv ?_
  refine Ae ?_
  show VC ..
  iterate 2 refine Ag ?_
  refine Aa ?_
  iterate 2 refine oV5 tt rfl Tvv ?_
  refine Ae ?_
  show VC ..
  refine Au rfl (fun hb3=>?_) (fun hb3=>?_)
  ·replace h:=Ai hb3 h
   refine Aa ?_
   iterate 2 refine oV5 tt rfl Tvv ?_
   obtain ⟨hg4,h⟩:=Ab h
   refine Du (Ad rfl) (Ky rfl rfl rfl hg4) rfl rfl ?_
   refine oV5 tt rfl Tvv ?_
   refine Ae ?_
   show VC ..
   refine Aa ?_
   iterate 2 refine oV5 tt rfl Tvv ?_
   obtain ⟨hg5,h⟩:=Ab h
   refine Du (Ad rfl) (Ky rfl rfl rfl hg5) rfl rfl ?_
   refine oV5 tt rfl Tvv ?_
   refine Ae ?_
   show VC ..
   refine Aa ?_
   obtain ⟨hg6,h⟩:=Ab h
   refine oV5 tt rfl hg6 ?_
   refine oV5 tt rfl Tvv ?_
   refine Ae ?_
   show ∃ _,_
   exact ⟨(((s5++by_1)++(l_0.getD ((x6).toNat) ByteArray.empty)),(x6+(1:Int))),(En.of ⟨rfl,rfl,rfl,rfl,rfl,Tvv⟩ trivial trivial),h⟩
  replace h:=Aj hb3 h
  refine Ar ?_
  show VC ..
  refine Aa ?_
  iterate 2 refine oV5 tt rfl Tvv ?_
  obtain ⟨hg7,h⟩:=Ab h
  refine Du (Ad rfl) (Ky rfl rfl rfl hg7) rfl rfl ?_
  refine oV5 tt rfl Tvv ?_
  refine Ae ?_
  show VC ..
  refine Aa ?_
  obtain ⟨hg8,h⟩:=Ab h
  refine oV5 tt rfl hg8 ?_
  refine oV5 tt rfl Tvv ?_
  refine Ae ?_
  show ∃ _,_
  exact ⟨((s5++(l_0.getD ((x6).toNat) ByteArray.empty)),(x6+(1:Int))),(En.of ⟨rfl,rfl,rfl,rfl,rfl,Tvv⟩ trivial trivial),h⟩
 replace h:=Aj hb1 h
 refine Bq ?_
 show ∃ _,_
 exact ⟨s5,(En.of ⟨rfl,Tvv⟩ trivial trivial),h⟩
end
section
open Go.RowKit
def Dq (N:Nat) (k:ByteArray→Option (ByteArray)):Nat→(Int×ByteArray)→Option (ByteArray)
 | 0,_=>none
 | n+1,(n5,out6)=>
  cnd (n5 != (0:Int)) (
   grd ((10:Int)≠0) <|
   cnd (decide ((Int.tmod n5 (10:Int))<(0:Int))) (
    grd (Bf (-(Int.tmod n5 (10:Int)))) <|
    grd (Bf ((48:Int)+(-(Int.tmod n5 (10:Int))))) <|
    grd ((strOfNums ([(((48:Int)+(-(Int.tmod n5 (10:Int)))) % 256)]:List Int)).size+out6.size≤9223372036854775807) <|
    grd ((10:Int)≠0∧Bf (Int.tdiv n5 (10:Int))) <|
    Dq N k n ((Int.tdiv n5 (10:Int)),((strOfNums ([(((48:Int)+(-(Int.tmod n5 (10:Int)))) % 256)]:List Int))++out6))) (
    grd (Bf ((48:Int)+(Int.tmod n5 (10:Int)))) <|
    grd ((strOfNums ([(((48:Int)+(Int.tmod n5 (10:Int))) % 256)]:List Int)).size+out6.size≤9223372036854775807) <|
    grd ((10:Int)≠0∧Bf (Int.tdiv n5 (10:Int))) <|
    Dq N k n ((Int.tdiv n5 (10:Int)),((strOfNums ([(((48:Int)+(Int.tmod n5 (10:Int))) % 256)]:List Int))++out6)))) (
   k out6)
def Jt (N:Nat) (n_0:Int):Option (ByteArray):=
 cnd (n_0==(0:Int)) (
  some (ByteArray.mk #[48])) (
  Dq N (fun (out3 : ByteArray) =>
     cnd (decide (n_0<(0:Int))) (
      grd ((ByteArray.mk #[45]).size+out3.size≤9223372036854775807) <|
      some ((ByteArray.mk #[45])++out3)) (
      some out3)) N (n_0,(ByteArray.mk #[])))
theorem Tr (N:Nat) (n_0:Int) (r:ByteArray) (h:Jt N n_0=some r):PCall Try.prog 117 [.int n_0] [] (.val (.string r)):=by
 unfold Jt at h
 refine Ah (TT:=TT) tt Try.func117 rfl rfl Try.ntmps117 (congrArg Array.toList Try.results117) rfl rfl fun w0=>?_
 refine Ag ?_
 refine Aa ?_
 refine oV5 tt rfl Tvv ?_
 refine Ae ?_
 show VC ..
 iterate 2 refine Ag ?_
 refine Aa ?_
 iterate 2 refine oV5 tt rfl Tvv ?_
 refine Ae ?_
 show VC ..
 refine Au rfl (fun hb1=>?_) (fun hb1=>?_)
 ·replace h:=Ai hb1 h
  refine Ag ?_
  refine Aa ?_
  refine oV5 tt rfl Tvv ?_
  refine Ae ?_
  show VC ..
  refine Bb ?_
  show ∃ _,_
  cases h
  exact ⟨[],_,rfl,Tvv,rfl,(.eq rfl),rfl⟩
 replace h:=Aj hb1 h
 refine Ar ?_
 show VC ..
 refine Ag ?_
 refine Aa ?_
 refine oV5 tt rfl Tvv ?_
 refine Ae ?_
 show VC ..
 refine Ag ?_
 refine Aa ?_
 iterate 3 refine oV5 tt rfl Tvv ?_
 refine Ae ?_
 show VC ..
 refine Ag ?_
 refine Ck (F:=fun k=>Dq N k) h (α:=ByteArray) (J:=fun (out3:ByteArray)=>(⟨[(3,.val (.string out3)),(4,.bool (decide (n_0<(0:Int))))],[],[]⟩:PS)) ?_ ?_
 ·rintro out3 h
  show VC _ _ _ (⟨[(3,.val (.string out3)),(4,.bool (decide (n_0<(0:Int))))],[],[]⟩:PS)
  iterate 2 refine Ag ?_
  refine Aa ?_
  refine oV5 tt rfl Tvv ?_
  refine Ae ?_
  show VC ..
  refine Au rfl (fun hb2=>?_) (fun hb2=>?_)
  ·replace h:=Ai hb2 h
   refine Ag ?_
   refine Aa ?_
   refine oV5 tt rfl Tvv ?_
   obtain ⟨hg3,h⟩:=Ab h
   refine Du (Ad rfl) (Ky rfl rfl rfl hg3) rfl rfl ?_
   refine oV5 tt rfl Tvv ?_
   refine Ae ?_
   show VC ..
   refine Bb ?_
   show ∃ _,_
   cases h
   exact ⟨[],_,rfl,Tvv,rfl,(.eq rfl),rfl⟩
  replace h:=Aj hb2 h
  refine Ar ?_
  show VC ..
  refine Ag ?_
  refine Aa ?_
  iterate 2 refine oV5 tt rfl Tvv ?_
  refine Ae ?_
  show VC ..
  refine Bb ?_
  show ∃ _,_
  cases h
  exact ⟨[],_,rfl,Tvv,rfl,(.eq rfl),rfl⟩
 intro k h
 refine Aq ?_
 refine Bh (α:=Int×ByteArray) (fun | (n5,out6)=>(⟨[(0,.int n5),(3,.val (.string out6)),(4,.bool (decide (n_0<(0:Int))))],[],[]⟩:PS)) (Dq N k) h (En.of ⟨rfl,rfl,rfl,Tvv⟩ trivial trivial) (fun _=>rfl) ?_
 rintro n ⟨n5,out6⟩ h
 rw [Dq] at h
 show VC _ _ _ (⟨[(0,.int n5),(3,.val (.string out6)),(4,.bool (decide (n_0<(0:Int))))],[],[]⟩:PS)
 iterate 2 refine Ag ?_
 refine Aa ?_
 iterate 2 refine oV5 tt rfl Tvv ?_
 refine Ae ?_
 show VC ..
 refine Au rfl (fun hb4=>?_) (fun hb4=>?_)
 ·replace h:=Ai hb4 h
  refine Ar ?_
  show VC ..
  refine Aq ?_
  refine Ag ?_
  refine Aa ?_
  refine oV5 tt rfl Tvv ?_
  obtain ⟨hg5,h⟩:=Ab h
  refine oV5 tt rfl hg5 ?_
  refine oV5 tt rfl Tvv ?_
  refine Ae ?_
  show VC ..
  iterate 2 refine Ag ?_
  refine Aa ?_
  iterate 2 refine oV5 tt rfl Tvv ?_
  refine Ae ?_
  show VC ..
  refine Au rfl (fun hb6=>?_) (fun hb6=>?_)
  ·replace h:=Ai hb6 h
   refine Aa ?_
   refine oV5 tt rfl Tvv ?_
   obtain ⟨hg7,h⟩:=Ab h
   refine oV5 tt rfl hg7 ?_
   refine oV5 tt rfl Tvv ?_
   refine Ae ?_
   show VC ..
   refine Ag ?_
   refine Aa ?_
   refine oV5 tt rfl Tvv ?_
   obtain ⟨hg8,h⟩:=Ab h
   refine oV5 tt rfl hg8 ?_
   refine Du (Ad rfl) (pConvU8 Try.underlying3 Try.underlying5 rfl rfl) rfl rfl ?_
   refine Cv tt rfl rfl rfl rfl rfl rfl rfl rfl rfl rfl rfl ?_
   refine oConvB (Ad rfl) Try.underlying22 Try.underlying5 Try.underlying9 rfl rfl rfl rfl rfl rfl ?_
   refine oV5 tt rfl Tvv ?_
   obtain ⟨hg9,h⟩:=Ab h
   refine Du (Ad rfl) (Ky rfl rfl rfl hg9) rfl rfl ?_
   refine oV5 tt rfl Tvv ?_
   refine Ae ?_
   show VC ..
   refine Aa ?_
   refine oV5 tt rfl Tvv ?_
   obtain ⟨hg10,h⟩:=Ab h
   refine oV5 tt rfl hg10 ?_
   refine oV5 tt rfl Tvv ?_
   refine Ae ?_
   show ∃ _,_
   exact ⟨((Int.tdiv n5 (10:Int)),((strOfNums ([(((48:Int)+(-(Int.tmod n5 (10:Int)))) % 256)]:List Int))++out6)),(En.of ⟨rfl,rfl,rfl,Tvv⟩ trivial trivial),h⟩
  replace h:=Aj hb6 h
  refine Ar ?_
  show VC ..
  refine Ag ?_
  refine Aa ?_
  refine oV5 tt rfl Tvv ?_
  obtain ⟨hg11,h⟩:=Ab h
  refine oV5 tt rfl hg11 ?_
  refine Du (Ad rfl) (pConvU8 Try.underlying3 Try.underlying5 rfl rfl) rfl rfl ?_
  refine Cv tt rfl rfl rfl rfl rfl rfl rfl rfl rfl rfl rfl ?_
  refine oConvB (Ad rfl) Try.underlying22 Try.underlying5 Try.underlying9 rfl rfl rfl rfl rfl rfl ?_
  refine oV5 tt rfl Tvv ?_
  obtain ⟨hg12,h⟩:=Ab h
  refine Du (Ad rfl) (Ky rfl rfl rfl hg12) rfl rfl ?_
  refine oV5 tt rfl Tvv ?_
  refine Ae ?_
  show VC ..
  refine Aa ?_
  refine oV5 tt rfl Tvv ?_
  obtain ⟨hg13,h⟩:=Ab h
  refine oV5 tt rfl hg13 ?_
  refine oV5 tt rfl Tvv ?_
  refine Ae ?_
  show ∃ _,_
  exact ⟨((Int.tdiv n5 (10:Int)),((strOfNums ([(((48:Int)+(Int.tmod n5 (10:Int))) % 256)]:List Int))++out6)),(En.of ⟨rfl,rfl,rfl,Tvv⟩ trivial trivial),h⟩
 replace h:=Aj hb4 h
 refine Bq ?_
 show ∃ _,_
 exact ⟨out6,(En.of ⟨rfl,rfl,Tvv⟩ trivial trivial),h⟩
def Cl (N:Nat) (l_0:List (Int×List Int)) (i114:Int) (k:ByteArray→Option (ByteArray)):Nat→(ByteArray×Int)→Option (ByteArray)
 | 0,_=>none
 | n+1,(s160,k161)=>
  cnd (decide (k161<(((l_0.getD ((i114).toNat) (0,[])).2).length:Int))) (
   jn (fun (s165 : ByteArray) =>
      grd (0≤k161∧k161<(((l_0.getD ((i114).toNat) (0,[])).2).length:Int)) <|
      (Jt N (((l_0.getD ((i114).toNat) (0,[])).2).getD ((k161).toNat) 0)).bind fun v166=>
      grd (s165.size+v166.size≤9223372036854775807) <|
      grd (Bf (k161+(1:Int))) <|
      Cl N l_0 i114 k n ((s165++v166),(k161+(1:Int)))) fun k167=>
    cnd (decide (k161 > (0:Int))) (
     grd (s160.size+(ByteArray.mk #[44]).size≤9223372036854775807) <|
     k167 (s160++(ByteArray.mk #[44]))) (
     k167 s160)) (
   k s160)
def Cb (N:Nat) (l_0:List (Int×List Int)) (k:ByteArray→Option (ByteArray)):Nat→(ByteArray×Int)→Option (ByteArray)
 | 0,_=>none
 | n+1,(s113,i114)=>
  cnd (decide (i114<(l_0.length:Int))) (
   jn (fun (s142 : ByteArray) =>
      grd (0≤i114∧i114<(l_0.length:Int)) <|
      (Jt N ((l_0.getD ((i114).toNat) (0,[])).1)).bind fun v143=>
      grd (s142.size+v143.size≤9223372036854775807) <|
      grd ((s142++v143).size+(ByteArray.mk #[58]).size≤9223372036854775807) <|
      Cl N l_0 i114 (fun (s155 : ByteArray) =>
         grd (Bf (i114+(1:Int))) <|
         Cb N l_0 k n (s155,(i114+(1:Int)))) N (((s142++v143)++(ByteArray.mk #[58])),(0:Int))) fun k168=>
    cnd (decide (i114 > (0:Int))) (
     grd (s113.size+(ByteArray.mk #[32]).size≤9223372036854775807) <|
     k168 (s113++(ByteArray.mk #[32]))) (
     k168 s113)) (
   k s113)
def Hy (N:Nat) (l_0:List (Int×List Int)):Option (ByteArray):=
 Cb N l_0 (fun (s84 : ByteArray) =>
    cnd (s84.toList==(ByteArray.mk #[]).toList) (
     some (ByteArray.mk #[110,111,110,101])) (
     some s84)) N ((ByteArray.mk #[]),(0:Int))
theorem Wr (N:Nat) (l_0:List (Int×List Int)) (r:ByteArray) (h:Hy N l_0=some r):PCall Try.prog 14 [.ro false (.raises l_0)] [] (.val (.string r)):=by
 unfold Hy at h
 refine Ah (TT:=TT) tt Try.func14 rfl rfl Try.ntmps14 (congrArg Array.toList Try.results14) rfl rfl fun w0=>?_
 refine Ag ?_
 refine Aa ?_
 refine oV5 tt rfl Tvv ?_
 refine Ae ?_
 show VC ..
 refine Ag ?_
 refine Aa ?_
 refine oV5 tt rfl Tvv ?_
 refine Ae ?_
 show VC ..
 iterate 2 refine Ag ?_
 refine Aa ?_
 refine oV5 tt rfl Tvv ?_
 refine Ae ?_
 show VC ..
 refine Ck (F:=fun k=>Cb N l_0 k) h (α:=ByteArray) (J:=fun (s84:ByteArray)=>(⟨[(3,.val (.string s84))],[],[]⟩:PS)) ?_ ?_
 ·rintro s84 h
  show VC _ _ _ (⟨[(3,.val (.string s84))],[],[]⟩:PS)
  iterate 2 refine Ag ?_
  refine Aa ?_
  refine oV5 tt rfl Tvv ?_
  refine Du (Ad rfl) (pStrEq rfl rfl rfl) rfl rfl ?_
  refine Ae ?_
  show VC ..
  refine Au rfl (fun hb1=>?_) (fun hb1=>?_)
  ·replace h:=Ai hb1 h
   refine Ag ?_
   refine Aa ?_
   refine oV5 tt rfl Tvv ?_
   refine Ae ?_
   show VC ..
   refine Bb ?_
   show ∃ _,_
   cases h
   exact ⟨[],_,rfl,Tvv,rfl,(.eq rfl),rfl⟩
  replace h:=Aj hb1 h
  refine Ar ?_
  show VC ..
  refine Ag ?_
  refine Aa ?_
  iterate 2 refine oV5 tt rfl Tvv ?_
  refine Ae ?_
  show VC ..
  refine Bb ?_
  show ∃ _,_
  cases h
  exact ⟨[],_,rfl,Tvv,rfl,(.eq rfl),rfl⟩
 intro k h
 refine Aq ?_
 refine Bh (α:=ByteArray×Int) (fun | (s113,i114)=>(⟨[(0,.ro false (.raises l_0)),(3,.val (.string s113)),(4,.int i114)],[],[]⟩:PS)) (Cb N l_0 k) h (En.of ⟨rfl,rfl,rfl,Tvv⟩ trivial trivial) (fun _=>rfl) ?_
 rintro n ⟨s113,i114⟩ h
 rw [Cb] at h
 show VC _ _ _ (⟨[(0,.ro false (.raises l_0)),(3,.val (.string s113)),(4,.int i114)],[],[]⟩:PS)
 iterate 2 refine Ag ?_
 refine Aa ?_
 iterate 4 refine oV5 tt rfl Tvv ?_
 refine Ae ?_
 show VC ..
 refine Au rfl (fun hb2=>?_) (fun hb2=>?_)
 ·replace h:=Ai hb2 h
  refine Ar ?_
  show VC ..
  refine Ag ?_
  refine Aq ?_
  iterate 2 refine Ag ?_
  refine Aa ?_
  iterate 2 refine oV5 tt rfl Tvv ?_
  refine Ae ?_
  show VC ..
  refine Aaz h (α:=ByteArray) (J:=fun (s142:ByteArray)=>(⟨[(0,.ro false (.raises l_0)),(3,.val (.string s142)),(4,.int i114)],[],[]⟩:PS)) ?_ ?_
  ·rintro s142 h
   show VC _ _ _ (⟨[(0,.ro false (.raises l_0)),(3,.val (.string s142)),(4,.int i114)],[],[]⟩:PS)
   refine Ag ?_
   refine Aa ?_
   iterate 3 refine oV5 tt rfl Tvv ?_
   obtain ⟨hg3,h⟩:=Ab h
   refine oV5 tt rfl hg3 ?_
   iterate 2 refine oV5 tt rfl Tvv ?_
   obtain ⟨v143,hc4,h⟩:=Ac h
   refine Ba (Tr N ((l_0.getD ((i114).toNat) (0,[])).1) v143 hc4) rfl rfl rfl rfl rfl rfl rfl rfl ⟨rfl,Tvv⟩ ?_
   obtain ⟨hg5,h⟩:=Ab h
   refine Du (Ad rfl) (Ky rfl rfl rfl hg5) rfl rfl ?_
   obtain ⟨hg6,h⟩:=Ab h
   refine Du (Ad rfl) (Ky rfl rfl rfl hg6) rfl rfl ?_
   refine oV5 tt rfl Tvv ?_
   refine Ae ?_
   show VC ..
   refine Ag ?_
   refine Aa ?_
   refine oV5 tt rfl Tvv ?_
   refine Ae ?_
   show VC ..
   refine Ck (F:=fun k=>Cl N l_0 i114 k) h (α:=ByteArray) (J:=fun (s155:ByteArray)=>(⟨[(0,.ro false (.raises l_0)),(3,.val (.string s155)),(4,.int i114)],[],[]⟩:PS)) ?_ ?_
   ·rintro s155 h
    show VC _ _ _ (⟨[(0,.ro false (.raises l_0)),(3,.val (.string s155)),(4,.int i114)],[],[]⟩:PS)
    refine Aa ?_
    refine oV5 tt rfl Tvv ?_
    obtain ⟨hg7,h⟩:=Ab h
    refine oV5 tt rfl hg7 ?_
    refine oV5 tt rfl Tvv ?_
    refine Ae ?_
    show ∃ _,_
    exact ⟨(s155,(i114+(1:Int))),(En.of ⟨rfl,rfl,rfl,Tvv⟩ trivial trivial),h⟩
   intro k h
   refine Aq ?_
   refine Bh (α:=ByteArray×Int) (fun | (s160,k161)=>(⟨[(0,.ro false (.raises l_0)),(3,.val (.string s160)),(4,.int i114),(5,.int k161)],[],[]⟩:PS)) (Cl N l_0 i114 k) h (En.of ⟨rfl,rfl,rfl,rfl,Tvv⟩ trivial trivial) (fun _=>rfl) ?_
   rintro n ⟨s160,k161⟩ h
   rw [Cl] at h
   show VC _ _ _ (⟨[(0,.ro false (.raises l_0)),(3,.val (.string s160)),(4,.int i114),(5,.int k161)],[],[]⟩:PS)
   iterate 2 refine Ag ?_
   refine Aa ?_
   iterate 3 refine oV5 tt rfl Tvv ?_
   refine oV5 tt rfl hg3 ?_
   iterate 4 refine oV5 tt rfl Tvv ?_
   refine Ae ?_
   show VC ..
   refine Au rfl (fun hb8=>?_) (fun hb8=>?_)
   ·replace h:=Ai hb8 h
    refine Ar ?_
    show VC ..
    refine Ag ?_
    refine Aq ?_
    iterate 2 refine Ag ?_
    refine Aa ?_
    iterate 2 refine oV5 tt rfl Tvv ?_
    refine Ae ?_
    show VC ..
    refine Aaz h (α:=ByteArray) (J:=fun (s165:ByteArray)=>(⟨[(0,.ro false (.raises l_0)),(3,.val (.string s165)),(4,.int i114),(5,.int k161)],[],[]⟩:PS)) ?_ ?_
    ·rintro s165 h
     show VC _ _ _ (⟨[(0,.ro false (.raises l_0)),(3,.val (.string s165)),(4,.int i114),(5,.int k161)],[],[]⟩:PS)
     refine Aa ?_
     iterate 3 refine oV5 tt rfl Tvv ?_
     refine oV5 tt rfl hg3 ?_
     iterate 3 refine oV5 tt rfl Tvv ?_
     obtain ⟨hg9,h⟩:=Ab h
     refine oV5 tt rfl hg9 ?_
     refine oV5 tt rfl Tvv ?_
     obtain ⟨v166,hc10,h⟩:=Ac h
     refine Ba (Tr N (((l_0.getD ((i114).toNat) (0,[])).2).getD ((k161).toNat) 0) v166 hc10) rfl rfl rfl rfl rfl rfl rfl rfl ⟨rfl,Tvv⟩ ?_
     obtain ⟨hg11,h⟩:=Ab h
     refine Du (Ad rfl) (Ky rfl rfl rfl hg11) rfl rfl ?_
     refine oV5 tt rfl Tvv ?_
     refine Ae ?_
     show VC ..
     refine Aa ?_
     refine oV5 tt rfl Tvv ?_
     obtain ⟨hg12,h⟩:=Ab h
     refine oV5 tt rfl hg12 ?_
     refine oV5 tt rfl Tvv ?_
     refine Ae ?_
     show ∃ _,_
     exact ⟨((s165++v166),(k161+(1:Int))),(En.of ⟨rfl,rfl,rfl,rfl,Tvv⟩ trivial trivial),h⟩
    intro k167 h
    refine Au rfl (fun hb13=>?_) (fun hb13=>?_)
    ·replace h:=Ai hb13 h
     refine Aa ?_
     refine oV5 tt rfl Tvv ?_
     obtain ⟨hg14,h⟩:=Ab h
     refine Du (Ad rfl) (Ky rfl rfl rfl hg14) rfl rfl ?_
     refine oV5 tt rfl Tvv ?_
     refine Ae ?_
     show ∃ _,_
     exact ⟨(s160++(ByteArray.mk #[44])),(En.of ⟨rfl,rfl,rfl,rfl,Tvv⟩ trivial trivial),h⟩
    replace h:=Aj hb13 h
    refine Ar ?_
    show ∃ _,_
    exact ⟨s160,(En.of ⟨rfl,rfl,rfl,rfl,Tvv⟩ trivial trivial),h⟩
   replace h:=Aj hb8 h
   refine Bq ?_
   show ∃ _,_
   exact ⟨s160,(En.of ⟨rfl,rfl,rfl,Tvv⟩ trivial trivial),h⟩
  intro k168 h
  refine Au rfl (fun hb15=>?_) (fun hb15=>?_)
  ·replace h:=Ai hb15 h
   refine Aa ?_
   refine oV5 tt rfl Tvv ?_
   obtain ⟨hg16,h⟩:=Ab h
   refine Du (Ad rfl) (Ky rfl rfl rfl hg16) rfl rfl ?_
   refine oV5 tt rfl Tvv ?_
   refine Ae ?_
   show ∃ _,_
   exact ⟨(s113++(ByteArray.mk #[32])),(En.of ⟨rfl,rfl,rfl,Tvv⟩ trivial trivial),h⟩
  replace h:=Aj hb15 h
  refine Ar ?_
  show ∃ _,_
  exact ⟨s113,(En.of ⟨rfl,rfl,rfl,Tvv⟩ trivial trivial),h⟩
 replace h:=Aj hb2 h
 refine Bq ?_
 show ∃ _,_
 exact ⟨s113,(En.of ⟨rfl,Tvv⟩ trivial trivial),h⟩
def Ds (N:Nat) (l4:List Int) (k:(List Int)→Option (ByteArray)):Nat→((List Int)×Int×Int)→Option (ByteArray)
 | 0,_=>none
 | n+1,(l10,i11,j12)=>
  cnd (decide (i11<j12)) (
   grd (0≤j12∧j12<(l4.length:Int)) <|
   grd (0≤j12∧j12<(l10.length:Int)) <|
   grd (0≤i11∧i11<(l4.length:Int)) <|
   grd (0≤i11∧i11<(l10.length:Int)) <|
   grd (0≤j12∧j12<((l10.set ((i11).toNat) (l10.getD ((j12).toNat) 0)).length:Int)) <|
   grd (Bf (i11+(1:Int))) <|
   grd (Bf (j12-(1:Int))) <|
   Ds N l4 k n (((l10.set ((i11).toNat) (l10.getD ((j12).toNat) 0)).set ((j12).toNat) (l10.getD ((i11).toNat) 0)),(i11+(1:Int)),(j12-(1:Int)))) (
   k l10)
def Dt (N:Nat) (k:(List Int)→Option (ByteArray)):Nat→((List Int)×Int)→Option (ByteArray)
 | 0,_=>none
 | n+1,(l15,m16)=>
  cnd (m16 != (0:Int)) (
   grd ((10:Int)≠0) <|
   cnd (decide ((Int.tmod m16 (10:Int))<(0:Int))) (
    grd (Bf (-(Int.tmod m16 (10:Int)))) <|
    grd (Bf ((48:Int)+(-(Int.tmod m16 (10:Int))))) <|
    grd (l15.length+1≤4294967296) <|
    grd ((10:Int)≠0∧Bf (Int.tdiv m16 (10:Int))) <|
    Dt N k n ((l15++([(((48:Int)+(-(Int.tmod m16 (10:Int)))) % 256)]:List Int)),(Int.tdiv m16 (10:Int)))) (
    grd (Bf ((48:Int)+(Int.tmod m16 (10:Int)))) <|
    grd (l15.length+1≤4294967296) <|
    grd ((10:Int)≠0∧Bf (Int.tdiv m16 (10:Int))) <|
    Dt N k n ((l15++([(((48:Int)+(Int.tmod m16 (10:Int))) % 256)]:List Int)),(Int.tdiv m16 (10:Int))))) (
   k l15)
def Kw (N:Nat) (n_0:Int):Option (ByteArray):=
 cnd (n_0==(0:Int)) (
  some (ByteArray.mk #[48])) (
  Dt N (fun (l3 : List Int) =>
     jn (fun (l4 : List Int) =>
        grd (Bf ((l4.length:Int)-(1:Int))) <|
        Ds N l4 (fun (l8 : List Int) =>
           grd (l4.length=l8.length) <|
           some (strOfNums l8)) N (l4,(0:Int),((l4.length:Int)-(1:Int)))) fun k13=>
      cnd (decide (n_0<(0:Int))) (
       grd (l3.length+1≤4294967296) <|
       k13 (l3++([(45:Int)]:List Int))) (
       k13 l3)) N (([]:List Int),n_0))
theorem Vl (N:Nat) (n_0:Int) (r:ByteArray) (h:Kw N n_0=some r):PCall Try.prog 114 [.int n_0] [] (.val (.string r)):=by
 unfold Kw at h
 refine Ah (TT:=TT) tt Try.func114 rfl rfl Try.ntmps114 (congrArg Array.toList Try.results114) rfl rfl fun w0=>?_
 refine Ag ?_
 refine Aa ?_
 refine oV5 tt rfl Tvv ?_
 refine Ae ?_
 show VC ..
 iterate 2 refine Ag ?_
 refine Aa ?_
 iterate 2 refine oV5 tt rfl Tvv ?_
 refine Ae ?_
 show VC ..
 refine Au rfl (fun hb1=>?_) (fun hb1=>?_)
 ·replace h:=Ai hb1 h
  refine Ag ?_
  refine Aa ?_
  refine oV5 tt rfl Tvv ?_
  refine Ae ?_
  show VC ..
  refine Bb ?_
  show ∃ _,_
  cases h
  exact ⟨[],_,rfl,Tvv,rfl,(.eq rfl),rfl⟩
 replace h:=Aj hb1 h
 refine Ar ?_
 show VC ..
 refine Ag ?_
 refine Aa ?_
 refine Fa tt (Ad rfl) rfl rfl rfl rfl ?_
 refine oV5 tt rfl Tvv ?_
 refine Ae ?_
 show VC ..
 iterate 2 refine Ag ?_
 refine Aa ?_
 iterate 2 refine oV5 tt rfl Tvv ?_
 refine Ae ?_
 show VC ..
 refine Ck (F:=fun k=>Dt N k) h (α:=List Int) (J:=fun (l3:List Int)=>(⟨[(0,.int n_0),(3,.row 27 0 l3.length)],[(27,some (5,.bytes l3))],[]⟩:PS)) ?_ ?_
 ·rintro l3 h
  show VC _ _ _ (⟨[(0,.int n_0),(3,.row 27 0 l3.length)],[(27,some (5,.bytes l3))],[]⟩:PS)
  iterate 2 refine Ag ?_
  refine Aa ?_
  iterate 2 refine oV5 tt rfl Tvv ?_
  refine Ae ?_
  show VC ..
  refine Aaz h (α:=List Int) (J:=fun (l4:List Int)=>(⟨[(3,.row 27 0 l4.length)],[(27,some (5,.bytes l4))],[]⟩:PS)) ?_ ?_
  ·rintro l4 h
   show VC _ _ _ (⟨[(3,.row 27 0 l4.length)],[(27,some (5,.bytes l4))],[]⟩:PS)
   iterate 2 refine Ag ?_
   refine Aa ?_
   iterate 2 refine oV5 tt rfl Tvv ?_
   obtain ⟨hg2,h⟩:=Ab h
   refine oV5 tt rfl hg2 ?_
   iterate 2 refine oV5 tt rfl Tvv ?_
   refine Ae ?_
   show VC ..
   refine Ck (F:=fun k=>Ds N l4 k) h (α:=List Int) (J:=fun (l8:List Int)=>(⟨[(3,.row 27 0 l4.length)],[(27,some (5,.bytes l8))],[]⟩:PS)) ?_ ?_
   ·rintro l8 h
    show VC _ _ _ (⟨[(3,.row 27 0 l4.length)],[(27,some (5,.bytes l8))],[]⟩:PS)
    refine Ag ?_
    refine Aa ?_
    refine oV5 tt rfl Tvv ?_
    obtain ⟨hg3,h⟩:=Ab h
    refine oConvB (Ad rfl) Try.underlying22 Try.underlying5 Try.underlying9 rfl rfl rfl rfl rfl hg3 ?_
    refine oV5 tt rfl Tvv ?_
    refine Ae ?_
    show VC ..
    refine Bb ?_
    show ∃ _,_
    cases h
    exact ⟨[],_,rfl,Tvv,rfl,(.eq rfl),rfl⟩
   intro k h
   refine Aq ?_
   refine Bh (α:=(List Int)×Int×Int) (fun | (l10,i11,j12)=>(⟨[(3,.row 27 0 l4.length),(6,.int i11),(7,.int j12)],[(27,some (5,.bytes l10))],[]⟩:PS)) (Ds N l4 k) h (En.of ⟨rfl,rfl,rfl,Tvv⟩ ⟨rfl,Tvv⟩ trivial) (fun _=>rfl) ?_
   rintro n ⟨l10,i11,j12⟩ h
   rw [Ds] at h
   show VC _ _ _ (⟨[(3,.row 27 0 l4.length),(6,.int i11),(7,.int j12)],[(27,some (5,.bytes l10))],[]⟩:PS)
   iterate 2 refine Ag ?_
   refine Aa ?_
   iterate 3 refine oV5 tt rfl Tvv ?_
   refine Ae ?_
   show VC ..
   refine Au rfl (fun hb4=>?_) (fun hb4=>?_)
   ·replace h:=Ai hb4 h
    refine Ar ?_
    show VC ..
    refine Ag ?_
    refine Aq ?_
    refine Bl 14 [1130000027] [0,0,0,0,0,0,48,112,0,0,768,1792,4083,8179,16383,32767] (by kernel_rfl) (by kernel_rfl) (by kernel_rfl) (by kernel_rfl) (by kernel_rfl) rfl (by rfl) ?_
    iterate 6 refine Bo tt rfl (Ad rfl) rfl rfl rfl rfl rfl Tvv ?_
    obtain ⟨hg5,h⟩:=Ab h
    refine Bo tt rfl (Ad rfl) rfl rfl rfl rfl rfl hg5 ?_
    obtain ⟨hg6,h⟩:=Ab h
    refine Bo tt rfl (Ad rfl) rfl rfl rfl rfl rfl hg6 ?_
    iterate 2 refine Bo tt rfl (Ad rfl) rfl rfl rfl rfl rfl Tvv ?_
    obtain ⟨hg7,h⟩:=Ab h
    refine Bo tt rfl (Ad rfl) rfl rfl rfl rfl rfl hg7 ?_
    obtain ⟨hg8,h⟩:=Ab h
    refine Bo tt rfl (Ad rfl) rfl rfl rfl rfl rfl hg8 ?_
    refine Bo tt rfl (Ad rfl) rfl rfl rfl rfl rfl hg7 ?_
    refine nStoreR tt (Ad rfl) rfl rfl rfl rfl rfl rfl rfl rfl rfl rfl rfl rfl rfl hg8 ?_
    refine Lt ?_
    show VO _ _ _ _ _
    refine oV5 tt rfl hg5 ?_
    obtain ⟨hg9,h⟩:=Ab h
    refine Ao tt rfl rfl rfl rfl rfl rfl rfl rfl rfl rfl ⟨_,_,rfl,hg9.1,hg9.2⟩ ⟨hg9,Tvv⟩ ?_
    refine Ae ?_
    show VC ..
    refine Aa ?_
    refine oV5 tt rfl Tvv ?_
    obtain ⟨hg10,h⟩:=Ab h
    refine oV5 tt rfl hg10 ?_
    refine oV5 tt rfl Tvv ?_
    obtain ⟨hg11,h⟩:=Ab h
    refine oV5 tt rfl hg11 ?_
    iterate 2 refine oV5 tt rfl Tvv ?_
    refine Ae ?_
    show ∃ _,_
    exact ⟨(((l10.set ((i11).toNat) (l10.getD ((j12).toNat) 0)).set ((j12).toNat) (l10.getD ((i11).toNat) 0)),(i11+(1:Int)),(j12-(1:Int))),(En.of ⟨rfl,rfl,rfl,Tvv⟩ ⟨rfl,Tvv⟩ trivial),h⟩
   replace h:=Aj hb4 h
   refine Bq ?_
   show ∃ _,_
   exact ⟨l10,(En.of ⟨rfl,Tvv⟩ ⟨rfl,Tvv⟩ trivial),h⟩
  intro k13 h
  refine Au rfl (fun hb12=>?_) (fun hb12=>?_)
  ·replace h:=Ai hb12 h
   refine Aa ?_
   refine oV5 tt rfl Tvv ?_
   refine Cv tt rfl rfl rfl rfl rfl rfl rfl rfl rfl rfl rfl ?_
   obtain ⟨hg13,h⟩:=Ab h
   refine Bp tt rfl rfl rfl rfl rfl rfl rfl rfl rfl rfl rfl rfl rfl rfl rfl rfl (Nat.le_of_eq (Nat.zero_add _)) hg13 ?_
   refine oV5 tt rfl Tvv ?_
   refine Ae ?_
   show ∃ _,_
   exact ⟨(l3++([(45:Int)]:List Int)),(En.of ⟨rfl,Tvv⟩ ⟨rfl,Tvv⟩ trivial),h⟩
  replace h:=Aj hb12 h
  refine Ar ?_
  show ∃ _,_
  exact ⟨l3,(En.of ⟨rfl,Tvv⟩ ⟨rfl,Tvv⟩ trivial),h⟩
 intro k h
 refine Aq ?_
 refine Md 3 27 5 (.bytes []) rfl rfl rfl rfl ?_
 refine Bh (α:=(List Int)×Int) (fun | (l15,m16)=>(⟨[(0,.int n_0),(3,.row 27 0 l15.length),(4,.int m16)],[(27,some (5,.bytes l15))],[]⟩:PS)) (Dt N k) h (En.of ⟨rfl,rfl,rfl,Tvv⟩ ⟨rfl,Tvv⟩ trivial) (fun _=>rfl) ?_
 rintro n ⟨l15,m16⟩ h
 rw [Dt] at h
 show VC _ _ _ (⟨[(0,.int n_0),(3,.row 27 0 l15.length),(4,.int m16)],[(27,some (5,.bytes l15))],[]⟩:PS)
 iterate 2 refine Ag ?_
 refine Aa ?_
 iterate 2 refine oV5 tt rfl Tvv ?_
 refine Ae ?_
 show VC ..
 refine Au rfl (fun hb14=>?_) (fun hb14=>?_)
 ·replace h:=Ai hb14 h
  refine Ar ?_
  show VC ..
  refine Ag ?_
  refine Aq ?_
  refine Ag ?_
  refine Aa ?_
  refine oV5 tt rfl Tvv ?_
  obtain ⟨hg15,h⟩:=Ab h
  refine oV5 tt rfl hg15 ?_
  refine oV5 tt rfl Tvv ?_
  refine Ae ?_
  show VC ..
  iterate 2 refine Ag ?_
  refine Aa ?_
  iterate 2 refine oV5 tt rfl Tvv ?_
  refine Ae ?_
  show VC ..
  refine Au rfl (fun hb16=>?_) (fun hb16=>?_)
  ·replace h:=Ai hb16 h
   refine Aa ?_
   refine oV5 tt rfl Tvv ?_
   obtain ⟨hg17,h⟩:=Ab h
   refine oV5 tt rfl hg17 ?_
   refine oV5 tt rfl Tvv ?_
   refine Ae ?_
   show VC ..
   refine Aa ?_
   iterate 2 refine oV5 tt rfl Tvv ?_
   obtain ⟨hg18,h⟩:=Ab h
   refine oV5 tt rfl hg18 ?_
   refine Du (Ad rfl) (pConvU8 Try.underlying3 Try.underlying5 rfl rfl) rfl rfl ?_
   refine Cv tt rfl rfl rfl rfl rfl rfl rfl rfl rfl rfl rfl ?_
   obtain ⟨hg19,h⟩:=Ab h
   refine Bp tt rfl rfl rfl rfl rfl rfl rfl rfl rfl rfl rfl rfl rfl rfl rfl rfl (Nat.le_of_eq (Nat.zero_add _)) hg19 ?_
   refine oV5 tt rfl Tvv ?_
   refine Ae ?_
   show VC ..
   refine Aa ?_
   refine oV5 tt rfl Tvv ?_
   obtain ⟨hg20,h⟩:=Ab h
   refine oV5 tt rfl hg20 ?_
   refine oV5 tt rfl Tvv ?_
   refine Ae ?_
   show ∃ _,_
   exact ⟨((l15++([(((48:Int)+(-(Int.tmod m16 (10:Int)))) % 256)]:List Int)),(Int.tdiv m16 (10:Int))),(En.of ⟨rfl,rfl,rfl,Tvv⟩ ⟨rfl,Tvv⟩ trivial),h⟩
  replace h:=Aj hb16 h
  refine Ar ?_
  show VC ..
  refine Aa ?_
  iterate 2 refine oV5 tt rfl Tvv ?_
  obtain ⟨hg21,h⟩:=Ab h
  refine oV5 tt rfl hg21 ?_
  refine Du (Ad rfl) (pConvU8 Try.underlying3 Try.underlying5 rfl rfl) rfl rfl ?_
  refine Cv tt rfl rfl rfl rfl rfl rfl rfl rfl rfl rfl rfl ?_
  obtain ⟨hg22,h⟩:=Ab h
  refine Bp tt rfl rfl rfl rfl rfl rfl rfl rfl rfl rfl rfl rfl rfl rfl rfl rfl (Nat.le_of_eq (Nat.zero_add _)) hg22 ?_
  refine oV5 tt rfl Tvv ?_
  refine Ae ?_
  show VC ..
  refine Aa ?_
  refine oV5 tt rfl Tvv ?_
  obtain ⟨hg23,h⟩:=Ab h
  refine oV5 tt rfl hg23 ?_
  refine oV5 tt rfl Tvv ?_
  refine Ae ?_
  show ∃ _,_
  exact ⟨((l15++([(((48:Int)+(Int.tmod m16 (10:Int))) % 256)]:List Int)),(Int.tdiv m16 (10:Int))),(En.of ⟨rfl,rfl,rfl,Tvv⟩ ⟨rfl,Tvv⟩ trivial),h⟩
 replace h:=Aj hb14 h
 refine Bq ?_
 show ∃ _,_
 exact ⟨l15,(En.of ⟨rfl,rfl,Tvv⟩ ⟨rfl,Tvv⟩ trivial),h⟩
def Ht (N:Nat) (l_0:List Int) (k:(List ByteArray)→Option (ByteArray)):Nat→((List ByteArray)×Int)→Option (ByteArray)
 | 0,_=>none
 | n+1,(l12,x13)=>
  cnd (decide (x13<(l_0.length:Int))) (
   grd (0≤x13∧x13<(l_0.length:Int)) <|
   (Kw N (l_0.getD ((x13).toNat) 0)).bind fun v15=>
   grd (l12.length+1≤4294967296) <|
   grd (Bf (x13+(1:Int))) <|
   Ht N l_0 k n ((l12++([v15]:List ByteArray)),(x13+(1:Int)))) (
   k l12)
def Rl (N:Nat) (l_0:List Int):Option (ByteArray):=
 Ht N l_0 (fun (l7 : List ByteArray) =>
    (Sw N l7 (ByteArray.mk #[44])).bind fun v8=>
    some v8) N (([]:List ByteArray),(0:Int))
theorem I_numbers_w (N:Nat) (l_0:List Int) (r:ByteArray) (h:Rl N l_0=some r):PCall Try.prog 115 [.ro false (.ints l_0)] [] (.val (.string r)):=by
 unfold Rl at h
 refine Ah (TT:=TT) tt Try.func115 rfl rfl Try.ntmps115 (congrArg Array.toList Try.results115) rfl rfl fun w0=>?_
 refine Ag ?_
 refine Aa ?_
 refine oV5 tt rfl Tvv ?_
 refine Ae ?_
 show VC ..
 refine Ag ?_
 refine Aa ?_
 refine Fa tt (Ad rfl) rfl rfl rfl rfl ?_
 refine oV5 tt rfl Tvv ?_
 refine Ae ?_
 show VC ..
 iterate 2 refine Ag ?_
 refine Aa ?_
 iterate 3 refine oV5 tt rfl Tvv ?_
 refine Ae ?_
 show VC ..
 refine Ck (F:=fun k=>Ht N l_0 k) h (α:=List ByteArray) (J:=fun (l7:List ByteArray)=>(⟨[(3,.row 17 0 l7.length)],[(17,some (9,.strs l7))],[]⟩:PS)) ?_ ?_
 ·rintro l7 h
  show VC _ _ _ (⟨[(3,.row 17 0 l7.length)],[(17,some (9,.strs l7))],[]⟩:PS)
  refine Ag ?_
  refine Aa ?_
  refine oV5 tt rfl Tvv ?_
  obtain ⟨v8,hc1,h⟩:=Ac h
  refine Ba (I_glued_w N l7 (ByteArray.mk #[44]) v8 hc1) rfl rfl rfl rfl rfl rfl rfl rfl ⟨(.inl ⟨rfl,rfl⟩),rfl,Tvv⟩ ?_
  refine oV5 tt rfl Tvv ?_
  refine Ae ?_
  show VC ..
  refine Bb ?_
  show ∃ _,_
  cases h
  exact ⟨[],_,rfl,Tvv,rfl,(.eq rfl),rfl⟩
 intro k h
 refine Aq ?_
 refine Md 3 17 9 (.strs []) rfl rfl rfl rfl ?_
 refine Bh (α:=(List ByteArray)×Int) (fun | (l12,x13)=>(⟨[(3,.row 17 0 l12.length),(7,.ro false (.ints l_0)),(8,.int (l_0.length:Int)),(9,.int x13)],[(17,some (9,.strs l12))],[]⟩:PS)) (Ht N l_0 k) h (En.of ⟨rfl,rfl,rfl,rfl,Tvv⟩ ⟨rfl,Tvv⟩ trivial) (fun _=>rfl) ?_
 rintro n ⟨l12,x13⟩ h
 rw [Ht] at h
 show VC _ _ _ (⟨[(3,.row 17 0 l12.length),(7,.ro false (.ints l_0)),(8,.int (l_0.length:Int)),(9,.int x13)],[(17,some (9,.strs l12))],[]⟩:PS)
 refine Ag ?_
 refine Aa ?_
 refine oV5 tt rfl Tvv ?_
 refine Ae ?_
 show VC ..
 refine Ag ?_
 refine Au rfl (fun hb2=>?_) (fun hb2=>?_)
 ·replace h:=Ai hb2 h
  refine Ar ?_
  show VC ..
  refine Ag ?_
  refine Aq ?_
  refine Ag ?_
  refine Aa ?_
  obtain ⟨hg3,h⟩:=Ab h
  refine oV5 tt rfl hg3 ?_
  iterate 2 refine oV5 tt rfl Tvv ?_
  refine Ae ?_
  show VC ..
  refine Aa ?_
  iterate 2 refine oV5 tt rfl Tvv ?_
  obtain ⟨v15,hc4,h⟩:=Ac h
  refine Ba (Vl N (l_0.getD ((x13).toNat) 0) v15 hc4) rfl rfl rfl rfl rfl rfl rfl rfl ⟨rfl,Tvv⟩ ?_
  refine Cv tt rfl rfl rfl rfl rfl rfl rfl rfl rfl rfl rfl ?_
  obtain ⟨hg5,h⟩:=Ab h
  refine Bp tt rfl rfl rfl rfl rfl rfl rfl rfl rfl rfl rfl rfl rfl rfl rfl rfl (Nat.le_of_eq (Nat.zero_add _)) hg5 ?_
  refine oV5 tt rfl Tvv ?_
  refine Ae ?_
  show VC ..
  refine Aa ?_
  obtain ⟨hg6,h⟩:=Ab h
  refine oV5 tt rfl hg6 ?_
  refine oV5 tt rfl Tvv ?_
  refine Ae ?_
  show ∃ _,_
  exact ⟨((l12++([v15]:List ByteArray)),(x13+(1:Int))),(En.of ⟨rfl,rfl,rfl,rfl,Tvv⟩ ⟨rfl,Tvv⟩ trivial),h⟩
 replace h:=Aj hb2 h
 refine Bq ?_
 show ∃ _,_
 exact ⟨l12,(En.of ⟨rfl,Tvv⟩ ⟨rfl,Tvv⟩ trivial),h⟩
def Df (N:Nat) (l_0:List (Int×List Int)) (k:(List ByteArray)→Option (ByteArray)):Nat→((List ByteArray)×Int)→Option (ByteArray)
 | 0,_=>none
 | n+1,(l18,x19)=>
  cnd (decide (x19<(l_0.length:Int))) (
   grd (0≤x19∧x19<(l_0.length:Int)) <|
   (Kw N ((l_0.getD ((x19).toNat) (0,[])).1)).bind fun v22=>
   grd (v22.size+(ByteArray.mk #[58]).size≤9223372036854775807) <|
   (Rl N ((l_0.getD ((x19).toNat) (0,[])).2)).bind fun v23=>
   grd ((v22++(ByteArray.mk #[58])).size+v23.size≤9223372036854775807) <|
   grd (l18.length+1≤4294967296) <|
   grd (Bf (x19+(1:Int))) <|
   Df N l_0 k n ((l18++([((v22++(ByteArray.mk #[58]))++v23)]:List ByteArray)),(x19+(1:Int)))) (
   k l18)
def Hq (N:Nat) (l_0:List (Int×List Int)):Option (ByteArray):=
 cnd ((l_0.length:Int)==(0:Int)) (
  some (ByteArray.mk #[110,111,110,101])) (
  Df N l_0 (fun (l11 : List ByteArray) =>
     (Sw N l11 (ByteArray.mk #[32])).bind fun v12=>
     some v12) N (([]:List ByteArray),(0:Int)))
theorem Wv (N:Nat) (l_0:List (Int×List Int)) (r:ByteArray) (h:Hq N l_0=some r):PCall Try.prog 13 [.ro false (.raises l_0)] [] (.val (.string r)):=by
 unfold Hq at h
 refine Ah (TT:=TT) tt Try.func13 rfl rfl Try.ntmps13 (congrArg Array.toList Try.results13) rfl rfl fun w0=>?_
 refine Ag ?_
 refine Aa ?_
 refine oV5 tt rfl Tvv ?_
 refine Ae ?_
 show VC ..
 iterate 2 refine Ag ?_
 refine Aa ?_
 iterate 3 refine oV5 tt rfl Tvv ?_
 refine Ae ?_
 show VC ..
 refine Au rfl (fun hb1=>?_) (fun hb1=>?_)
 ·replace h:=Ai hb1 h
  refine Ag ?_
  refine Aa ?_
  refine oV5 tt rfl Tvv ?_
  refine Ae ?_
  show VC ..
  refine Bb ?_
  show ∃ _,_
  cases h
  exact ⟨[],_,rfl,Tvv,rfl,(.eq rfl),rfl⟩
 replace h:=Aj hb1 h
 refine Ar ?_
 show VC ..
 refine Ag ?_
 refine Aa ?_
 refine Fa tt (Ad rfl) rfl rfl rfl rfl ?_
 refine oV5 tt rfl Tvv ?_
 refine Ae ?_
 show VC ..
 iterate 2 refine Ag ?_
 refine Aa ?_
 iterate 3 refine oV5 tt rfl Tvv ?_
 refine Ae ?_
 show VC ..
 refine Ck (F:=fun k=>Df N l_0 k) h (α:=List ByteArray) (J:=fun (l11:List ByteArray)=>(⟨[(3,.row 26 0 l11.length)],[(26,some (9,.strs l11))],[]⟩:PS)) ?_ ?_
 ·rintro l11 h
  show VC _ _ _ (⟨[(3,.row 26 0 l11.length)],[(26,some (9,.strs l11))],[]⟩:PS)
  refine Ag ?_
  refine Aa ?_
  refine oV5 tt rfl Tvv ?_
  obtain ⟨v12,hc2,h⟩:=Ac h
  refine Ba (I_glued_w N l11 (ByteArray.mk #[32]) v12 hc2) rfl rfl rfl rfl rfl rfl rfl rfl ⟨(.inl ⟨rfl,rfl⟩),rfl,Tvv⟩ ?_
  refine oV5 tt rfl Tvv ?_
  refine Ae ?_
  show VC ..
  refine Bb ?_
  show ∃ _,_
  cases h
  exact ⟨[],_,rfl,Tvv,rfl,(.eq rfl),rfl⟩
 intro k h
 refine Aq ?_
 refine Md 3 26 9 (.strs []) rfl rfl rfl rfl ?_
 refine Bh (α:=(List ByteArray)×Int) (fun | (l18,x19)=>(⟨[(3,.row 26 0 l18.length),(10,.ro false (.raises l_0)),(11,.int (l_0.length:Int)),(12,.int x19)],[(26,some (9,.strs l18))],[]⟩:PS)) (Df N l_0 k) h (En.of ⟨rfl,rfl,rfl,rfl,Tvv⟩ ⟨rfl,Tvv⟩ trivial) (fun _=>rfl) ?_
 rintro n ⟨l18,x19⟩ h
 rw [Df] at h
 show VC _ _ _ (⟨[(3,.row 26 0 l18.length),(10,.ro false (.raises l_0)),(11,.int (l_0.length:Int)),(12,.int x19)],[(26,some (9,.strs l18))],[]⟩:PS)
 refine Ag ?_
 refine Aa ?_
 refine oV5 tt rfl Tvv ?_
 refine Ae ?_
 show VC ..
 refine Ag ?_
 refine Au rfl (fun hb3=>?_) (fun hb3=>?_)
 ·replace h:=Ai hb3 h
  refine Ar ?_
  show VC ..
  refine Ag ?_
  refine Aq ?_
  refine Ag ?_
  refine Aa ?_
  obtain ⟨hg4,h⟩:=Ab h
  refine oV5 tt rfl hg4 ?_
  refine oV5 tt rfl Tvv ?_
  refine Bj tt rfl rfl rfl rfl rfl rfl rfl rfl rfl ?_
  refine Ao tt rfl rfl rfl rfl rfl rfl rfl rfl rfl rfl rfl ⟨Tvv,Tvv,Tvv⟩ ?_
  refine Ae ?_
  show VC ..
  refine Bl 10 [9] [0,0,2,6,14,0,32,110,254,510,1023,2047] (by kernel_rfl) (by kernel_rfl) (by kernel_rfl) (by kernel_rfl) (by kernel_rfl) rfl (by rfl) ?_
  iterate 3 refine Bo tt rfl (Ad rfl) rfl rfl rfl rfl rfl Tvv ?_
  obtain ⟨v22,hc5,h⟩:=Ac h
  refine Lr (Vl N ((l_0.getD ((x19).toNat) (0,[])).1) v22 hc5) rfl (Ad rfl) rfl rfl rfl rfl rfl rfl rfl rfl ⟨rfl,Tvv⟩ ?_
  obtain ⟨hg6,h⟩:=Ab h
  refine Sz (Ad rfl) (Ky rfl rfl rfl hg6) rfl rfl rfl rfl ?_
  iterate 2 refine Bo tt rfl (Ad rfl) rfl rfl rfl rfl rfl Tvv ?_
  obtain ⟨v23,hc7,h⟩:=Ac h
  refine Lr (I_numbers_w N ((l_0.getD ((x19).toNat) (0,[])).2) v23 hc7) rfl (Ad rfl) rfl rfl rfl rfl rfl rfl rfl rfl ⟨rfl,Tvv⟩ ?_
  obtain ⟨hg8,h⟩:=Ab h
  refine Sz (Ad rfl) (Ky rfl rfl rfl hg8) rfl rfl rfl rfl ?_
  refine Zu tt (Ad rfl) rfl rfl rfl rfl rfl rfl rfl rfl rfl rfl rfl rfl ?_
  refine Lt ?_
  show VO _ _ _ _ _
  obtain ⟨hg9,h⟩:=Ab h
  refine Bp tt rfl rfl rfl rfl rfl rfl rfl rfl rfl rfl rfl rfl rfl rfl rfl rfl (Nat.le_of_eq (Nat.zero_add _)) hg9 ?_
  refine oV5 tt rfl Tvv ?_
  refine Ae ?_
  show VC ..
  refine Aa ?_
  obtain ⟨hg10,h⟩:=Ab h
  refine oV5 tt rfl hg10 ?_
  refine oV5 tt rfl Tvv ?_
  refine Ae ?_
  show ∃ _,_
  exact ⟨((l18++([((v22++(ByteArray.mk #[58]))++v23)]:List ByteArray)),(x19+(1:Int))),(En.of ⟨rfl,rfl,rfl,rfl,Tvv⟩ ⟨rfl,Tvv⟩ trivial),h⟩
 replace h:=Aj hb3 h
 refine Bq ?_
 show ∃ _,_
 exact ⟨l18,(En.of ⟨rfl,Tvv⟩ ⟨rfl,Tvv⟩ trivial),h⟩
end
section
variable {N:Nat}
theorem son_app (a b:List Int):strOfNums (a++b)=strOfNums a++strOfNums b:=by
 apply ByteArray.ext
 rw [ByteArray.data_append]
 simp [strOfNums]
theorem son_nil:strOfNums []=ByteArray.mk #[]:=rfl
theorem nil_app (a:ByteArray):ByteArray.mk #[]++a=a:=by
 apply ByteArray.ext
 rw [ByteArray.data_append]
 simp
theorem app_nil' (a:ByteArray):a++ByteArray.mk #[]=a:=by
 apply ByteArray.ext
 rw [ByteArray.data_append]
 simp
theorem Xo (a b c:ByteArray):a++b++c=a++(b++c):=by
 apply ByteArray.ext
 simp only [ByteArray.data_append,Array.append_assoc]
theorem Kn (a b:ByteArray):(a++b).size=a.size+b.size:=ByteArray.size_append
def dgt (m:Int):Int:=cnd (decide (Int.tmod m 10<0)) ((48+(-(Int.tmod m 10))) % 256) ((48+Int.tmod m 10) % 256)
def digs:Nat→Int→List Int
 | 0,_=>[]
 | f+1,m=>cnd (m != 0) (dgt m::digs f (Int.tdiv m 10)) []
theorem Yh:∀ (f:Nat) (m:Int),(digs f m).length≤f
 | 0,_=>by simp [digs]
 | f+1,m=>by
  unfold digs
  cases m != 0 with
  | true=>rw [cnd_true,List.length_cons]; have:=Yh f (Int.tdiv m 10); omega
  | false=>rw [cnd_false]; simp
theorem tmod_bd (m:Int):-10<Int.tmod m 10∧Int.tmod m 10<10:=by
 have h:=Int.natAbs_tmod m 10
 have h2:m.natAbs % (10:Int).natAbs<10:=Nat.mod_lt _ (by decide)
 omega
theorem tdiv_bd {m:Int} {f:Nat} (h:m.natAbs<10 ^ (f+1)):(Int.tdiv m 10).natAbs<10 ^ f:=by
 rw [Int.natAbs_tdiv]
 have e:(10:Int).natAbs=10:=rfl
 rw [e]
 rw [Nat.pow_succ] at h
 exact (Nat.div_lt_iff_lt_mul (by omega)).2 h
theorem tdiv_rg {m:Int} (h:Bf m):Bf (Int.tdiv m 10):=by
 have h1:=Int.natAbs_tdiv m 10
 have e:(10:Int).natAbs=10:=rfl
 rw [e] at h1
 have h2:m.natAbs / 10≤m.natAbs:=Nat.div_le_self _ _
 obtain ⟨h3,h4⟩:=h
 have h5:(Int.tdiv m 10).natAbs=m.natAbs / 10:=h1
 rcases Int.natAbs_eq (Int.tdiv m 10) with e1 | e1 <;> rcases Int.natAbs_eq m with e2 | e2 <;> constructor <;> omega
theorem S_dig (hN:4000000≤N) (k:ByteArray→Option ByteArray):∀ (f fuel:Nat) (m:Int) (out:ByteArray),m.natAbs<10 ^ f→Bf m→f<fuel→out.size+f≤1000→Dq N k fuel (m,out)=k (strOfNums (digs f m).reverse++out):=by
 intro f
 induction f with
 | zero=>
  intro fuel m out h1 h2 h3 h4
  obtain ⟨fuel,rfl⟩:∃ g,fuel=g+1:=⟨fuel-1,by omega⟩
  have hm:m=0:=by rw [Nat.pow_zero] at h1; omega
  subst hm
  rw [Dq]
  show k out=_
  unfold digs
  rw [List.reverse_nil,son_nil,nil_app]
 | succ f ih=>
  intro fuel m out h1 h2 h3 h4
  obtain ⟨fuel,rfl⟩:∃ g,fuel=g+1:=⟨fuel-1,by omega⟩
  have hb:=tmod_bd m
  have hr:=tdiv_rg h2
  rw [Dq]
  unfold digs
  cases hm:m != 0 with
  | false=>rw [cnd_false,cnd_false,List.reverse_nil,son_nil,nil_app]
  | true=>
   rw [cnd_true,cnd_true,List.reverse_cons,son_app,Xo,Af (by omega)]
   unfold dgt
   by_cases hd:Int.tmod m 10<0
   ·rw [Al hd,Al hd,At (by omega) (by omega),At (by omega) (by omega)]
    have hs:(strOfNums ([((48:Int)+(-(Int.tmod m 10))) % 256]:List Int)).size=1:=by rw [strOfNums_size]; rfl
    rw [Af (p:=(strOfNums ([((48:Int)+(-(Int.tmod m 10))) % 256]:List Int)).size+out.size≤9223372036854775807) (by omega),Af (p:=(10:Int)≠0∧Bf (Int.tdiv m 10)) ⟨by omega,hr⟩]
    exact ih fuel _ _ (tdiv_bd h1) hr (by omega) (by rw [Kn,hs]; omega)
   rw [Ak hd,Ak hd,At (by omega) (by omega)]
   have hs:(strOfNums ([((48:Int)+(Int.tmod m 10)) % 256]:List Int)).size=1:=by rw [strOfNums_size]; rfl
   rw [Af (p:=(strOfNums ([((48:Int)+(Int.tmod m 10)) % 256]:List Int)).size+out.size≤9223372036854775807) (by omega),Af (p:=(10:Int)≠0∧Bf (Int.tdiv m 10)) ⟨by omega,hr⟩]
   exact ih fuel _ _ (tdiv_bd h1) hr (by omega) (by rw [Kn,hs]; omega)
theorem I_dig (hN:4000000≤N) (k:List Int→Option ByteArray):∀ (f fuel:Nat) (m:Int) (l:List Int),m.natAbs<10 ^ f→Bf m→f<fuel→l.length+f≤1000→Dt N k fuel (l,m)=k (l++digs f m):=by
 intro f
 induction f with
 | zero=>
  intro fuel m l h1 h2 h3 h4
  obtain ⟨fuel,rfl⟩:∃ g,fuel=g+1:=⟨fuel-1,by omega⟩
  have hm:m=0:=by rw [Nat.pow_zero] at h1; omega
  subst hm
  rw [Dt]
  show k l=_
  unfold digs
  rw [List.append_nil]
 | succ f ih=>
  intro fuel m l h1 h2 h3 h4
  obtain ⟨fuel,rfl⟩:∃ g,fuel=g+1:=⟨fuel-1,by omega⟩
  have hb:=tmod_bd m
  have hr:=tdiv_rg h2
  rw [Dt]
  unfold digs
  cases hm:m != 0 with
  | false=>rw [cnd_false,cnd_false,List.append_nil]
  | true=>
   rw [cnd_true,cnd_true,Af (by omega),show l++dgt m::digs f (Int.tdiv m 10)=(l++[dgt m])++digs f (Int.tdiv m 10) from by simp]
   unfold dgt
   by_cases hd:Int.tmod m 10<0
   ·rw [Al hd,Al hd,At (by omega) (by omega),At (by omega) (by omega),Af (p:=l.length+1≤4294967296) (by omega),Af (p:=(10:Int)≠0∧Bf (Int.tdiv m 10)) ⟨by omega,hr⟩]
    exact ih fuel _ _ (tdiv_bd h1) hr (by omega) (by rw [List.length_append,List.length_singleton]; omega)
   rw [Ak hd,Ak hd,At (by omega) (by omega),Af (p:=l.length+1≤4294967296) (by omega),Af (p:=(10:Int)≠0∧Bf (Int.tdiv m 10)) ⟨by omega,hr⟩]
   exact ih fuel _ _ (tdiv_bd h1) hr (by omega) (by rw [List.length_append,List.length_singleton]; omega)
theorem Aa4 {α:Type} (l:List α) (i p:Nat) (x d:α) (hi:i<l.length):(l.set i x).getD p d=if p=i then x else l.getD p d:=by
 rw [List.getD_eq_getElem?_getD,List.getElem?_set]
 by_cases h:i=p
 ·subst h; simp [hi]
 rw [if_neg h,if_neg (fun e=>h e.symm),List.getD_eq_getElem?_getD]
theorem I_rev (hN:4000000≤N) {l:List Int} (hl:l.length≤1000) (k:List Int→Option ByteArray):∀ (c i fuel:Nat) (L:List Int),l.length≤2*i+c→c<fuel→i≤l.length→L.length=l.length→(∀ p,p<l.length→L.getD p 0=if p<i∨l.length≤p+i then l.getD (l.length-1-p) 0 else l.getD p 0)→Ds N l k fuel (L,(i:Int),(l.length:Int)-1-(i:Int))=k l.reverse:=by
 intro c
 have fin:∀ (i:Nat) (L:List Int),l.length≤2*i+1→L.length=l.length→(∀ p,p<l.length→L.getD p 0=if p<i∨l.length≤p+i then l.getD (l.length-1-p) 0 else l.getD p 0)→L=l.reverse:=fun i L h1 h2 h3=>by
  apply List.ext_getElem (by rw [h2,List.length_reverse])
  intro p hp hp2
  have h4:=h3 p (by omega)
  have e1:L[p]=L.getD p 0:=by rw [List.getD_eq_getElem?_getD,List.getElem?_eq_getElem hp]; rfl
  have e2:l.reverse[p]=l.getD (l.length-1-p) 0:=by
   rw [List.getElem_reverse,List.getD_eq_getElem?_getD,List.getElem?_eq_getElem (by omega)]; rfl
  rw [e1,e2,h4]
  split
  ·rfl
  rename_i h5
  have:l.length-1-p=p:=by omega
  rw [this]
 induction c with
 | zero=>
  intro i fuel L h1 h2 h3 h4 h5
  obtain ⟨fuel,rfl⟩:∃ g,fuel=g+1:=⟨fuel-1,by omega⟩
  rw [Ds,Ak (by omega),fin i L (by omega) h4 h5]
 | succ c ih=>
  intro i fuel L h1 h2 h3 h4 h5
  obtain ⟨fuel,rfl⟩:∃ g,fuel=g+1:=⟨fuel-1,by omega⟩
  rw [Ds]
  by_cases hij:(i:Int)<(l.length:Int)-1-(i:Int)
  ·obtain ⟨j,hj⟩:∃ j:Nat,(l.length:Int)-1-(i:Int)=(j:Int):=⟨l.length-1-i,by omega⟩
   have hj2:j=l.length-1-i:=by omega
   have e1:((i:Int)).toNat=i:=by omega
   have e2:((j:Int)).toNat=j:=by omega
   rw [hj,Al (by omega),e1,e2,Af (p:=0≤(j:Int)∧(j:Int)<(l.length:Int)) (by omega),Af (p:=0≤(j:Int)∧(j:Int)<(L.length:Int)) (by omega),Af (p:=0≤(i:Int)∧(i:Int)<(l.length:Int)) (by omega),Af (p:=0≤(i:Int)∧(i:Int)<(L.length:Int)) (by omega),Af (by rw [List.length_set]; omega),At (by omega) (by omega),At (by omega) (by omega),Am]
   have e3:(j:Int)-1=(l.length:Int)-1-((i+1:Nat):Int):=by omega
   rw [e3]
   refine ih (i+1) fuel _ (by omega) (by omega) (by omega) (by rw [List.length_set,List.length_set]; exact h4) fun p hp=>?_
   rw [Aa4 _ _ _ _ _ (by rw [List.length_set]; omega),Aa4 _ _ _ _ _ (by omega)]
   have a1:=h5 i (by omega)
   have a2:=h5 j (by omega)
   have a3:=h5 p hp
   rw [if_neg (by omega)] at a1 a2
   by_cases g1:p=j
   ·rw [if_pos g1,if_pos (by omega),a1]; congr 1; omega
   rw [if_neg g1]
   by_cases g2:p=i
   ·rw [if_pos g2,if_pos (by omega),a2]; congr 1; omega
   rw [if_neg g2,a3]
   by_cases g3:p<i∨l.length≤p+i
   ·rw [if_pos g3,if_pos (by omega)]
   rw [if_neg g3,if_neg (by omega)]
  rw [Ak hij,fin i L (by omega) h4 h5]
def fmtL (n:Int):List Int:=cnd (n==0) [48] (cnd (decide (n<0)) (45::(digs 20 n).reverse) (digs 20 n).reverse)
def fmtI (n:Int):ByteArray:=strOfNums (fmtL n)
theorem Qg (n:Int):(fmtI n).size≤21:=by
 unfold fmtI fmtL
 rw [strOfNums_size]
 have:=Yh 20 n
 cases n==0 with
 | true=>rw [cnd_true]; simp
 | false=>
  rw [cnd_false]
  cases decide (n<0) with
  | true=>rw [cnd_true,List.length_cons,List.length_reverse]; omega
  | false=>rw [cnd_false,List.length_reverse]; omega
theorem abs_bd {n:Int} (h:Bf n):n.natAbs<10 ^ 20:=by
 have e:(10:Nat) ^ 20=100000000000000000000:=by decide
 obtain ⟨h1,h2⟩:=h
 rw [e]; omega
theorem fmtS_s (hN:4000000≤N) {n:Int} (h:Bf n):Jt N n=some (fmtI n):=by
 unfold Jt fmtI fmtL
 cases hn:n==0 with
 | true=>rw [cnd_true,cnd_true]; rfl
 | false=>
  have hs:(ByteArray.mk #[]).size=0:=rfl
  rw [cnd_false,cnd_false,S_dig hN _ 20 N n (ByteArray.mk #[]) (abs_bd h) h (by omega) (by omega),app_nil']
  have hl:=Yh 20 n
  have hz:(strOfNums (digs 20 n).reverse).size≤20:=by rw [strOfNums_size,List.length_reverse]; exact hl
  by_cases h0:n<0
  ·have h45:(ByteArray.mk #[45]).size=1:=rfl
   rw [Al h0,Al h0,Af (by omega),show (45:Int)::(digs 20 n).reverse=[45]++(digs 20 n).reverse from rfl,son_app]; rfl
  rw [Ak h0,Ak h0]
theorem fmtI_s (hN:4000000≤N) {n:Int} (h:Bf n):Kw N n=some (fmtI n):=by
 unfold Kw fmtI fmtL
 cases hn:n==0 with
 | true=>rw [cnd_true,cnd_true]; rfl
 | false=>
  rw [cnd_false,cnd_false,I_dig hN _ 20 N n [] (abs_bd h) h (by omega) (by simp),List.nil_append]
  have hl:=Yh 20 n
  have key:∀ l:List Int,l.length≤100→(grd (Bf ((l.length:Int)-(1:Int))) <| Ds N l (fun (l8:List Int)=>grd (l.length=l8.length) <| some (strOfNums l8)) N (l,(0:Int),((l.length:Int)-(1:Int))))=some (strOfNums l.reverse):=fun l hl=>by
   rw [At (by omega) (by omega)]
   have:=I_rev hN (l:=l) (by omega) (fun (l8:List Int)=>grd (l.length=l8.length) <| some (strOfNums l8)) l.length 0 N l (by omega) (by omega) (by omega) rfl (fun p hp=>by rw [if_neg (by omega)])
   rw [show (l.length:Int)-1-((0:Nat):Int)=(l.length:Int)-1 from by omega] at this
   refine this.trans ?_
   rw [Af (by rw [List.length_reverse])]
  rw [jn_def]
  by_cases h0:n<0
  ·rw [Al h0,Al h0,Af (by omega)]
   refine (key _ (by rw [List.length_append,List.length_singleton]; omega)).trans ?_
   rw [List.reverse_append]; rfl
  rw [Ak h0,Ak h0]
  exact key _ (by omega)
def gl (b:ByteArray):Bool→ByteArray→List ByteArray→ByteArray
 | _,s,[]=>s
 | true,s,x::l=>gl b false (s++x) l
 | false,s,x::l=>gl b false (s++b++x) l
theorem gl_app (b:ByteArray):∀ (l:List ByteArray) (f:Bool) (a s:ByteArray),gl b f (a++s) l=a++gl b f s l
 | [],f,a,s=>by cases f <;> rfl
 | x::l,true,a,s=>by
  unfold gl
  rw [Xo,gl_app b l false a (s++x)]
 | x::l,false,a,s=>by
  unfold gl
  rw [Xo,Xo,gl_app b l false a (s++(b++x)),←Xo]
theorem gl_size {b:ByteArray} {c:Nat}:∀ {l:List ByteArray} (f:Bool) (s:ByteArray),(∀ x∈l,x.size≤c)→(gl b f s l).size≤s.size+l.length*(c+b.size)
 | [],f,s,h=>by cases f <;> simp [gl]
 | x::l,true,s,h=>by
  unfold gl
  have h1:=gl_size (b:=b) (l:=l) false (s++x) fun y hy=>h y (by simp [hy])
  have h2:=h x (by simp)
  rw [Kn] at h1
  rw [List.length_cons,Nat.succ_mul]; omega
 | x::l,false,s,h=>by
  unfold gl
  have h1:=gl_size (b:=b) (l:=l) false (s++b++x) fun y hy=>h y (by simp [hy])
  have h2:=h x (by simp)
  rw [Kn,Kn] at h1
  rw [List.length_cons,Nat.succ_mul]; omega
theorem dropD {α:Type} {l:List α} {i:Nat} (d:α) (hi:i<l.length):l.drop i=l.getD i d::l.drop (i+1):=by
 rw [List.drop_eq_getElem_cons hi,List.getD_eq_getElem?_getD,List.getElem?_eq_getElem hi]; rfl
theorem memD {α:Type} {l:List α} {i:Nat} (d:α) (hi:i<l.length):l.getD i d∈l:=by
 rw [List.getD_eq_getElem?_getD,List.getElem?_eq_getElem hi]; exact List.getElem_mem hi
theorem glued_l (hN:4000000≤N) {l:List ByteArray} {b:ByteArray} (hb:b.size≤1) (hl:l.length≤3000000) (hx:∀ x∈l,x.size≤100000000) (k:ByteArray→Option ByteArray):∀ (fuel i:Nat) (s:ByteArray),i≤l.length→l.length<fuel+i→s.size+(l.length-i)*200000000≤1000000000000000 →
  Jw N l b k fuel (s,(i:Int))=k (gl b (decide (i=0)) s (l.drop i)):=by
 intro fuel
 induction fuel with
 | zero=>intro i s h1 h2; omega
 | succ fuel ih=>
  intro i s h1 h2 h3
  rw [Jw]
  by_cases hi:i<l.length
  ·have hz:=hx _ (memD ByteArray.empty hi)
   rw [Al (by omega),Af (by omega),show ((i:Int)).toNat=i from by omega,dropD ByteArray.empty hi]
   by_cases h0:i=0
   ·subst h0
    rw [Ak (by omega),Af (by omega),At (by omega) (by omega),Am]
    refine (ih (0+1) _ (by omega) (by omega) (by rw [Kn]; omega)).trans ?_
    rfl
   have hs:(s++b).size=s.size+b.size:=Kn s b
   rw [Al (by omega),Af (by omega),Af (by omega),At (by omega) (by omega),Am]
   refine (ih (i+1) _ (by omega) (by omega) (by rw [Kn]; omega)).trans ?_
   rw [decide_eq_false h0,decide_eq_false (by omega)]; rfl
  rw [Ak (by omega),show i=l.length from by omega,List.drop_length]
  cases decide (l.length=0) <;> rfl
theorem glued_s (hN:4000000≤N) {l:List ByteArray} {b:ByteArray} (hb:b.size≤1) (hl:l.length≤3000000) (hx:∀ x∈l,x.size≤100000000):Sw N l b=some (gl b true (ByteArray.mk #[]) l):=by
 unfold Sw
 have hs:(ByteArray.mk #[]).size=0:=rfl
 exact glued_l hN hb hl hx (fun s3=>some s3) N 0 (ByteArray.mk #[]) (by omega) (by omega) (by omega)
theorem numbers_l (hN:4000000≤N) {l:List Int} (hl:l.length≤3000000) (hr:∀ x∈l,Bf x) (k:List ByteArray→Option ByteArray):∀ (fuel i:Nat) (L:List ByteArray),i≤l.length→l.length<fuel+i→L.length=i→Ht N l k fuel (L,(i:Int))=k (L++(l.drop i).map fmtI):=by
 intro fuel
 induction fuel with
 | zero=>intro i s h1 h2; omega
 | succ fuel ih=>
  intro i L h1 h2 h3
  rw [Ht]
  by_cases hi:i<l.length
  ·rw [Al (by omega),Af (by omega),show ((i:Int)).toNat=i from by omega,dropD 0 hi,fmtI_s hN (hr _ (memD 0 hi)),Option.bind_some,Af (by omega),At (by omega) (by omega),Am]
   refine (ih (i+1) _ (by omega) (by omega) (by rw [List.length_append,List.length_singleton]; omega)).trans ?_
   rw [List.map_cons,List.append_assoc]; rfl
  rw [Ak (by omega),show i=l.length from by omega,List.drop_length,List.map_nil,List.append_nil]
def numT (l:List Int):ByteArray:=gl (ByteArray.mk #[44]) true (ByteArray.mk #[]) (l.map fmtI)
theorem numbers_s (hN:4000000≤N) {l:List Int} (hl:l.length≤3000000) (hr:∀ x∈l,Bf x):Rl N l=some (numT l):=by
 unfold Rl
 refine (numbers_l hN hl hr _ N 0 [] (by omega) (by omega) rfl).trans ?_
 rw [List.nil_append,List.drop_zero,glued_s hN (show (ByteArray.mk #[44]).size≤1 from Nat.le_refl 1) (by rw [List.length_map]; exact hl) (fun x hx=>by obtain ⟨n,_,rfl⟩:=List.mem_map.1 hx; have:=Qg n; omega)]
 rfl
theorem numT_size {l:List Int} (hl:l.length≤3000000):(numT l).size≤70000000:=by
 unfold numT
 have h:=gl_size (b:=ByteArray.mk #[44]) (c:=21) (l:=l.map fmtI) true (ByteArray.mk #[]) fun x hx=>by obtain ⟨n,_,rfl⟩:=List.mem_map.1 hx; exact Qg n
 rw [List.length_map] at h
 have h1:(ByteArray.mk #[44]).size=1:=rfl
 have h2:(ByteArray.mk #[]).size=0:=rfl
 rw [h1,h2] at h
 omega
def Tg (x:Int×List Int):ByteArray:=fmtI x.1++ByteArray.mk #[58]++numT x.2
theorem Xc {x:Int×List Int} (hl:x.2.length≤3000000):1≤(Tg x).size∧(Tg x).size≤80000000:=by
 unfold Tg
 have h1:(ByteArray.mk #[58]).size=1:=rfl
 have h2:=Qg x.1
 have h3:=numT_size hl
 rw [Kn,Kn,h1]; omega
def RsOk (l:List (Int×List Int)):Prop:=∀ x∈l,Bf x.1∧x.2.length≤3000000∧∀ y∈x.2,Bf y
theorem fmtRI_l (hN:4000000≤N) {l:List (Int×List Int)} (hl:l.length≤3000000) (hr:RsOk l) (k:List ByteArray→Option ByteArray):∀ (fuel i:Nat) (L:List ByteArray),i≤l.length→l.length<fuel+i→L.length=i→Df N l k fuel (L,(i:Int))=k (L++(l.drop i).map Tg):=by
 intro fuel
 induction fuel with
 | zero=>intro i s h1 h2; omega
 | succ fuel ih=>
  intro i L h1 h2 h3
  rw [Df]
  by_cases hi:i<l.length
  ·obtain ⟨r1,r2,r3⟩:=hr _ (memD (0,[]) hi)
   have f1:=Qg (l.getD i (0,[])).1
   have f2:=numT_size r2
   have f3:(ByteArray.mk #[58]).size=1:=rfl
   have f4:=Kn (fmtI (l.getD i (0,[])).1) (ByteArray.mk #[58])
   rw [Al (by omega),Af (by omega),show ((i:Int)).toNat=i from by omega,dropD (0,[]) hi,fmtI_s hN r1,Option.bind_some,Af (by omega),numbers_s hN r2 r3,Option.bind_some,Af (by omega),Af (by omega),At (by omega) (by omega),Am]
   refine (ih (i+1) _ (by omega) (by omega) (by rw [List.length_append,List.length_singleton]; omega)).trans ?_
   rw [List.map_cons,List.append_assoc]; rfl
  rw [Ak (by omega),show i=l.length from by omega,List.drop_length,List.map_nil,List.append_nil]
theorem fmtRS_l2 (hN:4000000≤N) {l:List (Int×List Int)} {i:Nat} (hr:(l.getD i (0,[])).2.length≤3000000∧∀ y∈(l.getD i (0,[])).2,Bf y) (k:ByteArray→Option ByteArray):∀ (fuel j:Nat) (s:ByteArray),j≤(l.getD i (0,[])).2.length→(l.getD i (0,[])).2.length<fuel+j→s.size+((l.getD i (0,[])).2.length-j)*30≤10000000000000000 →
  Cl N l (i:Int) k fuel (s,(j:Int))=k (gl (ByteArray.mk #[44]) (decide (j=0)) s (((l.getD i (0,[])).2.drop j).map fmtI)):=by
 obtain ⟨hl,hr⟩:=hr
 intro fuel
 induction fuel with
 | zero=>intro j s h1 h2; omega
 | succ fuel ih=>
  intro j s h1 h2 h3
  rw [Cl,show ((i:Int)).toNat=i from by omega]
  by_cases hj:j<(l.getD i (0,[])).2.length
  ·have f1:=Qg ((l.getD i (0,[])).2.getD j 0)
   have f3:(ByteArray.mk #[44]).size=1:=rfl
   rw [Al (by omega),dropD 0 hj,List.map_cons,jn_def]
   by_cases h0:j=0
   ·subst h0
    rw [Ak (by omega)]
    show grd _ _=_
    rw [Af (by omega),show (((0:Nat):Int)).toNat=0 from rfl,fmtS_s hN (hr _ (memD 0 hj)),Option.bind_some,Af (by omega),At (by omega) (by omega),Am]
    refine (ih (0+1) _ (by omega) (by omega) (by rw [Kn]; omega)).trans ?_
    rfl
   have hs:(s++ByteArray.mk #[44]).size=s.size+(ByteArray.mk #[44]).size:=Kn _ _
   rw [Al (by omega),Af (by omega)]
   show grd _ _=_
   rw [Af (by omega),show ((j:Int)).toNat=j from by omega,fmtS_s hN (hr _ (memD 0 hj)),Option.bind_some,Af (by omega),At (by omega) (by omega),Am]
   refine (ih (j+1) _ (by omega) (by omega) (by rw [Kn]; omega)).trans ?_
   rw [decide_eq_false h0,decide_eq_false (by omega)]; rfl
  rw [Ak (by omega),show j=(l.getD i (0,[])).2.length from by omega,List.drop_length,List.map_nil]
  cases decide ((l.getD i (0,[])).2.length=0) <;> rfl
theorem fmtRS_l1 (hN:4000000≤N) {l:List (Int×List Int)} (hl:l.length≤3000000) (hr:RsOk l) (k:ByteArray→Option ByteArray):∀ (fuel i:Nat) (s:ByteArray),i≤l.length→l.length<fuel+i→s.size+(l.length-i)*200000000≤1000000000000000 →
  Cb N l k fuel (s,(i:Int))=k (gl (ByteArray.mk #[32]) (decide (i=0)) s ((l.drop i).map Tg)):=by
 intro fuel
 induction fuel with
 | zero=>intro i s h1 h2; omega
 | succ fuel ih=>
  intro i s h1 h2 h3
  rw [Cb]
  by_cases hi:i<l.length
  ·obtain ⟨r1,r2,r3⟩:=hr _ (memD (0,[]) hi)
   have f1:=Qg (l.getD i (0,[])).1
   have f3:(ByteArray.mk #[32]).size=1:=rfl
   have f5:(ByteArray.mk #[58]).size=1:=rfl
   have hz:=(Xc r2).2
   have body : ∀ s2 : ByteArray, s2.size ≤ s.size + 1 → (grd (0 ≤ (i : Int) ∧ (i : Int) < (l.length : Int)) <|
      (Jt N ((l.getD (((i:Int)).toNat) (0,[])).1)).bind fun v143=>
      grd (s2.size+v143.size≤9223372036854775807) <|
      grd ((s2++v143).size+(ByteArray.mk #[58]).size≤9223372036854775807) <|
      Cl N l (i : Int) (fun (s155 : ByteArray) =>
         grd (Bf ((i:Int)+(1:Int))) <|
         Cb N l k fuel (s155,((i:Int)+(1:Int)))) N (((s2++v143)++(ByteArray.mk #[58])),(0:Int)))=k (gl (ByteArray.mk #[32]) false (s2++Tg (l.getD i (0,[]))) ((l.drop (i+1)).map Tg)):=fun s2 hs2=>by
    have f4:=Kn s2 (fmtI (l.getD i (0,[])).1)
    rw [Af (by omega),show ((i:Int)).toNat=i from by omega,fmtS_s hN r1,Option.bind_some,Af (by omega),Af (by omega)]
    refine (fmtRS_l2 hN ⟨r2,r3⟩ _ N 0 _ (by omega) (by omega) (by rw [Kn]; omega)).trans ?_
    have e:gl (ByteArray.mk #[44]) (decide ((0:Nat)=0)) (s2++fmtI (l.getD i (0,[])).1++ByteArray.mk #[58]) (((l.getD i (0,[])).2.drop 0).map fmtI)=s2++Tg (l.getD i (0,[])):=by
     show gl (ByteArray.mk #[44]) true _ (((l.getD i (0,[])).2.drop 0).map fmtI)=_
     rw [List.drop_zero,←app_nil' (s2++fmtI (l.getD i (0,[])).1++ByteArray.mk #[58]),gl_app]
     unfold Tg numT
     rw [Xo,Xo,Xo]
    rw [e,At (by omega) (by omega),Am]
    refine (ih (i+1) _ (by omega) (by omega) (by rw [Kn]; omega)).trans ?_
    rw [decide_eq_false (by omega)]
   rw [Al (by omega),dropD (0,[]) hi,List.map_cons,jn_def]
   by_cases h0:i=0
   ·subst h0
    rw [Ak (by omega)]
    exact body s (by omega)
   rw [Al (by omega),Af (by omega)]
   refine (body _ (by rw [Kn]; omega)).trans ?_
   rw [decide_eq_false h0]; rfl
  rw [Ak (by omega),show i=l.length from by omega,List.drop_length,List.map_nil]
  cases decide (l.length=0) <;> rfl
theorem format_x (hN:4000000≤N) {l:List (Int×List Int)} (hl:l.length≤3000000) (hr:RsOk l):∃ s:ByteArray,Hy N l=some s∧Hq N l=some s:=by
 unfold Hy Hq
 have h0:(ByteArray.mk #[]).size=0:=rfl
 have hS:=fmtRS_l1 hN hl hr (fun (s84:ByteArray)=>cnd (s84.toList==(ByteArray.mk #[]).toList) (some (ByteArray.mk #[110,111,110,101])) (some s84)) N 0 (ByteArray.mk #[]) (by omega) (by omega) (by omega)
 have hI:=fmtRI_l hN hl hr (fun (l11:List ByteArray)=>(Sw N l11 (ByteArray.mk #[32])).bind fun v12=>some v12) N 0 [] (by omega) (by omega) rfl
 rw [show Cb N l _ N (ByteArray.mk #[],(0:Int))=_ from hS]
 cases l with
 | nil=>
  refine ⟨ByteArray.mk #[110,111,110,101],?_,rfl⟩
  show cnd ((ByteArray.mk #[]).toList==(ByteArray.mk #[]).toList) _ _=_
  rw [beq_self_eq_true,cnd_true]
 | cons x l=>
  refine ⟨gl (ByteArray.mk #[32]) true (ByteArray.mk #[]) ((x::l).map Tg),?_,?_⟩
  ·show cnd (_==_) _ (some (gl (ByteArray.mk #[32]) true (ByteArray.mk #[]) ((x::l).map Tg)))=_
   have hz:(gl (ByteArray.mk #[32]) true (ByteArray.mk #[]) ((x::l).map Tg)).toList≠(ByteArray.mk #[]).toList:=fun e=>by
    rw [List.map_cons] at e
    unfold gl at e
    rw [nil_app,←app_nil' (Tg x),gl_app] at e
    have e2:=congrArg List.length e
    have h1:=(Xc (hr x (by simp)).2.1).1
    rw [ByteArray.toList_eq,ByteArray.toList_eq,ByteArray.data_append,Array.length_toList,Array.size_append] at e2
    have e3:(Tg x).size=(Tg x).data.size:=rfl
    have e4:(ByteArray.mk #[]).data.toList.length=0:=rfl
    omega
   rw [show (List.drop 0 (x::l))=x::l from rfl,show decide ((0:Nat)=0)=true from rfl]
   rw [beq_eq_false_iff_ne.2 hz,cnd_false]
  have hne:(((x::l).length:Int)==(0:Int))=false:=by rw [beq_eq_false_iff_ne,List.length_cons]; omega
  rw [hne,cnd_false]
  refine hI.trans ?_
  rw [List.nil_append,List.drop_zero,glued_s hN (show (ByteArray.mk #[32]).size≤1 from Nat.le_refl 1) (by rw [List.length_map]; exact hl) (fun y hy=>by obtain ⟨n,hn,rfl⟩:=List.mem_map.1 hy; have:=(Xc (hr n hn).2.1).2; omega)]
  rfl
end
section
open Go.RowKit
def Ok {α:Type} (o:Option α) (P:α→Prop):Prop:=∃ r,o=some r∧P r
section
variable {α β:Type} {P Q:α→Prop}
theorem Dz {r:α} (h:P r):Ok (some r) P:=⟨r,rfl,h⟩
theorem Bx {o:Option β} {R:β→Prop} {f:β→Option α} (h:Ok o R) (hf:∀ r,R r→Ok (f r) P):Ok (o.bind f) P:=by
 obtain ⟨r,rfl,hr⟩:=h
 exact hf r hr
theorem Cc {p:Prop} [Decidable p] {o:Option α} (hp:p) (h:Ok o P):Ok (grd p o) P:=by rw [Af hp]; exact h
theorem Ee {b:Bool} {x y:Option α} (h1:b=true→Ok x P) (h2:b=false→Ok y P):Ok (cnd b x y) P:=by
 cases b with
 | true=>exact h1 rfl
 | false=>exact h2 rfl
theorem ok_jn {σ:Type} {k:σ→Option α} {f:(σ→Option α)→Option α} {R:σ→Prop} (hk:∀ x,R x→Ok (k x) P) (hf:∀ k':σ→Option α,(∀ x,R x→Ok (k' x) P)→Ok (f k') P):Ok (jn k f) P:=hf k hk
end
def Byt (l:List Int):Prop:=∀ i:Nat,i<l.length→0≤l.getD i 0∧l.getD i 0<256
structure CK (c:Cur):Prop where
 byt:Byt c.b
 len:c.b.length≤1048576
 nn:0≤c.i
theorem and_low {x:Int} {m:Nat} (hm:m<4611686018427387904):0≤andI x (m:Int)∧andI x (m:Int)≤m:=by
 unfold andI
 have e:(BitVec.ofInt 64 (m:Int)).toNat=m:=by rw [BitVec.toNat_ofInt]; omega
 rw [BitVec.toNat_and,e]
 have h:(BitVec.ofInt 64 x).toNat &&& m≤m:=Nat.and_le_right
 rw [show IntKind.i64.wrap (((BitVec.ofInt 64 x).toNat &&& m:Nat):Int)=(((BitVec.ofInt 64 x).toNat &&& m:Nat):Int) from w64_id (by omega) (by omega)]
 omega
theorem and_255 (x:Int):0≤andI x (255:Int)∧andI x (255:Int)<256:=by
 have:=and_low (x:=x) (m:=255) (by omega)
 have e:((255:Nat):Int)=(255:Int):=rfl
 rw [e] at this
 omega
variable {N:Nat}
theorem byte_s {c:Cur} (h:CK c):Ok (Lz N c) fun r=>0≤r.1∧r.1<256∧0≤r.2.1:=by
 unfold Lz
 have hl:=h.len
 have hn:=h.nn
 refine Ee (fun hb=>?_) (fun hb=>?_)
 ·rw [decide_eq_true_eq] at hb
  have hy:=h.byt c.i.toNat (by omega)
  refine Cc ⟨hn,hb⟩ (Cc hy (Dz ?_))
  have:=and_255 (w64 ((andI (xorI (shrI (w64 ((w64 (c.h*(6364136223846793005:Int)))+(1442695040888963407:Int))) 33) (shrI (w64 ((w64 (c.h*(6364136223846793005:Int)))+(1442695040888963407:Int))) 45)) (255:Int))+(c.b.getD ((c.i).toNat) 0)))
  refine ⟨this.1,this.2,?_⟩
  show 0≤w64 (c.i+1)
  rw [show w64 (c.i+1)=c.i+1 from w64_id (by omega) (by omega)]
  omega
 refine Dz ?_
 have:=and_255 (xorI (shrI (w64 ((w64 (c.h*(6364136223846793005:Int)))+(1442695040888963407:Int))) 33) (shrI (w64 ((w64 (c.h*(6364136223846793005:Int)))+(1442695040888963407:Int))) 45))
 exact ⟨this.1,this.2,hn⟩
structure Bel (n:Int) (r:Int×Int×Int):Prop where
 nn:0≤r.1
 lt:0<n→r.1<n
 zero:n≤0→r.1=0
 cur:0≤r.2.1
theorem Ji {c:Cur} (h:CK c) (n:Int):Ok (Bt N c n) (Bel n):=by
 unfold Bt
 refine Ee (fun hb=>?_) (fun hb=>?_)
 ·rw [decide_eq_true_eq] at hb
  exact Dz ⟨by omega,by omega,by intro; rfl,h.nn⟩
 rw [decide_eq_false_iff_not] at hb
 refine Ee (fun hb2=>?_) (fun hb2=>?_)
 ·refine Bx (byte_s h) fun v hv=>?_
  obtain ⟨h1,h2,h3⟩:=hv
  refine Cc (by omega) (Dz ?_)
  have e1:=Int.tmod_nonneg n h1
  have e2:=Int.tmod_lt_of_pos v.1 (show 0<n by omega)
  exact ⟨e1,fun _=>e2,by omega,h3⟩
 refine Bx (byte_s h) fun v2 h2=>?_
 refine Bx (byte_s ⟨h.byt,h.len,h2.2.2⟩) fun v3 h3=>?_
 refine Bx (byte_s ⟨h.byt,h.len,h3.2.2⟩) fun v4 h4=>?_
 refine Bx (byte_s ⟨h.byt,h.len,h4.2.2⟩) fun v5 h5=>?_
 obtain ⟨a2,b2,_⟩:=h2
 obtain ⟨a3,b3,_⟩:=h3
 obtain ⟨a4,b4,_⟩:=h4
 obtain ⟨a5,b5,c5⟩:=h5
 refine Cc ⟨by omega,by omega⟩ (Cc ⟨by omega,by omega⟩ (Cc ⟨by omega,by omega⟩ (Cc ⟨by omega,by omega⟩ (Cc ⟨by omega,by omega⟩ (Cc ⟨by omega,by omega⟩ (Cc (by omega) (Dz ?_)))))))
 have e1:=Int.tmod_nonneg (a:=(((v2.1*(16777216:Int))+(v3.1*(65536:Int)))+(v4.1*(256:Int)))+v5.1) n (by omega)
 have e2:=Int.tmod_lt_of_pos ((((v2.1*(16777216:Int))+(v3.1*(65536:Int)))+(v4.1*(256:Int)))+v5.1) (show 0<n by omega)
 exact ⟨e1,fun _=>e2,by omega,c5⟩
theorem once_s {c:Cur} (h:CK c) (n:Int):Ok (Tq N c n) fun r=>0≤r.2.1:=by
 unfold Tq
 exact Bx (Ji h n) fun v hv=>Dz hv.cur
theorem new_s (hN:4000000≤N) {l:List Int} (hb:Byt l) (hl:l.length≤1048576):Ok (Th N l) fun r=>CK r∧r.b=l:=by
 unfold Th
 refine Cc ⟨by omega,by omega⟩ ?_
 have key:∀ (fuel i:Nat) (h:Int),0≤h→h≤1073741823→i≤4000→4001<fuel+i→Ok (Kz N l (fun h3=>some (⟨l,(0:Int),h3⟩:Cur)) fuel (h,(i:Int))) fun r=>CK r∧r.b=l:=by
  intro fuel
  induction fuel with
  | zero=>intro i h h1 h2 h4 h3; omega
  | succ fuel ih=>
   intro i h h1 h2 h4 h3
   rw [Kz]
   refine Ee (fun c1=>?_) (fun c1=>Dz ⟨⟨hb,hl,by simp⟩,rfl⟩)
   refine Ee (fun c2=>?_) (fun c2=>Dz ⟨⟨hb,hl,by simp⟩,rfl⟩)
   rw [decide_eq_true_eq] at c1 c2
   have hy:=hb i (by omega)
   have hi:((i:Int)).toNat=i:=rfl
   rw [hi]
   refine Cc ⟨by omega,by omega⟩ (Cc ⟨by omega,c1⟩ (Cc hy (Cc ⟨by omega,by omega⟩ (Cc ⟨by omega,by omega⟩ (Cc ⟨by omega,by omega⟩ ?_)))))
   have ha:=and_low (x:=h*(131:Int)+l.getD i 0+(7:Int)) (m:=1073741823) (by omega)
   have e:((1073741823:Nat):Int)=(1073741823:Int):=rfl
   rw [e] at ha
   exact ih (i+1) _ ha.1 ha.2 (by omega) (by omega)
 exact key N 0 _ (by omega) (by omega) (by omega) (by omega)
theorem CK.at {c:Cur} (h:CK c) {i x:Int} (hi:0≤i):CK ⟨c.b,i,x⟩:=⟨h.byt,h.len,hi⟩
end
section
variable {N:Nat}
def bitB (m:Int) (j:Nat):Bool:=andI (shrI m (j:Int)) (1:Int)==(1:Int)
def setU (m:Int) (k:Nat):List Int:=((List.range k).filter (bitB m)).map fun (j:Nat)=>(j:Int)
theorem setU_succ (m:Int) (k:Nat):setU m (k+1)=cnd (bitB m k) (setU m k++[(k:Int)]) (setU m k):=by
 unfold setU
 rw [List.range_succ,List.filter_append,List.map_append]
 cases h:bitB m k <;> simp [h,cnd]
theorem setU_len (m:Int) (k:Nat):(setU m k).length≤k:=by
 unfold setU
 rw [List.length_map]
 exact Nat.le_trans (List.length_filter_le _ _) (by simp)
theorem setS_s (hN:4000000≤N) {n m:Int} (hn:n≤1000):Zy N n m=some (setU m n.toNat):=by
 unfold Zy
 refine Eq.trans ?_ (fold (N:=N) (len:=n.toNat) (σ:=List Int) (st:=fun i=>setU m i) (F:=fun f s=>Fd N n m (fun l3=>some l3) f (s.1,s.2)) (fin:=some (setU m n.toNat)) (by omega) (fun f i hi=>?_) fun f=>?_)
 ·simp [setU]
 ·show Fd N n m _ (f+1) (setU m i,(i:Int))=Fd N n m _ f (setU m (i+1),((i+1:Nat):Int))
  have hl:=setU_len m i
  rw [Fd,Al (by omega),Af (by omega),setU_succ]
  show cnd (bitB m i) _ _=_
  cases bitB m i with
  | true=>rw [cnd_true,cnd_true,Af (by omega),At (by omega) (by omega),Am]
  | false=>rw [cnd_false,cnd_false,At (by omega) (by omega),Am]
 show Fd N n m _ (f+1) (setU m n.toNat,((n.toNat:Nat):Int))=_
 rw [Fd,Ak (by omega)]
end
section
open Go.RowKit
variable {N:Nat}
theorem l2CopyD {g:Grf} (h:g.bars.length≤3000000):Gf N g=some g:=by
 unfold Gf
 rw [Af (by omega)]; rfl
structure GD (m:Int) (k:Nat) (g:Grf):Prop where
 len:g.bars.length≤k
 rg:∀ e∈g.bars,0≤e.1∧e.1<m∧0≤e.2∧e.2<m
theorem put_d (hN:4000000≤N) {g:Grf} {m:Int} {k:Nat} (h:GD m k g) (hk:k≤999) {x:Int×Int} (hx:0≤x.1∧x.1<m∧0≤x.2∧x.2<m):Ok (Cq N g x) fun r=>GD m (k+1) r∧r.n=g.n:=by
 have hl:=h.len
 obtain ⟨L,h1,h2,h3⟩:=put0_s (N:=N) hN (g:=g) (by omega) x
 refine ⟨_,h1,⟨by simp only; omega,fun e he=>?_⟩,rfl⟩
 rcases (h3 e).1 he with rfl | h4
 ·exact hx
 exact h.rg e h4
theorem remove_d (hN:4000000≤N) {g:Grf} {m:Int} {k:Nat} (h:GD m k g) (hk:k≤999) (i:Int):Ok (Hz N g i) fun r=>GD m k r.1∧r.1.n=g.n:=by
 have hl:=h.len
 unfold Hz
 rw [Mi N hN,Option.bind_some]
 have cp:∀ b:Bool,Ok ((Gf N g).bind fun v=>some ((⟨v.n,v.bars⟩:Grf),b)) fun r=>GD m k r.1∧r.1.n=g.n:=fun b=>by
  rw [l2CopyD (by omega)]; exact Dz ⟨h,rfl⟩
 refine Ee (fun _=>cp _) fun _=>Ee (fun _=>cp _) fun a1=>Ee (fun _=>cp _) fun a2=>?_
 rw [decide_eq_false_iff_not] at a1 a2
 have t1:=List.length_take_le i.toNat g.bars
 have hlen:(((([]:List (Int×Int))++((g.bars.take (i.toNat)).drop 0))++((g.bars.take g.bars.length).drop (((i+(1:Int))).toNat)))).length+1=g.bars.length:=by
  simp only [List.nil_append,List.drop_zero,List.take_length,List.length_append,List.length_take,List.length_drop]; omega
 refine Cc ⟨by omega,by omega⟩ (Cc (by simp only [List.length_drop]; omega) (Cc ⟨by omega,by omega⟩ (Cc ⟨by omega,by omega⟩ (Cc ?_ (Dz ⟨⟨?_,?_⟩,rfl⟩)))))
 ·rw [←List.length_append]; omega
 ·simp only; omega
 intro e he
 refine h.rg e ?_
 simp only [List.nil_append,List.drop_zero,List.take_length,List.mem_append] at he
 rcases he with he | he
 ·exact List.mem_of_mem_take he
 exact List.mem_of_mem_drop he
theorem add_d (hN:4000000≤N) {g:Grf} {m:Int} {k:Nat} (h:GD m k g) (hk:k≤999) (hm:g.n≤m) (a b:Int):Ok (Tl N g a b) fun r=>GD m (k+1) r.1∧r.1.n=g.n:=by
 have hl:=h.len
 unfold Tl
 rw [Mi N hN,Option.bind_some]
 have cp:∀ b:Bool,Ok ((Gf N g).bind fun v=>some ((⟨v.n,v.bars⟩:Grf),b)) fun r=>GD m (k+1) r.1∧r.1.n=g.n:=fun b=>by
  rw [l2CopyD (by omega)]; exact Dz ⟨⟨by simp only; omega,h.rg⟩,rfl⟩
 refine Ee (fun _=>cp _) fun _=>Ee (fun _=>cp _) fun a1=>Ee (fun _=>cp _) fun a2=>Ee (fun _=>cp _) fun a3=>Ee (fun _=>cp _) fun a4=>Ee (fun _=>cp _) fun _=>Ee (fun _=>cp _) fun _=>?_
 rw [decide_eq_false_iff_not] at a1 a2 a3 a4
 refine Bx (put_d hN h hk (x:=(min a b,max a b)) ⟨by simp only; omega,by simp only; omega,by simp only; omega,by simp only; omega⟩) fun r hr=>Dz hr
structure PD (k:Nat) (p:Pin):Prop where
 gd:GD 64 k p.g
 gl:p.ground.length≤3
 n0:0≤p.g.n
 n1:p.g.n≤64
theorem iso_d (hN:4000000≤N) {c:Cur} (hc:CK c) {inner:Int} (hi:0≤inner∧inner≤4):Ok (Jk N c inner) fun r=>PD 40 r.1∧0≤r.2.1:=by
 unfold Jk
 refine Bx (Ji hc 2) fun v1 h1=>?_
 have b0:=h1.nn
 have b1:=h1.lt (by omega)
 have hp:(2:Int) ^ ((2:Int)+v1.1).toNat≤8:=by
  have:((2:Int)+v1.1).toNat=2∨((2:Int)+v1.1).toNat=3:=by omega
  rcases this with e | e <;> rw [e] <;> decide
 have hp0:0≤(2:Int) ^ ((2:Int)+v1.1).toNat:=by
  have:((2:Int)+v1.1).toNat=2∨((2:Int)+v1.1).toNat=3:=by omega
  rcases this with e | e <;> rw [e] <;> decide
 refine Cc ⟨by omega,by omega⟩ (Cc ⟨by omega,by omega⟩ (Cc ⟨by omega,by omega,⟨by omega,by omega⟩⟩ (Cc ⟨by omega,by omega⟩ ?_)))
 rw [setS_s hN (by omega),Option.bind_some]
 generalize hgr:setU _ _=gr
 have hgl:gr.length≤3:=by
  have:=setU_len ((1:Int)*2 ^ ((((2:Int)+v1.1)).toNat)-(1:Int)) ((2:Int)+v1.1).toNat
  rw [←hgr]; omega
 have key:∀ (fuel:Nat) (l:List (Int×Int)) (v i h n:Int),GD 64 (3*v.toNat) ⟨n,l⟩→0≤n→n≤64→2≤v→v≤8→0≤i→10<fuel+v→Ok (Bg N c inner v1 (fun (x:(List (Int×Int))×Int×Int×Int)=>
   match x with
   | (l148,c149,c150,c151)=>
    some ((⟨⟨c151,l148⟩,gr⟩:Pin),c149,c150)) fuel (l,v,i,h,n)) fun r=>PD 40 r.1∧0≤r.2.1:=by
  intro fuel
  induction fuel with
  | zero=>intro l v i h n h1 h2 h3 h4 h5 h6 h7; omega
  | succ fuel ih=>
   intro l v i h n hg hn0 hn1 hv2 hv8 hi0 hf
   rw [Bg]
   have two:∀ (g:Grf) (x y w i h:Int),GD 64 (3*v.toNat) g→0≤g.n→g.n≤64→0≤x∧x<64→0≤w∧w<64→0≤i→v≤7→Ok ((Cq N g (x,v)).bind fun v275=>(Cq N v275 (w,v)).bind fun v276=>grd (Bf (v+(1:Int))) <| Bg N c inner v1 (fun (x:(List (Int×Int))×Int×Int×Int)=>
     match x with
     | (l148,c149,c150,c151)=>
      some ((⟨⟨c151,l148⟩,gr⟩:Pin),c149,c150)) fuel (v276.bars,(v+(1:Int)),i,h,v276.n)) fun r=>PD 40 r.1∧0≤r.2.1:=by
    intro g x y w i h hg hn0 hn1 hx hw hi hv7
    refine Bx (put_d hN hg (by omega) ⟨hx.1,hx.2,by omega,by omega⟩) fun g1 k1=>?_
    refine Bx (put_d hN k1.1 (by omega) ⟨hw.1,hw.2,by omega,by omega⟩) fun g2 k2=>?_
    refine Cc ⟨by omega,by omega⟩ (ih _ _ _ _ _ ⟨?_,k2.1.rg⟩ ?_ ?_ (by omega) (by omega) hi (by omega))
    ·have:=k2.1.len; simp only; omega
    ·rw [k2.2,k1.2]; exact hn0
    rw [k2.2,k1.2]; exact hn1
   have tm:∀ x:Int,0≤x→0≤Int.tmod x v∧Int.tmod x v<64:=fun x hx=>⟨Int.tmod_nonneg v hx,by have:=Int.tmod_lt_of_pos x (show 0<v by omega); omega⟩
   have plain : ∀ (i h : Int), 0 ≤ i → v ≤ 7 → Ok ((Bt N (⟨c.b, i, h⟩ : Cur) v).bind fun v273 =>
        grd (Bf (v273.1+(1:Int))) <|
        grd (Bf (v-(1:Int))) <|
        (Bt N (⟨c.b,v273.2.1,v273.2.2⟩:Cur) (v-(1:Int))).bind fun v274=>
        grd (Bf ((v273.1+(1:Int))+v274.1)) <|
        grd (v≠0) <|
        (Cq N (⟨n,l⟩:Grf) (v273.1,v)).bind fun v275=>
        (Cq N v275 ((Int.tmod ((v273.1+(1:Int))+v274.1) v),v)).bind fun v276=>
        grd (Bf (v+(1:Int))) <|
        Bg N c inner v1 (fun (x:(List (Int×Int))×Int×Int×Int)=>
   match x with
   | (l148,c149,c150,c151)=>
    some ((⟨⟨c151,l148⟩,gr⟩:Pin),c149,c150)) fuel (v276.bars,(v+(1:Int)),v274.2.1,v274.2.2,v276.n)) fun r=>PD 40 r.1∧0≤r.2.1:=by
    intro i h hi0 hv7
    refine Bx (Ji (hc.at hi0) v) fun r hr=>?_
    have r0:=hr.nn
    have r1:=hr.lt (by omega)
    refine Cc ⟨by omega,by omega⟩ (Cc ⟨by omega,by omega⟩ ?_)
    refine Bx (Ji (hc.at hr.cur) (v-1)) fun s hs=>?_
    have s0:=hs.nn
    have s1:=hs.lt (by omega)
    refine Cc ⟨by omega,by omega⟩ (Cc (by omega) ?_)
    exact two _ _ 0 _ _ _ hg hn0 hn1 ⟨by omega,by omega⟩ (tm _ (by omega)) hs.cur hv7
   refine Ee (fun c1=>?_) (fun c1=>?_)
   ·rw [decide_eq_true_eq] at c1
    have hv7:v≤7:=by omega
    refine Ee (fun c2=>?_) (fun c2=>plain _ _ hi0 hv7)
    refine Bx (once_s (hc.at hi0) 2) fun o ho=>?_
    refine Ee (fun c3=>?_) (fun c3=>plain _ _ ho hv7)
    refine ok_jn (R:=fun x=>0≤x.1) (fun x hx=>plain _ _ hx hv7) fun k' hk'=>?_
    refine Ee (fun c4=>?_) (fun c4=>hk' _ ho)
    rw [decide_eq_true_eq] at c4
    refine Bx (Ji (hc.at ho) (l.length:Int)) fun r hr=>?_
    have r0:=hr.nn
    have r1:=hr.lt (by omega)
    have hin:l.getD r.1.toNat (0,0)∈l:=by
     rw [List.getD_eq_getElem?_getD,List.getElem?_eq_getElem (show r.1.toNat<l.length by omega)]; exact List.getElem_mem (by omega)
    generalize l.getD r.1.toNat (0,0)=e at hin
    obtain ⟨e1,e2,e3,e4⟩:=hg.rg e hin
    refine Cc ⟨by omega,by omega⟩ (Cc ⟨by omega,by omega⟩ (Cc ⟨by omega,by omega⟩ ?_))
    refine Bx (Ji (hc.at hr.cur) (v-1)) fun s hs=>?_
    have s0:=hs.nn
    have s1:=hs.lt (by omega)
    refine Cc ⟨by omega,by omega⟩ (Cc (by omega) ?_)
    have three : ∀ w : Int, 0 ≤ w ∧ w < 64 → Ok ((Hz N (⟨n, l⟩ : Grf) r.1).bind fun v280 =>
          (Cq N v280.1 (e.1,v)).bind fun v281=>
          (Cq N v281 (e.2,v)).bind fun v282=>
          (Cq N v282 (w,v)).bind fun v283=>
          grd (Bf (v+(1:Int))) <|
          Bg N c inner v1 (fun (x:(List (Int×Int))×Int×Int×Int)=>
   match x with
   | (l148,c149,c150,c151)=>
    some ((⟨⟨c151,l148⟩,gr⟩:Pin),c149,c150)) fuel (v283.bars,(v+(1:Int)),s.2.1,s.2.2,v283.n)) fun r=>PD 40 r.1∧0≤r.2.1:=by
     intro w hw
     refine Bx (remove_d hN hg (by omega) r.1) fun g0 k0=>?_
     refine Bx (put_d hN k0.1 (by omega) ⟨e1,e2,by omega,by omega⟩) fun g1 k1=>?_
     refine Bx (put_d hN k1.1 (by omega) ⟨e3,e4,by omega,by omega⟩) fun g2 k2=>?_
     refine Bx (put_d hN k2.1 (by omega) ⟨hw.1,hw.2,by omega,by omega⟩) fun g3 k3=>?_
     have hn:g3.n=n:=by rw [k3.2,k2.2,k1.2,k0.2]
     refine Cc ⟨by omega,by omega⟩ (ih _ _ _ _ _ ⟨?_,k3.1.rg⟩ (by omega) (by omega) (by omega) (by omega) hs.cur (by omega))
     have:=k3.1.len; simp only; omega
    refine Ee (fun c5=>?_) (fun c5=>?_)
    ·refine Ee (fun c6=>?_) (fun c6=>hk' _ hs.cur)
     refine Ee (fun c7=>?_) (fun c7=>hk' _ hs.cur)
     exact three _ (tm _ (by omega))
    refine ok_jn (R:=fun w=>0≤w∧w<64) (fun w hw=>?_) fun k2 hk2=>?_
    ·refine Ee (fun c6=>?_) (fun c6=>hk' _ hs.cur)
     refine Ee (fun c7=>?_) (fun c7=>hk' _ hs.cur)
     exact three _ hw
    refine Ee (fun c6=>?_) (fun c6=>?_)
    ·exact hk2 _ (tm _ (by omega))
    exact hk2 _ (tm _ (by omega))
   ·exact Dz ⟨⟨⟨by have:=hg.len; simp only at this ⊢; omega,hg.rg⟩,hgl,hn0,hn1⟩,hi0⟩
 exact key N [] _ _ _ _ ⟨by simp,by simp⟩ (by omega) (by omega) (by omega) (by omega) h1.cur (by omega)
theorem any_d (hN:4000000≤N) {c:Cur} (hc:CK c):Ok (Se N c) fun r=>PD 41 r.1∧0≤r.2.1:=by
 unfold Se
 refine Bx (Ji hc 4) fun v1 h1=>?_
 have b0:=h1.nn
 have b1:=h1.lt (by omega)
 refine Cc ⟨by omega,by omega⟩ ?_
 refine Bx (iso_d hN (hc.at h1.cur) ⟨by omega,by omega⟩) fun v2 h2=>?_
 obtain ⟨p2,c2⟩:=h2
 refine Bx (Ji (hc.at c2) 8) fun v3 h3=>?_
 have wk:GD 64 41 v2.1.g:=⟨by have:=p2.gd.len; omega,p2.gd.rg⟩
 refine Ee (fun c1=>?_) (fun c1=>?_)
 ·refine Bx (Ji (hc.at h3.cur) _) fun v4 h4=>?_
  refine Bx (remove_d hN p2.gd (by omega) v4.1) fun v5 h5=>Dz ⟨⟨⟨?_,h5.1.rg⟩,p2.gl,?_,?_⟩,h4.cur⟩
  ·have:=h5.1.len; simp only; omega
  ·have:=p2.n0; simp only; rw [h5.2]; exact this
  have:=p2.n1; simp only; rw [h5.2]; exact this
 refine Ee (fun c1=>?_) (fun c1=>?_)
 ·refine Bx (Ji (hc.at h3.cur) _) fun v4 h4=>?_
  refine Bx (Ji (hc.at h4.cur) _) fun v5 h5=>?_
  refine Bx (add_d hN p2.gd (by omega) p2.n1 v4.1 v5.1) fun v6 h6=>Dz ⟨⟨⟨h6.1.len,h6.1.rg⟩,p2.gl,?_,?_⟩,h5.cur⟩
  ·have:=p2.n0; simp only; rw [h6.2]; exact this
  have:=p2.n1; simp only; rw [h6.2]; exact this
 refine Ee (fun c1=>?_) (fun c1=>Dz ⟨⟨wk,p2.gl,p2.n0,p2.n1⟩,h3.cur⟩)
 refine Bx (Ji (hc.at h3.cur) 4) fun v4 h4=>?_
 have d0:=h4.nn
 have d1:=h4.lt (by omega)
 refine Cc ⟨by omega,by omega⟩ ?_
 refine Bx (Ji (hc.at h4.cur) 9) fun v5 h5=>Dz ⟨⟨wk,by simp,p2.n0,p2.n1⟩,h5.cur⟩
end
section
open Go.RowKit Go.Deep
theorem Rel.freeze1 {w0:World} {O0:Hd} {n:Nat} {M:Mp} {s:PS} {a:Act} {w:World} (h:Rel w0 O0 n M s a w) {r:Nat} {e:TypeId} {q:Sq} (hF:Ha r=true) (hr:s.r r=some (e,q)) :
  ∃ M',Rel w0 O0 n M' ((s.kill r).setR r none) a w∧(∀ b,M'.β b=M.β b)∧(∀ v,VR M (Ow (Fs w0 O0) M) w (.row r 0 q.len) v→VR M' (Ow (Fs w0 O0) M') w (.ro true q) v)∧∀ d v,VR M (Ow (Fs w0 O0) M) w d v→VR M' (Ow (Fs w0 O0) M') w (klS r d) v:=by
 let M':Mp:=⟨M.β,fun y=>if y=r then none else M.γ y⟩
 have hown:∀ k,M'.owned k→M.owned k:=by
  rintro k (⟨b,hb⟩ | ⟨y,c,z,hy⟩)
  ·exact .inl ⟨b,hb⟩
  simp only [M'] at hy
  split at hy
  ·cases hy
  exact .inr ⟨y,c,z,hy⟩
 have hA:∀ f b,b<w.heap.size→Ow (Fs w0 O0) M f b→Ow (Fs w0 O0) M' f b∧b<w.heap.size∧w.heap[b]? = w.heap[b]?:=fun f b h1 h2=>⟨⟨fun h3=>h2.1 (hown b h3),h2.2⟩,h1,rfl⟩
 have hγ:∀ y z,y≠r→M'.γ y=some z→M.γ y=some z:=fun y z h1 h2=>by simpa [M',h1] using h2
 have hβ:∀ b k,M'.β b=some k→M.β b=some k:=fun _ _ h=>h
 have hbig:∀ x y,BIG≤x→M'.γ x=some y→M.γ x=some y:=fun x y hx h1=>by
  simp only [M'] at h1
  split at h1
  ·cases h1
  exact h1
 have hv:∀ v,VR M (Ow (Fs w0 O0) M) w (.row r 0 q.len) v→VR M' (Ow (Fs w0 O0) M') w (.ro true q) v:=by
  intro v h0
  cases h0 with
  | row _ _ _ _ g1 g2=>
   rcases h.row r e q hr with ⟨hg,h0⟩ | ⟨g,cap,cur,hg,hh,hl,hmx,hcs,hc⟩
   ·have:=g2 _ hg
    simp only [Wn] at this
    obtain ⟨⟨ao0,rfl⟩,_,_⟩:=this
    have:=VR.ro (M:=M') (A:=Ow (Fs w0 O0) M') (w:=w) true q ao0 0 0 0 (fun _ _=>undef) (by omega) (by omega) (by omega) (by intro i j d hi; omega) (by intro i j d hi; omega)
    rwa [h0] at this
   have:=g2 _ hg
   simp only [Wn] at this
   obtain ⟨h1,ao,h2,h3⟩:=this
   have h4:=h3 (.inr trivial)
   rw [Nat.zero_mul] at h4
   subst h2
   refine .ro true q ao _ g 0 (fun i j=>cur.getD (i*q.sz+j) undef) (by omega) (by omega) (fun _=>⟨h4,(Array.getElem?_eq_some_iff.1 hh).1,?_,?_⟩) (fun i j d hi hd=>?_) (fun i j d hi hd=>(VR.relem (fun d' hd'=>hc i j d' hi hd') hd).elem_any hd hA)
   ·rintro (⟨b,hb⟩ | ⟨y,c,z,hy⟩)
    ·exact h.inj3 _ _ _ _ _ hb hg
    simp only [M'] at hy
    split at hy
    ·cases hy
    rename_i hyr; exact hyr (h.inj2 _ _ _ _ _ _ _ hy hg)
   ·exact (h.low _ (.inr ⟨r,_,_,hg⟩)).imp_right (O0.sub _ _)
   have hj:j<q.sz:=by rw [←Sq.elem_len true q i]; exact (List.getElem?_eq_some_iff.1 hd).1
   have hlt:i*q.sz+j<cur.size:=by
    rw [hcs]
    have h4:(i+1)*q.sz≤cap*q.sz:=Nat.mul_le_mul_right _ (by omega)
    rw [Nat.add_mul,Nat.one_mul] at h4; omega
   rw [Nat.zero_add,cell_of_row w g _ cur e (0,0) hh]
   simp [hlt]
 refine ⟨M',⟨h.fr,h.dfr,h.sz,fun x=>?_,fun b cs hb=>?_,fun b hb=>?_,fun y e' p hy=>?_,fun y hy=>?_,fun k hk=>h.low k (hown k hk),h.inj1,fun y y' k c z c' z' h1 h2=>?_,fun b y k c z h1 h2=>?_,h.nle,h.fxb,fun y u u' h1 h2=>?_⟩,fun _=>rfl,hv,fun d v hd=>VR.klS hA hγ hβ hd⟩
 ·have:((s.kill r).setR r none).t x=kl r (s.t x):=PS.t_kill s r x
  rw [this]; exact VR.kl hA hγ hβ (h.tmp x)
 ·have hb':(s.kill r).b b=some cs:=hb
  rw [PS.b_kill] at hb'
  obtain ⟨cs0,h0,rfl⟩:=Option.map_eq_some_iff.1 hb'
  obtain ⟨k,cur,e2,a1,a2,a3,a4⟩:=h.box b cs0 h0
  refine ⟨k,cur,e2,a1,a2,by simpa using a3,fun j d hd=>?_⟩
  rw [List.getElem?_map] at hd
  obtain ⟨d0,h1,rfl⟩:=Option.map_eq_some_iff.1 hd
  exact VR.klS hA hγ hβ (a4 j d0 h1)
 ·have hb':(s.kill r).b b=none:=hb
  rw [PS.b_kill] at hb'
  exact h.boxn b (by simpa using hb')
 ·have hy:((s.kill r).setR r none).r y=some (e',p):=hy
  rw [PS.r_setR _ _ _ _ hF] at hy
  by_cases hyr:r=y
  ·rw [if_pos hyr] at hy; cases hy
  rw [if_neg hyr] at hy
  rcases h.row y e' p hy with ⟨h1,h2⟩ | ⟨g,cap,cur,h1,h2,h3,h4,h5,h6⟩
  ·exact .inl ⟨by simp [M',Ne.symm hyr,h1],h2⟩
  exact .inr ⟨g,cap,cur,by simp [M',Ne.symm hyr,h1],h2,h3,h4,h5,fun i j d hi' hd=>(h6 i j d hi' hd).relem_any hd hA hbig⟩
 ·have hy:((s.kill r).setR r none).r y=none:=hy
  rw [PS.r_setR _ _ _ _ hF] at hy
  by_cases hyr:r=y
  ·simp [M',hyr]
  rw [if_neg hyr] at hy
  simpa [M',Ne.symm hyr] using h.rown y hy
 ·simp only [M'] at h1 h2
  split at h1 <;> split at h2 <;> first | (cases h1; done) | (cases h2; done) | exact h.inj2 _ _ _ _ _ _ _ h1 h2
 ·simp only [M'] at h2
  split at h2
  ·cases h2
  exact h.inj3 _ _ _ _ _ h1 h2
 simp only [M'] at h2
 split at h2
 ·cases h2
 exact h.fxr y u u' h1 h2
section
variable {C:Cx} {ops:Array Oper} {K:PS→Prop} {l:List Oper} {s s':PS} {TT:List (Nat×Ty)} {tm:List (Nat×D)} {rw':List (Nat×Option (TypeId×Sq))} {bx:List (Nat×Option (List D))}
theorem En.freezeB (b i:Nat) {r m:Nat} {e:TypeId} {q:Sq} {cs:List D} (hb:(PS.b ⟨tm,rw',bx⟩ b)=some cs) (hi:cs[i]? = some (.row r 0 m)) (hr:(PS.r ⟨tm,rw',bx⟩ r)=some (e,q)) (hnf:nf ⟨(PS.kill ⟨tm,rw',bx⟩ r).tmp,(r,none)::rw',(b,some ((cs.map (klS r)).set i (.ro true q)))::(PS.kill ⟨tm,rw',bx⟩ r).box⟩=some s') (hm:m=q.len) (hF:Ha r=true:=by rfl):En C ⟨tm,rw',bx⟩ s':=⟨fun M a w hr'=>by
 subst hm
 rw [nf_ok hnf]
 obtain ⟨M',h1,h0,h2,h3⟩:=hr'.freeze1 hF hr
 refine ⟨M',h1.fr,h1.dfr,h1.sz,h1.tmp,fun x ds hx=>?_,fun x hx=>?_,h1.row,h1.rown,h1.low,h1.inj1,h1.inj2,h1.inj3,h1.nle,h1.fxb,h1.fxr⟩
 ·by_cases hxb:b=x
  ·subst hxb
   simp [PS.b,Ap] at hx
   subst hx
   obtain ⟨k,cur,e',g1,g2,g3,g4⟩:=hr'.box b cs hb
   refine ⟨k,cur,e',by rw [h0,g1],g2,by simpa using g3,fun j d hj=>?_⟩
   rw [List.getElem?_set] at hj
   by_cases hij:i=j
   ·subst hij
    have hlt:=(List.getElem?_eq_some_iff.1 hi).1
    rw [if_pos rfl,if_pos (by simpa using hlt)] at hj
    cases hj
    exact h2 _ (g4 i _ hi)
   rw [if_neg hij,List.getElem?_map] at hj
   obtain ⟨d0,hd0,rfl⟩:=Option.map_eq_some_iff.1 hj
   exact h3 _ _ (g4 j d0 hd0)
  exact h1.box x ds (by simpa [PS.b,PS.setR,As hxb] using hx)
 by_cases hxb:b=x
 ·subst hxb; simp [PS.b,Ap] at hx
 exact h1.boxn x (by simpa [PS.b,PS.setR,As hxb] using hx)⟩
end
end
end Go.Proofs.Ytcljhpldfanhkaa
