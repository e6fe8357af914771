/- Texts that the proof needs, put together: Ps Pt Pv G40 G41 Px G43 G44 G46 G48 G51 Qa Ea G38 Eb M7 M8 M9 M10 M11 M12 M13 M14 M17 M18 M15 M19 M20 M21 G56 G24 G71 G72. -/
import Derived.Laws.Strings
import Derived.Laws.BytesArg
import Derived.Test.YtcljhpldfanhkaaBJf3
import Derived.Test.YtcljhpldfanhkaaBJf4
import Derived.Test.YtcljhpldfanhkaaBJf5
set_option maxRecDepth 20000
set_option maxHeartbeats 1600000
set_option linter.unusedVariables false
set_option linter.unusedSimpArgs false
namespace Go.Proofs.Ytcljhpldfanhkaa
section
variable {n:Nat} {N:Nat}
theorem asc_lt {n:Int} {l:List Int} (h:asc n l=true):∀ j i:Nat,i<j→j<l.length→l.getD i 0<l.getD j 0
 | 0,i,h1,_=>by omega
 | j+1,i,h1,h2=>by
  have ha:=asc_at h h2
  simp only [Xt,Bool.and_eq_true,Bool.or_eq_true,decide_eq_true_eq,Nat.add_sub_cancel] at ha
  have hs:l.getD j 0<l.getD (j+1) 0:=ha.2.resolve_left (by omega)
  by_cases e:i=j
  ·subst e; exact hs
  have:=asc_lt h j i (by omega) (by omega); omega
structure HeldS (G:List Int) (L:List (Int×Int)) (m:Nat):Prop where
 mem:∀ e∈L,∃ i j:Nat,i<j∧j<m∧e=(G.getD i 0,G.getD j 0)
 h0:∀ i,1≤i→i<m→(G.getD 0 0,G.getD i 0)∈L
 h1:∀ i,2≤i→i<m→(G.getD 1 0,G.getD i 0)∈L
 srt:Srt L
theorem put0_s (hN:4000000≤N) {g:Grf} (hl:g.bars.length≤1000) (x:Int×Int):∃ L,Cq N g x=some ⟨g.n,L⟩∧L.length=g.bars.length+1∧∀ e,e∈L↔e=x∨e∈g.bars:=by
 have key:∀ {kk:(List (Int×Int)×Bool)→Option Grf} (fuel i:Nat) (l:List (Int×Int)) (pl:Bool),i≤g.bars.length→g.bars.length<fuel+i→l.length=i+(if pl=true then 1 else 0)→(pl=true→x∈l)→(∀ e,(e=x∨e∈l)↔(e=x∨e∈g.bars.take i)) →
   ∃ l' pl',Ci N g x kk fuel (l,pl,(i:Int))=kk (l',pl')∧l'.length=g.bars.length+(if pl'=true then 1 else 0)∧(pl'=true→x∈l')∧∀ e,(e=x∨e∈l')↔(e=x∨e∈g.bars):=by
  intro kk fuel
  induction fuel with
  | zero=>intro i l pl h1 h2; omega
  | succ fuel ih=>
   intro i l pl h1 h2 h3 h4 h5
   rw [Ci]
   have hlb:l.length≤1001:=by rw [h3]; split <;> omega
   by_cases hi:i<g.bars.length
   ·have htk:∀ e,e∈g.bars.take (i+1)↔e∈g.bars.take i∨e=g.bars.getD i (0,0):=by
     intro e
     have hd:g.bars.getD i (0,0)=g.bars[i]:=by simp [List.getD_eq_getElem?_getD,List.getElem?_eq_getElem hi]
     rw [List.take_add_one,List.getElem?_eq_getElem hi,List.mem_append,hd]
     simp only [Option.toList_some,List.mem_singleton]
    have step:∀ l2:List (Int×Int),(∀ e,(e=x∨e∈l2)↔(e=x∨e∈l∨e=g.bars.getD i (0,0)))→∀ e,(e=x∨e∈l2)↔(e=x∨e∈g.bars.take (i+1)):=by
     intro l2 h e
     rw [h e,htk e]
     have:=h5 e
     constructor
     ·rintro (h | h | h)
      ·exact .inl h
      ·rcases this.1 (.inr h) with h | h
       ·exact .inl h
       exact .inr (.inl h)
      exact .inr (.inr h)
     rintro (h | h | h)
     ·exact .inl h
     ·rcases this.2 (.inr h) with h | h
      ·exact .inl h
      exact .inr (.inl h)
     exact .inr (.inr h)
    cases pl with
    | true=>
     simp only [if_true] at h3
     obtain ⟨l',pl',k1,k2⟩:=ih (i+1) (l++[g.bars.getD i (0,0)]) true (by omega) (by omega) (by simp; omega) (fun _=>by simp [h4 rfl]) (step _ fun e=>by simp)
     refine ⟨l',pl',?_,k2⟩
     simp (disch:=omega) only [Int.toNat_natCast,tk0,List.length_cons,List.length_nil,Af,Ay,At,Al,Ak,cnd_true,cnd_false,Option.bind_some,Bool.not_true,Am]
     exact k1
    | false=>
     simp only [Bool.false_eq_true,if_false] at h3
     cases hb:Dx (g.bars.getD i (0,0)) x with
     | false=>
      obtain ⟨l',pl',k1,k2⟩:=ih (i+1) (l++[x]++[g.bars.getD i (0,0)]) true (by omega) (by omega) (by simp; omega) (fun _=>by simp) (step _ fun e=>by simp; grind)
      refine ⟨l',pl',?_,k2⟩
      simp (disch:=omega) only [Int.toNat_natCast,tk0,List.length_cons,List.length_nil,Af,Ay,At,Al,Ak,cnd_true,cnd_false,Option.bind_some,Bool.not_false,Qi,hb,List.length_append,Am]
      exact k1
     | true=>
      obtain ⟨l',pl',k1,k2⟩:=ih (i+1) (l++[g.bars.getD i (0,0)]) false (by omega) (by omega) (by simp; omega) (fun h=>by cases h) (step _ fun e=>by simp)
      refine ⟨l',pl',?_,k2⟩
      simp (disch:=omega) only [Int.toNat_natCast,tk0,List.length_cons,List.length_nil,Af,Ay,At,Al,Ak,cnd_true,cnd_false,Option.bind_some,Bool.not_false,Bool.not_true,Qi,hb,Am]
      exact k1
   have e:i=g.bars.length:=by omega
   subst e
   refine ⟨l,pl,?_,h3,h4,by simpa using h5⟩
   simp (disch:=omega) only [Int.toNat_natCast,tk0,List.length_cons,List.length_nil,Af,Ay,At,Al,Ak,cnd_true,cnd_false,Option.bind_some]
 obtain ⟨l',pl',k1,k2,k3,k4⟩:=key (kk:=fun (x_:(List (Int×Int))×Bool)=>
   match x_ with
   | (l10,placed11)=>
    cnd (!placed11) (
     grd (l10.length+1≤4294967296) <|
     some (⟨g.n,(l10++([(x.1,x.2)]:List (Int×Int)))⟩:Grf)) (
     some (⟨g.n,l10⟩:Grf))) N 0 [] false (by omega) (by omega) (by simp) (fun h=>by cases h) (fun e=>by simp)
 rw [show ((0:Nat):Int)=0 from rfl] at k1
 cases pl' with
 | true=>
  refine ⟨l',k1,by simpa using k2,fun e=>?_⟩
  rw [←k4 e]
  constructor
  ·exact .inr
  rintro (rfl | h)
  ·exact k3 rfl
  exact h
 | false=>
  simp only [Bool.false_eq_true,if_false] at k2
  refine ⟨l'++[x],?_,by simp; omega,fun e=>?_⟩
  ·refine Eq.trans k1 ?_
   simp (disch:=omega) only [Int.toNat_natCast,tk0,List.length_cons,List.length_nil,Af,Ay,At,Al,Ak,cnd_true,cnd_false,Option.bind_some,Bool.not_false]
  rw [←k4 e]; simp; grind
theorem put_s (hN:4000000≤N) {g:Grf} (hl:g.bars.length≤1000) (x:Int×Int):∃ L,Cq N g x=some ⟨g.n,L⟩∧L.length=g.bars.length+1∧(∀ e,e∈L↔e=x∨e∈g.bars)∧(Srt g.bars→Srt L):=by
 obtain ⟨L,h1,h2,h3⟩:=put0_s (N:=N) hN hl x
 refine ⟨L,h1,h2,h3,fun hs=>?_⟩
 obtain ⟨L',g1,g2⟩:=putX_s (N:=N) hN hl x hs
 rw [h1] at g1
 cases g1
 exact g2
theorem heldS_s (hN:4000000≤N) {p:Pin} (hl:p.ground.length≤27):∃ L,Mu N p=some ⟨p.g.n,L⟩∧L.length≤2*(p.ground.length-1)-1∧HeldS p.ground L p.ground.length:=by
 have key:∀ {kk:(List (Int×Int)×Int)→Option Grf} (fuel i:Nat) (L:List (Int×Int)),1≤i→i≤p.ground.length+1→p.ground.length+1<fuel+i→L.length≤2*(i-1)-1→HeldS p.ground L i→(i≤p.ground.length∨p.ground.length=0) →
   ∃ L',Gn N p kk fuel (L,(i:Int),p.g.n)=kk (L',p.g.n)∧L'.length≤2*(p.ground.length-1)-1∧HeldS p.ground L' p.ground.length:=by
  intro kk fuel
  induction fuel with
  | zero=>intro i L h0 h1 h2 h3 h4 h5; omega
  | succ fuel ih=>
   intro i L h0 h1 h2 h3 h4 h5
   rw [Gn]
   by_cases hi:i<p.ground.length
   ·obtain ⟨L1,a1,a2,a3,a4⟩:=put_s (N:=N) hN (g:=⟨p.g.n,L⟩) (by simp only; omega) (p.ground.getD 0 0,p.ground.getD i 0)
    simp only at a1 a2 a3 a4
    by_cases h1':1<i
    ·obtain ⟨L2,b1,b2,b3,b4⟩:=put_s (N:=N) hN (g:=⟨p.g.n,L1⟩) (by simp only; omega) (p.ground.getD 1 0,p.ground.getD i 0)
     simp only at b1 b2 b3 b4
     obtain ⟨L',k1,k2⟩:=ih (i+1) L2 (by omega) (by omega) (by omega) (by omega) ⟨fun e he=>by
      rcases (b3 e).1 he with h | h
      ·exact ⟨1,i,h1',by omega,h⟩
      ·rcases (a3 e).1 h with h | h
       ·exact ⟨0,i,by omega,by omega,h⟩
       obtain ⟨i',j',g1,g2,g3⟩:=h4.mem e h
       exact ⟨i',j',g1,by omega,g3⟩,fun i' g1 g2=>(b3 _).2 (.inr ((a3 _).2 (by
      by_cases e:i'=i
      ·subst e; exact .inl rfl
      ·exact .inr (h4.h0 i' g1 (by omega))))),fun i' g1 g2=>(b3 _).2 (by
      by_cases e:i'=i
      ·subst e; exact .inl rfl
      exact .inr ((a3 _).2 (.inr (h4.h1 i' g1 (by omega))))),b4 (a4 h4.srt)⟩ (.inl (by omega))
     refine ⟨L',?_,k2⟩
     have z0:(0:Int).toNat=0:=rfl
     have z1:(1:Int).toNat=1:=rfl
     simp (disch:=omega) only [Int.toNat_natCast,tk0,List.length_cons,List.length_nil,Af,Ay,At,Al,Ak,cnd_true,cnd_false,Option.bind_some,z0,z1,a1,b1,Am]
     exact k1
    have e1:i=1:=by omega
    subst e1
    obtain ⟨L',k1,k2⟩:=ih 2 L1 (by omega) (by omega) (by omega) (by omega) ⟨fun e he=>by
     rcases (a3 e).1 he with h | h
     ·exact ⟨0,1,by omega,by omega,h⟩
     ·obtain ⟨i',j',g1,g2,g3⟩:=h4.mem e h
      exact ⟨i',j',g1,by omega,g3⟩,fun i' g1 g2=>(a3 _).2 (by
     by_cases e:i'=1
     ·subst e; exact .inl rfl
     omega),fun i' g1 g2=>by omega,a4 h4.srt⟩ (.inl (by omega))
    refine ⟨L',?_,k2⟩
    have z0:(0:Int).toNat=0:=rfl
    simp (disch:=omega) only [Int.toNat_natCast,tk0,List.length_cons,List.length_nil,Af,Ay,At,Al,Ak,cnd_true,cnd_false,Option.bind_some,z0,a1,Am]
    exact k1
   refine ⟨L,?_,by omega,⟨fun e he=>?_,fun i' g1 g2=>h4.h0 i' g1 (by omega),fun i' g1 g2=>h4.h1 i' g1 (by omega),h4.srt⟩⟩
   ·simp (disch:=omega) only [Int.toNat_natCast,tk0,List.length_cons,List.length_nil,Af,Ay,At,Al,Ak,cnd_true,cnd_false,Option.bind_some]
   obtain ⟨i',j',g1,g2,g3⟩:=h4.mem e he
   exact ⟨i',j',g1,by omega,g3⟩
 by_cases h0:p.ground.length=0
 ·obtain ⟨L,k1,k2⟩:=key (kk:=fun x=>match x with | (l14,c15)=>some (⟨c15,l14⟩:Grf)) N 1 [] (by omega) (by omega) (by omega) (by simp) ⟨fun e he=>by simp at he,fun i g1 g2=>by omega,fun i g1 g2=>by omega,List.Pairwise.nil⟩ (.inr h0)
  exact ⟨L,k1,k2⟩
 obtain ⟨L,k1,k2⟩:=key (kk:=fun x=>match x with | (l14,c15)=>some (⟨c15,l14⟩:Grf)) N 1 [] (by omega) (by omega) (by omega) (by simp) ⟨fun e he=>by simp at he,fun i g1 g2=>by omega,fun i g1 g2=>by omega,List.Pairwise.nil⟩ (.inl (by omega))
 exact ⟨L,k1,k2⟩
theorem allS_s (hN:4000000≤N) {p:Pin} (hl:p.ground.length≤27) (hb:p.g.bars.length≤24):∃ LH L,Mu N p=some ⟨p.g.n,LH⟩∧LH.length≤2*(p.ground.length-1)-1∧HeldS p.ground LH p.ground.length∧Pm N p=some ⟨p.g.n,L⟩∧L.length=LH.length+p.g.bars.length∧(∀ e,e∈L↔e∈LH∨e∈p.g.bars)∧Srt L:=by
 obtain ⟨LH,h1,h2,h3⟩:=heldS_s (N:=N) hN hl
 have key:∀ {kk:(List (Int×Int)×Int)→Option Grf} (fuel i:Nat) (L:List (Int×Int)),i≤p.g.bars.length→p.g.bars.length<fuel+i→L.length=LH.length+i→(∀ e,e∈L↔e∈LH∨e∈p.g.bars.take i)→Srt L →
   ∃ L',Jr N p kk fuel (L,(i:Int),p.g.n)=kk (L',p.g.n)∧L'.length=LH.length+p.g.bars.length∧(∀ e,e∈L'↔e∈LH∨e∈p.g.bars)∧Srt L':=by
  intro kk fuel
  induction fuel with
  | zero=>intro i L g1 g2; omega
  | succ fuel ih=>
   intro i L g1 g2 g3 g4 g5
   rw [Jr]
   by_cases hi:i<p.g.bars.length
   ·obtain ⟨L1,a1,a2,a3,a4⟩:=put_s (N:=N) hN (g:=⟨p.g.n,L⟩) (by simp only; omega) (p.g.bars.getD i (0,0))
    simp only at a1 a2 a3 a4
    obtain ⟨L',k1,k2⟩:=ih (i+1) L1 (by omega) (by omega) (by omega) (fun e=>by
     have hd:p.g.bars.getD i (0,0)=p.g.bars[i]:=by simp [List.getD_eq_getElem?_getD,List.getElem?_eq_getElem hi]
     rw [a3 e,g4 e,List.take_add_one,List.getElem?_eq_getElem hi,List.mem_append,hd]
     simp only [Option.toList_some,List.mem_singleton]
     grind) (a4 g5)
    refine ⟨L',?_,k2⟩
    simp (disch:=omega) only [Int.toNat_natCast,tk0,List.length_cons,List.length_nil,Af,Ay,At,Al,Ak,cnd_true,cnd_false,Option.bind_some,a1,Am]
    exact k1
   have e:i=p.g.bars.length:=by omega
   subst e
   refine ⟨L,?_,by omega,by simpa using g4,g5⟩
   simp (disch:=omega) only [Int.toNat_natCast,tk0,List.length_cons,List.length_nil,Af,Ay,At,Al,Ak,cnd_true,cnd_false,Option.bind_some]
 obtain ⟨L,k1,k2,k3⟩:=key (kk:=fun x=>match x with | (l8,c9)=>some (⟨c9,l8⟩:Grf)) N 0 LH (by omega) (by omega) (by omega) (by simp) h3.srt
 refine ⟨LH,L,h1,h2,h3,?_,k2,k3⟩
 unfold Pm
 rw [h1,Option.bind_some]
 exact k1
end
section
variable {n:Nat} {N:Nat}
def HeldI (G:List Int) (L:List (Int×Int)):Prop:=∀ e,e∈L↔∃ i j:Nat,i<j∧j<G.length∧e=(G.getD i 0,G.getD j 0)
theorem heldI_s (hN:4000000≤N) {p:Pin} {m:Int} (hl:p.ground.length≤27) (ha:asc m p.ground=true):∃ L,Jc N p=some L∧L.length≤800∧HeldI p.ground L:=by
 have key2:∀ {kk:List (Int×Int)→Option (List (Int×Int))} (i:Nat) (hi:i<p.ground.length) (fuel x:Nat) (L:List (Int×Int)),i+1+x≤p.ground.length→p.ground.length<fuel+x→L.length≤28*i+x→(∀ e,e∈L↔∃ i' j:Nat,i'<j∧j<p.ground.length∧(i'<i∨i'=i∧j<i+1+x)∧e=(p.ground.getD i' 0,p.ground.getD j 0)) →
   ∃ L',Ea N p (i:Int) kk fuel (L,(x:Int))=kk L'∧L'.length≤28*(i+1)∧∀ e,e∈L'↔∃ i' j:Nat,i'<j∧j<p.ground.length∧i'<i+1∧e=(p.ground.getD i' 0,p.ground.getD j 0):=by
  intro kk i hi fuel
  induction fuel with
  | zero=>intro x L h1 h2; omega
  | succ fuel ih=>
   intro x L h1 h2 h3 h4
   rw [Ea]
   have e1:(((i:Int)+1)).toNat=i+1:=by omega
   have e2:((p.ground.take p.ground.length).drop (i+1)).length=p.ground.length-(i+1):=by simp
   by_cases hx:i+1+x<p.ground.length
   ·have e3:((p.ground.take p.ground.length).drop (i+1)).getD x 0=p.ground.getD (i+1+x) 0:=by simp [List.getD_eq_getElem?_getD]
    have hlt:=asc_lt ha (i+1+x) i (by omega) hx
    have eb:I_bar N (p.ground.getD i 0) (p.ground.getD (i+1+x) 0)=some (p.ground.getD i 0,p.ground.getD (i+1+x) 0):=by
     unfold I_bar
     rw [Int.min_eq_left (by omega),Int.max_eq_right (by omega)]
    obtain ⟨L',k1,k2⟩:=ih (x+1) (L++[(p.ground.getD i 0,p.ground.getD (i+1+x) 0)]) (by omega) (by omega) (by simp; omega) fun e=>by
     rw [List.mem_append,h4 e,List.mem_singleton]
     constructor
     ·rintro (⟨i',j,g1,g2,g3,g4⟩ | h)
      ·exact ⟨i',j,g1,g2,by omega,g4⟩
      exact ⟨i,i+1+x,by omega,hx,by omega,h⟩
     rintro ⟨i',j,g1,g2,g3,g4⟩
     by_cases hc:i'<i∨i'=i∧j<i+1+x
     ·exact .inl ⟨i',j,g1,g2,hc,g4⟩
     right
     have h1:i'=i:=by omega
     have h2:j=i+1+x:=by omega
     rw [g4,h1,h2]
    refine ⟨L',?_,k2⟩
    simp (disch:=omega) only [Int.toNat_natCast,tk0,List.length_cons,List.length_nil,Af,Ay,At,Al,Ak,cnd_true,cnd_false,Option.bind_some,e1,e2,e3,eb,Am]
    exact k1
   refine ⟨L,?_,by omega,fun e=>?_⟩
   ·simp (disch:=omega) only [Int.toNat_natCast,tk0,List.length_cons,List.length_nil,Af,Ay,At,Al,Ak,cnd_true,cnd_false,Option.bind_some,e1,e2]
   rw [h4 e]
   constructor
   ·rintro ⟨i',j,g1,g2,g3,g4⟩
    exact ⟨i',j,g1,g2,by omega,g4⟩
   rintro ⟨i',j,g1,g2,g3,g4⟩
   exact ⟨i',j,g1,g2,by omega,g4⟩
 have key1:∀ {kk:List (Int×Int)→Option (List (Int×Int))} (fuel i:Nat) (L:List (Int×Int)),i≤p.ground.length→p.ground.length<fuel+i→L.length≤28*i→(∀ e,e∈L↔∃ i' j:Nat,i'<j∧j<p.ground.length∧i'<i∧e=(p.ground.getD i' 0,p.ground.getD j 0)) →
   ∃ L',Di N p kk fuel (L,(i:Int))=kk L'∧L'.length≤800∧HeldI p.ground L':=by
  intro kk fuel
  induction fuel with
  | zero=>intro i L h1 h2; omega
  | succ fuel ih=>
   intro i L h1 h2 h3 h4
   rw [Di]
   by_cases hi:i<p.ground.length
   ·obtain ⟨L1,a1,a2,a3⟩:=key2 (kk:=fun l100=>Di N p kk fuel (l100,((i:Int)+(1:Int)))) i hi N 0 L (by omega) (by omega) (by omega) fun e=>by
     rw [h4 e]
     constructor
     ·rintro ⟨i',j,g1,g2,g3,g4⟩
      exact ⟨i',j,g1,g2,by omega,g4⟩
     rintro ⟨i',j,g1,g2,g3,g4⟩
     exact ⟨i',j,g1,g2,by omega,g4⟩
    rw [show ((0:Nat):Int)=0 from rfl] at a1
    obtain ⟨L',k1,k2⟩:=ih (i+1) L1 (by omega) (by omega) (by omega) a3
    refine ⟨L',?_,k2⟩
    rw [Al (by omega),Af (by omega),At (by omega) (by omega),Af (by omega)]
    refine a1.trans ?_
    rw [←k1,Am]
   have e:i=p.ground.length:=by omega
   subst e
   refine ⟨L,?_,by omega,fun e=>?_⟩
   ·simp (disch:=omega) only [Int.toNat_natCast,tk0,List.length_cons,List.length_nil,Af,Ay,At,Al,Ak,cnd_true,cnd_false,Option.bind_some]
   rw [h4 e]
   constructor
   ·rintro ⟨i',j,g1,g2,g3,g4⟩
    exact ⟨i',j,g1,g2,g4⟩
   rintro ⟨i',j,g1,g2,g4⟩
   exact ⟨i',j,g1,g2,by omega,g4⟩
 obtain ⟨L,k1,k2⟩:=key1 (kk:=fun x=>some x) N 0 [] (by omega) (by omega) (by simp) (fun e=>by
  constructor
  ·intro h; simp at h
  rintro ⟨i',j,g1,g2,g3,g4⟩; omega)
 rw [show ((0:Nat):Int)=0 from rfl] at k1
 exact ⟨L,k1,k2⟩
theorem Xd {I:List (Int×Int)} (h:Spr n I):I.length≤2*n:=by
 have h1:spn (fun _=>true) I=I.length:=by simp [spn,inX]
 have h2:vsz n (fun _=>true)=n:=by simp [vsz]
 by_cases h0:0<spn (fun _=>true) I
 ·have:=h _ h0
  rw [h1,h2] at this
  omega
 omega
theorem two_ranks {G:List Int} {LH LS LI bars I J:List (Int×Int)} (hG:∀ i,i<G.length→0≤G.getD i 0∧G.getD i 0<n) (hlt:∀ j i:Nat,i<j→j<G.length→G.getD i 0<G.getD j 0) (hS:HeldS G LH G.length) (hI:HeldI G LI)
  (hb:∀ e∈bars,Bok n e) (hLS:∀ e,e∈LS↔e∈LH∨e∈bars) (h1:Bas n LS I) (h2:Bas n (LI++bars) J):I.length=J.length:=by
 have pok:∀ i j:Nat,i<j→j<G.length→Bok n (G.getD i 0,G.getD j 0):=fun i j g1 g2=>by
  have a:=hG i (by omega)
  have b:=hG j g2
  have c:=hlt j i g1 g2
  exact ⟨a.1,a.2,b.1,b.2,by simp only; omega⟩
 have okI:∀ e∈I,Bok n e:=fun e he=>by
  rcases (hLS e).1 (h1.mem e he) with h | h
  ·obtain ⟨i,j,g1,g2,rfl⟩:=hS.mem e h; exact pok i j g1 g2
  exact hb e h
 have okJ:∀ e∈J,Bok n e:=fun e he=>by
  rcases List.mem_append.1 (h2.mem e he) with h | h
  ·obtain ⟨i,j,g1,g2,rfl⟩:=(hI e).1 h; exact pok i j g1 g2
  exact hb e h
 have le1:I.length≤J.length:=spr_le h2.spr h1.spr okJ fun e he=>h2.spn e (List.mem_append.2 (by
  rcases (hLS e).1 (h1.mem e he) with h | h
  ·exact .inl ((hI e).2 (hS.mem e h))
  exact .inr h))
 have le2:J.length≤I.length:=by
  refine spr_le h1.spr h2.spr okI fun e he=>?_
  rcases List.mem_append.1 (h2.mem e he) with h | h
  ·obtain ⟨i,j,g1,g2,rfl⟩:=(hI e).1 h
   have s0:∀ k,1≤k→k<G.length→∃ X,Tgt n I X∧inX X (G.getD 0 0,G.getD k 0)=true:=fun k a b=>h1.spn _ ((hLS _).2 (.inl (hS.h0 k a b)))
   have s1:∀ k,2≤k→k<G.length→∃ X,Tgt n I X∧inX X (G.getD 1 0,G.getD k 0)=true:=fun k a b=>h1.spn _ ((hLS _).2 (.inl (hS.h1 k a b)))
   have t:∀ k,2≤k→k<G.length→∃ W,Tgt n I W∧W (G.getD 0 0)=true∧W (G.getD 1 0)=true∧W (G.getD k 0)=true:=by
    intro k a b
    obtain ⟨A,a1,a2⟩:=s0 1 (by omega) (by omega)
    obtain ⟨B,b1,b2⟩:=s0 k (by omega) b
    obtain ⟨C,c1,c2⟩:=s1 k a b
    simp only [inX,Bool.and_eq_true] at a2 b2 c2
    have l1:=hlt 1 0 (by omega) (by omega)
    have l2:=hlt k 0 (by omega) b
    have l3:=hlt k 1 (by omega) b
    exact tri h1.spr okI a1 b1 c1 (hG 0 (by omega)) (hG 1 (by omega)) (hG k b) (by omega) (by omega) (by omega) a2.1 a2.2 b2.1 b2.2 c2.1 c2.2
   by_cases e0:i=0
   ·subst e0; exact s0 j (by omega) g2
   by_cases e1:i=1
   ·subst e1; exact s1 j (by omega) g2
   obtain ⟨V,v1,v2,v3,v4⟩:=t i (by omega) (by omega)
   obtain ⟨W,w1,w2,w3,w4⟩:=t j (by omega) g2
   have l1:=hlt 1 0 (by omega) (by omega)
   refine ⟨vU V W,v1.union h1.spr w1 (Je (hG 0 (by omega)) (hG 1 (by omega)) (by omega) (by simp only [vI,v2,w2,Bool.and_self]) (by simp only [vI,v3,w3,Bool.and_self])),?_⟩
   simp only [inX,vU,v4,w4,Bool.true_or,Bool.or_true,Bool.and_self]
  exact h1.spn e ((hLS e).2 (.inr h))
 omega
theorem pin_ranks (hN:4000000≤N) {p:Pin} (hp:Az p=true):∃ (r s:Nat) (hS:Grf) (aS:Grf) (hI:List (Int×Int)),Pm N p=some aS∧Mu N p=some hS∧Lg N aS=some (r:Int)∧Lg N hS=some (s:Int) ∧
  Jc N p=some hI∧hI.length≤800∧Hp N p.g.n (hI++p.g.bars)=some (r:Int)∧Hp N p.g.n hI=some (s:Int)∧r≤1000∧s≤1000:=by
 obtain ⟨p1,p2,p3,p4,p5,p6,p7⟩:=Cy hp
 obtain ⟨hn1,hn2,hbl⟩:=Qh p1
 obtain ⟨n,hn⟩:=Int.eq_ofNat_of_zero_le (show 0≤p.g.n by omega)
 obtain ⟨LH,LS,a1,a2,a3,a4,a5,a6,_⟩:=allS_s (N:=N) hN (p:=p) (by omega) (by omega)
 obtain ⟨LI,b1,b2,b3⟩:=heldI_s (N:=N) hN (p:=p) (by omega) p6
 have hG:∀ i,i<p.ground.length→0≤p.ground.getD i 0∧p.ground.getD i 0<n:=fun i hi=>by
  have:=asc_in p6 (Dc (d:=0) hi)
  omega
 have hlt:=asc_lt p6
 have hb:∀ e∈p.g.bars,Bok n e:=fun e he=>by
  have:=Fw p1 he
  exact ⟨by omega,by omega,by omega,by omega,by omega⟩
 have pok:∀ i j:Nat,i<j→j<p.ground.length→Bok n (p.ground.getD i 0,p.ground.getD j 0):=fun i j g1 g2=>by
  have a:=hG i (by omega)
  have b:=hG j g2
  have c:=hlt j i g1 g2
  exact ⟨a.1,a.2,b.1,b.2,by simp only; omega⟩
 have okLH:∀ e∈LH,Bok n e:=fun e he=>by
  obtain ⟨i,j,g1,g2,rfl⟩:=a3.mem e he; exact pok i j g1 g2
 have okLI:∀ e∈LI,Bok n e:=fun e he=>by
  obtain ⟨i,j,g1,g2,rfl⟩:=(b3 e).1 he; exact pok i j g1 g2
 obtain ⟨I1,c1,c2⟩:=Abb (N:=N) hN (g:=⟨p.g.n,LS⟩) (n:=n) hn (by omega) (fun e he=>by
  rcases (a6 e).1 he with h | h
  ·exact okLH e h
  exact hb e h) (by simp only; omega)
 obtain ⟨I2,d1,d2⟩:=Abb (N:=N) hN (g:=⟨p.g.n,LH⟩) (n:=n) hn (by omega) okLH (by simp only; omega)
 obtain ⟨J1,e1,e2⟩:=Zc (N:=N) hN (n:=n) (by omega) (bars:=LI++p.g.bars) (fun e he=>by
  rcases List.mem_append.1 he with h | h
  ·exact okLI e h
  exact hb e h) (by simp; omega)
 obtain ⟨J2,f1,f2⟩:=Zc (N:=N) hN (n:=n) (by omega) (bars:=LI) okLI (by omega)
 have q1:=two_ranks hG hlt a3 b3 hb a6 c1 e1
 have q2:=two_ranks (bars:=[]) hG hlt a3 b3 (by simp) (by simp) d1 (by simpa using f1)
 refine ⟨I1.length,I2.length,_,_,LI,a4,a1,c2,d2,b1,b2,?_,?_,?_,?_⟩
 ·rw [hn,e2,q1]
 ·rw [hn,f2,q2]
 ·have:=Xd c1.spr
  omega
 have:=Xd d1.spr
 omega
theorem pinnedRank_x (hN:4000000≤N) {p:Pin} (hb:p.g.bars.length≤3000000) (hg:p.ground.length≤3000000):∃ r:Int,Fi N p=some r∧Jy N p=some r∧-1001≤r∧r≤1001:=by
 cases hp:Az p with
 | false=>
  refine ⟨-1,?_,?_,by omega,by omega⟩
  ·unfold Fi
   simp (disch:=omega) only [Int.toNat_natCast,tk0,List.length_cons,List.length_nil,Af,Ay,At,Al,Ak,cnd_true,cnd_false,Option.bind_some,Bw N hN hb hg,hp,Bool.not_false]
  unfold Jy
  simp (disch:=omega) only [Int.toNat_natCast,tk0,List.length_cons,List.length_nil,Af,Ay,At,Al,Ak,cnd_true,cnd_false,Option.bind_some,Eu N hN hb hg,hp,Bool.not_false]
 | true=>
  obtain ⟨r,s,hS,aS,hI,h1,h2,h3,h4,h5,h6,h7,h8,h9,h10⟩:=pin_ranks hN hp
  obtain ⟨b1,b2,b3,b4⟩:=Bz hp
  refine ⟨(r:Int)-s,?_,?_,by omega,by omega⟩
  ·unfold Fi
   simp (disch:=omega) only [Int.toNat_natCast,tk0,List.length_cons,List.length_nil,Af,Ay,At,Al,Ak,cnd_true,cnd_false,Option.bind_some,Bw N hN hb hg,hp,Bool.not_true,h1,h2,h3,h4]
  unfold Jy
  simp (disch:=omega) only [Int.toNat_natCast,tk0,List.length_cons,List.length_nil,Af,Ay,At,Al,Ak,cnd_true,cnd_false,Option.bind_some,Eu N hN hb hg,hp,Bool.not_true,h5,h7,h8]
theorem Zm (hN:4000000≤N) {p:Pin} (hb:p.g.bars.length≤3000000) (hg:p.ground.length≤3000000):∃ r:Int,Dv N p=some r∧Gk N p=some r:=by
 obtain ⟨r,h1,h2,h3,h4⟩:=pinnedRank_x (N:=N) hN hb hg
 cases hp:Az p with
 | false=>
  refine ⟨-1,?_,?_⟩
  ·unfold Dv
   simp (disch:=omega) only [Int.toNat_natCast,tk0,List.length_cons,List.length_nil,Af,Ay,At,Al,Ak,cnd_true,cnd_false,Option.bind_some,Bw N hN hb hg,hp,Bool.not_false]
  unfold Gk
  simp (disch:=omega) only [Int.toNat_natCast,tk0,List.length_cons,List.length_nil,Af,Ay,At,Al,Ak,cnd_true,cnd_false,Option.bind_some,Eu N hN hb hg,hp,Bool.not_false]
 | true=>
  obtain ⟨b1,b2,b3,b4⟩:=Bz hp
  have hl:(Aw p).length≤8:=by
   unfold Aw
   rw [hp,cnd_true,Jb]
   have:=Mn p.ground p.g.n.toNat
   omega
  refine ⟨2*((Aw p).length:Int)-r,?_,?_⟩
  ·unfold Dv
   simp (disch:=omega) only [Int.toNat_natCast,tk0,List.length_cons,List.length_nil,Af,Ay,At,Al,Ak,cnd_true,cnd_false,Option.bind_some,Bw N hN hb hg,hp,Bool.not_true,Sd N hN hb hg,h1]
  unfold Gk
  simp (disch:=omega) only [Int.toNat_natCast,tk0,List.length_cons,List.length_nil,Af,Ay,At,Al,Ak,cnd_true,cnd_false,Option.bind_some,Eu N hN hb hg,hp,Bool.not_true,Si N hN hb hg,h2]
end
section
variable {n:Nat}
def Tied (n:Nat) (I:List (Int×Int)) (e:Int×Int):Prop:=∃ X,Tgt n I X∧inX X e=true
theorem spr_add {I:List (Int×Int)} (hI:Spr n I) {e:Int×Int} (hb:Bok n e) (h:¬ Tied n I e):Spr n (I++[e]):=by
 intro X hX
 rw [Sc] at hX ⊢
 have e1:spn X [e]=if inX X e=true then 1 else 0:=by rw [Gx]; simp [spn]
 rw [e1] at hX ⊢
 by_cases hin:inX X e=true
 ·rw [if_pos hin]
  have h2:2≤vsz n X:=by
   obtain ⟨h1,h2,h3,h4,h5⟩:=hb
   simp only [inX,Bool.and_eq_true] at hin
   exact Je ⟨h1,h2⟩ ⟨h3,h4⟩ h5 hin.1 hin.2
  by_cases h0:0<spn X I
  ·have:=hI X h0
   have hn:¬ Tgt n I X:=fun ht=>h ⟨X,ht,hin⟩
   have:¬ (2*vsz n X≤spn X I+3):=fun hc=>hn ⟨h2,hc⟩
   omega
  omega
 rw [if_neg hin] at hX ⊢
 have:=hI X (by omega)
 omega
theorem bas_len {L L' I J:List (Int×Int)} (hb:∀ e∈L,Bok n e) (hm:∀ e,e∈L'↔e∈L) (hI:Bas n L I) (hJ:Bas n L' J):I.length=J.length:=by
 have h1:J.length≤I.length:=spr_le hI.spr hJ.spr (fun e he=>hb e (hI.mem e he)) fun e he=>hI.spn e ((hm e).1 (hJ.mem e he))
 have h2:I.length≤J.length:=spr_le hJ.spr hI.spr (fun e he=>hb e ((hm e).1 (hJ.mem e he))) fun e he=>hJ.spn e ((hm e).2 (hI.mem e he))
 omega
theorem rank_tied {L L' I J:List (Int×Int)} {e:Int×Int} (hb:∀ x∈L,Bok n x) (he:Bok n e) (hm:∀ x,x∈L'↔x=e∨x∈L) (hI:Bas n L I) (hJ:Bas n L' J) (h:Tied n I e):J.length=I.length:=by
 have hI':Bas n L' I:=⟨fun x hx=>(hm x).2 (.inr (hI.mem x hx)),hI.spr,fun x hx=>by
  rcases (hm x).1 hx with rfl | hx
  ·exact h
  exact hI.spn x hx⟩
 exact (bas_len (L:=L') (fun x hx=>by
  rcases (hm x).1 hx with rfl | hx
  ·exact he
  exact hb x hx) (fun x=>Iff.rfl) hI' hJ).symm
theorem rank_free {L L' I J:List (Int×Int)} {e:Int×Int} (hb:∀ x∈L,Bok n x) (he:Bok n e) (hm:∀ x,x∈L'↔x=e∨x∈L) (hI:Bas n L I) (hJ:Bas n L' J) (h:¬ Tied n I e):J.length=I.length+1:=by
 have hI':Bas n L' (I++[e]):=⟨fun x hx=>by
  rcases List.mem_append.1 hx with hx | hx
  ·exact (hm x).2 (.inr (hI.mem x hx))
  ·simp at hx; exact (hm x).2 (.inl hx),spr_add hI.spr he h,fun x hx=>by
  rcases (hm x).1 hx with rfl | hx
  ·exact ⟨_,tgt_bar (by simp) he,by simp [inX,v2]⟩
  obtain ⟨X,g1,g2⟩:=hI.spn x hx
  exact ⟨X,g1.grow (by rw [Sc]; omega),g2⟩⟩
 have:=bas_len (L:=L') (fun x hx=>by
  rcases (hm x).1 hx with rfl | hx
  ·exact he
  exact hb x hx) (fun x=>Iff.rfl) hI' hJ
 simp at this
 omega
theorem rank_iff {L L' I J:List (Int×Int)} {e:Int×Int} (hb:∀ x∈L,Bok n x) (he:Bok n e) (hm:∀ x,x∈L'↔x=e∨x∈L) (hI:Bas n L I) (hJ:Bas n L' J):J.length=I.length↔Tied n I e:=by
 by_cases h:Tied n I e
 ·exact ⟨fun _=>h,fun _=>rank_tied hb he hm hI hJ h⟩
 have:=rank_free hb he hm hI hJ h
 exact ⟨fun h=>by omega,fun h'=>absurd h' h⟩
theorem Tied.swap {I:List (Int×Int)} {a b:Int} (h:Tied n I (a,b)):Tied n I (b,a):=by
 obtain ⟨X,h1,h2⟩:=h
 refine ⟨X,h1,?_⟩
 simp only [inX,Bool.and_eq_true] at h2 ⊢
 exact ⟨h2.2,h2.1⟩
theorem Tied.tri {I:List (Int×Int)} (hI:Spr n I) (ok:∀ e∈I,Bok n e) {x y z:Int} (hx:0≤x∧x<n) (hy:0≤y∧y<n) (hz:0≤z∧z<n) (hxy:x≠y) (hxz:x≠z) (hyz:y≠z) (a:Tied n I (x,y)) (b:Tied n I (x,z)) (c:Tied n I (y,z)):∃ W,Tgt n I W∧W x=true∧W y=true∧W z=true:=by
 obtain ⟨A,a1,a2⟩:=a
 obtain ⟨B,b1,b2⟩:=b
 obtain ⟨C,c1,c2⟩:=c
 simp only [inX,Bool.and_eq_true] at a2 b2 c2
 exact Ytcljhpldfanhkaa.tri hI ok a1 b1 c1 hx hy hz hxy hxz hyz a2.1 a2.2 b2.1 b2.2 c2.1 c2.2
theorem Tied.via {I:List (Int×Int)} (hI:Spr n I) (ok:∀ e∈I,Bok n e) {x y z w:Int} (hx:0≤x∧x<n) (hy:0≤y∧y<n) (hz:0≤z∧z<n) (hw:0≤w∧w<n) (hxy:x≠y) (hxz:x≠z) (hyz:y≠z) (hxw:x≠w) (hyw:y≠w)
  (a:Tied n I (x,y)) (b:Tied n I (x,z)) (c:Tied n I (y,z)) (d:Tied n I (x,w)) (f:Tied n I (y,w)):Tied n I (z,w):=by
 obtain ⟨V,v1,v2,v3,v4⟩:=Tied.tri hI ok hx hy hz hxy hxz hyz a b c
 obtain ⟨W,w1,w2,w3,w4⟩:=Tied.tri hI ok hx hy hw hxy hxw hyw a d f
 refine ⟨vU V W,v1.union hI w1 (Je hx hy hxy (by simp only [vI,v2,w2,Bool.and_self]) (by simp only [vI,v3,w3,Bool.and_self])),?_⟩
 simp only [inX,vU,v4,w4,Bool.true_or,Bool.or_true,Bool.and_self]
end
section
open Go.RowKit
def Hz (N:Nat) (g_0:Grf) (k_1:Int):Option (Grf×Bool):=
 (Jm N g_0).bind fun v1=>
 cnd (!v1) (
  (Gf N g_0).bind fun v2=>
  some ((⟨v2.n,v2.bars⟩:Grf),false)) (
  cnd (decide (k_1<(0:Int))) (
   (Gf N g_0).bind fun v3=>
   some ((⟨v3.n,v3.bars⟩:Grf),false)) (
   cnd (decide (k_1≥(g_0.bars.length:Int))) (
    (Gf N g_0).bind fun v4=>
    some ((⟨v4.n,v4.bars⟩:Grf),false)) (
    grd (0≤k_1∧k_1≤(g_0.bars.length:Int)) <|
    grd (((g_0.bars.take ((k_1).toNat)).drop 0).length≤4294967296) <|
    grd (Bf (k_1+(1:Int))) <|
    grd (0≤(k_1+(1:Int))∧(k_1+(1:Int))≤(g_0.bars.length:Int)) <|
    grd ((([]:List (Int×Int))++((g_0.bars.take ((k_1).toNat)).drop 0)).length+((g_0.bars.take g_0.bars.length).drop (((k_1+(1:Int))).toNat)).length≤4294967296) <|
    some ((⟨g_0.n,((([]:List (Int×Int))++((g_0.bars.take ((k_1).toNat)).drop 0))++((g_0.bars.take g_0.bars.length).drop (((k_1+(1:Int))).toNat)))⟩:Grf),true))))
theorem Qw (N:Nat) (g_0:Grf) (k_1:Int) (r:Grf×Bool) (h:Hz N g_0 k_1=some r):PCall Try.prog 172 [gD g_0,.int k_1] [(111,.pairs r.1.bars)] (.tup [.agg [.int r.1.n,.row 0 0 r.1.bars.length],.bool r.2]):=by
 unfold Hz at h
 refine Ah (TT:=TT) tt Try.func172 rfl rfl Try.ntmps172 (congrArg Array.toList Try.results172) rfl rfl fun w0=>?_
 refine Ag ?_
 refine Aa ?_
 refine Km rfl rfl rfl rfl rfl rfl rfl rfl rfl ?_
 refine Bj tt rfl rfl rfl rfl rfl rfl rfl rfl rfl ?_
 refine oV5 tt rfl Tvv ?_
 refine Ae ?_
 show VC ..
 iterate 2 refine Ag ?_
 refine Aa ?_
 refine oV5 tt rfl Tvv ?_
 obtain ⟨v1,hc1,h⟩:=Ac h
 refine Ba (Kp N g_0 v1 hc1) rfl rfl rfl rfl rfl rfl rfl rfl ⟨⟨rfl,rfl,Tvv⟩,Tvv⟩ ?_
 iterate 2 refine oV5 tt rfl Tvv ?_
 refine Bc rfl rfl rfl (fun hb2=>?_) (fun hb2=>?_)
 ·replace h:=Ai hb2 h
  iterate 2 refine Hm rfl rfl rfl rfl hb2 rfl rfl ?_
  refine Be rfl rfl rfl rfl rfl hb2 rfl ?_
  refine oV5 tt rfl Tvv ?_
  iterate 5 refine Hm rfl rfl rfl rfl rfl rfl rfl ?_
  refine Be rfl rfl rfl rfl rfl rfl rfl ?_
  refine Ae ?_
  show VC ..
  refine Bs rfl rfl ?_
  refine Ag ?_
  refine Aa ?_
  refine oV5 tt rfl Tvv ?_
  obtain ⟨v2,hc3,h⟩:=Ac h
  refine Ba (Hg N g_0 v2 hc3) rfl rfl rfl rfl rfl rfl rfl rfl ⟨⟨rfl,rfl,Tvv⟩,Tvv⟩ ?_
  refine Ao tt rfl rfl rfl rfl rfl rfl rfl rfl rfl rfl rfl ⟨Tvv,Tvv,Tvv⟩ ?_
  refine oV5 tt rfl Tvv ?_
  refine Ae ?_
  show VC ..
  refine Bb ?_
  show ∃ _,_
  cases h
  exact ⟨[1210],_,rfl,⟨rfl,Tvv⟩,rfl,(.eq rfl),rfl⟩
 replace h:=Aj hb2 h
 iterate 2 refine Bd tt rfl rfl rfl rfl rfl hb2 rfl rfl rfl Tvv ?_
 refine Av rfl rfl rfl rfl rfl hb2 rfl ?_
 refine oV5 tt rfl Tvv ?_
 refine Bc rfl rfl rfl (fun hb4=>?_) (fun hb4=>?_)
 ·replace h:=Ai hb4 h
  iterate 5 refine Hm rfl rfl rfl rfl hb4 rfl rfl ?_
  refine Be rfl rfl rfl rfl rfl hb4 rfl ?_
  refine Ae ?_
  show VC ..
  refine Bs rfl rfl ?_
  refine Ag ?_
  refine Aa ?_
  refine oV5 tt rfl Tvv ?_
  obtain ⟨v3,hc5,h⟩:=Ac h
  refine Ba (Hg N g_0 v3 hc5) rfl rfl rfl rfl rfl rfl rfl rfl ⟨⟨rfl,rfl,Tvv⟩,Tvv⟩ ?_
  refine Ao tt rfl rfl rfl rfl rfl rfl rfl rfl rfl rfl rfl ⟨Tvv,Tvv,Tvv⟩ ?_
  refine oV5 tt rfl Tvv ?_
  refine Ae ?_
  show VC ..
  refine Bb ?_
  show ∃ _,_
  cases h
  exact ⟨[1210],_,rfl,⟨rfl,Tvv⟩,rfl,(.eq rfl),rfl⟩
 replace h:=Aj hb4 h
 iterate 5 refine Bd tt rfl rfl rfl rfl rfl hb4 rfl rfl rfl Tvv ?_
 refine Av rfl rfl rfl rfl rfl hb4 rfl ?_
 refine Ae ?_
 show VC ..
 refine Au rfl (fun hb6=>?_) (fun hb6=>?_)
 ·replace h:=Ai hb6 h
  refine Ag ?_
  refine Aa ?_
  refine oV5 tt rfl Tvv ?_
  obtain ⟨v4,hc7,h⟩:=Ac h
  refine Ba (Hg N g_0 v4 hc7) rfl rfl rfl rfl rfl rfl rfl rfl ⟨⟨rfl,rfl,Tvv⟩,Tvv⟩ ?_
  refine Ao tt rfl rfl rfl rfl rfl rfl rfl rfl rfl rfl rfl ⟨Tvv,Tvv,Tvv⟩ ?_
  refine oV5 tt rfl Tvv ?_
  refine Ae ?_
  show VC ..
  refine Bb ?_
  show ∃ _,_
  cases h
  exact ⟨[1210],_,rfl,⟨rfl,Tvv⟩,rfl,(.eq rfl),rfl⟩
 replace h:=Aj hb6 h
 refine Ar ?_
 show VC ..
 refine Ag ?_
 refine Bl 14 [7,13,1130000029] [0,1,0,0,8,0,56,124,0,256,0,1024,3840,8188,16383,32767,65535] (by kernel_rfl) (by kernel_rfl) (by kernel_rfl) (by kernel_rfl) (by kernel_rfl) rfl (by rfl) ?_
 iterate 2 refine Bo tt rfl (Ad rfl) rfl rfl rfl rfl rfl Tvv ?_
 refine nEmpty tt (Ad rfl) rfl rfl rfl rfl rfl ?_
 iterate 3 refine Bo tt rfl (Ad rfl) rfl rfl rfl rfl rfl Tvv ?_
 obtain ⟨hg8,h⟩:=Ab h
 refine Bo tt rfl (Ad rfl) rfl rfl rfl rfl rfl hg8 ?_
 obtain ⟨hg9,h⟩:=Ab h
 refine nAppNil tt (Ad rfl) rfl rfl rfl rfl rfl rfl rfl rfl (fun _=>rfl) rfl rfl rfl rfl rfl rfl hg9 ?_
 iterate 3 refine Bo tt rfl (Ad rfl) rfl rfl rfl rfl rfl Tvv ?_
 obtain ⟨hg10,h⟩:=Ab h
 refine Bo tt rfl (Ad rfl) rfl rfl rfl rfl rfl hg10 ?_
 obtain ⟨hg11,h⟩:=Ab h
 refine Bo tt rfl (Ad rfl) rfl rfl rfl rfl rfl hg11 ?_
 obtain ⟨hg12,h⟩:=Ab h
 refine nAppMove tt (Ad rfl) rfl rfl rfl rfl rfl rfl rfl rfl rfl rfl rfl rfl rfl rfl rfl rfl rfl rfl rfl rfl Tvv hg12 ?_
 refine Lt ?_
 show VO _ _ _ _ _
 refine Du (Ad rfl) (Dp Gb rfl rfl) rfl rfl ?_
 refine Ao tt rfl rfl rfl rfl rfl rfl rfl rfl rfl rfl rfl ⟨Tvv,Tvv,Tvv⟩ ?_
 refine oV5 tt rfl Tvv ?_
 refine Ae ?_
 show VC ..
 refine Bb ?_
 show ∃ _,_
 cases h
 exact ⟨[35],_,rfl,⟨rfl,Tvv⟩,rfl,(.eq rfl),rfl⟩
def Dk (N:Nat) (g_0:Grf) (a_1:Int) (b_2:Int):Option (Bool):=
 (Jm N g_0).bind fun v1=>
 cnd (!v1) (
  some false) (
  cnd (decide (a_1<(0:Int))) (
   some false) (
   cnd (decide (b_2<(0:Int))) (
    some false) (
    cnd (decide (a_1≥g_0.n)) (
     some false) (
     cnd (decide (b_2≥g_0.n)) (
      some false) (
      (Cq N g_0 ((min a_1 b_2),(max a_1 b_2))).bind fun v2=>
      cnd (a_1==b_2) (
       some true) (
       (Lg N v2).bind fun v3=>
       (Lg N g_0).bind fun v4=>
       some (v3==v4)))))))
theorem Ts (N:Nat) (g_0:Grf) (a_1:Int) (b_2:Int) (r:Bool) (h:Dk N g_0 a_1 b_2=some r):PCall Try.prog 121 [gD g_0,.int a_1,.int b_2] [] (.bool r):=by
 unfold Dk at h
 refine Ah (TT:=TT) tt Try.func121 rfl rfl Try.ntmps121 (congrArg Array.toList Try.results121) rfl rfl fun w0=>?_
 refine Ag ?_
 refine Aa ?_
 refine Km rfl rfl rfl rfl rfl rfl rfl rfl rfl ?_
 refine oV5 tt rfl Tvv ?_
 refine Ae ?_
 show VC ..
 iterate 2 refine Ag ?_
 refine Aa ?_
 refine oV5 tt rfl Tvv ?_
 obtain ⟨v1,hc1,h⟩:=Ac h
 refine Ba (Kp N g_0 v1 hc1) rfl rfl rfl rfl rfl rfl rfl rfl ⟨⟨rfl,rfl,Tvv⟩,Tvv⟩ ?_
 iterate 2 refine oV5 tt rfl Tvv ?_
 refine Bc rfl rfl rfl (fun hb2=>?_) (fun hb2=>?_)
 ·replace h:=Ai hb2 h
  iterate 2 refine Hm rfl rfl rfl rfl hb2 rfl rfl ?_
  refine Be rfl rfl rfl rfl rfl hb2 rfl ?_
  refine oV5 tt rfl Tvv ?_
  iterate 2 refine Hm rfl rfl rfl rfl rfl rfl rfl ?_
  refine Be rfl rfl rfl rfl rfl rfl rfl ?_
  refine oV5 tt rfl Tvv ?_
  iterate 4 refine Hm rfl rfl rfl rfl rfl rfl rfl ?_
  refine Be rfl rfl rfl rfl rfl rfl rfl ?_
  refine oV5 tt rfl Tvv ?_
  iterate 4 refine Hm rfl rfl rfl rfl rfl rfl rfl ?_
  refine Be rfl rfl rfl rfl rfl rfl rfl ?_
  refine Ae ?_
  show VC ..
  refine Bs rfl rfl ?_
  refine Ag ?_
  refine Aa ?_
  refine oV5 tt rfl Tvv ?_
  refine Ae ?_
  show VC ..
  refine Bb ?_
  show ∃ _,_
  cases h
  exact ⟨[],_,rfl,Tvv,rfl,(.eq rfl),rfl⟩
 replace h:=Aj hb2 h
 iterate 2 refine Bd tt rfl rfl rfl rfl rfl hb2 rfl rfl rfl Tvv ?_
 refine Av rfl rfl rfl rfl rfl hb2 rfl ?_
 refine oV5 tt rfl Tvv ?_
 refine Bc rfl rfl rfl (fun hb3=>?_) (fun hb3=>?_)
 ·replace h:=Ai hb3 h
  iterate 2 refine Hm rfl rfl rfl rfl hb3 rfl rfl ?_
  refine Be rfl rfl rfl rfl rfl hb3 rfl ?_
  refine oV5 tt rfl Tvv ?_
  iterate 4 refine Hm rfl rfl rfl rfl rfl rfl rfl ?_
  refine Be rfl rfl rfl rfl rfl rfl rfl ?_
  refine oV5 tt rfl Tvv ?_
  iterate 4 refine Hm rfl rfl rfl rfl rfl rfl rfl ?_
  refine Be rfl rfl rfl rfl rfl rfl rfl ?_
  refine Ae ?_
  show VC ..
  refine Bs rfl rfl ?_
  refine Ag ?_
  refine Aa ?_
  refine oV5 tt rfl Tvv ?_
  refine Ae ?_
  show VC ..
  refine Bb ?_
  show ∃ _,_
  cases h
  exact ⟨[],_,rfl,Tvv,rfl,(.eq rfl),rfl⟩
 replace h:=Aj hb3 h
 iterate 2 refine Bd tt rfl rfl rfl rfl rfl hb3 rfl rfl rfl Tvv ?_
 refine Av rfl rfl rfl rfl rfl hb3 rfl ?_
 refine oV5 tt rfl Tvv ?_
 refine Bc rfl rfl rfl (fun hb4=>?_) (fun hb4=>?_)
 ·replace h:=Ai hb4 h
  iterate 4 refine Hm rfl rfl rfl rfl hb4 rfl rfl ?_
  refine Be rfl rfl rfl rfl rfl hb4 rfl ?_
  refine oV5 tt rfl Tvv ?_
  iterate 4 refine Hm rfl rfl rfl rfl rfl rfl rfl ?_
  refine Be rfl rfl rfl rfl rfl rfl rfl ?_
  refine Ae ?_
  show VC ..
  refine Bs rfl rfl ?_
  refine Ag ?_
  refine Aa ?_
  refine oV5 tt rfl Tvv ?_
  refine Ae ?_
  show VC ..
  refine Bb ?_
  show ∃ _,_
  cases h
  exact ⟨[],_,rfl,Tvv,rfl,(.eq rfl),rfl⟩
 replace h:=Aj hb4 h
 iterate 4 refine Bd tt rfl rfl rfl rfl rfl hb4 rfl rfl rfl Tvv ?_
 refine Av rfl rfl rfl rfl rfl hb4 rfl ?_
 refine oV5 tt rfl Tvv ?_
 refine Bc rfl rfl rfl (fun hb5=>?_) (fun hb5=>?_)
 ·replace h:=Ai hb5 h
  iterate 4 refine Hm rfl rfl rfl rfl hb5 rfl rfl ?_
  refine Be rfl rfl rfl rfl rfl hb5 rfl ?_
  refine Ae ?_
  show VC ..
  refine Bs rfl rfl ?_
  refine Ag ?_
  refine Aa ?_
  refine oV5 tt rfl Tvv ?_
  refine Ae ?_
  show VC ..
  refine Bb ?_
  show ∃ _,_
  cases h
  exact ⟨[],_,rfl,Tvv,rfl,(.eq rfl),rfl⟩
 replace h:=Aj hb5 h
 iterate 4 refine Bd tt rfl rfl rfl rfl rfl hb5 rfl rfl rfl Tvv ?_
 refine Av rfl rfl rfl rfl rfl hb5 rfl ?_
 refine Ae ?_
 show VC ..
 refine Au rfl (fun hb6=>?_) (fun hb6=>?_)
 ·replace h:=Ai hb6 h
  refine Ag ?_
  refine Aa ?_
  refine oV5 tt rfl Tvv ?_
  refine Ae ?_
  show VC ..
  refine Bb ?_
  show ∃ _,_
  cases h
  exact ⟨[],_,rfl,Tvv,rfl,(.eq rfl),rfl⟩
 replace h:=Aj hb6 h
 refine Ar ?_
 show VC ..
 refine Ag ?_
 refine Aa ?_
 iterate 7 refine oV5 tt rfl Tvv ?_
 refine Du (Ad rfl) (Dp Bv rfl rfl) rfl rfl ?_
 obtain ⟨v2,hc7,h⟩:=Ac h
 refine Ba (Dw N g_0 ((min a_1 b_2),(max a_1 b_2)) v2 hc7) rfl rfl rfl rfl rfl rfl rfl rfl ⟨⟨rfl,rfl,Tvv⟩,⟨rfl,rfl,Tvv⟩,Tvv⟩ ?_
 refine Bj tt rfl rfl rfl rfl rfl rfl rfl rfl rfl ?_
 refine Ao tt rfl rfl rfl rfl rfl rfl rfl rfl rfl rfl rfl ⟨Tvv,Tvv,Tvv⟩ ?_
 refine Ae ?_
 show VC ..
 refine Ag ?_
 refine Cg (by kernel_rfl) (by kernel_rfl) ?_
 iterate 4 refine Bi tt rfl (Ad rfl) rfl rfl rfl Tvv ?_
 refine Gd rfl rfl rfl (fun hb8=>?_) (fun hb8=>?_)
 ·replace h:=Ai hb8 h
  iterate 5 refine Pe rfl rfl rfl rfl hb8 rfl rfl ?_
  refine Cs rfl (Ad rfl) rfl rfl rfl hb8 rfl ?_
  refine Bi tt rfl (Ad rfl) rfl rfl rfl Tvv ?_
  refine La ?_
  show VC ..
  refine Bb ?_
  show ∃ _,_
  cases h
  exact ⟨[],_,rfl,Tvv,rfl,(.eq rfl),rfl⟩
 replace h:=Aj hb8 h
 refine Bi tt rfl (Ax rfl rfl rfl rfl hb8) rfl rfl rfl Tvv ?_
 obtain ⟨v3,hc9,h⟩:=Ac h
 refine Pr (Rz N v2 v3 hc9) rfl (Ax rfl rfl rfl rfl hb8) rfl rfl rfl rfl rfl rfl ⟨⟨rfl,(.inl ⟨rfl,rfl⟩),Tvv⟩,Tvv⟩ ?_
 refine Bi tt rfl (Ax rfl rfl rfl rfl hb8) rfl rfl rfl Tvv ?_
 obtain ⟨v4,hc10,h⟩:=Ac h
 refine Pr (Rz N g_0 v4 hc10) rfl (Ax rfl rfl rfl rfl hb8) rfl rfl rfl rfl rfl rfl ⟨⟨rfl,rfl,Tvv⟩,Tvv⟩ ?_
 refine Bi tt rfl (Ax rfl rfl rfl rfl hb8) rfl rfl rfl Tvv ?_
 refine Do rfl (Ad rfl) rfl rfl rfl hb8 rfl ?_
 refine Bi tt rfl (Ad rfl) rfl rfl rfl Tvv ?_
 refine La ?_
 show VC ..
 refine Bb ?_
 show ∃ _,_
 cases h
 exact ⟨[],_,rfl,Tvv,rfl,(.eq rfl),rfl⟩
def Ch (N:Nat) (p_0:Pin) (k:(List Int)→Option (List Int)):Nat→((List Int)×Int)→Option (List Int)
 | 0,_=>none
 | n+1,(l29,v30)=>
  cnd (decide (v30<p_0.g.n)) (
   (Cj N p_0).bind fun v35=>
   cnd v35 (
    (Pm N p_0).bind fun v36=>
    grd (0≤(0:Int)∧(0:Int)<(p_0.ground.length:Int)) <|
    (Dk N v36 (p_0.ground.getD ((0:Int).toNat) 0) v30).bind fun v37=>
    cnd v37 (
     grd (0≤(1:Int)∧(1:Int)<(p_0.ground.length:Int)) <|
     (Dk N v36 (p_0.ground.getD ((1:Int).toNat) 0) v30).bind fun v38=>
     cnd v38 (
      grd (l29.length+1≤4294967296) <|
      grd (Bf (v30+(1:Int))) <|
      Ch N p_0 k n ((l29++([v30]:List Int)),(v30+(1:Int)))) (
      grd (Bf (v30+(1:Int))) <|
      Ch N p_0 k n (l29,(v30+(1:Int))))) (
     grd (Bf (v30+(1:Int))) <|
     Ch N p_0 k n (l29,(v30+(1:Int))))) (
    k l29)) (
   k l29)
def Jp (N:Nat) (p_0:Pin):Option (List Int):=
 Ch N p_0 (fun (l19 : List Int) =>
    some l19) N (([]:List Int),(0:Int))
theorem Xx (N:Nat) (p_0:Pin) (r:List Int) (h:Jp N p_0=some r):PCall Try.prog 21 [pD p_0] [(3,.ints r)] (.row 0 0 r.length):=by
 unfold Jp at h
 refine Ah (TT:=TT) tt Try.func21 rfl rfl Try.ntmps21 (congrArg Array.toList Try.results21) rfl rfl fun w0=>?_
 refine Ag ?_
 refine Aa ?_
 refine Km rfl rfl rfl rfl rfl rfl rfl rfl rfl ?_
 refine oV5 tt rfl Tvv ?_
 refine Ae ?_
 show VC ..
 refine Ag ?_
 refine Aa ?_
 refine Fa tt (Ad rfl) rfl rfl rfl rfl ?_
 refine oV5 tt rfl Tvv ?_
 refine Ae ?_
 show VC ..
 iterate 2 refine Ag ?_
 refine Aa ?_
 refine oV5 tt rfl Tvv ?_
 refine Ae ?_
 show VC ..
 refine Ck (F:=fun k=>Ch N p_0 k) h (α:=List Int) (J:=fun (l19:List Int)=>(⟨[(3,.row 39 0 l19.length)],[(39,some (3,.ints l19))],[]⟩:PS)) ?_ ?_
 ·rintro l19 h
  show VC _ _ _ (⟨[(3,.row 39 0 l19.length)],[(39,some (3,.ints l19))],[]⟩:PS)
  refine Ag ?_
  refine Aa ?_
  iterate 2 refine oV5 tt rfl Tvv ?_
  refine Ae ?_
  show VC ..
  refine Bb ?_
  show ∃ _,_
  cases h
  exact ⟨[39],_,rfl,⟨rfl,Tvv⟩,rfl,(.eq rfl),rfl⟩
 intro k h
 refine Aq ?_
 refine Md 3 39 3 (.ints []) rfl rfl rfl rfl ?_
 refine Bh (α:=(List Int)×Int) (fun | (l29,v30)=>(⟨[(1,.ptr 1 0),(3,.row 39 0 l29.length),(4,.int v30)],[(39,some (3,.ints l29))],[(1,some [.int p_0.g.n,.ro false (.pairs p_0.g.bars),.ro false (.ints p_0.ground)])]⟩:PS)) (Ch N p_0 k) h (En.of ⟨rfl,rfl,rfl,Tvv⟩ ⟨rfl,Tvv⟩ ⟨rfl,Tvv⟩) (fun _=>rfl) ?_
 rintro n ⟨l29,v30⟩ h
 rw [Ch] at h
 show VC _ _ _ (⟨[(1,.ptr 1 0),(3,.row 39 0 l29.length),(4,.int v30)],[(39,some (3,.ints l29))],[(1,some [.int p_0.g.n,.ro false (.pairs p_0.g.bars),.ro false (.ints p_0.ground)])]⟩:PS)
 iterate 2 refine Ag ?_
 refine Aa ?_
 iterate 6 refine oV5 tt rfl Tvv ?_
 refine Bc rfl rfl rfl (fun hb1=>?_) (fun hb1=>?_)
 ·replace h:=Ai hb1 h
  refine Bd tt rfl rfl rfl rfl rfl hb1 rfl rfl rfl Tvv ?_
  obtain ⟨v35,hc2,h⟩:=Ac h
  refine Fj (Hx N p_0 v35 hc2) rfl rfl rfl rfl hb1 rfl rfl rfl rfl rfl rfl rfl ⟨⟨rfl,rfl,rfl,Tvv⟩,Tvv⟩ ?_
  refine Be rfl rfl rfl rfl rfl hb1 rfl ?_
  refine Ae ?_
  show VC ..
  refine Au rfl (fun hb3=>?_) (fun hb3=>?_)
  ·replace h:=Ai hb3 h
   refine Ar ?_
   show VC ..
   refine Ag ?_
   refine Aq ?_
   refine Ag ?_
   refine Aa ?_
   refine oV5 tt rfl Tvv ?_
   obtain ⟨v36,hc4,h⟩:=Ac h
   refine Ba (Aau N p_0 v36 hc4) rfl rfl rfl rfl rfl rfl rfl rfl ⟨⟨rfl,rfl,rfl,Tvv⟩,Tvv⟩ ?_
   refine Bj tt rfl rfl rfl rfl rfl rfl rfl rfl rfl ?_
   refine Ao tt rfl rfl rfl rfl rfl rfl rfl rfl rfl rfl rfl ⟨Tvv,Tvv,Tvv⟩ ?_
   refine Ae ?_
   show VC ..
   refine Ag ?_
   refine Cg (by kernel_rfl) (by kernel_rfl) ?_
   iterate 3 refine Bi tt rfl (Ad rfl) rfl rfl rfl Tvv ?_
   obtain ⟨hg5,h⟩:=Ab h
   refine Bi tt rfl (Ad rfl) rfl rfl rfl hg5 ?_
   iterate 2 refine Bi tt rfl (Ad rfl) rfl rfl rfl Tvv ?_
   obtain ⟨v37,hc6,h⟩:=Ac h
   refine Pr (Ts N v36 (p_0.ground.getD ((0:Int).toNat) 0) v30 v37 hc6) rfl (Ad rfl) rfl rfl rfl rfl rfl rfl ⟨⟨rfl,(.inl ⟨rfl,rfl⟩),Tvv⟩,rfl,rfl,Tvv⟩ ?_
   refine Bi tt rfl (Ad rfl) rfl rfl rfl Tvv ?_
   refine Gd rfl rfl rfl (fun hb7=>?_) (fun hb7=>?_)
   ·replace h:=Ai hb7 h
    iterate 3 refine Bi tt rfl (Ax rfl rfl rfl rfl hb7) rfl rfl rfl Tvv ?_
    obtain ⟨hg8,h⟩:=Ab h
    refine Bi tt rfl (Ax rfl rfl rfl rfl hb7) rfl rfl rfl hg8 ?_
    iterate 2 refine Bi tt rfl (Ax rfl rfl rfl rfl hb7) rfl rfl rfl Tvv ?_
    obtain ⟨v38,hc9,h⟩:=Ac h
    refine Pr (Ts N v36 (p_0.ground.getD ((1:Int).toNat) 0) v30 v38 hc9) rfl (Ax rfl rfl rfl rfl hb7) rfl rfl rfl rfl rfl rfl ⟨⟨rfl,(.inl ⟨rfl,rfl⟩),Tvv⟩,rfl,rfl,Tvv⟩ ?_
    refine Cs rfl (Ad rfl) rfl rfl rfl hb7 rfl ?_
    refine La ?_
    show VC ..
    refine Au rfl (fun hb10=>?_) (fun hb10=>?_)
    ·replace h:=Ai hb10 h
     refine Aa ?_
     iterate 2 refine oV5 tt rfl Tvv ?_
     refine Cv tt rfl rfl rfl rfl rfl rfl rfl rfl rfl rfl rfl ?_
     obtain ⟨hg11,h⟩:=Ab h
     refine Bp tt rfl rfl rfl rfl rfl rfl rfl rfl rfl rfl rfl rfl rfl rfl rfl rfl (Nat.le_of_eq (Nat.zero_add _)) hg11 ?_
     refine oV5 tt rfl Tvv ?_
     refine Ae ?_
     show VC ..
     refine Aa ?_
     refine oV5 tt rfl Tvv ?_
     obtain ⟨hg12,h⟩:=Ab h
     refine oV5 tt rfl hg12 ?_
     refine oV5 tt rfl Tvv ?_
     refine Ae ?_
     show ∃ _,_
     exact ⟨((l29++([v30]:List Int)),(v30+(1:Int))),(En.of ⟨rfl,rfl,rfl,Tvv⟩ ⟨rfl,Tvv⟩ ⟨rfl,Tvv⟩),h⟩
    replace h:=Aj hb10 h
    refine Ar ?_
    show VC ..
    refine Aa ?_
    refine oV5 tt rfl Tvv ?_
    obtain ⟨hg13,h⟩:=Ab h
    refine oV5 tt rfl hg13 ?_
    refine oV5 tt rfl Tvv ?_
    refine Ae ?_
    show ∃ _,_
    exact ⟨(l29,(v30+(1:Int))),(En.of ⟨rfl,rfl,rfl,Tvv⟩ ⟨rfl,Tvv⟩ ⟨rfl,Tvv⟩),h⟩
   replace h:=Aj hb7 h
   iterate 7 refine cNoT rfl rfl rfl rfl hb7 rfl rfl ?_
   refine Do rfl (Ad rfl) rfl rfl rfl hb7 rfl ?_
   refine La ?_
   show VC ..
   refine Cz rfl rfl ?_
   refine Ar ?_
   show VC ..
   refine Aa ?_
   refine oV5 tt rfl Tvv ?_
   obtain ⟨hg14,h⟩:=Ab h
   refine oV5 tt rfl hg14 ?_
   refine oV5 tt rfl Tvv ?_
   refine Ae ?_
   show ∃ _,_
   exact ⟨(l29,(v30+(1:Int))),(En.of ⟨rfl,rfl,rfl,Tvv⟩ ⟨rfl,Tvv⟩ ⟨rfl,Tvv⟩),h⟩
  replace h:=Aj hb3 h
  refine Bq ?_
  show ∃ _,_
  exact ⟨l29,(En.of ⟨rfl,Tvv⟩ ⟨rfl,Tvv⟩ trivial),h⟩
 replace h:=Aj hb1 h
 iterate 2 refine Jn rfl rfl rfl rfl hb1 rfl rfl ?_
 refine Av rfl rfl rfl rfl rfl hb1 rfl ?_
 refine Ae ?_
 show VC ..
 refine Cz rfl rfl ?_
 refine Bq ?_
 show ∃ _,_
 exact ⟨l29,(En.of ⟨rfl,Tvv⟩ ⟨rfl,Tvv⟩ trivial),h⟩
end
section
open Go.RowKit
end
section
variable {n:Nat} {N:Nat}
theorem srt_graph {g:Grf} (h1:inB g.n 1 8=true) (h2:g.bars.length≤24) (h3:Srt g.bars) (h4:∀ e∈g.bars,So g.n e=true):Ej g=true:=by
 refine Xk h1 h2 fun i hi=>?_
 unfold Xy
 rw [h4 _ (Dc hi)]
 by_cases h0:i=0
 ·simp [h0]
 have:=List.pairwise_iff_getElem.1 h3 (i-1) i (by omega) hi (by omega)
 have e1:g.bars.getD (i-1) (0,0)=g.bars[i-1]:=by rw [List.getD_eq_getElem?_getD,List.getElem?_eq_getElem (by omega)]; rfl
 have e2:g.bars.getD i (0,0)=g.bars[i]:=by rw [List.getD_eq_getElem?_getD,List.getElem?_eq_getElem hi]; rfl
 rw [e1,e2,this]; simp
theorem implied_s (hN:4000000≤N) {g:Grf} (hg:Ej g=true) (hn:g.n=n) {a b:Int} (ha:0≤a∧a<n) (hb:0≤b∧b<n) {I:List (Int×Int)} (hI:Bas n g.bars I):∃ r:Bool,Dk N g a b=some r∧(r=true↔a=b∨Tied n I (min a b,max a b)):=by
 obtain ⟨⟨q1,q2⟩,q3,_⟩:=Kc hg
 have hbk:∀ e∈g.bars,Bok n e:=fun e he=>by
  have:=Fw hg he
  exact ⟨by omega,by omega,by omega,by omega,by omega⟩
 obtain ⟨L,p1,p2,p3,_⟩:=put_s (N:=N) hN (g:=g) (by omega) (min a b,max a b)
 by_cases e:a=b
 ·refine ⟨true,?_,by simp [e]⟩
  unfold Dk
  simp (disch:=omega) only [Int.toNat_natCast,tk0,List.length_cons,List.length_nil,Af,Ay,At,Al,Ak,cnd_true,cnd_false,Option.bind_some,Mi N hN,hg,Bool.not_true,hn,p1,Pc e]
 have he:Bok n (min a b,max a b):=⟨by simp only; omega,by simp only; omega,by simp only; omega,by simp only; omega,by simp only; omega⟩
 obtain ⟨J,c1,c2⟩:=Abb (N:=N) hN (g:=⟨g.n,L⟩) hn (by omega) (fun x hx=>by
  rcases (p3 x).1 hx with rfl | hx
  ·exact he
  exact hbk x hx) (by simp only; omega)
 obtain ⟨I1,d1,d2⟩:=Abb (N:=N) hN (g:=g) hn (by omega) hbk (by omega)
 have q:=bas_len hbk (fun _=>Iff.rfl) hI d1
 have r:=rank_iff hbk he p3 hI c1
 refine ⟨(J.length:Int)==(I1.length:Int),?_,?_⟩
 ·unfold Dk
  rw [Mi N hN,hg,Option.bind_some,Bool.not_true,cnd_false,Ak (by omega),Ak (by omega),Ak (by omega),Ak (by omega),p1,Option.bind_some,Kj e,c2,d2]
  rfl
 rw [beq_iff_eq]
 constructor
 ·intro h; exact .inr (r.1 (by omega))
 rintro (h | h)
 ·exact absurd h e
 have:=r.2 h; omega
end
section
variable {n:Nat}
theorem Tied.mm {I:List (Int×Int)} {a b:Int}:Tied n I (min a b,max a b)↔Tied n I (a,b):=by
 by_cases h:a≤b
 ·rw [Int.min_eq_left h,Int.max_eq_right h]
 rw [Int.min_eq_right (by omega),Int.max_eq_left (by omega)]
 exact ⟨Tied.swap,Tied.swap⟩
theorem steady_iff {G:List Int} {LH I:List (Int×Int)} (hl:2≤G.length) (hG:∀ i,i<G.length→0≤G.getD i 0∧G.getD i 0<n) (hlt:∀ j i:Nat,i<j→j<G.length→G.getD i 0<G.getD j 0) (hS:HeldS G LH G.length) (hI:Spr n I) (ok:∀ e∈I,Bok n e) (hH:∀ e∈LH,Tied n I e) {v:Int} (hv:0≤v∧v<n) :
  ((G.getD 0 0=v∨Tied n I (G.getD 0 0,v))∧(G.getD 1 0=v∨Tied n I (G.getD 1 0,v)))↔∀ i,i<G.length→G.getD i 0≠v→Tied n I (G.getD i 0,v):=by
 constructor
 ·rintro ⟨h0,h1⟩ i hi hne
  by_cases e0:i=0
  ·subst e0; exact h0.resolve_left hne
  by_cases e1:i=1
  ·subst e1; exact h1.resolve_left hne
  have t0:=hH _ (hS.h0 i (by omega) hi)
  have t1:=hH _ (hS.h1 i (by omega) hi)
  have t:=hH _ (hS.h0 1 (by omega) (by omega))
  have l0:=hlt i 0 (by omega) hi
  have l1:=hlt i 1 (by omega) hi
  have l:=hlt 1 0 (by omega) (by omega)
  rcases h0 with h0 | h0
  ·rw [←h0]; exact t0.swap
  rcases h1 with h1 | h1
  ·rw [←h1]; exact t1.swap
  by_cases n0:G.getD 0 0=v
  ·rw [←n0]; exact t0.swap
  by_cases n1:G.getD 1 0=v
  ·rw [←n1]; exact t1.swap
  exact Tied.via hI ok (hG 0 (by omega)) (hG 1 (by omega)) (hG i hi) hv (by omega) (by omega) (by omega) n0 n1 t t0 t1 h0 h1
 intro h
 refine ⟨?_,?_⟩
 ·by_cases e:G.getD 0 0=v
  ·exact .inl e
  exact .inr (h 0 (by omega) e)
 by_cases e:G.getD 1 0=v
 ·exact .inl e
 exact .inr (h 1 (by omega) e)
end
section
variable {n:Nat} {N:Nat}
end
section
variable {n:Nat} {N:Nat}
end
section
variable {N:Nat}
end
section
open Go.RowKit
end
section
open Go.RowKit
end
section
open Go.RowKit
end
section
open Go.RowKit
end
section
open Go.RowKit
end
section
variable {N:Nat}
end
section
open Go.RowKit
variable {n:Nat} {N:Nat}
theorem Jg {α:Type} [DecidableEq α]:∀ {I L:List α},I.Nodup→(∀ e∈I,e∈L)→I.length≤L.length
 | [],L,_,_=>by simp
 | e::I,L,h,hm=>by
  have h1:=List.nodup_cons.1 h
  have he:=hm e (by simp)
  have h2:=Jg (I:=I) (L:=L.erase e) h1.2 fun x hx=>by
   have hne:x≠e:=fun hc=>h1.1 (by rw [←hc]; exact hx)
   exact (List.mem_erase_of_ne hne).2 (hm x (by simp [hx]))
  rw [List.length_erase_of_mem he] at h2
  have:0<L.length:=List.length_pos_of_mem he
  simp only [List.length_cons]; omega
theorem Spr.sub {I J:List (Int×Int)} (h:Spr n I) (hs:J.Sublist I):Spr n J:=fun X hX=>by
 have h1:Ytcljhpldfanhkaa.spn X J≤Ytcljhpldfanhkaa.spn X I:=hs.countP_le
 have:=h X (by omega)
 omega
theorem Spr.nodup:∀ {I:List (Int×Int)},Spr n I→(∀ e∈I,Bok n e)→I.Nodup
 | [],_,_=>List.nodup_nil
 | e::I,h,ok=>by
  refine List.nodup_cons.2 ⟨fun hm=>?_,Spr.nodup (h.sub (List.sublist_cons_self _ _)) fun x hx=>ok x (by simp [hx])⟩
  obtain ⟨b1,b2,b3,b4,b5⟩:=ok e (by simp)
  have h2:=vsz_v2 (n:=n) ⟨b1,b2⟩ ⟨b3,b4⟩ b5
  have hin:inX (v2 e.1 e.2) e=true:=by simp [inX,v2]
  have h3:2≤Ytcljhpldfanhkaa.spn (v2 e.1 e.2) (e::I):=by
   rw [Gx,if_pos hin]
   have:0<Ytcljhpldfanhkaa.spn (v2 e.1 e.2) I:=List.countP_pos_iff.2 ⟨e,hm,hin⟩
   omega
  have:=h (v2 e.1 e.2) (by omega)
  omega
theorem vsz_all:vsz n (fun _=>true)=n:=by simp [vsz]
theorem spn_all (I:List (Int×Int)):spn (fun _=>true) I=I.length:=by simp [spn,inX]
theorem spn_le (X:VS) (I:List (Int×Int)):spn X I≤I.length:=List.countP_le_length
theorem Spr.top {I:List (Int×Int)} (h:Spr n I) (hn:2≤n):I.length+3≤2*n:=by
 by_cases h0:I.length=0
 ·omega
 have:=h (fun _=>true) (by rw [spn_all]; omega)
 rw [spn_all,vsz_all] at this
 exact this
theorem tied_of_full {I:List (Int×Int)} (hn:2≤n) (h:2*n≤I.length+3) (e:Int×Int):Tied n I e:=
 ⟨fun _=>true,⟨by rw [vsz_all]; exact hn,by rw [vsz_all,spn_all]; exact h⟩,rfl⟩
theorem Aaw {I:List (Int×Int)} (hI:Spr n I) (ok:∀ e∈I,Bok n e) {x y:Int} (hx:0≤x∧x<n) (hy:0≤y∧y<n) (hxy:x≠y) (ht:Tied n I (x,y)):∀ L:List Int,(∀ v∈L,(0≤v∧v<n)∧(x=v∨Tied n I (x,v))∧(y=v∨Tied n I (y,v))) →
  ∃ W,Tgt n I W∧W x=true∧W y=true∧∀ v∈L,W v=true
 | [],_=>by
  obtain ⟨X,h1,h2⟩:=ht
  simp only [inX,Bool.and_eq_true] at h2
  exact ⟨X,h1,h2.1,h2.2,by simp⟩
 | v::L,h=>by
  obtain ⟨W,w1,w2,w3,w4⟩:=Aaw hI ok hx hy hxy ht L fun u hu=>h u (by simp [hu])
  obtain ⟨hv,h1,h2⟩:=h v (by simp)
  by_cases e1:x=v
  ·exact ⟨W,w1,w2,w3,fun u hu=>by
    rcases List.mem_cons.1 hu with rfl | hu
    ·rw [←e1]; exact w2
    exact w4 u hu⟩
  by_cases e2:y=v
  ·exact ⟨W,w1,w2,w3,fun u hu=>by
    rcases List.mem_cons.1 hu with rfl | hu
    ·rw [←e2]; exact w3
    exact w4 u hu⟩
  obtain ⟨V,v1,v2,v3,v4⟩:=Tied.tri hI ok hx hy hv hxy e1 e2 ht (h1.resolve_left e1) (h2.resolve_left e2)
  refine ⟨vU W V,w1.union hI v1 (Je hx hy hxy (by simp [vI,w2,v2]) (by simp [vI,w3,v3])),by simp [vU,w2],by simp [vU,w3],fun u hu=>?_⟩
  rcases List.mem_cons.1 hu with rfl | hu
  ·simp [vU,v4]
  simp [vU,w4 u hu]
theorem vsz_ge {W:VS} {G:List Int} (hd:G.Nodup) (h:∀ v∈G,(0≤v∧v<n)∧W v=true):G.length≤vsz n W:=by
 have e:vsz n W=(((List.range n).filter fun (i:Nat)=>W (i:Int)).map fun (i:Nat)=>(i:Int)).length:=by
  rw [List.length_map,vsz,List.countP_eq_length_filter]
 rw [e]
 refine Jg hd fun v hv=>?_
 obtain ⟨⟨h1,h2⟩,h3⟩:=h v hv
 refine List.mem_map.2 ⟨v.toNat,List.mem_filter.2 ⟨List.mem_range.2 (by omega),?_⟩,by omega⟩
 rw [show ((v.toNat:Nat):Int)=v by omega]; exact h3
theorem Aab {I:List (Int×Int)} (hI:Spr n I) (ok:∀ e∈I,Bok n e) {x y:Int} (hx:0≤x∧x<n) (hy:0≤y∧y<n) (hxy:x≠y) (ht:Tied n I (x,y)) {G:List Int} (hd:G.Nodup)
  (h:∀ v∈G,(0≤v∧v<n)∧(x=v∨Tied n I (x,v))∧(y=v∨Tied n I (y,v))):2*G.length≤I.length+3:=by
 obtain ⟨W,w1,_,_,w4⟩:=Aaw hI ok hx hy hxy ht G h
 have h1:=vsz_ge (W:=W) hd fun v hv=>⟨(h v hv).1,w4 v hv⟩
 have h2:=w1.2
 have h3:=spn_le W I
 omega
theorem le_anti {a b:Int×Int} (h1:Dx a b=true) (h2:Dx b a=true):a=b:=by
 simp only [Dx,Bool.or_eq_true,Bool.and_eq_true,decide_eq_true_eq,beq_iff_eq] at h1 h2
 exact Prod.ext (by omega) (by omega)
theorem graph_le {g:Grf} (h:Ej g=true):∀ d i,i+d+1<g.bars.length→Dx (g.bars.getD i (0,0)) (g.bars.getD (i+d+1) (0,0))=true:=by
 have hp:=(Kc h).2.2
 have ad:∀ i,i+1<g.bars.length→Dx (g.bars.getD i (0,0)) (g.bars.getD (i+1) (0,0))=true:=by
  intro i hi
  have:=hp (i+1) hi
  simp only [Xy,Bool.and_eq_true,Bool.or_eq_true,decide_eq_true_eq,Nat.add_sub_cancel] at this
  rcases this.2 with h | h
  ·omega
  exact h
 intro d
 induction d with
 | zero=>intro i hi; exact ad i hi
 | succ d ih=>intro i hi; exact le_trans' (ih i (by omega)) (ad (i+d+1) (by omega))
theorem Abc {g:Grf} (h:Ej g=true):Srt g.bars:=by
 refine List.pairwise_iff_getElem.2 fun i j hi hj hij=>?_
 have:=graph_le h (j-i-1) i (by omega)
 rw [show i+(j-i-1)+1=j by omega] at this
 simpa [List.getD_eq_getElem?_getD,hi,hj] using this
theorem Zj {g:Grf} (h:Ej g=true) (hd:Lu g.bars=false):g.bars.Nodup:=by
 refine List.pairwise_iff_getElem.2 fun i j hi hj hij he=>?_
 have h1:=(List.pairwise_iff_getElem.1 (Abc h))
 have hdj:Kd g.bars j=false:=by
  simp only [Lu,List.any_eq_false,List.mem_range] at hd
  simpa using hd j hj
 have e1:g.bars.getD (j-1) (0,0)=g.bars[j-1]:=by simp [List.getD_eq_getElem?_getD,show j-1<g.bars.length by omega]
 have e2:g.bars.getD j (0,0)=g.bars[j]:=by simp [List.getD_eq_getElem?_getD,hj]
 have hle:Dx g.bars[j-1] g.bars[j]=true:=h1 (j-1) j (by omega) hj (by omega)
 have hge:Dx g.bars[j] g.bars[j-1]=true:=by
  rw [←he]
  by_cases hc:i=j-1
  ·subst hc; simp [Dx]
  exact h1 i (j-1) hi (by omega) (by omega)
 have:=le_anti hle hge
 have h0:(decide (0<j)&&(g.bars.getD (j-1) (0,0)==g.bars.getD j (0,0)))=true:=by
  rw [e1,e2,this]; simp; omega
 rw [Kd,h0] at hdj
 cases hdj
theorem pinned_sub {p:Pin} (hp:Az p=true) {B:List (Int×Int)} (hs:B.Sublist p.g.bars):Az ⟨⟨p.g.n,B⟩,p.ground⟩=true:=by
 obtain ⟨p1,p2,p3,p4,p5,p6,p7⟩:=Cy hp
 have hl:=hs.length_le
 have hm:∀ e∈B,e∈p.g.bars:=fun e he=>hs.subset he
 obtain ⟨q1,q2,_⟩:=Kc p1
 have g1:Ej ⟨p.g.n,B⟩=true:=by
  refine srt_graph (inB_true.2 q1) (by simp only; omega) (List.Pairwise.sublist hs (Abc p1)) fun e he=>?_
  have:=Fw p1 (hm e he)
  simp [So,this.1,this.2.1,this.2.2]
 have hnd:B.Nodup:=(Zj p1 p2).sublist hs
 have g2:Lu B=false:=by
  refine hasDbl_false fun i hi=>?_
  simp only [Kd,Bool.and_eq_false_iff,decide_eq_false_iff_not,beq_eq_false_iff_ne]
  by_cases h0:0<i
  ·refine .inr fun he=>?_
   have:=(List.pairwise_iff_getElem.1 hnd) (i-1) i (by omega) hi (by omega)
   simp only [List.getD_eq_getElem?_getD,show i-1<B.length by omega,hi,List.getElem?_eq_getElem,Option.getD_some] at he
   exact this he
  exact .inl h0
 have g3:Ss p.ground B=true:=by
  simp only [Ss,List.all_eq_true] at p7 ⊢
  exact fun e he=>p7 e (hm e he)
 simp only [Az,Bool.and_eq_true,decide_eq_true_eq,Bool.not_eq_true']
 exact ⟨⟨⟨⟨⟨⟨g1,g2⟩,p3⟩,by omega⟩,by omega⟩,p6⟩,g3⟩
end
section
open Go.RowKit
def Da (N:Nat) (p_0:Pin):Option (Bool):=
 (Dv N p_0).bind fun v1=>
 some (v1==(0:Int))
theorem Pv (N:Nat) (p_0:Pin) (r:Bool) (h:Da N p_0=some r):PCall Try.prog 18 [pD p_0] [] (.bool r):=by
 unfold Da at h
 refine Ah (TT:=TT) tt Try.func18 rfl rfl Try.ntmps18 (congrArg Array.toList Try.results18) rfl rfl fun w0=>?_
 refine Ag ?_
 refine Aa ?_
 refine Km rfl rfl rfl rfl rfl rfl rfl rfl rfl ?_
 refine oV5 tt rfl Tvv ?_
 refine Ae ?_
 show VC ..
 refine Ag ?_
 refine Aa ?_
 refine oV5 tt rfl Tvv ?_
 obtain ⟨v1,hc1,h⟩:=Ac h
 refine Ba (Xb N p_0 v1 hc1) rfl rfl rfl rfl rfl rfl rfl rfl ⟨⟨rfl,rfl,rfl,Tvv⟩,Tvv⟩ ?_
 iterate 2 refine oV5 tt rfl Tvv ?_
 refine Ae ?_
 show VC ..
 refine Bb ?_
 show ∃ _,_
 cases h
 exact ⟨[],_,rfl,Tvv,rfl,(.eq rfl),rfl⟩
def Ev (N:Nat) (p_0:Pin):Option (Bool):=
 (Gk N p_0).bind fun v1=>
 some (v1==(0:Int))
theorem Kt (N:Nat) (p_0:Pin) (r:Bool) (h:Ev N p_0=some r):PCall Try.prog 24 [pD p_0] [] (.bool r):=by
 unfold Ev at h
 refine Ah (TT:=TT) tt Try.func24 rfl rfl Try.ntmps24 (congrArg Array.toList Try.results24) rfl rfl fun w0=>?_
 refine Ag ?_
 refine Aa ?_
 refine Km rfl rfl rfl rfl rfl rfl rfl rfl rfl ?_
 refine oV5 tt rfl Tvv ?_
 refine Ae ?_
 show VC ..
 refine Ag ?_
 refine Aa ?_
 refine oV5 tt rfl Tvv ?_
 obtain ⟨v1,hc1,h⟩:=Ac h
 refine Ba (Wu N p_0 v1 hc1) rfl rfl rfl rfl rfl rfl rfl rfl ⟨⟨rfl,rfl,rfl,Tvv⟩,Tvv⟩ ?_
 iterate 2 refine oV5 tt rfl Tvv ?_
 refine Ae ?_
 show VC ..
 refine Bb ?_
 show ∃ _,_
 cases h
 exact ⟨[],_,rfl,Tvv,rfl,(.eq rfl),rfl⟩
end
section
open Go.RowKit
variable {n:Nat} {N:Nat}
def stl (t:Nat→Bool):Nat→Nat→List Int
 | 0,_=>[]
 | k+1,v=>(if t v=true then [(v:Int)] else [])++stl t k (v+1)
theorem stl_mem {t:Nat→Bool} {x:Int}:∀ {k v:Nat},x∈stl t k v↔∃ i:Nat,v≤i∧i<v+k∧t i=true∧x=i
 | 0,v=>by simp [stl]; intro i h1 h2; omega
 | k+1,v=>by
  simp only [stl,List.mem_append,stl_mem (k:=k) (v:=v+1)]
  constructor
  ·rintro (h | ⟨i,h1,h2,h3,h4⟩)
   ·split at h
    ·rename_i ht; simp at h; exact ⟨v,Nat.le_refl _,by omega,ht,h⟩
    simp at h
   exact ⟨i,by omega,by omega,h3,h4⟩
  rintro ⟨i,h1,h2,h3,h4⟩
  by_cases e:i=v
  ·subst e; left; rw [if_pos h3]; simp [h4]
  exact .inr ⟨i,by omega,by omega,h3,h4⟩
theorem stl_len {t:Nat→Bool}:∀ {k v:Nat},(stl t k v).length≤k∧((stl t k v).length=k↔∀ i,v≤i→i<v+k→t i=true)
 | 0,v=>⟨by simp [stl],by simp [stl]; intro i h1 h2; omega⟩
 | k+1,v=>by
  obtain ⟨h1,h2⟩:=stl_len (t:=t) (k:=k) (v:=v+1)
  simp only [stl,List.length_append]
  by_cases ht:t v=true
  ·rw [if_pos ht]
   simp only [List.length_cons,List.length_nil]
   refine ⟨by omega,⟨fun h i a b=>?_,fun h=>?_⟩⟩
   ·by_cases e:i=v
    ·rw [e]; exact ht
    exact h2.1 (by omega) i (by omega) (by omega)
   have:=h2.2 fun i a b=>h i (by omega) (by omega)
   omega
  rw [if_neg ht]
  simp only [List.length_nil]
  refine ⟨by omega,⟨fun h=>by omega,fun h=>absurd (h v (Nat.le_refl _) (by omega)) ht⟩⟩
theorem steadyS1_s (hN:4000000≤N) (hn:n≤8) {p:Pin} {aS:Grf} {t:Nat→Bool} (hp:Az p=true) (hbl:p.g.bars.length≤3000000) (hgl:p.ground.length≤3000000) (hpn:p.g.n=n) (hl:2≤p.ground.length) (hA:Pm N p=some aS)
  (step:∀ v:Nat,v<n→∃ b0 b1:Bool,Dk N aS (p.ground.getD 0 0) v=some b0∧Dk N aS (p.ground.getD 1 0) v=some b1∧(b0&&b1)=t v) :
  ∀ (fuel v:Nat) (l:List Int),v≤n→n<fuel+v→l.length≤v→Ch N p (fun x=>some x) fuel (l,(v:Int))=some (l++stl t (n-v) v):=by
 intro fuel
 induction fuel with
 | zero=>intro v l h1 h2; omega
 | succ fuel ih=>
  intro v l h1 h2 h3
  rw [Ch]
  by_cases hv:v<n
  ·obtain ⟨b0,b1,s0,s1,s2⟩:=step v hv
   have z0:(0:Int).toNat=0:=rfl
   have z1:(1:Int).toNat=1:=rfl
   rw [Al (by omega),show n-v=(n-(v+1))+1 by omega,stl]
   cases ht:t v with
   | true=>
    rw [ht] at s2
    obtain ⟨e0,e1⟩:b0=true∧b1=true:=by simpa using s2
    subst e0 e1
    have k1:=ih (v+1) (l++[(v:Int)]) (by omega) (by omega) (by simp; omega)
    simp (disch:=omega) only [Int.toNat_natCast,tk0,List.length_cons,List.length_nil,Af,Ay,At,Al,Ak,cnd_true,cnd_false,Option.bind_some,Bw N hN hbl hgl,hp,hA,z0,z1,s0,s1,Am]
    rw [k1,List.append_assoc]; rfl
   | false=>
    rw [ht] at s2
    have k1:=ih (v+1) l (by omega) (by omega) (by omega)
    cases b0 with
    | false=>
     simp (disch:=omega) only [Int.toNat_natCast,tk0,List.length_cons,List.length_nil,Af,Ay,At,Al,Ak,cnd_true,cnd_false,Option.bind_some,Bw N hN hbl hgl,hp,hA,z0,z1,s0,Am]
     rw [k1]; rfl
    | true=>
     have e1:b1=false:=by simpa using s2
     subst e1
     simp (disch:=omega) only [Int.toNat_natCast,tk0,List.length_cons,List.length_nil,Af,Ay,At,Al,Ak,cnd_true,cnd_false,Option.bind_some,Bw N hN hbl hgl,hp,hA,z0,z1,s0,s1,Am]
     rw [k1]; rfl
  rw [show n-v=0 by omega]
  simp (disch:=omega) only [Int.toNat_natCast,tk0,List.length_cons,List.length_nil,Af,Ay,At,Al,Ak,cnd_true,cnd_false,Option.bind_some]
  simp [stl]
theorem Xp {m:Int} {l:List Int} (h:asc m l=true):l.Nodup:=by
 refine List.pairwise_iff_getElem.2 fun i j hi hj hij he=>?_
 have:=asc_lt h j i hij hj
 simp only [List.getD_eq_getElem?_getD,hi,hj,List.getElem?_eq_getElem,Option.getD_some] at this
 omega
theorem pin_inner_len {p:Pin} (hp:Az p=true):(Aw p).length+p.ground.length=p.g.n.toNat:=by
 obtain ⟨p1,p2,p3,p4,p5,p6,p7⟩:=Cy hp
 have hb:=Bz hp
 have hnd:=Xp p6
 unfold Aw
 rw [hp,cnd_true]
 unfold inner
 generalize hl:((List.range p.g.n.toNat).map fun (i:Nat)=>(i:Int))=l
 have ln:l.Nodup:=by
  rw [←hl]
  refine List.pairwise_map.2 (List.nodup_range.imp fun {a b} h e=>h (by omega))
 have ll:l.length=p.g.n.toNat:=by rw [←hl]; simp
 have lm:∀ x,x∈l↔0≤x∧x<p.g.n:=fun x=>by
  rw [←hl]
  simp only [List.mem_map,List.mem_range]
  constructor
  ·rintro ⟨i,h1,rfl⟩; omega
  intro h; exact ⟨x.toNat,by omega,by omega⟩
 have e1:=List.length_eq_countP_add_countP (fun x=>p.ground.contains x) (l:=l)
 have a1:(l.filter fun x=>p.ground.contains x).length≤p.ground.length:=Jg (ln.sublist List.filter_sublist) fun e he=>by simpa using (List.mem_filter.1 he).2
 have a2:p.ground.length≤(l.filter fun x=>p.ground.contains x).length:=Jg hnd fun e he=>List.mem_filter.2 ⟨(lm e).2 (asc_in p6 he),by simpa using he⟩
 rw [List.countP_eq_length_filter,List.countP_eq_length_filter] at e1
 have e2:(l.filter fun x=>decide ¬(p.ground.contains x=true))=l.filter fun x=>!p.ground.contains x:=by
  congr 1; funext x; cases p.ground.contains x <;> simp
 rw [e2] at e1
 omega
structure PF (N n:Nat) (p:Pin) (LH LS H I:List (Int×Int)) (t:Nat→Bool):Prop where
 pn:p.g.n=n
 n8:n≤8
 n2:2≤n
 g2:2≤p.ground.length
 hG:∀ i,i<p.ground.length→0≤p.ground.getD i 0∧p.ground.getD i 0<n
 hlt:∀ j i:Nat,i<j→j<p.ground.length→p.ground.getD i 0<p.ground.getD j 0
 hS:HeldS p.ground LH p.ground.length
 mem:∀ e,e∈LS↔e∈LH∨e∈p.g.bars
 okH:∀ e∈LH,Bok n e
 okB:∀ e∈p.g.bars,Bok n e
 bH:Bas n LH H
 bI:Bas n LS I
 hl:H.length+3=2*p.ground.length
 rk:Fi N p=some ((I.length:Int)-H.length)
 fr:Dv N p=some (2*((Aw p).length:Int)-((I.length:Int)-H.length))
 inn:(Aw p).length+p.ground.length=n
 st:Jp N p=some (stl t n 0)
 tt:∀ v:Nat,v<n→(t v=true↔(p.ground.getD 0 0=v∨Tied n I (p.ground.getD 0 0,v))∧(p.ground.getD 1 0=v∨Tied n I (p.ground.getD 1 0,v)))
theorem PF.okS {p:Pin} {LH LS H I:List (Int×Int)} {t:Nat→Bool} (h:PF N n p LH LS H I t):∀ e∈LS,Bok n e:=fun e he=>((h.mem e).1 he).elim (h.okH e) (h.okB e)
theorem PF.okI {p:Pin} {LH LS H I:List (Int×Int)} {t:Nat→Bool} (h:PF N n p LH LS H I t):∀ e∈I,Bok n e:=fun e he=>h.okS e (h.bI.mem e he)
theorem held_len {n:Nat} {G:List Int} {LH H:List (Int×Int)} (hl:2≤G.length) (hnd:G.Nodup) (hG:∀ i,i<G.length→0≤G.getD i 0∧G.getD i 0<n) (hlt:∀ j i:Nat,i<j→j<G.length→G.getD i 0<G.getD j 0) (hS:HeldS G LH G.length) (ok:∀ e∈LH,Bok n e) (hb:Bas n LH H) (hle:LH.length≤2*(G.length-1)-1):H.length+3=2*G.length:=by
 have okH:∀ e∈H,Bok n e:=fun e he=>ok e (hb.mem e he)
 have h1:H.length≤LH.length:=Jg (hb.spr.nodup okH) hb.mem
 have tie:∀ e∈LH,Tied n H e:=hb.spn
 have:=Aab hb.spr okH (hG 0 (by omega)) (hG 1 (by omega)) (by have:=hlt 1 0 (by omega) (by omega); omega) (tie _ (hS.h0 1 (by omega) (by omega))) hnd fun v hv=>by
  obtain ⟨j,hj,rfl⟩:=List.getElem_of_mem hv
  have e:G[j]=G.getD j 0:=by simp [List.getD_eq_getElem?_getD,hj]
  rw [e]
  refine ⟨hG j hj,?_,?_⟩
  ·by_cases e0:j=0
   ·subst e0; exact .inl rfl
   exact .inr (tie _ (hS.h0 j (by omega) hj))
  by_cases e1:j=1
  ·subst e1; exact .inl rfl
  by_cases e0:j=0
  ·subst e0; exact .inr (Tied.swap (tie _ (hS.h0 1 (by omega) (by omega))))
  exact .inr (tie _ (hS.h1 j (by omega) hj))
 omega
theorem pin_full (hN:4000000≤N) {p:Pin} (hp:Az p=true):∃ (n:Nat) (LH LS H I:List (Int×Int)) (t:Nat→Bool),PF N n p LH LS H I t:=by
 obtain ⟨p1,p2,p3,p4,p5,p6,p7⟩:=Cy hp
 obtain ⟨hn1,hn2,hbl'⟩:=Qh p1
 obtain ⟨n,hn⟩:=Int.eq_ofNat_of_zero_le (show 0≤p.g.n by omega)
 obtain ⟨LH,LS,a1,a2,a3,a4,a5,a6,a7⟩:=allS_s (N:=N) hN (p:=p) (by omega) (by omega)
 have hnd:=Xp p6
 have hG:∀ i,i<p.ground.length→0≤p.ground.getD i 0∧p.ground.getD i 0<n:=fun i hi=>by
  have:=asc_in p6 (Dc (d:=0) hi)
  omega
 have hlt:=asc_lt p6
 have hb:∀ e∈p.g.bars,Bok n e:=fun e he=>by
  have:=Fw p1 he
  exact ⟨by omega,by omega,by omega,by omega,by omega⟩
 have pok:∀ i j:Nat,i<j→j<p.ground.length→Bok n (p.ground.getD i 0,p.ground.getD j 0):=fun i j g1 g2=>by
  have a:=hG i (by omega)
  have b:=hG j g2
  have c:=hlt j i g1 g2
  exact ⟨a.1,a.2,b.1,b.2,by simp only; omega⟩
 have okLH:∀ e∈LH,Bok n e:=fun e he=>by
  obtain ⟨i,j,g1,g2,rfl⟩:=a3.mem e he; exact pok i j g1 g2
 have okLS:∀ e∈LS,Bok n e:=fun e he=>((a6 e).1 he).elim (okLH e) (hb e)
 have bok:∀ e:Int×Int,e∈LS→So p.g.n e=true:=fun e he=>by
  have hx:0≤e.1∧e.1<e.2∧e.2<p.g.n:=by
   rcases (a6 e).1 he with h | h
   ·obtain ⟨i,j,g1,g2,rfl⟩:=a3.mem e h
    have a:=hG i (by omega)
    have b:=hG j g2
    have c:=hlt j i g1 g2
    exact ⟨a.1,c,by simp only; omega⟩
   exact Fw p1 h
  simp [So,hx.1,hx.2.1,hx.2.2]
 have hgr:Ej ⟨p.g.n,LS⟩=true:=srt_graph (by simp [inB]; omega) (by simp only; omega) a7 bok
 obtain ⟨I,c1,c2⟩:=Abb (N:=N) hN (g:=⟨p.g.n,LS⟩) (n:=n) hn (by omega) okLS (by simp only; omega)
 obtain ⟨H,d1,d2⟩:=Abb (N:=N) hN (g:=⟨p.g.n,LH⟩) (n:=n) hn (by omega) okLH (by simp only; omega)
 have hil:=pin_inner_len hp
 rw [hn] at hil
 have hil':(Aw p).length+p.ground.length=n:=by simpa using hil
 have rk:Fi N p=some ((I.length:Int)-H.length):=by
  have:=Xd c1.spr
  have:=Xd d1.spr
  unfold Fi
  simp (disch:=omega) only [Int.toNat_natCast,tk0,List.length_cons,List.length_nil,Af,Ay,At,Al,Ak,cnd_true,cnd_false,Option.bind_some,Bw N hN (show p.g.bars.length≤3000000 by omega) (show p.ground.length≤3000000 by omega),hp,Bool.not_true,a4,c2,a1,d2]
 have key:∀ v:Nat,v<n→∃ b0 b1:Bool,Dk N ⟨p.g.n,LS⟩ (p.ground.getD 0 0) v=some b0∧Dk N ⟨p.g.n,LS⟩ (p.ground.getD 1 0) v=some b1∧(((b0&&b1)=true)↔(p.ground.getD 0 0=v∨Tied n I (p.ground.getD 0 0,v))∧(p.ground.getD 1 0=v∨Tied n I (p.ground.getD 1 0,v))):=fun v hv=>by
  have hv':(0:Int)≤(v:Int)∧(v:Int)<n:=by omega
  obtain ⟨r0,s0,t0⟩:=implied_s (N:=N) hN (g:=⟨p.g.n,LS⟩) hgr hn (hG 0 (by omega)) hv' c1
  obtain ⟨r1,s1,t1⟩:=implied_s (N:=N) hN (g:=⟨p.g.n,LS⟩) hgr hn (hG 1 (by omega)) hv' c1
  rw [Tied.mm] at t0 t1
  refine ⟨r0,r1,s0,s1,?_⟩
  rw [Bool.and_eq_true,t0,t1]
 let t:Nat→Bool:=fun v=>match Dk N ⟨p.g.n,LS⟩ (p.ground.getD 0 0) v,Dk N ⟨p.g.n,LS⟩ (p.ground.getD 1 0) v with
  | some b0,some b1=>b0&&b1
  | _,_=>false
 refine ⟨n,LH,LS,H,I,t,hn,by omega,by omega,p3,hG,hlt,a3,a6,okLH,hb,d1,c1,held_len p3 hnd hG hlt a3 okLH d1 a2,rk,?_,hil',?_,fun v hv=>?_⟩
 ·have:=Xd c1.spr
  have:=Xd d1.spr
  unfold Dv
  simp (disch:=omega) only [Int.toNat_natCast,tk0,List.length_cons,List.length_nil,Af,Ay,At,Al,Ak,cnd_true,cnd_false,Option.bind_some,Bw N hN (show p.g.bars.length≤3000000 by omega) (show p.ground.length≤3000000 by omega),hp,Bool.not_true,Sd N hN (show p.g.bars.length≤3000000 by omega) (show p.ground.length≤3000000 by omega),rk]
 ·unfold Jp
  have:=steadyS1_s (n:=n) (aS:=⟨p.g.n,LS⟩) (t:=t) hN (by omega) hp (by omega) (by omega) hn p3 a4 (fun v hv=>by
   obtain ⟨b0,b1,s0,s1,_⟩:=key v hv
   exact ⟨b0,b1,s0,s1,by simp only [t,s0,s1]⟩) N 0 [] (by omega) (by omega) (by simp)
  exact this
 obtain ⟨b0,b1,s0,s1,s2⟩:=key v hv
 simp only [t,s0,s1]
 exact s2
theorem PF.all {p:Pin} {LH LS H I:List (Int×Int)} {t:Nat→Bool} (h:PF N n p LH LS H I t):(stl t n 0).length=n↔2*((Aw p).length:Int)-((I.length:Int)-H.length)=0:=by
 have h1:=h.inn
 have h2:=h.hl
 have h3:=h.bI.spr.top h.n2
 have g:=h.g2
 rw [stl_len.2]
 constructor
 ·intro ha
  have ha':∀ v:Nat,v<n→t v=true:=fun v hv=>ha v (by omega) (by omega)
  have:=Aab h.bI.spr h.okI (h.hG 0 (by omega)) (h.hG 1 (by omega)) (by have:=h.hlt 1 0 (by omega) (by omega); omega) (h.bI.spn _ ((h.mem _).2 (.inl (h.hS.h0 1 (by omega) (by omega))))) (G:=(List.range n).map fun (i:Nat)=>(i:Int)) (List.pairwise_map.2 (List.nodup_range.imp fun {a b} h e=>h (by omega))) fun v hv=>by
   obtain ⟨i,hi,rfl⟩:=List.mem_map.1 hv
   have hi:=List.mem_range.1 hi
   exact ⟨by omega,(h.tt i hi).1 (ha' i hi)⟩
  simp only [List.length_map,List.length_range] at this
  omega
 intro hf v _ hv
 have full:∀ e,Tied n I e:=tied_of_full h.n2 (by omega)
 exact (h.tt v (by omega)).2 ⟨.inr (full _),.inr (full _)⟩
end
section
open Go.RowKit Go.Deep
section
variable {C:Cx} {ops:Array Oper} {K:PS→Prop} {l:List Oper} {s s':PS} {TT:List (Nat×Ty)} {tm:List (Nat×D)} {rw':List (Nat×Option (TypeId×Sq))} {bx:List (Nat×Option (List D))}
theorem vEnO (hl:En C s s') (h:VO C ops K l s'):VO C ops K l s:=⟨fun M a w Q hr hk=>by
 obtain ⟨M',h'⟩:=hl.out M a w hr
 exact h.out M' a w Q h' hk⟩
end
section
theorem Rel.freeze0 {w0:World} {O0:Hd} {n:Nat} {M:Mp} {s:PS} {a:Act} {w:World} (h:Rel w0 O0 n M s a w) {r:Nat} {e:TypeId} {q:Sq} (hF:Ha r=true) (hr:s.r r=some (e,q)) :
  ∃ M',Rel w0 O0 n M' ((s.kill r).setR r none) a w∧(∀ v,VR M (Ow (Fs w0 O0) M) w (.row r 0 q.len) v→VR M' (Ow (Fs w0 O0) M') w (.ro true q) v)∧∀ d v,VR M (Ow (Fs w0 O0) M) w d v→VR M' (Ow (Fs w0 O0) M') w (klS r d) v:=by
 let M':Mp:=⟨M.β,fun y=>if y=r then none else M.γ y⟩
 have hown:∀ k,M'.owned k→M.owned k:=by
  rintro k (⟨b,hb⟩ | ⟨y,c,z,hy⟩)
  ·exact .inl ⟨b,hb⟩
  simp only [M'] at hy
  split at hy
  ·cases hy
  exact .inr ⟨y,c,z,hy⟩
 have hA:∀ f b,b<w.heap.size→Ow (Fs w0 O0) M f b→Ow (Fs w0 O0) M' f b∧b<w.heap.size∧w.heap[b]? = w.heap[b]?:=fun f b h1 h2=>⟨⟨fun h3=>h2.1 (hown b h3),h2.2⟩,h1,rfl⟩
 have hγ:∀ y z,y≠r→M'.γ y=some z→M.γ y=some z:=fun y z h1 h2=>by simpa [M',h1] using h2
 have hβ:∀ b k,M'.β b=some k→M.β b=some k:=fun _ _ h=>h
 have hbig:∀ x y,BIG≤x→M'.γ x=some y→M.γ x=some y:=fun x y hx h1=>by
  simp only [M'] at h1
  split at h1
  ·cases h1
  exact h1
 have hv:∀ v,VR M (Ow (Fs w0 O0) M) w (.row r 0 q.len) v→VR M' (Ow (Fs w0 O0) M') w (.ro true q) v:=by
  intro v h0
  cases h0 with
  | row _ _ _ _ g1 g2=>
   rcases h.row r e q hr with ⟨hg,h0⟩ | ⟨g,cap,cur,hg,hh,hl,hmx,hcs,hc⟩
   ·have:=g2 _ hg
    simp only [Wn] at this
    obtain ⟨⟨ao0,rfl⟩,_,_⟩:=this
    have:=VR.ro (M:=M') (A:=Ow (Fs w0 O0) M') (w:=w) true q ao0 0 0 0 (fun _ _=>undef) (by omega) (by omega) (by omega) (by intro i j d hi; omega) (by intro i j d hi; omega)
    rwa [h0] at this
   have:=g2 _ hg
   simp only [Wn] at this
   obtain ⟨h1,ao,h2,h3⟩:=this
   have h4:=h3 (.inr trivial)
   rw [Nat.zero_mul] at h4
   subst h2
   refine .ro true q ao _ g 0 (fun i j=>cur.getD (i*q.sz+j) undef) (by omega) (by omega) (fun _=>⟨h4,(Array.getElem?_eq_some_iff.1 hh).1,?_,?_⟩) (fun i j d hi hd=>?_) (fun i j d hi hd=>(VR.relem (fun d' hd'=>hc i j d' hi hd') hd).elem_any hd hA)
   ·rintro (⟨b,hb⟩ | ⟨y,c,z,hy⟩)
    ·exact h.inj3 _ _ _ _ _ hb hg
    simp only [M'] at hy
    split at hy
    ·cases hy
    rename_i hyr; exact hyr (h.inj2 _ _ _ _ _ _ _ hy hg)
   ·exact (h.low _ (.inr ⟨r,_,_,hg⟩)).imp_right (O0.sub _ _)
   have hj:j<q.sz:=by rw [←Sq.elem_len true q i]; exact (List.getElem?_eq_some_iff.1 hd).1
   have hlt:i*q.sz+j<cur.size:=by
    rw [hcs]
    have h4:(i+1)*q.sz≤cap*q.sz:=Nat.mul_le_mul_right _ (by omega)
    rw [Nat.add_mul,Nat.one_mul] at h4; omega
   rw [Nat.zero_add,cell_of_row w g _ cur e (0,0) hh]
   simp [hlt]
 refine ⟨M',⟨h.fr,h.dfr,h.sz,fun x=>?_,fun b cs hb=>?_,fun b hb=>?_,fun y e' p hy=>?_,fun y hy=>?_,fun k hk=>h.low k (hown k hk),h.inj1,fun y y' k c z c' z' h1 h2=>?_,fun b y k c z h1 h2=>?_,h.nle,h.fxb,fun y u u' h1 h2=>?_⟩,hv,fun d v hd=>VR.klS hA hγ hβ hd⟩
 ·have:((s.kill r).setR r none).t x=kl r (s.t x):=PS.t_kill s r x
  rw [this]; exact VR.kl hA hγ hβ (h.tmp x)
 ·have hb':(s.kill r).b b=some cs:=hb
  rw [PS.b_kill] at hb'
  obtain ⟨cs0,h0,rfl⟩:=Option.map_eq_some_iff.1 hb'
  obtain ⟨k,cur,e2,a1,a2,a3,a4⟩:=h.box b cs0 h0
  refine ⟨k,cur,e2,a1,a2,by simpa using a3,fun j d hd=>?_⟩
  rw [List.getElem?_map] at hd
  obtain ⟨d0,h1,rfl⟩:=Option.map_eq_some_iff.1 hd
  exact VR.klS hA hγ hβ (a4 j d0 h1)
 ·have hb':(s.kill r).b b=none:=hb
  rw [PS.b_kill] at hb'
  exact h.boxn b (by simpa using hb')
 ·have hy:((s.kill r).setR r none).r y=some (e',p):=hy
  rw [PS.r_setR _ _ _ _ hF] at hy
  by_cases hyr:r=y
  ·rw [if_pos hyr] at hy; cases hy
  rw [if_neg hyr] at hy
  rcases h.row y e' p hy with ⟨h1,h2⟩ | ⟨g,cap,cur,h1,h2,h3,h4,h5,h6⟩
  ·exact .inl ⟨by simp [M',Ne.symm hyr,h1],h2⟩
  exact .inr ⟨g,cap,cur,by simp [M',Ne.symm hyr,h1],h2,h3,h4,h5,fun i j d hi' hd=>(h6 i j d hi' hd).relem_any hd hA hbig⟩
 ·have hy:((s.kill r).setR r none).r y=none:=hy
  rw [PS.r_setR _ _ _ _ hF] at hy
  by_cases hyr:r=y
  ·simp [M',hyr]
  rw [if_neg hyr] at hy
  simpa [M',Ne.symm hyr] using h.rown y hy
 ·simp only [M'] at h1 h2
  split at h1 <;> split at h2 <;> first | (cases h1; done) | (cases h2; done) | exact h.inj2 _ _ _ _ _ _ _ h1 h2
 ·simp only [M'] at h2
  split at h2
  ·cases h2
  exact h.inj3 _ _ _ _ _ h1 h2
 simp only [M'] at h2
 split at h2
 ·cases h2
 exact h.fxr y u u' h1 h2
end
section
variable {C:Cx} {ops:Array Oper} {K:PS→Prop} {l:List Oper} {s s':PS} {TT:List (Nat×Ty)} {tm:List (Nat×D)} {rw':List (Nat×Option (TypeId×Sq))} {bx:List (Nat×Option (List D))}
theorem oFreezeA (t i:Nat) {r m:Nat} {e:TypeId} {q:Sq} {ds:List D} (ht:(PS.t ⟨tm,rw',bx⟩ t)=.agg ds) (hi:ds[i]? = some (.row r 0 m)) (hr:(PS.r ⟨tm,rw',bx⟩ r)=some (e,q)) (hnf:nf ⟨(t,.agg ((ds.map (klS r)).set i (.ro true q)))::(PS.kill ⟨tm,rw',bx⟩ r).tmp,(r,none)::rw',(PS.kill ⟨tm,rw',bx⟩ r).box⟩=some s') (hm:m=q.len)
  (h:VO C ops K l s') (hF:Ha r=true:=by rfl):VO C ops K l ⟨tm,rw',bx⟩:=by
 subst hm
 refine vEnO ⟨fun M a w hr'=>?_⟩ h
 rw [nf_ok hnf]
 obtain ⟨M',h1,h2,h3⟩:=hr'.freeze0 hF hr
 refine ⟨M',h1.fr,h1.dfr,h1.sz,fun x=>?_,h1.box,h1.boxn,h1.row,h1.rown,h1.low,h1.inj1,h1.inj2,h1.inj3,h1.nle,h1.fxb,h1.fxr⟩
 by_cases hx:t=x
 ·subst hx
  have hv:=hr'.tmp t
  rw [ht] at hv
  have:(PS.t ⟨(t,.agg ((ds.map (klS r)).set i (.ro true q)))::(PS.kill ⟨tm,rw',bx⟩ r).tmp,(r,none)::rw',(PS.kill ⟨tm,rw',bx⟩ r).box⟩ t)=.agg ((ds.map (klS r)).set i (.ro true q)):=by simp [PS.t,Ap]
  rw [this]
  generalize a.tmps.getD t undef=v at hv ⊢
  cases hv with
  | agg _ us hl hd=>
   refine .agg _ us (by simpa using hl) fun j d hj=>?_
   rw [List.getElem?_set] at hj
   by_cases hij:i=j
   ·subst hij
    have hlt:=(List.getElem?_eq_some_iff.1 hi).1
    rw [if_pos rfl,if_pos (by simpa using hlt)] at hj
    cases hj
    exact h2 _ (hd i _ hi)
   rw [if_neg hij,List.getElem?_map] at hj
   obtain ⟨d0,hd0,rfl⟩:=Option.map_eq_some_iff.1 hj
   exact h3 _ _ (hd j d0 hd0)
 have:(PS.t ⟨(t,.agg ((ds.map (klS r)).set i (.ro true q)))::(PS.kill ⟨tm,rw',bx⟩ r).tmp,(r,none)::rw',(PS.kill ⟨tm,rw',bx⟩ r).box⟩ x)=(PS.setR (PS.kill ⟨tm,rw',bx⟩ r) r none).t x:=by simp [PS.t,PS.setR,As hx]
 rw [this]; exact h1.tmp x
variable {o:Oper} {rest:List Oper} {rk rids bk bids pids:List Nat}
end
section
end
section
variable {C:Cx} {ops:Array Oper} {K:PS→Prop} {o:Oper} {rest:List Oper} {s s':PS} {TT:List (Nat×Ty)} {tm:List (Nat×D)} {rw':List (Nat×Option (TypeId×Sq))} {bx:List (Nat×Option (List D))} {cr B:List Nat} {j:Nat}
end
end
section
open Go.RowKit Go.Deep
def klXS (r:Nat):D→D
 | .row x o n=>match (Nat.beq x r || !Ha x) with | true=>.dead | false=>.row x o n
 | .eptr x i o=>match (Nat.beq x r || !Ha x) with | true=>.dead | false=>.eptr x i o
 | .agg _ | .tup _ | .irow _ _ _ | .iptr _ _ _ _=>.dead
 | d=>d
def klXA (r:Nat):D→D
 | .agg l=>.agg (l.map (klXS r))
 | d=>klXS r d
def klX (r:Nat):D→D
 | .tup l=>.tup (l.map (klXA r))
 | d=>klXA r d
def PS.killX (s:PS) (r:Nat):PS:=⟨s.tmp.map fun p=>(p.1,klX r p.2),s.row,s.box.map fun p=>(p.1,p.2.map fun cs=>cs.map (klXS r))⟩
section
variable {M M':Mp} {A A':Bool→Nat→Prop} {w w':World} {r:Nat} {s:PS}
theorem VR.klXS (hA:∀ f b,b<w.heap.size→A f b→A' f b∧b<w'.heap.size∧w'.heap[b]? = w.heap[b]?) (hγ:∀ x y,x≠r→Ha x=true→M'.γ x=some y→M.γ x=some y) (hβ:∀ b k,M'.β b=some k→M.β b=some k)
  {d:D} {v:Value} (h:VR M A w d v):VR M' A' w' (klXS r d) v:=by
 cases h with
 | dead v=>exact .dead v
 | int n=>exact .int n
 | bool b=>exact .bool b
 | val v h=>exact .val v h
 | nil ao=>exact .nil ao
 | ro f q ao cap b o u hn hc hao hu hv=>exact VR.ro_any (.ro f q ao cap b o u hn hc hao hu hv) hA
 | row x off n v h1 h=>
  simp only [Ytcljhpldfanhkaa.klXS]
  split
  ·exact .dead _
  rename_i hx
  rw [Bool.or_eq_false_iff] at hx
  exact .row _ off n v h1 fun y hy=>h y (hγ _ y (fun e=>by subst e; rw [Nat.beq_refl] at hx; cases hx.1) (by simpa using hx.2) hy)
 | ptr b off v h1 h=>exact .ptr _ off v h1 fun k hk=>h k (hβ b k hk)
 | eptr x i off v h=>
  simp only [Ytcljhpldfanhkaa.klXS]
  split
  ·exact .dead _
  rename_i hx
  rw [Bool.or_eq_false_iff] at hx
  exact .eptr _ i off v fun g c z hg=>h g c z (hγ _ _ (fun e=>by subst e; rw [Nat.beq_refl] at hx; cases hx.1) (by simpa using hx.2) hg)
 | rptr f q i off b o u hb hA' hu hv=>exact VR.rptr_any (.rptr f q i off b o u hb hA' hu hv) hA
 | agg l us hl h=>exact .dead _
 | tup l us hl h=>exact .dead _
 | clo f bs v h1 h=>exact .clo f bs v h1 fun ks hk=>h ks (Pi (fun b _=>hβ b) hk)
 | map k l es clock h hl hk=>obtain ⟨a1,a2,a3⟩:=hA _ k (Tf h) hk; exact .map k l es clock (a3.trans h) hl a1
 | any v h1=>exact .any v h1
 | irow F k n v h1 h=>exact .dead _
 | iptr F k i off v h=>exact .dead _
 | fam te q v=>exact .fam te q v
theorem VR.klXA (hA:∀ f b,b<w.heap.size→A f b→A' f b∧b<w'.heap.size∧w'.heap[b]? = w.heap[b]?) (hγ:∀ x y,x≠r→Ha x=true→M'.γ x=some y→M.γ x=some y) (hβ:∀ b k,M'.β b=some k→M.β b=some k)
  {d:D} {v:Value} (h:VR M A w d v):VR M' A' w' (klXA r d) v:=by
 cases d with
 | agg l=>
  cases h with | agg _ us hl h=>
  refine .agg _ us (by simpa using hl) fun i d hd=>?_
  rw [List.getElem?_map] at hd
  obtain ⟨d0,h0,rfl⟩:=Option.map_eq_some_iff.1 hd
  exact (h i d0 h0).klXS hA hγ hβ
 | _=>exact VR.klXS hA hγ hβ h
theorem VR.klX (hA:∀ f b,b<w.heap.size→A f b→A' f b∧b<w'.heap.size∧w'.heap[b]? = w.heap[b]?) (hγ:∀ x y,x≠r→Ha x=true→M'.γ x=some y→M.γ x=some y) (hβ:∀ b k,M'.β b=some k→M.β b=some k)
  {d:D} {v:Value} (h:VR M A w d v):VR M' A' w' (klX r d) v:=by
 cases d with
 | tup l=>
  cases h with | tup _ us hl h=>
  refine .tup _ us (by simpa using hl) fun i d hd=>?_
  rw [List.getElem?_map] at hd
  obtain ⟨d0,h0,rfl⟩:=Option.map_eq_some_iff.1 hd
  exact (h i d0 h0).klXA hA hγ hβ
 | _=>exact VR.klXA hA hγ hβ h
theorem PS.t_killX (s:PS) (r t:Nat):(s.killX r).t t=klX r (s.t t):=by
 unfold PS.t PS.killX
 simp only [Ye (klX r)]
 cases Bk s.tmp t <;> rfl
theorem PS.b_killX (s:PS) (r b:Nat):(s.killX r).b b=(s.b b).map fun cs=>cs.map (klXS r):=by
 unfold PS.b PS.killX
 simp only [Ye (fun (x:Option (List D))=>x.map fun cs=>cs.map (Ytcljhpldfanhkaa.klXS r))]
 cases Bk s.box b <;> rfl
end
def lone (s:PS) (R F:Nat):Bool:=s.row.all fun p=>Nat.beq p.1 R || (match s.r p.1 with | some (_,q)=>(match q.refF with | some G=>!Nat.beq G F&&Nat.blt G 4294967296 | none=>true) | none=>true)
theorem Yr {s:PS} {R F:Nat} (hl:lone s R F=true) {x:Nat} {e:TypeId} {q:Sq} {G:Nat} (hx:s.r x=some (e,q)) (hG:q.refF=some G):x=R∨(G≠F∧G<4294967296):=by
 cases hb:Nat.ble BIG x with
 | true=>
  rw [PS.r_hi _ hb] at hx
  have:=Yt hx
  cases q <;> simp [Sq.refF,Sq.isRefs] at hG this
 | false=>
  have hx':=hx
  rw [PS.r_lo _ hb] at hx'
  split at hx'
  ·rename_i y hy
   have:=(List.all_eq_true.1 hl) _ (Ge hy)
   simp only [hx,hG,Bool.or_eq_true,Bool.and_eq_true,Bool.not_eq_true',Nat.blt_eq] at this
   rcases this with h1 | ⟨h1,h2⟩
   ·exact .inl (Nat.eq_of_beq_eq_true h1)
   exact .inr ⟨fun e=>(by rw [e,Nat.beq_refl] at h1; cases h1),h2⟩
  cases hx'
section
variable {w0:World} {O0:Hd} {n:Nat} {M:Mp} {s:PS} {a:Act} {w:World}
theorem Rel.remap (h:Rel w0 O0 n M s a w) {M':Mp} {s':PS} (r F:Nat) (hF:F<4294967296) (hβ:∀ b,M'.β b=M.β b) (hsub:∀ x k c z,M'.γ x=some (some (k,c,z))→∃ y,M.γ y=some (some (k,c,z)))
  (hinj:∀ x y k c z c' z',M'.γ x=some (some (k,c,z))→M'.γ y=some (some (k,c',z'))→x=y)
  (hγ':∀ x y,x≠r→Ha x=true→M'.γ x=some y→M.γ x=some y) (hγk:∀ x y,x≠FK+F→Ha x=false→Nat.ble BIG x=false→M'.γ x=some y→M.γ x=some y) (hrr:r<1000000∨M'.γ r=none) (hfk:∀ u u',O0.fr (FK+F)=some u→M'.γ (FK+F)=some u'→u'=u)
  (hbg:∀ G k y,G<4294967296→G≠F→M'.γ (inn G k)=some y→M.γ (inn G k)=some y)
  (ht:∀ t,VR M' (Ow (Fs w0 O0) M') w (s'.t t) (a.tmps.getD t undef)) (hb:∀ b,s'.b b=(s.b b).map fun cs=>cs.map (klXS r))
  (hrow:∀ x e q,s'.r x=some (e,q)→(s.r x=some (e,q)∧M'.γ x=M.γ x∧∀ G,q.refF=some G→G≠F∧G<4294967296)∨RowAt (Fs w0 O0) M' w x e q) (hrown:∀ x,s'.r x=none→M'.γ x=none):Rel w0 O0 n M' s' a w:=by
 have hown:∀ k,M'.owned k→M.owned k:=by
  rintro k (⟨b,hb⟩ | ⟨y,c,z,hy⟩)
  ·exact .inl ⟨b,by rw [←hβ]; exact hb⟩
  obtain ⟨x,hx⟩:=hsub _ _ _ _ hy; exact .inr ⟨x,c,z,hx⟩
 have hA:∀ f b,b<w.heap.size→Ow (Fs w0 O0) M f b→Ow (Fs w0 O0) M' f b∧b<w.heap.size∧w.heap[b]? = w.heap[b]?:=fun f b h1 h2=>⟨⟨fun h3=>h2.1 (hown b h3),h2.2⟩,h1,rfl⟩
 refine ⟨h.fr,h.dfr,h.sz,ht,fun b cs hx=>?_,fun b hx=>?_,fun x e q hx=>?_,hrown,fun k hk=>h.low k (hown k hk),fun b b' k h1 h2=>h.inj1 b b' k (by rw [←hβ]; exact h1) (by rw [←hβ]; exact h2),hinj,fun b x k c z h1 h2=>?_,h.nle,fun b k k' h1 h2=>h.fxb b k k' h1 (by rw [←hβ]; exact h2),fun x u u' h1 h2=>?_⟩
 ·rw [hb] at hx
  obtain ⟨cs0,h0,rfl⟩:=Option.map_eq_some_iff.1 hx
  obtain ⟨k,cur,e2,a1,a2,a3,a4⟩:=h.box b cs0 h0
  refine ⟨k,cur,e2,by rw [hβ]; exact a1,a2,by simpa using a3,fun j d hd=>?_⟩
  rw [List.getElem?_map] at hd
  obtain ⟨d0,h1,rfl⟩:=Option.map_eq_some_iff.1 hd
  exact VR.klXS hA hγ' (fun b k hk=>by rw [←hβ]; exact hk) (a4 j d0 h1)
 ·rw [hb] at hx
  rw [hβ]; exact h.boxn b (by simpa using hx)
 ·rcases hrow x e q hx with ⟨h1,h2,h3⟩ | h1
  ·rcases h.row x e q h1 with ⟨g1,g2⟩ | ⟨g,cap,cur,g1,g2,g3,g4,g5,g6⟩
   ·exact .inl ⟨h2.trans g1,g2⟩
   refine .inr ⟨g,cap,cur,h2.trans g1,g2,g3,g4,g5,fun i j d hi hd=>(g6 i j d hi hd).relem_any2 hd hA fun G hG k y hy=>?_⟩
   exact hbg G k y (h3 G hG).2 (h3 G hG).1 hy
  exact h1
 ·obtain ⟨y,hy⟩:=hsub _ _ _ _ h2
  exact h.inj3 _ _ _ _ _ (by rw [←hβ]; exact h1) hy
 obtain ⟨h3,h4⟩:=O0.lor x u h1
 have hb1:Nat.ble BIG x=false:=by
  cases hb:Nat.ble BIG x with
  | false=>rfl
  | true=>have:=Nat.le_of_ble_eq_true hb; omega
 by_cases hxr:x=r
 ·subst hxr
  rcases hrr with h5 | h5
  ·omega
  rw [h5] at h2; cases h2
 cases hn:Ha x with
 | true=>exact h.fxr x u u' h1 (hγ' x u' hxr hn h2)
 | false=>
  by_cases hxf:x=FK+F
  ·rw [hxf] at h1 h2; exact hfk u u' h1 h2
  exact h.fxr x u u' h1 (hγk x u' hxf hn hb1 h2)
end
end
section
open Go.RowKit Go.Deep
def Fq.len:Fq→Nat
 | .ints L=>L.length | .pairs L=>L.length | .bools L=>L.length
def Fq.push:Fq→Sq→Option Fq
 | .ints L,.ints c=>some (.ints (L++[some c])) | .pairs L,.pairs c=>some (.pairs (L++[some c])) | .bools L,.bools c=>some (.bools (L++[some c]))
 | _,_=>none
def Fq.hole:Fq→Nat→Fq
 | .ints L,k=>.ints (L.set k none) | .pairs L,k=>.pairs (L.set k none) | .bools L,k=>.bools (L.set k none)
theorem getD_snoc {α:Type} (L:List (Option α)) (c:α) (k:Nat):(L++[some c]).getD k none=if k=L.length then some c else L.getD k none:=by
 by_cases h:k=L.length
 ·subst h; simp
 rw [if_neg h]
 by_cases h2:k<L.length
 ·simp [List.getElem?_append_left h2]
 have h3:L.length<k:=by omega
 simp [List.getElem?_append_right (show L.length≤k by omega),List.getElem?_eq_none (show L.length≤k by omega),List.getElem?_eq_none (show [some c].length≤k-L.length by simp; omega)]
theorem Fq.get_push {fq fq':Fq} {c:Sq} (h:fq.push c=some fq') (k:Nat):fq'.get k=if k=fq.len then some c else fq.get k:=by
 cases fq <;> cases c <;> simp only [Fq.push,reduceCtorEq,Option.some.injEq] at h <;> subst h <;> simp only [Fq.get,Fq.len,getD_snoc] <;> (rename_i L l; by_cases hk:k=L.length <;> simp [hk])
theorem Fq.get_flat {fq:Fq} {k:Nat} {c:Sq} (h:fq.get k=some c):c.isRefs=false:=by
 cases fq <;> simp only [Fq.get] at h <;> split at h <;> first | (cases h; done) | (cases h; rfl)
theorem Abi {x:Nat} (h:Nat.ble BIG x=true):inn (unF x) (unK x)=x:=by
 have h1:=Nat.le_of_ble_eq_true h
 have e:∀ y:Nat,y / 4294967296*4294967296+y % 4294967296 % 4294967296=y:=fun y=>by omega
 have:=e (x-BIG)
 unfold inn unF unK
 rw [this]
 omega
theorem fam_r {s:PS} {F:Nat} (hF:F<4294967296) {te:TypeId} {fq:Fq} (hf:s.r (FK+F)=some (te,.fam fq)) (i:Nat):s.r (inn F i)=match fq.get i with | some c=>some (te,c) | none=>none:=by
 rw [PS.r_hi _ (Ko F i),PS.inn_r,Aaa hF,hf,Rg]
 rfl
def Ws (M:Mp) (r F:Nat) (fq:Fq) (g:Nat→Nat):Mp:=⟨M.β,fun x=>match Nat.ble BIG x with
 | true=>if unF x=F then (match fq.get (unK x) with | some _=>M.γ (g (unK x)) | none=>none) else M.γ x
 | false=>if x=r then none else M.γ x⟩
theorem famM_hi (M:Mp) (r F:Nat) (fq:Fq) (g:Nat→Nat) {x:Nat} (hb:Nat.ble BIG x=true) (hu:unF x=F):(Ws M r F fq g).γ x=match fq.get (unK x) with | some _=>M.γ (g (unK x)) | none=>none:=by
 simp only [Ws]
 rw [hb]
 simp [hu]
theorem famM_hi2 (M:Mp) (r F:Nat) (fq:Fq) (g:Nat→Nat) {x:Nat} (hb:Nat.ble BIG x=true) (hu:unF x≠F):(Ws M r F fq g).γ x=M.γ x:=by
 simp only [Ws]
 rw [hb]
 simp [hu]
theorem Wl (M:Mp) (r F:Nat) (fq:Fq) (g:Nat→Nat) (hF:F<4294967296) (k:Nat):(Ws M r F fq g).γ (inn F k)=match fq.get k with | some _=>M.γ (g k) | none=>none:=by
 have:=famM_hi M r F fq g (Ko F k) (by rw [Mw,Nat.mod_eq_of_lt hF])
 rw [Rg] at this
 exact this
theorem famM_inn2 (M:Mp) (r F:Nat) (fq:Fq) (g:Nat→Nat) {G:Nat} (hG:G<4294967296) (hne:G≠F) (k:Nat):(Ws M r F fq g).γ (inn G k)=M.γ (inn G k):=
 famM_hi2 M r F fq g (Ko G k) (by rw [Mw,Nat.mod_eq_of_lt hG]; exact hne)
theorem Mk (M:Mp) (r F:Nat) (fq:Fq) (g:Nat→Nat) {x:Nat} (hb:Nat.ble BIG x=false) (hx:x≠r):(Ws M r F fq g).γ x=M.γ x:=by
 simp only [Ws]
 rw [hb]
 simp [hx]
theorem famM_r (M:Mp) (r F:Nat) (fq:Fq) (g:Nat→Nat) (hb:Nat.ble BIG r=false):(Ws M r F fq g).γ r=none:=by
 simp only [Ws]
 rw [hb]
 simp
theorem VR.irow_mv {M M':Mp} {A A':Bool→Nat→Prop} {w w':World} {F F' k k' n:Nat} {v:Value} (hv:VR M A w (.irow F k n) v) (h:∀ x,M'.γ (inn F' k')=some x→M.γ (inn F k)=some x):VR M' A' w' (.irow F' k' n) v:=by
 cases hv with | irow _ _ _ _ h1 h2=>exact .irow _ _ _ _ h1 fun x hx=>h2 x (h x hx)
theorem VR.irow_of {M M':Mp} {A A':Bool→Nat→Prop} {w w':World} {F' r k' n:Nat} {v:Value} (hv:VR M A w (.row r 0 n) v) (h:∀ x,M'.γ (inn F' k')=some x→M.γ r=some x):VR M' A' w' (.irow F' k' n) v:=by
 cases hv with | row _ _ _ _ h1 h2=>exact .irow _ _ _ _ h1 fun x hx=>h2 x (h x hx)
theorem RowAt.mv {F:Bool→Nat→Prop} {M M':Mp} {w:World} {x y:Nat} {e:TypeId} {q:Sq} (h:RowAt F M w x e q) (hq:q.isRefs=false) (hγ:M'.γ y=M.γ x) (hA:∀ f b,b<w.heap.size→Ow F M f b→Ow F M' f b∧b<w.heap.size∧w.heap[b]? = w.heap[b]?):RowAt F M' w y e q:=by
 rcases h with ⟨g1,g2⟩ | ⟨g,cap,cur,g1,g2,g3,g4,g5,g6⟩
 ·exact .inl ⟨hγ.trans g1,g2⟩
 refine .inr ⟨g,cap,cur,hγ.trans g1,g2,g3,g4,g5,fun i j d hi hd=>?_⟩
 have hd':=hd
 rw [Sq.relem_eq hq] at hd'
 exact (g6 i j d hi hd).elem_any hd' hA
section
variable {w0:World} {O0:Hd} {n:Nat} {M:Mp} {s:PS} {a:Act} {w:World}
theorem Rel.refam (h:Rel w0 O0 n M s a w) {s':PS} (r R F:Nat) (hF:F<4294967296) {te:TypeId} {fq fq':Fq} (g:Nat→Nat) {yR:Option (TypeId×Sq)}
  (hr:r<1000000) (hR:Ha R=true) (hrR:r≠R) (hf:s.r (FK+F)=some (te,.fam fq)) (hl:lone s R F=true)
  (hg:∀ k c,fq'.get k=some c→s.r (g k)=some (te,c)) (hinj:∀ k k' c c',fq'.get k=some c→fq'.get k'=some c'→g k=g k'→k=k') (hsrc:∀ k c,fq'.get k=some c→g k=r∨∃ j,g k=inn F j)
  (hs:∀ x,s'.r x=match Nat.ble BIG x with | true=>(if unF x=F then famr (some (some (te,.fam fq'))) (unK x) else s.r x) | false=>if x=r then none else if x=FK+F then some (te,.fam fq') else if x=R then yR else s.r x)
  (hyR:∀ e q,yR=some (e,q)→RowAt (Fs w0 O0) (Ws M r F fq' g) w R e q) (hyn:yR=none→M.γ R=none)
  (ht:∀ t,VR (Ws M r F fq' g) (Ow (Fs w0 O0) (Ws M r F fq' g)) w (s'.t t) (a.tmps.getD t undef)) (hb:∀ b,s'.b b=(s.b b).map fun cs=>cs.map (klXS r)):Rel w0 O0 n (Ws M r F fq' g) s' a w:=by
 have hrb:Nat.ble BIG r=false:=Dj (Fc hr)
 have hRb:Nat.ble BIG R=false:=Dj hR
 have hfr:FK+F≠r:=fun e=>by have:=Fc hr; rw [←e] at this; have h2:=Rp (inn F 0); rw [Aaa hF] at h2; rw [h2] at this; cases this
 have hfR:FK+F≠R:=fun e=>by rw [←e] at hR; have h2:=Rp (inn F 0); rw [Aaa hF] at h2; rw [h2] at hR; cases hR
 have cases3:∀ x y,(Ws M r F fq' g).γ x=some y→(∃ k c,x=inn F k∧fq'.get k=some c∧M.γ (g k)=some y)∨(M.γ x=some y∧x≠r∧∀ j,x≠inn F j):=fun x y hx=>by
  cases hbx:Nat.ble BIG x with
  | true=>
   by_cases hu:unF x=F
   ·have hxe:x=inn F (unK x):=by rw [←hu]; exact (Abi hbx).symm
    rw [hxe,Wl _ _ _ _ _ hF] at hx
    split at hx
    ·rename_i c hc; exact .inl ⟨_,c,hxe,hc,hx⟩
    cases hx
   simp only [Ws,hbx,hu,if_false] at hx
   refine .inr ⟨hx,fun e=>(by rw [e,hrb] at hbx; cases hbx),fun j e=>hu (by rw [e,Mw,Nat.mod_eq_of_lt hF])⟩
  | false=>
   simp only [Ws,hbx] at hx
   split at hx
   ·cases hx
   rename_i hxr
   exact .inr ⟨hx,hxr,fun j e=>by rw [e,Ko] at hbx; cases hbx⟩
 have hsub:∀ x k c z,(Ws M r F fq' g).γ x=some (some (k,c,z))→∃ y,M.γ y=some (some (k,c,z)):=fun x k c z hx=>by
  rcases cases3 x _ hx with ⟨_,_,_,_,h1⟩ | ⟨h1,_⟩
  ·exact ⟨_,h1⟩
  exact ⟨_,h1⟩
 have hown:∀ k,(Ws M r F fq' g).owned k→M.owned k:=by
  rintro k (⟨b,hb⟩ | ⟨y,c,z,hy⟩)
  ·exact .inl ⟨b,hb⟩
  obtain ⟨x,hx⟩:=hsub _ _ _ _ hy; exact .inr ⟨x,c,z,hx⟩
 have hA:∀ f b,b<w.heap.size→Ow (Fs w0 O0) M f b→Ow (Fs w0 O0) (Ws M r F fq' g) f b∧b<w.heap.size∧w.heap[b]? = w.heap[b]?:=fun f b h1 h2=>⟨⟨fun h3=>h2.1 (hown b h3),h2.2⟩,h1,rfl⟩
 refine h.remap (s':=s') r F hF (fun _=>rfl) hsub (fun x y k c z c' z' h1 h2=>?_) (fun x y h1 h2 h3=>?_) (fun x y h1 h2 h3 h4=>?_) (.inl hr) (fun u u' h1 h2=>?_) (fun G k y h1 h2 h3=>?_) ht hb (fun x e q hx=>?_) fun x hx=>?_
 ·rcases cases3 x _ h1 with ⟨k1,c1,rfl,g1,g2⟩ | ⟨g1,g2,g3⟩
  ·rcases cases3 y _ h2 with ⟨k2,c2,rfl,g4,g5⟩ | ⟨g4,g5,g6⟩
   ·have:=h.inj2 _ _ _ _ _ _ _ g2 g5
    rw [hinj k1 k2 c1 c2 g1 g4 this]
   exfalso
   have:=h.inj2 _ _ _ _ _ _ _ g2 g4
   rcases hsrc k1 c1 g1 with h5 | ⟨j,h5⟩
   ·exact g5 (by rw [←this,h5])
   exact g6 j (by rw [←this,h5])
  rcases cases3 y _ h2 with ⟨k2,c2,rfl,g4,g5⟩ | ⟨g4,g5,g6⟩
  ·exfalso
   have:=h.inj2 _ _ _ _ _ _ _ g1 g5
   rcases hsrc k2 c2 g4 with h5 | ⟨j,h5⟩
   ·exact g2 (by rw [this,h5])
   exact g3 j (by rw [this,h5])
  exact h.inj2 _ _ _ _ _ _ _ g1 g4
 ·rw [Mk _ _ _ _ _ (Dj h2) h1] at h3; exact h3
 ·by_cases hxr:x=r
  ·rw [hxr,famM_r _ _ _ _ _ hrb] at h4; cases h4
  rw [Mk _ _ _ _ _ h3 hxr] at h4; exact h4
 ·rw [Mk _ _ _ _ _ (fk_lo hF) hfr] at h2
  exact h.fxr _ _ _ h1 h2
 ·rw [famM_inn2 _ _ _ _ _ h1 h2] at h3; exact h3
 ·rw [hs] at hx
  cases hbx:Nat.ble BIG x with
  | true=>
   rw [hbx] at hx
   by_cases hu:unF x=F
   ·have hxe:x=inn F (unK x):=by rw [←hu]; exact (Abi hbx).symm
    simp only [hu,if_true,famr] at hx
    split at hx
    ·rename_i c hc
     cases hx
     right
     have h1:=h.row _ _ _ (hg _ _ hc)
     refine h1.mv (Fq.get_flat hc) ?_ hA
     rw [hxe,Wl _ _ _ _ _ hF,Rg,hc]
    cases hx
   simp only [hu,if_false] at hx
   refine .inl ⟨hx,by simp only [Ws,hbx,hu,if_false],fun G hG=>?_⟩
   rcases Yr hl hx hG with h1 | h1
   ·rw [h1,hRb] at hbx; cases hbx
   exact h1
  | false=>
   rw [hbx] at hx
   simp only at hx
   split at hx
   ·cases hx
   rename_i hxr
   split at hx
   ·rename_i hxf
    cases hx
    right
    rcases h.row _ _ _ hf with ⟨g1,g2⟩ | ⟨gg,cap,cur,g1,g2,g3,g4,g5,g6⟩
    ·exact .inl ⟨by rw [hxf,Mk _ _ _ _ _ (fk_lo hF) hfr]; exact g1,rfl⟩
    exact .inr ⟨gg,cap,cur,by rw [hxf,Mk _ _ _ _ _ (fk_lo hF) hfr]; exact g1,g2,Nat.zero_le _,g4,g5,fun i j d hi hd=>absurd hi (Nat.not_lt_zero _)⟩
   rename_i hxf
   split at hx
   ·rename_i hxR
    right
    rw [hxR]; exact hyR e q hx
   rename_i hxR
   refine .inl ⟨hx,Mk _ _ _ _ _ hbx hxr,fun G hG=>?_⟩
   rcases Yr hl hx hG with h1 | h1
   ·exact absurd h1 hxR
   exact h1
 rw [hs] at hx
 cases hbx:Nat.ble BIG x with
 | true=>
  rw [hbx] at hx
  by_cases hu:unF x=F
  ·have hxe:x=inn F (unK x):=by rw [←hu]; exact (Abi hbx).symm
   simp only [hu,if_true,famr] at hx
   rw [hxe,Wl _ _ _ _ _ hF]
   split at hx
   ·cases hx
   rename_i hc; rw [hc]
  simp only [hu,if_false] at hx
  simp only [Ws,hbx,hu,if_false]
  exact h.rown x hx
 | false=>
  rw [hbx] at hx
  simp only at hx
  split at hx
  ·rename_i hxr; rw [hxr]; exact famM_r _ _ _ _ _ hrb
  rename_i hxr
  split at hx
  ·cases hx
  rename_i hxf
  split at hx
  ·rename_i hxR
   rw [hxR,Mk _ _ _ _ _ hRb (Ne.symm hrR)]; exact hyn hx
  rename_i hxR
  rw [Mk _ _ _ _ _ hbx hxr]; exact h.rown x hx
end
end
section
open Go.RowKit Go.Deep
theorem PS.r_app {s s':PS} {l:List (Nat×Option (TypeId×Sq))} (h:s'.row=l++s.row) (x:Nat):s'.r x=match Nat.ble BIG x with | true=>(match Bk l (FK+unF x) with | some y=>famr (some y) (unK x) | none=>s.r x) | false=>(match Bk l x with | some y=>y | none=>s.r x):=by
 cases hb:Nat.ble BIG x with
 | true=>
  rw [PS.r_hi _ hb,PS.r_hi _ hb]
  unfold PS.inn
  rw [h,Eb]
  cases Bk l (FK+unF x) <;> rfl
 | false=>
  rw [PS.r_lo _ hb,PS.r_lo _ hb,h,Eb]
  cases Bk l x <;> rfl
def famOf:Sq→Fq
 | .intss X=>.ints (X.map some) | .pairss X=>.pairs (X.map some) | .boolss X=>.bools (X.map some) | .raises X=>.ints (X.map fun x=>some x.2) | _=>.ints []
theorem fk_ne {F r:Nat} (hF:F<4294967296) (hr:Ha r=true):FK+F≠r:=fun e=>by
 have h2:=Rp (inn F 0)
 rw [Aaa hF,e] at h2
 rw [h2] at hr; cases hr
theorem Rk {α:Type} (k:Nat) (x:α) (i:Nat):Bk [(k,x)] i=if k=i then some x else none:=by
 by_cases h:k=i
 ·subst h; rw [Ap,if_pos rfl]
 rw [As h,if_neg h]; rfl
theorem To {α:Type} (k l:Nat) (x y:α) (i:Nat):Bk [(k,x),(l,y)] i=if k=i then some x else if l=i then some y else none:=by
 by_cases h:k=i
 ·subst h; rw [Ap,if_pos rfl]
 rw [As h,if_neg h]; exact Rk l y i
section
variable {C:Cx} {tm:List (Nat×D)} {rw':List (Nat×Option (TypeId×Sq))} {bx:List (Nat×Option (List D))} {s':PS}
theorem En.newFam (F:Nat) (te:TypeId) (fq:Fq) (h0:fq.len=0) (hl:lone ⟨tm,rw',bx⟩ 999999 F=true) (hl2:PS.r ⟨tm,rw',bx⟩ 999999=none) (hN:PS.r ⟨tm,rw',bx⟩ (FK+F)=none) (hO:∀ u,C.O0.fr (FK+F)≠some u)
  (hnf:nf ⟨(PS.killX ⟨tm,rw',bx⟩ 999999).tmp,(FK+F,some (te,.fam fq))::rw',(PS.killX ⟨tm,rw',bx⟩ 999999).box⟩=some s') (hF:Nat.blt F 4294967296=true:=by rfl):En C ⟨tm,rw',bx⟩ s':=⟨fun M a w h=>by
 rw [nf_ok hnf]
 rw [Nat.blt_eq] at hF
 have hget:∀ k,fq.get k=none:=fun k=>by
  cases fq <;> simp only [Fq.len,List.length_eq_zero_iff] at h0 <;> subst h0 <;> rfl
 let M':Mp:=⟨M.β,fun x=>if x=FK+F then some none else M.γ x⟩
 have hMi:∀ G k,M'.γ (inn G k)=M.γ (inn G k):=fun G k=>by
  have:inn G k≠FK+F:=fun e=>by have h1:=Ko G k; rw [e,fk_lo hF] at h1; cases h1
  simp [M',this]
 have hsub:∀ x k c z,M'.γ x=some (some (k,c,z))→M.γ x=some (some (k,c,z)):=fun x k c z hx=>by
  simp only [M'] at hx
  split at hx
  ·cases hx
  exact hx
 have hown:∀ k,M'.owned k→M.owned k:=by
  rintro k (⟨b,hb⟩ | ⟨y,c,z,hy⟩)
  ·exact .inl ⟨b,hb⟩
  exact .inr ⟨y,c,z,hsub _ _ _ _ hy⟩
 have hA:∀ f b,b<w.heap.size→Ow (Fs C.w0 C.O0) M f b→Ow (Fs C.w0 C.O0) M' f b∧b<w.heap.size∧w.heap[b]? = w.heap[b]?:=fun f b h1 h2=>⟨⟨fun h3=>h2.1 (hown b h3),h2.2⟩,h1,rfl⟩
 have hγ':∀ x y,x≠999999→Ha x=true→M'.γ x=some y→M.γ x=some y:=fun x y _ h2 h3=>by
  simp only [M'] at h3
  rw [if_neg (fun e=>fk_ne hF h2 e.symm)] at h3
  exact h3
 refine ⟨M',h.remap 999999 F hF (fun _=>rfl) (fun x k c z hx=>⟨x,hsub _ _ _ _ hx⟩) (fun x y k c z c' z' h1 h2=>h.inj2 _ _ _ _ _ _ _ (hsub _ _ _ _ h1) (hsub _ _ _ _ h2)) hγ' (fun x y h1 h2 h3 h4=>?_) (.inl (by decide)) (fun u u' h1 _=>absurd h1 (hO u)) (fun G k y _ _ h3=>by rw [←hMi]; exact h3) (fun t=>?_) (fun b=>?_) (fun x e q hx=>?_) fun x hx=>?_⟩
 ·simp only [M'] at h4
  rw [if_neg h1] at h4
  exact h4
 ·have:PS.t ⟨(PS.killX ⟨tm,rw',bx⟩ 999999).tmp,(FK+F,some (te,.fam fq))::rw',(PS.killX ⟨tm,rw',bx⟩ 999999).box⟩ t=klX 999999 (PS.t ⟨tm,rw',bx⟩ t):=PS.t_killX ⟨tm,rw',bx⟩ 999999 t
  rw [this]
  exact VR.klX hA hγ' (fun _ _ h=>h) (h.tmp t)
 ·exact PS.b_killX ⟨tm,rw',bx⟩ 999999 b
 ·rw [PS.r_app (s:=⟨tm,rw',bx⟩) (l:=[(FK+F,some (te,.fam fq))]) rfl,Rk,Rk] at hx
  cases hbx:Nat.ble BIG x with
  | true=>
   rw [hbx] at hx
   have hxf:x≠FK+F:=fun e=>by rw [e,fk_lo hF] at hbx; cases hbx
   have hMx:M'.γ x=M.γ x:=by simp [M',hxf]
   by_cases hu:FK+F=FK+unF x
   ·simp only [hu,if_true,famr,hget] at hx
    cases hx
   simp only [hu,if_false] at hx
   refine .inl ⟨hx,hMx,fun G hG=>?_⟩
   rcases Yr hl hx hG with h1 | h1
   ·rw [h1,hl2] at hx; cases hx
   exact h1
  | false=>
   rw [hbx] at hx
   by_cases hxf:FK+F=x
   ·subst hxf
    simp only [if_true] at hx
    cases hx
    exact .inr (.inl ⟨by simp [M'],rfl⟩)
   simp only [hxf,if_false] at hx
   refine .inl ⟨hx,by simp [M',Ne.symm hxf],fun G hG=>?_⟩
   rcases Yr hl hx hG with h1 | h1
   ·rw [h1,hl2] at hx; cases hx
   exact h1
 rw [PS.r_app (s:=⟨tm,rw',bx⟩) (l:=[(FK+F,some (te,.fam fq))]) rfl,Rk,Rk] at hx
 cases hbx:Nat.ble BIG x with
 | true=>
  rw [hbx] at hx
  have hxf:x≠FK+F:=fun e=>by rw [e,fk_lo hF] at hbx; cases hbx
  have hMx:M'.γ x=M.γ x:=by simp [M',hxf]
  rw [hMx]
  refine h.rown x ?_
  by_cases hu:FK+F=FK+unF x
  ·rw [PS.r_hi _ hbx,PS.inn_r,←hu,hN]; rfl
  simp only [hu,if_false] at hx; exact hx
 | false=>
  rw [hbx] at hx
  by_cases hxf:FK+F=x
  ·simp only [hxf,if_true] at hx; cases hx
  simp only [hxf,if_false] at hx
  simp only [M',Ne.symm hxf,if_false]
  exact h.rown x hx⟩
theorem En.asRefs (R F:Nat) {et:TypeId} {q qR:Sq} (hR:PS.r ⟨tm,rw',bx⟩ R=some (et,q)) (h0:q.len=0) (h1:qR.len=0) (hz:qR.sz=q.sz) (hFR:Ha R=true:=by rfl):En C ⟨tm,rw',bx⟩ ⟨tm,(R,some (et,qR))::rw',bx⟩:=⟨fun M a w h=>by
 have hPS:∀ x,PS.r ⟨tm,(R,some (et,qR))::rw',bx⟩ x=if R=x then some (et,qR) else PS.r ⟨tm,rw',bx⟩ x:=fun x=>PS.r_setR ⟨tm,rw',bx⟩ R (some (et,qR)) x hFR
 refine ⟨M,h.fr,h.dfr,h.sz,h.tmp,h.box,h.boxn,fun x e p hx=>?_,fun x hx=>?_,h.low,h.inj1,h.inj2,h.inj3,h.nle,h.fxb,h.fxr⟩
 ·rw [hPS] at hx
  split at hx
  ·rename_i hxR
   cases hx
   subst hxR
   rcases h.row _ _ _ hR with ⟨g1,g2⟩ | ⟨g,cap,cur,g1,g2,g3,g4,g5,g6⟩
   ·exact .inl ⟨g1,h1⟩
   exact .inr ⟨g,cap,cur,by rw [hz]; exact g1,g2,by omega,g4,by rw [hz]; exact g5,fun i j d hi hd=>by omega⟩
  exact h.row x e p hx
 rw [hPS] at hx
 split at hx
 ·cases hx
 exact h.rown x hx⟩
end
end
section
open Go.RowKit Go.Deep
section
variable {C:Cx} {tm:List (Nat×D)} {rw':List (Nat×Option (TypeId×Sq))} {bx:List (Nat×Option (List D))} {s':PS}
end
end
section
open Go.RowKit Go.Deep
section
variable {w0:World} {O0:Hd} {n:Nat} {M:Mp} {s:PS} {a:Act} {w:World}
theorem Rel.newRowR (h:Rel w0 O0 n M s a w) {r m:Nat} {e:TypeId} {q:Sq} {cur:Array Value} (hq:q.len=m) (hm:m≤maxLen) (hc:cur.size=m*q.sz)
  (hv:∀ i j d,i<m→(q.relem i)[j]? = some d→VR M (Ow (Fs w0 O0) M) w d (cur.getD (i*q.sz+j) undef)) (hf:Fresh s noB (isR r)) (hlo:r<1000000) :
  ∃ M',Rel w0 O0 n M' (s.setR r (some (e,q))) a (w.alloc (.cells cur e))∧VR M' (Ow (Fs w0 O0) M') (w.alloc (.cells cur e)) (.row r 0 m) (.slice (some ⟨w.heap.size,0,none⟩) m m):=by
 have hF:=Fc hlo
 let M':Mp:=⟨M.β,fun x=>if x=r then some (some (w.heap.size,m,q.sz)) else M.γ x⟩
 have m1:M'.γ r=some (some (w.heap.size,m,q.sz)):=by simp [M']
 have m2:∀ x,x≠r→M'.γ x=M.γ x:=fun x hx=>by simp [M',hx]
 have hown:∀ k,M'.owned k→M.owned k∨k=w.heap.size:=by
  rintro k (⟨x,hx⟩ | ⟨y,c,z,hy⟩)
  ·exact .inl (.inl ⟨x,hx⟩)
  by_cases hyr:y=r
  ·rw [hyr,m1] at hy; cases hy; exact .inr rfl
  rw [m2 y hyr] at hy; exact .inl (.inr ⟨y,c,z,hy⟩)
 have hA:∀ f k,k<w.heap.size→Ow (Fs w0 O0) M f k→Ow (Fs w0 O0) M' f k∧k<(w.alloc (.cells cur e)).heap.size∧(w.alloc (.cells cur e)).heap[k]? = w.heap[k]?:=fun f k h1 h2=>
  ⟨⟨fun h3=>by rcases hown k h3 with h4 | h4; exact h2.1 h4; omega,h2.2⟩,by simp; omega,Below.heap_alloc w _ k h1⟩
 have hγ:∀ x y,isR r x=false→M'.γ x=some y→M.γ x=some y:=fun x y h1 h2=>by
  rw [m2 x (fun e=>by subst e; simp [isR,Nat.beq_refl] at h1)] at h2; exact h2
 have hrb:=Dj hF
 have hbig:∀ x y,BIG≤x→M'.γ x=some y→M.γ x=some y:=fun x y hx h2=>by
  rw [m2 x (fun e=>by rw [←e,Nat.ble_eq_true_of_le hx] at hrb; cases hrb)] at h2; exact h2
 have hno:∀ y c z,M.γ y≠some (some (w.heap.size,c,z)):=fun y c z hy=>by have:=h.lt _ (.inr ⟨y,c,z,hy⟩); omega
 refine ⟨M',⟨?_,h.dfr,h.sz,fun t=>?_,fun x ds hx=>?_,fun x hx=>h.boxn x hx,fun x e' p hx=>?_,fun x hx=>?_,fun k hk=>?_,h.inj1,fun x y k c z c' z' h1 h2=>?_,fun x y k c z h1 h2=>?_,h.nle,h.fxb,fun x u u' h1 h2=>?_⟩,?_⟩
 ·exact h.fr.step rfl rfl rfl (by simp) fun k h1 _=>Below.heap_alloc w _ k (Nat.lt_of_lt_of_le h1 h.fr.size)
 ·exact VR.new (b:=noB) (r:=isR r) hA hγ (fun _ _ _ h=>h) (hf.t t) (h.tmp t) (hi:=fun _=>hbig)
 ·obtain ⟨k,cur',e',h1,h2,h3,h4⟩:=h.box x ds hx
  have hlt:=(Array.getElem?_eq_some_iff.1 h2).1
  exact ⟨k,cur',e',h1,(Below.heap_alloc w _ k hlt).trans h2,h3,fun j d hd=>VR.newS (b:=noB) (r:=isR r) hA hγ (fun _ _ _ h=>h) (hf.b _ _ hx d (List.mem_of_getElem? hd)) (h4 j d hd) (hi:=fun _=>hbig)⟩
 ·rw [PS.r_setR _ _ _ _ hF] at hx
  by_cases hxr:r=x
  ·subst hxr
   rw [if_pos rfl] at hx
   cases hx
   exact .inr ⟨w.heap.size,m,cur,m1,heap_alloc_new w _,by omega,hm,hc,fun i j d hi hd=>(hv i j d (by omega) hd).relem_any hd hA hbig⟩
  rw [if_neg hxr] at hx
  rcases h.row x e' p hx with ⟨h1,h2⟩ | ⟨g,cap,cur',h1,h2,h3,h4,h5,h6⟩
  ·exact .inl ⟨(m2 x (Ne.symm hxr)).trans h1,h2⟩
  have hlt:=(Array.getElem?_eq_some_iff.1 h2).1
  exact .inr ⟨g,cap,cur',(m2 x (Ne.symm hxr)).trans h1,(Below.heap_alloc w _ g hlt).trans h2,h3,h4,h5,fun i j d hi hd=>(h6 i j d hi hd).relem_any hd hA hbig⟩
 ·rw [PS.r_setR _ _ _ _ hF] at hx
  by_cases hxr:r=x
  ·rw [if_pos hxr] at hx; cases hx
  rw [if_neg hxr] at hx; exact (m2 x (Ne.symm hxr)).trans (h.rown x hx)
 ·rcases hown k hk with h1 | rfl
  ·exact h.low k h1
  exact .inl h.fr.size
 ·by_cases hx:x=r
  ·by_cases hy:y=r
   ·rw [hx,hy]
   rw [hx,m1] at h1; cases h1; rw [m2 y hy] at h2; exact absurd h2 (hno _ _ _)
  by_cases hy:y=r
  ·rw [hy,m1] at h2; cases h2; rw [m2 x hx] at h1; exact absurd h1 (hno _ _ _)
  rw [m2 x hx] at h1; rw [m2 y hy] at h2; exact h.inj2 _ _ _ _ _ _ _ h1 h2
 ·by_cases hy:y=r
  ·rw [hy,m1] at h2; cases h2
   have:=h.lt _ (.inl ⟨x,h1⟩); omega
  rw [m2 y hy] at h2; exact h.inj3 _ _ _ _ _ h1 h2
 ·have h3:=(O0.lor x u h1).1
  rw [m2 x (by omega)] at h2
  exact h.fxr x u u' h1 h2
 exact .row _ _ _ _ rfl fun x hx=>by rw [m1] at hx; cases hx; exact ⟨by omega,_,by rw [Nat.sub_zero],fun _=>by rw [Nat.zero_mul]⟩
end
def refOf:D→Option Sq
 | .irow F k n=>some (.irefs F [(k,n)])
 | .agg [.int p,.irow F k n]=>some (.rrefs F [(p,k,n)])
 | _=>none
theorem refOf_ok {d:D} {q:Sq} (h:refOf d=some q):d.flat=true∧d.cells=q.relem 0∧q.len=1:=by
 unfold refOf at h
 split at h
 ·cases h; exact ⟨rfl,rfl,rfl⟩
 ·cases h; exact ⟨rfl,rfl,rfl⟩
 cases h
section
variable {C:Cx} {ops:Array Oper} {K:PS→Prop} {o:Oper} {rest:List Oper} {s:PS} {TT:List (Nat×Ty)} {tm:List (Nat×D)} {rw':List (Nat×Option (TypeId×Sq))} {bx:List (Nat×Option (List D))}
theorem oBuildI (hT:Pd C.P TT) (hg:o.guard=none) {t e:TypeId} {k q:Sq} {by' b:Nat} {x:Operand} {d:D} (hop:o.op=.buildSlice t 1 #[(0,x)]) (hd:o.dst=some b) (hy:Bk TT t=some (.sl e k by')) (hx:(PS.ev ⟨tm,rw',bx⟩ x)=d)
  (hq:refOf d=some q) (hz:Nat.beq k.sz q.sz=true) (hbig:Nat.ble (1*k.sz) 16777216=true) (hn:Nat.blt b C.n=true) (hf:frB ⟨tm,rw',bx⟩ noB (isR b)=true) (h:VO C ops K rest ⟨(b,.row b 0 1)::tm,(b,some (e,q))::rw',bx⟩):VO C ops K (o::rest) ⟨tm,rw',bx⟩:=by
 refine vOp hg ⟨fun M a w Q K' hrl hk=>?_⟩
 have hev:=hrl.ev x
 rw [hx] at hev
 obtain ⟨r1,r2,r3⟩:=refOf_ok hq
 have hz':=Nat.eq_of_beq_eq_true hz
 obtain ⟨c1,c2,_⟩:=hev.cells r1
 rw [r2,Sq.relem_len,←hz'] at c1
 have hvs:∀ v∈[a.eval x],v.cells.size=k.sz:=by intro v hv; simp at hv; subst hv; exact c1.symm
 have hbig':=Nat.le_of_ble_eq_true hbig
 have hfill:∀ cells:Array Value,cells.size=1*k.sz→Instr.fill (fun i=>some (i*k.sz,k.sz)) cells (idxL 0 [a.eval x])=some ([a.eval x].flatMap fun v=>v.cells.toList).toArray:=fun cells hc=>by
  have:=fill_all k.sz [a.eval x] 0 cells hvs (by rw [hc]; rfl)
  simpa using this
 have hrun:(execOp a.eval o).run C.P w=.ok (.value (.slice (some ⟨w.heap.size,0,none⟩) 1 1)) (w.alloc (.cells ([a.eval x].flatMap fun v=>v.cells.toList).toArray e)):=by
  have hparts:((#[(0,x)]:Array (Nat×Operand)).map fun (p:Nat×Operand)=>(p.1,a.eval p.2)).toList=idxL 0 [a.eval x]:=by simp [idxL]
  have:=Pt (hT t _ hy) w 1 _ ([a.eval x].flatMap fun v=>v.cells.toList).toArray (by omega) (fun cells hc=>by rw [hparts]; exact hfill cells hc)
  unfold execOp
  rw [hop]
  simp only [Sem.run_bind,this,Result.andThen_ok]
  rfl
 obtain ⟨M',h1,h2⟩:=hrl.newRowR (r:=b) (m:=1) (e:=e) (q:=q) (cur:=([a.eval x].flatMap fun v=>v.cells.toList).toArray) r3 (by unfold maxLen; omega)
  (by simp only [List.size_toArray]; rw [Tj _ hvs,←hz']; rfl) (fun i j d' hi hd'=>by
   obtain rfl:i=0:=by omega
   have:=c2 j d' (by rw [r2]; exact hd')
   simpa using this) (Lv hf) (by have h1000:=hrl.nle; rw [Nat.blt_eq] at hn; omega)
 unfold Oper.wp
 rw [hrun]
 refine hk M' _ _ _ h ?_
 rw [hd]
 exact h1.put (o:=some b) hn h2
end
end
section
open Go.RowKit Go.Deep
section
variable {P:Program} {w0:World} {O0:Hd} {n:Nat} {M:Mp} {s:PS} {a:Act} {w w':World}
end
section
variable {C:Cx} {ops:Array Oper} {K:PS→Prop} {o:Oper} {rest:List Oper} {s:PS} {TT:List (Nat×Ty)} {tm:List (Nat×D)} {rw':List (Nat×Option (TypeId×Sq))} {bx:List (Nat×Option (List D))} {cr B:List Nat} {j:Nat}
end
end
section
open Go.RowKit Go.Deep
section
variable {C:Cx} {ops:Array Oper} {K:PS→Prop} {o:Oper} {rest:List Oper} {s:PS} {TT:List (Nat×Ty)} {tm:List (Nat×D)} {rw':List (Nat×Option (TypeId×Sq))} {bx:List (Nat×Option (List D))}
end
end
section
open Go.RowKit Go.Deep
structure NewD (N:Mp) (A:Bool→Nat→Prop) (w w':World) (B F:Nat) (et te:TypeId) (q:Sq):Prop where
 os:w'.os=w.os
 tape:w'.tape=w.tape
 output:w'.output=w.output
 size:w.heap.size≤w'.heap.size
 block:∀ k,k<w.heap.size→w'.heap[k]? = w.heap[k]?
 noβ:∀ b,N.β b=none
 outer:(N.γ B=some none∧q.len=0)∨∃ g cap cur,N.γ B=some (some (g,cap,q.sz))∧w'.heap[g]? = some (.cells cur et (0,0))∧q.len≤cap∧cap≤maxLen∧cur.size=cap*q.sz∧∀ i j d,i<q.len→((dR F q).relem i)[j]? = some d→VR N A w' d (cur.getD (i*q.sz+j) undef)
 inner:∀ i,i<q.len→(N.γ (inn F i)=some none∧(q.nn i).len=0)∨∃ g cap cur,N.γ (inn F i)=some (some (g,cap,(q.nn i).sz))∧w'.heap[g]? = some (.cells cur te (0,0))∧(q.nn i).len≤cap∧cap≤maxLen∧cur.size=cap*(q.nn i).sz∧∀ i' j d,i'<(q.nn i).len→((q.nn i).relem i')[j]? = some d→VR N A w' d (cur.getD (i'*(q.nn i).sz+j) undef)
 none:∀ x,x≠B→(∀ i,i<q.len→x≠inn F i)→N.γ x=none
 low:∀ k,N.owned k→w.heap.size≤k
 inj:∀ r r' k c z c' z',N.γ r=some (some (k,c,z))→N.γ r'=some (some (k,c',z'))→r=r'
structure PCallD (P:Program) (f:FuncId) (ds:List D) (et te:TypeId) (q:Sq) (d:D):Prop where
 enter:∀ args w,(callFunc f args).run P w=.ok (.enter f args) w
 deep:q.deep=true
 run:∀ w args,ArgsOK w ds args→Calls P f args w fun e w'=>∃ v,e=.returned v∧∀ B F,B≤500000→F<4294967296→∃ N,NewD N (Rs w N) w w' B F et te q∧VR N (Rs w N) w' (ren id (fun j=>B+j) d) v
section
variable {C:Cx} {ops:Array Oper} {K:PS→Prop} {o:Oper} {rest:List Oper} {s s':PS} {TT:List (Nat×Ty)} {tm:List (Nat×D)} {rw':List (Nat×Option (TypeId×Sq))} {bx:List (Nat×Option (List D))}
theorem Rel.newDeep {w0:World} {O0:Hd} {n:Nat} {M N:Mp} {A:Bool→Nat→Prop} {a:Act} {w w':World} {B F:Nat} {et te:TypeId} {q:Sq} (h:Rel w0 O0 n M ⟨tm,rw',bx⟩ a w) (hq:q.deep=true) (hN:NewD N A w w' B F et te q) (hF:F<4294967296) (hB:B<1000000)
  (hA:∀ f k,k<w'.heap.size→A f k→(¬ N.owned k∧¬ M.owned k)∧Fs w0 O0 f k) (hf:Fresh ⟨tm,rw',bx⟩ (fun _=>false) (fun r=>Nat.beq r B || !Ha r)) (hl:lone ⟨tm,rw',bx⟩ 999999 F=true) (h9:PS.r ⟨tm,rw',bx⟩ 999999=none) (hfn:PS.r ⟨tm,rw',bx⟩ (FK+F)=none) (hO:∀ u,O0.fr (FK+F)≠some u) :
  ∃ M',Rel w0 O0 n M' ⟨tm,(B,some (et,dR F q))::(FK+F,some (te,dF q))::rw',bx⟩ a w'∧∀ d v,Ez (fun _=>true) (fun r=>!Nat.beq r B) d=false→VR N A w' d v→VR M' (Ow (Fs w0 O0) M') w' d v:=by
 have hBF:=Fc hB
 have hBb:=Dj hBF
 have hne:FK+F≠B:=fk_ne hF hBF
 let M':Mp:=⟨M.β,fun x=>match Nat.ble BIG x with
  | true=>if unF x=F then N.γ x else M.γ x
  | false=>if x=B then N.γ B else if x=FK+F then some none else M.γ x⟩
 have mB:M'.γ B=N.γ B:=by simp [M',hBb]
 have mF:M'.γ (FK+F)=some none:=by simp [M',fk_lo hF,hne]
 have mI:∀ i,M'.γ (inn F i)=N.γ (inn F i):=fun i=>by
  have e:∀ x,Nat.ble BIG x=true→unF x=F→M'.γ x=N.γ x:=fun x h1 h2=>by simp [M',h1,h2]
  exact e _ (Ko F i) (by rw [Mw,Nat.mod_eq_of_lt hF])
 have mG:∀ x,Nat.ble BIG x=true→unF x≠F→M'.γ x=M.γ x:=fun x h1 h2=>by simp [M',h1,h2]
 have mL:∀ x,Nat.ble BIG x=false→x≠B→x≠FK+F→M'.γ x=M.γ x:=fun x h1 h2 h3=>by simp [M',h1,h2,h3]
 have hfi:∀ k,M.γ (inn F k)=none:=fun k=>h.rown _ (by rw [PS.r_hi _ (Ko F k),PS.inn_r,Aaa hF,hfn]; rfl)
 have cases4:∀ x y,M'.γ x=some y→N.γ x=some y∨(M.γ x=some y∧x≠FK+F)∨(x=FK+F∧y=none):=fun x y hx=>by
  cases hb:Nat.ble BIG x with
  | true=>
   by_cases hu:unF x=F
   ·have:M'.γ x=N.γ x:=by simp [M',hb,hu]
    rw [this] at hx; exact .inl hx
   rw [mG x hb hu] at hx
   exact .inr (.inl ⟨hx,fun e=>by rw [e,fk_lo hF] at hb; cases hb⟩)
  | false=>
   by_cases h1:x=B
   ·rw [h1,mB] at hx; rw [h1]; exact .inl hx
   by_cases h2:x=FK+F
   ·rw [h2,mF] at hx; cases hx; exact .inr (.inr ⟨h2,rfl⟩)
   rw [mL x hb h1 h2] at hx; exact .inr (.inl ⟨hx,h2⟩)
 have hown:∀ k,M'.owned k→M.owned k∨N.owned k:=by
  rintro k (⟨x,hx⟩ | ⟨r,c,z,hr⟩)
  ·exact .inl (.inl ⟨x,hx⟩)
  rcases cases4 r _ hr with h1 | ⟨h1,_⟩ | ⟨_,h1⟩
  ·exact .inr (.inr ⟨r,c,z,h1⟩)
  ·exact .inl (.inr ⟨r,c,z,h1⟩)
  cases h1
 have hA0:∀ f k,k<w.heap.size→Ow (Fs w0 O0) M f k→Ow (Fs w0 O0) M' f k∧k<w'.heap.size∧w'.heap[k]? = w.heap[k]?:=fun f k h1 h2=>
  ⟨⟨fun h3=>by rcases hown k h3 with h4 | h4; exact h2.1 h4; have:=hN.low k h4; omega,h2.2⟩,by have:=hN.size; omega,hN.block k h1⟩
 have hA1:∀ f k,k<w'.heap.size→A f k→Ow (Fs w0 O0) M' f k∧k<w'.heap.size∧w'.heap[k]? = w'.heap[k]?:=fun f k h1 h2=>
  ⟨⟨fun h3=>by rcases hown k h3 with h4 | h4; exact (hA f k h1 h2).1.2 h4; exact (hA f k h1 h2).1.1 h4,(hA f k h1 h2).2⟩,h1,rfl⟩
 have hγ:∀ x y,(Nat.beq x B || !Ha x)=false→M'.γ x=some y→M.γ x=some y:=fun x y h1 h2=>by
  rw [Bool.or_eq_false_iff] at h1
  have hn:Ha x=true:=by simpa using h1.2
  rw [mL x (Dj hn) (fun e=>by rw [e,Nat.beq_refl] at h1; cases h1.1) (fun e=>fk_ne hF hn e.symm)] at h2
  exact h2
 have hbf:(Nat.beq BIG B || !Ha BIG)=true:=by
  have:Ha BIG=false:=by decide
  rw [this]; simp
 have oldrow:∀ x e p,PS.r ⟨tm,rw',bx⟩ x=some (e,p)→M'.γ x=M.γ x→RowAt (Fs w0 O0) M' w' x e p:=fun x e p hx hm=>by
  rcases h.row x e p hx with ⟨g1,g2⟩ | ⟨g,cap,cur,g1,g2,g3,g4,g5,g6⟩
  ·exact .inl ⟨hm.trans g1,g2⟩
  have hlt:=(Array.getElem?_eq_some_iff.1 g2).1
  refine .inr ⟨g,cap,cur,hm.trans g1,(hN.block g hlt).trans g2,g3,g4,g5,fun i j d hi hd=>(g6 i j d hi hd).relem_any2 hd hA0 fun G hG k y hy=>?_⟩
  rcases Yr hl hx hG with h1 | ⟨h1,h2⟩
  ·rw [h1,h9] at hx; cases hx
  rw [mG _ (Ko G k) (by rw [Mw,Nat.mod_eq_of_lt h2]; exact h1)] at hy; exact hy
 have hPS:∀ x,PS.r ⟨tm,(B,some (et,dR F q))::(FK+F,some (te,dF q))::rw',bx⟩ x=match Nat.ble BIG x with | true=>(if unF x=F then famr (some (some (te,dF q))) (unK x) else PS.r ⟨tm,rw',bx⟩ x) | false=>if x=B then some (et,dR F q) else if x=FK+F then some (te,dF q) else PS.r ⟨tm,rw',bx⟩ x:=fun x=>by
  rw [PS.r_app (s:=⟨tm,rw',bx⟩) (s':=⟨tm,(B,some (et,dR F q))::(FK+F,some (te,dF q))::rw',bx⟩) (l:=[(B,some (et,dR F q)),(FK+F,some (te,dF q))]) rfl,To,To]
  cases hbx:Nat.ble BIG x with
  | true=>
   have h1:B≠FK+unF x:=fun e=>by have:=Rp x; rw [←e,hBF] at this; cases this
   by_cases hu:unF x=F
   ·simp [hu,Ne.symm hne]
   simp [hu,Ne.symm hu,h1]
  | false=>
   by_cases hx:B=x
   ·subst hx; simp
   by_cases hxf:FK+F=x
   ·rw [←hxf,if_neg (Ne.symm hne),if_pos rfl,if_neg hne,if_pos rfl]
   simp [hx,hxf,Ne.symm hx,Ne.symm hxf]
 refine ⟨M',⟨?_,h.dfr,h.sz,fun t=>?_,fun x ds hx=>?_,fun x hx=>h.boxn x hx,fun x e p hx=>?_,fun x hx=>?_,fun k hk=>?_,h.inj1,fun x y k c z c' z' h1 h2=>?_,fun x y k c z h1 h2=>?_,h.nle,h.fxb,fun x u u' h1 h2=>?_⟩,fun d v hd hv=>?_⟩
 ·exact h.fr.step hN.os hN.tape hN.output hN.size fun k h1 _=>hN.block k (Nat.lt_of_lt_of_le h1 h.fr.size)
 ·exact VR.new (b:=fun _=>false) (r:=fun r=>Nat.beq r B || !Ha r) hA0 hγ (fun _ _ _ h=>h) (hf.t t) (h.tmp t) (hi:=fun h0=>by rw [hbf] at h0; cases h0)
 ·obtain ⟨k,cur',e',h1,h2,h3,h4⟩:=h.box x ds hx
  have hlt:=(Array.getElem?_eq_some_iff.1 h2).1
  exact ⟨k,cur',e',h1,(hN.block k hlt).trans h2,h3,fun j d hd=>VR.newS (b:=fun _=>false) (r:=fun r=>Nat.beq r B || !Ha r) hA0 hγ (fun _ _ _ h=>h) (hf.b _ _ hx d (List.mem_of_getElem? hd)) (h4 j d hd) (hi:=fun h0=>by rw [hbf] at h0; cases h0)⟩
 ·rw [hPS] at hx
  cases hbx:Nat.ble BIG x with
  | true=>
   rw [hbx] at hx
   by_cases hu:unF x=F
   ·have hxe:x=inn F (unK x):=by rw [←hu]; exact (Abi hbx).symm
    simp only [hu,if_true] at hx
    rw [famr_dF hq] at hx
    generalize unK x=k0 at hx hxe
    split at hx
    ·rename_i hk
     cases hx
     rw [hxe]
     rcases hN.inner _ hk with ⟨g1,g2⟩ | ⟨g,cap,cur,g1,g2,g3,g4,g5,g6⟩
     ·exact .inl ⟨(mI _).trans g1,g2⟩
     refine .inr ⟨g,cap,cur,(mI _).trans g1,g2,g3,g4,g5,fun i j d hi hd=>?_⟩
     have hd2:=hd
     rw [Sq.relem_eq (nn_refs q _)] at hd2
     exact (g6 i j d hi hd).elem_any hd2 hA1
    cases hx
   simp only [hu,if_false] at hx
   exact oldrow x e p hx (mG x hbx hu)
  | false=>
   rw [hbx] at hx
   simp only at hx
   split at hx
   ·rename_i hxB
    cases hx
    subst hxB
    rcases hN.outer with ⟨g1,g2⟩ | ⟨g,cap,cur,g1,g2,g3,g4,g5,g6⟩
    ·exact .inl ⟨mB.trans g1,by rw [Ru]; exact g2⟩
    refine .inr ⟨g,cap,cur,by rw [mB,dR_sz]; exact g1,g2,by rw [Ru]; exact g3,g4,by rw [dR_sz]; exact g5,fun i j d hi hd=>?_⟩
    rw [Ru] at hi
    rw [dR_sz]
    have hv:=g6 i j d hi hd
    rcases dR_relem hq hi hd with ⟨rfl,_⟩ | ⟨y,rfl,_⟩
    ·exact hv.irow_mv fun y hy=>by rw [mI] at hy; exact hy
    rw [hv.int_inv]; exact .int _
   rename_i hxB
   split at hx
   ·rename_i hxf
    cases hx
    rw [hxf]
    exact .inl ⟨mF,dF_len q⟩
   rename_i hxf
   exact oldrow x e p hx (mL x hbx hxB hxf)
 ·rw [hPS] at hx
  cases hbx:Nat.ble BIG x with
  | true=>
   rw [hbx] at hx
   by_cases hu:unF x=F
   ·have hxe:x=inn F (unK x):=by rw [←hu]; exact (Abi hbx).symm
    simp only [hu,if_true] at hx
    rw [famr_dF hq] at hx
    split at hx
    ·cases hx
    rename_i hk
    rw [hxe,mI]
    refine hN.none _ (fun e=>by have:=Ko F (unK x); rw [e,hBb] at this; cases this) fun i hi e=>hk ?_
    rw [(inn_inj e).2]; exact hi
   simp only [hu,if_false] at hx
   rw [mG x hbx hu]; exact h.rown x hx
  | false=>
   rw [hbx] at hx
   simp only at hx
   split at hx
   ·cases hx
   rename_i hxB
   split at hx
   ·cases hx
   rename_i hxf
   rw [mL x hbx hxB hxf]; exact h.rown x hx
 ·rcases hown k hk with h1 | h1
  ·exact h.low k h1
  exact .inl (Nat.le_trans h.fr.size (hN.low k h1))
 ·have hx:∀ r r' k c z c' z',M.γ r=some (some (k,c,z))→N.γ r'=some (some (k,c',z'))→False:=fun r r' k c z c' z' a1 a2=>by
   have:=h.lt _ (.inr ⟨r,c,z,a1⟩); have:=hN.low _ (.inr ⟨r',c',z',a2⟩); omega
  rcases cases4 x _ h1 with g1 | ⟨g1,_⟩ | ⟨_,g1⟩
  ·rcases cases4 y _ h2 with g2 | ⟨g2,_⟩ | ⟨_,g2⟩
   ·exact hN.inj _ _ _ _ _ _ _ g1 g2
   ·exact (hx _ _ _ _ _ _ _ g2 g1).elim
   cases g2
  ·rcases cases4 y _ h2 with g2 | ⟨g2,_⟩ | ⟨_,g2⟩
   ·exact (hx _ _ _ _ _ _ _ g1 g2).elim
   ·exact h.inj2 _ _ _ _ _ _ _ g1 g2
   cases g2
  cases g1
 ·rcases cases4 y _ h2 with g2 | ⟨g2,_⟩ | ⟨_,g2⟩
  ·have:=h.lt _ (.inl ⟨x,h1⟩); have:=hN.low _ (.inr ⟨y,c,z,g2⟩); omega
  ·exact h.inj3 _ _ _ _ _ h1 g2
  cases g2
 ·obtain ⟨h3,h4⟩:=O0.lor x u h1
  have hb1:Nat.ble BIG x=false:=by
   cases hb:Nat.ble BIG x with
   | false=>rfl
   | true=>have:=Nat.le_of_ble_eq_true hb; omega
  by_cases hxf:x=FK+F
  ·rw [hxf] at h1; exact absurd h1 (hO u)
  rw [mL x hb1 (by omega) hxf] at h2; exact h.fxr x u u' h1 h2
 refine VR.new (b:=fun _=>true) (r:=fun r=>!Nat.beq r B) hA1 (fun x y h1 h2=>?_) (fun x k hx=>by simp at hx) hd hv (hi:=fun h0=>?_)
 ·have:x=B:=Nat.eq_of_beq_eq_true (by simpa using h1)
  rw [this,mB] at h2; rw [this]; exact h2
 have:BIG=B:=Nat.eq_of_beq_eq_true (by simpa using h0)
 rw [←this] at hBb
 exact absurd hBb (by decide)
theorem oCallD (F:Nat) {f:FuncId} {args:Array Operand} {ts:Array TypeId} {ds:List D} {et te:TypeId} {q:Sq} {d d':D} (hp:PCallD C.P f ds et te q d) (hg:o.guard=none) (hop:o.op=.call { callee:=.value (.func f),args:=args,argTypes:=ts }) {b:Nat} (hd:o.dst=some b) (hn:Nat.blt b C.n=true) (hno:(ds.all Kx)=true)
  (hm:Ez (fun _=>true) (fun r=>!Nat.beq r (Es b)) (ren id (fun j=>Es b+j) d)=false) (hx:(fcD (ren id (fun j=>Es b+j) d) some)=some d') (hf:frB ⟨tm,rw',bx⟩ (fun _=>false) (fun r=>Nat.beq r (Es b) || !Ha r)=true) (hl:lone ⟨tm,rw',bx⟩ 999999 F=true) (h9:PS.r ⟨tm,rw',bx⟩ 999999=none) (hfn:PS.r ⟨tm,rw',bx⟩ (FK+F)=none) (hO:∀ u,C.O0.fr (FK+F)≠some u) (hfit:fits ⟨tm,rw',bx⟩ args.toList ds)
  (h:VO C ops K rest ⟨(b,d')::tm,(Es b,some (et,dR F q))::(FK+F,some (te,dF q))::rw',bx⟩) (hF:Nat.blt F 4294967296=true:=by rfl):VO C ops K (o::rest) ⟨tm,rw',bx⟩:=by
 refine vOp hg ⟨fun M a w Q K' hr hk=>?_⟩
 rw [Nat.blt_eq] at hF
 rw [Jl] at hx
 cases hx
 have hb1000:b<1000:=by have:=hr.nle; rw [Nat.blt_eq] at hn; omega
 have hrun:(execOp a.eval o).run C.P w=.ok (.enter f (args.map a.eval)) w:=by
  have:=hp.enter (args.map a.eval) w
  unfold execOp
  rw [hop]
  show ((do let d ←resolve a.eval _ o.type; invoke d.target d.args:Sem Next)).run C.P w=_
  simp only [resolve]
  show ((callFunc f ((#[]++args.map a.eval)++#[])):Sem Next).run C.P w=_
  rw [show (#[]++args.map a.eval)++#[]=args.map a.eval by simp]
  exact this
 unfold Oper.wp
 rw [hrun]
 refine (hp.run w _ (Zk hr hfit hno)).mono ?_
 rintro e w' ⟨v,rfl,hB⟩
 obtain ⟨N,hN,hv⟩:=hB (Es b) F (by simp only [Es]; omega) hF
 obtain ⟨M',h1,h2⟩:=hr.newDeep hp.deep hN hF (by simp only [Es]; omega) (fun f k hk hA=>⟨⟨hA.2,fun ho=>by have:=hr.lt k ho; have:=hA.1; omega⟩,.inl (Nat.le_trans hr.fr.size hA.1)⟩) (Lv hf) hl h9 hfn hO
 refine hk M' _ _ _ h ?_
 rw [hd]
 exact h1.put (o:=some b) hn (h2 _ _ hm hv)
end
end
section
open Go.RowKit Go.Deep
theorem mentA_ne {b r:Nat→Bool} {d:D} (h:∀ l,d≠.agg l):Cf b r d=Bn b r d:=by cases d <;> first | rfl | exact absurd rfl (h _)
theorem ment_ne {b r:Nat→Bool} {d:D} (h:∀ l,d≠.tup l):Ez b r d=Cf b r d:=by cases d <;> first | rfl | exact absurd rfl (h _)
theorem renA_ne {τ σ:Nat→Nat} {d:D} (h:∀ l,d≠.agg l):renA τ σ d=renS τ σ d:=by cases d <;> first | rfl | exact absurd rfl (h _)
theorem ren_ne {τ σ:Nat→Nat} {d:D} (h:∀ l,d≠.tup l):ren τ σ d=renA τ σ d:=by cases d <;> first | rfl | exact absurd rfl (h _)
theorem renS_agg {τ σ:Nat→Nat} (d:D):∀ l,renS τ σ d≠.agg l:=by cases d <;> intro l h <;> cases h
theorem renA_tup {τ σ:Nat→Nat} (d:D):∀ l,renA τ σ d≠.tup l:=by cases d <;> intro l h <;> cases h
theorem ment_one {B:Nat}:∀ d:D,Ez (fun _=>true) (fun j=>!Nat.blt j 1) d=false→Ez (fun _=>true) (fun r=>!Nat.beq r B) (ren id (fun j=>B+j) d)=false:=by
 have keyS:∀ d:D,Bn (fun _=>true) (fun j=>!Nat.blt j 1) d=false→Bn (fun _=>true) (fun r=>!Nat.beq r B) (renS id (fun j=>B+j) d)=false:=fun d hd=>by
  cases d <;> simp only [Bn,renS] at hd ⊢ <;> try (first | exact hd | rfl)
  ·rename_i x _ _
   have h1:x<1:=by simpa using hd
   have:x=0:=by omega
   subst this; simp [Nat.beq_refl]
  ·rename_i x _ _
   have h1:x<1:=by simpa using hd
   have:x=0:=by omega
   subst this; simp [Nat.beq_refl]
  ·rename_i f bs
   simpa using hd
  ·exact absurd hd (by decide)
  exact absurd hd (by decide)
 have keyA:∀ d:D,Cf (fun _=>true) (fun j=>!Nat.blt j 1) d=false→Cf (fun _=>true) (fun r=>!Nat.beq r B) (renA id (fun j=>B+j) d)=false:=fun d hd=>by
  by_cases ha:∃ l,d=.agg l
  ·obtain ⟨l,rfl⟩:=ha
   simp only [Cf,renA,List.any_eq_false,List.mem_map] at hd ⊢
   rintro x ⟨y,hy,rfl⟩
   have:=keyS y (by simpa using hd y hy)
   simp [this]
  have hne:∀ l,d≠.agg l:=fun l e=>ha ⟨l,e⟩
  rw [mentA_ne hne] at hd
  rw [renA_ne hne,mentA_ne (renS_agg d)]
  exact keyS d hd
 intro d hd
 by_cases ha:∃ l,d=.tup l
 ·obtain ⟨l,rfl⟩:=ha
  simp only [Ez,ren,List.any_eq_false,List.mem_map] at hd ⊢
  rintro x ⟨y,hy,rfl⟩
  have:=keyA y (by simpa using hd y hy)
  simp [this]
 have hne:∀ l,d≠.tup l:=fun l e=>ha ⟨l,e⟩
 rw [ment_ne hne] at hd
 rw [ren_ne hne,ment_ne (renA_tup d)]
 exact keyA d hd
def RetPD (TT:List (Nat×Ty)) (res:List ResultVar) (et te:TypeId) (q:Sq) (d:D):Exit→PS→Prop:=fun e s=>match e with
 | .normal | .ret=>∃ R F d',Nat.blt F 4294967296=true∧retD TT s res=some d'∧s.r R=some (et,dR F q)∧s.r (FK+F)=some (te,dF q)∧Ha R=true∧Wk d' (ren id (fun _=>R) d)∧okD 1 d=true
 | _=>False
theorem pcallD_intro {P:Program} {f:FuncId} {fn:Func} {c:Code} {TT:List (Nat×Ty)} {ds:List D} {et te:TypeId} {q:Sq} {d:D} {n:Nat} {res:List ResultVar} (hT:Pd P TT) (hf:P.funcs[f]? = some fn) (hb:fn.body=some c)
  (hname : (fn.name == "runtime.NumGoroutine") = false) (hn : fn.ntmps = n) (hres : fn.results.toList = res) (hds : Nat.ble ds.length n = true) (hno : (ds.all fun d => Kx d && nwD false d) = true) (hq : q.deep = true)
  (h:∀ w0,VC ⟨P,w0,Hd.no,n⟩ c (RetPD TT res et te q d) ⟨entL 0 ds,[],[]⟩) (hn1000:Nat.ble n 1000=true:=by rfl):PCallD P f ds et te q d:=by
 subst hn hres
 refine ⟨Qo hf hname (by simp [hb]),hq,fun w0 args ⟨hsz,hargs⟩=>?_⟩
 have hle:=Nat.le_of_ble_eq_true hds
 have hent:Rel w0 Hd.no fn.ntmps M0 ⟨entL 0 ds,[],[]⟩ { tmps:=args++Array.replicate (fn.ntmps-args.size) undef,defers:=[] } w0:=by
  refine ⟨⟨rfl,rfl,rfl,Nat.le_refl _,fun _ _ _=>rfl⟩,rfl,by simp; omega,fun t=>?_,fun b cs hb=>by simp [PS.b,Bk] at hb,fun _ _=>rfl,fun r e q hr=>(by rw [r_ent] at hr; cases hr),fun _ _=>rfl,?_,by simp,by simp,by simp,Nat.le_of_ble_eq_true hn1000,by simp,by simp⟩
  ·simp only [PS.t,Rm,Nat.zero_le,if_true,Nat.sub_zero]
   cases hd:ds[t]? with
   | none=>exact .dead _
   | some d0=>
    have hlt:t<args.size:=by rw [hsz]; exact (List.getElem?_eq_some_iff.1 hd).1
    have h1:=hargs t d0 hd
    have h2:(args++Array.replicate (fn.ntmps-args.size) undef).getD t undef=args.getD t undef:=by
     simp [Array.getElem?_append_left hlt]
    rw [h2]
    have h4:=(List.all_eq_true.1 hno) d0 (List.mem_of_getElem? hd)
    simp only [Bool.and_eq_true] at h4
    refine VR.new (b:=fun _=>true) (r:=fun _=>true) (A:=fun f _=>True∧f=false) (fun f b hb hf=>⟨⟨?_,.inr hf.2⟩,hb,rfl⟩) (fun x y hx=>by simp at hx) (fun x y hx=>by simp at hx) ?_ (h1.flag h4.2)
    ·simpa [Kx] using h4.1
    rintro (⟨x,hx⟩ | ⟨x,c,z,hx⟩) <;> simp at hx
  rintro k (⟨x,hx⟩ | ⟨x,c,z,hx⟩) <;> simp at hx
 refine calls_of_wp hf hb (Code.wp_mono ?_ ((h w0).out M0 _ w0 hent))
 rintro e a' w' ⟨s',M',hqq,hr⟩
 have fin:∀ (hq':∃ R F d',Nat.blt F 4294967296=true∧retD TT s' fn.results.toList=some d'∧s'.r R=some (et,dR F q)∧s'.r (FK+F)=some (te,dF q)∧Ha R=true∧Wk d' (ren id (fun _=>R) d)∧okD 1 d=true),
   a'.defers=[]∧∃ v,(results fn a'.tmps).run P w'=.ok v w'∧∃ v',Ending.returned v=.returned v'∧∀ B F,B≤500000→F<4294967296→∃ N,NewD N (Rs w0 N) w0 w' B F et te q∧VR N (Rs w0 N) w' (ren id (fun j=>B+j) d) v':=by
  rintro ⟨R,F0,d',hF0,h1,hR,hf0,hFR,h4,h5⟩
  rw [Nat.blt_eq] at hF0
  obtain ⟨v,h6,h7⟩:=ret_ok hT hr h1
  replace h7:=h7.wk h4
  refine ⟨hr.dfr,v,h6,v,rfl,fun B F hB0 hF=>?_⟩
  have hB:B<1000000:=by omega
  have hBb:=Dj (Fc hB)
  simp only [okD,Bool.and_eq_true,Bool.not_eq_true'] at h5
  obtain ⟨⟨k1,k2⟩,k3⟩:=h5
  let M1:Mp:=⟨fun _=>none,fun j=>if j=0 then M'.γ R else none⟩
  let N:Mp:=⟨fun _=>none,fun y=>if y=B then M'.γ R else if Nat.ble BIG y=true∧unF y=F∧unK y<q.len then M'.γ (inn F0 (unK y)) else none⟩
  have nB:N.γ B=M'.γ R:=by simp [N]
  have nI:∀ i,i<q.len→N.γ (inn F i)=M'.γ (inn F0 i):=fun i hi=>by
   have e:∀ x,x≠B→(Nat.ble BIG x=true∧unF x=F∧unK x<q.len)→N.γ x=M'.γ (inn F0 (unK x)):=fun x h1 h2=>by simp [N,h1,h2]
   have:=e (inn F i) (fun e=>by have:=Ko F i; rw [e,hBb] at this; cases this) ⟨Ko F i,by rw [Mw,Nat.mod_eq_of_lt hF],by rw [Rg]; exact hi⟩
   rwa [Rg] at this
  have nC:∀ y z,N.γ y=some z→(y=B∧M'.γ R=some z)∨∃ i,i<q.len∧y=inn F i∧M'.γ (inn F0 i)=some z:=fun y z hy=>by
   by_cases hyB:y=B
   ·rw [hyB,nB] at hy; exact .inl ⟨hyB,hy⟩
   simp only [N,hyB,if_false] at hy
   split at hy
   ·rename_i hc
    exact .inr ⟨_,hc.2.2,by rw [←hc.2.1]; exact (Abi hc.1).symm,hy⟩
   cases hy
  have hNo:∀ k,N.owned k→M'.owned k:=by
   rintro k (⟨b,hb⟩ | ⟨y,c,z,hy⟩)
   ·cases hb
   rcases nC y _ hy with ⟨_,h1⟩ | ⟨i,_,_,h1⟩
   ·exact .inr ⟨_,c,z,h1⟩
   exact .inr ⟨_,c,z,h1⟩
  have hlow:∀ k,M'.owned k→w0.heap.size≤k:=fun k hk=>(hr.low k hk).resolve_right (fun h=>h)
  have hA:∀ f b,b<w'.heap.size→(Ow (Fs w0 Hd.no) M' f b∧f=true)→Rs w0 N f b∧b<w'.heap.size∧w'.heap[b]? = w'.heap[b]?:=fun f b hb hh=>
   ⟨⟨hh.1.2.resolve_right (fun h=>by rw [hh.2] at h; cases h),fun ho=>hh.1.1 (hNo b ho)⟩,hb,rfl⟩
  have hdeep:=deep_r hF0 hq hf0
  have hRb:=Dj hFR
  refine ⟨N,⟨hr.fr.os,hr.fr.tape,hr.fr.output,hr.fr.size,fun k hk=>hr.fr.block k hk (fun h=>h),fun _=>rfl,?_,fun i hi=>?_,fun x hx hxi=>?_,fun k hk=>hlow k (hNo k hk),fun r r' k c z c' z' a1 a2=>?_⟩,?_⟩
  ·rcases hr.row _ _ _ hR with ⟨b1,b2⟩ | ⟨g,cap,cur,b1,b2,b3,b4,b5,b6⟩
   ·exact .inl ⟨nB.trans b1,by rw [Ru] at b2; exact b2⟩
   rw [Ru] at b3 b6
   rw [dR_sz] at b1 b5 b6
   refine .inr ⟨g,cap,cur,nB.trans b1,b2,b3,b4,b5,fun i j d0 hi hd=>?_⟩
   rcases dR_relem hq hi hd with ⟨rfl,hro⟩ | ⟨y,rfl,hro⟩
   ·have:((dR F0 q).relem i)[j]? = some (.irow F0 i (q.nn i).len):=by
     rcases Wy (F:=F0) hq hi (hro true) with ⟨_,h2⟩ | ⟨y,h2,_⟩
     ·exact h2
     cases h2
    exact (b6 i j _ hi this).irow_mv fun y hy=>by rw [nI i hi] at hy; exact hy
   have:((dR F0 q).relem i)[j]? = some (.int y):=by
    rcases Wy (F:=F0) hq hi (hro true) with ⟨h2,_⟩ | ⟨y',h2,h3⟩
    ·cases h2
    cases h2; exact h3
   rw [(b6 i j _ hi this).int_inv]; exact .int _
  ·have hin:=hdeep i
   rw [if_pos hi] at hin
   rcases hr.row _ _ _ hin with ⟨b1,b2⟩ | ⟨g,cap,cur,b1,b2,b3,b4,b5,b6⟩
   ·exact .inl ⟨(nI i hi).trans b1,b2⟩
   refine .inr ⟨g,cap,cur,(nI i hi).trans b1,b2,b3,b4,b5,fun i' j d0 hi' hd=>?_⟩
   have h8:=b6 i' j d0 hi' hd
   rw [Sq.relem_eq (nn_refs q i)] at hd
   have hfl:nwS true d0=true∧Me d0 d0:=Tv true (q.nn i) i' j d0 hd
   exact (h8.flagE (M':=M') hfl.2 hfl.1).elem_any hd hA
  ·cases hx':N.γ x with
   | none=>rfl
   | some z=>
    rcases nC x z hx' with ⟨h1,_⟩ | ⟨i,h1,h2,_⟩
    ·exact absurd h1 hx
    exact absurd h2 (hxi i h1)
  ·rcases nC r _ a1 with ⟨e1,b1⟩ | ⟨i,i1,e1,b1⟩
   ·rcases nC r' _ a2 with ⟨e2,b2⟩ | ⟨i',i2,e2,b2⟩
    ·rw [e1,e2]
    have:=hr.inj2 _ _ _ _ _ _ _ b1 b2
    have h9:=Ko F0 i'
    rw [←this,hRb] at h9; cases h9
   rcases nC r' _ a2 with ⟨e2,b2⟩ | ⟨i',i2,e2,b2⟩
   ·have:=hr.inj2 _ _ _ _ _ _ _ b1 b2
    have h9:=Ko F0 i
    rw [this,hRb] at h9; cases h9
   have:=hr.inj2 _ _ _ _ _ _ _ b1 b2
   rw [e1,e2,(inn_inj this).2]
  have h8:VR M1 (Ow (Fs w0 Hd.no) M') w' d v:=VR.unren (M':=M') (A':=Ow (Fs w0 Hd.no) M') (τ:=id) (σ:=fun _=>R) (fun r x hx=>by
   simp only [M1] at hx
   split at hx
   ·exact hx
   ·cases hx) (fun b k hb=>by simp [M1] at hb) (fun _ _ _ h=>h) k2 h7 (hi:=fun r x hr1 hx=>by
   simp only [M1] at hx
   split at hx
   ·rename_i h0
    subst h0
    exact absurd hr1 (by decide)
   cases hx)
  have hbk:∀ r x,BIG≤r→M1.γ r=some x→False:=fun r x hr1 hx=>by
   simp only [M1] at hx
   split at hx
   ·rename_i h0; subst h0; exact absurd hr1 (by decide)
   cases hx
  have hment:Ez (fun _=>true) (fun j=>!Nat.blt j 1) d=false:=k1
  have h9:VR N (Rs w0 N) w' (ren id (fun j=>B+j) d) v:=by
   let N1:Mp:=⟨fun _=>none,fun y=>if y=B then M'.γ R else none⟩
   have h10:VR N1 (Rs w0 N) w' (ren id (fun j=>B+j) d) v:=VR.ren (M:=M1) hA (fun r x hx=>by
    simp only [N1] at hx
    split at hx
    ·rename_i h0
     have:r=0:=by omega
     simp only [M1,this,if_true]
     exact hx
    ·cases hx) (fun b k hb=>by simp [N1] at hb) (h8.flag k3) (hi:=fun r x hr1 hx=>by
    simp only [N1] at hx
    split at hx
    ·rename_i h0
     rw [←h0,Nat.ble_eq_true_of_le hr1] at hBb; cases hBb
    cases hx)
   have hm2:Ez (fun _=>true) (fun r=>!Nat.beq r B) (ren id (fun j=>B+j) d)=false:=ment_one d hment
   refine VR.new (b:=fun _=>true) (r:=fun r=>!Nat.beq r B) (fun f b hb ha=>⟨ha,hb,rfl⟩) (fun x y hx hy=>?_) (fun x k hx=>by simp at hx) hm2 h10 (hi:=fun h0=>?_)
   ·have:x=B:=Nat.eq_of_beq_eq_true (by simpa using hx)
    rw [this,nB] at hy
    simp only [N1,this,if_true]; exact hy
   have:BIG=B:=Nat.eq_of_beq_eq_true (by simpa using h0)
   rw [←this] at hBb; exact absurd hBb (by decide)
  exact h9
 cases e with
 | normal=>exact fin hqq
 | ret=>exact fin hqq
 | _=>exact hqq.elim
end
section
open Go.RowKit Go.Deep
theorem idr_snoc (X:List (Int×List Int)) (p:Int) (c:List Int):idr (X++[(p,c)])=idr X++[(p,X.length,c.length)]:=by simp [idr,List.zipIdx_append]
theorem appR (F:Nat) (X:List (Int×List Int)) (p:Int) (c:List Int):(dR F (.raises X)).app (.rrefs F [(p,X.length,c.length)])=some (dR F (.raises (X++[(p,c)]))):=by simp [dR,Sq.app,Nat.beq_refl,idr_snoc]
theorem pushR (X:List (Int×List Int)) (p:Int) (c:List Int):(Fq.ints (X.map fun x=>some x.2)).push (.ints c)=some (.ints ((X++[(p,c)]).map fun x=>some x.2)):=by simp [Fq.push]
section
variable {C:Cx} {ops:Array Oper} {K:PS→Prop} {o:Oper} {rest:List Oper} {s:PS} {TT:List (Nat×Ty)} {tm:List (Nat×D)} {rw':List (Nat×Option (TypeId×Sq))} {bx:List (Nat×Option (List D))} {cr B:List Nat} {j:Nat}
theorem oAppendD (q':Sq) (hT:Pd C.P TT) (hg:o.guard=none) {t e:TypeId} {k q qb:Sq} {by' b R F m m':Nat} {x y:Operand} {dy:D} {ob:Prop} (hop:o.op=.call { callee:=.builtin .append,args:=#[x,y],argTypes:=#[t,t] }) (hd:o.dst=some b) (hy:Bk TT t=some (.sl e k by'))
  (hx:(PS.ev ⟨tm,rw',bx⟩ x)=.row R 0 m) (hR:PS.r ⟨tm,rw',bx⟩ R=some (e,dR F q)) (hyy:(PS.ev ⟨tm,rw',bx⟩ y)=dy) (hs:Xf ⟨tm,rw',bx⟩ dy=some (ob,qb)) (hob:ob) (hk:Nat.beq k.sz q.sz=true) (hbb:Nat.ble by' 32=true) (hn:Nat.blt b C.n=true) (hlo:Nat.ble R 999999=true)
  (hm:m=q.len) (hm':m'=q'.len) {s':PS} (hnf:nf ⟨(b,.row R 0 m')::(PS.kill ⟨tm,rw',bx⟩ R).tmp,(R,some (e,dR F q'))::rw',(PS.kill ⟨tm,rw',bx⟩ R).box⟩=some s') (happ:(dR F q).app qb=some (dR F q')) (hbd:q.len+qb.len≤4294967296) (h:VO C ops K rest s'):VO C ops K (o::rest) ⟨tm,rw',bx⟩:=by
 subst hm'
 refine vOp hg (sAppend hT hop hd hy hx hR (by rw [dR_sz]; exact hk) hyy hs happ hbb hn (by rw [Ru]; exact hm) hob (by rw [Ru]; exact hbd) hlo ?_)
 rw [Ru]
 exact vNf hnf h
end
end
section
open Go.RowKit Go.Deep
section
variable {C:Cx} {tm:List (Nat×D)} {rw':List (Nat×Option (TypeId×Sq))} {bx:List (Nat×Option (List D))} {s':PS}
theorem En.adoptA (t p r R F:Nat) {n:Nat} {dl:List D} {et te:TypeId} {c q:Sq} {fq fq':Fq} (ht:PS.t ⟨tm,rw',bx⟩ t=.agg dl) (hp0:dl[p]? = some (.row r 0 n)) (hr:PS.r ⟨tm,rw',bx⟩ r=some (te,c)) (hn:n=c.len) (hf:PS.r ⟨tm,rw',bx⟩ (FK+F)=some (te,.fam fq)) (hR:PS.r ⟨tm,rw',bx⟩ R=some (et,dR F q))
  (hq:q.deep=true) (hlen:q.len=fq.len) (hp:fq.push c=some fq') (hl:lone ⟨tm,rw',bx⟩ R F=true) {dl':List D} (hd':dl'=(dl.map (klXS r)).set p (.irow F fq.len n))
  (hnf:nf ⟨(t,.agg dl')::(PS.killX ⟨tm,rw',bx⟩ r).tmp,(r,none)::(FK+F,some (te,.fam fq'))::rw',(PS.killX ⟨tm,rw',bx⟩ r).box⟩=some s') (hF:Nat.blt F 4294967296=true:=by rfl) (hr1:Nat.blt r 1000000=true:=by rfl) (hFR:Ha R=true:=by rfl) (hrR:Nat.beq r R=false:=by rfl):En C ⟨tm,rw',bx⟩ s':=⟨fun M a w h=>by
 rw [nf_ok hnf]
 rw [Nat.blt_eq] at hF hr1
 subst hn hd'
 have hne:r≠R:=fun e=>by subst e; rw [Nat.beq_refl] at hrR; cases hrR
 have hget:=Fq.get_push hp
 have hrn:=Fc hr1
 let g:Nat→Nat:=fun k=>if k=fq.len then r else inn F k
 have hinnr:∀ k,inn F k≠r:=fun k e=>by have:=Ko F k; rw [e,Dj hrn] at this; cases this
 have hown:∀ k,(Ws M r F fq' g).owned k→M.owned k:=by
  rintro k (⟨b,hb⟩ | ⟨y,c,z,hy⟩)
  ·exact .inl ⟨b,hb⟩
  simp only [Ws] at hy
  split at hy
  ·split at hy
   ·split at hy
    ·exact .inr ⟨_,c,z,hy⟩
    cases hy
   exact .inr ⟨_,c,z,hy⟩
  split at hy
  ·cases hy
  exact .inr ⟨_,c,z,hy⟩
 have hA:∀ f b,b<w.heap.size→Ow (Fs C.w0 C.O0) M f b→Ow (Fs C.w0 C.O0) (Ws M r F fq' g) f b∧b<w.heap.size∧w.heap[b]? = w.heap[b]?:=fun f b h1 h2=>⟨⟨fun h3=>h2.1 (hown b h3),h2.2⟩,h1,rfl⟩
 have hγ':∀ x y,x≠r→Ha x=true→(Ws M r F fq' g).γ x=some y→M.γ x=some y:=fun x y h1 h2 h3=>by rw [Mk _ _ _ _ _ (Dj h2) h1] at h3; exact h3
 have hgM:∀ k,k≠fq.len→∀ y,(Ws M r F fq' g).γ (inn F k)=some y→M.γ (inn F k)=some y:=fun k hk y hy=>by
  rw [Wl _ _ _ _ _ hF] at hy
  split at hy
  ·simpa [g,hk] using hy
  cases hy
 refine ⟨_,h.refam r R F hF (fq':=fq') g (yR:=some (et,dR F q)) hr1 hFR hne hf hl (fun k c' hc=>?_) (fun k k' c1 c2 h1 h2 h3=>?_) (fun k c' hc=>?_) (fun x=>?_) (fun e p hx=>?_) (fun hx=>by cases hx) (fun t'=>?_) fun b=>?_⟩
 ·rw [hget] at hc
  by_cases hk:k=fq.len
  ·rw [if_pos hk] at hc
   cases hc
   simp [g,hk,hr]
  rw [if_neg hk] at hc
  simp only [g,hk,if_false]
  rw [fam_r hF hf,hc]
 ·simp only [g] at h3
  split at h3 <;> split at h3
  ·omega
  ·exact absurd h3.symm (hinnr _)
  ·exact absurd h3 (hinnr _)
  exact (inn_inj h3).2
 ·by_cases hk:k=fq.len
  ·exact .inl (by simp [g,hk])
  exact .inr ⟨k,by simp [g,hk]⟩
 ·rw [PS.r_app (s:=⟨tm,rw',bx⟩) (l:=[(r,none),(FK+F,some (te,.fam fq'))]) rfl,To,To]
  cases hbx:Nat.ble BIG x with
  | true=>
   have h1:r≠FK+unF x:=fun e=>by have:=Rp x; rw [←e,hrn] at this; cases this
   simp only [h1,if_false]
   by_cases hu:unF x=F
   ·simp [hu]
   simp [hu,Ne.symm hu]
  | false=>
   simp only
   by_cases hxr:r=x
   ·simp [hxr]
   simp only [hxr,if_false,Ne.symm hxr]
   by_cases hxf:FK+F=x
   ·simp [hxf]
   simp only [hxf,if_false,Ne.symm hxf]
   by_cases hxR:x=R
   ·simp [hxR,hR]
   simp [hxR]
 ·cases hx
  rcases h.row _ _ _ hR with ⟨g1,g2⟩ | ⟨gg,cap,cur,g1,g2,g3,g4,g5,g6⟩
  ·exact .inl ⟨by rw [Mk _ _ _ _ _ (Dj hFR) (Ne.symm hne)]; exact g1,g2⟩
  refine .inr ⟨gg,cap,cur,by rw [Mk _ _ _ _ _ (Dj hFR) (Ne.symm hne)]; exact g1,g2,g3,g4,g5,fun i j d hi hd=>?_⟩
  have hv:=g6 i j d hi hd
  rw [Ru] at hi
  rcases dR_relem hq hi hd with ⟨rfl,_⟩ | ⟨x,rfl,_⟩
  ·exact hv.irow_mv (hgM i (by omega))
  rw [hv.int_inv]; exact .int _
 ·have hk:=PS.t_killX ⟨tm,rw',bx⟩ r t'
  by_cases htt:t=t'
  ·subst htt
   have:PS.t ⟨(t,.agg ((dl.map (klXS r)).set p (.irow F fq.len c.len)))::(PS.killX ⟨tm,rw',bx⟩ r).tmp,(r,none)::(FK+F,some (te,.fam fq'))::rw',(PS.killX ⟨tm,rw',bx⟩ r).box⟩ t=.agg ((dl.map (klXS r)).set p (.irow F fq.len c.len)):=by simp [PS.t,Ap]
   rw [this]
   have hv:=h.tmp t
   rw [ht] at hv
   generalize a.tmps.getD t undef=v at hv ⊢
   cases hv with
   | agg _ us hl hd=>
    refine .agg _ us (by simpa using hl) fun j d hj=>?_
    rw [List.getElem?_set] at hj
    by_cases hij:p=j
    ·subst hij
     have hlt:=(List.getElem?_eq_some_iff.1 hp0).1
     rw [if_pos rfl,if_pos (by simpa using hlt)] at hj
     cases hj
     refine (hd p _ hp0).irow_of fun x hx=>?_
     rw [Wl _ _ _ _ _ hF] at hx
     split at hx
     ·simpa [g] using hx
     cases hx
    rw [if_neg hij,List.getElem?_map] at hj
    obtain ⟨d0,hd0,rfl⟩:=Option.map_eq_some_iff.1 hj
    exact VR.klXS hA hγ' (fun _ _ h=>h) (hd j d0 hd0)
  have:PS.t ⟨(t,.agg ((dl.map (klXS r)).set p (.irow F fq.len c.len)))::(PS.killX ⟨tm,rw',bx⟩ r).tmp,(r,none)::(FK+F,some (te,.fam fq'))::rw',(PS.killX ⟨tm,rw',bx⟩ r).box⟩ t'=PS.t (PS.killX ⟨tm,rw',bx⟩ r) t':=by simp [PS.t,As htt]
  rw [this,hk]
  exact VR.klX hA hγ' (fun _ _ h=>h) (h.tmp t')
 exact PS.b_killX ⟨tm,rw',bx⟩ r b⟩
end
section
variable {C:Cx} {ops:Array Oper} {K:PS→Prop} {o:Oper} {rest:List Oper} {s:PS} {TT:List (Nat×Ty)} {tm:List (Nat×D)} {rw':List (Nat×Option (TypeId×Sq))} {bx:List (Nat×Option (List D))}
end
end
section
open Go.RowKit Go.Deep
section
variable {C:Cx} {ops:Array Oper} {K:PS→Prop} {o:Oper} {rest:List Oper} {TT:List (Nat×Ty)} {tm:List (Nat×D)} {rw':List (Nat×Option (TypeId×Sq))} {bx:List (Nat×Option (List D))} {cr B:List Nat} {j:Nat}
end
end
section
open Go.RowKit Go.Deep
theorem VR.str_inv {M:Mp} {A:Bool→Nat→Prop} {w:World} {b:ByteArray} {v:Value} (h:VR M A w (.val (.string b)) v):v=.string b:=by cases h; rfl
section
variable {C:Cx} {o:Oper} {s:PS}
theorem pStrEq {t u:TypeId} {x y:Operand} {a b:ByteArray} (hop:o.op=.binOp .eql t x y u) (hx:s.ev x=.val (.string a)) (hy:s.ev y=.val (.string b)):Pur C o s (.bool (a.toList==b.toList)):=
 ⟨fun s1 hs M ac w hr'=>by
  have h1:=hr'.ev x
  have h2:=hr'.ev y
  rw [hs x (by rw [hop]; simp [Op.operands]),hx] at h1
  rw [hs y (by rw [hop]; simp [Op.operands]),hy] at h2
  have e1:=h1.str_inv
  have e2:=h2.str_inv
  refine ⟨.bool (a.toList==b.toList),?_,.bool _⟩
  simp only [execOp,hop,e1,e2]
  simp [eqGuard,go_sem]⟩
theorem pStrNe {t u:TypeId} {x y:Operand} {a b:ByteArray} (hop:o.op=.binOp .neq t x y u) (hx:s.ev x=.val (.string a)) (hy:s.ev y=.val (.string b)):Pur C o s (.bool (!(a.toList==b.toList))):=
 ⟨fun s1 hs M ac w hr'=>by
  have h1:=hr'.ev x
  have h2:=hr'.ev y
  rw [hs x (by rw [hop]; simp [Op.operands]),hx] at h1
  rw [hs y (by rw [hop]; simp [Op.operands]),hy] at h2
  have e1:=h1.str_inv
  have e2:=h2.str_inv
  refine ⟨.bool (!(a.toList==b.toList)),?_,.bool _⟩
  simp only [execOp,hop,e1,e2]
  simp [eqGuard,go_sem]⟩
theorem Ky {t u:TypeId} {x y:Operand} {a b:ByteArray} (hop:o.op=.binOp .add t x y u) (hx:s.ev x=.val (.string a)) (hy:s.ev y=.val (.string b)) (hl:a.size+b.size≤9223372036854775807):Pur C o s (.val (.string (a++b))):=
 ⟨fun s1 hs M ac w hr'=>by
  have h1:=hr'.ev x
  have h2:=hr'.ev y
  rw [hs x (by rw [hop]; simp [Op.operands]),hx] at h1
  rw [hs y (by rw [hop]; simp [Op.operands]),hy] at h2
  have e1:=h1.str_inv
  have e2:=h2.str_inv
  refine ⟨.string (a++b),?_,.val _ rfl⟩
  have hg:¬ ((a.size+b.size:Nat):Int) > IntKind.i64.max:=by
   have:IntKind.i64.max=9223372036854775807:=by decide
   omega
  simp only [execOp,hop,e1,e2]
  simp [eqGuard,go_sem,Op.stringOp]
  omega⟩
end
end
section
open Go.RowKit Go.Deep
section
variable {C:Cx} {ops:Array Oper} {K:PS→Prop} {o:Oper} {rest:List Oper} {s:PS} {TT:List (Nat×Ty)} {tm:List (Nat×D)} {rw':List (Nat×Option (TypeId×Sq))} {bx:List (Nat×Option (List D))} {cr B:List Nat} {j:Nat}
theorem pConvU8 {src dst:TypeId} {x:Operand} {n:Int} {dsrc:TypeDesc} (hs:C.P.underlying src=some dsrc) (hd:C.P.underlying dst=some (.int .u8)) (hop:o.op=.convert src dst x) (hx:s.ev x=.int n):Pur C o s (.val (.int .u8 (n % 256))):=
 ⟨fun s1 hs1 M ac w hr'=>by
  have h1:=hr'.ev x
  rw [hs1 x (by rw [hop]; simp [Op.operands]),hx] at h1
  have e1:=h1.int_inv
  have hw:IntKind.u8.wrap n=n % 256:=by
   have h2:(2:Int) ^ IntKind.u8.bits=256:=by decide
   have h3:IntKind.u8.signed=false:=by decide
   simp only [IntKind.wrap,h2,h3,Bool.false_and,Bool.false_eq_true,if_false]
  refine ⟨.int .u8 (n % 256),?_,.val _ rfl⟩
  have hrun:(convert src dst (ac.eval x)).run C.P w=.ok (.int .u8 (n % 256)) w:=by
   rw [e1]
   cases dsrc <;> simp [convert,Go.run_underlying hs,Go.run_underlying hd,Conv.intToInt,go_sem,hw]
  unfold execOp
  rw [hop]
  show ((do pure (Next.value (←convert src dst (ac.eval x))):Sem Next)).run C.P w=_
  rw [Sem.run_bind,hrun]; rfl⟩
theorem pConvI {src dst:TypeId} {x:Operand} {n:Int} {dsrc:TypeDesc} (hs:C.P.underlying src=some dsrc) (hd:C.P.underlying dst=some (.int .i64)) (hop:o.op=.convert src dst x) (hx:s.ev x=.val (.int .u8 n)) (hn:0≤n∧n<256):Pur C o s (.int n):=
 ⟨fun s1 hs1 M ac w hr'=>by
  have h1:=hr'.ev x
  rw [hs1 x (by rw [hop]; simp [Op.operands]),hx] at h1
  have e1:ac.eval x=.int .u8 n:=by generalize ac.eval x=v at h1; cases h1; rfl
  have hw:IntKind.i64.wrap n=n:=by
   have h2:(2:Int) ^ IntKind.i64.bits=18446744073709551616:=by decide
   have h3:(2:Int) ^ (IntKind.i64.bits-1)=9223372036854775808:=by decide
   simp only [IntKind.wrap,h2,h3]
   have h4:n % 18446744073709551616=n:=by omega
   rw [h4,if_neg]
   simp; intro; omega
  refine ⟨.int .i64 n,?_,.int _⟩
  have hrun:(convert src dst (ac.eval x)).run C.P w=.ok (.int .i64 n) w:=by
   rw [e1]
   cases dsrc <;> simp [convert,Go.run_underlying hs,Go.run_underlying hd,Conv.intToInt,go_sem,hw]
  unfold execOp
  rw [hop]
  show ((do pure (Next.value (←convert src dst (ac.eval x))):Sem Next)).run C.P w=_
  rw [Sem.run_bind,hrun]; rfl⟩
theorem oConvB (hw:Wanted C ops o ⟨tm,rw',bx⟩) {src dst e te:TypeId} {x:Operand} {r m b:Nat} {l:List Int} (hs:C.P.underlying src=some (.slice e)) (he:C.P.underlying e=some (.int .u8)) (hdt:C.P.underlying dst=some .string) (hop:o.op=.convert src dst x) (hx:PS.ev ⟨tm,rw',bx⟩ x=.row r 0 m) (hr:PS.r ⟨tm,rw',bx⟩ r=some (te,.bytes l)) (hd:o.dst=some b) (hn:Nat.blt b C.n=true) (hm:m=l.length)
  (h:VO C ops K rest ⟨(b,.val (.string (strOfNums l)))::tm,rw',bx⟩):VO C ops K (o::rest) ⟨tm,rw',bx⟩:=by
 refine oStepW hw (sRun (d:=.val (.string (strOfNums l))) (fun M a w hrl=>?_) (by rw [hd]; exact hn) (by rw [hd]; exact h))
 have hev:=hrl.ev x
 rw [hx] at hev
 have hrun:(convert src dst (a.eval x)).run C.P w=.ok (.string (strOfNums l)) w:=by
  generalize a.eval x=v at hev
  cases hev with
  | row _ _ _ _ h1 h2=>
   rcases hrl.row r te (.bytes l) hr with ⟨hg,h0⟩ | ⟨g,cap,cur,hg,hh,hl,hmx,hcs,hc⟩
   ·obtain ⟨⟨ao,hv⟩,_,_⟩:=h2 none hg
    have hl0:l=[]:=List.eq_nil_of_length_eq_zero h0
    subst hl0
    rw [hv]
    cases ao with
    | none=>rw [run_convert_bytes_nil w src e hs he 0 0 dst hdt]; rfl
    | some ad=>
     obtain ⟨bb,off,rr⟩:=ad
     rw [run_convert_bytes_string w src dst e _ 0 0 hs he hdt,run_bytesToString w _ 0 0 [] (by simp [loadCells,go_sem]; try rfl)]
     rfl
   obtain ⟨hle,ao,hv,hao⟩:=h2 _ hg
   have hao':=hao (.inr rfl)
   subst hao'
   rw [hv,Nat.zero_mul]
   have hz:(Sq.bytes l).sz=1:=rfl
   refine run_convert_bytes_arg w src e hs he g 0 m _ l hm.symm (fun i hi=>?_) dst hdt
   have hil:i<(Sq.bytes l).len:=by show i<l.length; omega
   have hlt:i<cur.size:=by rw [hcs,hz]; omega
   rw [Nat.zero_add,cell_of_row w g i cur te (0,0) hh]
   have:=hc i 0 (.val (.int .u8 (l.getD i 0))) hil (by rfl)
   rw [hz,Nat.mul_one,Nat.add_zero] at this
   generalize hcu:cur.getD i undef=cv at this
   cases this
   simp [hlt] at hcu ⊢
   exact hcu
 refine ⟨_,?_,.val _ rfl⟩
 unfold execOp
 rw [hop]
 show ((do pure (Next.value (←convert src dst (a.eval x))):Sem Next)).run C.P w=_
 rw [Sem.run_bind,hrun]; rfl
def updR (i off:Nat):Sq→Nat→List D→Option Sq
 | q,_,[]=>some q
 | q,k,d::l=>match d.one with | true=>(match q.set i (off+k) d with | some q'=>updR i off q' (k+1) l | none=>none) | false=>none
theorem updR_ok {r off:Nat} {i:Int} {e:TypeId} (hF:Ha r=true):∀ {l:List D} {q q':Sq} {k:Nat} {s:PS},s.r r=some (e,q)→0≤i∧i<q.len→updR i.toNat off q k l=some q'→∃ (ob:Prop) (s':PS),ob∧wrL s (.eptr r i off) k l=some (ob,s')∧(∀ x,s'.t x=s.t x)∧(∀ x,s'.r x=if r=x then some (e,q') else s.r x)∧∀ b,s'.b b=s.b b
 | [],q,q',k,s,hr,hi,h=>by
  simp only [updR,Option.some.injEq] at h
  subst h
  refine ⟨True,s,Tvv,rfl,fun _=>rfl,fun x=>?_,fun _=>rfl⟩
  split
  ·rename_i he; subst he; exact hr
  rfl
 | d::l,q,q',k,s,hr,hi,h=>by
  simp only [updR] at h
  split at h
  ·rename_i h1
   split at h
   ·rename_i q1 h2
    have hl:=(Sq.set_ok h2).1
    obtain ⟨ob,s',g1,g2,g3,g4,g5⟩:=updR_ok hF (s:=s.setR r (some (e,q1))) (i:=i) (by rw [PS.r_setR _ _ _ _ hF,if_pos rfl]) (by rw [hl]; exact hi) h
    refine ⟨(0≤i∧i<q.len)∧ob,s',⟨hi,g1⟩,?_,g3,fun x=>?_,g5⟩
    ·simp only [wrL,wr,h1,hF,hr,h2,g2]
    rw [g4 x,PS.r_setR _ _ _ _ hF]
    split <;> rfl
   cases h
  cases h
theorem PS.ap_eq0 (s:PS) (d:D) (rows:List (Nat×Option (TypeId×Sq))) (boxes:List (Nat×Option (List D))) (h:Ww rows=rows):s.ap none ⟨d,rows,boxes⟩=⟨s.tmp,rows++s.row,boxes++s.box⟩:=by
 unfold PS.ap Ef.rn
 rw [show (Ef.mk d rows boxes).rows=rows from rfl,h]
theorem nStoreR (hT:Pd C.P TT) (hw:Wanted C ops o ⟨tm,rw',bx⟩) {t e:TypeId} {p x:Operand} {y:Ty} {r off:Nat} {i:Int} {d:D} {q q1 q':Sq} (hop:o.op=.store t p x) (hd:o.dst=none) (hy:Bk TT t=some y) (hp:(PS.ev ⟨tm,rw',bx⟩ p)=.eptr r i off) (hx:(fcD (PS.ev ⟨tm,rw',bx⟩ x) some)=some d) (hfl:d.flat=true) (hsz:Nat.beq d.cells.length (Sl y)=true)
  (hr:(PS.r ⟨tm,rw',bx⟩ r)=some (e,q)) (hu:updR i.toNat off q 0 d.cells=some q1) (hq:fcQ q1 some=some q') (hvis:visB ops cr B j ⟨tm,rw',bx⟩ [p]=true) (hck:Jj ops cr B j ⟨.tup [],[(r,some (e,q'))],[]⟩=true) (hF:Ha r=true) (hi:0≤i∧i<q.len)
  (h:QN C ops cr B K (j+1) rest ⟨tm,(r,some (e,q'))::rw',bx⟩):QN C ops cr B K j (o::rest) ⟨tm,rw',bx⟩:=by
 rw [Jl] at hx
 rw [Sm] at hq
 cases hx
 cases hq
 refine Tw (e:=⟨.tup [],[(r,some (e,_))],[]⟩) hw hck (fun s1 hag=>?_) (by rw [hd,PS.ap_eq0 _ _ _ _ (My hF)]; exact h)
 have e1:=hag.ev p (by rw [hop]; simp [Op.operands])
 have e2:=hag.ev x (by rw [hop]; simp [Op.operands])
 have s1p:=hag.same hvis p (by simp)
 rw [hp] at s1p
 have hr1:s1.r r=some (e,q):=by rw [s1p.eptr]; exact hr
 obtain ⟨ob,s',g1,g2,g3,g4,g5⟩:=updR_ok hF (s:=s1) (off:=off) hr1 hi hu
 refine Step.same (sStore hT hop hd hy (e1.trans hp) e2 hfl hsz g2 ⟨e,q,hr1,hi.1,hi.2⟩ g1 ⟨_,rfl,fun x=>?_,fun r'=>?_,fun c=>?_⟩)
 ·rw [PS.t_ap,hd]; exact (g3 x).symm
 ·rw [hd,PS.ap_eq0 _ _ _ _ (My hF),g4]
  exact PS.r_setR s1 r (some (e,q1)) r' hF
 rw [PS.b_ap,g5]; rfl
end
end
section
open Go.RowKit Go.Deep
section
variable {C:Cx} {ops:Array Oper} {Q:Exit→PS→Prop} {s:PS} {fuel:Nat} {listed:Array Bool}
end
section
variable {C:Cx} {tm:List (Nat×D)} {rw':List (Nat×Option (TypeId×Sq))} {bx:List (Nat×Option (List D))} {s':PS}
end
end
section
open Go.RowKit Go.Deep
section
variable {C:Cx} {ops:Array Oper} {K:PS→Prop} {o:Oper} {rest:List Oper} {s s':PS} {TT:List (Nat×Ty)} {tm:List (Nat×D)} {rw':List (Nat×Option (TypeId×Sq))} {bx:List (Nat×Option (List D))} {cr B:List Nat} {j:Nat}
end
end
section
open Go.RowKit Go.Deep
structure PCallB (P:Program) (f:FuncId) (ds cs:List D):Prop where
 enter:∀ args w,(callFunc f args).run P w=.ok (.enter f args) w
 noc:(cs.all fun d=>!Bn (fun _=>true) (fun _=>true) d)=true
 run:∀ w args (A:Bool→Nat→Prop),(∀ k,A true k→A false k)→ArgsM A M0 w ds args→Calls P f args w fun e w'=>∃ k cur et,e=.returned (.pointer (some ⟨k,0,none⟩))∧w.heap.size≤k∧w'.heap[k]? = some (.cells cur et (0,0))∧cs.length=cur.size ∧
  (∀ j d,cs[j]? = some d→VR M0 (fun f b=>(A f b∨w.heap.size≤b)∧b≠k) w' d (cur.getD j undef))∧w'.os=w.os∧w'.tape=w.tape∧w'.output=w.output∧w.heap.size≤w'.heap.size∧∀ i,i<w.heap.size→w'.heap[i]? = w.heap[i]?
section
variable {w0:World} {O0:Hd} {n:Nat} {M:Mp} {s:PS} {a:Act} {w w':World}
theorem Rel.newBoxAt (h:Rel w0 O0 n M s a w) {b k0:Nat} {cs:List D} {cur:Array Value} {e:TypeId} (hsz:w.heap.size≤w'.heap.size) (hblk:∀ k,k<w.heap.size→w'.heap[k]? = w.heap[k]?) (hos:w'.os=w.os) (htp:w'.tape=w.tape) (hout:w'.output=w.output) (hk0:w.heap.size≤k0) (hcell:w'.heap[k0]? = some (.cells cur e (0,0)))
  (hf:Fresh s (fun x=>Nat.beq x b) (fun _=>false)) (hl:cs.length=cur.size) (hc:∀ j d,cs[j]? = some d→VR M0 (fun f k=>(Ow (Fs w0 O0) M f k∨w.heap.size≤k)∧k≠k0) w' d (cur.getD j undef)) (hm:∀ d∈cs,Bn (fun _=>true) (fun _=>true) d=false) (hlo:b<1000000) :
  ∃ M',Rel w0 O0 n M' (s.addBox b cs) a w'∧M'.β b=some k0:=by
 let M':Mp:=⟨fun x=>if x=b then some k0 else M.β x,M.γ⟩
 have hown:∀ k,M'.owned k→M.owned k∨k=k0:=by
  rintro k (⟨x,hx⟩ | ⟨r,c,z,hr⟩)
  ·simp only [M'] at hx
   split at hx
   ·cases hx; exact .inr rfl
   exact .inl (.inl ⟨x,hx⟩)
  exact .inl (.inr ⟨r,c,z,hr⟩)
 have hA:∀ f k,k<w.heap.size→Ow (Fs w0 O0) M f k→Ow (Fs w0 O0) M' f k∧k<w'.heap.size∧w'.heap[k]? = w.heap[k]?:=fun f k h1 h2=>
  ⟨⟨fun h3=>by rcases hown k h3 with h4 | h4; exact h2.1 h4; omega,h2.2⟩,by omega,hblk k h1⟩
 have hA1:∀ f k,k<w'.heap.size→((Ow (Fs w0 O0) M f k∨w.heap.size≤k)∧k≠k0)→Ow (Fs w0 O0) M' f k∧k<w'.heap.size∧w'.heap[k]? = w'.heap[k]?:=fun f k h1 ⟨h2,h5⟩=>by
  refine ⟨⟨fun h3=>?_,?_⟩,h1,rfl⟩
  ·rcases hown k h3 with h4 | h4
   ·rcases h2 with h2 | h2
    ·exact h2.1 h4
    have:=h.lt k h4; omega
   exact h5 h4
  rcases h2 with h2 | h2
  ·exact h2.2
  exact .inl (Nat.le_trans h.fr.size h2)
 have hβ:∀ x k,Nat.beq x b=false→M'.β x=some k→M.β x=some k:=fun x k h1 h2=>by
  simp only [M'] at h2
  rw [if_neg] at h2
  ·exact h2
  intro e; subst e; rw [Nat.beq_refl] at h1; cases h1
 have hγ:∀ x y,(fun _=>false) x=false→M'.γ x=some y→M.γ x=some y:=fun x y _ h=>h
 refine ⟨M',⟨?_,h.dfr,h.sz,fun t=>?_,fun x ds hx=>?_,fun x hx=>?_,fun r e q hr=>?_,fun r hr=>h.rown r hr,fun k hk=>?_,fun x x' k h1 h2=>?_,h.inj2,fun x r k c z h1 h2=>?_,h.nle,fun x k k' h1 h2=>?_,h.fxr⟩,by simp [M']⟩
 ·exact h.fr.step hos htp hout hsz fun k h1 _=>hblk k (Nat.lt_of_lt_of_le h1 h.fr.size)
 ·exact VR.new hA hγ hβ (hf.t t) (h.tmp t)
 ·by_cases hxb:b=x
  ·subst hxb
   simp [PS.addBox,PS.b,Ap] at hx
   subst hx
   exact ⟨k0,cur,e,by simp [M'],hcell,hl,fun j d hd=>VR.newS (b:=fun _=>true) (r:=fun _=>true) hA1 (fun x y hx=>by cases hx) (fun x y hx=>by cases hx) (hm d (List.mem_of_getElem? hd)) (hc j d hd)⟩
  have hx':s.b x=some ds:=by simpa [PS.addBox,PS.b,As hxb] using hx
  obtain ⟨k,cur',e',h1,h2,h3,h4⟩:=h.box x ds hx'
  have hlt:=(Array.getElem?_eq_some_iff.1 h2).1
  exact ⟨k,cur',e',by simp [M',Ne.symm hxb,h1],(hblk k hlt).trans h2,h3,fun j d hd=>VR.newS hA hγ hβ (hf.b _ _ hx' d (List.mem_of_getElem? hd)) (h4 j d hd)⟩
 ·by_cases hxb:b=x
  ·subst hxb; simp [PS.addBox,PS.b,Ap] at hx
  have hx':s.b x=none:=by simpa [PS.addBox,PS.b,As hxb] using hx
  simp [M',Ne.symm hxb,h.boxn x hx']
 ·rcases h.row r e q hr with ⟨h1,h2⟩ | ⟨g,cap,cur',h1,h2,h3,h4,h5,h6⟩
  ·exact .inl ⟨h1,h2⟩
  have hlt:=(Array.getElem?_eq_some_iff.1 h2).1
  exact .inr ⟨g,cap,cur',h1,(hblk g hlt).trans h2,h3,h4,h5,fun i j d hi hd=>(h6 i j d hi hd).relem_any hd hA⟩
 ·rcases hown k hk with h1 | rfl
  ·exact h.low k h1
  exact .inl (Nat.le_trans h.fr.size hk0)
 ·have hno:∀ y,M.β y≠some k0:=fun y hy=>by have:=h.lt _ (.inl ⟨y,hy⟩); omega
  simp only [M'] at h1 h2
  split at h1 <;> split at h2
  ·simp_all
  ·cases h1; exact absurd h2 (hno _)
  ·cases h2; exact absurd h1 (hno _)
  exact h.inj1 _ _ _ h1 h2
 ·simp only [M'] at h1
  split at h1
  ·cases h1; have:=h.lt _ (.inr ⟨r,c,z,h2⟩); omega
  exact h.inj3 _ _ _ _ _ h1 h2
 have h3:=O0.lob x k h1
 simp only [M'] at h2
 rw [if_neg (by omega)] at h2
 exact h.fxb x k k' h1 h2
end
section
variable {C:Cx} {ops:Array Oper} {K:PS→Prop} {o:Oper} {rest:List Oper} {s s':PS} {TT:List (Nat×Ty)} {tm:List (Nat×D)} {rw':List (Nat×Option (TypeId×Sq))} {bx:List (Nat×Option (List D))}
def fitsB (s:PS):List Operand→List D→Prop
 | [],[]=>True
 | x::xs,d::ds=>s.ev x=d∧Kx d=true∧fitsB s xs ds
 | _,_=>False
theorem fitsB_get {s:PS}:∀ {xs:List Operand} {ds:List D},fitsB s xs ds→xs.length=ds.length∧∀ (i:Nat) (d:D),ds[i]? = some d→∃ x:Operand,xs[i]? = some x∧s.ev x=d∧Kx d=true
 | [],[],_=>⟨rfl,fun i d h=>by simp at h⟩
 | x::xs,d::ds,h=>by
  obtain ⟨h1,h2,h3⟩:=h
  obtain ⟨h4,h5⟩:=fitsB_get h3
  refine ⟨by simp [h4],fun i e hi=>?_⟩
  cases i with
  | zero=>simp at hi; subst hi; exact ⟨x,rfl,h1,h2⟩
  | succ i=>simp at hi ⊢; exact h5 i e hi
theorem oCallB {f:FuncId} {args:Array Operand} {ts:Array TypeId} {ds cs:List D} (hp:PCallB C.P f ds cs) (hg:o.guard=none) (hop:o.op=.call { callee:=.value (.func f),args:=args,argTypes:=ts }) {b:Nat} (hd:o.dst=some b) (hn:Nat.blt b C.n=true) (hfr:frB ⟨tm,rw',bx⟩ (fun y=>Nat.beq y b) noB=true)
  (hfit:fitsB ⟨tm,rw',bx⟩ args.toList ds) (h:VO C ops K rest ⟨(b,.ptr b 0)::tm,rw',(b,some cs)::bx⟩):VO C ops K (o::rest) ⟨tm,rw',bx⟩:=by
 refine vOp hg ⟨fun M a w Q K' hr hk=>?_⟩
 have hrun:(execOp a.eval o).run C.P w=.ok (.enter f (args.map a.eval)) w:=by
  have:=hp.enter (args.map a.eval) w
  unfold execOp
  rw [hop]
  show ((do let d ←resolve a.eval _ o.type; invoke d.target d.args:Sem Next)).run C.P w=_
  simp only [resolve]
  show ((callFunc f ((#[]++args.map a.eval)++#[])):Sem Next).run C.P w=_
  rw [show (#[]++args.map a.eval)++#[]=args.map a.eval by simp]
  exact this
 obtain ⟨g1,g2⟩:=fitsB_get hfit
 have hargs:ArgsM (Ow (Fs C.w0 C.O0) M) M0 w ds (args.map a.eval):=by
  refine ⟨by simpa using g1,fun i d hi=>?_⟩
  obtain ⟨x,hx,hev,hno⟩:=g2 i d hi
  have h1:=hr.ev x
  rw [hev] at h1
  have h2:(args.map a.eval).getD i undef=a.eval x:=by
   have:args[i]? = some x:=by simpa using hx
   simp [this]
  rw [h2]
  refine VR.new (b:=fun _=>true) (r:=fun _=>true) (fun f k h1 h2=>⟨h2,h1,rfl⟩) (fun x y hx=>by cases hx) (fun x y hx=>by cases hx) ?_ h1
  simpa [Kx] using hno
 unfold Oper.wp
 rw [hrun]
 refine (hp.run w _ (Ow (Fs C.w0 C.O0) M) (fun k hk=>⟨hk.1,hk.2.imp_right (C.O0.mon k)⟩) hargs).mono ?_
 rintro e w' ⟨k,cur,et,rfl,k1,k2,k3,k4,k5,k6,k7,k8,k9⟩
 have hlo:b<1000000:=by have h1000:=hr.nle; rw [Nat.blt_eq] at hn; omega
 obtain ⟨M',h2,h3⟩:=hr.newBoxAt (b:=b) (k0:=k) (cs:=cs) k8 k9 k5 k6 k7 k1 k2 (Lv hfr) k3 (fun j d hj=>k4 j d hj) (fun d hd=>by have:=(List.all_eq_true.1 hp.noc) d hd; simpa using this) hlo
 refine hk M' _ _ _ h ?_
 rw [hd]
 exact h2.put (o:=some b) hn (.ptr _ _ _ rfl fun k hk=>by rw [h3] at hk; cases hk; rfl)
end
def RetB (TT:List (Nat×Ty)) (res:List ResultVar) (cs:List D):Exit→PS→Prop:=fun e s=>match e with
 | .normal | .ret=>∃ b,retD TT s res=some (.ptr b 0)∧s.b b=some cs∧Nat.blt b 1000000=true
 | _=>False
theorem pcallB_intro {P:Program} {f:FuncId} {fn:Func} {c:Code} {TT:List (Nat×Ty)} {ds cs:List D} {n:Nat} {res:List ResultVar} (hT:Pd P TT) (hf:P.funcs[f]? = some fn) (hb:fn.body=some c)
  (hname : (fn.name == "runtime.NumGoroutine") = false) (hn : fn.ntmps = n) (hres : fn.results.toList = res) (hds : Nat.ble ds.length n = true) (hno : (ds.all Kx) = true) (hnoc : (cs.all fun d => !Bn (fun _ => true) (fun _ => true) d) = true)
  (h:∀ w0 O0,VC ⟨P,w0,O0,n⟩ c (RetB TT res cs) ⟨entL 0 ds,[],[]⟩) (hn1000:Nat.ble n 1000=true:=by rfl):PCallB P f ds cs:=by
 subst hn hres
 refine ⟨Qo hf hname (by simp [hb]),hnoc,fun w0 args A hmon ⟨hsz,hargs⟩=>?_⟩
 have hle:=Nat.le_of_ble_eq_true hds
 let O0:Hd:=⟨fun _=>False,fun f k=>A f k,fun _ _ h=>h.elim,hmon,fun _=>none,fun _=>none,fun _ _ h=>(by cases h),fun _ _ h=>(by cases h)⟩
 have hM0:∀ k,¬ M0.owned k:=by rintro k (⟨x,hx⟩ | ⟨x,c,z,hx⟩) <;> simp at hx
 have hent:Rel w0 O0 fn.ntmps M0 ⟨entL 0 ds,[],[]⟩ { tmps:=args++Array.replicate (fn.ntmps-args.size) undef,defers:=[] } w0:=by
  refine ⟨⟨rfl,rfl,rfl,Nat.le_refl _,fun _ _ _=>rfl⟩,rfl,by simp; omega,fun t=>?_,fun b cs hb=>by simp [PS.b,Bk] at hb,fun _ _=>rfl,fun r e q hr=>(by rw [r_ent] at hr; cases hr),fun _ _=>rfl,fun k hk=>absurd hk (hM0 k),by simp,by simp,by simp,Nat.le_of_ble_eq_true hn1000,fun b k k' h=>by simp [O0] at h,fun b k k' h=>by simp [O0] at h⟩
  simp only [PS.t,Rm,Nat.zero_le,if_true,Nat.sub_zero]
  cases hd:ds[t]? with
  | none=>exact .dead _
  | some d0=>
   have hlt:t<args.size:=by rw [hsz]; exact (List.getElem?_eq_some_iff.1 hd).1
   have h1:=hargs t d0 hd
   have h2:(args++Array.replicate (fn.ntmps-args.size) undef).getD t undef=args.getD t undef:=by
    simp [Array.getElem?_append_left hlt]
   rw [h2]
   exact h1.mono (fun f b h1 h2=>⟨⟨hM0 b,.inr h2⟩,h1,rfl⟩) (fun _ _ h=>h) (fun _ _ h=>h)
 refine calls_of_wp hf hb (Code.wp_mono ?_ ((h w0 O0).out M0 _ w0 hent))
 rintro e a' w' ⟨s',M',hq,hr⟩
 have fin:∀ (hq:∃ b,retD TT s' fn.results.toList=some (.ptr b 0)∧s'.b b=some cs∧Nat.blt b 1000000=true),
   a'.defers=[]∧∃ v,(results fn a'.tmps).run P w'=.ok v w'∧∃ k cur et,Ending.returned v=.returned (.pointer (some ⟨k,0,none⟩))∧w0.heap.size≤k∧w'.heap[k]? = some (.cells cur et (0,0))∧cs.length=cur.size ∧
    (∀ j d,cs[j]? = some d→VR M0 (fun f b=>(A f b∨w0.heap.size≤b)∧b≠k) w' d (cur.getD j undef))∧w'.os=w0.os∧w'.tape=w0.tape∧w'.output=w0.output∧w0.heap.size≤w'.heap.size∧∀ i,i<w0.heap.size→w'.heap[i]? = w0.heap[i]?:=by
  rintro ⟨b,h1,h2,h3⟩
  obtain ⟨v,h6,h7⟩:=ret_ok hT hr h1
  obtain ⟨k,cur,et,g1,g2,g3,g4⟩:=hr.box b cs h2
  have hv:v=.pointer (some ⟨k,0,none⟩):=by
   cases h7 with
   | ptr _ _ _ _ h8=>exact h8 k g1
  refine ⟨hr.dfr,v,h6,k,cur,et,by rw [hv],(hr.low k (.inl ⟨b,g1⟩)).resolve_right (fun h=>h),g2,g3,fun j d hj=>?_,hr.fr.os,hr.fr.tape,hr.fr.output,hr.fr.size,fun i hi=>hr.fr.block i hi (fun h=>h)⟩
  have hmm:=(List.all_eq_true.1 hnoc) d (List.mem_of_getElem? hj)
  refine VR.newS (b:=fun _=>true) (r:=fun _=>true) (fun f i h1 h2=>⟨⟨?_,fun e=>h2.1 (by rw [e]; exact .inl ⟨b,g1⟩)⟩,h1,rfl⟩) (fun x y hx=>by cases hx) (fun x y hx=>by cases hx) (by simpa using hmm) (g4 j d hj)
  rcases h2.2 with h3 | h3
  ·exact .inr h3
  exact .inl h3
 cases e <;> first | exact fin hq | exact hq.elim
end
section
open Go.RowKit Go.Deep
structure Cur where
 b:List Int
 i:Int
 h:Int
def xorI (a b:Int):Int:=IntKind.i64.wrap ((BitVec.ofInt 64 a ^^^ BitVec.ofInt 64 b).toNat:Int)
section
variable {C:Cx} {ops:Array Oper} {K:PS→Prop} {o:Oper} {rest:List Oper} {s:PS} {tm:List (Nat×D)} {rw':List (Nat×Option (TypeId×Sq))} {bx:List (Nat×Option (List D))}
theorem pXor {t u:TypeId} {x y:Operand} {a b:Int} (hop:o.op=.binOp .xor t x y u) (hx:s.ev x=.int a) (hy:s.ev y=.int b):Pur C o s (.int (xorI a b)):=
 ⟨fun s1 hs M ac w hr'=>by
  have h1:=hr'.ev x
  have h2:=hr'.ev y
  rw [hs x (by rw [hop]; simp [Op.operands]),hx] at h1
  rw [hs y (by rw [hop]; simp [Op.operands]),hy] at h2
  have e1:=h1.int_inv
  have e2:=h2.int_inv
  refine ⟨.int .i64 (xorI a b),?_,.int _⟩
  simp only [execOp,hop,e1,e2]
  simp [eqGuard,binOp,Op.intBits,go_sem,IntKind.bits]
  rfl⟩
theorem pShrU {t u:TypeId} {x y:Operand} {a n:Int} (hop:o.op=.binOp .shr t x y u) (hx:s.ev x=.int a) (hy:s.ev y=.val (.int .u64 n)) (hn:0≤n):Pur C o s (.int (shrI a n)):=
 ⟨fun s1 hs M ac w hr'=>by
  have h1:=hr'.ev x
  have h2:=hr'.ev y
  rw [hs x (by rw [hop]; simp [Op.operands]),hx] at h1
  rw [hs y (by rw [hop]; simp [Op.operands]),hy] at h2
  have e1:=h1.int_inv
  have e2:ac.eval y=.int .u64 n:=by generalize ac.eval y=v at h2; cases h2; rfl
  have h4:¬ n<0:=by omega
  refine ⟨.int .i64 (shrI a n),?_,.int _⟩
  simp only [execOp,hop,e1,e2]
  simp [eqGuard,binOp,Op.shift,go_sem,h4,IntKind.bits]
  rfl⟩
theorem En.zero (r:Nat) (e:TypeId) (q:Sq) (hq:q.len=0) (hf:frB ⟨tm,rw',bx⟩ noB (isR r)=true) (hr:Nat.blt r 1000000=true:=by rfl):En C ⟨tm,rw',bx⟩ ⟨tm,(r,some (e,q))::rw',bx⟩:=⟨fun M a w h=>by
 rw [Nat.blt_eq] at hr
 obtain ⟨M',h1,_⟩:=h.nilRow (r:=r) (e:=e) (q:=q) hq (Lv hf) hr
 exact ⟨M',h1⟩⟩
end
end
section
open Go.RowKit
end
section
open Go.RowKit
end
section
open Go.RowKit Go.Deep
end
section
open Go.RowKit
def Fd (N:Nat) (n_0:Int) (mask_1:Int) (k:(List Int)→Option (List Int)):Nat→((List Int)×Int)→Option (List Int)
 | 0,_=>none
 | n+1,(l5,i6)=>
  cnd (decide (i6<n_0)) (
   grd (0≤i6) <|
   cnd ((andI (shrI mask_1 i6) (1:Int))==(1:Int)) (
    grd (l5.length+1≤4294967296) <|
    grd (Bf (i6+(1:Int))) <|
    Fd N n_0 mask_1 k n ((l5++([i6]:List Int)),(i6+(1:Int)))) (
    grd (Bf (i6+(1:Int))) <|
    Fd N n_0 mask_1 k n (l5,(i6+(1:Int))))) (
   k l5)
def Zy (N:Nat) (n_0:Int) (mask_1:Int):Option (List Int):=
 Fd N n_0 mask_1 (fun (l3 : List Int) =>
    some l3) N (([]:List Int),(0:Int))
theorem S_l3Set_w (N:Nat) (n_0:Int) (mask_1:Int) (r:List Int) (h:Zy N n_0 mask_1=some r):PCall Try.prog 197 [.int n_0,.int mask_1] [(3,.ints r)] (.row 0 0 r.length):=by
 unfold Zy at h
 refine Ah (TT:=TT) tt Try.func197 rfl rfl Try.ntmps197 (congrArg Array.toList Try.results197) rfl rfl fun w0=>?_
 refine Ag ?_
 refine Aa ?_
 refine oV5 tt rfl Tvv ?_
 refine Ae ?_
 show VC ..
 refine Ag ?_
 refine Aa ?_
 refine Fa tt (Ad rfl) rfl rfl rfl rfl ?_
 refine oV5 tt rfl Tvv ?_
 refine Ae ?_
 show VC ..
 iterate 2 refine Ag ?_
 refine Aa ?_
 refine oV5 tt rfl Tvv ?_
 refine Ae ?_
 show VC ..
 refine Ck (F:=fun k=>Fd N n_0 mask_1 k) h (α:=List Int) (J:=fun (l3:List Int)=>(⟨[(5,.row 21 0 l3.length)],[(21,some (3,.ints l3))],[]⟩:PS)) ?_ ?_
 ·rintro l3 h
  show VC _ _ _ (⟨[(5,.row 21 0 l3.length)],[(21,some (3,.ints l3))],[]⟩:PS)
  refine Ag ?_
  refine Aa ?_
  iterate 2 refine oV5 tt rfl Tvv ?_
  refine Ae ?_
  show VC ..
  refine Bb ?_
  show ∃ _,_
  cases h
  exact ⟨[21],_,rfl,⟨rfl,Tvv⟩,rfl,(.eq rfl),rfl⟩
 intro k h
 refine Aq ?_
 refine Md 5 21 3 (.ints []) rfl rfl rfl rfl ?_
 refine Bh (α:=(List Int)×Int) (fun | (l5,i6)=>(⟨[(0,.int n_0),(1,.int mask_1),(5,.row 21 0 l5.length),(6,.int i6)],[(21,some (3,.ints l5))],[]⟩:PS)) (Fd N n_0 mask_1 k) h (En.of ⟨rfl,rfl,rfl,rfl,Tvv⟩ ⟨rfl,Tvv⟩ trivial) (fun _=>rfl) ?_
 rintro n ⟨l5,i6⟩ h
 rw [Fd] at h
 show VC _ _ _ (⟨[(0,.int n_0),(1,.int mask_1),(5,.row 21 0 l5.length),(6,.int i6)],[(21,some (3,.ints l5))],[]⟩:PS)
 iterate 2 refine Ag ?_
 refine Aa ?_
 iterate 3 refine oV5 tt rfl Tvv ?_
 refine Ae ?_
 show VC ..
 refine Au rfl (fun hb1=>?_) (fun hb1=>?_)
 ·replace h:=Ai hb1 h
  refine Ar ?_
  show VC ..
  refine Ag ?_
  refine Aq ?_
  refine Ag ?_
  refine Aa ?_
  iterate 2 refine oV5 tt rfl Tvv ?_
  obtain ⟨hg2,h⟩:=Ab h
  refine oV5 tt rfl hg2 ?_
  iterate 2 refine oV5 tt rfl Tvv ?_
  refine Ae ?_
  show VC ..
  refine Au rfl (fun hb3=>?_) (fun hb3=>?_)
  ·replace h:=Ai hb3 h
   refine Aa ?_
   iterate 2 refine oV5 tt rfl Tvv ?_
   refine Cv tt rfl rfl rfl rfl rfl rfl rfl rfl rfl rfl rfl ?_
   obtain ⟨hg4,h⟩:=Ab h
   refine Bp tt rfl rfl rfl rfl rfl rfl rfl rfl rfl rfl rfl rfl rfl rfl rfl rfl (Nat.le_of_eq (Nat.zero_add _)) hg4 ?_
   refine oV5 tt rfl Tvv ?_
   refine Ae ?_
   show VC ..
   refine Aa ?_
   refine oV5 tt rfl Tvv ?_
   obtain ⟨hg5,h⟩:=Ab h
   refine oV5 tt rfl hg5 ?_
   refine oV5 tt rfl Tvv ?_
   refine Ae ?_
   show ∃ _,_
   exact ⟨((l5++([i6]:List Int)),(i6+(1:Int))),(En.of ⟨rfl,rfl,rfl,rfl,Tvv⟩ ⟨rfl,Tvv⟩ trivial),h⟩
  replace h:=Aj hb3 h
  refine Ar ?_
  show VC ..
  refine Aa ?_
  refine oV5 tt rfl Tvv ?_
  obtain ⟨hg6,h⟩:=Ab h
  refine oV5 tt rfl hg6 ?_
  refine oV5 tt rfl Tvv ?_
  refine Ae ?_
  show ∃ _,_
  exact ⟨(l5,(i6+(1:Int))),(En.of ⟨rfl,rfl,rfl,rfl,Tvv⟩ ⟨rfl,Tvv⟩ trivial),h⟩
 replace h:=Aj hb1 h
 refine Bq ?_
 show ∃ _,_
 exact ⟨l5,(En.of ⟨rfl,Tvv⟩ ⟨rfl,Tvv⟩ trivial),h⟩
end
end Go.Proofs.Ytcljhpldfanhkaa
