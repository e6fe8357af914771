/- FnRaising: whatever the input, the law returns true, and each argument reads as before. No condition. -/
import Derived.Test.YtcljhpldfanhkaaRows
import Derived.WalkKit
import Derived.ProofKit
import Derived.OpenShut
import Derived.Test.YtcljhpldfanhkaaBJf5
import Derived.Test.YtcljhpldfanhkaaBJf6
import Derived.Test.YtcljhpldfanhkaaBJf7
import Derived.Test.YtcljhpldfanhkaaBJf8
import Derived.Test.YtcljhpldfanhkaaBJf9
namespace Go.Proofs.Ytcljhpldfanhkaa
open Go.RowKit
set_option linter.unusedVariables false
set_option linter.unusedSimpArgs false
variable {N:Nat}
theorem lnRaise_le {l:List (Int×List Int)} (h1:l.length≤8) (h2:∀ x∈l,x.2.length≤15):Dr l≤1048576:=by
 have key:∀ l:List (Int×List Int),(∀ x∈l,x.2.length≤15)→(l.map fun x=>x.2.length).sum≤15*l.length:=fun l=>by
  induction l with
  | nil=>intro _; simp
  | cons r l ih=>
   intro h
   have a:=ih fun x hx=>h x (by simp [hx])
   have b:=h r (by simp)
   rw [List.map_cons,List.sum_cons,List.length_cons]; omega
 have:=key l h2
 unfold Dr; omega
theorem RsFrom_app {p:Pin}:∀ {A B:List (Int×List Int)} {D:List Int},Jo p D (A++B)↔Jo p D A∧Jo p (D++A.map Prod.fst) B
 | [],B,D=>by simp [Jo]
 | r::A,B,D=>by
  have ih:=RsFrom_app (p:=p) (A:=A) (B:=B) (D:=D++[r.1])
  rw [List.append_assoc] at ih
  show Ho p D ⟨r.1,r.2⟩=true∧Jo p (D++[r.1]) (A++B)↔(Ho p D ⟨r.1,r.2⟩=true∧Jo p (D++[r.1]) A)∧Jo p (D++([r.1]++A.map Prod.fst)) B
  rw [ih]
  exact and_assoc.symm
theorem rs_mem {p:Pin}:∀ {R:List (Int×List Int)} {D:List Int},Jo p D R→∀ r∈R,Wo p r.1=true∧2≤r.2.length∧∀ e∈r.2,0≤e∧e<(p.g.bars.length:Int)
 | [],_,_=>by simp
 | r::R,D,h=>by
  obtain ⟨_,q1,q2,q3,q4⟩:=Ki h.1
  intro x hx
  rcases List.mem_cons.1 hx with rfl | hx
  ·refine ⟨q1,q3,fun e he=>?_⟩
   obtain ⟨i,hi,e2⟩:=List.mem_iff_getElem.1 he
   have h1:=q4 i hi
   simp only [Ka,Bool.and_eq_true] at h1
   obtain ⟨a1,a2,_⟩:=Za h1.1
   rw [List.getD_eq_getElem?_getD,List.getElem?_eq_getElem hi,Option.getD_some,e2] at a1 a2
   exact ⟨a1,a2⟩
  ·exact rs_mem h.2 x hx
theorem getD_inR {α:Type} {l:List α} {i:Nat} {d:α} (h:i<l.length):l.getD i d∈l:=by
 rw [List.getD_eq_getElem?_getD,List.getElem?_eq_getElem h]; exact List.getElem_mem h
theorem takeR {α:Type} {l:List α} {i:Nat} (d:α) (h:i<l.length):l.take (i+1)=l.take i++[l.getD i d]:=by
 rw [List.take_add_one,List.getElem?_eq_getElem h,List.getD_eq_getElem?_getD,List.getElem?_eq_getElem h]; rfl
def barsIn (l:List (Int×List Int)):List Int:=(l.map Prod.snd).flatten
theorem barsIn_snoc (l:List (Int×List Int)) (r:Int×List Int):barsIn (l++[r])=barsIn l++r.2:=by
 unfold barsIn; simp
theorem barsIn_len {c:Nat}:∀ {l:List (Int×List Int)},(∀ x∈l,x.2.length≤c)→(barsIn l).length≤c*l.length
 | [],_=>by simp [barsIn]
 | r::l,h=>by
  have:=barsIn_len (l:=l) fun x hx=>h x (by simp [hx])
  have:=h r (by simp)
  unfold barsIn at *
  simp only [List.map_cons,List.flatten_cons,List.length_append,List.length_cons,Nat.mul_add]
  omega
theorem barsIn_mem {l:List (Int×List Int)} {r:Int×List Int} {e:Int} (hr:r∈l) (he:e∈r.2):e∈barsIn l:=List.mem_flatten.2 ⟨r.2,List.mem_map.2 ⟨r,hr,rfl⟩,he⟩
theorem onlyB_sub (bars:List (Int×Int)) (keep:List Int):(onlyB bars keep).Sublist bars:=by
 have e:(List.range bars.length).map (brAt bars)=bars:=by
  apply List.ext_getElem
  ·simp
  ·intro i h1 h2
   simp [brAt,List.getD_eq_getElem?_getD,h2]
 have h:(onlyB bars keep).Sublist ((List.range bars.length).map (brAt bars)):=by
  unfold onlyB sel
  exact List.filter_sublist.map _
 rw [e] at h
 exact h
theorem onlyB_mem {bars:List (Int×Int)} {keep:List Int} {e:Int} (h0:0≤e) (h1:e<(bars.length:Int)) (hk:e∈keep):bars.getD e.toNat (0,0)∈onlyB bars keep:=by
 unfold onlyB sel
 refine List.mem_map.2 ⟨e.toNat,List.mem_filter.2 ⟨List.mem_range.2 (by omega),?_⟩,rfl⟩
 rw [show ((e.toNat:Nat):Int)=e by omega]
 simpa using hk
theorem rs_rigid (hN:4000000≤N) {p:Pin} (hp:Az p=true) {l:List (Int×List Int)} (h:Jo p [] l) (hl:l.length=(Aw p).length):Da N p=some true:=by
 obtain ⟨n,LH,LS,H,I,t,hP⟩:=pin_full hN hp
 obtain ⟨d1,d2⟩:=Yi h (by simp) (by simp)
 have hm:=rs_mem h
 have ht:=rs_tied hp hP rfl rfl h (by simp) (fun r hr e he=>by
  have:=(hm r hr).2.2 e he
  exact getD_inR (by omega)) (by rw [List.append_nil]; exact hP.tied_ground)
 rw [List.nil_append] at ht d1 d2
 exact hP.rigid_of ht fun v hv=>all_inner hp d1 d2 (by rw [List.length_map]; exact hl) v hv
theorem raising_l2 (hN:4000000≤N) {v4:List (Int×List Int)×Bool} {D S:List Int} {i:Int} (hD:(D++[(v4.1.getD i.toNat (0,[])).1]).length≤1000) (hS:S.length≤1000) (h:∀ x∈D++[(v4.1.getD i.toNat (0,[])).1],x∈S) {k:Unit→Option Bool}:∀ (fuel j:Nat),j≤(D++[(v4.1.getD i.toNat (0,[])).1]).length→(D++[(v4.1.getD i.toNat (0,[])).1]).length<fuel+j→Fx N v4 D i S k fuel (j:Int)=k ():=by
 intro fuel
 induction fuel with
 | zero=>intro j h1 h2; omega
 | succ fuel ih=>
  intro j h1 h2
  rw [Fx]
  generalize D++[(v4.1.getD i.toNat (0,[])).1]=Q at hD h ih h1 h2 ⊢
  by_cases hj:j<Q.length
  ·have e2:((j:Int)).toNat=j:=rfl
   have hc:S.contains (Q.getD j 0)=true:=by simpa using h _ (getD_inR hj)
   rw [Al (by omega),Af (by omega),e2,has_s hN (by omega),hc,Option.bind_some,Bool.not_true,cnd_false,At (by omega) (by omega),Am,ih (j+1) (by omega) (by omega)]
  ·rw [Ak (by omega)]
theorem raising_l1 (hN:4000000≤N) {p:Pin} (hp:Az p=true) {l:List (Int×List Int)} {b:Bool} (h:Jo p [] l) (hl8:l.length≤8) (hl15:∀ x∈l,x.2.length≤15) {k:Unit→Option Bool}:∀ (fuel i:Nat),i≤l.length→l.length<fuel+i →
  Fz N p (l,b) k fuel ((l.take i).map Prod.fst,barsIn (l.take i),(i:Int))=k ():=by
 have hbd:=Bz hp
 intro fuel
 induction fuel with
 | zero=>intro i h1 h2; omega
 | succ fuel ih=>
  intro i h1 h2
  rw [Fz]
  by_cases hi:i<l.length
  ·have e2:((i:Int)).toNat=i:=rfl
   have et:=takeR (0,[]) hi
   have hm:=getD_inR (d:=((0:Int),([]:List Int))) hi
   have hsp:Jo p [] (l.take (i+1)):=by
    rw [←List.take_append_drop (i+1) l] at h
    exact (RsFrom_app.1 h).1
   have hr:Ho p ((l.take i).map Prod.fst) ⟨(l.getD i (0,[])).1,(l.getD i (0,[])).2⟩=true:=by
    rw [et] at hsp
    have:=(RsFrom_app.1 hsp).2.1
    rwa [List.nil_append] at this
   have hDl:((l.take i).map Prod.fst).length≤8:=by rw [List.length_map,List.length_take]; omega
   have hKl:(barsIn (l.take i)).length≤200:=by
    have:=barsIn_len (c:=15) (l:=l.take i) fun x hx=>hl15 x (List.mem_of_mem_take hx)
    rw [List.length_take] at this; omega
   have h15:=hl15 _ hm
   rw [Al (by simp only; omega),Af (by simp only; omega),e2]
   simp only
   rw [Sb N hN (by omega) (by omega) (by omega) (by simp only; omega),hr,Option.bind_some,Bool.not_true,cnd_false,Af (by omega),Af (by omega),onlyS_s N hN (by omega) (by rw [List.length_append]; omega),Option.bind_some]
   have hqs:=onlyB_sub p.g.bars (barsIn (l.take i)++(l.getD i (0,[])).2)
   have hq:=pinned_sub hp hqs
   obtain ⟨n,LH,LS,H,I,t,hP⟩:=pin_full hN hq
   have hst:=hP.st
   have hpn:=hP.pn
   simp only at hpn
   rw [hst,Option.bind_some]
   have eD:(l.take i).map Prod.fst++[(l.getD i (0,[])).1]=(l.take (i+1)).map Prod.fst:=by rw [et,List.map_append]; rfl
   have eK:barsIn (l.take i)++(l.getD i (0,[])).2=barsIn (l.take (i+1)):=by rw [et,barsIn_snoc]
   obtain ⟨d1,d2⟩:=Yi hsp (by simp) (by simp)
   have hmm:=rs_mem hsp
   have ht:=rs_tied hp hP rfl rfl hsp (by simp) (fun r hr e he=>by
    have:=(hmm r hr).2.2 e he
    simp only
    rw [eK]
    exact onlyB_mem this.1 this.2 (barsIn_mem hr he)) (by rw [List.append_nil]; exact hP.tied_ground)
   rw [List.nil_append] at ht d1 d2
   have hin:∀ x∈(l.take i).map Prod.fst++[(l.getD i (0,[])).1],x∈stl t n 0:=fun x hx=>by
    rw [eD] at hx
    have hx':=Xz (d2 x hx)
    have:=hP.steady_of ht (List.mem_append.2 (.inr hx)) ⟨hx'.1,by omega⟩
    exact stl_mem.2 ⟨x.toNat,by omega,by omega,this,by omega⟩
   have hsl:=(stl_len (t:=t) (k:=n) (v:=0)).1
   have hn8:=hP.n8
   refine (raising_l2 hN (v4:=(l,b)) (D:=(l.take i).map Prod.fst) (S:=stl t n 0) (i:=(i:Int)) (by rw [e2,List.length_append,List.length_singleton]; omega) (by omega) (by rw [e2]; exact hin) N 0 (by omega) (by rw [e2,List.length_append,List.length_singleton]; omega)).trans ?_
   rw [At (by omega) (by omega),Am,eD,eK]
   exact ih (i+1) (by omega) (by omega)
  ·rw [Ak (by simp only; omega)]
theorem drawFind_d (hN:4000000≤N) {code:List Int} (hb:Byt code) (hl:code.length≤1048576):Ok (Gh N code) fun r=>r.g.bars.length≤41∧r.ground.length≤3:=by
 unfold Gh
 exact Bx (new_s hN hb hl) fun c hc=>Bx (any_d hN hc.1) fun r hr=>Dz ⟨hr.1.gd.len,hr.1.gl⟩
def BD (r:Pin×List (Int×List Int)):Prop:=r.1.g.bars.length≤41∧r.1.ground.length≤3∧r.2.length≤8∧∀ x∈r.2,x.2.length≤15
theorem both26_d (hN:4000000≤N) {code:List Int} (hb:Byt code) (hl:code.length≤1048576):Ok (Pw N code) BD:=by
 unfold Pw
 refine Bx (new_s hN hb hl) fun c hc=>Bx (any_d hN hc.1) fun r hr=>?_
 have b1:=hr.1.gd.len
 have b2:=hr.1.gl
 obtain ⟨l,b,l1,l2,l3,_,l5,_⟩:=Tt (N:=N) hN (p:=r.1) (by omega) (by omega)
 rw [l3,Option.bind_some]
 simp only
 have e1:((1:Int)).toNat=1:=rfl
 have e0:((0:Int)).toNat=0:=rfl
 have pl:BD ((⟨⟨r.1.g.n,r.1.g.bars⟩,r.1.ground⟩:Pin),l):=⟨b1,b2,l1,l2⟩
 refine Ee (fun c1=>?_) (fun _=>Dz pl)
 rw [decide_eq_true_eq] at c1
 refine Bx (Ji (hc.1.at hr.2) 5) fun x hx=>Ee (fun _=>Cc ⟨by omega,by omega⟩ (Dz ⟨b1,b2,?_,?_⟩)) (fun _=>Ee (fun _=>?_) (fun _=>Dz pl))
 ·simp only [List.length_drop,List.take_length]; omega
 ·intro y hy
  rw [List.take_length] at hy
  exact l2 y (List.mem_of_mem_drop hy)
 ·have hm:=getD_inR (d:=((0:Int),([]:List Int))) (show 0<l.length by omega)
  have h2:=(rs_mem l5 _ hm).2.1
  have h15:=l2 _ hm
  rw [e0,e1]
  refine Cc ⟨by omega,by omega⟩ (Cc ⟨by omega,by omega⟩ (Cc (by rw [List.length_set]) (Dz ⟨b1,b2,by simp only [List.length_set]; exact l1,fun y hy=>?_⟩)))
  rcases List.mem_or_eq_of_mem_set hy with hy | rfl
  ·exact l2 y hy
  ·simp only [List.take_length,List.length_drop]; omega
theorem drawRaising_d (hN:4000000≤N) {code:List Int} (hb:Byt code) (hl:code.length≤1048576):Ok (Gi N code) BD:=by
 unfold Gi
 exact Bx (both26_d hN hb hl) fun r hr=>Dz hr
theorem drawRaise_d (hN:4000000≤N) {code:List Int} (hb:Byt code) (hl:code.length≤1048576):Ok (Fu N code) fun r=>r.1.g.bars.length≤41∧r.1.ground.length≤3∧r.2.1.length≤100∧r.2.2.bars.length≤15:=by
 unfold Fu
 refine Bx (new_s hN hb hl) fun c hc=>Bx (both26_d hN hb hl) fun r hr=>?_
 obtain ⟨h1,h2,h3,h4⟩:=hr
 refine Cc ⟨by omega,by omega⟩ (Bx (Ji hc.1 ((r.2.length:Int)+1)) fun x hx=>?_)
 have x0:=hx.nn
 have x1:=hx.lt (by omega)
 have loop : ∀ (fuel i : Nat) (d : List Int), (i : Int) ≤ x.1 → x.1 < (fuel : Int) + i → d.length = i → Ok (Ec N r x (fun (l6 : List Int) =>
    cnd (decide (x.1<(r.2.length:Int))) (
     grd (0≤x.1∧x.1<(r.2.length:Int)) <|
     some ((⟨⟨r.1.g.n,r.1.g.bars⟩,r.1.ground⟩:Pin),l6,(⟨(r.2.getD ((x.1).toNat) (0,[])).1,(r.2.getD ((x.1).toNat) (0,[])).2⟩:Rse))) (
     (Bt N (⟨c.b,x.2.1,x.2.2⟩:Cur) (7:Int)).bind fun v7=>
     some ((⟨⟨r.1.g.n,r.1.g.bars⟩,r.1.ground⟩:Pin),l6,(⟨v7.1,([(0:Int),(1:Int)]:List Int)⟩:Rse)))) fuel (d,(i:Int))) fun r=>r.1.g.bars.length≤41∧r.1.ground.length≤3∧r.2.1.length≤100∧r.2.2.bars.length≤15:=by
  intro fuel
  induction fuel with
  | zero=>intro i d g1 g2 g3; omega
  | succ fuel ih=>
   intro i d g1 g2 g3
   rw [Ec]
   refine Ee (fun c1=>?_) (fun c1=>?_)
   ·rw [decide_eq_true_eq] at c1
    refine Cc ⟨by omega,by omega⟩ (Cc (by omega) (Cc ⟨by omega,by omega⟩ ?_))
    rw [Am]
    exact ih (i+1) _ (by omega) (by omega) (by simp; omega)
   ·refine Ee (fun c2=>?_) (fun c2=>?_)
    ·rw [decide_eq_true_eq] at c2
     refine Cc ⟨x0,c2⟩ (Dz ⟨h1,h2,by simp only; omega,?_⟩)
     exact h4 _ (getD_inR (by omega))
    ·exact Bx (Ji (hc.1.at hx.cur) 7) fun y hy=>Dz ⟨h1,h2,by simp only; omega,by simp⟩
 exact loop N 0 [] (by omega) (by omega) rfl
set_option maxRecDepth 20000 in
set_option maxHeartbeats 1600000 in
theorem fnRaising_v (code:List Int) (hb:Byt code):Qy 4000000 code=some true:=by
 have hN:4000000≤4000000:=Nat.le_refl _
 unfold Qy L_big
 rw [Option.bind_some]
 by_cases hc:(code.length:Int) > 1048576
 ·rw [Al hc]
 rw [Ak hc]
 obtain ⟨p,hp,hbl,hgl⟩:=drawFind_d hN hb (by omega)
 obtain ⟨⟨q,r⟩,hq,hqb,hqg,hr8,hr15⟩:=drawRaising_d hN hb (by omega)
 obtain ⟨⟨a,d,e⟩,ha,hab,hag,hd,he⟩:=drawRaise_d hN hb (by omega)
 simp only at hqb hqg hr8 hr15 hab hag hd he
 have hln:∀ {l:List (Int×List Int)},l.length≤8→(∀ x∈l,x.2.length≤15)→Dr l≤1048576:=fun {l} h1 h2=>lnRaise_le h1 h2
 obtain ⟨l,b,l1,l2,l3,l4,l5,l6⟩:=Tt (N:=4000000) hN (p:=p) (by omega) (by omega)
 have hok:RsOk l:=fun x hx=>by
  obtain ⟨i1,i2,i3⟩:=rs_mem l5 x hx
  have:=Xz i1
  have hpp:Az p=true:=by
   cases l with
   | nil=>cases hx
   | cons y l=>exact (Ki l5.1).1
  have hbd:=Bz hpp
  refine ⟨⟨by omega,by omega⟩,by have:=l2 x hx; omega,fun y hy=>?_⟩
  have:=i3 y hy
  exact ⟨by omega,by omega⟩
 obtain ⟨s,s1,s2⟩:=format_x (N:=4000000) hN (l:=l) (by omega) hok
 obtain ⟨g,g1,g2⟩:=needsGroup_x (N:=4000000) hN (p:=p) (by omega) (by omega)
 obtain ⟨x,x1,x2,x3,_⟩:=raising_v (N:=4000000) hN (p:=q) (by omega) (by omega) (hln hr8 hr15)
 obtain ⟨y,y1,y2⟩:=Tx (N:=4000000) hN (p:=q) (by omega) (by omega)
 have z1:=raisedS_s (N:=4000000) hN (p:=q) (by omega) (by omega) (hln hr8 hr15)
 have z2:=Wh (N:=4000000) hN (p:=q) (by omega) (by omega) (hln hr8 hr15)
 have z3:=sameInts_s hN (l:=Cd q r []) (by have:=Su q r []; simp at this; omega)
 have w1:=Abh 4000000 hN (p:=a) (by omega) (by omega) (dn:=d) (by omega) (r:=e) (by omega)
 have w2:=Sb 4000000 hN (p:=a) (by omega) (by omega) (dn:=d) (by omega) (r:=e) (by omega)
 have hy:x=true→y=true:=fun hx=>by
  obtain ⟨a1,a2,a3⟩:=x3 hx
  have:=rs_rigid hN a1 a2 a3
  rw [y1] at this
  exact Option.some.inj this
 have l3u:∀ {k:Unit→Option Bool},Hj 4000000 (l,b) k 4000000 ()=k ():=fun {k}=>by
  rw [show (4000000:Nat)=3999999+1 from rfl,Hj]
  cases decide ((0:Int)<(((l,b):List (Int×List Int)×Bool).1.length:Int)) <;> rfl
 cases b with
 | false=>
  cases x with
  | false=>simp only [hp,l4,l3,s1,s2,g1,g2,l3u,hq,ha,x1,x2,z1,z2,z3,w1,w2,bne_self_eq_false,Option.bind_some,Bool.not_true,cnd_false,cnd_true,beq_self_eq_true]
  | true=>
   rw [hy rfl] at y2
   simp only [hp,l4,l3,s1,s2,g1,g2,l3u,hq,ha,x1,x2,y2,z1,z2,z3,w1,w2,bne_self_eq_false,Option.bind_some,Bool.not_true,cnd_false,cnd_true,beq_self_eq_true]
 | true=>
  obtain ⟨p1,p2,p3⟩:=l6 rfl
  obtain ⟨u,_,u2,_,u4⟩:=raising_v (N:=4000000) hN (p:=p) (by omega) (by omega) (hln l1 l2)
  obtain ⟨d1,d2⟩:=Yi l5 (by simp) (by simp)
  rw [List.nil_append] at d1 d2
  have hsum:=bars_sum p1 l5 p3
  rw [ready_nil p1,List.nil_append,ready_all p1 (fun v hv=>all_inner p1 d1 d2 (by rw [List.length_map]; exact p2) v hv),Nat.zero_add] at hsum
  have hu:=u4 p1 l5 p2 (by unfold Fn; rw [List.drop_zero]; exact hsum)
  rw [hu] at u2
  have rg:=rs_rigid hN p1 l5 p2
  have lp:=fun {k:Unit→Option Bool}=>raising_l1 hN p1 (b:=true) l5 l1 l2 (k:=k) 4000000 0 (by omega) (by omega)
  simp only [List.take_zero,List.map_nil,barsIn,List.flatten_nil] at lp
  rw [show ((0:Nat):Int)=(0:Int) from rfl] at lp
  cases x with
  | false=>simp only [hp,l4,l3,s1,s2,g1,g2,u2,rg,lp,hq,ha,x1,x2,z1,z2,z3,w1,w2,bne_self_eq_false,Option.bind_some,Bool.not_true,cnd_false,cnd_true,beq_self_eq_true]
  | true=>
   rw [hy rfl] at y2
   simp only [hp,l4,l3,s1,s2,g1,g2,u2,rg,lp,hq,ha,x1,x2,y2,z1,z2,z3,w1,w2,bne_self_eq_false,Option.bind_some,Bool.not_true,cnd_false,cnd_true,beq_self_eq_true]
end Go.Proofs.Ytcljhpldfanhkaa
namespace Go.Proofs.Ytcljhpldfanhkaa.fnRaising
open Go.ChangeShapes Go.WideShapes Go.ChangeAt Go.RowKit
set_option linter.unusedVariables false
set_option linter.unusedSimpArgs false
theorem own:ownKnob Try.prog.godebug=none:=by kernel_rfl
set_option maxRecDepth 100000 in
theorem lifted (os:Os) (started:os.Started) (H:Type) (enc:TypeId×Value→H) :
  ReturnsInHanded {} Try.checked os 3 .any (Rows.fnRaisingSpec.pre6 enc Try.prog Try.f3 Rows.fnRaisingRow.domain false) (Rows.fnRaisingSpec.post enc Try.prog Try.f3 false true false false):=by
 refine returnsInHanded_of_change (C:=Try.checked) own started (by kernel_rfl) Try.func3
  (ChangeSpec.witness6 (enc:=enc) (C:=Try.checked) false ⟨#[],#[.slice none 0 0],[]⟩ 8 (by kernel_rfl) (by kernel_rfl) (by kernel_rfl) (by kernel_rfl)) ?_
 intro W base args ds gs before hval0 hW hcnd _
 have hval:∀ (j:Nat) t v,Try.f3.params[j]? = some t→args[j]? = some v→Value.okWide Try.prog W .any base t v:=hval0
 have hW':=hW
 obtain ⟨p,q,hA0,hV,rfl,hfz,hnd⟩:=hW
 have hA:DataW.TrodAll enc Try.prog W 0 (fun _=>true) true Try.f3.params.toList args.toList ds p:=hA0
 rw [Try.params3] at hA hval
 obtain ⟨v0,vs0,d0,ds0,p0,q0,hargs,rfl,rfl,h0,r0⟩:=trodAll_cons hA
 obtain ⟨rfl,rfl,rfl⟩:=trodAll_nil r0
 obtain rfl:args=#[v0]:=by cases args; simp_all
 obtain ⟨rfl,rfl⟩:=trodVars_none hV
 obtain ⟨ao0,ln0,cp0,rfl⟩:=okWide_slice Try.underlying22 (hval 0 22 v0 rfl rfl)
 obtain ⟨fl0,hf0⟩:=h0
 obtain ⟨u0,l0,e0,k0,rr0⟩:=open_bytesD Try.underlying22 Try.underlying5 (by kernel_rfl) hf0
 obtain rfl:_=u0:=by simpa [Value.cells] using e0
 clear hA0 hval0
 refine ((L_FnRaising_w 4000000 l0 true (fnRaising_v l0 fun i hi=>rr0 _ (Dc hi))).bool (mkArgs1 k0)).mono fun e W' ⟨he,hg⟩=>?_
 subst he
 exact ⟨_,rfl,law_post (by kernel_rfl) (by rw [Try.params3]; exact of_decide_eq_true (by kernel_rfl)) rfl Try.underlying4 rfl rfl hW' hg⟩
theorem over:Rows.fnRaisingRow.holds Try.pinned (OpenSpec.ofChange Rows.fnRaisingSpec):=
 OpenClaim.holds_of_wide 3 Try.f3 rfl rfl rfl rfl rfl rfl rfl ⟨rfl,rfl,rfl,rfl,rfl⟩ rfl rfl rfl rfl rfl (by kernel_rfl) Try.func3 (by kernel_rfl)
  (of_decide_eq_true (by kernel_rfl)) (by unfold Func.isWrapper; first | (rw [if_pos (by decide +kernel)]; kernel_rfl) | (rw [if_neg (by decide +kernel)]; exact ⟨rfl,rfl⟩))
  (fun os started H enc _=>lifted os started H enc)
theorem proved:Rows.FnRaisingSaid:=
 over
#print axioms proved
end Go.Proofs.Ytcljhpldfanhkaa.fnRaising
