/- Texts that the proof needs, put together: M12 M13 M14 G12 G3 G64 G65 M15 G88 Qj G66 G67 G68 Ql G90. -/
import Derived.Test.YtaipbhnpandbkaaGreatBLr3
import Derived.Test.YtaipbhnpandbkaaGreatBLr4
set_option maxRecDepth 20000
set_option maxHeartbeats 1600000
set_option linter.unusedVariables false
set_option linter.unusedSimpArgs false
namespace Go.Proofs.YtaipbhnpandbkaaGreat
section
open Go.RowKit Go.Deep
theorem idn_snoc {α:Type} (X:List (List α)) (c:List α):idn (X++[c])=idn X++[(X.length,c.length)]:=by simp [idn,List.zipIdx_append]
theorem appI (F:Nat) (X:List (List Int)) (c:List Int):(dR F (.intss X)).app (.irefs F [(X.length,c.length)])=some (dR F (.intss (X++[c]))):=by simp [dR,Sq.app,Nat.beq_refl,idn_snoc]
theorem appP (F:Nat) (X:List (List (Int×Int))) (c:List (Int×Int)):(dR F (.pairss X)).app (.irefs F [(X.length,c.length)])=some (dR F (.pairss (X++[c]))):=by simp [dR,Sq.app,Nat.beq_refl,idn_snoc]
theorem pushI (X:List (List Int)) (c:List Int):(Fq.ints (X.map some)).push (.ints c)=some (.ints ((X++[c]).map some)):=by simp [Fq.push]
theorem Zd (X:List (List (Int×Int))) (c:List (Int×Int)):(Fq.pairs (X.map some)).push (.pairs c)=some (.pairs ((X++[c]).map some)):=by simp [Fq.push]
section
variable {C:Cx} {ops:Array Oper} {K:PS→Prop} {o:Oper} {rest:List Oper} {s:PS} {TT:List (Nat×Ty)} {tm:List (Nat×D)} {rw':List (Nat×Option (TypeId×Sq))} {bx:List (Nat×Option (List D))} {cr B:List Nat} {j:Nat}
theorem Xw {F:Nat} (hF:Nat.blt F 4294967296=true) {te:TypeId} {q:Sq} (hq:q.deep=true) (hf:s.r (FK+F)=some (te,dF q)) {k:Nat} (hk:k<q.len):s.r (inn F k)=some (te,q.nn k):=by
 rw [Nat.blt_eq] at hF;rw [deep_r hF hq hf,if_pos hk]
theorem sLoadD (hT:Ki C.P TT) {t et:TypeId} {e:TypeId} {kk:Sq} {by':Nat} {x:Operand} {R F off m:Nat} {i:Int} {q:Sq} (hop:o.op=.load t x) (hy:Bf TT t=some (.sl e kk by')) (hx:s.ev x=.eptr R i off) (hR:s.r R=some (et,dR F q)) (hq:q.deep=true) (hoff:Nat.beq (off+1) q.sz=true) (hm:(q.nn i.toNat).len=m) (hi:0≤i∧i<(q.len:Int)) (ho:Jk C.n o.dst=true)
  (h:K (s.put o.dst (.irow F i.toNat m))):Step C o s K:=by
 have hi':i.toNat<q.len:=by omega
 have hoff':=Nat.eq_of_beq_eq_true hoff
 have hd:((dR F q).relem i.toNat)[off]? = some (.irow F i.toNat m):=by
  have hlt:off<q.sz:=by omega
  obtain ⟨d',hd'⟩:∃ d',(q.elem true i.toNat)[off]? = some d':=⟨_,List.getElem?_eq_getElem (by rw [Sq.elem_len]; exact hlt)⟩;rcases Rh (F:=F) hq hi' hd' with ⟨_,h2⟩ | ⟨y,h1,_⟩
  ·rw [hm] at h2; exact h2
  exfalso;subst h1;cases q <;> first | (cases hq; done) | skip
  case raises X=>simp [Sq.sz] at hoff'; subst hoff'; simp [Sq.elem] at hd'
  all_goals (simp [Sq.sz] at hoff'; subst hoff'; simp [Sq.elem] at hd')
 refine sRun (d:=.irow F i.toNat m) (fun M a w hr=>?_) ho h
 have hv:Co TT s (.load t x)=some (0≤i∧i<((dR F q).len:Int),.irow F i.toNat m):=by
  simp only [Co,hx,Gc,hR,hy]
  have:((dR F q).relem i.toNat).drop off=.irow F i.toNat m::((dR F q).relem i.toNat).drop (off+1):=by
   obtain ⟨h1,h2⟩:=List.getElem?_eq_some_iff.1 hd;rw [List.drop_eq_getElem_cons h1,h2]
  rw [this]
 obtain ⟨v,h1,h2⟩:=load_ok (P:=C.P) hT hr hv (by rw [Pf]; exact hi);refine ⟨v,?_,h2⟩;unfold execOp;rw [hop];show ((do pure (Next.value (←Instr.loadAt t (a.eval x))):Sem Next)).run C.P w=_;rw [Sem.run_bind,h1]; rfl
theorem oLoadD (hT:Ki C.P TT) (hw:Wanted C ops o ⟨tm,rw',bx⟩) {t et:TypeId} {e:TypeId} {kk:Sq} {by':Nat} {x:Operand} {R F off m b:Nat} {i:Int} (q:Sq) (hop:o.op=.load t x) (hy:Bf TT t=some (.sl e kk by')) (hx:(PS.ev ⟨tm,rw',bx⟩ x)=.eptr R i off) (hR:PS.r ⟨tm,rw',bx⟩ R=some (et,dR F q)) (hq:q.deep=true) (hoff:Nat.beq (off+1) q.sz=true) (hm:(q.nn i.toNat).len=m) (hd:o.dst=some b) (hn:Nat.blt b C.n=true) (hi:0≤i∧i<(q.len:Int))
  (h:VO C ops K rest ⟨(b,.irow F i.toNat m)::tm,rw',bx⟩):VO C ops K (o::rest) ⟨tm,rw',bx⟩:=
 oStepW hw (sLoadD hT hop hy hx hR hq hoff hm hi (by rw [hd]; exact hn) (by rw [hd]; exact h))
theorem cLoadD (hT:Ki C.P TT) (hw:Wanted C ops o ⟨tm,rw',bx⟩) {t et:TypeId} {e:TypeId} {kk:Sq} {by':Nat} {x:Operand} {R F off m b:Nat} {i:Int} (q:Sq) (hop:o.op=.load t x) (hy:Bf TT t=some (.sl e kk by')) (hx:(PS.ev ⟨tm,rw',bx⟩ x)=.eptr R i off) (hR:PS.r ⟨tm,rw',bx⟩ R=some (et,dR F q)) (hq:q.deep=true) (hoff:Nat.beq (off+1) q.sz=true) (hm:(q.nn i.toNat).len=m) (hd:o.dst=some b) (hn:Nat.blt b C.n=true) (hi:0≤i∧i<(q.len:Int))
  (h:QC C ops K rest ⟨(b,.irow F i.toNat m)::tm,rw',bx⟩):QC C ops K (o::rest) ⟨tm,rw',bx⟩:=
 ⟨.irow F i.toNat m,qStep hw fun s1 hag=>sLoadD hT hop hy ((hag.ev x (by rw [hop]; simp [Op.operands])).trans hx) (by rw [hag.r]; exact hR) hq hoff hm hi (by rw [hd]; exact hn) rfl,by rw [hd]; exact h⟩
theorem Jb (q':Sq) (hT:Ki C.P TT) (hg:o.guard=none) {t e:TypeId} {k q qb:Sq} {by' b R F m m':Nat} {x y:Operand} {dy:D} {ob:Prop} (hop:o.op=.call { callee:=.builtin .append,args:=#[x,y],argTypes:=#[t,t] }) (hd:o.dst=some b) (hy:Bf TT t=some (.sl e k by'))
  (hx:(PS.ev ⟨tm,rw',bx⟩ x)=.row R 0 m) (hR:PS.r ⟨tm,rw',bx⟩ R=some (e,dR F q)) (hyy:(PS.ev ⟨tm,rw',bx⟩ y)=dy) (hs:Rq ⟨tm,rw',bx⟩ dy=some (ob,qb)) (hob:ob) (hk:Nat.beq k.sz q.sz=true) (hbb:Nat.ble by' 32=true) (hn:Nat.blt b C.n=true) (hlo:Nat.ble R 999999=true)
  (hm:m=q.len) (hm':m'=q'.len) {s':PS} (hnf:nf ⟨(b,.row R 0 m')::(PS.kill ⟨tm,rw',bx⟩ R).tmp,(R,some (e,dR F q'))::rw',(PS.kill ⟨tm,rw',bx⟩ R).box⟩=some s') (happ:(dR F q).app qb=some (dR F q')) (hbd:q.len+qb.len≤4294967296) (h:VO C ops K rest s'):VO C ops K (o::rest) ⟨tm,rw',bx⟩:=by
 subst hm';refine vOp hg (sAppend hT hop hd hy hx hR (by rw [dR_sz]; exact hk) hyy hs happ hbb hn (by rw [Pf]; exact hm) hob (by rw [Pf]; exact hbd) hlo ?_);rw [Pf];exact vNf hnf h
end
end
section
open Go.RowKit Go.Deep
theorem fam_get {q:Sq} (hq:q.deep=true) {k:Nat} (hk:k<q.len):(Ru q).get k=some (q.nn k):=by rw [famOf_get hq,if_pos hk]
section
variable {C:Cx} {tm:List (Nat×D)} {rw':List (Nat×Option (TypeId×Sq))} {bx:List (Nat×Option (List D))} {s':PS}
end
section
variable {C:Cx} {ops:Array Oper} {K:PS→Prop} {o:Oper} {rest:List Oper} {s:PS} {TT:List (Nat×Ty)} {tm:List (Nat×D)} {rw':List (Nat×Option (TypeId×Sq))} {bx:List (Nat×Option (List D))}
end
end
section
open Go.RowKit Go.Deep
section
variable {C:Cx} {ops:Array Oper} {K:PS→Prop} {o:Oper} {rest:List Oper} {TT:List (Nat×Ty)} {tm:List (Nat×D)} {rw':List (Nat×Option (TypeId×Sq))} {bx:List (Nat×Option (List D))} {cr B:List Nat} {j:Nat}
end
end
section
open Go.RowKit
end
section
open Go.RowKit
end
section
open Go.RowKit
end
section
open Go.RowKit Go.Deep
def Ft (N:Nat) (a_0:Int) (n_1:Int) (k:Int→Option (Int)):Nat→(Int×Int)→Option (Int)
 | 0,_=>none
 | n+1,(x5,i6)=>
  cnd (decide (i6<n_1)) (
   grd (Bg (x5*a_0)) <|
   grd (Bg (i6+(1:Int))) <|
   Ft N a_0 n_1 k n ((x5*a_0),(i6+(1:Int)))) (
   k x5)
def Qr (N:Nat) (a_0:Int) (n_1:Int):Option (Int):=
 Ft N a_0 n_1 (fun (x3 : Int) =>
    some x3) N ((1:Int),(0:Int))
theorem S_l17Power_w (N:Nat) (a_0:Int) (n_1:Int) (r:Int) (h:Qr N a_0 n_1=some r):PCall Tryz.prog 83 [.int a_0,.int n_1] [] (.int r):=by
 unfold Qr at h;refine Ak (TT:=TT) tt Tryz.func83 O O Tryz.ntmps83 (congrArg Array.toList Tryz.results83) O O fun w0=>(Ah (Ab (Aa O (Af (Ah (Ab (Aa O (Af (Ah ?_)))))))));refine Ah (Ab (Aa O (Af (Cb (F:=fun k=>Ft N a_0 n_1 k) h (α:=Int) (J:=fun (x3:Int)=>(⟨[(5,.int x3)],[],[]⟩:PS)) ?_ ?_))))
 ·rintro x3 h;show VC _ _ _ (⟨[(5,.int x3)],[],[]⟩:PS);refine Ah (Ab (Aa O (Aa O (Af (Ay ?_)))));show ∃ _,_;cases h;exact ⟨[],_,O,Y,O,.eq O,O⟩
 intro k h;refine Aq (Bh (α:=Int×Int) (fun | (x5,i6)=>(⟨[(0,.int a_0),(1,.int n_1),(5,.int x5),(6,.int i6)],[],[]⟩:PS)) (Ft N a_0 n_1 k) h (En.of ⟨rfl,rfl,rfl,rfl,Y⟩ trivial trivial) (fun _=>rfl) ?_);rintro n ⟨x5,i6⟩ h;rw [Ft] at h;show VC _ _ _ (⟨[(0,.int a_0),(1,.int n_1),(5,.int x5),(6,.int i6)],[],[]⟩:PS);refine Ah (Ah (Ab (Aa O (Aa O (Aa O (Af (At O (fun hb1=>?_) (fun hb1=>?_))))))))
 ·replace h:=Ai hb1 h;refine Ar (Ah (Aq (Ab (Aa O (Aa O ?_)))));obtain ⟨hg2,h⟩:=Ac h;refine Ae tt O hg2 (Aa O (Af (Ab (Aa O ?_))));obtain ⟨hg3,h⟩:=Ac h;refine Ae tt O hg3 (Aa O (Af ?_));show ∃ _,_;exact ⟨((x5*a_0),(i6+(1:Int))),(En.of ⟨O,O,O,O,Y⟩ trivial trivial),h⟩
 replace h:=Aj hb1 h;refine Br ?_;show ∃ _,_;exact ⟨x5,(En.of ⟨O,Y⟩ trivial trivial),h⟩
def Ge (N:Nat) (l_0:Lnk) (v1:List Int) (k:(List (Int×Int))→Option ((List (List (Int×Int)))×Bool)):Nat→((List (Int×Int))×Int×Int)→Option ((List (List (Int×Int)))×Bool)
 | 0,_=>none
 | n+1,(l86,k87,i88)=>
  cnd (decide (i88≥(0:Int))) (
   grd (0≤i88∧i88<(v1.length:Int)) <|
   grd ((5:Int)≠0) <|
   grd ((5:Int)≠0∧Bg (Int.tdiv k87 (5:Int))) <|
   grd (0≤(v1.getD ((i88).toNat) 0)∧(v1.getD ((i88).toNat) 0)<((([]:List (Int×Int))++l_0.f.places).length:Int)) <|
   grd (0≤(v1.getD ((i88).toNat) 0)∧(v1.getD ((i88).toNat) 0)<(l86.length:Int)) <|
   grd ((25:Int)≠0∧Bg (Int.tdiv k87 (25:Int))) <|
   grd (Bg (i88-(1:Int))) <|
   Ge N l_0 v1 k n (((l86.set (((v1.getD ((i88).toNat) 0)).toNat) ((Int.tmod k87 (5:Int)),(l86.getD (((v1.getD ((i88).toNat) 0)).toNat) (0,0)).2)).set (((v1.getD ((i88).toNat) 0)).toNat) (((l86.set (((v1.getD ((i88).toNat) 0)).toNat) ((Int.tmod k87 (5:Int)),(l86.getD (((v1.getD ((i88).toNat) 0)).toNat) (0,0)).2)).getD (((v1.getD ((i88).toNat) 0)).toNat) (0,0)).1,(Int.tmod (Int.tdiv k87 (5:Int)) (5:Int)))),(Int.tdiv k87 (25:Int)),(i88-(1:Int)))) (
   k l86)
def Ca (N:Nat) (l_0:Lnk) (v1:List Int) (k:(List (List (Int×Int)))→Option ((List (List (Int×Int)))×Bool)):Nat→((List (List (Int×Int)))×Int)→Option ((List (List (Int×Int)))×Bool)
 | 0,_=>none
 | n+1,(l67,code68)=>
  (Qr N (25:Int) (v1.length:Int)).bind fun v79=>
  cnd (decide (code68<v79)) (
   grd (l_0.f.places.length≤4294967296) <|
   grd (Bg ((v1.length:Int)-(1:Int))) <|
   Ge N l_0 v1 (fun (l83 : List (Int × Int)) =>
      grd ((([]:List (Int×Int))++l_0.f.places).length=l83.length) <|
      (Qs N l_0 l83).bind fun v84=>
      cnd v84 (
       grd (l67.length+1≤4294967296) <|
       grd (Bg (code68+(1:Int))) <|
       Ca N l_0 v1 k n ((l67++([l83]:List (List (Int×Int)))),(code68+(1:Int)))) (
       grd (Bg (code68+(1:Int))) <|
       Ca N l_0 v1 k n (l67,(code68+(1:Int))))) N ((([]:List (Int×Int))++l_0.f.places),code68,((v1.length:Int)-(1:Int)))) (
   k l67)
def Gj (N:Nat) (l_0:Lnk):Option ((List (List (Int×Int)))×Bool):=
 (Kc N l_0).bind fun v1=>
 (Hk N l_0).bind fun v2=>
 cnd (!v2) (
  some (([]:List (List (Int×Int))),false)) (
  Ca N l_0 v1 (fun (l45 : List (List (Int × Int))) =>
     some (l45,true)) N (([]:List (List (Int×Int))),(0:Int)))
theorem Hb (N:Nat) (l_0:Lnk) (r:(List (List (Int×Int)))×Bool) (h:Gj N l_0=some r):PCall Tryz.prog 32 [lD l_0] [(45,.pairss r.1)] (.tup [.row 0 0 r.1.length,.bool r.2]):=by
 unfold Gj at h;refine Ak (TT:=TT) tt Tryz.func32 O O Tryz.ntmps32 (congrArg Array.toList Tryz.results32) O O fun w0=>(Ah (Ab (Lw O O O O O O O O O (Aa O (Aa O (Af (Ah (Ab (Cj tt (Ag O) O O O O ?_)))))))));refine Aa O (Af (Ah (Ab (Aa O ?_))));obtain ⟨v1,hc1,h⟩:=Ad h;refine Bn (Zk N l_0 v1 hc1) O O O O O O O O ⟨⟨O,O,O,O,Y⟩,Y⟩ (Aa O (Af (Ah (Ah (Ab (Aa O ?_))))));obtain ⟨v2,hc2,h⟩:=Ad h;refine Bn (Mr N l_0 v2 hc2) O O O O O O O O ⟨⟨O,O,O,O,Y⟩,Y⟩ (Aa O (Af (At O (fun hb3=>?_) (fun hb3=>?_))))
 ·replace h:=Ai hb3 h;refine Ah (Ab (Aa O (Aa O (Aa O (Af (Gw 2 9001 45 (.pairss []) O O O O (Ay ?_)))))));show ∃ _,_;cases h;exact ⟨[9001],_,O,⟨O,Y⟩,O,.eq O,O⟩
 replace h:=Aj hb3 h;refine Ar (Ah (Ah (Ab (Aa O (Af (Cb (F:=fun k=>Ca N l_0 v1 k) h (α:=List (List (Int×Int))) (J:=fun (l45:List (List (Int×Int)))=>(⟨[(4,.row 57 0 l45.length)],[(57,some (45,.pairss l45))],[]⟩:PS)) ?_ ?_))))))
 ·rintro l45 h;show VC _ _ _ (⟨[(4,.row 57 0 l45.length)],[(57,some (45,.pairss l45))],[]⟩:PS);refine Ah (Ab (Aa O (Aa O (Aa O (Af (Ay ?_))))));show ∃ _,_;cases h;exact ⟨[57],_,O,⟨O,Y⟩,O,.eq O,O⟩
 intro k h;refine Aq (Gw 4 57 45 (.pairss []) rfl rfl rfl rfl (Bh (α:=(List (List (Int×Int)))×Int) (fun | (l67,code68)=>(⟨[(1,.ptr 1 0),(4,.row 57 0 l67.length),(5,.row 1120 0 v1.length),(6,.int code68)],[(57,some (45,.pairss l67)),(1120,some (3,.ints v1))],[(1,some [.int l_0.f.g.n,.ro false (.pairs l_0.f.g.bars),.ro false (.pairs l_0.f.places),.ro false (.ints l_0.ground)])]⟩:PS)) (Ca N l_0 v1 k) h (En.of ⟨rfl,rfl,rfl,rfl,Y⟩ ⟨rfl,rfl,Y⟩ ⟨rfl,Y⟩) (fun _=>rfl) ?_));rintro n ⟨l67,code68⟩ h;rw [Ca] at h;show VC _ _ _ (⟨[(1,.ptr 1 0),(4,.row 57 0 l67.length),(5,.row 1120 0 v1.length),(6,.int code68)],[(57,some (45,.pairss l67)),(1120,some (3,.ints v1))],[(1,some [.int l_0.f.g.n,.ro false (.pairs l_0.f.g.bars),.ro false (.pairs l_0.f.places),.ro false (.ints l_0.ground)])]⟩:PS);refine Ah (Ah (Ab (Aa O (Aa O (Aa O ?_)))));obtain ⟨v79,hc4,h⟩:=Ad h;refine Bn (S_l17Power_w N (25:Int) (v1.length:Int) v79 hc4) O O O O O O O O ⟨O,O,Y⟩ (Aa O (Af (At O (fun hb5=>?_) (fun hb5=>?_))))
 ·replace h:=Ai hb5 h;refine Ar (Ah (Aq (Ah (Ab (Cj tt (Ag O) O O O O (Aa O (Aa O (Aa O ?_))))))));obtain ⟨hg6,h⟩:=Ac h;refine oAppNil tt (Ag O) O O O O O O O (fun _=>O) O O O O O hg6 (Aa O (Af (Ah (Ab (Aa O (Aa O (Af (Ah (Ah ?_)))))))));refine Ab (Aa O (Aa O ?_));obtain ⟨hg7,h⟩:=Ac h;refine Ae tt O hg7 (Aa O (Af (Cb (F:=fun k=>Ge N l_0 v1 k) h (α:=List (Int×Int)) (J:=fun (l83:List (Int×Int))=>(⟨[(1,.ptr 1 0),(4,.row 57 0 l67.length),(5,.row 1120 0 v1.length),(6,.int code68),(7,.row 28 0 ((([]:List (Int×Int))++l_0.f.places).length))],[(57,some (45,.pairss l67)),(1120,some (3,.ints v1)),(28,some (95,.pairs l83))],[(1,some [.int l_0.f.g.n,.ro false (.pairs l_0.f.g.bars),.ro false (.pairs l_0.f.places),.ro false (.ints l_0.ground)])]⟩:PS)) ?_ ?_)))
  ·rintro l83 h;show VC _ _ _ (⟨[(1,.ptr 1 0),(4,.row 57 0 l67.length),(5,.row 1120 0 v1.length),(6,.int code68),(7,.row 28 0 ((([]:List (Int×Int))++l_0.f.places).length))],[(57,some (45,.pairss l67)),(1120,some (3,.ints v1)),(28,some (95,.pairs l83))],[(1,some [.int l_0.f.g.n,.ro false (.pairs l_0.f.g.bars),.ro false (.pairs l_0.f.places),.ro false (.ints l_0.ground)])]⟩:PS);refine Ah (Ab (Aa O (Aa O ?_)));obtain ⟨hg8,h⟩:=Ac h;obtain ⟨v84,hc9,h⟩:=Ad h;refine Bn (S_IsPose_w N l_0 l83 v84 hc9) O O O O O O O O ⟨⟨O,O,O,O,Y⟩,(.inl ⟨hg8,O⟩),Y⟩ (Af (At O (fun hb10=>?_) (fun hb10=>?_)))
   ·replace h:=Ai hb10 h;refine Ab (Aa O (Aa O (oFreeze (t:=55) O O O hg8 (Dr tt O O O O O O O O O O O ?_))));obtain ⟨hg11,h⟩:=Ac h;refine Cn tt O O O O O O O O O O O O O O O O (Nat.le_of_eq (Nat.zero_add _)) hg11 (Aa O (Af (Ab (Aa O ?_))));obtain ⟨hg12,h⟩:=Ac h;refine Ae tt O hg12 (Aa O (Af ?_));show ∃ _,_;exact ⟨((l67++([l83]:List (List (Int×Int)))),(code68+(1:Int))),(En.of ⟨O,O,O,O,Y⟩ ⟨O,O,Y⟩ ⟨O,Y⟩),h⟩
   replace h:=Aj hb10 h;refine Ar (Ab (Aa O ?_));obtain ⟨hg13,h⟩:=Ac h;refine Ae tt O hg13 (Aa O (Af ?_));show ∃ _,_;exact ⟨(l67,(code68+(1:Int))),(En.of ⟨O,O,O,O,Y⟩ ⟨O,O,Y⟩ ⟨O,Y⟩),h⟩
  intro k h;refine Aq (Bh (α:=(List (Int×Int))×Int×Int) (fun | (l86,k87,i88)=>(⟨[(1,.ptr 1 0),(4,.row 57 0 l67.length),(5,.row 1120 0 v1.length),(6,.int code68),(7,.row 28 0 ((([]:List (Int×Int))++l_0.f.places).length)),(8,.int k87),(9,.int i88)],[(57,some (45,.pairss l67)),(1120,some (3,.ints v1)),(28,some (95,.pairs l86))],[(1,some [.int l_0.f.g.n,.ro false (.pairs l_0.f.g.bars),.ro false (.pairs l_0.f.places),.ro false (.ints l_0.ground)])]⟩:PS)) (Ge N l_0 v1 k) h (En.of ⟨rfl,rfl,rfl,rfl,rfl,rfl,rfl,Y⟩ ⟨rfl,rfl,rfl,Y⟩ ⟨rfl,Y⟩) (fun _=>rfl) ?_);rintro n ⟨l86,k87,i88⟩ h;rw [Ge] at h;show VC _ _ _ (⟨[(1,.ptr 1 0),(4,.row 57 0 l67.length),(5,.row 1120 0 v1.length),(6,.int code68),(7,.row 28 0 ((([]:List (Int×Int))++l_0.f.places).length)),(8,.int k87),(9,.int i88)],[(57,some (45,.pairss l67)),(1120,some (3,.ints v1)),(28,some (95,.pairs l86))],[(1,some [.int l_0.f.g.n,.ro false (.pairs l_0.f.g.bars),.ro false (.pairs l_0.f.places),.ro false (.ints l_0.ground)])]⟩:PS);refine Ah (Ah (Ab (Aa O (Aa O (Af (At O (fun hb14=>?_) (fun hb14=>?_)))))))
  ·replace h:=Ai hb14 h;refine Ar (Ah (Aq (Ah (Ab (Aa O (Aa O (Aa O ?_)))))));obtain ⟨hg15,h⟩:=Ac h;refine Ae tt O hg15 (Ae tt O hg15 (Aa O ?_));obtain ⟨hg16,h⟩:=Ac h;refine Ae tt O hg16 (Aa O ?_);obtain ⟨hg17,h⟩:=Ac h;refine Ae tt O hg17 (Ae tt O hg16 (Gb (Ag O) (Ds Fz O O) O O ?_));obtain ⟨hg18,h⟩:=Ac h;refine Ae tt O hg18 ?_;obtain ⟨hg19,h⟩:=Ac h;refine As tt O O O O O O O O O O ⟨_,_,O,hg19.1,hg19.2⟩ ⟨hg19,(by simpa [Sq.len] using hg19),Y⟩ (Af (Ab (Aa O ?_)));obtain ⟨hg20,h⟩:=Ac h;refine Ae tt O hg20 (Aa O (Af (Ab (Aa O ?_))));obtain ⟨hg21,h⟩:=Ac h;refine Ae tt O hg21 (Aa O (Af ?_));show ∃ _,_;exact ⟨(((l86.set (((v1.getD ((i88).toNat) 0)).toNat) ((Int.tmod k87 (5:Int)),(l86.getD (((v1.getD ((i88).toNat) 0)).toNat) (0,0)).2)).set (((v1.getD ((i88).toNat) 0)).toNat) (((l86.set (((v1.getD ((i88).toNat) 0)).toNat) ((Int.tmod k87 (5:Int)),(l86.getD (((v1.getD ((i88).toNat) 0)).toNat) (0,0)).2)).getD (((v1.getD ((i88).toNat) 0)).toNat) (0,0)).1,(Int.tmod (Int.tdiv k87 (5:Int)) (5:Int)))),(Int.tdiv k87 (25:Int)),(i88-(1:Int))),(En.of ⟨O,O,O,O,O,O,O,Y⟩ ⟨O,O,O,Y⟩ ⟨O,Y⟩),h⟩
  replace h:=Aj hb14 h;refine Br ?_;show ∃ _,_;exact ⟨l86,(En.of ⟨O,O,O,O,O,Y⟩ ⟨O,O,O,Y⟩ ⟨O,Y⟩),h⟩
 replace h:=Aj hb5 h;refine Br ?_;show ∃ _,_;exact ⟨l67,(En.of ⟨O,Y⟩ ⟨O,Y⟩ trivial),h⟩
end
section
open Go.RowKit Go.Deep
theorem wp_only {P:Program} {o:Oper} {a:Act} {w:World} {K:Act→World→Prop} {Q Q':Exit→Act→World→Prop} (h:∀ e a w,e≠.normal→Q e a w→Q' e a w) (hh:o.wp P a w K Q):o.wp P a w K Q':=by
 unfold Oper.wp at *;generalize (execOp a.eval o).run P w=r at *
 cases r with
 | ok n w'=>
  cases n <;> simp only [Oper.upon] at hh ⊢ <;>
   first
    | exact hh
    | exact Calls.mono hh (fun e w'' he=>by
      cases e
      ·exact he
      ·exact h _ _ _ (by simp) he
      obtain ⟨a',w3,h3⟩:=he
      exact ⟨a',w3,h _ _ _ (by simp) h3⟩)
 | halt x w'=>cases x <;> simp only [Oper.upon] at hh ⊢ <;> first | exact hh | exact h _ _ _ (by simp) hh
structure VX (C:Cx) (ops:Array Oper) (Q:Exit→PS→Prop) (fuel:Nat) (listed:Array Bool) (s:PS):Prop where
 out:∀ M a w,Rel C.w0 C.O0 C.n M s a w→wpAny C.P .any ops (fun e a' w'=>∃ s' M',Q e s'∧Rel C.w0 C.O0 C.n M' s' a' w') fuel listed a w
section
variable {C:Cx} {ops:Array Oper} {Q:Exit→PS→Prop} {s:PS} {fuel:Nat} {listed:Array Bool}
theorem vRegionX {id:Nat} {l:List Oper} (hm:C.P.follows .mixedOrders=true) (h:VX C l.toArray Q l.length (Array.replicate l.length false) s):VC C (.region id l.toArray true) Q s:=
 ⟨fun M a w hr=>wp_region_any hm (by rw [List.size_toArray]; exact h.out M a _ hr.drew)⟩
def AllX (C:Cx) (ops:Array Oper) (Q:Exit→PS→Prop) (fuel:Nat) (listed:Array Bool) (s:PS):List Nat→Prop
 | []=>True
 | i::l=>(∃ o,ops.toList[i]? = some o∧VO C ops (VX C ops Q fuel (listed.setIfInBounds i true)) [o] s)∧AllX C ops Q fuel listed s l
theorem allX_mem:∀ {l:List Nat} {i:Nat},AllX C ops Q fuel listed s l→i∈l→∃ o,ops.toList[i]? = some o∧VO C ops (VX C ops Q fuel (listed.setIfInBounds i true)) [o] s
 | _::l,i,h,hi=>by
  rcases List.mem_cons.1 hi with rfl | hi
  ·exact h.1
  exact allX_mem h.2 hi
theorem Ec (rs:List Nat) (hr:Region.ready .any ops listed=rs) (hne:rs.isEmpty=false) (h:AllX C ops Q fuel listed s rs):VX C ops Q (fuel+1) listed s:=⟨fun M a w hrl=>by
 refine ⟨fun h0=>?_,fun i hi=>?_⟩
 ·rw [hr] at h0; subst h0; cases hne
 rw [hr] at hi;obtain ⟨o,ho,hv⟩:=allX_mem h hi;have ho':ops[i]? = some o:=by rw [←Array.getElem?_toList]; exact ho
 let Q':Exit→Act→World→Prop:=fun e a' w'=>match e with | .normal=>wpAny C.P .any ops (fun e a' w'=>∃ s' M',Q e s'∧Rel C.w0 C.O0 C.n M' s' a' w') fuel (listed.setIfInBounds i true) a' w' | _=>False
 have hl:=hv.out M a w Q' hrl fun M' s' a' w' hk hr'=>hk.out M' a' w' hr';have hF:∀ e a w,e≠.normal→Q' e a w→∀ (X:Prop),X:=fun e a w he h X=>by cases e <;> first | exact absurd rfl he | exact h.elim
 unfold wpOp;rw [ho'];simp only [wpList] at hl;by_cases hw:Region.wanted o (yielded ops a.tmps)=true
 ·rw [if_pos hw] at hl;simp only [hw,if_true];rcases hl with hl | ⟨_,hl⟩
  ·exact .inl (wp_only (Q:=Q') (fun e a w he h=>hF e a w he h _) hl)
  obtain ⟨a',w',h'⟩:=hl; exact h'.elim
 rw [if_neg hw] at hl;simp only [hw]
 exact hl⟩
theorem Zj (hr:Region.ready .any ops listed=[]) (h:Q .normal s):VX C ops Q fuel listed s:=⟨fun M a w hrl=>by
 cases fuel with
 | zero=>exact ⟨hr,_,_,h,hrl⟩
 | succ fuel=>exact ⟨fun _=>⟨_,_,h,hrl⟩,fun i hi=>by rw [hr] at hi; cases hi⟩⟩
theorem Jj {i:Nat} {l:List Nat} {o:Oper} (ho:ops.toList[i]? = some o) (h1:VO C ops (VX C ops Q fuel (listed.setIfInBounds i true)) [o] s) (h2:AllX C ops Q fuel listed s l):AllX C ops Q fuel listed s (i::l):=⟨⟨o,ho,h1⟩,h2⟩
theorem xJoin {c:Code} {J:PS} (h:VC C c (fun e s=>match e with | .normal=>En C s J | _=>False) s) (hJ:Q .normal J):VC C c Q s:=⟨fun M a w hr=>by
 refine Code.wp_mono ?_ (h.out M a w hr);rintro e a' w' ⟨s',M',hq,hr'⟩
 cases e with
 | normal=>
  obtain ⟨M'',hr''⟩:=hq.out M' a' w' hr';exact ⟨J,M'',hJ,hr''⟩
 | _=>exact hq.elim⟩
end
section
variable {C:Cx} {tm:List (Nat×D)} {rw':List (Nat×Option (TypeId×Sq))} {bx:List (Nat×Option (List D))} {s':PS}
end
end
section
open Go.RowKit Go.Deep
def Et (N:Nat) (i_0:Int) (l_2:Lnk) (rec_99:Int→(List Int)→Lnk→(List (Int×Int))→(List (List (Int×Int)))→Option ((List Int)×(List (Int×Int))×(List (List (Int×Int))))) (x87:Int) (k:((List Int)×(List (Int×Int))×(List (List (Int×Int))))→Option ((List Int)×(List (Int×Int))×(List (List (Int×Int))))):Nat→((List Int)×(List (Int×Int))×(List (List (Int×Int)))×Int)→Option ((List Int)×(List (Int×Int))×(List (List (Int×Int))))
 | 0,_=>none
 | n+1,(l118,l119,l120,x121)=>
  cnd (decide (x121<(5:Int))) (
   grd (0≤i_0∧i_0<(l118.length:Int)) <|
   grd (0≤(l118.getD ((i_0).toNat) 0)∧(l118.getD ((i_0).toNat) 0)<(l119.length:Int)) <|
   grd (Bg (i_0+(1:Int))) <|
   grd (l119.length=((l119.set (((l118.getD ((i_0).toNat) 0)).toNat) (x121,(l119.getD (((l118.getD ((i_0).toNat) 0)).toNat) (0,0)).2)).set (((l118.getD ((i_0).toNat) 0)).toNat) (((l119.set (((l118.getD ((i_0).toNat) 0)).toNat) (x121,(l119.getD (((l118.getD ((i_0).toNat) 0)).toNat) (0,0)).2)).getD (((l118.getD ((i_0).toNat) 0)).toNat) (0,0)).1,x87)).length) <|
   (rec_99 (i_0+(1:Int)) l118 l_2 ((l119.set (((l118.getD ((i_0).toNat) 0)).toNat) (x121,(l119.getD (((l118.getD ((i_0).toNat) 0)).toNat) (0,0)).2)).set (((l118.getD ((i_0).toNat) 0)).toNat) (((l119.set (((l118.getD ((i_0).toNat) 0)).toNat) (x121,(l119.getD (((l118.getD ((i_0).toNat) 0)).toNat) (0,0)).2)).getD (((l118.getD ((i_0).toNat) 0)).toNat) (0,0)).1,x87)) l120).bind fun v123=>
   grd (Bg (x121+(1:Int))) <|
   Et N i_0 l_2 rec_99 x87 k n (v123.1,v123.2.1,v123.2.2,(x121+(1:Int)))) (
   k (l118,l119,l120))
def Dz (N:Nat) (i_0:Int) (l_2:Lnk) (rec_99:Int→(List Int)→Lnk→(List (Int×Int))→(List (List (Int×Int)))→Option ((List Int)×(List (Int×Int))×(List (List (Int×Int))))) (k:((List Int)×(List (Int×Int))×(List (List (Int×Int))))→Option ((List Int)×(List (Int×Int))×(List (List (Int×Int))))):Nat→((List Int)×(List (Int×Int))×(List (List (Int×Int)))×Int)→Option ((List Int)×(List (Int×Int))×(List (List (Int×Int))))
 | 0,_=>none
 | n+1,(l84,l85,l86,x87)=>
  cnd (decide (x87<(5:Int))) (
   Et N i_0 l_2 rec_99 x87 (fun (x:(List Int)×(List (Int×Int))×(List (List (Int×Int))))=>
     match x with
     | (l113,l114,l115)=>
      grd (Bg (x87+(1:Int))) <|
      Dz N i_0 l_2 rec_99 k n (l113,l114,l115,(x87+(1:Int)))) N (l84,l85,l86,(0:Int))) (
   k (l84,l85,l86))
def Kq (N:Nat) (rec_99:Int→(List Int)→Lnk→(List (Int×Int))→(List (List (Int×Int)))→Option ((List Int)×(List (Int×Int))×(List (List (Int×Int))))) (i_0:Int) (free_1:List Int) (l_2:Lnk) (at_3:List (Int×Int)) (out_4:List (List (Int×Int))):Option ((List Int)×(List (Int×Int))×(List (List (Int×Int)))):=
 cnd (i_0==(free_1.length:Int)) (
  (Sv N l_2 at_3).bind fun v1=>
  jn (fun (l2 : List (List (Int × Int))) =>
     some (free_1,at_3,l2)) fun k3=>
   cnd v1 (
    grd (((at_3.take (0+at_3.length)).drop 0).length≤4294967296) <|
    grd (out_4.length+1≤4294967296) <|
    k3 (out_4++[(([]:List (Int×Int))++((at_3.take (0+at_3.length)).drop 0))])) (
    k3 out_4)) (
  Dz N i_0 l_2 rec_99 (fun (x:(List Int)×(List (Int×Int))×(List (List (Int×Int))))=>
    match x with
    | (l62,l63,l64)=>
     some (l62,l63,l64)) N (free_1,at_3,out_4,(0:Int)))
def Gr (N:Nat):Nat→Int→(List Int)→Lnk→(List (Int×Int))→(List (List (Int×Int)))→Option ((List Int)×(List (Int×Int))×(List (List (Int×Int))))
 | 0,_,_,_,_,_=>none
 | d+1,i_0,free_1,l_2,at_3,out_4=>Kq N (Gr N d) i_0 free_1 l_2 at_3 out_4
def Rg (N:Nat) (i_0:Int) (free_1:List Int) (l_2:Lnk) (at_3:List (Int×Int)) (out_4:List (List (Int×Int))):Option ((List Int)×(List (Int×Int))×(List (List (Int×Int)))):=Gr N N i_0 free_1 l_2 at_3 out_4
theorem Ze (N:Nat) (rec_99:Int→(List Int)→Lnk→(List (Int×Int))→(List (List (Int×Int)))→Option ((List Int)×(List (Int×Int))×(List (List (Int×Int))))) (hrec:∀ (i_0:Int) (free_1:List Int) (l_2:Lnk) (at_3:List (Int×Int)) (out_4:List (List (Int×Int))) (r:(List Int)×(List (Int×Int))×(List (List (Int×Int)))),rec_99 i_0 free_1 l_2 at_3 out_4=some r→MCall Tryz.prog 114 [.int i_0,.ptr 1000001 0,.ptr 1000002 0,.ptr 1000003 0,.ptr 1000004 0,.ptr 1000005 0] [900010,900030,900040,8589934602] [1000001,1000002,1000003,1000004,1000005] [(3,.ints free_1),(95,.pairs at_3),(45,dR 10 (.pairss out_4)),(95,dF (.pairss out_4))] [(3,.ints r.1),(95,.pairs r.2.1),(45,dR 10 (.pairss r.2.2)),(95,dF (.pairss r.2.2))] [[.row 900010 0 free_1.length],[.int l_2.f.g.n,.ro false (.pairs l_2.f.g.bars),.ro false (.pairs l_2.f.places),.ro false (.ints l_2.ground)],[.row 900030 0 at_3.length],[.row 900040 0 out_4.length],[.clo 114 [1000001,1000002,1000003,1000004,1000005]]] [[.row 900010 0 r.1.length],[.int l_2.f.g.n,.ro false (.pairs l_2.f.g.bars),.ro false (.pairs l_2.f.places),.ro false (.ints l_2.ground)],[.row 900030 0 r.2.1.length],[.row 900040 0 r.2.2.length],[.clo 114 [1000001,1000002,1000003,1000004,1000005]]] (.tup [])) (i_0:Int) (free_1:List Int) (l_2:Lnk) (at_3:List (Int×Int)) (out_4:List (List (Int×Int))) (r:(List Int)×(List (Int×Int))×(List (List (Int×Int)))) (h:Kq N rec_99 i_0 free_1 l_2 at_3 out_4=some r):MCall Tryz.prog 114 [.int i_0,.ptr 1000001 0,.ptr 1000002 0,.ptr 1000003 0,.ptr 1000004 0,.ptr 1000005 0] [900010,900030,900040,8589934602] [1000001,1000002,1000003,1000004,1000005] [(3,.ints free_1),(95,.pairs at_3),(45,dR 10 (.pairss out_4)),(95,dF (.pairss out_4))] [(3,.ints r.1),(95,.pairs r.2.1),(45,dR 10 (.pairss r.2.2)),(95,dF (.pairss r.2.2))] [[.row 900010 0 free_1.length],[.int l_2.f.g.n,.ro false (.pairs l_2.f.g.bars),.ro false (.pairs l_2.f.places),.ro false (.ints l_2.ground)],[.row 900030 0 at_3.length],[.row 900040 0 out_4.length],[.clo 114 [1000001,1000002,1000003,1000004,1000005]]] [[.row 900010 0 r.1.length],[.int l_2.f.g.n,.ro false (.pairs l_2.f.g.bars),.ro false (.pairs l_2.f.places),.ro false (.ints l_2.ground)],[.row 900030 0 r.2.1.length],[.row 900040 0 r.2.2.length],[.clo 114 [1000001,1000002,1000003,1000004,1000005]]] (.tup []):=by
 unfold Kq at h;refine Cy (TT:=TT) tt Tryz.func114 O O Tryz.ntmps114 (congrArg Array.toList Tryz.results114) O O O O O fun w0 O0=>(Ah (Ah (Ab ?_)));iterate 4 refine Aa O ?_
 refine Af (At O (fun hb1=>?_) (fun hb1=>?_))
 ·replace h:=Ai hb1 h;refine Ah (Ah (Ab (Aa O (Aa O ?_))));obtain ⟨v1,hc2,h⟩:=Ad h;refine Bn (I_IsPose_w N l_2 at_3 v1 hc2) O O O O O O O O ⟨⟨O,O,O,O,Y⟩,(.inl ⟨O,O⟩),Y⟩ (Af (vJoinN h (α:=List (List (Int×Int))) (J:=fun (l2:List (List (Int×Int)))=>(⟨[],[(900010,some (3,.ints free_1)),(900030,some (95,.pairs at_3)),(900040,some (45,dR 10 (.pairss l2))),(8589934602,some (95,dF (.pairss l2)))],[(1000001,some [.row 900010 0 free_1.length]),(1000002,some [.int l_2.f.g.n,.ro false (.pairs l_2.f.g.bars),.ro false (.pairs l_2.f.places),.ro false (.ints l_2.ground)]),(1000003,some [.row 900030 0 at_3.length]),(1000004,some [.row 900040 0 l2.length]),(1000005,some [.clo 114 [1000001,1000002,1000003,1000004,1000005]])]⟩:PS)) ?_ ?_))
  ·rintro l2 h;show VC _ _ _ (⟨[],[(900010,some (3,.ints free_1)),(900030,some (95,.pairs at_3)),(900040,some (45,dR 10 (.pairss l2))),(8589934602,some (95,dF (.pairss l2)))],[(1000001,some [.row 900010 0 free_1.length]),(1000002,some [.int l_2.f.g.n,.ro false (.pairs l_2.f.g.bars),.ro false (.pairs l_2.f.places),.ro false (.ints l_2.ground)]),(1000003,some [.row 900030 0 at_3.length]),(1000004,some [.row 900040 0 l2.length]),(1000005,some [.clo 114 [1000001,1000002,1000003,1000004,1000005]])]⟩:PS);refine Ay ?_;show ∃ _,_;cases h;exact ⟨[900010,900030,900040,8589934602],O,⟨O,O,O,O,Y⟩,⟨O,O,O,O,O,Y⟩,O⟩
  intro k3 h;refine At O (fun hb3=>?_) (fun hb3=>?_)
  ·replace h:=Ai hb3 h;obtain ⟨hg4,h⟩:=Ac h;obtain ⟨hg5,h⟩:=Ac h;refine xJoin (J:=(⟨[],[(900010,some (3,.ints free_1)),(900030,some (95,.pairs at_3)),(900040,some (45,dR 10 (.pairss (out_4++[(([]:List (Int×Int))++((at_3.take (0+at_3.length)).drop 0))])))),(8589934602,some (95,dF (.pairss (out_4++[(([]:List (Int×Int))++((at_3.take (0+at_3.length)).drop 0))]))))],[(1000001,some [.row 900010 0 free_1.length]),(1000002,some [.int l_2.f.g.n,.ro false (.pairs l_2.f.g.bars),.ro false (.pairs l_2.f.places),.ro false (.ints l_2.ground)]),(1000003,some [.row 900030 0 at_3.length]),(1000004,some [.row 900040 0 ((out_4++[(([]:List (Int×Int))++((at_3.take (0+at_3.length)).drop 0))]).length)]),(1000005,some [.clo 114 [1000001,1000002,1000003,1000004,1000005]])]⟩:PS)) ?_ ?_
   ·refine vRegionX (by kernel_rfl) ?_;refine Ec [0,1,2] (by kernel_rfl) O (Jj O ?_ ?_)
    ·refine Aa O ?_;refine Af ?_;show VX _ _ _ _ _ _;refine Ec [1,2] (by kernel_rfl) O (Jj O ?_ ?_)
     ·refine Cj tt (Ag O) O O O O ?_;refine Af ?_;show VX _ _ _ _ _ _;refine Ec [2] (by kernel_rfl) O (Jj O ?_ ?_)
      ·refine Aa O ?_;refine Af ?_;show VX _ _ _ _ _ _;refine Ec [3] (by kernel_rfl) O (Jj O ?_ ?_)
       ·refine Hs tt O O O O O O O O O O O O O O O (Nat.le_of_eq (Nat.zero_add _)) hg4 ?_;refine Af ?_;show VX _ _ _ _ _ _;refine Ec [4] (by kernel_rfl) O (Jj O ?_ ?_)
        ·refine Kn (En.adopt 19 19 900040 10 (q:=(.pairss out_4)) O O O O O O (by simp [Sq.len,Fq.len,Ru,Fq.hole]) (Zd _ _) O (d':=.irow 10 out_4.length (([]:List (Int×Int))++((at_3.take (0+at_3.length)).drop 0)).length) (by simp [Fq.len]) O) ?_;refine Ld tt O O O O O O O O O O (Af ?_);show VX _ _ _ _ _ _;refine Ec [5] (by kernel_rfl) O (Jj O ?_ ?_)
         ·refine Jb (.pairss (out_4++[(([]:List (Int×Int))++((at_3.take (0+at_3.length)).drop 0))])) tt (q:=(.pairss out_4)) O O O O O O O O (Nat.le_of_eq (Nat.zero_add _)) O O O O O O O (appP 10 out_4 (([]:List (Int×Int))++((at_3.take (0+at_3.length)).drop 0))) hg5 ?_;refine Af ?_;show VX _ _ _ _ _ _;refine Ec [6] (by kernel_rfl) O (Jj O ?_ ?_)
          ·refine As tt O O O O O O O O O O O ⟨Y,Y⟩ ?_;refine Af ?_;show VX _ _ _ _ _ _;refine Zj (by kernel_rfl) ?_;show En _ _ _;exact (En.of trivial ⟨O,O,O,O,Y⟩ ⟨O,O,O,O,O,Y⟩)
          exact trivial
         exact trivial
        exact trivial
       exact trivial
      exact trivial
     refine Jj O ?_ ?_
     ·refine Aa O ?_;refine Af ?_;show VX _ _ _ _ _ _;refine Ec [1] (by kernel_rfl) O (Jj O ?_ ?_)
      ·refine Cj tt (Ag O) O O O O ?_;refine Af ?_;show VX _ _ _ _ _ _;refine Ec [3] (by kernel_rfl) O (Jj O ?_ ?_)
       ·refine Hs tt O O O O O O O O O O O O O O O (Nat.le_of_eq (Nat.zero_add _)) hg4 ?_;refine Af ?_;show VX _ _ _ _ _ _;refine Ec [4] (by kernel_rfl) O (Jj O ?_ ?_)
        ·refine Kn (En.adopt 19 19 900040 10 (q:=(.pairss out_4)) O O O O O O (by simp [Sq.len,Fq.len,Ru,Fq.hole]) (Zd _ _) O (d':=.irow 10 out_4.length (([]:List (Int×Int))++((at_3.take (0+at_3.length)).drop 0)).length) (by simp [Fq.len]) O) ?_;refine Ld tt O O O O O O O O O O (Af ?_);show VX _ _ _ _ _ _;refine Ec [5] (by kernel_rfl) O (Jj O ?_ ?_)
         ·refine Jb (.pairss (out_4++[(([]:List (Int×Int))++((at_3.take (0+at_3.length)).drop 0))])) tt (q:=(.pairss out_4)) O O O O O O O O (Nat.le_of_eq (Nat.zero_add _)) O O O O O O O (appP 10 out_4 (([]:List (Int×Int))++((at_3.take (0+at_3.length)).drop 0))) hg5 ?_;refine Af ?_;show VX _ _ _ _ _ _;refine Ec [6] (by kernel_rfl) O (Jj O ?_ ?_)
          ·refine As tt O O O O O O O O O O O ⟨Y,Y⟩ ?_;refine Af ?_;show VX _ _ _ _ _ _;refine Zj (by kernel_rfl) ?_;show En _ _ _;exact (En.of trivial ⟨O,O,O,O,Y⟩ ⟨O,O,O,O,O,Y⟩)
          exact trivial
         exact trivial
        exact trivial
       exact trivial
      exact trivial
     exact trivial
    refine Jj O ?_ ?_
    ·refine Cj tt (Ag O) O O O O ?_;refine Af ?_;show VX _ _ _ _ _ _;refine Ec [0,2] (by kernel_rfl) O (Jj O ?_ ?_)
     ·refine Aa O ?_;refine Af ?_;show VX _ _ _ _ _ _;refine Ec [2] (by kernel_rfl) O (Jj O ?_ ?_)
      ·refine Aa O ?_;refine Af ?_;show VX _ _ _ _ _ _;refine Ec [3] (by kernel_rfl) O (Jj O ?_ ?_)
       ·refine Hs tt O O O O O O O O O O O O O O O (Nat.le_of_eq (Nat.zero_add _)) hg4 ?_;refine Af ?_;show VX _ _ _ _ _ _;refine Ec [4] (by kernel_rfl) O (Jj O ?_ ?_)
        ·refine Kn (En.adopt 19 19 900040 10 (q:=(.pairss out_4)) O O O O O O (by simp [Sq.len,Fq.len,Ru,Fq.hole]) (Zd _ _) O (d':=.irow 10 out_4.length (([]:List (Int×Int))++((at_3.take (0+at_3.length)).drop 0)).length) (by simp [Fq.len]) O) ?_;refine Ld tt O O O O O O O O O O (Af ?_);show VX _ _ _ _ _ _;refine Ec [5] (by kernel_rfl) O (Jj O ?_ ?_)
         ·refine Jb (.pairss (out_4++[(([]:List (Int×Int))++((at_3.take (0+at_3.length)).drop 0))])) tt (q:=(.pairss out_4)) O O O O O O O O (Nat.le_of_eq (Nat.zero_add _)) O O O O O O O (appP 10 out_4 (([]:List (Int×Int))++((at_3.take (0+at_3.length)).drop 0))) hg5 ?_;refine Af ?_;show VX _ _ _ _ _ _;refine Ec [6] (by kernel_rfl) O (Jj O ?_ ?_)
          ·refine As tt O O O O O O O O O O O ⟨Y,Y⟩ ?_;refine Af ?_;show VX _ _ _ _ _ _;refine Zj (by kernel_rfl) ?_;show En _ _ _;exact (En.of trivial ⟨O,O,O,O,Y⟩ ⟨O,O,O,O,O,Y⟩)
          exact trivial
         exact trivial
        exact trivial
       exact trivial
      exact trivial
     refine Jj O ?_ ?_
     ·refine Aa O ?_;refine Af ?_;show VX _ _ _ _ _ _;refine Ec [0,3] (by kernel_rfl) O (Jj O ?_ ?_)
      ·refine Aa O ?_;refine Af ?_;show VX _ _ _ _ _ _;refine Ec [3] (by kernel_rfl) O (Jj O ?_ ?_)
       ·refine Hs tt O O O O O O O O O O O O O O O (Nat.le_of_eq (Nat.zero_add _)) hg4 ?_;refine Af ?_;show VX _ _ _ _ _ _;refine Ec [4] (by kernel_rfl) O (Jj O ?_ ?_)
        ·refine Kn (En.adopt 19 19 900040 10 (q:=(.pairss out_4)) O O O O O O (by simp [Sq.len,Fq.len,Ru,Fq.hole]) (Zd _ _) O (d':=.irow 10 out_4.length (([]:List (Int×Int))++((at_3.take (0+at_3.length)).drop 0)).length) (by simp [Fq.len]) O) ?_;refine Ld tt O O O O O O O O O O (Af ?_);show VX _ _ _ _ _ _;refine Ec [5] (by kernel_rfl) O (Jj O ?_ ?_)
         ·refine Jb (.pairss (out_4++[(([]:List (Int×Int))++((at_3.take (0+at_3.length)).drop 0))])) tt (q:=(.pairss out_4)) O O O O O O O O (Nat.le_of_eq (Nat.zero_add _)) O O O O O O O (appP 10 out_4 (([]:List (Int×Int))++((at_3.take (0+at_3.length)).drop 0))) hg5 ?_;refine Af ?_;show VX _ _ _ _ _ _;refine Ec [6] (by kernel_rfl) O (Jj O ?_ ?_)
          ·refine As tt O O O O O O O O O O O ⟨Y,Y⟩ ?_;refine Af ?_;show VX _ _ _ _ _ _;refine Zj (by kernel_rfl) ?_;show En _ _ _;exact (En.of trivial ⟨O,O,O,O,Y⟩ ⟨O,O,O,O,O,Y⟩)
          exact trivial
         exact trivial
        exact trivial
       exact trivial
      refine Jj O ?_ ?_
      ·refine Hs tt O O O O O O O O O O O O O O O (Nat.le_of_eq (Nat.zero_add _)) hg4 ?_;refine Af ?_;show VX _ _ _ _ _ _;refine Ec [0,4] (by kernel_rfl) O (Jj O ?_ ?_)
       ·refine Aa O ?_;refine Af ?_;show VX _ _ _ _ _ _;refine Ec [4] (by kernel_rfl) O (Jj O ?_ ?_)
        ·refine Kn (En.adopt 19 19 900040 10 (q:=(.pairss out_4)) O O O O O O (by simp [Sq.len,Fq.len,Ru,Fq.hole]) (Zd _ _) O (d':=.irow 10 out_4.length (([]:List (Int×Int))++((at_3.take (0+at_3.length)).drop 0)).length) (by simp [Fq.len]) O) ?_;refine Ld tt O O O O O O O O O O (Af ?_);show VX _ _ _ _ _ _;refine Ec [5] (by kernel_rfl) O (Jj O ?_ ?_)
         ·refine Jb (.pairss (out_4++[(([]:List (Int×Int))++((at_3.take (0+at_3.length)).drop 0))])) tt (q:=(.pairss out_4)) O O O O O O O O (Nat.le_of_eq (Nat.zero_add _)) O O O O O O O (appP 10 out_4 (([]:List (Int×Int))++((at_3.take (0+at_3.length)).drop 0))) hg5 ?_;refine Af ?_;show VX _ _ _ _ _ _;refine Ec [6] (by kernel_rfl) O (Jj O ?_ ?_)
          ·refine As tt O O O O O O O O O O O ⟨Y,Y⟩ ?_;refine Af ?_;show VX _ _ _ _ _ _;refine Zj (by kernel_rfl) ?_;show En _ _ _;exact (En.of trivial ⟨O,O,O,O,Y⟩ ⟨O,O,O,O,O,Y⟩)
          exact trivial
         exact trivial
        exact trivial
       refine Jj O ?_ ?_
       ·refine Kn (En.adopt 19 19 900040 10 (q:=(.pairss out_4)) O O O O O O (by simp [Sq.len,Fq.len,Ru,Fq.hole]) (Zd _ _) O (d':=.irow 10 out_4.length (([]:List (Int×Int))++((at_3.take (0+at_3.length)).drop 0)).length) (by simp [Fq.len]) O) ?_;refine Ld tt O O O O O O O O O O (Af ?_);show VX _ _ _ _ _ _;refine Ec [0] (by kernel_rfl) O (Jj O ?_ ?_)
        ·refine Aa O ?_;refine Af ?_;show VX _ _ _ _ _ _;refine Ec [5] (by kernel_rfl) O (Jj O ?_ ?_)
         ·refine Jb (.pairss (out_4++[(([]:List (Int×Int))++((at_3.take (0+at_3.length)).drop 0))])) tt (q:=(.pairss out_4)) O O O O O O O O (Nat.le_of_eq (Nat.zero_add _)) O O O O O O O (appP 10 out_4 (([]:List (Int×Int))++((at_3.take (0+at_3.length)).drop 0))) hg5 ?_;refine Af ?_;show VX _ _ _ _ _ _;refine Ec [6] (by kernel_rfl) O (Jj O ?_ ?_)
          ·refine As tt O O O O O O O O O O O ⟨Y,Y⟩ ?_;refine Af ?_;show VX _ _ _ _ _ _;refine Zj (by kernel_rfl) ?_;show En _ _ _;exact (En.of trivial ⟨O,O,O,O,Y⟩ ⟨O,O,O,O,O,Y⟩)
          exact trivial
         exact trivial
        exact trivial
       exact trivial
      exact trivial
     exact trivial
    refine Jj O ?_ ?_
    ·refine Aa O ?_;refine Af ?_;show VX _ _ _ _ _ _;refine Ec [0,1] (by kernel_rfl) O (Jj O ?_ ?_)
     ·refine Aa O ?_;refine Af ?_;show VX _ _ _ _ _ _;refine Ec [1] (by kernel_rfl) O (Jj O ?_ ?_)
      ·refine Cj tt (Ag O) O O O O ?_;refine Af ?_;show VX _ _ _ _ _ _;refine Ec [3] (by kernel_rfl) O (Jj O ?_ ?_)
       ·refine Hs tt O O O O O O O O O O O O O O O (Nat.le_of_eq (Nat.zero_add _)) hg4 ?_;refine Af ?_;show VX _ _ _ _ _ _;refine Ec [4] (by kernel_rfl) O (Jj O ?_ ?_)
        ·refine Kn (En.adopt 19 19 900040 10 (q:=(.pairss out_4)) O O O O O O (by simp [Sq.len,Fq.len,Ru,Fq.hole]) (Zd _ _) O (d':=.irow 10 out_4.length (([]:List (Int×Int))++((at_3.take (0+at_3.length)).drop 0)).length) (by simp [Fq.len]) O) ?_;refine Ld tt O O O O O O O O O O (Af ?_);show VX _ _ _ _ _ _;refine Ec [5] (by kernel_rfl) O (Jj O ?_ ?_)
         ·refine Jb (.pairss (out_4++[(([]:List (Int×Int))++((at_3.take (0+at_3.length)).drop 0))])) tt (q:=(.pairss out_4)) O O O O O O O O (Nat.le_of_eq (Nat.zero_add _)) O O O O O O O (appP 10 out_4 (([]:List (Int×Int))++((at_3.take (0+at_3.length)).drop 0))) hg5 ?_;refine Af ?_;show VX _ _ _ _ _ _;refine Ec [6] (by kernel_rfl) O (Jj O ?_ ?_)
          ·refine As tt O O O O O O O O O O O ⟨Y,Y⟩ ?_;refine Af ?_;show VX _ _ _ _ _ _;refine Zj (by kernel_rfl) ?_;show En _ _ _;exact (En.of trivial ⟨O,O,O,O,Y⟩ ⟨O,O,O,O,O,Y⟩)
          exact trivial
         exact trivial
        exact trivial
       exact trivial
      exact trivial
     refine Jj O ?_ ?_
     ·refine Cj tt (Ag O) O O O O ?_;refine Af ?_;show VX _ _ _ _ _ _;refine Ec [0,3] (by kernel_rfl) O (Jj O ?_ ?_)
      ·refine Aa O ?_;refine Af ?_;show VX _ _ _ _ _ _;refine Ec [3] (by kernel_rfl) O (Jj O ?_ ?_)
       ·refine Hs tt O O O O O O O O O O O O O O O (Nat.le_of_eq (Nat.zero_add _)) hg4 ?_;refine Af ?_;show VX _ _ _ _ _ _;refine Ec [4] (by kernel_rfl) O (Jj O ?_ ?_)
        ·refine Kn (En.adopt 19 19 900040 10 (q:=(.pairss out_4)) O O O O O O (by simp [Sq.len,Fq.len,Ru,Fq.hole]) (Zd _ _) O (d':=.irow 10 out_4.length (([]:List (Int×Int))++((at_3.take (0+at_3.length)).drop 0)).length) (by simp [Fq.len]) O) ?_;refine Ld tt O O O O O O O O O O (Af ?_);show VX _ _ _ _ _ _;refine Ec [5] (by kernel_rfl) O (Jj O ?_ ?_)
         ·refine Jb (.pairss (out_4++[(([]:List (Int×Int))++((at_3.take (0+at_3.length)).drop 0))])) tt (q:=(.pairss out_4)) O O O O O O O O (Nat.le_of_eq (Nat.zero_add _)) O O O O O O O (appP 10 out_4 (([]:List (Int×Int))++((at_3.take (0+at_3.length)).drop 0))) hg5 ?_;refine Af ?_;show VX _ _ _ _ _ _;refine Ec [6] (by kernel_rfl) O (Jj O ?_ ?_)
          ·refine As tt O O O O O O O O O O O ⟨Y,Y⟩ ?_;refine Af ?_;show VX _ _ _ _ _ _;refine Zj (by kernel_rfl) ?_;show En _ _ _;exact (En.of trivial ⟨O,O,O,O,Y⟩ ⟨O,O,O,O,O,Y⟩)
          exact trivial
         exact trivial
        exact trivial
       exact trivial
      refine Jj O ?_ ?_
      ·refine Hs tt O O O O O O O O O O O O O O O (Nat.le_of_eq (Nat.zero_add _)) hg4 ?_;refine Af ?_;show VX _ _ _ _ _ _;refine Ec [0,4] (by kernel_rfl) O (Jj O ?_ ?_)
       ·refine Aa O ?_;refine Af ?_;show VX _ _ _ _ _ _;refine Ec [4] (by kernel_rfl) O (Jj O ?_ ?_)
        ·refine Kn (En.adopt 19 19 900040 10 (q:=(.pairss out_4)) O O O O O O (by simp [Sq.len,Fq.len,Ru,Fq.hole]) (Zd _ _) O (d':=.irow 10 out_4.length (([]:List (Int×Int))++((at_3.take (0+at_3.length)).drop 0)).length) (by simp [Fq.len]) O) ?_;refine Ld tt O O O O O O O O O O (Af ?_);show VX _ _ _ _ _ _;refine Ec [5] (by kernel_rfl) O (Jj O ?_ ?_)
         ·refine Jb (.pairss (out_4++[(([]:List (Int×Int))++((at_3.take (0+at_3.length)).drop 0))])) tt (q:=(.pairss out_4)) O O O O O O O O (Nat.le_of_eq (Nat.zero_add _)) O O O O O O O (appP 10 out_4 (([]:List (Int×Int))++((at_3.take (0+at_3.length)).drop 0))) hg5 ?_;refine Af ?_;show VX _ _ _ _ _ _;refine Ec [6] (by kernel_rfl) O (Jj O ?_ ?_)
          ·refine As tt O O O O O O O O O O O ⟨Y,Y⟩ ?_;refine Af ?_;show VX _ _ _ _ _ _;refine Zj (by kernel_rfl) ?_;show En _ _ _;exact (En.of trivial ⟨O,O,O,O,Y⟩ ⟨O,O,O,O,O,Y⟩)
          exact trivial
         exact trivial
        exact trivial
       refine Jj O ?_ ?_
       ·refine Kn (En.adopt 19 19 900040 10 (q:=(.pairss out_4)) O O O O O O (by simp [Sq.len,Fq.len,Ru,Fq.hole]) (Zd _ _) O (d':=.irow 10 out_4.length (([]:List (Int×Int))++((at_3.take (0+at_3.length)).drop 0)).length) (by simp [Fq.len]) O) ?_;refine Ld tt O O O O O O O O O O (Af ?_);show VX _ _ _ _ _ _;refine Ec [0] (by kernel_rfl) O (Jj O ?_ ?_)
        ·refine Aa O ?_;refine Af ?_;show VX _ _ _ _ _ _;refine Ec [5] (by kernel_rfl) O (Jj O ?_ ?_)
         ·refine Jb (.pairss (out_4++[(([]:List (Int×Int))++((at_3.take (0+at_3.length)).drop 0))])) tt (q:=(.pairss out_4)) O O O O O O O O (Nat.le_of_eq (Nat.zero_add _)) O O O O O O O (appP 10 out_4 (([]:List (Int×Int))++((at_3.take (0+at_3.length)).drop 0))) hg5 ?_;refine Af ?_;show VX _ _ _ _ _ _;refine Ec [6] (by kernel_rfl) O (Jj O ?_ ?_)
          ·refine As tt O O O O O O O O O O O ⟨Y,Y⟩ ?_;refine Af ?_;show VX _ _ _ _ _ _;refine Zj (by kernel_rfl) ?_;show En _ _ _;exact (En.of trivial ⟨O,O,O,O,Y⟩ ⟨O,O,O,O,O,Y⟩)
          exact trivial
         exact trivial
        exact trivial
       exact trivial
      exact trivial
     exact trivial
    exact trivial
   show ∃ _,_;exact ⟨(out_4++[(([]:List (Int×Int))++((at_3.take (0+at_3.length)).drop 0))]),(En.of trivial ⟨O,O,O,O,Y⟩ ⟨O,O,O,O,O,Y⟩),h⟩
  replace h:=Aj hb3 h;refine Ar ?_;show ∃ _,_;exact ⟨out_4,(En.of trivial ⟨O,O,O,O,Y⟩ ⟨O,O,O,O,O,Y⟩),h⟩
 replace h:=Aj hb1 h;refine Ar (Ah (Ab (Aa rfl (Af (Cb (F:=fun k=>Dz N i_0 l_2 rec_99 k) h (α:=(List Int)×(List (Int×Int))×(List (List (Int×Int)))) (J:=fun | (l62,l63,l64)=>(⟨[],[(900010,some (3,.ints l62)),(900030,some (95,.pairs l63)),(900040,some (45,dR 10 (.pairss l64))),(8589934602,some (95,dF (.pairss l64)))],[(1000001,some [.row 900010 0 l62.length]),(1000002,some [.int l_2.f.g.n,.ro false (.pairs l_2.f.g.bars),.ro false (.pairs l_2.f.places),.ro false (.ints l_2.ground)]),(1000003,some [.row 900030 0 l63.length]),(1000004,some [.row 900040 0 l64.length]),(1000005,some [.clo 114 [1000001,1000002,1000003,1000004,1000005]])]⟩:PS)) ?_ ?_)))))
 ·rintro ⟨l62,l63,l64⟩ h;show ∃ _,_;cases h;exact ⟨[900010,900030,900040,8589934602],O,⟨O,O,O,O,Y⟩,⟨O,O,O,O,O,Y⟩,O⟩
 intro k h;refine Aq (Bh (α:=(List Int)×(List (Int×Int))×(List (List (Int×Int)))×Int) (fun | (l84,l85,l86,x87)=>(⟨[(0,.int i_0),(1,.ptr 1000001 0),(3,.ptr 1000003 0),(5,.ptr 1000005 0),(22,.int x87)],[(900010,some (3,.ints l84)),(900030,some (95,.pairs l85)),(900040,some (45,dR 10 (.pairss l86))),(8589934602,some (95,dF (.pairss l86)))],[(1000001,some [.row 900010 0 l84.length]),(1000002,some [.int l_2.f.g.n,.ro false (.pairs l_2.f.g.bars),.ro false (.pairs l_2.f.places),.ro false (.ints l_2.ground)]),(1000003,some [.row 900030 0 l85.length]),(1000004,some [.row 900040 0 l86.length]),(1000005,some [.clo 114 [1000001,1000002,1000003,1000004,1000005]])]⟩:PS)) (Dz N i_0 l_2 rec_99 k) h (En.of ⟨rfl,rfl,rfl,rfl,rfl,Y⟩ ⟨rfl,rfl,rfl,rfl,Y⟩ ⟨rfl,rfl,rfl,rfl,rfl,Y⟩) (fun _=>rfl) ?_);rintro n ⟨l84,l85,l86,x87⟩ h;rw [Dz] at h;show VC _ _ _ (⟨[(0,.int i_0),(1,.ptr 1000001 0),(3,.ptr 1000003 0),(5,.ptr 1000005 0),(22,.int x87)],[(900010,some (3,.ints l84)),(900030,some (95,.pairs l85)),(900040,some (45,dR 10 (.pairss l86))),(8589934602,some (95,dF (.pairss l86)))],[(1000001,some [.row 900010 0 l84.length]),(1000002,some [.int l_2.f.g.n,.ro false (.pairs l_2.f.g.bars),.ro false (.pairs l_2.f.places),.ro false (.ints l_2.ground)]),(1000003,some [.row 900030 0 l85.length]),(1000004,some [.row 900040 0 l86.length]),(1000005,some [.clo 114 [1000001,1000002,1000003,1000004,1000005]])]⟩:PS);refine Ah (Ab (Aa O (Af (Ah (At O (fun hb6=>?_) (fun hb6=>?_))))))
 ·replace h:=Ai hb6 h;refine Ar (Ah (Aq (Ah (Ab (Aa O (Aa O (Af (Ah (Ab ?_)))))))));refine Aa rfl (Af (Cb (F:=fun k=>Et N i_0 l_2 rec_99 x87 k) h (α:=(List Int)×(List (Int×Int))×(List (List (Int×Int)))) (J:=fun | (l113,l114,l115)=>(⟨[(0,.int i_0),(1,.ptr 1000001 0),(3,.ptr 1000003 0),(5,.ptr 1000005 0),(22,.int x87)],[(900010,some (3,.ints l113)),(900030,some (95,.pairs l114)),(900040,some (45,dR 10 (.pairss l115))),(8589934602,some (95,dF (.pairss l115)))],[(1000001,some [.row 900010 0 l113.length]),(1000002,some [.int l_2.f.g.n,.ro false (.pairs l_2.f.g.bars),.ro false (.pairs l_2.f.places),.ro false (.ints l_2.ground)]),(1000003,some [.row 900030 0 l114.length]),(1000004,some [.row 900040 0 l115.length]),(1000005,some [.clo 114 [1000001,1000002,1000003,1000004,1000005]])]⟩:PS)) ?_ ?_))
  ·rintro ⟨l113,l114,l115⟩ h;show VC _ _ _ (⟨[(0,.int i_0),(1,.ptr 1000001 0),(3,.ptr 1000003 0),(5,.ptr 1000005 0),(22,.int x87)],[(900010,some (3,.ints l113)),(900030,some (95,.pairs l114)),(900040,some (45,dR 10 (.pairss l115))),(8589934602,some (95,dF (.pairss l115)))],[(1000001,some [.row 900010 0 l113.length]),(1000002,some [.int l_2.f.g.n,.ro false (.pairs l_2.f.g.bars),.ro false (.pairs l_2.f.places),.ro false (.ints l_2.ground)]),(1000003,some [.row 900030 0 l114.length]),(1000004,some [.row 900040 0 l115.length]),(1000005,some [.clo 114 [1000001,1000002,1000003,1000004,1000005]])]⟩:PS);refine Ab ?_;obtain ⟨hg7,h⟩:=Ac h;refine Ae tt O hg7 (Aa O (Af ?_));show ∃ _,_;exact ⟨(l113,l114,l115,(x87+(1:Int))),(En.of ⟨O,O,O,O,O,Y⟩ ⟨O,O,O,O,Y⟩ ⟨O,O,O,O,O,Y⟩),h⟩
  intro k h;refine Aq (Bh (α:=(List Int)×(List (Int×Int))×(List (List (Int×Int)))×Int) (fun | (l118,l119,l120,x121)=>(⟨[(0,.int i_0),(1,.ptr 1000001 0),(3,.ptr 1000003 0),(5,.ptr 1000005 0),(7,.int x87),(22,.int x87),(25,.int x121)],[(900010,some (3,.ints l118)),(900030,some (95,.pairs l119)),(900040,some (45,dR 10 (.pairss l120))),(8589934602,some (95,dF (.pairss l120)))],[(1000001,some [.row 900010 0 l118.length]),(1000002,some [.int l_2.f.g.n,.ro false (.pairs l_2.f.g.bars),.ro false (.pairs l_2.f.places),.ro false (.ints l_2.ground)]),(1000003,some [.row 900030 0 l119.length]),(1000004,some [.row 900040 0 l120.length]),(1000005,some [.clo 114 [1000001,1000002,1000003,1000004,1000005]])]⟩:PS)) (Et N i_0 l_2 rec_99 x87 k) h (En.of ⟨rfl,rfl,rfl,rfl,rfl,rfl,rfl,Y⟩ ⟨rfl,rfl,rfl,rfl,Y⟩ ⟨rfl,rfl,rfl,rfl,rfl,Y⟩) (fun _=>rfl) ?_);rintro n ⟨l118,l119,l120,x121⟩ h;rw [Et] at h;show VC _ _ _ (⟨[(0,.int i_0),(1,.ptr 1000001 0),(3,.ptr 1000003 0),(5,.ptr 1000005 0),(7,.int x87),(22,.int x87),(25,.int x121)],[(900010,some (3,.ints l118)),(900030,some (95,.pairs l119)),(900040,some (45,dR 10 (.pairss l120))),(8589934602,some (95,dF (.pairss l120)))],[(1000001,some [.row 900010 0 l118.length]),(1000002,some [.int l_2.f.g.n,.ro false (.pairs l_2.f.g.bars),.ro false (.pairs l_2.f.places),.ro false (.ints l_2.ground)]),(1000003,some [.row 900030 0 l119.length]),(1000004,some [.row 900040 0 l120.length]),(1000005,some [.clo 114 [1000001,1000002,1000003,1000004,1000005]])]⟩:PS);refine Ah (Ab (Aa O (Af (Ah (At O (fun hb8=>?_) (fun hb8=>?_))))))
  ·replace h:=Ai hb8 h;refine Ar (Ah (Aq (Ah (Ab (Aa O (Aa O (Af (Ah (Df 8 [] [0,0,0,6,14,0,0,96,255,511] (by kernel_rfl) (by kernel_rfl) (by kernel_rfl) (by kernel_rfl) (by kernel_rfl) O (by rfl) ?_)))))))));iterate 3 refine Ei tt O (Ag O) O O O O O Y ?_
   obtain ⟨hg9,h⟩:=Ac h;iterate 2 refine Ei tt O (Ag O) O O O O O hg9 ?_
   iterate 2 refine Ei tt O (Ag O) O O O O O Y ?_
   refine nPure (Ag O) (Ds Fz O O) O O O O (Tp ?_);show VO _ _ _ _ _;obtain ⟨hg10,h⟩:=Ac h;refine Ae tt O hg10 (As tt O O O O O O O O O O ⟨_,_,O,hg10.1,hg10.2⟩ ⟨hg10,(by simpa [Sq.len] using hg10),Y⟩ (Af (Ab (Aa O (Aa O ?_)))));obtain ⟨hg11,h⟩:=Ac h;refine Ae tt O hg11 ?_;obtain ⟨hg12,h⟩:=Ac h;refine oRowB 1000003 0 900030 O O hg12 O ?_;obtain ⟨v123,hc13,h⟩:=Ad h;refine oMCloX [1000001,1000002,1000003,1000004,1000005] [.int (i_0+(1:Int))] (hrec (i_0+(1:Int)) l118 l_2 ((l119.set (((l118.getD ((i_0).toNat) 0)).toNat) (x121,(l119.getD (((l118.getD ((i_0).toNat) 0)).toNat) (0,0)).2)).set (((l118.getD ((i_0).toNat) 0)).toNat) (((l119.set (((l118.getD ((i_0).toNat) 0)).toNat) (x121,(l119.getD (((l118.getD ((i_0).toNat) 0)).toNat) (0,0)).2)).getD (((l118.getD ((i_0).toNat) 0)).toNat) (0,0)).1,x87)) l120 v123 hc13) [900010,900030,900040,8589934602] [1000001,1000002,1000003,1000004,1000005] [1400,1401,1402,8589934602] O O O O O O O O O  ⟨O,O,O,O,Y⟩ ⟨O,O,O,O,O,Y⟩ ⟨⟨O,O⟩,Y⟩ (Af (Ab ?_));obtain ⟨hg14,h⟩:=Ac h;refine Ae tt O hg14 (Aa O (Af ?_));show ∃ _,_;exact ⟨(v123.1,v123.2.1,v123.2.2,(x121+(1:Int))),(En.ren [900010,900030,900040] [1400,1401,1402] O ⟨.inr O,.inr O,.inr O,.inr O,.inr O,.inr O,.inr O,Y⟩ ⟨.inr O,.inr O,.inr O,.inr O,Y⟩ ⟨.inr ⟨_,_,O,O,⟨.inr O,Y⟩⟩,.inr ⟨_,_,O,O,⟨.inr O,.inr O,.inr O,.inr O,Y⟩⟩,.inr ⟨_,_,O,O,⟨.inr O,Y⟩⟩,.inr ⟨_,_,O,O,⟨.inr O,Y⟩⟩,.inr ⟨_,_,O,O,⟨.inr O,Y⟩⟩,Y⟩),h⟩
  replace h:=Aj hb8 h;refine Br ?_;show ∃ _,_;exact ⟨(l118,l119,l120),(En.of ⟨O,O,O,O,O,Y⟩ ⟨O,O,O,O,Y⟩ ⟨O,O,O,O,O,Y⟩),h⟩
 replace h:=Aj hb6 h;refine Br ?_;show ∃ _,_;exact ⟨(l84,l85,l86),(En.of trivial ⟨O,O,O,O,Y⟩ ⟨O,O,O,O,O,Y⟩),h⟩
theorem Rd (N:Nat):∀ (d:Nat) (i_0:Int) (free_1:List Int) (l_2:Lnk) (at_3:List (Int×Int)) (out_4:List (List (Int×Int))) (r:(List Int)×(List (Int×Int))×(List (List (Int×Int)))),Gr N d i_0 free_1 l_2 at_3 out_4=some r→MCall Tryz.prog 114 [.int i_0,.ptr 1000001 0,.ptr 1000002 0,.ptr 1000003 0,.ptr 1000004 0,.ptr 1000005 0] [900010,900030,900040,8589934602] [1000001,1000002,1000003,1000004,1000005] [(3,.ints free_1),(95,.pairs at_3),(45,dR 10 (.pairss out_4)),(95,dF (.pairss out_4))] [(3,.ints r.1),(95,.pairs r.2.1),(45,dR 10 (.pairss r.2.2)),(95,dF (.pairss r.2.2))] [[.row 900010 0 free_1.length],[.int l_2.f.g.n,.ro false (.pairs l_2.f.g.bars),.ro false (.pairs l_2.f.places),.ro false (.ints l_2.ground)],[.row 900030 0 at_3.length],[.row 900040 0 out_4.length],[.clo 114 [1000001,1000002,1000003,1000004,1000005]]] [[.row 900010 0 r.1.length],[.int l_2.f.g.n,.ro false (.pairs l_2.f.g.bars),.ro false (.pairs l_2.f.places),.ro false (.ints l_2.ground)],[.row 900030 0 r.2.1.length],[.row 900040 0 r.2.2.length],[.clo 114 [1000001,1000002,1000003,1000004,1000005]]] (.tup [])
 | 0,_,_,_,_,_,r,h=>by cases h
 | d+1,i_0,free_1,l_2,at_3,out_4,r,h=>Ze N _ (fun i_0 free_1 l_2 at_3 out_4 r h=>Rd N d i_0 free_1 l_2 at_3 out_4 r h) i_0 free_1 l_2 at_3 out_4 r h
theorem I_PosesOf_1_w (N:Nat) (i_0:Int) (free_1:List Int) (l_2:Lnk) (at_3:List (Int×Int)) (out_4:List (List (Int×Int))) (r:(List Int)×(List (Int×Int))×(List (List (Int×Int)))) (h:Rg N i_0 free_1 l_2 at_3 out_4=some r):MCall Tryz.prog 114 [.int i_0,.ptr 1000001 0,.ptr 1000002 0,.ptr 1000003 0,.ptr 1000004 0,.ptr 1000005 0] [900010,900030,900040,8589934602] [1000001,1000002,1000003,1000004,1000005] [(3,.ints free_1),(95,.pairs at_3),(45,dR 10 (.pairss out_4)),(95,dF (.pairss out_4))] [(3,.ints r.1),(95,.pairs r.2.1),(45,dR 10 (.pairss r.2.2)),(95,dF (.pairss r.2.2))] [[.row 900010 0 free_1.length],[.int l_2.f.g.n,.ro false (.pairs l_2.f.g.bars),.ro false (.pairs l_2.f.places),.ro false (.ints l_2.ground)],[.row 900030 0 at_3.length],[.row 900040 0 out_4.length],[.clo 114 [1000001,1000002,1000003,1000004,1000005]]] [[.row 900010 0 r.1.length],[.int l_2.f.g.n,.ro false (.pairs l_2.f.g.bars),.ro false (.pairs l_2.f.places),.ro false (.ints l_2.ground)],[.row 900030 0 r.2.1.length],[.row 900040 0 r.2.2.length],[.clo 114 [1000001,1000002,1000003,1000004,1000005]]] (.tup []):=Rd N N i_0 free_1 l_2 at_3 out_4 r h
def Lc (N:Nat) (l_0:Lnk):Option ((List (List (Int×Int)))×Bool):=
 (Hh N l_0).bind fun v1=>
 cnd (!v1) (
  some (([]:List (List (Int×Int))),false)) (
  (Jx N l_0).bind fun v2=>
  grd (l_0.f.places.length≤4294967296) <|
  (Rg N (0:Int) v2 l_0 (([]:List (Int×Int))++l_0.f.places) ([]:List (List (Int×Int)))).bind fun v3=>
  some (v3.2.2,true))
theorem Rr (N:Nat) (l_0:Lnk) (r:(List (List (Int×Int)))×Bool) (h:Lc N l_0=some r):PCallD Tryz.prog 77 [lD l_0] 45 95 (.pairss r.1) (.tup [.row 0 0 r.1.length,.bool r.2]):=by
 unfold Lc at h;refine Qd (TT:=TT) tt Tryz.func77 O O Tryz.ntmps77 (congrArg Array.toList Tryz.results77) O O O fun w0=>(Ah (Ab (Lw O O O O O O O O O (Aa O (Aa O (Af (Ah (Ab (Cj tt (Ag O) O O O O ?_)))))))));refine Bq tt O O O O O O O O O (As tt O O O O O O O O O O O ⟨Y,Y⟩ (Af (Ah (Ah (Ab (Aa O ?_))))));obtain ⟨v1,hc1,h⟩:=Ad h;refine Bn (Mv N l_0 v1 hc1) O O O O O O O O ⟨⟨O,O,O,O,Y⟩,Y⟩ (Aa O (Af (At O (fun hb2=>?_) (fun hb2=>?_))))
 ·replace h:=Ai hb2 h;refine Ah (Ab (Aa O (Aa O (Aa O (Af (Gw 2 9001 45 (.pairss []) O O O O (vEn (En.newFam 11 95 (.pairs []) O O O O (fun _ h=>by cases h) O) (vEn (En.asRefs 9001 11 (q:=.pairss []) (qR:=dR 11 (.pairss [])) O O O O) (Ay ?_)))))))));show ∃ _,_;cases h;exact ⟨9001,11,_,O,O,O,O,O,.eq O,O⟩
 replace h:=Aj hb2 h;refine Ar (Ah (Ab (Aa O ?_)));obtain ⟨v2,hc3,h⟩:=Ad h;refine Bn (Zg N l_0 v2 hc3) O O O O O O O O ⟨⟨O,O,O,O,Y⟩,Y⟩ (Bq tt O O O O O O O O O (As tt O O O O O O O O O O O ⟨Y,Y⟩ (Af (Ah (Ab (Cj tt (Ag O) O O O O (Aa O (Aa O (Aa O ?_)))))))));obtain ⟨hg4,h⟩:=Ac h;refine oAppNil tt (Ag O) O O O O O O O (fun _=>O) O O O O O hg4 (Bq tt O O O O O O O O O (As tt O O O O O O O O O O O ⟨Y,Y⟩ (Af (Ah (Ab (Bq tt O O O O O O O O O (Af (Ah (Ab ?_)))))))));refine oMakeFunc O [5,1,6,4,7] O O O O (As tt O O O O O O O O O O O ⟨Y,Y⟩ (Af (Ah (Ab (Aa O (Kn (enNilB 4 0 9502 45 (.pairss []) O O O O O) (Kn (En.newFam 10 95 (.pairs []) O O O O (fun _ h=>by cases h) O) (Kn (En.asRefs 9502 10 (q:=.pairss []) (qR:=dR 10 (.pairss [])) O O O O) ?_))))))));obtain ⟨v3,hc5,h⟩:=Ad h;refine oMCloX [1000001,1000002,1000003,1000004,1000005] [.int (0:Int)] (I_PosesOf_1_w N (0:Int) v2 l_0 (([]:List (Int×Int))++l_0.f.places) ([]:List (List (Int×Int))) v3 hc5) [1140,19,9502,8589934602] [5,1,6,4,7] [1220,1221,1222,8589934602] O O O O O O O O O  ⟨O,O,O,O,Y⟩ ⟨O,O,O,O,O,Y⟩ ⟨⟨O,O⟩,Y⟩ (Af (Ah (Ab (Aa O (Aa O (Aa O (Af (Ay ?_))))))));show ∃ _,_;cases h;exact ⟨1222,10,_,O,O,O,O,O,.eq O,O⟩
end
section
variable {N:Nat}
theorem Wl {g:List Int} {n:Nat} (h:(n:Int)∉g):Ex g (n+1)=Ex g n++[(n:Int)]:=by
 rw [Hp];have:g.contains (n:Int)=false:=by simpa using h
 rw [this]; rfl
theorem Sk {g g':List Int}:∀ {n:Nat},(∀ v:Nat,v<n→g.contains (v:Int)=g'.contains (v:Int))→Ex g n=Ex g' n
 | 0,_=>rfl
 | n+1,h=>by
  rw [Hp,Hp,h n (by omega),Sk (n:=n) fun v hv=>h v (by omega)]
theorem Ms:∀ {n:Nat} {g:List Int},g.Nodup→(∀ v∈g,0≤v∧v<n)→(Ex g n).length+g.length=n
 | 0,g,_,hr=>by
  cases g with
  | nil=>rfl
  | cons x g=>have:=hr x (by simp); omega
 | n+1,g,hn,hr=>by
  by_cases hm:(n:Int)∈g
  ·have ih:=Ms (n:=n) (hn.erase (n:Int)) fun v hv=>by
    have:=(hn.mem_erase_iff).1 hv;have h2:=hr v this.2;have:=this.1;omega
   have hc:g.contains (n:Int)=true:=by simpa using hm
   rw [List.length_erase_of_mem hm,Sk (g':=g) fun v hv=>by
    rw [Bool.eq_iff_iff];simp only [List.contains_eq_mem,decide_eq_true_eq];rw [hn.mem_erase_iff]
    exact ⟨fun h=>h.2,fun h=>⟨by omega,h⟩⟩] at ih
   have hpos:=List.length_pos_of_mem hm;rw [Hp,hc,cnd_true];omega
  have ih:=Ms (n:=n) hn fun v hv=>by
   have h2:=hr v hv;have:v≠(n:Int):=fun e=>hm (e ▸ hv);omega
  rw [Wl hm,List.length_append];simp; omega
theorem asc_lt3 {n:Int} {l:List Int} (h:asc n l=true):∀ j i:Nat,i<j→j<l.length→l.getD i 0<l.getD j 0
 | 0,i,h1,_=>by omega
 | j+1,i,h1,h2=>by
  have ha:=asc_at h h2;simp only [Tu,Bool.and_eq_true,Bool.or_eq_true,decide_eq_true_eq,Nat.add_sub_cancel] at ha;have hs:l.getD j 0<l.getD (j+1) 0:=ha.2.resolve_left (by omega);by_cases e:i=j
  ·subst e; exact hs
  have:=asc_lt3 h j i (by omega) (by omega); omega
theorem asc_nodup {n:Int} {l:List Int} (h:asc n l=true):l.Nodup:=by
 rw [List.Nodup,List.pairwise_iff_getElem];intro i j hi hj hij e;have:=asc_lt3 h j i hij hj;rw [List.getD_eq_getElem?_getD,List.getD_eq_getElem?_getD,List.getElem?_eq_getElem hi,List.getElem?_eq_getElem hj] at this;simp at this;omega
theorem Va {l:Lnk} (h:Qy l=true):(Gv l).length≤2∧(Gv l).Nodup∧∀ v∈Gv l,0≤v∧v<(l.f.places.length:Int):=by
 obtain ⟨hf,h1,h2,h3⟩:=Mg h;obtain ⟨hg,h4,h5,h6,h7,h8⟩:=Fy hf;have hn:=Kz hg;have e:Gv l=Ex l.ground l.f.places.length:=by unfold Gv; rw [h]; rfl
 rw [e];refine ⟨?_,?_,fun v hv=>?_⟩
 ·have:=Ms (n:=l.f.places.length) (asc_nodup h3) fun v hv=>by have:=asc_in h3 hv; omega
  omega
 ·unfold Ex;exact List.Pairwise.filter _ (List.Pairwise.map _ (fun a b h e=>h (Int.ofNat.inj e)) List.nodup_range)
 have:=outside_mem l.ground l.f.places.length v;have hc:(Ex l.ground l.f.places.length).contains v=true:=by simpa using hv
 rw [hc] at this;have:=(Bool.and_eq_true _ _ ▸ this.symm).1;rw [Wt] at this;omega
def Qw (a:List (Int×Int)):List Int→List (List (Int×Int))
 | []=>[a]
 | v::fr=>(List.range 5).flatMap fun (y:Nat)=>(List.range 5).flatMap fun (x:Nat)=>Qw (a.set v.toNat ((x:Int),(y:Int))) fr
def Agr (fr:List Int) (a b:List (Int×Int)):Prop:=a.length=b.length∧∀ j:Nat,(∀ v∈fr,v.toNat≠j)→a[j]? = b[j]?
theorem Agr.refl (fr:List Int) (a:List (Int×Int)):Agr fr a a:=⟨rfl,fun _ _=>rfl⟩
theorem Agr.trans {fr:List Int} {a b c:List (Int×Int)} (h:Agr fr a b) (h':Agr fr b c):Agr fr a c:=⟨h.1.trans h'.1,fun j hj=>(h.2 j hj).trans (h'.2 j hj)⟩
theorem Agr.cons {fr:List Int} {v:Int} {a b:List (Int×Int)} (h:Agr fr a b):Agr (v::fr) a b:=⟨h.1,fun j hj=>h.2 j fun u hu=>hj u (by simp [hu])⟩
theorem Agr.set {fr:List Int} {v:Int} {a b:List (Int×Int)} (h:Agr (v::fr) a b) (c:Int×Int):Agr fr (a.set v.toNat c) (b.set v.toNat c):=by
 refine ⟨by rw [List.length_set,List.length_set,h.1],fun j hj=>?_⟩;rw [List.getElem?_set,List.getElem?_set,h.1];by_cases hv:v.toNat=j
 ·rw [if_pos hv,if_pos hv]
 rw [if_neg hv,if_neg hv]
 exact h.2 j fun u hu=>by
  rcases List.mem_cons.1 hu with rfl | hu
  ·exact hv
  exact hj u hu
theorem Agr.put (fr:List Int) (v:Int) (a:List (Int×Int)) (c:Int×Int):Agr (v::fr) (a.set v.toNat c) a:=by
 refine ⟨List.length_set,fun j hj=>?_⟩;rw [List.getElem?_set,if_neg (hj v (by simp))]
theorem Lu {β:Type} {m:Nat} {f g:Nat→List β} (h:∀ a,a<m→f a=g a):(List.range m).flatMap f=(List.range m).flatMap g:=by
 rw [List.flatMap_def,List.flatMap_def];congr 1;exact List.map_congr_left fun a ha=>h a (by simpa using ha)
theorem Zx:∀ {fr:List Int} {a b:List (Int×Int)},Agr fr a b→Qw a fr=Qw b fr
 | [],a,b,h=>by
  have:a=b:=List.ext_getElem? fun j=>h.2 j (fun v hv=>by cases hv);rw [this]
 | v::fr,a,b,h=>by
  unfold Qw;exact Lu fun y _=>Lu fun x _=>Zx (h.set _)
theorem Qu {β:Type} {c:Nat} {f:Nat→List β}:∀ {m:Nat},(∀ a,a<m→(f a).length≤c)→((List.range m).flatMap f).length≤m*c
 | 0,_=>by simp
 | m+1,h=>by
  rw [List.range_succ,List.flatMap_append,List.length_append];have h1:=Qu (m:=m) fun a ha=>h a (by omega);have h2:=h m (by omega);have e:(List.flatMap f [m]).length=(f m).length:=by simp
  rw [e,Nat.succ_mul]; omega
theorem Wq:∀ {fr:List Int} {a:List (Int×Int)},(Qw a fr).length≤25 ^ fr.length
 | [],a=>by simp [Qw]
 | v::fr,a=>by
  unfold Qw;have h:=Qu (m:=5) (c:=5*25 ^ fr.length) (f:=fun (y:Nat)=>(List.range 5).flatMap fun (x:Nat)=>Qw (a.set v.toNat ((x:Int),(y:Int))) fr) fun y _=>Qu fun x _=>Wq;rw [List.length_cons,Nat.pow_succ];omega
theorem pAll_mem:∀ {fr:List Int} {a p:List (Int×Int)},p∈Qw a fr→p.length=a.length
 | [],a,p,h=>by simp [Qw] at h; rw [h]
 | v::fr,a,p,h=>by
  unfold Qw at h;simp only [List.mem_flatMap] at h;obtain ⟨y,_,x,_,h⟩:=h;rw [pAll_mem h,List.length_set]
theorem set_two {a:List (Int×Int)} {i:Nat} {x y:Int} (h:i<a.length):(a.set i (x,(a.getD i (0,0)).2)).set i (((a.set i (x,(a.getD i (0,0)).2)).getD i (0,0)).1,y)=a.set i (x,y):=set_pair a i x y h
theorem Xm {β:Type} (f:Nat→List β) (m:Nat):(List.range (m+1)).flatMap f=(List.range m).flatMap f++f m:=by
 rw [List.range_succ,List.flatMap_append]; simp
section
variable {l:Lnk} {F:List Int}
abbrev PR:=Option (List Int×List (Int×Int)×List (List (Int×Int)))
def TryOK (l:Lnk) (F:List Int) (rec_:Int→List Int→Lnk→List (Int×Int)→List (List (Int×Int))→PR) (i B:Nat):Prop:=
 ∀ (a:List (Int×Int)) (out:List (List (Int×Int))),a.length=l.f.places.length→out.length≤B→∃ a',rec_ (i:Int) F l a out=some (F,a',out++(Qw a (F.drop i)).filter (Tn l))∧Agr (F.drop i) a' a
theorem try2_s (hN:4000000≤N) (hpl:l.f.places.length≤3000000) (hF:∀ v∈F,0≤v∧v<(l.f.places.length:Int)) {rec_:Int→List Int→Lnk→List (Int×Int)→List (List (Int×Int))→PR} {i:Nat} (hi:i<F.length) (hF2:F.length≤2) {B:Nat} (hB:B≤1000000) (hr:TryOK l F rec_ (i+1) B) {a:List (Int×Int)} (ha:a.length=l.f.places.length) {y:Nat} (kk:List Int×List (Int×Int)×List (List (Int×Int))→PR) (out:List (List (Int×Int))) :
  ∀ (fuel x:Nat) (A:List (Int×Int)),x≤5→5<fuel+x→Agr (F.drop i) A a→out.length+5*625≤B →
  ∃ A',Et N (i:Int) l rec_ (y:Int) kk fuel (F,A,out++((List.range x).flatMap fun (x:Nat)=>Qw (a.set (F.getD i 0).toNat ((x:Int),(y:Int))) (F.drop (i+1))).filter (Tn l),(x:Int))=kk (F,A',out++((List.range 5).flatMap fun (x:Nat)=>Qw (a.set (F.getD i 0).toNat ((x:Int),(y:Int))) (F.drop (i+1))).filter (Tn l))∧Agr (F.drop i) A' a:=by
 have hdrop:F.drop i=F.getD i 0::F.drop (i+1):=by
  rw [List.drop_eq_getElem_cons hi,List.getD_eq_getElem?_getD,List.getElem?_eq_getElem hi]; rfl
 have hv:=hF (F.getD i 0) (Cg hi)
 have hfl:∀ x,x≤5→(((List.range x).flatMap fun (x:Nat)=>Qw (a.set (F.getD i 0).toNat ((x:Int),(y:Int))) (F.drop (i+1))).filter (Tn l)).length≤5*625:=fun x hx=>by
  refine Nat.le_trans (List.length_filter_le _ _) ?_
  have h1:=Qu (m:=x) (c:=625) (f:=fun (x:Nat)=>Qw (a.set (F.getD i 0).toNat ((x:Int),(y:Int))) (F.drop (i+1))) fun x _=>by
   refine Nat.le_trans Wq ?_;have h2:(F.drop (i+1)).length≤2:=by rw [List.length_drop]; omega
   have:=Nat.pow_le_pow_right (n:=25) (by omega) h2;omega
  exact Nat.le_trans h1 (Nat.mul_le_mul_right 625 hx)
 intro fuel
 induction fuel with
 | zero=>intro x A h1 h2; omega
 | succ fuel ih=>
  intro x A h1 h2 hA ho;rw [Et];by_cases hx:x<5
  ·have ei:((i:Int)).toNat=i:=by omega
   have hAl:A.length=l.f.places.length:=hA.1.trans ha;have hs2:=set_two (a:=A) (i:=(F.getD i 0).toNat) (x:=(x:Int)) (y:=(y:Int)) (by omega);have hl3:=hfl x h1;have hA2:Agr (F.drop (i+1)) (A.set (F.getD i 0).toNat ((x:Int),(y:Int))) (a.set (F.getD i 0).toNat ((x:Int),(y:Int))):=by rw [hdrop] at hA; exact hA.set _
   obtain ⟨A1,e1,g1⟩:=hr (A.set (F.getD i 0).toNat ((x:Int),(y:Int))) (out++((List.range x).flatMap fun (x:Nat)=>Qw (a.set (F.getD i 0).toNat ((x:Int),(y:Int))) (F.drop (i+1))).filter (Tn l)) (by rw [List.length_set]; exact hAl) (by rw [List.length_append]; omega)
   have hA1:Agr (F.drop i) A1 a:=by
    rw [hdrop] at hA ⊢;exact (g1.cons).trans ((Agr.put _ _ _ _).trans hA)
   obtain ⟨A',e2,g2⟩:=ih (x+1) A1 (by omega) (by omega) hA1 ho;refine ⟨A',?_,g2⟩;rw [Av (by omega),Am (by omega),ei,Am (by omega),Ci (by omega) (by omega),hs2,Am (by rw [List.length_set])];have e1':=e1;rw [←Al] at e1';rw [e1',Option.bind_some,Ci (by omega) (by omega),Al,List.append_assoc,←List.filter_append,Zx hA2];rw [Xm] at e2;exact e2
  obtain rfl:x=5:=by omega
  rw [Au (by omega)];exact ⟨A,O,hA⟩
theorem try1_s (hN:4000000≤N) (hpl:l.f.places.length≤3000000) (hF:∀ v∈F,0≤v∧v<(l.f.places.length:Int)) {rec_:Int→List Int→Lnk→List (Int×Int)→List (List (Int×Int))→PR} {i:Nat} (hi:i<F.length) (hF2:F.length≤2) {B:Nat} (hB:B≤1000000) (hr:TryOK l F rec_ (i+1) B) {a:List (Int×Int)} (ha:a.length=l.f.places.length) (kk:List Int×List (Int×Int)×List (List (Int×Int))→PR) (out:List (List (Int×Int))) (ho:out.length+10*5*625≤B) :
  ∀ (fuel y:Nat) (A:List (Int×Int)),y≤5→5<fuel+y→Agr (F.drop i) A a →
  ∃ A',Dz N (i:Int) l rec_ kk fuel (F,A,out++((List.range y).flatMap fun (y:Nat)=>(List.range 5).flatMap fun (x:Nat)=>Qw (a.set (F.getD i 0).toNat ((x:Int),(y:Int))) (F.drop (i+1))).filter (Tn l),(y:Int))=kk (F,A',out++(Qw a (F.drop i)).filter (Tn l))∧Agr (F.drop i) A' a:=by
 have hdrop:F.drop i=F.getD i 0::F.drop (i+1):=by
  rw [List.drop_eq_getElem_cons hi,List.getD_eq_getElem?_getD,List.getElem?_eq_getElem hi]; rfl
 have hfl:∀ y,y≤5→(((List.range y).flatMap fun (y:Nat)=>(List.range 5).flatMap fun (x:Nat)=>Qw (a.set (F.getD i 0).toNat ((x:Int),(y:Int))) (F.drop (i+1))).filter (Tn l)).length≤5*5*625:=fun y hy=>by
  refine Nat.le_trans (List.length_filter_le _ _) ?_
  have h1:=Qu (m:=y) (c:=5*625) (f:=fun (y:Nat)=>(List.range 5).flatMap fun (x:Nat)=>Qw (a.set (F.getD i 0).toNat ((x:Int),(y:Int))) (F.drop (i+1))) fun y _=>Qu fun x _=>by
   refine Nat.le_trans Wq ?_;have h2:(F.drop (i+1)).length≤2:=by rw [List.length_drop]; omega
   have:=Nat.pow_le_pow_right (n:=25) (by omega) h2;omega
  exact Nat.le_trans h1 (Nat.le_trans (Nat.mul_le_mul_right (5*625) hy) (by decide))
 intro fuel
 induction fuel with
 | zero=>intro y A h1 h2; omega
 | succ fuel ih=>
  intro y A h1 h2 hA;rw [Dz];by_cases hy:y<5
  ·have hl3:=hfl y h1
   obtain ⟨A1,e1,g1⟩:=try2_s hN hpl hF hi hF2 hB hr ha (y:=y) (fun (x:(List Int)×(List (Int×Int))×(List (List (Int×Int))))=>
     match x with
     | (l113,l114,l115)=>
      grd (Bg ((y:Int)+(1:Int))) <|
      Dz N (i:Int) l rec_ kk fuel (l113,l114,l115,((y:Int)+(1:Int)))) (out++((List.range y).flatMap fun (y:Nat)=>(List.range 5).flatMap fun (x:Nat)=>Qw (a.set (F.getD i 0).toNat ((x:Int),(y:Int))) (F.drop (i+1))).filter (Tn l)) N 0 A (by omega) (by omega) hA (by rw [List.length_append]; omega)
   obtain ⟨A',e2,g2⟩:=ih (y+1) A1 (by omega) (by omega) g1;refine ⟨A',?_,g2⟩;rw [Av (by omega)];have e1':=e1;simp only [List.range_zero,List.flatMap_nil,List.filter_nil,List.append_nil] at e1';refine e1'.trans ?_;show grd _ _=_;rw [Ci (by omega) (by omega),Al,List.append_assoc,←List.filter_append];rw [Xm] at e2;exact e2
  obtain rfl:y=5:=by omega
  rw [Au (by omega)];refine ⟨A,?_,hA⟩;rw [hdrop,Qw]
theorem try_s (hN:4000000≤N) (hpl:l.f.places.length≤3000000) (hgl:l.ground.length≤3000000) (hF:∀ v∈F,0≤v∧v<(l.f.places.length:Int)) (hF2:F.length≤2):∀ (d i:Nat),i≤F.length→F.length<d+i →
  ∀ (a:List (Int×Int)) (out:List (List (Int×Int))),a.length=l.f.places.length→out.length+40000*(3-i)≤1000000→∃ a',Gr N d (i:Int) F l a out=some (F,a',out++(Qw a (F.drop i)).filter (Tn l))∧Agr (F.drop i) a' a:=by
 intro d
 induction d with
 | zero=>intro i h1 h2; omega
 | succ d ih=>
  intro i h1 h2 a out ha ho;rw [Gr];unfold Kq;by_cases hi:i<F.length
  ·rw [cnd_eqf (by omega)]
   have:=try1_s hN hpl hF hi hF2 (B:=1000000-40000*(2-i)) (by omega) (rec_:=Gr N d) (fun a out ha ho=>by
    have:=ih (i+1) (by omega) (by omega) a out ha (by omega)
    exact this) ha (fun (x:(List Int)×(List (Int×Int))×(List (List (Int×Int))))=>
     match x with
     | (l62,l63,l64)=>some (l62,l63,l64)) out (by omega) N 0 a (by omega) (by omega) (Agr.refl _ _)
   obtain ⟨A',e,g⟩:=this;simp only [List.range_zero,List.flatMap_nil,List.filter_nil,List.append_nil] at e;exact ⟨A',e,g⟩
  obtain rfl:i=F.length:=by omega
  rw [cnd_eqt rfl,isPoseI_s N hN hpl hgl,Option.bind_some,jn_def,tk0,List.drop_length,List.nil_append];refine ⟨a,?_,Agr.refl _ _⟩
  cases hp:Tn l a with
  | true=>
   rw [cnd_true,Am (by omega),Am (by omega)];simp [Qw,hp]
  | false=>
   rw [cnd_false];simp [Qw,hp]
end
def dig (c:Nat):Int×Int:=(((c % 5:Nat):Int),((c / 5 % 5:Nat):Int))
def To:List Int→List (Int×Int)→Nat→List (Int×Int)
 | [],a,_=>a
 | v::r,a,c=>To r (a.set v.toNat (dig c)) (c / 25)
theorem asgR_len:∀ {r:List Int} {a:List (Int×Int)} {c:Nat},(To r a c).length=a.length
 | [],_,_=>rfl
 | v::r,a,c=>by rw [To,asgR_len,List.length_set]
theorem asgR_snoc:∀ {r:List Int} {v:Int} {a:List (Int×Int)} {c:Nat},To (r++[v]) a c=(To r a c).set v.toNat (dig (c / 25 ^ r.length))
 | [],v,a,c=>by simp [To]
 | u::r,v,a,c=>by
  rw [List.cons_append,To,asgR_snoc,To,List.length_cons,Nat.div_div_eq_div_mul,Nat.pow_succ,Nat.mul_comm 25]
theorem asgR_mod:∀ {r:List Int} {a:List (Int×Int)} {i j:Nat},To r a (i*25 ^ r.length+j)=To r a j
 | [],a,i,j=>rfl
 | u::r,a,i,j=>by
  have e:i*25 ^ (u::r).length+j=25*(i*25 ^ r.length)+j:=by
   rw [List.length_cons,Nat.pow_succ,←Nat.mul_assoc,Nat.mul_comm _ 25]
  rw [e];generalize hK:i*25 ^ r.length=K
  have d1:dig (25*K+j)=dig j:=by
   unfold dig;rw [show (25*K+j) % 5=j % 5 by omega,show (25*K+j) / 5 % 5=j / 5 % 5 by omega]
  rw [To,To,d1,show (25*K+j) / 25=K+j / 25 by omega,←hK,asgR_mod]
theorem asgR_set:∀ {r:List Int} {v:Int} {a:List (Int×Int)} {x:Int×Int} {j:Nat},(∀ u∈r,u.toNat≠v.toNat)→To r (a.set v.toNat x) j=(To r a j).set v.toNat x
 | [],v,a,x,j,_=>rfl
 | u::r,v,a,x,j,h=>by
  rw [To,To,List.set_comm _ _ (Ne.symm (h u (by simp))),asgR_set fun w hw=>h w (by simp [hw])]
theorem rng_mul {β:Type} (f:Nat→β) (b:Nat):∀ a:Nat,(List.range (a*b)).map f=(List.range a).flatMap fun i=>(List.range b).map fun j=>f (i*b+j)
 | 0=>by simp
 | a+1=>by
  rw [Nat.succ_mul,List.range_add,List.map_append,rng_mul f b a,Xm,List.map_map]; rfl
theorem Aac:∀ {F:List Int} {a:List (Int×Int)},(F.map Int.toNat).Nodup→(List.range (25 ^ F.length)).map (To F.reverse a)=Qw a F
 | [],a,_=>rfl
 | v::fr,a,h=>by
  rw [List.map_cons] at h;have h2:=List.nodup_cons.1 h;have hne:∀ u∈fr.reverse,u.toNat≠v.toNat:=fun u hu e=>h2.1 (by rw [←e]; exact List.mem_map.2 ⟨u,by simpa using hu,rfl⟩);have ih:=fun a=>Aac (F:=fr) (a:=a) h2.2;rw [List.length_cons,Nat.pow_succ,Nat.mul_comm,rng_mul,Qw]
  have e1:((List.range 25).flatMap fun i=>(List.range (25 ^ fr.length)).map fun j=>To (v::fr).reverse a (i*25 ^ fr.length+j))=(List.range 25).flatMap fun i=>Qw (a.set v.toNat (dig i)) fr:=by
   refine Lu fun i hi=>?_;rw [←ih];refine List.map_congr_left fun j hj=>?_;have hj':j<25 ^ fr.length:=by simpa using hj
   have hl:fr.reverse.length=fr.length:=List.length_reverse;rw [List.reverse_cons,asgR_snoc,asgR_set hne,hl,←hl,asgR_mod,hl];congr 2;rw [Nat.mul_comm,Nat.mul_add_div (by omega),Nat.div_eq_of_lt hj',Nat.add_zero]
  rw [e1];have e2:(List.range 25).flatMap (fun i=>Qw (a.set v.toNat (dig i)) fr)=(((List.range (5*5)).map fun i=>Qw (a.set v.toNat (dig i)) fr).flatten):=by rw [List.flatMap_def]
  rw [e2,rng_mul,List.flatMap_def,List.flatMap_def,List.flatten_flatten,List.map_map];congr 1
theorem pow25_s (hN:4000000≤N) {n:Nat} (hn:n≤2):Qr N 25 (n:Int)=some ((25 ^ n:Nat):Int):=by
 have key:∀ (fuel i:Nat),i≤n→n<fuel+i→Ft N 25 (n:Int) (fun x=>some x) fuel (((25 ^ i:Nat):Int),(i:Int))=some ((25 ^ n:Nat):Int):=by
  intro fuel
  induction fuel with
  | zero=>intro i h1 h2; omega
  | succ fuel ih=>
   intro i h1 h2;rw [Ft];by_cases hi:i<n
   ·have e:((25 ^ i:Nat):Int)*25=((25 ^ (i+1):Nat):Int):=by rw [Nat.pow_succ]; rfl
    have hb:25 ^ (i+1)≤25 ^ 2:=Nat.pow_le_pow_right (by omega) (by omega);have hb3:((25 ^ (i+1):Nat):Int)≤625:=Int.ofNat_le.2 hb;have hb4:(0:Int)≤((25 ^ (i+1):Nat):Int):=Int.natCast_nonneg _;rw [Av (by omega),e,Am ⟨Int.le_trans (by decide) hb4,Int.le_trans hb3 (by decide)⟩,Ci (by omega) (by omega),Al];exact ih (i+1) (by omega) (by omega)
   obtain rfl:i=n:=by omega
   rw [Au (by omega)]
 exact key N 0 (by omega) (by omega)
theorem Zo {l:List Int} {i:Nat} (h:i<l.length):l.take (i+1)=l.take i++[l.getD i 0]:=by
 rw [List.take_add_one,List.getElem?_eq_getElem h,List.getD_eq_getElem?_getD,List.getElem?_eq_getElem h]; rfl
theorem codes2_s (hN:4000000≤N) {l:Lnk} {F:List Int} (hF:∀ v∈F,0≤v∧v<(l.f.places.length:Int)) (hF2:F.length≤2) (kk:List (Int×Int)→Option (List (List (Int×Int))×Bool)):∀ (fuel i c:Nat) (A:List (Int×Int)),i≤F.length→i<fuel→c≤1000→A.length=l.f.places.length →
  Ge N l F kk fuel (A,(c:Int),(i:Int)-1)=kk (To (F.take i).reverse A c):=by
 intro fuel
 induction fuel with
 | zero=>intro i c A h1 h2; omega
 | succ fuel ih=>
  intro i c A h1 h2 hc hA;rw [Ge]
  cases i with
  | zero=>rw [Au (by omega)]; rfl
  | succ i=>
   have e1:(((i+1:Nat):Int)-1)=(i:Int):=by omega
   have e2:((i:Int)).toNat=i:=by omega
   have hv:=hF (F.getD i 0) (Cg (by omega));have d1:Int.tdiv (c:Int) 5=((c / 5:Nat):Int):=rfl;have d2:Int.tmod (c:Int) 5=((c % 5:Nat):Int):=rfl;have d3:Int.tdiv (c:Int) 25=((c / 25:Nat):Int):=rfl;have d4:Int.tmod ((c / 5:Nat):Int) 5=((c / 5 % 5:Nat):Int):=rfl;have hnil:(([]:List (Int×Int))++l.f.places).length=l.f.places.length:=rfl;rw [e1,Av (by omega),Am (by omega),Am (by decide),d1,Am ⟨by decide,by unfold Bg; omega⟩,e2,hnil,Am (by omega),Am (by omega),d3,Am ⟨by decide,by unfold Bg; omega⟩,Ci (by omega) (by omega),d2,d4,set_two (by omega)];rw [ih i (c / 25) _ (by omega) (by omega) (by omega) (by rw [List.length_set]; exact hA),Zo (by omega),List.reverse_append];rfl
def Bl (l:Lnk):List (List (Int×Int)):=cnd (Qy l) ((Qw l.f.places (Gv l)).filter (Tn l)) []
theorem Tq (l:Lnk):(Bl l).length≤625:=by
 unfold Bl
 cases h:Qy l with
 | false=>simp [cnd]
 | true=>
  rw [cnd_true];obtain ⟨h1,_⟩:=Va h;refine Nat.le_trans (List.length_filter_le _ _) (Nat.le_trans Wq ?_);exact Nat.pow_le_pow_right (n:=25) (by omega) h1
theorem Kx {l:Lnk} {p:List (Int×Int)} (h:p∈Bl l):p.length=l.f.places.length∧Tn l p=true:=by
 unfold Bl at h
 cases hl:Qy l with
 | false=>rw [hl] at h; cases h
 | true=>
  rw [hl,cnd_true] at h;have:=List.mem_filter.1 h;exact ⟨pAll_mem this.1,this.2⟩
theorem posesI_s (hN:4000000≤N) {l:Lnk} (hp:l.f.places.length≤3000000) (hg:l.ground.length≤3000000):Lc N l=some (Bl l,Qy l):=by
 unfold Lc Bl;rw [isLkI_s N hN hp hg,Option.bind_some]
 cases h:Qy l with
 | false=>rfl
 | true=>
  obtain ⟨h1,h2,h3⟩:=Va h;rw [Bool.not_true,cnd_false,freeI_s N hN hp hg,Option.bind_some,Am (by omega),cnd_true,List.nil_append];obtain ⟨a',e,_⟩:=try_s (N:=N) hN hp hg h3 h1 N 0 (by omega) (by omega) l.f.places [] rfl (by simp);have e':Rg N 0 (Gv l) l l.f.places []=some (Gv l,a',(Qw l.f.places (Gv l)).filter (Tn l)):=e;rw [e']; rfl
theorem Ll (hN:4000000≤N) {l:Lnk} (hp:l.f.places.length≤3000000) (hg:l.ground.length≤3000000):Gj N l=some (Bl l,Qy l):=by
 unfold Gj Bl;rw [freeS_s N hN hp hg,Option.bind_some,isLkS_s N hN hp hg,Option.bind_some]
 cases h:Qy l with
 | false=>rfl
 | true=>
  obtain ⟨h1,h2,h3⟩:=Va h;rw [Bool.not_true,cnd_false,cnd_true];have hb:25 ^ (Gv l).length≤625:=Nat.pow_le_pow_right (n:=25) (by omega) h1
  have hnd:((Gv l).map Int.toNat).Nodup:=by
   rw [List.Nodup,List.pairwise_map];refine List.Pairwise.imp_of_mem (fun {a b} ha hb hab=>?_) h2;have:=h3 a ha; have:=h3 b hb; omega
  rw [←Aac hnd];refine fold (N:=N) (len:=25 ^ (Gv l).length) (st:=fun c=>((List.range c).map (To (Gv l).reverse l.f.places)).filter (Tn l)) (F:=fun m s=>Ca N l (Gv l) (fun (l45:List (List (Int×Int)))=>some (l45,true)) m s) (by omega) (fun m c hc=>?_) fun m=>?_
  ·show Ca N l (Gv l) _ (m+1) (((List.range c).map (To (Gv l).reverse l.f.places)).filter (Tn l),(c:Int))=Ca N l (Gv l) _ m (((List.range (c+1)).map (To (Gv l).reverse l.f.places)).filter (Tn l),((c+1:Nat):Int));have hfl:(((List.range c).map (To (Gv l).reverse l.f.places)).filter (Tn l)).length≤c:=Nat.le_trans (List.length_filter_le _ _) (by simp)
   have hd := codes2_s (N := N) hN h3 h1 (fun (l83 : List (Int × Int)) =>
      grd ((([]:List (Int×Int))++l.f.places).length=l83.length) <|
      (Qs N l l83).bind fun v84=>
      cnd v84 (
       grd ((((List.range c).map (To (Gv l).reverse l.f.places)).filter (Tn l)).length+1≤4294967296) <|
       grd (Bg ((c:Int)+(1:Int))) <|
       Ca N l (Gv l) (fun (l45:List (List (Int×Int)))=>some (l45,true)) m ((((List.range c).map (To (Gv l).reverse l.f.places)).filter (Tn l)++([l83]:List (List (Int×Int)))),((c:Int)+(1:Int)))) (
       grd (Bg ((c:Int)+(1:Int))) <|
       Ca N l (Gv l) (fun (l45:List (List (Int×Int)))=>some (l45,true)) m (((List.range c).map (To (Gv l).reverse l.f.places)).filter (Tn l),((c:Int)+(1:Int))))) N (Gv l).length c l.f.places (Nat.le_refl _) (by omega) (by omega) rfl
   rw [Ca,pow25_s hN h1,Option.bind_some,Av (by omega),Am (by omega),Ci (by omega) (by omega)];refine hd.trans ?_;show grd _ _=_;rw [List.take_length,Am (by rw [asgR_len]; rfl),isPoseS_s N hN hp hg,Option.bind_some,Am (by omega),Ci (by omega) (by omega),Ci (by omega) (by omega),Al,List.range_succ,List.map_append,List.filter_append]
   cases hq:Tn l (To (Gv l).reverse l.f.places c) with
   | true=>rw [cnd_true]; simp [hq]
   | false=>rw [cnd_false]; simp [hq]
  show Ca N l (Gv l) _ (m+1) (((List.range (25 ^ (Gv l).length)).map (To (Gv l).reverse l.f.places)).filter (Tn l),((25 ^ (Gv l).length:Nat):Int))=_;rw [Ca,pow25_s hN h1,Option.bind_some,Au (by omega)]
end
section
open Go.RowKit
def Tr (N:Nat) (p_0:Int×Int):Option (Bool):=
 (Pg N p_0.1 (0:Int) (4:Int)).bind fun v1=>
 cnd v1 (
  (Pg N p_0.2 (0:Int) (4:Int)).bind fun v2=>
  some v2) (
  some false)
theorem S_l10On_w (N:Nat) (p_0:Int×Int) (r:Bool) (h:Tr N p_0=some r):PCall Tryz.prog 127 [.agg [.int p_0.1,.int p_0.2]] [] (.bool r):=by
 unfold Tr at h;refine Ak (TT:=TT) tt Tryz.func127 O O Tryz.ntmps127 (congrArg Array.toList Tryz.results127) O O fun w0=>(Ah (Ab (Lw O O O O O O O O O (Aa O (Af (Ah (Ab (Aa O (Aa O ?_)))))))));obtain ⟨v1,hc1,h⟩:=Ad h;refine Bn (Ln N p_0.1 (0:Int) (4:Int) v1 hc1) O O O O O O O O ⟨O,O,O,Y⟩ (Aa O (Bi O O O (fun hb2=>?_) (fun hb2=>?_)))
 ·replace h:=Ai hb2 h;iterate 2 refine Bj tt O O O O O hb2 O O O Y ?_
  obtain ⟨v2,hc3,h⟩:=Ad h;refine Hx (Ln N p_0.2 (0:Int) (4:Int) v2 hc3) O O O O hb2 O O O O O O O ⟨O,O,O,Y⟩ (Bd O O O O O hb2 O (Aa O (Af (Ay ?_))));show ∃ _,_;cases h;exact ⟨[],_,O,Y,O,.eq O,O⟩
 replace h:=Aj hb2 h;iterate 3 refine Qv O O O O hb2 O O ?_
 refine Az O O O O O hb2 O (Aa O (Af (Ay ?_)));show ∃ _,_;cases h;exact ⟨[],_,O,Y,O,.eq O,O⟩
def Qn (N:Nat) (a_0:Int×Int) (b_1:Int×Int):Option (Bool):=
 (Tr N a_0).bind fun v1=>
 cnd v1 (
  (Tr N b_1).bind fun v2=>
  cnd v2 (
   grd (Bg (a_0.1-b_1.1)) <|
   (Pg N (a_0.1-b_1.1) (-1:Int) (1:Int)).bind fun v3=>
   cnd v3 (
    grd (Bg (a_0.2-b_1.2)) <|
    (Pg N (a_0.2-b_1.2) (-1:Int) (1:Int)).bind fun v4=>
    some v4) (
    some false)) (
   some false)) (
  some false)
theorem S_l25Step_w (N:Nat) (a_0:Int×Int) (b_1:Int×Int) (r:Bool) (h:Qn N a_0 b_1=some r):PCall Tryz.prog 95 [.agg [.int a_0.1,.int a_0.2],.agg [.int b_1.1,.int b_1.2]] [] (.bool r):=by
 unfold Qn at h;refine Ak (TT:=TT) tt Tryz.func95 O O Tryz.ntmps95 (congrArg Array.toList Tryz.results95) O O fun w0=>(Ah (Ab ?_));iterate 2 refine Lw O O O O O O O O O ?_
 refine Aa O (Af (Ah (Ab (Aa O ?_))));obtain ⟨v1,hc1,h⟩:=Ad h;refine Bn (S_l10On_w N a_0 v1 hc1) O O O O O O O O ⟨⟨O,O,Y⟩,Y⟩ (Aa O (Bi O O O (fun hb2=>?_) (fun hb2=>?_)))
 ·replace h:=Ai hb2 h;refine Bj tt O O O O O hb2 O O O Y ?_;obtain ⟨v2,hc3,h⟩:=Ad h;refine Hx (S_l10On_w N b_1 v2 hc3) O O O O hb2 O O O O O O O ⟨⟨O,O,Y⟩,Y⟩ (Bd O O O O O hb2 O (Aa O (Bi O O O (fun hb4=>?_) (fun hb4=>?_))))
  ·replace h:=Ai hb4 h;iterate 4 refine Bj tt O O O O O hb4 O O O Y ?_
   obtain ⟨hg5,h⟩:=Ac h;refine Bj tt O O O O O hb4 O O O hg5 ?_;obtain ⟨v3,hc6,h⟩:=Ad h;refine Hx (Ln N (a_0.1-b_1.1) (-1:Int) (1:Int) v3 hc6) O O O O hb4 O O O O O O O ⟨O,O,O,Y⟩ (Bd O O O O O hb4 O (Aa O (Bi O O O (fun hb7=>?_) (fun hb7=>?_))))
   ·replace h:=Ai hb7 h;iterate 4 refine Bj tt O O O O O hb7 O O O Y ?_
    obtain ⟨hg8,h⟩:=Ac h;refine Bj tt O O O O O hb7 O O O hg8 ?_;obtain ⟨v4,hc9,h⟩:=Ad h;refine Hx (Ln N (a_0.2-b_1.2) (-1:Int) (1:Int) v4 hc9) O O O O hb7 O O O O O O O ⟨O,O,O,Y⟩ (Bd O O O O O hb7 O (Aa O (Af (Ay ?_))));show ∃ _,_;cases h;exact ⟨[],_,O,Y,O,.eq O,O⟩
   replace h:=Aj hb7 h;iterate 6 refine Qv O O O O hb7 O O ?_
   refine Az O O O O O hb7 O (Aa O (Af (Ay ?_)));show ∃ _,_;cases h;exact ⟨[],_,O,Y,O,.eq O,O⟩
  replace h:=Aj hb4 h;iterate 6 refine Qv O O O O hb4 O O ?_
  refine Az O O O O O hb4 O (Aa O ?_);iterate 6 refine Qv O O O O O O O ?_
  refine Az O O O O O O O (Aa O (Af (Ay ?_)));show ∃ _,_;cases h;exact ⟨[],_,O,Y,O,.eq O,O⟩
 replace h:=Aj hb2 h;iterate 2 refine Qv O O O O hb2 O O ?_
 refine Az O O O O O hb2 O (Aa O ?_);iterate 6 refine Qv O O O O O O O ?_
 refine Az O O O O O O O (Aa O ?_);iterate 6 refine Qv O O O O O O O ?_
 refine Az O O O O O O O (Aa O (Af (Ay ?_)));show ∃ _,_;cases h;exact ⟨[],_,O,Y,O,.eq O,O⟩
def Gp (N:Nat) (a_0:List (Int×Int)) (b_1:List (Int×Int)) (k:Unit→Option (Bool)):Nat→Int→Option (Bool)
 | 0,_=>none
 | n+1,i7=>
  cnd (decide (i7<(a_0.length:Int))) (
   cnd (decide (i7<(b_1.length:Int))) (
    grd (0≤i7∧i7<(a_0.length:Int)) <|
    grd (0≤i7∧i7<(b_1.length:Int)) <|
    (Qn N (a_0.getD ((i7).toNat) (0,0)) (b_1.getD ((i7).toNat) (0,0))).bind fun v9=>
    cnd (!v9) (
     some false) (
     grd (Bg (i7+(1:Int))) <|
     Gp N a_0 b_1 k n (i7+(1:Int)))) (
    k ())) (
   k ())
def Ma (N:Nat) (a_0:List (Int×Int)) (b_1:List (Int×Int)):Option (Bool):=
 Gp N a_0 b_1 (fun (_ : Unit) =>
    some ((a_0.length:Int)==(b_1.length:Int))) N (0:Int)
theorem Yt (N:Nat) (a_0:List (Int×Int)) (b_1:List (Int×Int)) (r:Bool) (h:Ma N a_0 b_1=some r):PCall Tryz.prog 42 [.ro false (.pairs a_0),.ro false (.pairs b_1)] [] (.bool r):=by
 unfold Ma at h;refine Ak (TT:=TT) tt Tryz.func42 O O Tryz.ntmps42 (congrArg Array.toList Tryz.results42) O O fun w0=>(Ah (Ab (Aa O (Af (Ah (Ah (Ab (Aa O (Af ?_)))))))));refine Cb (F:=fun k=>Gp N a_0 b_1 k) h (α:=Unit) (J:=fun (_:Unit)=>(⟨[(0,.ro false (.pairs a_0)),(1,.ro false (.pairs b_1))],[],[]⟩:PS)) ?_ ?_
 ·rintro ⟨⟩ h;show VC _ _ _ (⟨[(0,.ro false (.pairs a_0)),(1,.ro false (.pairs b_1))],[],[]⟩:PS);refine Ah (Ab ?_);iterate 6 refine Aa O ?_
  refine Af (Ay ?_);show ∃ _,_;cases h;exact ⟨[],_,O,Y,O,.eq O,O⟩
 intro k h;refine Aq (Bh (α:=Int) (fun (i7:Int)=>(⟨[(0,.ro false (.pairs a_0)),(1,.ro false (.pairs b_1)),(5,.int i7)],[],[]⟩:PS)) (Gp N a_0 b_1 k) h (En.of ⟨O,O,O,Y⟩ trivial trivial) (fun _=>O) ?_);rintro n i7 h;rw [Gp] at h;show VC _ _ _ (⟨[(0,.ro false (.pairs a_0)),(1,.ro false (.pairs b_1)),(5,.int i7)],[],[]⟩:PS);refine Ah (Ah (Ab ?_));iterate 5 refine Aa O ?_
 refine Bi O O O (fun hb1=>?_) (fun hb1=>?_)
 ·replace h:=Ai hb1 h;iterate 4 refine Bj tt O O O O O hb1 O O O Y ?_
  refine Bd O O O O O hb1 O (Af (At O (fun hb2=>?_) (fun hb2=>?_)))
  ·replace h:=Ai hb2 h;refine Ar (Ah (Aq (Ah (Bt (by kernel_rfl) (by kernel_rfl) ?_))));iterate 2 refine Bb tt O (Ag O) O O O Y ?_
   obtain ⟨hg3,h⟩:=Ac h;refine Bb tt O (Ag O) O O O hg3 ?_;iterate 3 refine Bb tt O (Ag O) O O O Y ?_
   obtain ⟨hg4,h⟩:=Ac h;refine Bb tt O (Ag O) O O O hg4 (Bb tt O (Ag O) O O O Y ?_);obtain ⟨v9,hc5,h⟩:=Ad h;refine Ta (S_l25Step_w N (a_0.getD ((i7).toNat) (0,0)) (b_1.getD ((i7).toNat) (0,0)) v9 hc5) O (Ag O) O O O O O O ⟨⟨O,O,Y⟩,⟨O,O,Y⟩,Y⟩ (Bb tt O (Ag O) O O O Y (Km (At O (fun hb6=>?_) (fun hb6=>?_))))
   ·replace h:=Ai hb6 h;refine Ah (Ab (Aa O (Af (Ay ?_))));show ∃ _,_;cases h;exact ⟨[],_,O,Y,O,.eq O,O⟩
   replace h:=Aj hb6 h;refine Ar (Ab (Aa O ?_));obtain ⟨hg7,h⟩:=Ac h;refine Ae tt O hg7 (Aa O (Af ?_));show ∃ _,_;exact ⟨(i7+(1:Int)),(En.of ⟨O,O,O,Y⟩ trivial trivial),h⟩
  replace h:=Aj hb2 h;refine Br ?_;show ∃ _,_;exact ⟨(),(En.of ⟨O,O,Y⟩ trivial trivial),h⟩
 replace h:=Aj hb1 h;iterate 4 refine Qv O O O O hb1 O O ?_
 refine Az O O O O O hb1 O (Af (Gx O O (Br ?_)));show ∃ _,_;exact ⟨(),(En.of ⟨O,O,Y⟩ trivial trivial),h⟩
def Dv (N:Nat) (all_0:List (List (Int×Int))) (k93:Int) (k:((List Int)×(List Int))→Option ((List Int)×(List Int))):Nat→((List Int)×(List Int)×Int)→Option ((List Int)×(List Int))
 | 0,_=>none
 | n+1,(l129,l130,i131)=>
  cnd (decide (i131<(all_0.length:Int))) (
   (Pa N l129 i131).bind fun v134=>
   cnd (!v134) (
    grd (0≤k93∧k93<(l129.length:Int)) <|
    grd (0≤(l129.getD ((k93).toNat) 0)∧(l129.getD ((k93).toNat) 0)<(all_0.length:Int)) <|
    grd (0≤i131∧i131<(all_0.length:Int)) <|
    (Ma N (all_0.getD (((l129.getD ((k93).toNat) 0)).toNat) []) (all_0.getD ((i131).toNat) [])).bind fun v135=>
    cnd v135 (
     grd (l129.length+1≤4294967296) <|
     grd (l130.length+1≤4294967296) <|
     grd (Bg (i131+(1:Int))) <|
     Dv N all_0 k93 k n ((l129++([i131]:List Int)),(l130++([k93]:List Int)),(i131+(1:Int)))) (
     grd (Bg (i131+(1:Int))) <|
     Dv N all_0 k93 k n (l129,l130,(i131+(1:Int))))) (
    grd (Bg (i131+(1:Int))) <|
    Dv N all_0 k93 k n (l129,l130,(i131+(1:Int))))) (
   k (l129,l130))
def Du (N:Nat) (all_0:List (List (Int×Int))) (k:((List Int)×(List Int))→Option ((List Int)×(List Int))):Nat→((List Int)×(List Int)×Int)→Option ((List Int)×(List Int))
 | 0,_=>none
 | n+1,(l91,l92,k93)=>
  cnd (decide (k93<(l91.length:Int))) (
   Dv N all_0 k93 (fun (x:(List Int)×(List Int))=>
     match x with
     | (l124,l125)=>
      grd (Bg (k93+(1:Int))) <|
      Du N all_0 k n (l124,l125,(k93+(1:Int)))) N (l91,l92,(0:Int))) (
   k (l91,l92))
def Hr (N:Nat) (all_0:List (List (Int×Int))) (start_1:Int):Option ((List Int)×(List Int)):=
 Du N all_0 (fun (x:(List Int)×(List Int))=>
   match x with
   | (l67,l68)=>
    some (l67,l68)) N (([start_1]:List Int),([(-1:Int)]:List Int),(0:Int))
theorem Wf (N:Nat) (all_0:List (List (Int×Int))) (start_1:Int) (r:(List Int)×(List Int)) (h:Hr N all_0 start_1=some r):PCall Tryz.prog 76 [.ro false (.pairss all_0),.int start_1] [(3,.ints r.1),(3,.ints r.2)] (.tup [.row 0 0 r.1.length,.row 1 0 r.2.length]):=by
 unfold Hr at h;refine Ak (TT:=TT) tt Tryz.func76 O O Tryz.ntmps76 (congrArg Array.toList Tryz.results76) O O fun w0=>(Ah (Ab (Aa O (Aa O (Af (Ah (Ab (Aa O (Dr tt O O O O O O O O O O O ?_)))))))));refine Aa O (Af (Ah (Ab (Dr tt O O O O O O O O O O O (Aa O (Af (Ah (Ah (Ab ?_)))))))));refine Aa rfl (Af (Cb (F:=fun k=>Du N all_0 k) h (α:=(List Int)×(List Int)) (J:=fun | (l67,l68)=>(⟨[(6,.row 11 0 l67.length),(7,.row 12 0 l68.length)],[(11,some (3,.ints l67)),(12,some (3,.ints l68))],[]⟩:PS)) ?_ ?_))
 ·rintro ⟨l67,l68⟩ h;show VC _ _ _ (⟨[(6,.row 11 0 l67.length),(7,.row 12 0 l68.length)],[(11,some (3,.ints l67)),(12,some (3,.ints l68))],[]⟩:PS);refine Ah (Ab ?_);iterate 4 refine Aa O ?_
  refine Af (Ay ?_);show ∃ _,_;cases h;exact ⟨[11,12],_,O,⟨O,O,Y⟩,O,.eq O,O⟩
 intro k h;refine Aq (Bh (α:=(List Int)×(List Int)×Int) (fun | (l91,l92,k93)=>(⟨[(0,.ro false (.pairss all_0)),(6,.row 11 0 l91.length),(7,.row 12 0 l92.length),(8,.int k93)],[(11,some (3,.ints l91)),(12,some (3,.ints l92))],[]⟩:PS)) (Du N all_0 k) h (En.of ⟨rfl,rfl,rfl,rfl,Y⟩ ⟨rfl,rfl,Y⟩ trivial) (fun _=>rfl) ?_);rintro n ⟨l91,l92,k93⟩ h;rw [Du] at h;show VC _ _ _ (⟨[(0,.ro false (.pairss all_0)),(6,.row 11 0 l91.length),(7,.row 12 0 l92.length),(8,.int k93)],[(11,some (3,.ints l91)),(12,some (3,.ints l92))],[]⟩:PS);refine Ah (Ah (Ab ?_));iterate 4 refine Aa O ?_
 refine Af (At O (fun hb1=>?_) (fun hb1=>?_))
 ·replace h:=Ai hb1 h;refine Ar (Ah (Aq (Ah (Ab (Aa rfl (Af (Cb (F:=fun k=>Dv N all_0 k93 k) h (α:=(List Int)×(List Int)) (J:=fun | (l124,l125)=>(⟨[(0,.ro false (.pairss all_0)),(6,.row 11 0 l124.length),(7,.row 12 0 l125.length),(8,.int k93)],[(11,some (3,.ints l124)),(12,some (3,.ints l125))],[]⟩:PS)) ?_ ?_)))))))
  ·rintro ⟨l124,l125⟩ h;show VC _ _ _ (⟨[(0,.ro false (.pairss all_0)),(6,.row 11 0 l124.length),(7,.row 12 0 l125.length),(8,.int k93)],[(11,some (3,.ints l124)),(12,some (3,.ints l125))],[]⟩:PS);refine Ab (Aa O ?_);obtain ⟨hg2,h⟩:=Ac h;refine Ae tt O hg2 (Aa O (Af ?_));show ∃ _,_;exact ⟨(l124,l125,(k93+(1:Int))),(En.of ⟨O,O,O,O,Y⟩ ⟨O,O,Y⟩ trivial),h⟩
  intro k h;refine Aq (Bh (α:=(List Int)×(List Int)×Int) (fun | (l129,l130,i131)=>(⟨[(0,.ro false (.pairss all_0)),(6,.row 11 0 l129.length),(7,.row 12 0 l130.length),(8,.int k93),(9,.int i131)],[(11,some (3,.ints l129)),(12,some (3,.ints l130))],[]⟩:PS)) (Dv N all_0 k93 k) h (En.of ⟨rfl,rfl,rfl,rfl,rfl,Y⟩ ⟨rfl,rfl,Y⟩ trivial) (fun _=>rfl) ?_);rintro n ⟨l129,l130,i131⟩ h;rw [Dv] at h;show VC _ _ _ (⟨[(0,.ro false (.pairss all_0)),(6,.row 11 0 l129.length),(7,.row 12 0 l130.length),(8,.int k93),(9,.int i131)],[(11,some (3,.ints l129)),(12,some (3,.ints l130))],[]⟩:PS);refine Ah (Ah (Ab ?_));iterate 4 refine Aa O ?_
  refine Af (At O (fun hb3=>?_) (fun hb3=>?_))
  ·replace h:=Ai hb3 h;refine Ar (Ah (Aq (Ah (Bt (by kernel_rfl) (by kernel_rfl) ?_))));iterate 2 refine Bb tt O (Ag O) O O O Y ?_
   obtain ⟨v134,hc4,h⟩:=Ad h;refine Ta (Te N l129 i131 v134 hc4) O (Ag O) O O O O O O ⟨(.inl ⟨O,O⟩),O,Y⟩ ?_;iterate 2 refine Bb tt O (Ag O) O O O Y ?_
   refine Gg O O O (fun hb5=>?_) (fun hb5=>?_)
   ·replace h:=Ai hb5 h;iterate 3 refine Bb tt O (Aw O O O O hb5) O O O Y ?_
    obtain ⟨hg6,h⟩:=Ac h;iterate 2 refine Bb tt O (Aw O O O O hb5) O O O hg6 ?_
    obtain ⟨hg7,h⟩:=Ac h;refine Bb tt O (Aw O O O O hb5) O O O hg7 ?_;iterate 3 refine Bb tt O (Aw O O O O hb5) O O O Y ?_
    obtain ⟨hg8,h⟩:=Ac h;refine Bb tt O (Aw O O O O hb5) O O O hg8 (Bb tt O (Aw O O O O hb5) O O O Y ?_);obtain ⟨v135,hc9,h⟩:=Ad h;refine Ta (Yt N (all_0.getD (((l129.getD ((k93).toNat) 0)).toNat) []) (all_0.getD ((i131).toNat) []) v135 hc9) O (Aw O O O O hb5) O O O O O O ⟨O,O,Y⟩ (Eh O (Ag O) O O O hb5 O (Km (At O (fun hb10=>?_) (fun hb10=>?_))))
    ·replace h:=Ai hb10 h;refine Ah (Ab (Aa O (Aa O (Dr tt O O O O O O O O O O O ?_))));obtain ⟨hg11,h⟩:=Ac h;refine Cn tt O O O O O O O O O O O O O O O O (Nat.le_of_eq (Nat.zero_add _)) hg11 (Aa O (Af (Ab (Aa O (Aa O (Dr tt O O O O O O O O O O O ?_))))));obtain ⟨hg12,h⟩:=Ac h;refine Cn tt O O O O O O O O O O O O O O O O (Nat.le_of_eq (Nat.zero_add _)) hg12 (Aa O (Af (Ab (Aa O ?_))));obtain ⟨hg13,h⟩:=Ac h;refine Ae tt O hg13 (Aa O (Af ?_));show ∃ _,_;exact ⟨((l129++([i131]:List Int)),(l130++([k93]:List Int)),(i131+(1:Int))),(En.of ⟨O,O,O,O,O,Y⟩ ⟨O,O,Y⟩ trivial),h⟩
    replace h:=Aj hb10 h;refine Ar (Ab (Aa O ?_));obtain ⟨hg14,h⟩:=Ac h;refine Ae tt O hg14 (Aa O (Af ?_));show ∃ _,_;exact ⟨(l129,l130,(i131+(1:Int))),(En.of ⟨O,O,O,O,O,Y⟩ ⟨O,O,Y⟩ trivial),h⟩
   replace h:=Aj hb5 h;iterate 12 refine cNoT O O O O hb5 O O ?_
   refine Eo O (Ag O) O O O hb5 O (Km (Gx O O (Ar (Ab (Aa O ?_)))));obtain ⟨hg15,h⟩:=Ac h;refine Ae tt O hg15 (Aa O (Af ?_));show ∃ _,_;exact ⟨(l129,l130,(i131+(1:Int))),(En.of ⟨O,O,O,O,O,Y⟩ ⟨O,O,Y⟩ trivial),h⟩
  replace h:=Aj hb3 h;refine Br ?_;show ∃ _,_;exact ⟨(l129,l130),(En.of ⟨O,O,O,O,Y⟩ ⟨O,O,Y⟩ trivial),h⟩
 replace h:=Aj hb1 h;refine Br ?_;show ∃ _,_;exact ⟨(l91,l92),(En.of ⟨O,O,Y⟩ ⟨O,O,Y⟩ trivial),h⟩
end
section
open Go.RowKit
def Gh (N:Nat) (a_0:List (Int×Int)) (b_1:List (Int×Int)) (k:Unit→Option (Bool)):Nat→Int→Option (Bool)
 | 0,_=>none
 | n+1,x19=>
  cnd (decide (x19<(a_0.length:Int))) (
   grd (0≤x19∧x19<(a_0.length:Int)) <|
   grd (0≤x19∧x19<(b_1.length:Int)) <|
   (Jy N (a_0.getD ((x19).toNat) (0,0))).bind fun v24=>
   cnd (!v24) (
    some false) (
    (Jy N (b_1.getD ((x19).toNat) (0,0))).bind fun v25=>
    cnd (!v25) (
     some false) (
     grd (Bg (((a_0.getD ((x19).toNat) (0,0)).1)-((b_1.getD ((x19).toNat) (0,0)).1))) <|
     (Gt N (((a_0.getD ((x19).toNat) (0,0)).1)-((b_1.getD ((x19).toNat) (0,0)).1)) (-1:Int) (1:Int)).bind fun v26=>
     cnd (!v26) (
      some false) (
      grd (Bg (((a_0.getD ((x19).toNat) (0,0)).2)-((b_1.getD ((x19).toNat) (0,0)).2))) <|
      (Gt N (((a_0.getD ((x19).toNat) (0,0)).2)-((b_1.getD ((x19).toNat) (0,0)).2)) (-1:Int) (1:Int)).bind fun v27=>
      cnd (!v27) (
       some false) (
       grd (Bg (x19+(1:Int))) <|
       Gh N a_0 b_1 k n (x19+(1:Int))))))) (
   k ())
def Fw (N:Nat) (a_0:List (Int×Int)) (b_1:List (Int×Int)):Option (Bool):=
 cnd ((a_0.length:Int) != (b_1.length:Int)) (
  some false) (
  Gh N a_0 b_1 (fun (_ : Unit) =>
     some true) N (0:Int))
theorem Js (N:Nat) (a_0:List (Int×Int)) (b_1:List (Int×Int)) (r:Bool) (h:Fw N a_0 b_1=some r):PCall Tryz.prog 36 [.ro false (.pairs a_0),.ro false (.pairs b_1)] [] (.bool r):=by
 unfold Fw at h;refine Ak (TT:=TT) tt Tryz.func36 O O Tryz.ntmps36 (congrArg Array.toList Tryz.results36) O O fun w0=>(Ah (Ab (Aa O (Af (Ah (Ah (Ab ?_)))))));iterate 5 refine Aa O ?_
 refine Af (At O (fun hb1=>?_) (fun hb1=>?_))
 ·replace h:=Ai hb1 h;refine Ah (Ab (Aa O (Af (Ay ?_))));show ∃ _,_;cases h;exact ⟨[],_,O,Y,O,.eq O,O⟩
 replace h:=Aj hb1 h;refine Ar (Ah (Ah (Ab (Aa O (Aa O (Aa O (Af (Cb (F:=fun k=>Gh N a_0 b_1 k) h (α:=Unit) (J:=fun (_:Unit)=>(⟨[],[],[]⟩:PS)) ?_ ?_))))))))
 ·rintro ⟨⟩ h;show VC _ _ _ (⟨[],[],[]⟩:PS);refine Ah (Ab (Aa O (Af (Ay ?_))));show ∃ _,_;cases h;exact ⟨[],_,O,Y,O,.eq O,O⟩
 intro k h;refine Aq (Bh (α:=Int) (fun (x19:Int)=>(⟨[(1,.ro false (.pairs b_1)),(13,.ro false (.pairs a_0)),(14,.int (a_0.length:Int)),(15,.int x19)],[],[]⟩:PS)) (Gh N a_0 b_1 k) h (En.of ⟨O,O,O,O,Y⟩ trivial trivial) (fun _=>O) ?_);rintro n x19 h;rw [Gh] at h;show VC _ _ _ (⟨[(1,.ro false (.pairs b_1)),(13,.ro false (.pairs a_0)),(14,.int (a_0.length:Int)),(15,.int x19)],[],[]⟩:PS);refine Ah (Ab (Aa O (Af (Ah (At O (fun hb2=>?_) (fun hb2=>?_))))))
 ·replace h:=Ai hb2 h;refine Ar (Ah (Aq (Ah (Ab (Aa O ?_)))));obtain ⟨hg3,h⟩:=Ac h;refine Ae tt O hg3 (Aa O (Bq tt O O O O O O O O O (Aa O (As tt O O O O O O O O O O O ⟨Y,Y,Y⟩ (Af (Ah (Ab (Aa O (Aa O ?_)))))))));obtain ⟨hg4,h⟩:=Ac h;refine Ae tt O hg4 (Aa O (Bq tt O O O O O O O O O (As tt O O O O O O O O O O O ⟨Y,Y,Y⟩ (Af (Ah (Ab (Aa O ?_)))))));obtain ⟨v24,hc5,h⟩:=Ad h;refine Bn (Mm N (a_0.getD ((x19).toNat) (0,0)) v24 hc5) O O O O O O O O ⟨⟨O,O,Y⟩,Y⟩ (Aa O (Aa O (Bi O O O (fun hb6=>?_) (fun hb6=>?_))))
  ·replace h:=Ai hb6 h;iterate 3 refine Fd O O O O hb6 O O ?_
   refine Bd O O O O O hb6 O (Aa O ?_);iterate 7 refine Fd O O O O O O O ?_
   refine Bd O O O O O O O (Aa O ?_);iterate 7 refine Fd O O O O O O O ?_
   refine Bd O O O O O O O (Af (Bo O O (Ah (Ab (Aa O (Af (Ay ?_)))))));show ∃ _,_;cases h;exact ⟨[],_,O,Y,O,.eq O,O⟩
  replace h:=Aj hb6 h;refine Bj tt O O O O O hb6 O O O Y ?_;obtain ⟨v25,hc7,h⟩:=Ad h;refine Hx (Mm N (b_1.getD ((x19).toNat) (0,0)) v25 hc7) O O O O hb6 O O O O O O O ⟨⟨O,O,Y⟩,Y⟩ (Bj tt O O O O O hb6 O O O Y (Az O O O O O hb6 O (Aa O (Bi O O O (fun hb8=>?_) (fun hb8=>?_)))))
  ·replace h:=Ai hb8 h;iterate 7 refine Fd O O O O hb8 O O ?_
   refine Bd O O O O O hb8 O (Aa O ?_);iterate 7 refine Fd O O O O O O O ?_
   refine Bd O O O O O O O (Af (Bo O O (Ah (Ab (Aa O (Af (Ay ?_)))))));show ∃ _,_;cases h;exact ⟨[],_,O,Y,O,.eq O,O⟩
  replace h:=Aj hb8 h;iterate 4 refine Bj tt O O O O O hb8 O O O Y ?_
  obtain ⟨hg9,h⟩:=Ac h;refine Bj tt O O O O O hb8 O O O hg9 ?_;obtain ⟨v26,hc10,h⟩:=Ad h;refine Hx (Hq N (((a_0.getD ((x19).toNat) (0,0)).1)-((b_1.getD ((x19).toNat) (0,0)).1)) (-1:Int) (1:Int) v26 hc10) O O O O hb8 O O O O O O O ⟨O,O,O,Y⟩ (Bj tt O O O O O hb8 O O O Y (Az O O O O O hb8 O (Aa O (Bi O O O (fun hb11=>?_) (fun hb11=>?_)))))
  ·replace h:=Ai hb11 h;iterate 7 refine Fd O O O O hb11 O O ?_
   refine Bd O O O O O hb11 O (Af (Bo O O (Ah (Ab (Aa O (Af (Ay ?_)))))));show ∃ _,_;cases h;exact ⟨[],_,O,Y,O,.eq O,O⟩
  replace h:=Aj hb11 h;iterate 4 refine Bj tt O O O O O hb11 O O O Y ?_
  obtain ⟨hg12,h⟩:=Ac h;refine Bj tt O O O O O hb11 O O O hg12 ?_;obtain ⟨v27,hc13,h⟩:=Ad h;refine Hx (Hq N (((a_0.getD ((x19).toNat) (0,0)).2)-((b_1.getD ((x19).toNat) (0,0)).2)) (-1:Int) (1:Int) v27 hc13) O O O O hb11 O O O O O O O ⟨O,O,O,Y⟩ (Bj tt O O O O O hb11 O O O Y (Az O O O O O hb11 O (Af (At O (fun hb14=>?_) (fun hb14=>?_)))))
  ·replace h:=Ai hb14 h;refine Ah (Ab (Aa O (Af (Ay ?_))));show ∃ _,_;cases h;exact ⟨[],_,O,Y,O,.eq O,O⟩
  replace h:=Aj hb14 h;refine Ar (Ab ?_);obtain ⟨hg15,h⟩:=Ac h;refine Ae tt O hg15 (Aa O (Af ?_));show ∃ _,_;exact ⟨(x19+(1:Int)),(En.of ⟨O,O,O,O,Y⟩ trivial trivial),h⟩
 replace h:=Aj hb2 h;refine Br ?_;show ∃ _,_;exact ⟨(),(En.of trivial trivial trivial),h⟩
def Dg (N:Nat) (l_0:List Int) (x_1:Int) (k:((List Int)×Bool)→Option (List Int)):Nat→((List Int)×Bool×Int)→Option (List Int)
 | 0,_=>none
 | n+1,(l19,placed20,i21)=>
  cnd (decide (i21<(l_0.length:Int))) (
   grd (0≤i21∧i21<(l_0.length:Int)) <|
   jn (fun (placed24 : Bool) =>
      cnd (decide ((l_0.getD ((i21).toNat) 0) > x_1)) (
       cnd (!placed24) (
        grd (l19.length+1≤4294967296) <|
        grd ((l19++([x_1]:List Int)).length+1≤4294967296) <|
        grd (Bg (i21+(1:Int))) <|
        Dg N l_0 x_1 k n (((l19++([x_1]:List Int))++([(l_0.getD ((i21).toNat) 0)]:List Int)),true,(i21+(1:Int)))) (
        grd (l19.length+1≤4294967296) <|
        grd (Bg (i21+(1:Int))) <|
        Dg N l_0 x_1 k n ((l19++([(l_0.getD ((i21).toNat) 0)]:List Int)),placed24,(i21+(1:Int))))) (
       grd (l19.length+1≤4294967296) <|
       grd (Bg (i21+(1:Int))) <|
       Dg N l_0 x_1 k n ((l19++([(l_0.getD ((i21).toNat) 0)]:List Int)),placed24,(i21+(1:Int))))) fun k25=>
    cnd ((l_0.getD ((i21).toNat) 0)==x_1) (
     k25 true) (
     k25 placed20)) (
   k (l19,placed20))
def Wn (N:Nat) (l_0:List Int) (x_1:Int):Option (List Int):=
 Dg N l_0 x_1 (fun (x:(List Int)×Bool)=>
   match x with
   | (l12,placed13)=>
    cnd (!placed13) (
     grd (l12.length+1≤4294967296) <|
     some (l12++([x_1]:List Int))) (
     some l12)) N (([]:List Int),false,(0:Int))
theorem S_l5With_w (N:Nat) (l_0:List Int) (x_1:Int) (r:List Int) (h:Wn N l_0 x_1=some r):PCall Tryz.prog 53 [.ro false (.ints l_0),.int x_1] [(3,.ints r)] (.row 0 0 r.length):=by
 unfold Wn at h;refine Ak (TT:=TT) tt Tryz.func53 O O Tryz.ntmps53 (congrArg Array.toList Tryz.results53) O O fun w0=>(Ah (Ab (Aa O (Af (Ah (Ab (Cj tt (Ag O) O O O O (Aa O (Af ?_)))))))));refine Ah (Ab (Aa rfl (Af (Ah (Ah (Ab (Aa rfl (Af (Cb (F:=fun k=>Dg N l_0 x_1 k) h (α:=(List Int)×Bool) (J:=fun | (l12,placed13)=>(⟨[(1,.int x_1),(5,.row 34 0 l12.length),(6,.bool placed13)],[(34,some (3,.ints l12))],[]⟩:PS)) ?_ ?_)))))))))
 ·rintro ⟨l12,placed13⟩ h;show VC _ _ _ (⟨[(1,.int x_1),(5,.row 34 0 l12.length),(6,.bool placed13)],[(34,some (3,.ints l12))],[]⟩:PS);refine Ah (Ah (Ab (Aa O (Aa O (Af (At O (fun hb1=>?_) (fun hb1=>?_)))))))
  ·replace h:=Ai hb1 h;refine Ab (Aa O (Aa O (Dr tt O O O O O O O O O O O ?_)));obtain ⟨hg2,h⟩:=Ac h;refine Cn tt O O O O O O O O O O O O O O O O (Nat.le_of_eq (Nat.zero_add _)) hg2 (Aa O (Af (Ah (Ab (Aa O (Aa O (Af (Ay ?_))))))));show ∃ _,_;cases h;exact ⟨[34],_,O,⟨O,Y⟩,O,.eq O,O⟩
  replace h:=Aj hb1 h;refine Ar (Ah (Ab (Aa O (Aa O (Af (Ay ?_))))));show ∃ _,_;cases h;exact ⟨[34],_,O,⟨O,Y⟩,O,.eq O,O⟩
 intro k h;refine Aq (Gw 5 34 3 (.ints []) rfl rfl rfl rfl (Bh (α:=(List Int)×Bool×Int) (fun | (l19,placed20,i21)=>(⟨[(0,.ro false (.ints l_0)),(1,.int x_1),(5,.row 34 0 l19.length),(6,.bool placed20),(7,.int i21)],[(34,some (3,.ints l19))],[]⟩:PS)) (Dg N l_0 x_1 k) h (En.of ⟨rfl,rfl,rfl,rfl,rfl,Y⟩ ⟨rfl,Y⟩ trivial) (fun _=>rfl) ?_));rintro n ⟨l19,placed20,i21⟩ h;rw [Dg] at h;show VC _ _ _ (⟨[(0,.ro false (.ints l_0)),(1,.int x_1),(5,.row 34 0 l19.length),(6,.bool placed20),(7,.int i21)],[(34,some (3,.ints l19))],[]⟩:PS);refine Ah (Ah (Ab ?_));iterate 4 refine Aa O ?_
 refine Af (At O (fun hb3=>?_) (fun hb3=>?_))
 ·replace h:=Ai hb3 h;refine Ar (Ah (Aq (Ah (Ah (Ab (Aa O (Aa O ?_)))))));obtain ⟨hg4,h⟩:=Ac h;refine Ae tt O hg4 (Aa O (Aa O (Aa O (Af (vJoinN h (α:=Bool) (J:=fun (placed24:Bool)=>(⟨[(0,.ro false (.ints l_0)),(1,.int x_1),(5,.row 34 0 l19.length),(6,.bool placed24),(7,.int i21)],[(34,some (3,.ints l19))],[]⟩:PS)) ?_ ?_)))))
  ·rintro placed24 h;show VC _ _ _ (⟨[(0,.ro false (.ints l_0)),(1,.int x_1),(5,.row 34 0 l19.length),(6,.bool placed24),(7,.int i21)],[(34,some (3,.ints l19))],[]⟩:PS);refine Ah (Ah (Ab (Aa O (Aa O (Ae tt O hg4 ?_)))));iterate 4 refine Aa O ?_
   refine Bi O O O (fun hb5=>?_) (fun hb5=>?_)
   ·replace h:=Ai hb5 h;iterate 2 refine Bj tt O O O O O hb5 O O O Y ?_
    refine Bd O O O O O hb5 O (Af (At O (fun hb6=>?_) (fun hb6=>?_)))
    ·replace h:=Ai hb6 h;refine Ah (Ab (Aa O (Aa O (Dr tt O O O O O O O O O O O ?_))));obtain ⟨hg7,h⟩:=Ac h;refine Cn tt O O O O O O O O O O O O O O O O (Nat.le_of_eq (Nat.zero_add _)) hg7 (Aa O (Af (Ab (Aa O (Af (Ab (Aa O (Aa O (Aa O ?_)))))))));refine Ae tt O hg4 (Aa O (Dr tt O O O O O O O O O O O ?_));obtain ⟨hg8,h⟩:=Ac h;refine Cn tt O O O O O O O O O O O O O O O O (Nat.le_of_eq (Nat.zero_add _)) hg8 (Aa O (Af (Ab (Aa O ?_))));obtain ⟨hg9,h⟩:=Ac h;refine Ae tt O hg9 (Aa O (Af ?_));show ∃ _,_;exact ⟨(((l19++([x_1]:List Int))++([(l_0.getD ((i21).toNat) 0)]:List Int)),true,(i21+(1:Int))),(En.of ⟨O,O,O,O,O,Y⟩ ⟨O,Y⟩ trivial),h⟩
    replace h:=Aj hb6 h;refine Ar (Ab (Aa O (Aa O (Aa O (Ae tt O hg4 (Aa O (Dr tt O O O O O O O O O O O ?_)))))));obtain ⟨hg10,h⟩:=Ac h;refine Cn tt O O O O O O O O O O O O O O O O (Nat.le_of_eq (Nat.zero_add _)) hg10 (Aa O (Af (Ab (Aa O ?_))));obtain ⟨hg11,h⟩:=Ac h;refine Ae tt O hg11 (Aa O (Af ?_));show ∃ _,_;exact ⟨((l19++([(l_0.getD ((i21).toNat) 0)]:List Int)),placed24,(i21+(1:Int))),(En.of ⟨O,O,O,O,O,Y⟩ ⟨O,Y⟩ trivial),h⟩
   replace h:=Aj hb5 h;iterate 2 refine Qv O O O O hb5 O O ?_
   refine Az O O O O O hb5 O (Af (Gx O O (Ar (Ab (Aa O (Aa O (Aa O (Ae tt O hg4 (Aa O ?_)))))))));refine Dr tt O O O O O O O O O O O ?_;obtain ⟨hg12,h⟩:=Ac h;refine Cn tt O O O O O O O O O O O O O O O O (Nat.le_of_eq (Nat.zero_add _)) hg12 (Aa O (Af (Ab (Aa O ?_))));obtain ⟨hg13,h⟩:=Ac h;refine Ae tt O hg13 (Aa O (Af ?_));show ∃ _,_;exact ⟨((l19++([(l_0.getD ((i21).toNat) 0)]:List Int)),placed24,(i21+(1:Int))),(En.of ⟨O,O,O,O,O,Y⟩ ⟨O,Y⟩ trivial),h⟩
  intro k25 h;refine At O (fun hb14=>?_) (fun hb14=>?_)
  ·replace h:=Ai hb14 h;refine Ab (Aa O (Af ?_));show ∃ _,_;exact ⟨true,(En.of ⟨O,O,O,O,O,Y⟩ ⟨O,Y⟩ trivial),h⟩
  replace h:=Aj hb14 h;refine Ar ?_;show ∃ _,_;exact ⟨placed20,(En.of ⟨O,O,O,O,O,Y⟩ ⟨O,Y⟩ trivial),h⟩
 replace h:=Aj hb3 h;refine Br ?_;show ∃ _,_;exact ⟨(l19,placed20),(En.of ⟨O,O,O,Y⟩ ⟨O,Y⟩ trivial),h⟩
def Cv (N:Nat) (v210:(List Int)×(List Int)) (k:((List Int)×(List Int))→Option ((List (List Int))×Bool)):Nat→((List Int)×(List Int)×Int)→Option ((List (List Int))×Bool)
 | 0,_=>none
 | n+1,(l225,l226,k227)=>
  cnd (decide (k227<(v210.1.length:Int))) (
   grd (0≤k227∧k227<(v210.1.length:Int)) <|
   (Wn N l226 (v210.1.getD ((k227).toNat) 0)).bind fun v229=>
   grd (l225.length+1≤4294967296) <|
   grd (Bg (k227+(1:Int))) <|
   Cv N v210 k n ((l225++([(v210.1.getD ((k227).toNat) 0)]:List Int)),v229,(k227+(1:Int)))) (
   k (l225,l226))
def Bz (N:Nat) (v1:(List (List (Int×Int)))×Bool) (k:(List (List Int))→Option ((List (List Int))×Bool)):Nat→((List (List Int))×(List Int)×Int)→Option ((List (List Int))×Bool)
 | 0,_=>none
 | n+1,(l185,l186,i187)=>
  cnd (decide (i187<(v1.1.length:Int))) (
   (Pa N l186 i187).bind fun v209=>
   cnd v209 (
    grd (Bg (i187+(1:Int))) <|
    Bz N v1 k n (l185,l186,(i187+(1:Int)))) (
    (Hr N v1.1 i187).bind fun v210=>
    Cv N v210 (fun (x:(List Int)×(List Int))=>
      match x with
      | (l219,l220)=>
       grd (l185.length+1≤4294967296) <|
       grd (Bg (i187+(1:Int))) <|
       Bz N v1 k n ((l185++([l220]:List (List Int))),l219,(i187+(1:Int)))) N (l186,([]:List Int),(0:Int)))) (
   k l185)
def Mi (N:Nat) (l_0:Lnk):Option ((List (List Int))×Bool):=
 (Gj N l_0).bind fun v1=>
 cnd (!v1.2) (
  some (([]:List (List Int)),false)) (
  cnd (decide ((v1.1.length:Int) > (100:Int))) (
   some (([]:List (List Int)),false)) (
   Bz N v1 (fun (l115 : List (List Int)) =>
      some (l115,true)) N (([]:List (List Int)),([]:List Int),(0:Int))))
theorem Xc (N:Nat) (l_0:Lnk) (r:(List (List Int))×Bool) (h:Mi N l_0=some r):PCall Tryz.prog 27 [lD l_0] [(27,.intss r.1)] (.tup [.row 0 0 r.1.length,.bool r.2]):=by
 unfold Mi at h;refine Ak (TT:=TT) tt Tryz.func27 O O Tryz.ntmps27 (congrArg Array.toList Tryz.results27) O O fun w0=>(Ah (Ab (Lw O O O O O O O O O (Aa O (Aa O (Af (Ah (Ab (Cj tt (Ag O) O O O O ?_)))))))));refine Aa O (Af (Ah (Ab (Aa O ?_))));obtain ⟨v1,hc1,h⟩:=Ad h;refine Bn (Hb N l_0 v1 hc1) O O O O O O O O ⟨⟨O,O,O,O,Y⟩,Y⟩ ?_;iterate 5 refine Aa O ?_
 refine Af (Ah (Ah (Ab (Aa O (Aa O (Aa O (Bi O O O (fun hb2=>?_) (fun hb2=>?_))))))))
 ·replace h:=Ai hb2 h;iterate 3 refine Fd O O O O hb2 O O ?_
  refine Bd O O O O O hb2 O (Af (Bo O O (Ah (Ab (Aa O (Aa O (Aa O (Af (Gw 2 9001 27 (.intss []) O O O O ?_)))))))));refine Ay ?_;show ∃ _,_;cases h;exact ⟨[9001],_,O,⟨O,Y⟩,O,.eq O,O⟩
 replace h:=Aj hb2 h;iterate 3 refine Bj tt O O O O O hb2 O O O Y ?_
 refine Az O O O O O hb2 O (Af (At O (fun hb3=>?_) (fun hb3=>?_)))
 ·replace h:=Ai hb3 h;refine Ah (Ab (Aa O (Aa O (Aa O (Af (Gw 2 9001 27 (.intss []) O O O O (Ay ?_)))))));show ∃ _,_;cases h;exact ⟨[9001],_,O,⟨O,Y⟩,O,.eq O,O⟩
 replace h:=Aj hb3 h;refine Ar (Ah (Ab (Cj tt (Ag O) O O O O (Aa O (Af (Ah (Ah (Ab (Aa O ?_)))))))));refine Af (Cb (F:=fun k=>Bz N v1 k) h (α:=List (List Int)) (J:=fun (l115:List (List Int))=>(⟨[(4,.row 66 0 l115.length)],[(66,some (27,.intss l115))],[]⟩:PS)) ?_ ?_)
 ·rintro l115 h;show VC _ _ _ (⟨[(4,.row 66 0 l115.length)],[(66,some (27,.intss l115))],[]⟩:PS);refine Ah (Ab (Aa O (Aa O (Aa O (Af (Ay ?_))))));show ∃ _,_;cases h;exact ⟨[66],_,O,⟨O,Y⟩,O,.eq O,O⟩
 intro k h;refine Aq (Gw 4 66 27 (.intss []) rfl rfl rfl rfl (Gw 7 62 3 (.ints []) rfl rfl rfl rfl (Bh (α:=(List (List Int))×(List Int)×Int) (fun | (l185,l186,i187)=>(⟨[(4,.row 66 0 l185.length),(5,.row 1160 0 v1.1.length),(7,.row 62 0 l186.length),(8,.int i187)],[(66,some (27,.intss l185)),(1160,some (45,.pairss v1.1)),(62,some (3,.ints l186))],[]⟩:PS)) (Bz N v1 k) h (En.of ⟨rfl,rfl,rfl,rfl,Y⟩ ⟨rfl,rfl,rfl,Y⟩ trivial) (fun _=>rfl) ?_)));rintro n ⟨l185,l186,i187⟩ h;rw [Bz] at h;show VC _ _ _ (⟨[(4,.row 66 0 l185.length),(5,.row 1160 0 v1.1.length),(7,.row 62 0 l186.length),(8,.int i187)],[(66,some (27,.intss l185)),(1160,some (45,.pairss v1.1)),(62,some (3,.ints l186))],[]⟩:PS);refine Ah (Ah (Ab ?_));iterate 4 refine Aa O ?_
 refine Af (At O (fun hb4=>?_) (fun hb4=>?_))
 ·replace h:=Ai hb4 h;refine Ar (Ah (Aq (Ah (Ah (Ab (Aa O (Aa O ?_)))))));obtain ⟨v209,hc5,h⟩:=Ad h;refine Bn (Te N l186 i187 v209 hc5) O O O O O O O O ⟨(.inl ⟨O,O⟩),O,Y⟩ (Af (At O (fun hb6=>?_) (fun hb6=>?_)))
  ·replace h:=Ai hb6 h;refine Br (Ab (Aa O ?_));obtain ⟨hg7,h⟩:=Ac h;refine Ae tt O hg7 (Aa O (Af ?_));show ∃ _,_;exact ⟨(l185,l186,(i187+(1:Int))),(En.of ⟨O,O,O,O,Y⟩ ⟨O,O,O,Y⟩ trivial),h⟩
  replace h:=Aj hb6 h;refine Ar (Ah (Ab (Aa O (Aa O ?_))));obtain ⟨v210,hc8,h⟩:=Ad h;refine Bn (Wf N v1.1 i187 v210 hc8) O O O O O O O O ⟨(.inl ⟨O,O⟩),O,Y⟩ ?_;iterate 5 refine Aa O ?_
  refine Af (Ah (Ab (Cj tt (Ag O) O O O O (Aa O (Af (Ah (Ah (Ab (Aa O ?_)))))))));refine Af (Cb (F:=fun k=>Cv N v210 k) h (α:=(List Int)×(List Int)) (J:=fun | (l219,l220)=>(⟨[(4,.row 66 0 l185.length),(5,.row 1160 0 v1.1.length),(7,.row 62 0 l219.length),(8,.int i187),(11,.row 9539 0 l220.length)],[(66,some (27,.intss l185)),(1160,some (45,.pairss v1.1)),(62,some (3,.ints l219)),(9539,some (3,.ints l220))],[]⟩:PS)) ?_ ?_)
  ·rintro ⟨l219,l220⟩ h;show VC _ _ _ (⟨[(4,.row 66 0 l185.length),(5,.row 1160 0 v1.1.length),(7,.row 62 0 l219.length),(8,.int i187),(11,.row 9539 0 l220.length)],[(66,some (27,.intss l185)),(1160,some (45,.pairss v1.1)),(62,some (3,.ints l219)),(9539,some (3,.ints l220))],[]⟩:PS);refine Ab (Aa O (Aa O (oFreeze (t:=64) O O O O (Dr tt O O O O O O O O O O O ?_))));obtain ⟨hg9,h⟩:=Ac h;refine Cn tt O O O O O O O O O O O O O O O O (Nat.le_of_eq (Nat.zero_add _)) hg9 (Aa O (Af (Ab (Aa O ?_))));obtain ⟨hg10,h⟩:=Ac h;refine Ae tt O hg10 (Aa O (Af ?_));show ∃ _,_;exact ⟨((l185++([l220]:List (List Int))),l219,(i187+(1:Int))),(En.of ⟨O,O,O,O,Y⟩ ⟨O,O,O,Y⟩ trivial),h⟩
  intro k h;refine Aq (Gw 11 9540 3 (.ints []) rfl rfl rfl rfl (Bh (α:=(List Int)×(List Int)×Int) (fun | (l225,l226,k227)=>(⟨[(4,.row 66 0 l185.length),(5,.row 1160 0 v1.1.length),(7,.row 62 0 l225.length),(8,.int i187),(9,.row 1400 0 v210.1.length),(11,.row 9540 0 l226.length),(12,.int k227)],[(66,some (27,.intss l185)),(1160,some (45,.pairss v1.1)),(62,some (3,.ints l225)),(1400,some (3,.ints v210.1)),(9540,some (3,.ints l226))],[]⟩:PS)) (Cv N v210 k) h (En.of ⟨rfl,rfl,rfl,rfl,rfl,rfl,rfl,Y⟩ ⟨rfl,rfl,rfl,rfl,rfl,Y⟩ trivial) (fun _=>rfl) ?_));rintro n ⟨l225,l226,k227⟩ h;rw [Cv] at h;show VC _ _ _ (⟨[(4,.row 66 0 l185.length),(5,.row 1160 0 v1.1.length),(7,.row 62 0 l225.length),(8,.int i187),(9,.row 1400 0 v210.1.length),(11,.row 9540 0 l226.length),(12,.int k227)],[(66,some (27,.intss l185)),(1160,some (45,.pairss v1.1)),(62,some (3,.ints l225)),(1400,some (3,.ints v210.1)),(9540,some (3,.ints l226))],[]⟩:PS);refine Ah (Ah (Ab ?_));iterate 4 refine Aa O ?_
  refine Af (At O (fun hb11=>?_) (fun hb11=>?_))
  ·replace h:=Ai hb11 h;refine Ar (Ah (Aq (Ah (Ab (Aa O (Aa O (Aa O ?_)))))));obtain ⟨hg12,h⟩:=Ac h;refine Ae tt O hg12 (Ae tt O hg12 ?_);obtain ⟨v229,hc13,h⟩:=Ad h;refine Bn (S_l5With_w N l226 (v210.1.getD ((k227).toNat) 0) v229 hc13) O O O O O O O O ⟨(.inl ⟨O,O⟩),O,Y⟩ (Aa O (Af (Ab (Aa O (Aa O (Aa O (Ae tt O hg12 (Ae tt O hg12 (Dr tt O O O O O O O O O O O ?_)))))))));obtain ⟨hg14,h⟩:=Ac h;refine Cn tt O O O O O O O O O O O O O O O O (Nat.le_of_eq (Nat.zero_add _)) hg14 (Aa O (Af (Ab (Aa O ?_))));obtain ⟨hg15,h⟩:=Ac h;refine Ae tt O hg15 (Aa O (Af ?_));show ∃ _,_;exact ⟨((l225++([(v210.1.getD ((k227).toNat) 0)]:List Int)),v229,(k227+(1:Int))),(En.ren [9540] [1550] O ⟨.inr O,.inr O,.inr O,.inr O,.inr O,.inr O,.inr O,Y⟩ ⟨.inr O,.inr O,.inr O,.inr O,.inr O,Y⟩ trivial),h⟩
  replace h:=Aj hb11 h;refine Br ?_;show ∃ _,_;exact ⟨(l225,l226),(En.ren [9539] [9540] O ⟨.inr O,.inr O,.inr O,.inr O,.inr O,Y⟩ ⟨.inr O,.inr O,.inr O,.inr O,Y⟩ trivial),h⟩
 replace h:=Aj hb4 h;refine Br ?_;show ∃ _,_;exact ⟨l185,(En.of ⟨O,Y⟩ ⟨O,Y⟩ trivial),h⟩
end
section
open Go.RowKit
def Cf (N:Nat) (l_0:List (List (Int×Int))) (p_1:List (Int×Int)) (i27:Int) (k:Bool→Option (Int)):Nat→(Bool×Int)→Option (Int)
 | 0,_=>none
 | n+1,(same38,k39)=>
  cnd (decide (k39<(p_1.length:Int))) (
   cnd same38 (
    grd (0≤k39∧k39<((l_0.getD ((i27).toNat) []).length:Int)) <|
    grd (0≤k39∧k39<(p_1.length:Int)) <|
    grd (Bg (k39+(1:Int))) <|
    Cf N l_0 p_1 i27 k n (((((l_0.getD ((i27).toNat) []).getD ((k39).toNat) (0,0)).1==(p_1.getD ((k39).toNat) (0,0)).1)&&(((l_0.getD ((i27).toNat) []).getD ((k39).toNat) (0,0)).2==(p_1.getD ((k39).toNat) (0,0)).2)),(k39+(1:Int)))) (
    k same38)) (
   k same38)
def Dp (N:Nat) (l_0:List (List (Int×Int))) (p_1:List (Int×Int)) (k:Unit→Option (Int)):Nat→Int→Option (Int)
 | 0,_=>none
 | n+1,i27=>
  cnd (decide (i27<(l_0.length:Int))) (
   grd (0≤i27∧i27<(l_0.length:Int)) <|
   Cf N l_0 p_1 i27 (fun (same36 : Bool) =>
      cnd same36 (
       some i27) (
       grd (Bg (i27+(1:Int))) <|
       Dp N l_0 p_1 k n (i27+(1:Int)))) N ((((l_0.getD ((i27).toNat) []).length:Int)==(p_1.length:Int)),(0:Int))) (
   k ())
def Hy (N:Nat) (l_0:List (List (Int×Int))) (p_1:List (Int×Int)):Option (Int):=
 Dp N l_0 p_1 (fun (_ : Unit) =>
    some (-1:Int)) N (0:Int)
theorem Xa (N:Nat) (l_0:List (List (Int×Int))) (p_1:List (Int×Int)) (r:Int) (h:Hy N l_0 p_1=some r):PCall Tryz.prog 80 [.ro false (.pairss l_0),.ro false (.pairs p_1)] [] (.int r):=by
 unfold Hy at h;refine Ak (TT:=TT) tt Tryz.func80 O O Tryz.ntmps80 (congrArg Array.toList Tryz.results80) O O fun w0=>(Ah (Ab (Aa O (Af (Ah (Ah (Ab (Aa O (Af ?_)))))))));refine Cb (F:=fun k=>Dp N l_0 p_1 k) h (α:=Unit) (J:=fun (_:Unit)=>(⟨[],[],[]⟩:PS)) ?_ ?_
 ·rintro ⟨⟩ h;show VC _ _ _ (⟨[],[],[]⟩:PS);refine Ah (Ab (Aa O (Af (Ay ?_))));show ∃ _,_;cases h;exact ⟨[],_,O,Y,O,.eq O,O⟩
 intro k h;refine Aq (Bh (α:=Int) (fun (i27:Int)=>(⟨[(0,.ro false (.pairss l_0)),(1,.ro false (.pairs p_1)),(5,.int i27)],[],[]⟩:PS)) (Dp N l_0 p_1 k) h (En.of ⟨O,O,O,Y⟩ trivial trivial) (fun _=>O) ?_);rintro n i27 h;rw [Dp] at h;show VC _ _ _ (⟨[(0,.ro false (.pairss l_0)),(1,.ro false (.pairs p_1)),(5,.int i27)],[],[]⟩:PS);refine Ah (Ah (Ab ?_));iterate 4 refine Aa O ?_
 refine Af (At O (fun hb1=>?_) (fun hb1=>?_))
 ·replace h:=Ai hb1 h;refine Ar (Ah (Aq (Ah (Ab (Aa O (Aa O ?_))))));obtain ⟨hg2,h⟩:=Ac h;refine Ae tt O hg2 ?_;iterate 6 refine Aa O ?_
  refine Af (Ah (Ah (Ab (Aa O (Af (Cb (F:=fun k=>Cf N l_0 p_1 i27 k) h (α:=Bool) (J:=fun (same36:Bool)=>(⟨[(0,.ro false (.pairss l_0)),(1,.ro false (.pairs p_1)),(5,.int i27),(6,.bool same36)],[],[]⟩:PS)) ?_ ?_))))))
  ·rintro same36 h;show VC _ _ _ (⟨[(0,.ro false (.pairss l_0)),(1,.ro false (.pairs p_1)),(5,.int i27),(6,.bool same36)],[],[]⟩:PS);refine Ah (Ab (Aa O (Af (At O (fun hb3=>?_) (fun hb3=>?_)))))
   ·replace h:=Ai hb3 h;refine Ah (Ab (Aa O (Aa O (Af (Ay ?_)))));show ∃ _,_;cases h;exact ⟨[],_,O,Y,O,.eq O,O⟩
   replace h:=Aj hb3 h;refine Ar (Ab (Aa O ?_));obtain ⟨hg4,h⟩:=Ac h;refine Ae tt O hg4 (Aa O (Af ?_));show ∃ _,_;exact ⟨(i27+(1:Int)),(En.of ⟨O,O,O,Y⟩ trivial trivial),h⟩
  intro k h;refine Aq (Bh (α:=Bool×Int) (fun | (same38,k39)=>(⟨[(0,.ro false (.pairss l_0)),(1,.ro false (.pairs p_1)),(5,.int i27),(6,.bool same38),(7,.int k39)],[],[]⟩:PS)) (Cf N l_0 p_1 i27 k) h (En.of ⟨rfl,rfl,rfl,rfl,rfl,Y⟩ trivial trivial) (fun _=>rfl) ?_);rintro n ⟨same38,k39⟩ h;rw [Cf] at h;show VC _ _ _ (⟨[(0,.ro false (.pairss l_0)),(1,.ro false (.pairs p_1)),(5,.int i27),(6,.bool same38),(7,.int k39)],[],[]⟩:PS);refine Ah (Ah (Ab ?_));iterate 5 refine Aa O ?_
  refine Bi O O O (fun hb5=>?_) (fun hb5=>?_)
  ·replace h:=Ai hb5 h;refine Bj tt O O O O O hb5 O O O Y (Bd O O O O O hb5 O (Af (At O (fun hb6=>?_) (fun hb6=>?_))))
   ·replace h:=Ai hb6 h;refine Ar (Ah (Aq (Bt (by kernel_rfl) (by kernel_rfl) ?_)));iterate 2 refine Bb tt O (Ag O) O O O Y ?_
    refine Bb tt O (Ag O) O O O hg2 ?_;iterate 2 refine Bb tt O (Ag O) O O O Y ?_
    obtain ⟨hg7,h⟩:=Ac h;refine Bb tt O (Ag O) O O O hg7 ?_;iterate 3 refine Bb tt O (Ag O) O O O Y ?_
    obtain ⟨hg8,h⟩:=Ac h;refine Bb tt O (Ag O) O O O hg8 (Bb tt O (Ag O) O O O Y (Pb (Ag O) (pEqP Cd O O O) O O (Bb tt O (Ag O) O O O Y (Km (Ab (Aa O ?_))))));obtain ⟨hg9,h⟩:=Ac h;refine Ae tt O hg9 (Aa O (Af ?_));show ∃ _,_;exact ⟨(((((l_0.getD ((i27).toNat) []).getD ((k39).toNat) (0,0)).1==(p_1.getD ((k39).toNat) (0,0)).1)&&(((l_0.getD ((i27).toNat) []).getD ((k39).toNat) (0,0)).2==(p_1.getD ((k39).toNat) (0,0)).2)),(k39+(1:Int))),(En.of ⟨O,O,O,O,O,Y⟩ trivial trivial),h⟩
   replace h:=Aj hb6 h;refine Br ?_;show ∃ _,_;exact ⟨same38,(En.of ⟨O,O,O,O,Y⟩ trivial trivial),h⟩
  replace h:=Aj hb5 h;refine Qv O O O O hb5 O O (Az O O O O O hb5 O (Af (Gx O O (Br ?_))));show ∃ _,_;exact ⟨same38,(En.of ⟨O,O,O,O,Y⟩ trivial trivial),h⟩
 replace h:=Aj hb1 h;refine Br ?_;show ∃ _,_;exact ⟨(),(En.of trivial trivial trivial),h⟩
def Gk (N:Nat) (v1:(List (List Int))×Bool) (v3:Int) (k:Unit→Option (List Int)):Nat→Int→Option (List Int)
 | 0,_=>none
 | n+1,i10=>
  cnd (decide (i10<(v1.1.length:Int))) (
   cnd v1.2 (
    grd (0≤i10∧i10<(v1.1.length:Int)) <|
    (Pa N (v1.1.getD ((i10).toNat) []) v3).bind fun v12=>
    cnd v12 (
     grd ((v1.1.getD ((i10).toNat) []).length≤4294967296) <|
     some (([]:List Int)++(v1.1.getD ((i10).toNat) []))) (
     grd (Bg (i10+(1:Int))) <|
     Gk N v1 v3 k n (i10+(1:Int)))) (
    k ())) (
   k ())
def Mn (N:Nat) (l_0:Lnk):Option (List Int):=
 (Mi N l_0).bind fun v1=>
 (Gj N l_0).bind fun v2=>
 (Hy N v2.1 l_0.f.places).bind fun v3=>
 Gk N v1 v3 (fun (_ : Unit) =>
    some ([]:List Int)) N (0:Int)
theorem Wb (N:Nat) (l_0:Lnk) (r:List Int) (h:Mn N l_0=some r):PCall Tryz.prog 29 [lD l_0] [(3,.ints r)] (.row 0 0 r.length):=by
 unfold Mn at h;refine Ak (TT:=TT) tt Tryz.func29 O O Tryz.ntmps29 (congrArg Array.toList Tryz.results29) O O fun w0=>(Ah (Ab (Lw O O O O O O O O O (Aa O (Af (Ah (Ab (Aa O ?_))))))));obtain ⟨v1,hc1,h⟩:=Ad h;refine Bn (Xc N l_0 v1 hc1) O O O O O O O O ⟨⟨O,O,O,O,Y⟩,Y⟩ ?_;iterate 5 refine Aa O ?_
 refine Af (Ah (Ab (Aa O ?_)));obtain ⟨v2,hc2,h⟩:=Ad h;refine Bn (Hb N l_0 v2 hc2) O O O O O O O O ⟨⟨O,O,O,O,Y⟩,Y⟩ ?_;iterate 5 refine Aa O ?_
 refine Af (Ah (Ab ?_));iterate 4 refine Aa O ?_
 obtain ⟨v3,hc3,h⟩:=Ad h;refine Bn (Xa N v2.1 l_0.f.places v3 hc3) O O O O O O O O ⟨(.inl ⟨O,O⟩),O,Y⟩ (Aa O (Af (Ah (Ah (Ab (Aa O (Af (Cb (F:=fun k=>Gk N v1 v3 k) h (α:=Unit) (J:=fun (_:Unit)=>(⟨[],[],[]⟩:PS)) ?_ ?_))))))))
 ·rintro ⟨⟩ h;show VC _ _ _ (⟨[],[],[]⟩:PS);refine Ah (Ab (Cj tt (Ag O) O O O O (Aa O (Af (Gw 2 9001 3 (.ints []) O O O O (Ay ?_))))));show ∃ _,_;cases h;exact ⟨[9001],_,O,⟨O,Y⟩,O,.eq O,O⟩
 intro k h;refine Aq (Bh (α:=Int) (fun (i10:Int)=>(⟨[(3,.row 1110 0 v1.1.length),(4,.bool v1.2),(7,.int v3),(8,.int i10)],[(1110,some (27,.intss v1.1))],[]⟩:PS)) (Gk N v1 v3 k) h (En.of ⟨O,O,O,O,Y⟩ ⟨O,Y⟩ trivial) (fun _=>O) ?_);rintro n i10 h;rw [Gk] at h;show VC _ _ _ (⟨[(3,.row 1110 0 v1.1.length),(4,.bool v1.2),(7,.int v3),(8,.int i10)],[(1110,some (27,.intss v1.1))],[]⟩:PS);refine Ah (Ah (Ab ?_));iterate 5 refine Aa O ?_
 refine Bi O O O (fun hb4=>?_) (fun hb4=>?_)
 ·replace h:=Ai hb4 h;refine Bj tt O O O O O hb4 O O O Y (Bd O O O O O hb4 O (Af (At O (fun hb5=>?_) (fun hb5=>?_))))
  ·replace h:=Ai hb5 h;refine Ar (Ah (Aq (Ah (Ab (Aa O (Aa O ?_))))));obtain ⟨hg6,h⟩:=Ac h;refine Ae tt O hg6 (Ae tt O hg6 (Aa O ?_));obtain ⟨v12,hc7,h⟩:=Ad h;refine Bn (Te N (v1.1.getD ((i10).toNat) []) v3 v12 hc7) O O O O O O O O ⟨O,O,Y⟩ (Af (At O (fun hb8=>?_) (fun hb8=>?_)))
   ·replace h:=Ai hb8 h;refine Ah (Ab (Cj tt (Ag O) O O O O (Aa O (Aa O (Ae tt O hg6 (Ae tt O hg6 ?_))))));obtain ⟨hg9,h⟩:=Ac h;refine oAppNil tt (Ag O) O O O O O O O (fun _=>O) O O O O O hg9 (Aa O (Af (Ay ?_)));show ∃ _,_;cases h;exact ⟨[44],_,O,⟨O,Y⟩,O,.eq O,O⟩
   replace h:=Aj hb8 h;refine Ar (Ab (Aa O ?_));obtain ⟨hg10,h⟩:=Ac h;refine Ae tt O hg10 (Aa O (Af ?_));show ∃ _,_;exact ⟨(i10+(1:Int)),(En.of ⟨O,O,O,O,Y⟩ ⟨O,Y⟩ trivial),h⟩
  replace h:=Aj hb5 h;refine Br ?_;show ∃ _,_;exact ⟨(),(En.of trivial trivial trivial),h⟩
 replace h:=Aj hb4 h;refine Qv O O O O hb4 O O (Az O O O O O hb4 O (Af (Gx O O (Br ?_))));show ∃ _,_;exact ⟨(),(En.of trivial trivial trivial),h⟩
def Dn (N:Nat) (s1_0:List (Int×Int)) (s2_1:List (Int×Int)) (k:Unit→Option (Bool)):Nat→Int→Option (Bool)
 | 0,_=>none
 | n+1,x3=>
  cnd (decide (x3<(s1_0.length:Int))) (
   grd (0≤x3∧x3<(s1_0.length:Int)) <|
   grd (0≤x3∧x3<(s2_1.length:Int)) <|
   cnd (!(((s1_0.getD ((x3).toNat) (0,0)).1==(s2_1.getD ((x3).toNat) (0,0)).1)&&((s1_0.getD ((x3).toNat) (0,0)).2==(s2_1.getD ((x3).toNat) (0,0)).2))) (
    some false) (
    grd (Bg (x3+(1:Int))) <|
    Dn N s1_0 s2_1 k n (x3+(1:Int)))) (
   k ())
def Jc (N:Nat) (s1_0:List (Int×Int)) (s2_1:List (Int×Int)):Option (Bool):=
 cnd ((s1_0.length:Int) != (s2_1.length:Int)) (
  some false) (
  Dn N s1_0 s2_1 (fun (_ : Unit) =>
     some true) N (0:Int))
theorem Xy (N:Nat) (s1_0:List (Int×Int)) (s2_1:List (Int×Int)) (r:Bool) (h:Jc N s1_0 s2_1=some r):PCall Tryz.prog 116 [.ro false (.pairs s1_0),.ro false (.pairs s2_1)] [] (.bool r):=by
 unfold Jc at h;refine Ak (TT:=TT) tt Tryz.func116 O O Tryz.ntmps116 (congrArg Array.toList Tryz.results116) O O fun w0=>(Ah (Ab (Aa O (Af (Ah (Ah (Ab ?_)))))));iterate 5 refine Aa O ?_
 refine Af (At O (fun hb1=>?_) (fun hb1=>?_))
 ·replace h:=Ai hb1 h;refine Ah (Ab (Aa O (Af (Ay ?_))));show ∃ _,_;cases h;exact ⟨[],_,O,Y,O,.eq O,O⟩
 replace h:=Aj hb1 h;refine Ar (Ah (Ah (Ab (Aa O (Aa O (Aa O (Af (Cb (F:=fun k=>Dn N s1_0 s2_1 k) h (α:=Unit) (J:=fun (_:Unit)=>(⟨[],[],[]⟩:PS)) ?_ ?_))))))))
 ·rintro ⟨⟩ h;show VC _ _ _ (⟨[],[],[]⟩:PS);refine Ah (Ab (Aa O (Af (Ay ?_))));show ∃ _,_;cases h;exact ⟨[],_,O,Y,O,.eq O,O⟩
 intro k h;refine Aq (Bh (α:=Int) (fun (x3:Int)=>(⟨[(0,.ro false (.pairs s1_0)),(1,.ro false (.pairs s2_1)),(12,.int (s1_0.length:Int)),(13,.int x3)],[],[]⟩:PS)) (Dn N s1_0 s2_1 k) h (En.of ⟨O,O,O,O,Y⟩ trivial trivial) (fun _=>O) ?_);rintro n x3 h;rw [Dn] at h;show VC _ _ _ (⟨[(0,.ro false (.pairs s1_0)),(1,.ro false (.pairs s2_1)),(12,.int (s1_0.length:Int)),(13,.int x3)],[],[]⟩:PS);refine Ah (Ab (Aa O (Af (Ah (At O (fun hb2=>?_) (fun hb2=>?_))))))
 ·replace h:=Ai hb2 h;refine Ar (Ah (Aq (Ah (Ab (Aa O (Aa O (Af (Ah (Bt (by kernel_rfl) (by kernel_rfl) ?_)))))))));iterate 2 refine Bb tt O (Ag O) O O O Y ?_
  obtain ⟨hg3,h⟩:=Ac h;refine Bb tt O (Ag O) O O O hg3 ?_;iterate 3 refine Bb tt O (Ag O) O O O Y ?_
  obtain ⟨hg4,h⟩:=Ac h;refine Bb tt O (Ag O) O O O hg4 (Bb tt O (Ag O) O O O Y (Pb (Ag O) (pNeP Cd O O O) O O (Km (At O (fun hb5=>?_) (fun hb5=>?_)))))
  ·replace h:=Ai hb5 h;refine Ah (Ab (Aa O (Af (Ay ?_))));show ∃ _,_;cases h;exact ⟨[],_,O,Y,O,.eq O,O⟩
  replace h:=Aj hb5 h;refine Ar (Ab ?_);obtain ⟨hg6,h⟩:=Ac h;refine Ae tt O hg6 (Aa O (Af ?_));show ∃ _,_;exact ⟨(x3+(1:Int)),(En.of ⟨O,O,O,O,Y⟩ trivial trivial),h⟩
 replace h:=Aj hb2 h;refine Br ?_;show ∃ _,_;exact ⟨(),(En.of trivial trivial trivial),h⟩
def Dh (N:Nat) (l_0:List (List (Int×Int))) (p_1:List (Int×Int)) (k:Unit→Option (Int)):Nat→Int→Option (Int)
 | 0,_=>none
 | n+1,x7=>
  cnd (decide (x7<(l_0.length:Int))) (
   grd (0≤x7∧x7<(l_0.length:Int)) <|
   (Jc N (l_0.getD ((x7).toNat) []) p_1).bind fun v9=>
   cnd v9 (
    some x7) (
    grd (Bg (x7+(1:Int))) <|
    Dh N l_0 p_1 k n (x7+(1:Int)))) (
   k ())
def Jd (N:Nat) (l_0:List (List (Int×Int))) (p_1:List (Int×Int)):Option (Int):=
 Dh N l_0 p_1 (fun (_ : Unit) =>
    some (-1:Int)) N (0:Int)
theorem Xf (N:Nat) (l_0:List (List (Int×Int))) (p_1:List (Int×Int)) (r:Int) (h:Jd N l_0 p_1=some r):PCall Tryz.prog 78 [.ro false (.pairss l_0),.ro false (.pairs p_1)] [] (.int r):=by
 unfold Jd at h;refine Ak (TT:=TT) tt Tryz.func78 O O Tryz.ntmps78 (congrArg Array.toList Tryz.results78) O O fun w0=>(Ah (Ab (Aa O (Af (Ah (Ah (Ab (Aa O (Aa O ?_)))))))));refine Aa O (Af (Cb (F:=fun k=>Dh N l_0 p_1 k) h (α:=Unit) (J:=fun (_:Unit)=>(⟨[],[],[]⟩:PS)) ?_ ?_))
 ·rintro ⟨⟩ h;show VC _ _ _ (⟨[],[],[]⟩:PS);refine Ah (Ab (Aa O (Af (Ay ?_))));show ∃ _,_;cases h;exact ⟨[],_,O,Y,O,.eq O,O⟩
 intro k h;refine Aq (Bh (α:=Int) (fun (x7:Int)=>(⟨[(1,.ro false (.pairs p_1)),(7,.ro false (.pairss l_0)),(8,.int (l_0.length:Int)),(9,.int x7)],[],[]⟩:PS)) (Dh N l_0 p_1 k) h (En.of ⟨O,O,O,O,Y⟩ trivial trivial) (fun _=>O) ?_);rintro n x7 h;rw [Dh] at h;show VC _ _ _ (⟨[(1,.ro false (.pairs p_1)),(7,.ro false (.pairss l_0)),(8,.int (l_0.length:Int)),(9,.int x7)],[],[]⟩:PS);refine Ah (Ab (Aa O (Af (Ah (At O (fun hb1=>?_) (fun hb1=>?_))))))
 ·replace h:=Ai hb1 h;refine Ar (Ah (Aq (Ah (Ab (Aa O ?_)))));obtain ⟨hg2,h⟩:=Ac h;refine Ae tt O hg2 (Aa O (Aa O (Aa O (Af (Ah (Ab (Aa O (Aa O ?_))))))));obtain ⟨v9,hc3,h⟩:=Ad h;refine Bn (Xy N (l_0.getD ((x7).toNat) []) p_1 v9 hc3) O O O O O O O O ⟨O,O,Y⟩ (Af (At O (fun hb4=>?_) (fun hb4=>?_)))
  ·replace h:=Ai hb4 h;refine Ah (Ab (Aa O (Aa O (Af (Ay ?_)))));show ∃ _,_;cases h;exact ⟨[],_,O,Y,O,.eq O,O⟩
  replace h:=Aj hb4 h;refine Ar (Ab ?_);obtain ⟨hg5,h⟩:=Ac h;refine Ae tt O hg5 (Aa O (Af ?_));show ∃ _,_;exact ⟨(x7+(1:Int)),(En.of ⟨O,O,O,O,Y⟩ trivial trivial),h⟩
 replace h:=Aj hb1 h;refine Br ?_;show ∃ _,_;exact ⟨(),(En.of trivial trivial trivial),h⟩
def Pj (N:Nat) (l_0:Lnk):Option (Bool):=
 (Mn N l_0).bind fun v1=>
 some ((v1.length:Int)==(1:Int))
theorem S_IsStuck_w (N:Nat) (l_0:Lnk) (r:Bool) (h:Pj N l_0=some r):PCall Tryz.prog 31 [lD l_0] [] (.bool r):=by
 unfold Pj at h;refine Ak (TT:=TT) tt Tryz.func31 O O Tryz.ntmps31 (congrArg Array.toList Tryz.results31) O O fun w0=>(Ah (Ab (Lw O O O O O O O O O (Aa O (Af (Ah (Ab (Aa O ?_))))))));obtain ⟨v1,hc1,h⟩:=Ad h;refine Bn (Wb N l_0 v1 hc1) O O O O O O O O ⟨⟨O,O,O,O,Y⟩,Y⟩ (Aa O (Aa O (Aa O (Af (Ay ?_)))));show ∃ _,_;cases h;exact ⟨[],_,O,Y,O,.eq O,O⟩
end
section
variable {N:Nat}
def Wz (p q:Int×Int):Bool:=Fc p&&(Fc q&&(inB (p.1-q.1) (-1) 1&&inB (p.2-q.2) (-1) 1))
def stepAt (a b:List (Int×Int)) (i:Nat):Bool:=Wz (a.getD i (0,0)) (b.getD i (0,0))
def Sg (a b:List (Int×Int)):Bool:=decide (a.length=b.length)&&(List.range a.length).all (stepAt a b)
theorem stepB_sym (p q:Int×Int):Wz p q=Wz q p:=by
 rw [Bool.eq_iff_iff];unfold Wz;simp only [Bool.and_eq_true,Wt];constructor <;> (rintro ⟨h1,h2,h3,h4⟩; exact ⟨h2,h1,by omega,by omega⟩)
theorem nearB_sym (a b:List (Int×Int)):Sg a b=Sg b a:=by
 unfold Sg;by_cases h:a.length=b.length
 ·rw [decide_eq_true h,decide_eq_true h.symm,h];congr 2;funext i;exact stepB_sym _ _
 rw [decide_eq_false h,decide_eq_false (Ne.symm h)]; rfl
theorem l10On_s (N:Nat) (p:Int×Int):Tr N p=some (Fc p):=by
 unfold Tr Fc;rw [Yk,Option.bind_some,Yk];cases inB p.1 0 4 <;> rfl
theorem l25Step_s (N:Nat) (p q:Int×Int):Qn N p q=some (Wz p q):=by
 unfold Qn Wz;rw [l10On_s,Option.bind_some,l10On_s]
 cases hp:Fc p with
 | false=>rfl
 | true=>
  rw [cnd_true,Option.bind_some]
  cases hq:Fc q with
  | false=>rfl
  | true=>
   have h1:=Gi hp;have h2:=Gi hq;rw [cnd_true,Ci (by omega) (by omega),Yk,Option.bind_some,Ci (by omega) (by omega),Yk];cases inB (p.1-q.1) (-1) 1 <;> rfl
theorem nearS_s (hN:4000000≤N) {a b:List (Int×Int)} (ha:a.length≤3000000):Ma N a b=some (Sg a b):=by
 unfold Ma;refine (srch (len:=min a.length b.length) (ok:=stepAt a b) (bad:=some false) (fin:=some (decide (a.length=b.length))) (by omega) ?_ ?_).trans ?_
 ·intro n i hi _;have e:((i:Int)).toNat=i:=by omega
  rw [Gp,Av (by omega),Av (by omega),Am (by omega),Am (by omega),e,l25Step_s,Option.bind_some,Ci (by omega) (by omega),Al,Gy];rfl
 ·intro n _
  have e:(((a.length:Int))==(b.length:Int))=decide (a.length=b.length):=by
   rw [Bool.eq_iff_iff]; simp; omega
  rw [Gp,e];by_cases h1:min a.length b.length<a.length
  ·rw [Av (by omega),Au (by omega)]
  rw [Au (by omega)]
 rw [Dd];unfold Sg;by_cases h:a.length=b.length
 ·rw [decide_eq_true h,h,Nat.min_self,Jv]; rfl
 rw [decide_eq_false h];cases ((List.range (min a.length b.length)).all (stepAt a b)) <;> rfl
theorem Yu (hN:4000000≤N) {a b:List (Int×Int)} (ha:a.length≤3000000):Fw N a b=some (Sg a b):=by
 unfold Fw Sg;by_cases h:a.length=b.length
 ·rw [Ev (by omega),decide_eq_true h,Bool.true_and];refine (srch (len:=a.length) (ok:=stepAt a b) (bad:=some false) (fin:=some true) (by omega) ?_ ?_).trans ?_
  ·intro n i hi _;have e:((i:Int)).toNat=i:=by omega
   rw [Gh,Av (by omega),Am (by omega),Am (by omega),e,Tl,Option.bind_some,Tl,Option.bind_some,Lo,Option.bind_some,Lo,Option.bind_some];unfold stepAt Wz
   cases hp:Fc (a.getD i (0,0)) with
   | false=>rfl
   | true=>
    cases hq:Fc (b.getD i (0,0)) with
    | false=>rfl
    | true=>
     have h1:=Gi hp;have h2:=Gi hq;rw [Bool.not_true,cnd_false,cnd_false,Ci (by omega) (by omega),Ci (by omega) (by omega),Ci (by omega) (by omega),Al];cases inB ((a.getD i (0,0)).1-(b.getD i (0,0)).1) (-1) 1 <;> cases inB ((a.getD i (0,0)).2-(b.getD i (0,0)).2) (-1) 1 <;> rfl
  ·intro n _;rw [Gh,Au (by omega)]
  rw [Dd,Jv]
 rw [Kl (by omega),decide_eq_false h]; rfl
abbrev QF:=List Int×List Int
def Dq (nr:Int→Int→Bool) (k:Nat) (st:QF):Nat→QF
 | 0=>st
 | j+1=>cnd (!(Dq nr k st j).1.contains (j:Int)&&nr (st.1.getD k 0) (j:Int)) ((Dq nr k st j).1++[(j:Int)],(Dq nr k st j).2++[(k:Int)]) (Dq nr k st j)
def Aaa (nr:Int→Int→Bool) (m:Nat):Nat→Nat→QF→QF
 | 0,_,st=>st
 | f+1,k,st=>if k<st.1.length then Aaa nr m f (k+1) (Dq nr k st m) else st
structure BQ (nr:Int→Int→Bool) (m:Nat) (s:Int) (st:QF) (k:Nat):Prop where
 hd:st.1.getD 0 0=s
 pos:0<st.1.length
 len:st.2.length=st.1.length
 nd:st.1.Nodup
 rg:∀ x∈st.1,0≤x∧x<(m:Int)
 f0:st.2.getD 0 0=-1
 fr:∀ i,0<i→i<st.1.length→0≤st.2.getD i 0∧st.2.getD i 0<(i:Int)∧st.2.getD i 0<(k:Int)+1∧nr (st.1.getD (st.2.getD i 0).toNat 0) (st.1.getD i 0)=true
 cl:∀ i,i<k→i<st.1.length→∀ j:Nat,j<m→nr (st.1.getD i 0) (j:Int)=true→(j:Int)∈st.1
theorem Cw {l r:List Int} {i:Nat} (h:i<l.length):(l++r).getD i 0=l.getD i 0:=by
 rw [List.getD_eq_getElem?_getD,List.getElem?_append_left h,←List.getD_eq_getElem?_getD]
theorem Pv (l:List Int) (x:Int):(l++[x]).getD l.length 0=x:=by
 rw [List.getD_eq_getElem?_getD,List.getElem?_append_right (Nat.le_refl _),Nat.sub_self]; rfl
theorem BQ.qlen {nr:Int→Int→Bool} {m k:Nat} {s:Int} {st:QF} (h:BQ nr m s st k):st.1.length≤m:=Th h.nd h.rg
theorem St {nr:Int→Int→Bool} {m k:Nat} {s:Int} {st:QF} (h:BQ nr m s st k) (hk:k<st.1.length):∀ j,j≤m→BQ nr m s (Dq nr k st j) k∧(∃ r,(Dq nr k st j).1=st.1++r)∧∀ i:Nat,i<j→nr (st.1.getD k 0) (i:Int)=true→(i:Int)∈(Dq nr k st j).1
 | 0,_=>⟨h,⟨[],by simp [Dq]⟩,fun i hi=>by omega⟩
 | j+1,hj=>by
  obtain ⟨h1,⟨r,hr⟩,h3⟩:=St h hk j (by omega);rw [Dq]
  cases hc:(!(Dq nr k st j).1.contains (j:Int)&&nr (st.1.getD k 0) (j:Int)) with
  | false=>
   rw [cnd_false];refine ⟨h1,⟨r,hr⟩,fun i hi hn=>?_⟩;by_cases hij:i=j
   ·subst hij;rw [hn,Bool.and_true,Bool.not_eq_false'] at hc;simpa using hc
   exact h3 i (by omega) hn
  | true=>
   rw [cnd_true];simp only [Bool.and_eq_true,Bool.not_eq_true'] at hc;have hn:(j:Int)∉(Dq nr k st j).1:=by simpa using hc.1
   have hgk:(Dq nr k st j).1.getD k 0=st.1.getD k 0:=by rw [hr]; exact Cw hk
   have hkl:k<(Dq nr k st j).1.length:=by rw [hr,List.length_append]; omega
   refine ⟨⟨?_,by simp,by simp [h1.len],List.nodup_append.2 ⟨h1.nd,by simp,fun x hx y hy e=>hn ?_⟩,fun x hx=>?_,?_,fun i hi hil=>?_,fun i hi hil j' hj' hn'=>?_⟩,⟨r++[(j:Int)],?_⟩,fun i hi hn'=>?_⟩
   ·show ((Dq nr k st j).1++[(j:Int)]).getD 0 0=s;rw [Cw h1.pos]; exact h1.hd
   ·rw [←List.mem_singleton.1 hy,←e]; exact hx
   ·rcases List.mem_append.1 hx with hx | hx
    ·exact h1.rg x hx
    rw [List.mem_singleton.1 hx]; omega
   ·show ((Dq nr k st j).2++[(k:Int)]).getD 0 0=-1;rw [Cw (by rw [h1.len]; exact h1.pos)]; exact h1.f0
   ·show 0≤((Dq nr k st j).2++[(k:Int)]).getD i 0∧((Dq nr k st j).2++[(k:Int)]).getD i 0<(i:Int)∧((Dq nr k st j).2++[(k:Int)]).getD i 0<(k:Int)+1∧nr (((Dq nr k st j).1++[(j:Int)]).getD (((Dq nr k st j).2++[(k:Int)]).getD i 0).toNat 0) (((Dq nr k st j).1++[(j:Int)]).getD i 0)=true;have hil':i<(Dq nr k st j).1.length+1:=by simpa using hil
    by_cases hl:i<(Dq nr k st j).1.length
    ·have h4:=h1.fr i hi hl;rw [Cw (by rw [h1.len]; exact hl),Cw hl,Cw (by omega)];exact h4
    obtain rfl:i=(Dq nr k st j).1.length:=by omega
    have e1:((Dq nr k st j).2++[(k:Int)]).getD (Dq nr k st j).1.length 0=(k:Int):=by rw [←h1.len]; exact Pv _ _
    rw [e1,Pv,show ((k:Int)).toNat=k by omega,Cw hkl,hgk];exact ⟨by omega,by omega,by omega,hc.2⟩
   ·have hl:i<(Dq nr k st j).1.length:=by omega
    have hn2:nr (((Dq nr k st j).1++[(j:Int)]).getD i 0) (j':Int)=true:=hn';rw [Cw hl] at hn2;exact List.mem_append_left _ (h1.cl i hi hl j' hj' hn2)
   ·show (Dq nr k st j).1++[(j:Int)]=_;rw [hr,List.append_assoc]
   show (i:Int)∈(Dq nr k st j).1++[(j:Int)];by_cases hij:i=j
   ·subst hij; simp
   exact List.mem_append_left _ (h3 i (by omega) hn')
theorem BQ.next {nr:Int→Int→Bool} {m k:Nat} {s:Int} {st:QF} (h:BQ nr m s st k) (hk:k<st.1.length):BQ nr m s (Dq nr k st m) (k+1)∧k<(Dq nr k st m).1.length:=by
 obtain ⟨h1,⟨r,hr⟩,h3⟩:=St h hk m (Nat.le_refl _);have hgk:(Dq nr k st m).1.getD k 0=st.1.getD k 0:=by rw [hr]; exact Cw hk
 refine ⟨⟨h1.hd,h1.pos,h1.len,h1.nd,h1.rg,h1.f0,fun i hi hil=>by have:=h1.fr i hi hil; exact ⟨this.1,this.2.1,by omega,this.2.2.2⟩,fun i hi hil j hj hn=>?_⟩,by rw [hr,List.length_append]; omega⟩;by_cases hik:i=k
 ·subst hik;rw [hgk] at hn;exact h3 j hj hn
 exact h1.cl i (by omega) hil j hj hn
theorem bfsP_inv {nr:Int→Int→Bool} {m:Nat} {s:Int}:∀ (f k:Nat) (st:QF),BQ nr m s st k→k≤st.1.length→m<f+k→BQ nr m s (Aaa nr m f k st) (Aaa nr m f k st).1.length
 | 0,k,st,h,h1,h2=>by have:=h.qlen; omega
 | f+1,k,st,h,h1,h2=>by
  rw [Aaa];by_cases hk:k<st.1.length
  ·rw [if_pos hk];have hn:=h.next hk;exact bfsP_inv f (k+1) _ hn.1 (by omega) (by omega)
  rw [if_neg hk];obtain rfl:k=st.1.length:=by omega
  exact h
def Sm (nr:Int→Int→Bool) (m:Nat) (s:Int):QF:=Aaa nr m (m+1) 0 ([s],[-1])
theorem BQ.start {nr:Int→Int→Bool} {m:Nat} {s:Int} (h:0≤s∧s<(m:Int)):BQ nr m s ([s],[-1]) 0:=
 ⟨rfl,by simp,rfl,by simp,fun x hx=>by rw [List.mem_singleton.1 hx]; exact h,rfl,fun i h1 h2=>by simp at h2; omega,fun i hi=>by omega⟩
theorem bfs0_inv {nr:Int→Int→Bool} {m:Nat} {s:Int} (h:0≤s∧s<(m:Int)):BQ nr m s (Sm nr m s) (Sm nr m s).1.length:=bfsP_inv _ _ _ (BQ.start h) (by simp) (by omega)
theorem Qk {nr:Int→Int→Bool} {m:Nat} {s:Int}:∀ (f g k:Nat) (st:QF),BQ nr m s st k→k≤st.1.length→m<f+k→f≤g→Aaa nr m f k st=Aaa nr m g k st
 | 0,g,k,st,h,h1,h2,_=>by have:=h.qlen; omega
 | f+1,0,k,st,h,h1,h2,hg=>by omega
 | f+1,g+1,k,st,h,h1,h2,hg=>by
  rw [Aaa,Aaa];by_cases hk:k<st.1.length
  ·rw [if_pos hk,if_pos hk];have hn:=h.next hk;exact Qk f g (k+1) _ hn.1 (by omega) (by omega) (by omega)
  rw [if_neg hk,if_neg hk]
def nrP (P:List (List (Int×Int))) (i j:Int):Bool:=Sg (P.getD i.toNat []) (P.getD j.toNat [])
theorem nrP_sym (P:List (List (Int×Int))) (i j:Int):nrP P i j=nrP P j i:=nearB_sym _ _
theorem reach2P_s (hN:4000000≤N) {P:List (List (Int×Int))} (hP:P.length≤1000) (hPl:∀ x∈P,x.length≤3000000) {s:Int} {k:Nat} {st:QF} (h:BQ (nrP P) P.length s st k) (hk:k<st.1.length) (kk:QF→Option QF):∀ (fuel j:Nat),j≤P.length→P.length<fuel+j →
  Dv N P (k:Int) kk fuel ((Dq (nrP P) k st j).1,(Dq (nrP P) k st j).2,(j:Int))=kk (Dq (nrP P) k st P.length):=by
 intro fuel
 induction fuel with
 | zero=>intro j h1 h2; omega
 | succ fuel ih=>
  intro j h1 h2;obtain ⟨hB,⟨r,hr⟩,_⟩:=St h hk j h1;have hql:=hB.qlen;rw [Dv];by_cases hj:j<P.length
  ·have e1:((j:Int)).toNat=j:=by omega
   have e2:((k:Int)).toNat=k:=by omega
   have hgk:(Dq (nrP P) k st j).1.getD k 0=st.1.getD k 0:=by rw [hr]; exact Cw hk
   have hkl:k<(Dq (nrP P) k st j).1.length:=by rw [hr,List.length_append]; omega
   have hrg:=h.rg (st.1.getD k 0) (Cg hk);have hx:(P.getD (st.1.getD k 0).toNat []).length≤3000000:=hPl _ (Cg (by omega));have hfl:=hB.len;have nx:=ih (j+1) (by omega) (by omega);rw [Dq] at nx;have hnr:nrP P (st.1.getD k 0) (j:Int)=Sg (P.getD (st.1.getD k 0).toNat []) (P.getD j []):=by unfold nrP; rw [e1]
   rw [hnr] at nx;rw [Av (by omega),l2Has_s N hN (by omega),Option.bind_some,e1,e2,hgk,Am (by omega),Am (by omega),Am (by omega),nearS_s hN hx,Option.bind_some]
   cases hc:(Dq (nrP P) k st j).1.contains (j:Int) with
   | true=>
    rw [hc,Bool.not_true,Bool.false_and,cnd_false] at nx;rw [Bool.not_true,cnd_false,Ci (by omega) (by omega),Al];exact nx
   | false=>
    rw [hc,Bool.not_false,Bool.true_and] at nx;rw [Bool.not_false,cnd_true]
    cases hn:Sg (P.getD (st.1.getD k 0).toNat []) (P.getD j []) with
    | true=>
     rw [hn,cnd_true] at nx;rw [cnd_true,Am (by omega),Am (by omega),Ci (by omega) (by omega),Al];exact nx
    | false=>
     rw [hn,cnd_false] at nx;rw [cnd_false,Ci (by omega) (by omega),Al];exact nx
  obtain rfl:j=P.length:=by omega
  rw [Au (by omega)]
theorem reach1P_s (hN:4000000≤N) {P:List (List (Int×Int))} (hP:P.length≤1000) (hPl:∀ x∈P,x.length≤3000000) {s:Int} (kk:QF→Option QF):∀ (fuel k:Nat) (st:QF),BQ (nrP P) P.length s st k→k≤st.1.length→P.length<fuel+k →
  Du N P kk fuel (st.1,st.2,(k:Int))=kk (Aaa (nrP P) P.length fuel k st):=by
 intro fuel
 induction fuel with
 | zero=>intro k st h h1 h2; have:=h.qlen; omega
 | succ fuel ih=>
  intro k st h h1 h2;have hql:=h.qlen;rw [Du,Aaa];by_cases hk:k<st.1.length
  ·have hn:=h.next hk;rw [Av (by omega),if_pos hk]
   have:=reach2P_s hN hP hPl h hk (fun (x:(List Int)×(List Int))=>
     match x with
     | (l124,l125)=>
      grd (Bg ((k:Int)+(1:Int))) <|
      Du N P kk fuel (l124,l125,((k:Int)+(1:Int)))) N 0 (by omega) (by omega)
   refine this.trans ?_;show grd _ (Du N P kk fuel ((Dq (nrP P) k st P.length).1,(Dq (nrP P) k st P.length).2,_))=_;rw [Ci (by omega) (by omega),Al];exact ih (k+1) _ hn.1 (by omega) (by omega)
  rw [Au (by omega),if_neg hk]
theorem reachP_s (hN:4000000≤N) {P:List (List (Int×Int))} (hP:P.length≤1000) (hPl:∀ x∈P,x.length≤3000000) {s:Int} (hs:0≤s∧s<(P.length:Int)):Hr N P s=some (Sm (nrP P) P.length s):=by
 unfold Hr
 refine (reach1P_s hN hP hPl (s:=s) (fun (x:(List Int)×(List Int))=>
   match x with
   | (l67,l68)=>
    some (l67,l68)) N 0 ([s],[-1]) (BQ.start hs) (by simp) (by omega)).trans ?_
 show some (Aaa (nrP P) P.length N 0 ([s],[-1]))=_;rw [Sm,Qk (P.length+1) N 0 _ (BQ.start hs) (by simp) (by omega) (by omega)]
def Rx:List Int→Int→Bool→List Int
 | [],x,p=>cnd (!p) [x] []
 | e::l,x,p=>cnd (decide (e > x)) (cnd (!(p || (e==x))) (x::e::Rx l x true) (e::Rx l x (p || (e==x)))) (e::Rx l x (p || (e==x)))
theorem Sr:∀ (l:List Int) (x:Int),Rx l x true=l
 | [],x=>rfl
 | e::l,x=>by
  rw [Rx,Bool.true_or,Bool.not_true,cnd_false,Sr,cnd_same]
theorem Yq:∀ {l:List Int} {x:Int},x∉l→(Rx l x false).Perm (x::l)
 | [],x,_=>List.Perm.refl _
 | e::l,x,h=>by
  have hne:(e==x)=false:=by rw [beq_eq_false_iff_ne]; exact fun h'=>h (by simp [h'])
  have hx:x∉l:=fun h'=>h (by simp [h']);rw [Rx,hne,Bool.or_false,Bool.not_false,cnd_true];by_cases he:e > x
  ·rw [Av he,Sr]
  rw [Au he];exact ((Yq hx).cons e).trans (List.Perm.swap x e l)
theorem insR_srt:∀ {l:List Int} {x:Int},x∉l→l.Pairwise (·≤·)→(Rx l x false).Pairwise (·≤·)
 | [],x,_,_=>List.pairwise_singleton _ _
 | e::l,x,h,hs=>by
  have hne:(e==x)=false:=by rw [beq_eq_false_iff_ne]; exact fun h'=>h (by simp [h'])
  have hx:x∉l:=fun h'=>h (by simp [h']);have hs2:=List.pairwise_cons.1 hs;rw [Rx,hne,Bool.or_false,Bool.not_false,cnd_true];by_cases he:e > x
  ·rw [Av he,Sr];refine List.pairwise_cons.2 ⟨fun y hy=>?_,hs⟩;rcases List.mem_cons.1 hy with rfl | hy
   ·omega
   have:=hs2.1 y hy; omega
  rw [Au he];refine List.pairwise_cons.2 ⟨fun y hy=>?_,insR_srt hx hs2.2⟩;rcases List.mem_cons.1 ((Yq hx).mem_iff.1 hy) with rfl | hy
  ·omega
  exact hs2.1 y hy
theorem l5With_s (hN:4000000≤N) {l:List Int} (hl:l.length≤1000) (x:Int):Wn N l x=some (Rx l x false):=by
 have key:∀ (fuel i:Nat) (out:List Int) (p:Bool),i≤l.length→l.length<fuel+i→out.length≤i+1→(p=false→out.length≤i)→Dg N l x (fun (x_1:(List Int)×Bool)=>
   match x_1 with
   | (l12,placed13)=>
    cnd (!placed13) (
     grd (l12.length+1≤4294967296) <|
     some (l12++([x]:List Int))) (
     some l12)) fuel (out,p,(i:Int))=some (out++Rx (l.drop i) x p):=by
  intro fuel
  induction fuel with
  | zero=>intro i out p h1 h2; omega
  | succ fuel ih=>
   intro i out p h1 h2 h3 h4;rw [Dg];by_cases hi:i<l.length
   ·have e:((i:Int)).toNat=i:=by omega
    have hd:l.drop i=l.getD i 0::l.drop (i+1):=by
     rw [List.drop_eq_getElem_cons hi,List.getD_eq_getElem?_getD,List.getElem?_eq_getElem hi]; rfl
    rw [Av (by omega),Am (by omega),jn_def,e,hd,Rx]
    have step : ∀ q : Bool, (q = false → out.length ≤ i) → cnd (decide (l.getD i 0 > x)) (
       cnd (!q) (
        grd (out.length+1≤4294967296) <|
        grd ((out++([x]:List Int)).length+1≤4294967296) <|
        grd (Bg ((i:Int)+(1:Int))) <|
        Dg N l x (fun (x_1:(List Int)×Bool)=>
   match x_1 with
   | (l12,placed13)=>
    cnd (!placed13) (
     grd (l12.length+1≤4294967296) <|
     some (l12++([x]:List Int))) (
     some l12)) fuel (((out ++ ([x] : List Int)) ++ ([l.getD i 0] : List Int)), true, ((i : Int) + (1 : Int)))) (
        grd (out.length+1≤4294967296) <|
        grd (Bg ((i:Int)+(1:Int))) <|
        Dg N l x (fun (x_1:(List Int)×Bool)=>
   match x_1 with
   | (l12,placed13)=>
    cnd (!placed13) (
     grd (l12.length+1≤4294967296) <|
     some (l12++([x]:List Int))) (
     some l12)) fuel ((out++([l.getD i 0]:List Int)),q,((i:Int)+(1:Int))))) (
       grd (out.length+1≤4294967296) <|
       grd (Bg ((i:Int)+(1:Int))) <|
       Dg N l x (fun (x_1:(List Int)×Bool)=>
   match x_1 with
   | (l12,placed13)=>
    cnd (!placed13) (
     grd (l12.length+1≤4294967296) <|
     some (l12++([x]:List Int))) (
     some l12)) fuel ((out++([l.getD i 0]:List Int)),q,((i:Int)+(1:Int))))=some (out++cnd (decide (l.getD i 0 > x)) (cnd (!q) (x::l.getD i 0::Rx (l.drop (i+1)) x true) (l.getD i 0::Rx (l.drop (i+1)) x q)) (l.getD i 0::Rx (l.drop (i+1)) x q)):=by
     intro q hq;by_cases hg:l.getD i 0 > x
     ·cases q with
      | false=>
       have ho:=hq rfl;have nx:=ih (i+1) ((out++[x])++[l.getD i 0]) true (by omega) (by omega) (by simp; omega) (fun h=>by cases h);rw [Av hg,Bool.not_false,cnd_true,Am (by omega),Am (by simp; omega),Ci (by omega) (by omega),Al,nx,Av hg,cnd_true,List.append_assoc,List.append_assoc];rfl
      | true=>
       have nx:=ih (i+1) (out++[l.getD i 0]) true (by omega) (by omega) (by simp; omega) (fun h=>by cases h);rw [Av hg,Bool.not_true,cnd_false,Am (by omega),Ci (by omega) (by omega),Al,nx,Av hg,cnd_false,List.append_assoc];rfl
     have nx:=ih (i+1) (out++[l.getD i 0]) q (by omega) (by omega) (by simp; omega) (fun h=>by have:=hq h; simp; omega);rw [Au hg,Am (by omega),Ci (by omega) (by omega),Al,nx,Au hg,List.append_assoc];rfl
    cases hb:(l.getD i 0==x) with
    | true=>
     rw [cnd_true,Bool.or_true];exact step true fun h=>by cases h
    | false=>
     rw [cnd_false,Bool.or_false];exact step p h4
   ·obtain rfl:i=l.length:=by omega
    rw [Au (by omega),List.drop_length,Rx]
    cases p with
    | false=>
     show cnd (!false) _ _=_;rw [Bool.not_false,cnd_true,Am (by omega),cnd_true]
    | true=>
     show cnd (!true) _ _=_;rw [Bool.not_true,cnd_false,cnd_false,List.append_nil]
 exact key N 0 [] false (by omega) (by omega) (by simp) (by simp)
theorem foldIns_sort {Q:List Int} (h:Q.Nodup):Q.foldl (fun l x=>Rx l x false) []=Q.mergeSort fun x y=>decide (x≤y):=by
 have key:∀ (Q l:List Int),(l++Q).Nodup→l.Pairwise (·≤·)→(Q.foldl (fun l x=>Rx l x false) l).Pairwise (·≤·)∧(Q.foldl (fun l x=>Rx l x false) l).Perm (l++Q):=by
  intro Q
  induction Q with
  | nil=>intro l _ hs; rw [List.append_nil]; exact ⟨hs,List.Perm.refl _⟩
  | cons x Q ih=>
   intro l hn hs
   have hx:x∉l:=fun h'=>by
    have:=(List.nodup_append.1 hn).2.2 x h' x (by simp);exact this O
   have hp:=Yq hx
   have hp2:(Rx l x false++Q).Perm (l++x::Q):=by
    refine (hp.append_right Q).trans ?_;rw [List.cons_append];exact List.perm_middle.symm
   obtain ⟨g1,g2⟩:=ih (Rx l x false) (hp2.symm.nodup hn) (insR_srt hx hs);exact ⟨g1,g2.trans hp2⟩
 obtain ⟨g1,g2⟩:=key Q [] h List.Pairwise.nil;have hm:=List.pairwise_mergeSort (le:=fun x y:Int=>decide (x≤y)) (fun a b c h1 h2=>by simp at *; omega) (fun a b=>by simp; omega) Q;refine List.Perm.eq_of_pairwise (le:=fun x y:Int=>x≤y) (fun a b _ _ h1 h2=>by omega) g1 (hm.imp fun h=>by simpa using h) ?_;exact g2.trans (List.mergeSort_perm Q _).symm
end
section
open Go.RowKit
def Vw (N:Nat) (l_0:Lnk):Option ((List (List (Int×Int)))×Bool):=
 (Lc N l_0).bind fun v1=>
 cnd v1.2 (
  some (v1.1,(decide ((v1.1.length:Int)≤(100:Int))))) (
  some (v1.1,false))
theorem I_poses_w (N:Nat) (l_0:Lnk) (r:(List (List (Int×Int)))×Bool) (h:Vw N l_0=some r):PCallD Tryz.prog 74 [lD l_0] 45 95 (.pairss r.1) (.tup [.row 0 0 r.1.length,.bool r.2]):=by
 unfold Vw at h;refine Qd (TT:=TT) tt Tryz.func74 O O Tryz.ntmps74 (congrArg Array.toList Tryz.results74) O O O fun w0=>(Ah (Ab (Lw O O O O O O O O O (Aa O (Aa O (Af (Ah (Ab (Aa O ?_)))))))));obtain ⟨v1,hc1,h⟩:=Ad h;refine Xv 10 (Rr N l_0 v1 hc1) O O O O O O O O O O O (fun _ h=>by cases h) ⟨⟨O,O,O,O,Y⟩,Y⟩ ?_;iterate 5 refine Aa O ?_
 refine Af (Ah (Ab (Aa O (Aa O (Aa O (Bi O O O (fun hb2=>?_) (fun hb2=>?_)))))))
 ·replace h:=Ai hb2 h;iterate 3 refine Bj tt O O O O O hb2 O O O Y ?_
  refine Bd O O O O O hb2 O (Aa O (Aa O (Af (Ay ?_))));show ∃ _,_;cases h;exact ⟨1080,10,_,O,O,O,O,O,.eq O,O⟩
 replace h:=Aj hb2 h;iterate 3 refine Qv O O O O hb2 O O ?_
 refine Az O O O O O hb2 O (Aa O (Aa O (Af (Ay ?_))));show ∃ _,_;cases h;exact ⟨1080,10,_,O,O,O,O,O,.eq O,O⟩
end
end Go.Proofs.YtaipbhnpandbkaaGreat
