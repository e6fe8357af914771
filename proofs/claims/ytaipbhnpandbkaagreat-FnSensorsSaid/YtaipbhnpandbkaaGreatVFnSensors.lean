/- FnSensors: whatever the input, the law returns true, and each argument reads as before. No condition. -/
import Derived.Test.YtaipbhnpandbkaaGreatRows
import Derived.WalkKit
import Derived.ProofKit
import Derived.OpenShut
import Derived.Test.YtaipbhnpandbkaaGreatBLs4
import Derived.Test.YtaipbhnpandbkaaGreatBLs5
import Derived.Test.YtaipbhnpandbkaaGreatBLs7
import Derived.Test.YtaipbhnpandbkaaGreatBLs8
import Derived.Test.YtaipbhnpandbkaaGreatBLs9
import Derived.Test.YtaipbhnpandbkaaGreatBLs10
namespace Go.Proofs.YtaipbhnpandbkaaGreat
open Go.RowKit
set_option linter.unusedVariables false
set_option linter.unusedSimpArgs false
variable {N:Nat}
theorem sensors_l3 (hN:4000000≤N) {v2:Grf×List Int} {r o:List Int} (hr:r.length≤1000) (ho:o.length≤1000) (h:3≤v2.2.length→∀ x∈o,x∈r) {k:Unit→Option Bool}:∀ (fuel i:Nat),i≤o.length→o.length<fuel+i→Hk N v2 r o k fuel (i:Int)=k ():=by
 intro fuel
 induction fuel with
 | zero=>intro i h1 h2; omega
 | succ fuel ih=>
  intro i h1 h2
  rw [Hk]
  by_cases hi:i<o.length
  ·rw [Bb (by omega)]
   by_cases h3:3≤v2.2.length
   ·have e2:((i:Int)).toNat=i:=rfl
    have hc:r.contains (o.getD i 0)=true:=by simpa using h h3 _ (Aak hi)
    rw [Bb (by omega),Am (by omega),e2,has_s hN (by omega),hc,Option.bind_some,Bool.not_true,cnd_false,Bf (by omega) (by omega),Ah]
    exact ih (i+1) (by omega) (by omega)
   ·rw [Ay (by omega)]
  ·rw [Ay (by omega)]
theorem sensors_l2 (hN:4000000≤N) {g:Grf} {q:List (List Int)} {i:Nat} (hi:i<g.bars.length) (hq:q.length≤100000) (hq8:∀ x∈q,x.length≤8) (h:∃ U∈q,(g.bars.getD i (0,0)).1∈U∧(g.bars.getD i (0,0)).2∈U) {k:Bool→Option Bool}:∀ (fuel j:Nat) (f:Bool),j≤q.length→q.length<fuel+j→(f=true∨∃ U∈q.drop j,(g.bars.getD i (0,0)).1∈U∧(g.bars.getD i (0,0)).2∈U)→Fc N g q (i:Int) k fuel (f,(j:Int))=k true:=by
 intro fuel
 induction fuel with
 | zero=>intro j f h1 h2; omega
 | succ fuel ih=>
  intro j f h1 h2 h3
  rw [Fc]
  by_cases hj:j<q.length
  ·have e2:((j:Int)).toNat=j:=rfl
   have e3:((i:Int)).toNat=i:=rfl
   have ed:q.drop j=q.getD j []::q.drop (j+1):=by
    rw [List.drop_eq_getElem_cons hj,List.getD_eq_getElem?_getD,List.getElem?_eq_getElem hj]; rfl
   have h8:=hq8 _ (Aak (d:=[]) hj)
   rw [Bb (by omega)]
   cases f with
   | true=>
    rw [cnd_true,Bf (by omega) (by omega),Ah]
    exact ih (j+1) true (by omega) (by omega) (.inl rfl)
   | false=>
    rw [cnd_false,Am (by omega),Am (by omega),e2,e3,has_s hN (by omega),Option.bind_some]
    have h4:∃ U∈q.drop j,(g.bars.getD i (0,0)).1∈U∧(g.bars.getD i (0,0)).2∈U:=by
     rcases h3 with h3 | h3
     ·cases h3
     ·exact h3
    rw [ed] at h4
    cases c1:(q.getD j []).contains (g.bars.getD i (0,0)).1 with
    | true=>
     rw [cnd_true,has_s hN (by omega),Option.bind_some,Bf (by omega) (by omega),Ah]
     refine ih (j+1) _ (by omega) (by omega) ?_
     cases c2:(q.getD j []).contains (g.bars.getD i (0,0)).2 with
     | true=>exact .inl rfl
     | false=>
      obtain ⟨U,u1,u2,u3⟩:=h4
      rcases List.mem_cons.1 u1 with rfl | u1
      ·rw [List.contains_iff_mem.2 u3] at c2; cases c2
      ·exact .inr ⟨U,u1,u2,u3⟩
    | false=>
     rw [cnd_false,Bf (by omega) (by omega),Ah]
     refine ih (j+1) _ (by omega) (by omega) ?_
     obtain ⟨U,u1,u2,u3⟩:=h4
     rcases List.mem_cons.1 u1 with rfl | u1
     ·rw [List.contains_iff_mem.2 u2] at c1; cases c1
     ·exact .inr ⟨U,u1,u2,u3⟩
  ·rw [Ay (by omega)]
   rcases h3 with h3 | ⟨U,u1,_⟩
   ·rw [h3]
   ·rw [List.drop_eq_nil_of_le (by omega)] at u1; cases u1
theorem sensors_l1 (hN:4000000≤N) {g:Grf} (hb:g.bars.length≤1000) {q:List (List Int)} (hq:q.length≤100000) (hq8:∀ x∈q,x.length≤8) (h:0<q.length→∀ e∈g.bars,∃ U∈q,e.1∈U∧e.2∈U) {k:Unit→Option Bool}:∀ (fuel i:Nat),i≤g.bars.length→g.bars.length<fuel+i→Hn N g q k fuel (i:Int)=k ():=by
 intro fuel
 induction fuel with
 | zero=>intro i h1 h2; omega
 | succ fuel ih=>
  intro i h1 h2
  rw [Hn]
  by_cases hi:i<g.bars.length
  ·rw [Bb (by omega)]
   by_cases h0:0<q.length
   ·have hx:=h h0 _ (Aak (d:=(0,0)) hi)
    rw [Bb (by omega)]
    refine (sensors_l2 hN hi hq hq8 hx N 0 false (by omega) (by omega) (.inr (by rw [List.drop_zero]; exact hx))).trans ?_
    rw [Bool.not_true,cnd_false,Bf (by omega) (by omega),Ah]
    exact ih (i+1) (by omega) (by omega)
   ·rw [Ay (by omega)]
  ·rw [Ay (by omega)]
set_option maxRecDepth 20000 in
set_option maxHeartbeats 1600000 in
theorem fnSensors_v (code:List Int) (hb:Byt code):Sn 4000000 code=some true:=by
 have hN:4000000≤4000000:=Nat.le_refl _
 unfold Sn L_big
 rw [Option.bind_some]
 by_cases hc:(code.length:Int) > 1048576
 ·rw [Bb hc]
 rw [Ay hc]
 obtain ⟨⟨g,a⟩,hg,gd,ga⟩:=drawLoc_d hN hb (by omega)
 obtain ⟨h,hh,hl⟩:=drawPieces_d hN hb (by omega)
 obtain ⟨⟨b,c⟩,hbc,bl,cl⟩:=drawNext_d hN hb (by omega)
 have gl:=gd.gd.len
 have gn:=gd.n1
 simp only at gl gn ga bl cl
 obtain ⟨r,r1,r2,r3,_,_,r6⟩:=Abx (N:=4000000) hN (g:=g) (by omega) (A:=a) (by omega)
 have o1:=trilOS_s 4000000 hN (g:=g) (by omega) (l:=a) (by omega)
 have o2:=trilOI_s 4000000 hN (g:=g) (by omega) (l:=a) (by omega)
 have o3:=trilO_len g a
 have t1:=isTrilS_s 4000000 hN (g:=g) (by omega) (l:=a) (by omega)
 have t2:=isTrilI_s 4000000 hN (g:=g) (by omega) (l:=a) (by omega)
 obtain ⟨x,y,x1,x2,x3⟩:=anch_x (N:=4000000) hN (g:=g) (by omega) (A:=a) (by omega)
 have eg:=eqGraphs_s 4000000 hN (g:=x) (by omega)
 obtain ⟨q,q1,q2,q3,q4,q5,q6⟩:=pieces_y (N:=4000000) hN (g:=h) (by omega)
 obtain ⟨m,f,L,m1,m2,m3,m4⟩:=next_y (N:=4000000) hN (g:=b) (by omega) (A:=c) (by omega)
 have s1:=Yt hN (l:=r) (by omega)
 have s2:=Yt hN (l:=Zr g a) (by omega)
 have s3:=sameSets_s hN (l:=q) (by omega) (fun x hx=>by have:=q2 x hx; omega)
 have l3:=fun {k:Unit→Option Bool}=>sensors_l3 hN (v2:=(g,a)) (r:=r) (o:=Zr g a) (by omega) (by omega) (fun h3=>tril_located hN (by omega) (show a.length≤3000000 by omega) gn h3 r6) (k:=k) 4000000 0 (by omega) (by omega)
 have l1:=fun {k:Unit→Option Bool}=>sensors_l1 hN (g:=h) (by omega) (q:=q) (by omega) q2 (fun h0 e he=>by
  cases hs:Cc h with
  | false=>rw [q5 hs] at h0; simp at h0
  | true=>exact bar_piece hN hs (q6 hs) he) (k:=k) 4000000 0 (by omega) (by omega)
 rw [show ((0:Nat):Int)=(0:Int) from rfl] at l3 l1
 cases f with
 | false=>simp only [hg,r3,o2,r2,s1,o1,s2,t2,t1,l3,x3,x2,eg,hh,q4,q3,s3,l1,hbc,m2,m1,bne_self_eq_false,Option.bind_some,Bool.not_true,Bool.not_false,cnd_false,cnd_true,beq_self_eq_true,Bool.and_self]
 | true=>
  have m5:=decide_eq_true (m4 rfl)
  simp only [hg,r3,o2,r2,s1,o1,s2,t2,t1,l3,x3,x2,eg,hh,q4,q3,s3,l1,hbc,m2,m1,m3,m5,bne_self_eq_false,Option.bind_some,Bool.not_true,Bool.not_false,cnd_false,cnd_true,beq_self_eq_true,Bool.and_self]
end Go.Proofs.YtaipbhnpandbkaaGreat
namespace Go.Proofs.YtaipbhnpandbkaaGreat.fnSensors
open Go.ChangeShapes Go.WideShapes Go.ChangeAt Go.RowKit
set_option linter.unusedVariables false
set_option linter.unusedSimpArgs false
theorem own:ownKnob Tryz.prog.godebug=none:=by kernel_rfl
set_option maxRecDepth 100000 in
theorem lifted (os:Os) (started:os.Started) (H:Type) (enc:TypeId×Value→H) :
  ReturnsInHanded {} Tryz.checked os 3 .any (Rows.fnSensorsSpec.pre6 enc Tryz.prog Tryz.f3 Rows.fnSensorsRow.domain false) (Rows.fnSensorsSpec.post enc Tryz.prog Tryz.f3 false true false false):=by
 refine returnsInHanded_of_change (C:=Tryz.checked) own started (by kernel_rfl) Tryz.func3
  (ChangeSpec.witness6 (enc:=enc) (C:=Tryz.checked) false ⟨#[],#[.slice none 0 0],[]⟩ 8 (by kernel_rfl) (by kernel_rfl) (by kernel_rfl) (by kernel_rfl)) ?_
 intro W base args ds gs before hval0 hW hcnd _
 have hval:∀ (j:Nat) t v,Tryz.f3.params[j]? = some t→args[j]? = some v→Value.okWide Tryz.prog W .any base t v:=hval0
 have hW':=hW
 obtain ⟨p,q,hA0,hV,rfl,hfz,hnd⟩:=hW
 have hA:DataW.TrodAll enc Tryz.prog W 0 (fun _=>true) true Tryz.f3.params.toList args.toList ds p:=hA0
 rw [Tryz.params3] at hA hval
 obtain ⟨v0,vs0,d0,ds0,p0,q0,hargs,rfl,rfl,h0,r0⟩:=trodAll_cons hA
 obtain ⟨rfl,rfl,rfl⟩:=trodAll_nil r0
 obtain rfl:args=#[v0]:=by cases args; simp_all
 obtain ⟨rfl,rfl⟩:=trodVars_none hV
 obtain ⟨ao0,ln0,cp0,rfl⟩:=okWide_slice Tryz.underlying22 (hval 0 22 v0 rfl rfl)
 obtain ⟨fl0,hf0⟩:=h0
 obtain ⟨u0,l0,e0,k0,rr0⟩:=open_bytesD Tryz.underlying22 Tryz.underlying5 (by kernel_rfl) hf0
 obtain rfl:_=u0:=by simpa [Value.cells] using e0
 clear hA0 hval0
 refine ((L_FnSensors_w 4000000 l0 true (fnSensors_v l0 fun i hi=>rr0 _ (Fn hi))).bool (mkArgs1 k0)).mono fun e W' ⟨he,hg⟩=>?_
 subst he
 exact ⟨_,rfl,law_post (by kernel_rfl) (by rw [Tryz.params3]; exact of_decide_eq_true (by kernel_rfl)) rfl Tryz.underlying4 rfl rfl hW' hg⟩
theorem over:Rows.fnSensorsRow.holds Tryz.pinned (OpenSpec.ofChange Rows.fnSensorsSpec):=
 OpenClaim.holds_of_wide 3 Tryz.f3 rfl rfl rfl rfl rfl rfl rfl ⟨rfl,rfl,rfl,rfl,rfl⟩ rfl rfl rfl rfl rfl (by kernel_rfl) Tryz.func3 (by kernel_rfl)
  (of_decide_eq_true (by kernel_rfl)) (by unfold Func.isWrapper; first | (rw [if_pos (by decide +kernel)]; kernel_rfl) | (rw [if_neg (by decide +kernel)]; exact ⟨rfl,rfl⟩))
  (fun os started H enc _=>lifted os started H enc)
theorem proved:Rows.FnSensorsSaid:=
 over
#print axioms proved
end Go.Proofs.YtaipbhnpandbkaaGreat.fnSensors
