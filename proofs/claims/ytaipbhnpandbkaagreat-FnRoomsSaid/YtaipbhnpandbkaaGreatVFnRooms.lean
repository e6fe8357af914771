/- FnRooms: whatever the input, the law returns true, and each argument reads as before. No condition. -/
import Derived.Test.YtaipbhnpandbkaaGreatRows
import Derived.WalkKit
import Derived.ProofKit
import Derived.OpenShut
import Derived.Test.YtaipbhnpandbkaaGreatBLr7
import Derived.Test.YtaipbhnpandbkaaGreatBLr8
namespace Go.Proofs.YtaipbhnpandbkaaGreat
open Go.RowKit
set_option linter.unusedVariables false
set_option linter.unusedSimpArgs false
theorem samePlacesR_s {N:Nat} (hN:4000000≤N) {l:List (Int×Int)} (hl:l.length≤3000000):Ka N l l=some true:=by
 have key:∀ (fuel i:Nat),i≤l.length→l.length<fuel+i→Eg N l l (fun (_:Unit)=>some true) fuel (i:Int)=some true:=by
  intro fuel
  induction fuel with
  | zero=>intro i h1 h2; omega
  | succ fuel ih=>
   intro i h1 h2
   rw [Eg]
   by_cases hi:i<l.length
   ·rw [Av (by omega),Am (by omega),Am (by omega),beq_self_eq_true,beq_self_eq_true,Bool.and_self,Bool.not_true,cnd_false,Ci (by omega) (by omega),Al,ih (i+1) (by omega) (by omega)]
   ·rw [Au (by omega)]
 unfold Ka
 rw [Ev rfl]
 exact key N 0 (by omega) (by omega)
theorem rooms_l2 {N:Nat} (hN:4000000≤N) {R:List (List Int)} {b:Bool} (hR:R.length≤100) (hr:∀ r∈R,r.length≤100) {k:Int→Option Bool}:∀ (fuel i n:Nat),i≤R.length→R.length<fuel+i→n≤100*i→Gl N (R,b) k fuel ((n:Int),(i:Int))=k ((n+Xr (R.drop i):Nat):Int):=by
 intro fuel
 induction fuel with
 | zero=>intro i n h1 h2; omega
 | succ fuel ih=>
  intro i n h1 h2 h3
  rw [Gl]
  by_cases hi:i<R.length
  ·have e2:((i:Int)).toNat=i:=rfl
   have hl:=hr _ (Rp (d:=[]) hi)
   have ed:R.drop i=R.getD i []::R.drop (i+1):=by
    rw [List.drop_eq_getElem_cons hi]; simp [List.getD_eq_getElem?_getD,hi]
   rw [Av (by simp only; omega),Am (by simp only; omega),e2]
   simp only
   rw [Ci (by omega) (by omega),Ci (by omega) (by omega),Al]
   have:=ih (i+1) (n+(R.getD i []).length) (by omega) (by omega) (by omega)
   rw [show ((n:Int)+((R.getD i []).length:Int))=((n+(R.getD i []).length:Nat):Int) by omega,this,ed]
   simp only [Xr,List.map_cons,List.sum_cons]
   congr 2; omega
  ·rw [Au (by simp only; omega),List.drop_eq_nil_of_le (by omega)]
   simp [Xr]
theorem rooms_l1 {N:Nat} (hN:4000000≤N) {P:List (List (Int×Int))} {r:List Int} {fr to:Int} {b c:Bool} (h:PathOK P fr to r) (hr:r.length≤1000) (hP:∀ x∈P,x.length≤3000000) {k:Unit→Option Bool}:∀ (fuel i:Nat),0<i→i≤r.length→r.length<fuel+i→Gn N (r,b) (P,c) k fuel (i:Int)=k ():=by
 intro fuel
 induction fuel with
 | zero=>intro i h0 h1 h2; omega
 | succ fuel ih=>
  intro i h0 h1 h2
  rw [Gn]
  by_cases hi:i<r.length
  ·have e2:((i:Int)).toNat=i:=rfl
   have e1:((i:Int)-1).toNat=i-1:=by omega
   have g1:=h.rg i hi
   have g2:=h.rg (i-1) (by omega)
   have hn:=h.nr i h0 hi
   unfold nrP at hn
   rw [Av (by simp only; omega),Ci (by omega) (by omega),Am (by simp only; omega),e1,e2]
   simp only
   rw [Am (by omega),Am (by omega),Am (by omega),Yu hN (hP _ (Rp (by omega))),hn,Option.bind_some,Bool.not_true,cnd_false,Ci (by omega) (by omega),Al]
   exact ih (i+1) (by omega) (by omega) (by omega)
  ·rw [Au (by simp only; omega)]
set_option maxRecDepth 20000 in
set_option maxHeartbeats 1600000 in
theorem fnRooms_v (code:List Int) (hb:Byt code):Sf 4000000 code=some true:=by
 have hN:4000000≤4000000:=Nat.le_refl _
 unfold Sf L_big
 rw [Option.bind_some]
 by_cases hc:(code.length:Int) > 1048576
 ·rw [Av hc]
 rw [Au hc]
 obtain ⟨l,hl,ld⟩:=drawRooms_d hN hb (by omega)
 obtain ⟨⟨a,fr,to⟩,ha,lda⟩:=drawPath_d hN hb (by omega)
 obtain ⟨⟨t,jn⟩,ht,ldt⟩:=drawTrace_d hN hb (by omega)
 obtain ⟨⟨c,d⟩,hd,hcl,hdl⟩:=drawNear_d hN hb (by omega)
 simp only at lda ldt hcl hdl
 have l1:=ld.pl
 have l2:=ld.gl
 have a1:=lda.pl
 have a2:=lda.gl
 have t1:=ldt.pl
 have t2:=ldt.gl
 have rI:=roomsOf_i (N:=4000000) hN (l:=l) (by omega) (by omega)
 have rS:=roomsOf_s (N:=4000000) hN (l:=l) (by omega) (by omega)
 have rb:=Sj l
 have s1:=sameSets_s hN (l:=Ch l) (by omega) (fun x hx=>by have:=rb.2 x hx; omega)
 have oI:=roomOf_i (N:=4000000) hN (l:=l) (by omega) (by omega)
 have oS:=roomOf_s (N:=4000000) hN (l:=l) (by omega) (by omega)
 have s2:=Tv hN (l:=Lq l) (by have:=roomOf_bd l; omega)
 obtain ⟨q,q1,q2⟩:=stuck_x (N:=4000000) hN (l:=l) (by omega) (by omega)
 obtain ⟨y,by',yl,y1,y2⟩:=path_x (N:=4000000) hN (l:=a) (by omega) (by omega) (fr:=fr) (to:=to)
 have s3:=Tv hN (l:=y) (by omega)
 obtain ⟨z,zl,z1,z2⟩:=trace_x (N:=4000000) hN (l:=t) (by omega) (by omega) (jn:=jn)
 have s4:=samePlacesR_s hN (l:=z) (by omega)
 have n1:=Yu (N:=4000000) hN (a:=c) (b:=d) (by omega)
 have n2:=nearS_s (N:=4000000) hN (a:=c) (b:=d) (by omega)
 have n3:=Yu (N:=4000000) hN (a:=d) (b:=c) (by omega)
 rw [nearB_sym] at n3
 have pS:=Ll (N:=4000000) hN (l:=l) (by omega) (by omega)
 have pA:=Ll (N:=4000000) hN (l:=a) (by omega) (by omega)
 unfold Go.Proofs.YtaipbhnpandbkaaGreat.jn
 have hcnd:∀ (b:Bool) (A B:Option Bool),(b=true→A=B)→cnd b A B=B:=fun b A B h=>by
  cases b with
  | false=>rfl
  | true=>rw [cnd_true]; exact h rfl
 have hs:rmOk l=true→Xr (Ch l)=(Bl l).length:=fun hk=>by
  unfold Ch; rw [hk,cnd_true]; exact rm_all _
 have lp:=fun {k:Int→Option Bool}=>rooms_l2 hN (b:=rmOk l) rb.1 rb.2 (k:=k) 4000000 0 0 (by omega) (by omega) (by omega)
 rw [List.drop_zero,Nat.zero_add,show ((0:Nat):Int)=(0:Int) from rfl] at lp
 rw [hl,Option.bind_some,rI,Option.bind_some,rS,Option.bind_some,bne_self_eq_false,cnd_false,s1,Option.bind_some,Bool.not_true,cnd_false,oI,Option.bind_some,oS,Option.bind_some,s2,Option.bind_some,Bool.not_true,cnd_false,q2,Option.bind_some,q1,Option.bind_some,bne_self_eq_false,cnd_false]
 refine (hcnd (rmOk l) _ _ fun hk=>?_).trans ?_
 ·rw [pS,Option.bind_some,lp,hs hk,bne_self_eq_false,cnd_false]
 rw [ha,Option.bind_some,y2,Option.bind_some,y1,Option.bind_some,bne_self_eq_false,cnd_false,s3,Option.bind_some,Bool.not_true,cnd_false]
 refine (hcnd by' _ _ fun hk=>?_).trans ?_
 ·subst hk
  have hp:=path_v hN (l:=a) (by omega) (by omega) y1
  have h0:=hp.pos
  have e0:((0:Int)).toNat=0:=rfl
  have e1:((y.length:Int)-1).toNat=y.length-1:=by omega
  rw [pA,Option.bind_some,Am (by show 0≤(0:Int)∧(0:Int)<(y.length:Int); omega),e0,Ev hp.hd,Ci (by show _≤(y.length:Int)-1; omega) (by show (y.length:Int)-1≤_; omega),Am (by show 0≤((y.length:Int)-(1:Int))∧((y.length:Int)-(1:Int))<(y.length:Int); omega),e1,Ev hp.lt]
  exact rooms_l1 hN hp (by omega) (fun x hx=>by have:=Qp hx; omega) 4000000 1 (by omega) (by omega) (by omega)
 rw [ht,Option.bind_some,hd,Option.bind_some,z2,Option.bind_some,z1,Option.bind_some,s4,Option.bind_some,cnd_true,n1,Option.bind_some,n2,Option.bind_some,beq_self_eq_true,cnd_true,Option.bind_some,n3,Option.bind_some,beq_self_eq_true]
end Go.Proofs.YtaipbhnpandbkaaGreat
namespace Go.Proofs.YtaipbhnpandbkaaGreat.fnRooms
open Go.ChangeShapes Go.WideShapes Go.ChangeAt Go.RowKit
set_option linter.unusedVariables false
set_option linter.unusedSimpArgs false
theorem own:ownKnob Tryz.prog.godebug=none:=by kernel_rfl
set_option maxRecDepth 100000 in
theorem lifted (os:Os) (started:os.Started) (H:Type) (enc:TypeId×Value→H) :
  ReturnsInHanded {} Tryz.checked os 4 .any (Rows.fnRoomsSpec.pre6 enc Tryz.prog Tryz.f4 Rows.fnRoomsRow.domain false) (Rows.fnRoomsSpec.post enc Tryz.prog Tryz.f4 false true false false):=by
 refine returnsInHanded_of_change (C:=Tryz.checked) own started (by kernel_rfl) Tryz.func4
  (ChangeSpec.witness6 (enc:=enc) (C:=Tryz.checked) false ⟨#[],#[.slice none 0 0],[]⟩ 8 (by kernel_rfl) (by kernel_rfl) (by kernel_rfl) (by kernel_rfl)) ?_
 intro W base args ds gs before hval0 hW hcnd _
 have hval:∀ (j:Nat) t v,Tryz.f4.params[j]? = some t→args[j]? = some v→Value.okWide Tryz.prog W .any base t v:=hval0
 have hW':=hW
 obtain ⟨p,q,hA0,hV,rfl,hfz,hnd⟩:=hW
 have hA:DataW.TrodAll enc Tryz.prog W 0 (fun _=>true) true Tryz.f4.params.toList args.toList ds p:=hA0
 rw [Tryz.params4] at hA hval
 obtain ⟨v0,vs0,d0,ds0,p0,q0,hargs,rfl,rfl,h0,r0⟩:=trodAll_cons hA
 obtain ⟨rfl,rfl,rfl⟩:=trodAll_nil r0
 obtain rfl:args=#[v0]:=by cases args; simp_all
 obtain ⟨rfl,rfl⟩:=trodVars_none hV
 obtain ⟨ao0,ln0,cp0,rfl⟩:=okWide_slice Tryz.underlying22 (hval 0 22 v0 rfl rfl)
 obtain ⟨fl0,hf0⟩:=h0
 obtain ⟨u0,l0,e0,k0,rr0⟩:=open_bytesD Tryz.underlying22 Tryz.underlying5 (by kernel_rfl) hf0
 obtain rfl:_=u0:=by simpa [Value.cells] using e0
 clear hA0 hval0
 refine ((L_FnRooms_w 4000000 l0 true (fnRooms_v l0 fun i hi=>rr0 _ (Cg hi))).bool (mkArgs1 k0)).mono fun e W' ⟨he,hg⟩=>?_
 subst he
 exact ⟨_,rfl,law_post (by kernel_rfl) (by rw [Tryz.params4]; exact of_decide_eq_true (by kernel_rfl)) rfl Tryz.underlying4 rfl rfl hW' hg⟩
theorem over:Rows.fnRoomsRow.holds Tryz.pinned (OpenSpec.ofChange Rows.fnRoomsSpec):=
 OpenClaim.holds_of_wide 4 Tryz.f4 rfl rfl rfl rfl rfl rfl rfl ⟨rfl,rfl,rfl,rfl,rfl⟩ rfl rfl rfl rfl rfl (by kernel_rfl) Tryz.func4 (by kernel_rfl)
  (of_decide_eq_true (by kernel_rfl)) (by unfold Func.isWrapper; first | (rw [if_pos (by decide +kernel)]; kernel_rfl) | (rw [if_neg (by decide +kernel)]; exact ⟨rfl,rfl⟩))
  (fun os started H enc _=>lifted os started H enc)
theorem proved:Rows.FnRoomsSaid:=
 over
#print axioms proved
end Go.Proofs.YtaipbhnpandbkaaGreat.fnRooms
