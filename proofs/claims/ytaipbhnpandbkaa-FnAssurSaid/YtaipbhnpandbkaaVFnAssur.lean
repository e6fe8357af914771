/- FnAssur: whatever the input, the law returns true, and each argument reads as before. No condition. -/
import Derived.Test.YtaipbhnpandbkaaRows
import Derived.WalkKit
import Derived.ProofKit
import Derived.OpenShut
import Derived.Test.YtaipbhnpandbkaaBLb6
import Derived.Test.YtaipbhnpandbkaaBLb7
import Derived.Test.YtaipbhnpandbkaaBLb8
import Derived.Test.YtaipbhnpandbkaaBLb9
namespace Go.Proofs.Ytaipbhnpandbkaa
open Go.RowKit
set_option linter.unusedVariables false
set_option linter.unusedSimpArgs false
variable {N:Nat}
theorem assur_l2 (hN:4000000≤N) {v8:List (List Int)×Bool} {D V:List Int} {i:Int} (hV:V.length≤1000) (hD:D.length≤1000) (hG:(v8.1.getD i.toNat []).length≤1000) (h:(V.all fun x=>D.contains x || (v8.1.getD i.toNat []).contains x)=true) {k:Unit→Option Bool}:∀ (fuel j:Nat),j≤V.length→V.length<fuel+j→Gw N v8 D i V k fuel (j:Int)=k ():=by
 intro fuel
 induction fuel with
 | zero=>intro j h1 h2; omega
 | succ fuel ih=>
  intro j h1 h2
  rw [Gw]
  by_cases hj:j<V.length
  ·have e2:((j:Int)).toNat=j:=rfl
   have hm:=List.all_eq_true.1 h _ (Ci (d:=0) hj)
   have hi':=ih (j+1) (by omega) (by omega)
   rw [Dk (by omega),Ao (by omega),e2,has_s hN (by omega),Option.bind_some]
   cases hc:D.contains (V.getD j 0) with
   | true=>rw [Bool.not_true,cnd_false,Cy (by omega) (by omega),Am,hi']
   | false=>
    rw [hc,Bool.false_or] at hm
    rw [Bool.not_false,cnd_true,has_s hN (by omega),hm,Option.bind_some,Bool.not_true,cnd_false,Cy (by omega) (by omega),Am,hi']
  ·rw [Dx (by omega)]
theorem assur_l1 (hN:4000000≤N) {p:Pin} {ow:List Int} {R:List (List Int)} {b:Bool} (hp:Aw p=true) (hl:ow.length=p.g.bars.length) (ho:Own p 0 ow) (hI:Do N p=some (ow,true)) (hR8:R.length≤8) (hg8:∀ g∈R,g.length≤8) {k:List Int→Option Bool}:∀ (fuel i:Nat) (D:List Int),i≤R.length→R.length<fuel+i→D.length≤8*i→OrdT p ow D (R.drop i) →
  Hx N p (R,b) k fuel (D,(i:Int))=k (D++(R.drop i).flatten):=by
 intro fuel
 induction fuel with
 | zero=>intro i D h1 h2; omega
 | succ fuel ih=>
  intro i D h1 h2 h3 h4
  rw [Hx]
  by_cases hi:i<R.length
  ·have e2:((i:Int)).toNat=i:=rfl
   have e0:((0:Int)).toNat=0:=rfl
   have ed:R.drop i=R.getD i []::R.drop (i+1):=dropG [] hi
   rw [ed] at h4 ⊢
   obtain ⟨⟨u,u1,u2,u3,u4⟩,h5⟩:=h4
   have hgl:=hg8 _ (Ci (d:=[]) hi)
   have hui:=Fu hp u1
   have hne:0<(R.getD i []).length:=by
    rw [u2]
    exact List.length_pos_iff.2 (Kk u1 ((Xw hp ow fun v h=>Fu hp h).rf u u1))
   have hrl:=Ml hp ow u
   rw [Dk (by simp only; omega),Ao (by simp only; omega),e2,e0]
   simp only
   rw [Ao (by omega),u3,Abn hN hI hp hl ho hui,Option.bind_some]
   refine (assur_l2 hN (v8:=(R,b)) (D:=D) (V:=Gx p ow u) (i:=(i:Int)) (by omega) (by omega) (by rw [e2]; simp only; omega) (by rw [e2]; simp only; rw [u2]; exact u4) N 0 (by omega) (by omega)).trans ?_
   rw [Ao (by omega),Cy (by omega) (by omega),Am,ih (i+1) _ (by omega) (by omega) (by rw [List.length_append]; omega) h5,List.flatten_cons,List.append_assoc]
  ·rw [Dx (by simp only; omega),List.drop_eq_nil_of_le (by omega)]
   simp
theorem flat_len:∀ {R:List (List Int)},R.flatten.length=(R.map List.length).sum
 | []=>rfl
 | a::R=>by rw [List.flatten_cons,List.length_append,flat_len,List.map_cons,List.sum_cons]
theorem perm_sum:∀ {a b:List Nat},a.Perm b→a.sum=b.sum:=fun h=>by
 induction h with
 | nil=>rfl
 | cons x _ ih=>simp [ih]
 | swap x y l=>simp; omega
 | trans _ _ a b=>exact a.trans b
theorem owners_iff (hN:4000000≤N) {p:Pin} (hb:p.g.bars.length≤3000000) (hg:p.ground.length≤3000000):∃ (ow:List Int) (b:Bool),ow.length≤15∧Dy N p=some (ow,b)∧Do N p=some (ow,b)∧Bo N p=some b∧(b=true→Aw p=true∧ow.length=p.g.bars.length∧Own p 0 ow∧Fx N p ow=some true):=by
 obtain ⟨ow,b,⟨h1,h2,h3,h4,h5⟩,h6,h7⟩:=owners_z (N:=N) hN hb hg
 obtain ⟨c,c1,_⟩:=Zu (N:=N) hN hb hg
 have hp:c=true→Aw p=true:=fun hc=>by
  cases hp:Aw p with
  | true=>rfl
  | false=>
   rw [hc] at c1
   unfold Bo Dw Cz at c1
   rw [Er N hN hb hg,hp] at c1
   simp [cnd] at c1
 have hcb:c=b:=by
  cases c with
  | true=>exact (h7 c1 (full_ex hN (hp rfl) c1)).symm
  | false=>
   cases b with
   | false=>rfl
   | true=>
    have:=(h6 rfl).1
    rw [c1] at this; cases this
 subst hcb
 refine ⟨ow,c,h1,h2,h3,c1,fun hc=>?_⟩
 obtain ⟨a1,a2,a3⟩:=h5 hc
 obtain ⟨a4,a5⟩:=h6 hc
 obtain ⟨n,LH,LS,H,I,hP⟩:=pin_full0 hN a1
 exact ⟨a1,a2,a3,areOwners_t hN a1 a5 (full_two a1 a5 (iso_parts a4 hP).2)⟩
theorem drawGroups_d (hN:4000000≤N) {code:List Int} (hb:Byt code) (hl:code.length≤1048576):Ok (Gn N code) fun r=>r.g.bars.length≤41∧r.ground.length≤3:=by
 unfold Gn
 exact Bz (new_s hN hb hl) fun c hc=>Bz (any_d hN hc.1) fun r hr=>Fb ⟨hr.1.gd.len,hr.1.gl⟩
theorem drawOwners_d (hN:4000000≤N) {code:List Int} (hb:Byt code) (hl:code.length≤1048576):Ok (Gs N code) fun r=>r.1.g.bars.length≤41∧r.1.ground.length≤3∧r.2.length≤15:=by
 unfold Gs
 refine Bz (new_s hN hb hl) fun c hc=>Bz (any_d hN hc.1) fun r hr=>?_
 have b1:=hr.1.gd.len
 have b2:=hr.1.gl
 obtain ⟨l,b,l1,l2,l3⟩:=owners_x (N:=N) hN (p:=r.1) (by omega) (by omega)
 rw [l2,Option.bind_some]
 refine Fa (fun c1=>?_) (fun _=>Fb ⟨b1,b2,l1⟩)
 rw [decide_eq_true_eq] at c1
 refine Bz (once_s (hc.1.at hr.2) 4) fun o ho=>Fa (fun _=>?_) (fun _=>Fb ⟨b1,b2,l1⟩)
 refine Bz (Jt (hc.1.at ho) 5) fun x hx=>Dc ⟨by omega,c1⟩ (Dc (by rw [List.length_set]) (Fb ⟨b1,b2,by simp only [List.length_set]; exact l1⟩))
theorem drawDepends_d (hN:4000000≤N) {code:List Int} (hb:Byt code) (hl:code.length≤1048576):Ok (Gl N code) fun r=>r.1.g.bars.length≤41∧r.1.ground.length≤3:=by
 unfold Gl
 refine Bz (new_s hN hb hl) fun c hc=>Bz (any_d hN hc.1) fun r hr=>Bz (Jt (hc.1.at hr.2) 9) fun x hx=>?_
 have x0:=hx.nn
 have x1:=hx.lt (by omega)
 exact Dc ⟨by omega,by omega⟩ (Fb ⟨hr.1.gd.len,hr.1.gl⟩)
set_option maxRecDepth 20000 in
set_option maxHeartbeats 1600000 in
theorem fnAssur_v (code:List Int) (hb:Byt code):Wx 4000000 code=some true:=by
 have hN:4000000≤4000000:=Nat.le_refl _
 unfold Wx L_big
 rw [Option.bind_some]
 by_cases hc:(code.length:Int) > 1048576
 ·rw [Dk hc]
 rw [Dx hc]
 obtain ⟨p,hp,hbl,hgl⟩:=drawGroups_d hN hb (by omega)
 obtain ⟨⟨a,l⟩,ha,hal,hag,hll⟩:=drawOwners_d hN hb (by omega)
 obtain ⟨⟨c,v⟩,hd,hdl,hdg⟩:=drawDepends_d hN hb (by omega)
 simp only at hal hag hll hdl hdg
 obtain ⟨ow,b,o1,o2,o3,o4,o5⟩:=owners_iff (N:=4000000) hN (p:=p) (by omega) (by omega)
 obtain ⟨ow',b',g1,g2,g3,g4,g5⟩:=groups_y (N:=4000000) hN (p:=p) (by omega) (by omega)
 obtain ⟨ow2,b2,r,r1,r2,r3,r4,r5,r6,r7,r8⟩:=order_y (N:=4000000) hN (p:=p) (by omega) (by omega)
 have e1:=Option.some.inj (o2.symm.trans g1)
 have e2:=Option.some.inj (o2.symm.trans r1)
 cases e1
 cases e2
 obtain ⟨gb1,gb2⟩:=clsG_bd ow b fun h=>(g3 h).1
 obtain ⟨q,q1,q2⟩:=isGroup_x (N:=4000000) hN (p:=p) (by omega) (by omega)
 obtain ⟨x,x1,x2⟩:=areOwners_s 4000000 hN (p:=a) (by omega) (by omega) (l:=l) (by omega)
 obtain ⟨y,y0,y1,y2⟩:=dependsOn_x (N:=4000000) hN (p:=c) (by omega) (by omega) v
 have s1:=Xi hN (l:=ow) (by omega)
 have s2:=Abg hN (l:=cnd b (Aa0 (mt p ow) (Af p)) []) (by omega) (fun x hx=>by have:=gb2 x hx; omega)
 have s3:=Abg hN (l:=r) (by omega) (fun x hx=>by have:=r5 x hx; omega)
 have s4:=Xi hN (l:=y) (by omega)
 cases b with
 | false=>
  rw [cnd_false] at g4 g5 s2
  unfold Go.Proofs.Ytaipbhnpandbkaa.jn
  simp only [hp,o3,o2,g5,g4,r7,r6,s1,s2,s3,o4,q1,q2,ha,hd,x1,x2,y1,y2,s4,bne_self_eq_false,Option.bind_some,Bool.not_true,cnd_false,cnd_true,beq_self_eq_true]
 | true=>
  obtain ⟨p1,p2,p3,p4⟩:=o5 rfl
  obtain ⟨t1,t2⟩:=r8 rfl
  have il:=Sr 4000000 hN (p:=p) (by omega) (by omega)
  have lp:=fun {k:List Int→Option Bool}=>assur_l1 hN (p:=p) (ow:=ow) (R:=r) (b:=true) p1 p2 p3 o3 r4 r5 (k:=k) 4000000 0 [] (by omega) (by omega) (by simp) t1
  rw [List.drop_zero,List.nil_append,show ((0:Nat):Int)=(0:Int) from rfl] at lp
  have hfl:r.flatten.length=(Af p).length:=by
   rw [flat_len,perm_sum (t2.map List.length),List.map_map]
   exact cls_sum (m:=mt p ow) fun x hx=>reps_one p1 hx
  have hln:r.length=(Aa0 (mt p ow) (Af p)).length:=by
   rw [t2.length_eq,List.length_map,Aa0,List.length_map]
  rw [cnd_true] at g4 g5 s2
  unfold Go.Proofs.Ytaipbhnpandbkaa.jn
  simp only [hp,o3,o2,g5,g4,r7,r6,s1,s2,s3,o4,p4,q1,q2,ha,hd,x1,x2,y1,y2,s4,hln,lp,il,hfl,bne_self_eq_false,Option.bind_some,Bool.not_true,cnd_false,cnd_true,beq_self_eq_true]
end Go.Proofs.Ytaipbhnpandbkaa
namespace Go.Proofs.Ytaipbhnpandbkaa.fnAssur
open Go.ChangeShapes Go.WideShapes Go.ChangeAt Go.RowKit
set_option linter.unusedVariables false
set_option linter.unusedSimpArgs false
theorem own:ownKnob Try.prog.godebug=none:=by kernel_rfl
set_option maxRecDepth 100000 in
theorem lifted (os:Os) (started:os.Started) (H:Type) (enc:TypeId×Value→H) :
  ReturnsInHanded {} Try.checked os 3 .any (Rows.fnAssurSpec.pre6 enc Try.prog Try.f3 Rows.fnAssurRow.domain false) (Rows.fnAssurSpec.post enc Try.prog Try.f3 false true false false):=by
 refine returnsInHanded_of_change (C:=Try.checked) own started (by kernel_rfl) Try.func3
  (ChangeSpec.witness6 (enc:=enc) (C:=Try.checked) false ⟨#[],#[.slice none 0 0],[]⟩ 8 (by kernel_rfl) (by kernel_rfl) (by kernel_rfl) (by kernel_rfl)) ?_
 intro W base args ds gs before hval0 hW hcnd _
 have hval:∀ (j:Nat) t v,Try.f3.params[j]? = some t→args[j]? = some v→Value.okWide Try.prog W .any base t v:=hval0
 have hW':=hW
 obtain ⟨p,q,hA0,hV,rfl,hfz,hnd⟩:=hW
 have hA:DataW.TrodAll enc Try.prog W 0 (fun _=>true) true Try.f3.params.toList args.toList ds p:=hA0
 rw [Try.params3] at hA hval
 obtain ⟨v0,vs0,d0,ds0,p0,q0,hargs,rfl,rfl,h0,r0⟩:=trodAll_cons hA
 obtain ⟨rfl,rfl,rfl⟩:=trodAll_nil r0
 obtain rfl:args=#[v0]:=by cases args; simp_all
 obtain ⟨rfl,rfl⟩:=trodVars_none hV
 obtain ⟨ao0,ln0,cp0,rfl⟩:=okWide_slice Try.underlying22 (hval 0 22 v0 rfl rfl)
 obtain ⟨fl0,hf0⟩:=h0
 obtain ⟨u0,l0,e0,k0,rr0⟩:=open_bytesD Try.underlying22 Try.underlying5 (by kernel_rfl) hf0
 obtain rfl:_=u0:=by simpa [Value.cells] using e0
 clear hA0 hval0
 refine ((L_FnAssur_w 4000000 l0 true (fnAssur_v l0 fun i hi=>rr0 _ (Ci hi))).bool (mkArgs1 k0)).mono fun e W' ⟨he,hg⟩=>?_
 subst he
 exact ⟨_,rfl,law_post (by kernel_rfl) (by rw [Try.params3]; exact of_decide_eq_true (by kernel_rfl)) rfl Try.underlying4 rfl rfl hW' hg⟩
theorem over:Rows.fnAssurRow.holds Try.pinned (OpenSpec.ofChange Rows.fnAssurSpec):=
 OpenClaim.holds_of_wide 3 Try.f3 rfl rfl rfl rfl rfl rfl rfl ⟨rfl,rfl,rfl,rfl,rfl⟩ rfl rfl rfl rfl rfl (by kernel_rfl) Try.func3 (by kernel_rfl)
  (of_decide_eq_true (by kernel_rfl)) (by unfold Func.isWrapper; first | (rw [if_pos (by decide +kernel)]; kernel_rfl) | (rw [if_neg (by decide +kernel)]; exact ⟨rfl,rfl⟩))
  (fun os started H enc _=>lifted os started H enc)
theorem proved:Rows.FnAssurSaid:=
 over
#print axioms proved
end Go.Proofs.Ytaipbhnpandbkaa.fnAssur
