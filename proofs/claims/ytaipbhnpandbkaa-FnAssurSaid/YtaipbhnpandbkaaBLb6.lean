/- Texts that the proof needs, put together: M7 G56 Qd Pg Em M8 M9 M10 M11. -/
import Derived.Test.YtaipbhnpandbkaaBLb3
import Derived.Test.YtaipbhnpandbkaaBLb4
import Derived.Test.YtaipbhnpandbkaaBLb5
set_option maxRecDepth 20000
set_option maxHeartbeats 1600000
set_option linter.unusedVariables false
set_option linter.unusedSimpArgs false
namespace Go.Proofs.Ytaipbhnpandbkaa
section
open Go.RowKit Go.Deep
section
variable {C:Cx} {ops:Array Oper} {K:PS→Prop} {l:List Oper} {s s':PS} {TT:List (Nat×Ty)} {tm:List (Nat×D)} {rw':List (Nat×Option (TypeId×Sq))} {bx:List (Nat×Option (List D))}
theorem vEnO (hl:En C s s') (h:VO C ops K l s'):VO C ops K l s:=⟨fun M a w Q hr hk=>by
 obtain ⟨M',h'⟩:=hl.out M a w hr
 exact h.out M' a w Q h' hk⟩
theorem oRowT (t r:Nat) {n n':Nat} (hn:n=n') (ht:(PS.t ⟨tm,rw',bx⟩ t)=.row r 0 n) (h:VO C ops K l ⟨(t,.row r 0 n')::tm,rw',bx⟩):VO C ops K l ⟨tm,rw',bx⟩:=by
 subst hn;refine vEnO (s':=⟨(t,.row r 0 n)::tm,rw',bx⟩) ⟨fun M a w hr=>⟨M,hr.sameT (fun x=>?_) O O⟩⟩ h;by_cases hx:t=x
 ·subst hx;rw [ht]; simp [PS.t,Ap]
 simp [PS.t,At hx]
theorem oRowB (b i r:Nat) {n n':Nat} {cs cs':List D} (hb:(PS.b ⟨tm,rw',bx⟩ b)=some cs) (hi:cs[i]? = some (.row r 0 n)) (hn:n=n') (hcs:fcL (cs.set i (.row r 0 n')) some=some cs')
  (h:VO C ops K l ⟨tm,rw',(b,some cs')::bx⟩):VO C ops K l ⟨tm,rw',bx⟩:=by
 subst hn;rw [Tg] at hcs;cases hcs
 have e:cs.set i (.row r 0 n)=cs:=by
  apply List.ext_getElem?;intro j;rw [List.getElem?_set];by_cases hj:i=j
  ·subst hj;have hlt:=(List.getElem?_eq_some_iff.1 hi).1;rw [if_pos rfl,if_pos hlt,hi]
  rw [if_neg hj]
 rw [e] at h;refine vEnO ⟨fun M a w hr=>⟨M,?_⟩⟩ h
 have hbb:∀ x,(PS.b ⟨tm,rw',(b,some cs)::bx⟩ x)=(PS.b ⟨tm,rw',bx⟩ x):=fun x=>by
  by_cases hx:b=x
  ·subst hx;rw [hb]; simp [PS.b,Ap]
  simp [PS.b,At hx]
 exact ⟨hr.fr,hr.dfr,hr.sz,hr.tmp,fun x cs hx=>hr.box x cs (by rwa [hbb] at hx),fun x hx=>hr.boxn x (by rwa [hbb] at hx),hr.row,hr.rown,hr.low,hr.inj1,hr.inj2,hr.inj3,hr.nle,hr.fxb,hr.fxr⟩
end
section
theorem Rel.freeze0 {w0:World} {O0:Hd} {n:Nat} {M:Mp} {s:PS} {a:Act} {w:World} (h:Rel w0 O0 n M s a w) {r:Nat} {e:TypeId} {q:Sq} (hF:Gg r=true) (hr:s.r r=some (e,q)) :
  ∃ M',Rel w0 O0 n M' ((s.kill r).setR r none) a w∧(∀ v,VR M (Ow (Fs w0 O0) M) w (.row r 0 q.len) v→VR M' (Ow (Fs w0 O0) M') w (.ro true q) v)∧∀ d v,VR M (Ow (Fs w0 O0) M) w d v→VR M' (Ow (Fs w0 O0) M') w (klS r d) v:=by
 let M':Mp:=⟨M.β,fun y=>if y=r then none else M.γ y⟩
 have hown:∀ k,M'.owned k→M.owned k:=by
  rintro k (⟨b,hb⟩ | ⟨y,c,z,hy⟩)
  ·exact .inl ⟨b,hb⟩
  simp only [M'] at hy;split at hy
  ·cases hy
  exact .inr ⟨y,c,z,hy⟩
 have hA:∀ f b,b<w.heap.size→Ow (Fs w0 O0) M f b→Ow (Fs w0 O0) M' f b∧b<w.heap.size∧w.heap[b]? = w.heap[b]?:=fun f b h1 h2=>⟨⟨fun h3=>h2.1 (hown b h3),h2.2⟩,h1,rfl⟩;have hγ:∀ y z,y≠r→M'.γ y=some z→M.γ y=some z:=fun y z h1 h2=>by simpa [M',h1] using h2
 have hβ:∀ b k,M'.β b=some k→M.β b=some k:=fun _ _ h=>h
 have hbig:∀ x y,BIG≤x→M'.γ x=some y→M.γ x=some y:=fun x y hx h1=>by
  simp only [M'] at h1;split at h1
  ·cases h1
  exact h1
 have hv:∀ v,VR M (Ow (Fs w0 O0) M) w (.row r 0 q.len) v→VR M' (Ow (Fs w0 O0) M') w (.ro true q) v:=by
  intro v h0
  cases h0 with
  | row _ _ _ _ g1 g2=>
   rcases h.row r e q hr with ⟨hg,h0⟩ | ⟨g,cap,cur,hg,hh,hl,hmx,hcs,hc⟩
   ·have:=g2 _ hg;simp only [Tz] at this;obtain ⟨⟨ao0,rfl⟩,_,_⟩:=this;have:=VR.ro (M:=M') (A:=Ow (Fs w0 O0) M') (w:=w) true q ao0 0 0 0 (fun _ _=>undef) (by omega) (by omega) (by omega) (by intro i j d hi; omega) (by intro i j d hi; omega)
    rwa [h0] at this
   have:=g2 _ hg;simp only [Tz] at this;obtain ⟨h1,ao,h2,h3⟩:=this;have h4:=h3 (.inr trivial);rw [Nat.zero_mul] at h4;subst h2;refine .ro true q ao _ g 0 (fun i j=>cur.getD (i*q.sz+j) undef) (by omega) (by omega) (fun _=>⟨h4,(Array.getElem?_eq_some_iff.1 hh).1,?_,?_⟩) (fun i j d hi hd=>?_) (fun i j d hi hd=>(VR.relem (fun d' hd'=>hc i j d' hi hd') hd).elem_any hd hA)
   ·rintro (⟨b,hb⟩ | ⟨y,c,z,hy⟩)
    ·exact h.inj3 _ _ _ _ _ hb hg
    simp only [M'] at hy;split at hy
    ·cases hy
    rename_i hyr; exact hyr (h.inj2 _ _ _ _ _ _ _ hy hg)
   ·exact (h.low _ (.inr ⟨r,_,_,hg⟩)).imp_right (O0.sub _ _)
   have hj:j<q.sz:=by rw [←Sq.elem_len true q i]; exact (List.getElem?_eq_some_iff.1 hd).1
   have hlt:i*q.sz+j<cur.size:=by
    rw [hcs];have h4:(i+1)*q.sz≤cap*q.sz:=Nat.mul_le_mul_right _ (by omega);rw [Nat.add_mul,Nat.one_mul] at h4; omega
   rw [Nat.zero_add,cell_of_row w g _ cur e (0,0) hh];simp [hlt]
 refine ⟨M',⟨h.fr,h.dfr,h.sz,fun x=>?_,fun b cs hb=>?_,fun b hb=>?_,fun y e' p hy=>?_,fun y hy=>?_,fun k hk=>h.low k (hown k hk),h.inj1,fun y y' k c z c' z' h1 h2=>?_,fun b y k c z h1 h2=>?_,h.nle,h.fxb,fun y u u' h1 h2=>?_⟩,hv,fun d v hd=>VR.klS hA hγ hβ hd⟩
 ·have:((s.kill r).setR r none).t x=kl r (s.t x):=PS.t_kill s r x;rw [this]; exact VR.kl hA hγ hβ (h.tmp x)
 ·have hb':(s.kill r).b b=some cs:=hb;rw [PS.b_kill] at hb';obtain ⟨cs0,h0,rfl⟩:=Option.map_eq_some_iff.1 hb';obtain ⟨k,cur,e2,a1,a2,a3,a4⟩:=h.box b cs0 h0;refine ⟨k,cur,e2,a1,a2,by simpa using a3,fun j d hd=>?_⟩;rw [List.getElem?_map] at hd;obtain ⟨d0,h1,rfl⟩:=Option.map_eq_some_iff.1 hd;exact VR.klS hA hγ hβ (a4 j d0 h1)
 ·have hb':(s.kill r).b b=none:=hb;rw [PS.b_kill] at hb';exact h.boxn b (by simpa using hb')
 ·have hy:((s.kill r).setR r none).r y=some (e',p):=hy;rw [PS.r_setR _ _ _ _ hF] at hy;by_cases hyr:r=y
  ·rw [if_pos hyr] at hy; cases hy
  rw [if_neg hyr] at hy;rcases h.row y e' p hy with ⟨h1,h2⟩ | ⟨g,cap,cur,h1,h2,h3,h4,h5,h6⟩
  ·exact .inl ⟨by simp [M',Ne.symm hyr,h1],h2⟩
  exact .inr ⟨g,cap,cur,by simp [M',Ne.symm hyr,h1],h2,h3,h4,h5,fun i j d hi' hd=>(h6 i j d hi' hd).relem_any hd hA hbig⟩
 ·have hy:((s.kill r).setR r none).r y=none:=hy;rw [PS.r_setR _ _ _ _ hF] at hy;by_cases hyr:r=y
  ·simp [M',hyr]
  rw [if_neg hyr] at hy;simpa [M',Ne.symm hyr] using h.rown y hy
 ·simp only [M'] at h1 h2;split at h1 <;> split at h2 <;> first | (cases h1; done) | (cases h2; done) | exact h.inj2 _ _ _ _ _ _ _ h1 h2
 ·simp only [M'] at h2;split at h2
  ·cases h2
  exact h.inj3 _ _ _ _ _ h1 h2
 simp only [M'] at h2;split at h2
 ·cases h2
 exact h.fxr y u u' h1 h2
end
section
variable {C:Cx} {ops:Array Oper} {K:PS→Prop} {l:List Oper} {s s':PS} {TT:List (Nat×Ty)} {tm:List (Nat×D)} {rw':List (Nat×Option (TypeId×Sq))} {bx:List (Nat×Option (List D))}
variable {o:Oper} {rest:List Oper} {rk rids bk bids pids:List Nat}
theorem oMCloX {f:FuncId} {x:Operand} {args:Array Operand} {ts:Array TypeId} {bs:List Nat} {r0 r1:List (TypeId×Sq)} {b0 b1:List (List D)} {d:D} (cs:List Nat) (ds:List D) (hp:MCall C.P f (ds++cs.map fun b=>.ptr b 0) rk bk r0 r1 b0 b1 d) (rids bids pids:List Nat) (hg:o.guard=none) (hop:o.op=.call { callee:=.value x,args:=args,argTypes:=ts })
  (hx:(PS.ev ⟨tm,rw',bx⟩ x)=.clo f bs) (hcs:cs.map (sgm bk bids)=bs) (hin:cs.all (Js bk)=true) (hn:Kf C.n o.dst=true)
  (hchk:mchk rk rids bk bids pids=true) (hf:frB ⟨tm,rw',bx⟩ noB (newP rids pids)=true)
  (hnf:nf ((PS.after ⟨tm,rw',bx⟩ rids pids r1 bids (b1.map fun cs=>cs.map (renS (sgm bk bids) (sgm rk pids)))).put o.dst (ren (sgm bk bids) (sgm rk pids) d))=some s')
  (hr:Ge (PS.r ⟨tm,rw',bx⟩) rids r0) (hb:Ge (PS.b ⟨tm,rw',bx⟩) bids (b0.map fun cs=>cs.map (renS (sgm bk bids) (sgm rk rids)))) (hfit:Aaz rk rids bk bids ⟨tm,rw',bx⟩ args.toList ds) (h:VO C ops K rest s') (hrf:rfB ⟨tm,rw',bx⟩ rids=true:=by rfl):VO C ops K (o::rest) ⟨tm,rw',bx⟩:=
 vOp hg (sMClo hop hx hp hcs hin hn hchk hrf (Ku hf) hr hb hfit (vNf hnf h))
end
section
theorem Rel.drop {w0:World} {O0:Hd} {n:Nat} {M:Mp} {s:PS} {a:Act} {w:World} (h:Rel w0 O0 n M s a w) {r:Nat} {e:TypeId} {q:Sq} (hF:Gg r=true) (hr:s.r r=some (e,q)) :
  ∃ M',Rel w0 O0 n M' (s.setR r none) a w∧(∀ v,VR M (Ow (Fs w0 O0) M) w (.row r 0 q.len) v→VR M' (Ow (Fs w0 O0) M') w (.ro true q) v)∧∀ d v,VR M (Ow (Fs w0 O0) M) w d v→VR M' (Ow (Fs w0 O0) M') w d v:=by
 let M':Mp:=⟨M.β,fun y=>if y=r then none else M.γ y⟩
 have hown:∀ k,M'.owned k→M.owned k:=by
  rintro k (⟨b,hb⟩ | ⟨y,c,z,hy⟩)
  ·exact .inl ⟨b,hb⟩
  simp only [M'] at hy;split at hy
  ·cases hy
  exact .inr ⟨y,c,z,hy⟩
 have hA:∀ f b,b<w.heap.size→Ow (Fs w0 O0) M f b→Ow (Fs w0 O0) M' f b∧b<w.heap.size∧w.heap[b]? = w.heap[b]?:=fun f b h1 h2=>⟨⟨fun h3=>h2.1 (hown b h3),h2.2⟩,h1,rfl⟩;have hγ:∀ y z,y≠r→M'.γ y=some z→M.γ y=some z:=fun y z h1 h2=>by simpa [M',h1] using h2
 have hβ:∀ b k,M'.β b=some k→M.β b=some k:=fun _ _ h=>h
 have hbig:∀ x y,BIG≤x→M'.γ x=some y→M.γ x=some y:=fun x y hx h1=>by
  simp only [M'] at h1;split at h1
  ·cases h1
  exact h1
 have hγ':∀ y z,M'.γ y=some z→M.γ y=some z:=fun y z h1=>by
  simp only [M'] at h1;split at h1
  ·cases h1
  exact h1
 have hv:∀ v,VR M (Ow (Fs w0 O0) M) w (.row r 0 q.len) v→VR M' (Ow (Fs w0 O0) M') w (.ro true q) v:=by
  intro v h0
  cases h0 with
  | row _ _ _ _ g1 g2=>
   rcases h.row r e q hr with ⟨hg,h0⟩ | ⟨g,cap,cur,hg,hh,hl,hmx,hcs,hc⟩
   ·have:=g2 _ hg;simp only [Tz] at this;obtain ⟨⟨ao0,rfl⟩,_,_⟩:=this;have:=VR.ro (M:=M') (A:=Ow (Fs w0 O0) M') (w:=w) true q ao0 0 0 0 (fun _ _=>undef) (by omega) (by omega) (by omega) (by intro i j d hi; omega) (by intro i j d hi; omega)
    rwa [h0] at this
   have:=g2 _ hg;simp only [Tz] at this;obtain ⟨h1,ao,h2,h3⟩:=this;have h4:=h3 (.inr trivial);rw [Nat.zero_mul] at h4;subst h2;refine .ro true q ao _ g 0 (fun i j=>cur.getD (i*q.sz+j) undef) (by omega) (by omega) (fun _=>⟨h4,(Array.getElem?_eq_some_iff.1 hh).1,?_,?_⟩) (fun i j d hi hd=>?_) (fun i j d hi hd=>(VR.relem (fun d' hd'=>hc i j d' hi hd') hd).elem_any hd hA)
   ·rintro (⟨b,hb⟩ | ⟨y,c,z,hy⟩)
    ·exact h.inj3 _ _ _ _ _ hb hg
    simp only [M'] at hy;split at hy
    ·cases hy
    rename_i hyr; exact hyr (h.inj2 _ _ _ _ _ _ _ hy hg)
   ·exact (h.low _ (.inr ⟨r,_,_,hg⟩)).imp_right (O0.sub _ _)
   have hj:j<q.sz:=by rw [←Sq.elem_len true q i]; exact (List.getElem?_eq_some_iff.1 hd).1
   have hlt:i*q.sz+j<cur.size:=by
    rw [hcs];have h4:(i+1)*q.sz≤cap*q.sz:=Nat.mul_le_mul_right _ (by omega);rw [Nat.add_mul,Nat.one_mul] at h4; omega
   rw [Nat.zero_add,cell_of_row w g _ cur e (0,0) hh];simp [hlt]
 refine ⟨M',⟨h.fr,h.dfr,h.sz,fun x=>(h.tmp x).mono hA hγ' hβ,fun b cs hb=>?_,h.boxn,fun y e' p hy=>?_,fun y hy=>?_,fun k hk=>h.low k (hown k hk),h.inj1,fun y y' k c z c' z' h1 h2=>?_,fun b y k c z h1 h2=>?_,h.nle,h.fxb,fun y u u' h1 h2=>?_⟩,hv,fun d v hd=>hd.mono hA hγ' hβ⟩
 ·obtain ⟨k,cur,e2,a1,a2,a3,a4⟩:=h.box b cs hb;exact ⟨k,cur,e2,a1,a2,a3,fun j d hd=>(a4 j d hd).mono hA hγ' hβ⟩
 ·have hy:(s.setR r none).r y=some (e',p):=hy;rw [PS.r_setR _ _ _ _ hF] at hy;by_cases hyr:r=y
  ·rw [if_pos hyr] at hy; cases hy
  rw [if_neg hyr] at hy;rcases h.row y e' p hy with ⟨h1,h2⟩ | ⟨g,cap,cur,h1,h2,h3,h4,h5,h6⟩
  ·exact .inl ⟨by simp [M',Ne.symm hyr,h1],h2⟩
  exact .inr ⟨g,cap,cur,by simp [M',Ne.symm hyr,h1],h2,h3,h4,h5,fun i j d hi' hd=>(h6 i j d hi' hd).relem_any hd hA hbig⟩
 ·have hy:(s.setR r none).r y=none:=hy;rw [PS.r_setR _ _ _ _ hF] at hy;by_cases hyr:r=y
  ·simp [M',hyr]
  rw [if_neg hyr] at hy;simpa [M',Ne.symm hyr] using h.rown y hy
 ·simp only [M'] at h1 h2;split at h1 <;> split at h2 <;> first | (cases h1; done) | (cases h2; done) | exact h.inj2 _ _ _ _ _ _ _ h1 h2
 ·simp only [M'] at h2;split at h2
  ·cases h2
  exact h.inj3 _ _ _ _ _ h1 h2
 simp only [M'] at h2;split at h2
 ·cases h2
 exact h.fxr y u u' h1 h2
end
section
variable {C:Cx} {ops:Array Oper} {K:PS→Prop} {o:Oper} {rest:List Oper} {s s':PS} {TT:List (Nat×Ty)} {tm:List (Nat×D)} {rw':List (Nat×Option (TypeId×Sq))} {bx:List (Nat×Option (List D))} {cr B:List Nat} {j:Nat}
end
end
section
open Go.RowKit
def Du (N:Nat) (p_0:Pin) (at_1:Int) (owner_2:List Int) (l37:List Int) (k38:Int) (k:Int→Option (Bool×(List Int))):Nat→(Int×Int)→Option (Bool×(List Int))
 | 0,_=>none
 | n+1,(n53,i54)=>
  cnd (decide (i54<at_1)) (
   grd (0≤i54∧i54<(owner_2.length:Int)) <|
   grd (0≤i54∧i54<(l37.length:Int)) <|
   grd (0≤k38∧k38<(([(p_0.g.bars.getD ((at_1).toNat) (0,0)).1,(p_0.g.bars.getD ((at_1).toNat) (0,0)).2]:List Int).length:Int)) <|
   cnd ((l37.getD ((i54).toNat) 0)==(([(p_0.g.bars.getD ((at_1).toNat) (0,0)).1,(p_0.g.bars.getD ((at_1).toNat) (0,0)).2]:List Int).getD ((k38).toNat) 0)) (
    grd (Bc (n53+(1:Int))) <|
    grd (Bc (i54+(1:Int))) <|
    Du N p_0 at_1 owner_2 l37 k38 k n ((n53+(1:Int)),(i54+(1:Int)))) (
    grd (Bc (i54+(1:Int))) <|
    Du N p_0 at_1 owner_2 l37 k38 k n (n53,(i54+(1:Int))))) (
   k n53)
def Bm (N:Nat) (p_0:Pin) (at_1:Int) (owner_2:List Int) (rec_99:Pin→Int→(List Int)→Option (Bool×(List Int))) (k:(List Int)→Option (Bool×(List Int))):Nat→((List Int)×Int)→Option (Bool×(List Int))
 | 0,_=>none
 | n+1,(l37,k38)=>
  cnd (decide (k38<(2:Int))) (
   Du N p_0 at_1 owner_2 l37 k38 (fun (n49 : Int) =>
      cnd (decide (n49<(2:Int))) (
       grd (0≤k38∧k38<(([(p_0.g.bars.getD ((at_1).toNat) (0,0)).1,(p_0.g.bars.getD ((at_1).toNat) (0,0)).2]:List Int).length:Int)) <|
       (Fe N p_0.ground (([(p_0.g.bars.getD ((at_1).toNat) (0,0)).1,(p_0.g.bars.getD ((at_1).toNat) (0,0)).2]:List Int).getD ((k38).toNat) 0)).bind fun v50=>
       cnd (!v50) (
        grd (0≤at_1∧at_1<(owner_2.length:Int)) <|
        grd (0≤at_1∧at_1<(l37.length:Int)) <|
        grd (Bc (at_1+(1:Int))) <|
        grd (owner_2.length=(l37.set ((at_1).toNat) (([(p_0.g.bars.getD ((at_1).toNat) (0,0)).1,(p_0.g.bars.getD ((at_1).toNat) (0,0)).2]:List Int).getD ((k38).toNat) 0)).length) <|
        (rec_99 (⟨⟨p_0.g.n,p_0.g.bars⟩,p_0.ground⟩:Pin) (at_1+(1:Int)) (l37.set ((at_1).toNat) (([(p_0.g.bars.getD ((at_1).toNat) (0,0)).1,(p_0.g.bars.getD ((at_1).toNat) (0,0)).2]:List Int).getD ((k38).toNat) 0))).bind fun v51=>
        cnd v51.1 (
         some (true,v51.2)) (
         grd (Bc (k38+(1:Int))) <|
         Bm N p_0 at_1 owner_2 rec_99 k n (v51.2,(k38+(1:Int))))) (
        grd (Bc (k38+(1:Int))) <|
        Bm N p_0 at_1 owner_2 rec_99 k n (l37,(k38+(1:Int))))) (
       grd (Bc (k38+(1:Int))) <|
       Bm N p_0 at_1 owner_2 rec_99 k n (l37,(k38+(1:Int))))) N ((0:Int),(0:Int))) (
   k l37)
def Mi (N:Nat) (rec_99:Pin→Int→(List Int)→Option (Bool×(List Int))) (p_0:Pin) (at_1:Int) (owner_2:List Int):Option (Bool×(List Int)):=
 cnd (at_1==(p_0.g.bars.length:Int)) (
  some (true,owner_2)) (
  grd (0≤at_1∧at_1<(p_0.g.bars.length:Int)) <|
  Bm N p_0 at_1 owner_2 rec_99 (fun (l27 : List Int) =>
     some (false,l27)) N (owner_2,(0:Int)))
def Je (N:Nat):Nat→Pin→Int→(List Int)→Option (Bool×(List Int))
 | 0,_,_,_=>none
 | d+1,p_0,at_1,owner_2=>Mi N (Je N d) p_0 at_1 owner_2
def Tl (N:Nat) (p_0:Pin) (at_1:Int) (owner_2:List Int):Option (Bool×(List Int)):=Je N N p_0 at_1 owner_2
theorem Aay (N:Nat) (rec_99:Pin→Int→(List Int)→Option (Bool×(List Int))) (hrec:∀ (p_0:Pin) (at_1:Int) (owner_2:List Int) (r:Bool×(List Int)),rec_99 p_0 at_1 owner_2=some r→MCall Try.prog 30 [pD p_0,.int at_1,.row 1000020 0 owner_2.length] [1000020] [] [(3,.ints owner_2)] [(3,.ints r.2)] [] [] (.bool r.1)) (p_0:Pin) (at_1:Int) (owner_2:List Int) (r:Bool×(List Int)) (h:Mi N rec_99 p_0 at_1 owner_2=some r):MCall Try.prog 30 [pD p_0,.int at_1,.row 1000020 0 owner_2.length] [1000020] [] [(3,.ints owner_2)] [(3,.ints r.2)] [] [] (.bool r.1):=by
 unfold Mi at h;refine Gd (TT:=TT) tt Try.func30 O O Try.ntmps30 (congrArg Array.toList Try.results30) O O O O O fun w0 O0=>(Ai (Ab (Lh O O O O O O O O O (Aa O (Ah (Ai (Ai (Ab ?_))))))));iterate 6 refine Aa O ?_
 refine Ah (Au O (fun hb1=>?_) (fun hb1=>?_))
 ·replace h:=Ak hb1 h;refine Ai (Ab (Aa O (Ah (Az ?_))));show ∃ _,_;cases h;exact ⟨[1000020],O,⟨O,Y⟩,Y,O⟩
 replace h:=Al hb1 h;refine As (Ai (Bi 14 [] [0,1,3,0,15,31,63,0,128,384,0,1920,3968,8064,16383,32767] (by kernel_rfl) (by kernel_rfl) (by kernel_rfl) (by kernel_rfl) (by kernel_rfl) O (by rfl) ?_));iterate 4 refine Br tt O (Ad O) O O O O O Y ?_
 obtain ⟨hg2,h⟩:=Ac h;refine Br tt O (Ad O) O O O O O hg2 ?_;iterate 6 refine Br tt O (Ad O) O O O O O Y ?_
 refine Br tt O (Ad O) O O O O O hg2 ?_;iterate 2 refine Br tt O (Ad O) O O O O O Y ?_
 refine Pm ?_;show VO _ _ _ _ _;refine Ep tt O O O O O O O O O O O (Aa O (Ah (Ai (Ai (Ab (Aa O (Ah (Cr (F:=fun k=>Bm N p_0 at_1 owner_2 rec_99 k) h (α:=List Int) (J:=fun (l27:List Int)=>(⟨[],[(1000020,some (3,.ints l27))],[]⟩:PS)) ?_ ?_))))))))
 ·rintro l27 h;show VC _ _ _ (⟨[],[(1000020,some (3,.ints l27))],[]⟩:PS);refine Ai (Ab (Aa O (Ah (Az ?_))));show ∃ _,_;cases h;exact ⟨[1000020],O,⟨O,Y⟩,Y,O⟩
 intro k h;refine Aq (Bd (α:=(List Int)×Int) (fun | (l37,k38)=>(⟨[(1,.int at_1),(2,.row 1000020 0 owner_2.length),(3,.ptr 3 0),(7,.row 31 0 (([(p_0.g.bars.getD ((at_1).toNat) (0,0)).1,(p_0.g.bars.getD ((at_1).toNat) (0,0)).2]:List Int).length)),(8,.int k38)],[(1000020,some (3,.ints l37)),(31,some (3,.ints ([(p_0.g.bars.getD ((at_1).toNat) (0,0)).1,(p_0.g.bars.getD ((at_1).toNat) (0,0)).2]:List Int)))],[(3,some [.int p_0.g.n,.ro false (.pairs p_0.g.bars),.ro false (.ints p_0.ground)])]⟩:PS)) (Bm N p_0 at_1 owner_2 rec_99 k) h (En.of ⟨rfl,rfl,rfl,rfl,rfl,Y⟩ ⟨rfl,rfl,Y⟩ ⟨rfl,Y⟩) (fun _=>rfl) ?_);rintro n ⟨l37,k38⟩ h;rw [Bm] at h;show VC _ _ _ (⟨[(1,.int at_1),(2,.row 1000020 0 owner_2.length),(3,.ptr 3 0),(7,.row 31 0 (([(p_0.g.bars.getD ((at_1).toNat) (0,0)).1,(p_0.g.bars.getD ((at_1).toNat) (0,0)).2]:List Int).length)),(8,.int k38)],[(1000020,some (3,.ints l37)),(31,some (3,.ints ([(p_0.g.bars.getD ((at_1).toNat) (0,0)).1,(p_0.g.bars.getD ((at_1).toNat) (0,0)).2]:List Int)))],[(3,some [.int p_0.g.n,.ro false (.pairs p_0.g.bars),.ro false (.ints p_0.ground)])]⟩:PS);refine Ai (Ai (Ab (Aa O (Aa O (Ah (Au O (fun hb3=>?_) (fun hb3=>?_)))))))
 ·replace h:=Ak hb3 h;refine As (Ai (Aq (Ai (Ab (Aa O (Ah (Ai (Ai (Ab ?_)))))))));refine Aa O (Ah (Cr (F:=fun k=>Du N p_0 at_1 owner_2 l37 k38 k) h (α:=Int) (J:=fun (n49:Int)=>(⟨[(1,.int at_1),(2,.row 1000020 0 owner_2.length),(3,.ptr 3 0),(7,.row 31 0 (([(p_0.g.bars.getD ((at_1).toNat) (0,0)).1,(p_0.g.bars.getD ((at_1).toNat) (0,0)).2]:List Int).length)),(8,.int k38),(9,.int n49)],[(1000020,some (3,.ints l37)),(31,some (3,.ints ([(p_0.g.bars.getD ((at_1).toNat) (0,0)).1,(p_0.g.bars.getD ((at_1).toNat) (0,0)).2]:List Int)))],[(3,some [.int p_0.g.n,.ro false (.pairs p_0.g.bars),.ro false (.ints p_0.ground)])]⟩:PS)) ?_ ?_))
  ·rintro n49 h;show VC _ _ _ (⟨[(1,.int at_1),(2,.row 1000020 0 owner_2.length),(3,.ptr 3 0),(7,.row 31 0 (([(p_0.g.bars.getD ((at_1).toNat) (0,0)).1,(p_0.g.bars.getD ((at_1).toNat) (0,0)).2]:List Int).length)),(8,.int k38),(9,.int n49)],[(1000020,some (3,.ints l37)),(31,some (3,.ints ([(p_0.g.bars.getD ((at_1).toNat) (0,0)).1,(p_0.g.bars.getD ((at_1).toNat) (0,0)).2]:List Int)))],[(3,some [.int p_0.g.n,.ro false (.pairs p_0.g.bars),.ro false (.ints p_0.ground)])]⟩:PS);refine Ai (Bs (by kernel_rfl) (by kernel_rfl) ?_);iterate 3 refine Ax tt O (Ad O) O O O Y ?_
   refine Dj O O O (fun hb4=>?_) (fun hb4=>?_)
   ·replace h:=Ak hb4 h;iterate 4 refine Ax tt O (Av O O O O hb4) O O O Y ?_
    obtain ⟨hg5,h⟩:=Ac h;iterate 2 refine Ax tt O (Av O O O O hb4) O O O hg5 ?_
    obtain ⟨v50,hc6,h⟩:=Ag h;refine Hp (Eu N p_0.ground (([(p_0.g.bars.getD ((at_1).toNat) (0,0)).1,(p_0.g.bars.getD ((at_1).toNat) (0,0)).2]:List Int).getD ((k38).toNat) 0) v50 hc6) O (Av O O O O hb4) O O O O O O ⟨O,O,Y⟩ (Ax tt O (Av O O O O hb4) O O O Y (Ay O (Ad O) O O O hb4 O (Hq (Au O (fun hb7=>?_) (fun hb7=>?_)))))
    ·replace h:=Ak hb7 h;refine Ai (Ab ?_);iterate 4 refine Aa O ?_
     refine Ae tt O hg5 (Ae tt O hg5 ?_);obtain ⟨hg8,h⟩:=Ac h;refine Ae tt O hg8 ?_;obtain ⟨hg9,h⟩:=Ac h;refine Ar tt O O O O O O O O O O ⟨_,_,O,hg9.1,hg9.2⟩ ⟨hg9,Y⟩ (Ah (Ai (Ab (Aa O (Aa O ?_)))));obtain ⟨hg10,h⟩:=Ac h;refine Ae tt O hg10 (Aa O ?_);obtain ⟨hg11,h⟩:=Ac h;refine oRowT 74 1000020 hg11 O ?_;obtain ⟨v51,hc12,h⟩:=Ag h;refine Fv (hrec (⟨⟨p_0.g.n,p_0.g.bars⟩,p_0.ground⟩:Pin) (at_1+(1:Int)) (l37.set ((at_1).toNat) (([(p_0.g.bars.getD ((at_1).toNat) (0,0)).1,(p_0.g.bars.getD ((at_1).toNat) (0,0)).2]:List Int).getD ((k38).toNat) 0)) v51 hc12) [1000020] [] [1000020] O O O O O O ⟨O,Y⟩ trivial ⟨⟨⟨O,O⟩,.inl O,.inl O,Y⟩,⟨O,O⟩,⟨O,O⟩,Y⟩ (Ah (Au O (fun hb13=>?_) (fun hb13=>?_)))
     ·replace h:=Ak hb13 h;refine Ai (Ab (Aa O (Ah (Az ?_))));show ∃ _,_;cases h;exact ⟨[1000020],O,⟨O,Y⟩,Y,O⟩
     replace h:=Al hb13 h;refine As (Ab (Aa O ?_));obtain ⟨hg14,h⟩:=Ac h;refine Ae tt O hg14 (Aa O (Ah ?_));show ∃ _,_;exact ⟨(v51.2,(k38+(1:Int))),(En.of ⟨O,O,O,O,O,Y⟩ ⟨O,O,Y⟩ ⟨O,Y⟩),h⟩
    replace h:=Al hb7 h;refine As (Ab (Aa O ?_));obtain ⟨hg15,h⟩:=Ac h;refine Ae tt O hg15 (Aa O (Ah ?_));show ∃ _,_;exact ⟨(l37,(k38+(1:Int))),(En.of ⟨O,O,O,O,O,Y⟩ ⟨O,O,Y⟩ ⟨O,Y⟩),h⟩
   replace h:=Al hb4 h;iterate 8 refine cNoT O O O O hb4 O O ?_
   refine Ct O (Ad O) O O O hb4 O (Hq (Gf O O (As (Ab (Aa O ?_)))));obtain ⟨hg16,h⟩:=Ac h;refine Ae tt O hg16 (Aa O (Ah ?_));show ∃ _,_;exact ⟨(l37,(k38+(1:Int))),(En.of ⟨O,O,O,O,O,Y⟩ ⟨O,O,Y⟩ ⟨O,Y⟩),h⟩
  intro k h;refine Aq (Bd (α:=Int×Int) (fun | (n53,i54)=>(⟨[(1,.int at_1),(2,.row 1000020 0 owner_2.length),(3,.ptr 3 0),(7,.row 31 0 (([(p_0.g.bars.getD ((at_1).toNat) (0,0)).1,(p_0.g.bars.getD ((at_1).toNat) (0,0)).2]:List Int).length)),(8,.int k38),(9,.int n53),(10,.int i54)],[(1000020,some (3,.ints l37)),(31,some (3,.ints ([(p_0.g.bars.getD ((at_1).toNat) (0,0)).1,(p_0.g.bars.getD ((at_1).toNat) (0,0)).2]:List Int)))],[(3,some [.int p_0.g.n,.ro false (.pairs p_0.g.bars),.ro false (.ints p_0.ground)])]⟩:PS)) (Du N p_0 at_1 owner_2 l37 k38 k) h (En.of ⟨rfl,rfl,rfl,rfl,rfl,rfl,rfl,Y⟩ ⟨rfl,rfl,Y⟩ ⟨rfl,Y⟩) (fun _=>rfl) ?_);rintro n ⟨n53,i54⟩ h;rw [Du] at h;show VC _ _ _ (⟨[(1,.int at_1),(2,.row 1000020 0 owner_2.length),(3,.ptr 3 0),(7,.row 31 0 (([(p_0.g.bars.getD ((at_1).toNat) (0,0)).1,(p_0.g.bars.getD ((at_1).toNat) (0,0)).2]:List Int).length)),(8,.int k38),(9,.int n53),(10,.int i54)],[(1000020,some (3,.ints l37)),(31,some (3,.ints ([(p_0.g.bars.getD ((at_1).toNat) (0,0)).1,(p_0.g.bars.getD ((at_1).toNat) (0,0)).2]:List Int)))],[(3,some [.int p_0.g.n,.ro false (.pairs p_0.g.bars),.ro false (.ints p_0.ground)])]⟩:PS);refine Ai (Ai (Ab (Aa O (Aa O (Aa O (Ah (Au O (fun hb17=>?_) (fun hb17=>?_))))))))
  ·replace h:=Ak hb17 h;refine As (Ai (Aq (Ai (Bs (by kernel_rfl) (by kernel_rfl) ?_))));iterate 2 refine Ax tt O (Ad O) O O O Y ?_
   obtain ⟨hg18,h⟩:=Ac h;refine Ax tt O (Ad O) O O O hg18 ?_;obtain ⟨hg19,h⟩:=Ac h;refine Ax tt O (Ad O) O O O hg19 ?_;iterate 2 refine Ax tt O (Ad O) O O O Y ?_
   obtain ⟨hg20,h⟩:=Ac h;iterate 2 refine Ax tt O (Ad O) O O O hg20 ?_
   refine Ax tt O (Ad O) O O O Y (Hq (Au O (fun hb21=>?_) (fun hb21=>?_)))
   ·replace h:=Ak hb21 h;refine Ab (Aa O ?_);obtain ⟨hg22,h⟩:=Ac h;refine Ae tt O hg22 (Aa O (Ah (Ab (Aa O ?_))));obtain ⟨hg23,h⟩:=Ac h;refine Ae tt O hg23 (Aa O (Ah ?_));show ∃ _,_;exact ⟨((n53+(1:Int)),(i54+(1:Int))),(En.of ⟨O,O,O,O,O,O,O,Y⟩ ⟨O,O,Y⟩ ⟨O,Y⟩),h⟩
   replace h:=Al hb21 h;refine As (Ab (Aa O ?_));obtain ⟨hg24,h⟩:=Ac h;refine Ae tt O hg24 (Aa O (Ah ?_));show ∃ _,_;exact ⟨(n53,(i54+(1:Int))),(En.of ⟨O,O,O,O,O,O,O,Y⟩ ⟨O,O,Y⟩ ⟨O,Y⟩),h⟩
  replace h:=Al hb17 h;refine Bn ?_;show ∃ _,_;exact ⟨n53,(En.of ⟨O,O,O,O,O,O,Y⟩ ⟨O,O,Y⟩ ⟨O,Y⟩),h⟩
 replace h:=Al hb3 h;refine Bn ?_;show ∃ _,_;exact ⟨l37,(En.of trivial ⟨O,Y⟩ trivial),h⟩
theorem Tf (N:Nat):∀ (d:Nat) (p_0:Pin) (at_1:Int) (owner_2:List Int) (r:Bool×(List Int)),Je N d p_0 at_1 owner_2=some r→MCall Try.prog 30 [pD p_0,.int at_1,.row 1000020 0 owner_2.length] [1000020] [] [(3,.ints owner_2)] [(3,.ints r.2)] [] [] (.bool r.1)
 | 0,_,_,_,r,h=>by cases h
 | d+1,p_0,at_1,owner_2,r,h=>Aay N _ (fun p_0 at_1 owner_2 r h=>Tf N d p_0 at_1 owner_2 r h) p_0 at_1 owner_2 r h
theorem S_l21Assign_w (N:Nat) (p_0:Pin) (at_1:Int) (owner_2:List Int) (r:Bool×(List Int)) (h:Tl N p_0 at_1 owner_2=some r):MCall Try.prog 30 [pD p_0,.int at_1,.row 1000020 0 owner_2.length] [1000020] [] [(3,.ints owner_2)] [(3,.ints r.2)] [] [] (.bool r.1):=Tf N N p_0 at_1 owner_2 r h
def Dy (N:Nat) (p_0:Pin):Option ((List Int)×Bool):=
 grd (0≤(p_0.g.bars.length:Int)∧(p_0.g.bars.length:Int)≤4294967296) <|
 (Bo N p_0).bind fun v1=>
 cnd (!v1) (
  some (([]:List Int),false)) (
  (Tl N (⟨⟨p_0.g.n,p_0.g.bars⟩,p_0.ground⟩:Pin) (0:Int) (List.replicate (((p_0.g.bars.length:Int)).toNat) (0:Int))).bind fun v2=>
  cnd (!v2.1) (
   some (([]:List Int),false)) (
   grd ((List.replicate (((p_0.g.bars.length:Int)).toNat) (0:Int)).length=v2.2.length) <|
   some (v2.2,true)))
theorem Lq (N:Nat) (p_0:Pin) (r:(List Int)×Bool) (h:Dy N p_0=some r):PCall Try.prog 7 [pD p_0] [(3,.ints r.1)] (.tup [.row 0 0 r.1.length,.bool r.2]):=by
 unfold Dy at h;refine Aj (TT:=TT) tt Try.func7 O O Try.ntmps7 (congrArg Array.toList Try.results7) O O fun w0=>(Ai (Ab (Lh O O O O O O O O O (Aa O (Aa O (Ah (Ai (Ab ?_))))))));iterate 4 refine Aa O ?_
 obtain ⟨hg1,h⟩:=Ac h;refine Aa2 tt O O O O O O O O O O O hg1 (Aa O (Ah (Ai (Ai (Ab (Aa O ?_))))));obtain ⟨v1,hc2,h⟩:=Ag h;refine Ba (Pb N p_0 v1 hc2) O O O O O O O O ⟨⟨O,O,O,Y⟩,Y⟩ (Aa O (Aa O (Bu O O O (fun hb3=>?_) (fun hb3=>?_))))
 ·replace h:=Ak hb3 h;iterate 4 refine Lv O O O O hb3 O O ?_
  refine Cf O O O O O hb3 O (Ah (Ce O O (Ai (Ab (Gt tt (Ad O) O O O O (Aa O (Aa O (Ah (Lc 2 9001 3 (.ints []) O O O O ?_)))))))));refine Az ?_;show ∃ _,_;cases h;exact ⟨[9001],_,O,⟨O,Y⟩,O,.eq O,O⟩
 replace h:=Al hb3 h;iterate 2 refine Bt tt O O O O O hb3 O O O Y ?_
 obtain ⟨v2,hc4,h⟩:=Ag h;refine oMCallG (S_l21Assign_w N (⟨⟨p_0.g.n,p_0.g.bars⟩,p_0.ground⟩:Pin) (0:Int) (List.replicate (((p_0.g.bars.length:Int)).toNat) (0:Int)) v2 hc4) [9] [] [9] O O O O hb3 O O O O O ⟨O,Y⟩ trivial ⟨⟨⟨O,O⟩,.inl O,.inl O,Y⟩,⟨O,O⟩,⟨O,O⟩,Y⟩ (Bt tt O O O O O hb3 O O O Y (Bp O O O O O hb3 O (Ah (Au O (fun hb5=>?_) (fun hb5=>?_)))))
 ·replace h:=Ak hb5 h;refine Ai (Ab (Gt tt (Ad O) O O O O (Aa O (Aa O (Ah (Lc 2 9001 3 (.ints []) O O O O (Az ?_)))))));show ∃ _,_;cases h;exact ⟨[9001],_,O,⟨O,Y⟩,O,.eq O,O⟩
 replace h:=Al hb5 h;refine As (Ai (Ab (Aa O (Aa O (Aa O (Ah ?_))))));show VC ..;obtain ⟨hg6,h⟩:=Ac h;refine Az ?_;show ∃ _,_;cases h;exact ⟨[9],_,O,⟨O,Y⟩,O,(.eq (by simp only [hg6]; rfl)),O⟩
def Cc (N:Nat) (e_0:Int) (p_2:Pin) (rec_99:Int→(List Int)→Pin→(List Int)→Option (Bool×(List Int)×(List Int))) (k:((List Int)×(List Int)×Nat)→Option (Bool×(List Int)×(List Int))):Nat→((List Int)×(List Int)×Int×Nat)→Option (Bool×(List Int)×(List Int))
 | 0,_=>none
 | n+1,(l17,l18,x19,n20)=>
  cnd (decide (x19<(([(p_2.g.bars.getD ((e_0).toNat) (0,0)).1,(p_2.g.bars.getD ((e_0).toNat) (0,0)).2]:List Int).length:Int))) (
   grd (0≤x19∧x19<(([(p_2.g.bars.getD ((e_0).toNat) (0,0)).1,(p_2.g.bars.getD ((e_0).toNat) (0,0)).2]:List Int).length:Int)) <|
   (Co N p_2 (([(p_2.g.bars.getD ((e_0).toNat) (0,0)).1,(p_2.g.bars.getD ((e_0).toNat) (0,0)).2]:List Int).getD ((x19).toNat) 0)).bind fun v23=>
   cnd (!v23) (
    grd (Bc (x19+(1:Int))) <|
    Cc N e_0 p_2 rec_99 k n (l17,l18,(x19+(1:Int)),n20)) (
    grd (0≤(([(p_2.g.bars.getD ((e_0).toNat) (0,0)).1,(p_2.g.bars.getD ((e_0).toNat) (0,0)).2]:List Int).getD ((x19).toNat) 0)∧(([(p_2.g.bars.getD ((e_0).toNat) (0,0)).1,(p_2.g.bars.getD ((e_0).toNat) (0,0)).2]:List Int).getD ((x19).toNat) 0)<(n20:Int)) <|
    grd (0≤(([(p_2.g.bars.getD ((e_0).toNat) (0,0)).1,(p_2.g.bars.getD ((e_0).toNat) (0,0)).2]:List Int).getD ((x19).toNat) 0)∧(([(p_2.g.bars.getD ((e_0).toNat) (0,0)).1,(p_2.g.bars.getD ((e_0).toNat) (0,0)).2]:List Int).getD ((x19).toNat) 0)<(l18.length:Int)) <|
    cnd ((l18.getD (((([(p_2.g.bars.getD ((e_0).toNat) (0,0)).1,(p_2.g.bars.getD ((e_0).toNat) (0,0)).2]:List Int).getD ((x19).toNat) 0)).toNat) 0)==(2:Int)) (
     grd (Bc (x19+(1:Int))) <|
     Cc N e_0 p_2 rec_99 k n (l17,l18,(x19+(1:Int)),n20)) (
     grd (Bc ((l18.getD (((([(p_2.g.bars.getD ((e_0).toNat) (0,0)).1,(p_2.g.bars.getD ((e_0).toNat) (0,0)).2]:List Int).getD ((x19).toNat) 0)).toNat) 0)+(1:Int))) <|
     grd (0≤e_0∧e_0<(l17.length:Int)) <|
     grd (Bc (e_0+(1:Int))) <|
     grd (l17.length=(l17.set ((e_0).toNat) (([(p_2.g.bars.getD ((e_0).toNat) (0,0)).1,(p_2.g.bars.getD ((e_0).toNat) (0,0)).2]:List Int).getD ((x19).toNat) 0)).length) <|
     grd (n20=(l18.set (((([(p_2.g.bars.getD ((e_0).toNat) (0,0)).1,(p_2.g.bars.getD ((e_0).toNat) (0,0)).2]:List Int).getD ((x19).toNat) 0)).toNat) ((l18.getD (((([(p_2.g.bars.getD ((e_0).toNat) (0,0)).1,(p_2.g.bars.getD ((e_0).toNat) (0,0)).2]:List Int).getD ((x19).toNat) 0)).toNat) 0)+(1:Int))).length) <|
     (rec_99 (e_0+(1:Int)) (l17.set ((e_0).toNat) (([(p_2.g.bars.getD ((e_0).toNat) (0,0)).1,(p_2.g.bars.getD ((e_0).toNat) (0,0)).2]:List Int).getD ((x19).toNat) 0)) p_2 (l18.set (((([(p_2.g.bars.getD ((e_0).toNat) (0,0)).1,(p_2.g.bars.getD ((e_0).toNat) (0,0)).2]:List Int).getD ((x19).toNat) 0)).toNat) ((l18.getD (((([(p_2.g.bars.getD ((e_0).toNat) (0,0)).1,(p_2.g.bars.getD ((e_0).toNat) (0,0)).2]:List Int).getD ((x19).toNat) 0)).toNat) 0)+(1:Int)))).bind fun v24=>
     cnd v24.1 (
      some (true,v24.2.1,v24.2.2)) (
      grd (0≤(([(p_2.g.bars.getD ((e_0).toNat) (0,0)).1,(p_2.g.bars.getD ((e_0).toNat) (0,0)).2]:List Int).getD ((x19).toNat) 0)∧(([(p_2.g.bars.getD ((e_0).toNat) (0,0)).1,(p_2.g.bars.getD ((e_0).toNat) (0,0)).2]:List Int).getD ((x19).toNat) 0)<(v24.2.2.length:Int)) <|
      grd (Bc ((v24.2.2.getD (((([(p_2.g.bars.getD ((e_0).toNat) (0,0)).1,(p_2.g.bars.getD ((e_0).toNat) (0,0)).2]:List Int).getD ((x19).toNat) 0)).toNat) 0)-(1:Int))) <|
      grd (Bc (x19+(1:Int))) <|
      Cc N e_0 p_2 rec_99 k n (v24.2.1,(v24.2.2.set (((([(p_2.g.bars.getD ((e_0).toNat) (0,0)).1,(p_2.g.bars.getD ((e_0).toNat) (0,0)).2]:List Int).getD ((x19).toNat) 0)).toNat) ((v24.2.2.getD (((([(p_2.g.bars.getD ((e_0).toNat) (0,0)).1,(p_2.g.bars.getD ((e_0).toNat) (0,0)).2]:List Int).getD ((x19).toNat) 0)).toNat) 0)-(1:Int))),(x19+(1:Int)),v24.2.2.length))))) (
   k (l17,l18,n20))
def Li (N:Nat) (rec_99:Int→(List Int)→Pin→(List Int)→Option (Bool×(List Int)×(List Int))) (e_0:Int) (out_1:List Int) (p_2:Pin) (owned_3:List Int):Option (Bool×(List Int)×(List Int)):=
 cnd (e_0==(out_1.length:Int)) (
  some (true,out_1,owned_3)) (
  grd (0≤e_0∧e_0<(p_2.g.bars.length:Int)) <|
  Cc N e_0 p_2 rec_99 (fun (x:(List Int)×(List Int)×Nat)=>
    match x with
    | (l11,l12,n13)=>
     grd (n13=l12.length) <|
     some (false,l11,l12)) N (out_1,owned_3,(0:Int),owned_3.length))
def Hl (N:Nat):Nat→Int→(List Int)→Pin→(List Int)→Option (Bool×(List Int)×(List Int))
 | 0,_,_,_,_=>none
 | d+1,e_0,out_1,p_2,owned_3=>Li N (Hl N d) e_0 out_1 p_2 owned_3
def Se (N:Nat) (e_0:Int) (out_1:List Int) (p_2:Pin) (owned_3:List Int):Option (Bool×(List Int)×(List Int)):=Hl N N e_0 out_1 p_2 owned_3
theorem Zl (N:Nat) (rec_99:Int→(List Int)→Pin→(List Int)→Option (Bool×(List Int)×(List Int))) (hrec:∀ (e_0:Int) (out_1:List Int) (p_2:Pin) (owned_3:List Int) (r:Bool×(List Int)×(List Int)),rec_99 e_0 out_1 p_2 owned_3=some r→MCall Try.prog 28 [.int e_0,.ptr 1000001 0,.ptr 1000002 0,.ptr 1000003 0,.ptr 1000004 0] [900010,900030] [1000001,1000002,1000003,1000004] [(3,.ints out_1),(3,.ints owned_3)] [(3,.ints r.2.1),(3,.ints r.2.2)] [[.row 900010 0 out_1.length],[.int p_2.g.n,.ro false (.pairs p_2.g.bars),.ro false (.ints p_2.ground)],[.row 900030 0 owned_3.length],[.clo 28 [1000001,1000002,1000003,1000004]]] [[.row 900010 0 r.2.1.length],[.int p_2.g.n,.ro false (.pairs p_2.g.bars),.ro false (.ints p_2.ground)],[.row 900030 0 r.2.2.length],[.clo 28 [1000001,1000002,1000003,1000004]]] (.bool r.1)) (e_0:Int) (out_1:List Int) (p_2:Pin) (owned_3:List Int) (r:Bool×(List Int)×(List Int)) (h:Li N rec_99 e_0 out_1 p_2 owned_3=some r):MCall Try.prog 28 [.int e_0,.ptr 1000001 0,.ptr 1000002 0,.ptr 1000003 0,.ptr 1000004 0] [900010,900030] [1000001,1000002,1000003,1000004] [(3,.ints out_1),(3,.ints owned_3)] [(3,.ints r.2.1),(3,.ints r.2.2)] [[.row 900010 0 out_1.length],[.int p_2.g.n,.ro false (.pairs p_2.g.bars),.ro false (.ints p_2.ground)],[.row 900030 0 owned_3.length],[.clo 28 [1000001,1000002,1000003,1000004]]] [[.row 900010 0 r.2.1.length],[.int p_2.g.n,.ro false (.pairs p_2.g.bars),.ro false (.ints p_2.ground)],[.row 900030 0 r.2.2.length],[.clo 28 [1000001,1000002,1000003,1000004]]] (.bool r.1):=by
 unfold Li at h;refine Gd (TT:=TT) tt Try.func28 O O Try.ntmps28 (congrArg Array.toList Try.results28) O O O O O fun w0 O0=>(Ai (Ab (Aa O (Ah (Ai (Ai (Ab ?_)))))));iterate 4 refine Aa O ?_
 refine Ah (Au O (fun hb1=>?_) (fun hb1=>?_))
 ·replace h:=Ak hb1 h;refine Ai (Ab (Aa O (Ah (Az ?_))));show ∃ _,_;cases h;exact ⟨[900010,900030],O,⟨O,O,Y⟩,⟨O,O,O,O,Y⟩,O⟩
 replace h:=Al hb1 h;refine As (Ai (Ai (Bi 17 [14] [0,1,3,0,15,31,63,0,128,384,0,1920,3968,8064,16383,32767,0] (by kernel_rfl) (by kernel_rfl) (by kernel_rfl) (by kernel_rfl) (by kernel_rfl) O (by rfl) ?_)));iterate 4 refine Br tt O (Ad O) O O O O O Y ?_
 obtain ⟨hg2,h⟩:=Ac h;refine Br tt O (Ad O) O O O O O hg2 ?_;iterate 6 refine Br tt O (Ad O) O O O O O Y ?_
 refine Br tt O (Ad O) O O O O O hg2 ?_;iterate 2 refine Br tt O (Ad O) O O O O O Y ?_
 refine nBuild tt (Ad O) O O O O O O O O O O O O ?_;iterate 2 refine Br tt O (Ad O) O O O O O Y ?_
 refine Pm ?_;show VO _ _ _ _ _;refine Ah (Cr (F:=fun k=>Cc N e_0 p_2 rec_99 k) h (α:=(List Int)×(List Int)×Nat) (J:=fun | (l11,l12,n13)=>(⟨[],[(900010,some (3,.ints l11)),(900030,some (3,.ints l12))],[(1000001,some [.row 900010 0 l11.length]),(1000002,some [.int p_2.g.n,.ro false (.pairs p_2.g.bars),.ro false (.ints p_2.ground)]),(1000003,some [.row 900030 0 n13]),(1000004,some [.clo 28 [1000001,1000002,1000003,1000004]])]⟩:PS)) ?_ ?_)
 ·rintro ⟨l11,l12,n13⟩ h;show VC _ _ _ (⟨[],[(900010,some (3,.ints l11)),(900030,some (3,.ints l12))],[(1000001,some [.row 900010 0 l11.length]),(1000002,some [.int p_2.g.n,.ro false (.pairs p_2.g.bars),.ro false (.ints p_2.ground)]),(1000003,some [.row 900030 0 n13]),(1000004,some [.clo 28 [1000001,1000002,1000003,1000004]])]⟩:PS);refine Ai (Ab (Aa O (Ah ?_)));show VC ..;obtain ⟨hg3,h⟩:=Ac h;refine vRowB 1000003 0 900030 O O hg3 O (Az ?_);show ∃ _,_;cases h;exact ⟨[900010,900030],O,⟨O,O,Y⟩,⟨O,O,O,O,Y⟩,O⟩
 intro k h;refine Aq (Bd (α:=(List Int)×(List Int)×Int×Nat) (fun | (l17,l18,x19,n20)=>(⟨[(0,.int e_0),(1,.ptr 1000001 0),(2,.ptr 1000002 0),(3,.ptr 1000003 0),(4,.ptr 1000004 0),(27,.row 27 0 (([(p_2.g.bars.getD ((e_0).toNat) (0,0)).1,(p_2.g.bars.getD ((e_0).toNat) (0,0)).2]:List Int).length)),(28,.int (([(p_2.g.bars.getD ((e_0).toNat) (0,0)).1,(p_2.g.bars.getD ((e_0).toNat) (0,0)).2]:List Int).length:Int)),(29,.int x19)],[(27,some (3,.ints ([(p_2.g.bars.getD ((e_0).toNat) (0,0)).1,(p_2.g.bars.getD ((e_0).toNat) (0,0)).2]:List Int))),(900010,some (3,.ints l17)),(900030,some (3,.ints l18))],[(1000001,some [.row 900010 0 l17.length]),(1000002,some [.int p_2.g.n,.ro false (.pairs p_2.g.bars),.ro false (.ints p_2.ground)]),(1000003,some [.row 900030 0 n20]),(1000004,some [.clo 28 [1000001,1000002,1000003,1000004]])]⟩:PS)) (Cc N e_0 p_2 rec_99 k) h (En.of ⟨rfl,rfl,rfl,rfl,rfl,rfl,rfl,rfl,Y⟩ ⟨rfl,rfl,rfl,Y⟩ ⟨rfl,rfl,rfl,rfl,Y⟩) (fun _=>rfl) ?_);rintro n ⟨l17,l18,x19,n20⟩ h;rw [Cc] at h;show VC _ _ _ (⟨[(0,.int e_0),(1,.ptr 1000001 0),(2,.ptr 1000002 0),(3,.ptr 1000003 0),(4,.ptr 1000004 0),(27,.row 27 0 (([(p_2.g.bars.getD ((e_0).toNat) (0,0)).1,(p_2.g.bars.getD ((e_0).toNat) (0,0)).2]:List Int).length)),(28,.int (([(p_2.g.bars.getD ((e_0).toNat) (0,0)).1,(p_2.g.bars.getD ((e_0).toNat) (0,0)).2]:List Int).length:Int)),(29,.int x19)],[(27,some (3,.ints ([(p_2.g.bars.getD ((e_0).toNat) (0,0)).1,(p_2.g.bars.getD ((e_0).toNat) (0,0)).2]:List Int))),(900010,some (3,.ints l17)),(900030,some (3,.ints l18))],[(1000001,some [.row 900010 0 l17.length]),(1000002,some [.int p_2.g.n,.ro false (.pairs p_2.g.bars),.ro false (.ints p_2.ground)]),(1000003,some [.row 900030 0 n20]),(1000004,some [.clo 28 [1000001,1000002,1000003,1000004]])]⟩:PS);refine Ai (Ab (Aa O (Ah (Ai (Au O (fun hb4=>?_) (fun hb4=>?_))))))
 ·replace h:=Ak hb4 h;refine As (Ai (Aq (Ai (Ab ?_))));obtain ⟨hg5,h⟩:=Ac h;refine Ae tt O hg5 (Ae tt O hg5 (Aa O (Ah (Ai (Ai (Ab (Aa O (Aa O ?_))))))));obtain ⟨v23,hc6,h⟩:=Ag h;refine Ba (Fk N p_2 (([(p_2.g.bars.getD ((e_0).toNat) (0,0)).1,(p_2.g.bars.getD ((e_0).toNat) (0,0)).2]:List Int).getD ((x19).toNat) 0) v23 hc6) O O O O O O O O ⟨⟨O,O,O,Y⟩,O,Y⟩ (Aa O (Aa O (Bu O O O (fun hb7=>?_) (fun hb7=>?_))))
  ·replace h:=Ak hb7 h;iterate 5 refine Lv O O O O hb7 O O ?_
   refine Cf O O O O O hb7 O (Ah (Ce O O (Bn (Ab ?_))));obtain ⟨hg8,h⟩:=Ac h;refine Ae tt O hg8 (Aa O (Ah ?_));show ∃ _,_;exact ⟨(l17,l18,(x19+(1:Int)),n20),(En.of ⟨O,O,O,O,O,O,O,O,Y⟩ ⟨O,O,O,Y⟩ ⟨O,O,O,O,Y⟩),h⟩
  replace h:=Al hb7 h;iterate 2 refine Bt tt O O O O O hb7 O O O Y ?_
  obtain ⟨hg9,h⟩:=Ac h;refine Bt tt O O O O O hb7 O O O hg9 ?_;obtain ⟨hg10,h⟩:=Ac h;refine Bt tt O O O O O hb7 O O O hg10 (Bt tt O O O O O hb7 O O O Y (Bp O O O O O hb7 O (Ah (Au O (fun hb11=>?_) (fun hb11=>?_)))))
  ·replace h:=Ak hb11 h;refine Bn (Ab ?_);obtain ⟨hg12,h⟩:=Ac h;refine Ae tt O hg12 (Aa O (Ah ?_));show ∃ _,_;exact ⟨(l17,l18,(x19+(1:Int)),n20),(En.of ⟨O,O,O,O,O,O,O,O,Y⟩ ⟨O,O,O,Y⟩ ⟨O,O,O,O,Y⟩),h⟩
  replace h:=Al hb11 h;refine As (Ai (Ab (Aa O (Aa O (Ae tt O hg9 (Ae tt O hg10 ?_))))));obtain ⟨hg13,h⟩:=Ac h;refine Ae tt O hg13 (Ae tt O hg9 (Ar tt O O O O O O O O O O ⟨_,_,O,hg10.1,hg10.2⟩ ⟨hg10,Y⟩ (Ah (Ai (Ab (Aa O (Aa O (Aa O ?_))))))));obtain ⟨hg14,h⟩:=Ac h;refine Ae tt O hg14 (Ar tt O O O O O O O O O O ⟨_,_,O,hg14.1,hg14.2⟩ ⟨hg14,Y⟩ (Ah (Ai (Ai (Ab (Aa O (Aa O ?_)))))));obtain ⟨hg15,h⟩:=Ac h;refine Ae tt O hg15 ?_;obtain ⟨hg16,h⟩:=Ac h;refine oRowB 1000001 0 900010 O O hg16 O ?_;obtain ⟨hg17,h⟩:=Ac h;refine oRowB 1000003 0 900030 O O hg17 O ?_;obtain ⟨v24,hc18,h⟩:=Ag h;refine oMCloX [1000001,1000002,1000003,1000004] [.int (e_0+(1:Int))] (hrec (e_0+(1:Int)) (l17.set ((e_0).toNat) (([(p_2.g.bars.getD ((e_0).toNat) (0,0)).1,(p_2.g.bars.getD ((e_0).toNat) (0,0)).2]:List Int).getD ((x19).toNat) 0)) p_2 (l18.set (((([(p_2.g.bars.getD ((e_0).toNat) (0,0)).1,(p_2.g.bars.getD ((e_0).toNat) (0,0)).2]:List Int).getD ((x19).toNat) 0)).toNat) ((l18.getD (((([(p_2.g.bars.getD ((e_0).toNat) (0,0)).1,(p_2.g.bars.getD ((e_0).toNat) (0,0)).2]:List Int).getD ((x19).toNat) 0)).toNat) 0)+(1:Int))) v24 hc18) [900010,900030] [1000001,1000002,1000003,1000004] [1570,1571] O O O O O O O O O  ⟨O,O,Y⟩ ⟨O,O,O,O,Y⟩ ⟨⟨O,O⟩,Y⟩ (Ah (Au O (fun hb19=>?_) (fun hb19=>?_)))
  ·replace h:=Ak hb19 h;refine Ai (Ab (Aa O (Ah (Az ?_))));show ∃ _,_;cases h;exact ⟨[1570,1571],O,⟨O,O,Y⟩,⟨O,O,O,O,Y⟩,O⟩
  replace h:=Al hb19 h;refine As (Ab (Aa O (Aa O ?_)));obtain ⟨hg20,h⟩:=Ac h;refine Ae tt O hg20 (Ae tt O hg20 ?_);obtain ⟨hg21,h⟩:=Ac h;refine Ae tt O hg21 (Ae tt O hg20 (Ar tt O O O O O O O O O O ⟨_,_,O,hg20.1,hg20.2⟩ ⟨hg20,Y⟩ (Ah (Ab ?_))));obtain ⟨hg22,h⟩:=Ac h;refine Ae tt O hg22 (Aa O (Ah ?_));show ∃ _,_;exact ⟨(v24.2.1,(v24.2.2.set (((([(p_2.g.bars.getD ((e_0).toNat) (0,0)).1,(p_2.g.bars.getD ((e_0).toNat) (0,0)).2]:List Int).getD ((x19).toNat) 0)).toNat) ((v24.2.2.getD (((([(p_2.g.bars.getD ((e_0).toNat) (0,0)).1,(p_2.g.bars.getD ((e_0).toNat) (0,0)).2]:List Int).getD ((x19).toNat) 0)).toNat) 0)-(1:Int))),(x19+(1:Int)),v24.2.2.length),(En.ren [900010,900030] [1570,1571] O ⟨.inr O,.inr O,.inr O,.inr O,.inr O,.inr O,.inr O,.inr O,Y⟩ ⟨.inr O,.inr O,.inr O,Y⟩ ⟨.inr ⟨_,_,O,O,⟨.inr O,Y⟩⟩,.inr ⟨_,_,O,O,⟨.inr O,.inr O,.inr O,Y⟩⟩,.inr ⟨_,_,O,O,⟨.inr O,Y⟩⟩,.inr ⟨_,_,O,O,⟨.inr O,Y⟩⟩,Y⟩),h⟩
 replace h:=Al hb4 h;refine Bn ?_;show ∃ _,_;exact ⟨(l17,l18,n20),(En.of trivial ⟨O,O,Y⟩ ⟨O,O,O,O,Y⟩),h⟩
theorem Rv (N:Nat):∀ (d:Nat) (e_0:Int) (out_1:List Int) (p_2:Pin) (owned_3:List Int) (r:Bool×(List Int)×(List Int)),Hl N d e_0 out_1 p_2 owned_3=some r→MCall Try.prog 28 [.int e_0,.ptr 1000001 0,.ptr 1000002 0,.ptr 1000003 0,.ptr 1000004 0] [900010,900030] [1000001,1000002,1000003,1000004] [(3,.ints out_1),(3,.ints owned_3)] [(3,.ints r.2.1),(3,.ints r.2.2)] [[.row 900010 0 out_1.length],[.int p_2.g.n,.ro false (.pairs p_2.g.bars),.ro false (.ints p_2.ground)],[.row 900030 0 owned_3.length],[.clo 28 [1000001,1000002,1000003,1000004]]] [[.row 900010 0 r.2.1.length],[.int p_2.g.n,.ro false (.pairs p_2.g.bars),.ro false (.ints p_2.ground)],[.row 900030 0 r.2.2.length],[.clo 28 [1000001,1000002,1000003,1000004]]] (.bool r.1)
 | 0,_,_,_,_,r,h=>by cases h
 | d+1,e_0,out_1,p_2,owned_3,r,h=>Zl N _ (fun e_0 out_1 p_2 owned_3 r h=>Rv N d e_0 out_1 p_2 owned_3 r h) e_0 out_1 p_2 owned_3 r h
theorem Aat (N:Nat) (e_0:Int) (out_1:List Int) (p_2:Pin) (owned_3:List Int) (r:Bool×(List Int)×(List Int)) (h:Se N e_0 out_1 p_2 owned_3=some r):MCall Try.prog 28 [.int e_0,.ptr 1000001 0,.ptr 1000002 0,.ptr 1000003 0,.ptr 1000004 0] [900010,900030] [1000001,1000002,1000003,1000004] [(3,.ints out_1),(3,.ints owned_3)] [(3,.ints r.2.1),(3,.ints r.2.2)] [[.row 900010 0 out_1.length],[.int p_2.g.n,.ro false (.pairs p_2.g.bars),.ro false (.ints p_2.ground)],[.row 900030 0 owned_3.length],[.clo 28 [1000001,1000002,1000003,1000004]]] [[.row 900010 0 r.2.1.length],[.int p_2.g.n,.ro false (.pairs p_2.g.bars),.ro false (.ints p_2.ground)],[.row 900030 0 r.2.2.length],[.clo 28 [1000001,1000002,1000003,1000004]]] (.bool r.1):=Rv N N e_0 out_1 p_2 owned_3 r h
def Do (N:Nat) (p_0:Pin):Option ((List Int)×Bool):=
 (Jh N p_0).bind fun v1=>
 cnd (!v1) (
  some (([]:List Int),false)) (
  grd (0≤(p_0.g.bars.length:Int)∧(p_0.g.bars.length:Int)≤4294967296) <|
  grd (0≤p_0.g.n∧p_0.g.n≤4294967296) <|
  (Se N (0:Int) (List.replicate (((p_0.g.bars.length:Int)).toNat) (0:Int)) p_0 (List.replicate ((p_0.g.n).toNat) (0:Int))).bind fun v2=>
  cnd (!v2.1) (
   some (([]:List Int),false)) (
   some (v2.2.1,true)))
theorem Xs (N:Nat) (p_0:Pin) (r:(List Int)×Bool) (h:Do N p_0=some r):PCall Try.prog 6 [pD p_0] [(3,.ints r.1)] (.tup [.row 0 0 r.1.length,.bool r.2]):=by
 unfold Do at h;refine Aj (TT:=TT) tt Try.func6 O O Try.ntmps6 (congrArg Array.toList Try.results6) O O fun w0=>(Ai (Ab (Lh O O O O O O O O O (Aa O (Aa O (Ah (Ai (Ai (Ab ?_)))))))));refine Aa O ?_;obtain ⟨v1,hc1,h⟩:=Ag h;refine Ba (Aao N p_0 v1 hc1) O O O O O O O O ⟨⟨O,O,O,Y⟩,Y⟩ (Aa O (Ah (Au O (fun hb2=>?_) (fun hb2=>?_))))
 ·replace h:=Ak hb2 h;refine Ai (Ab (Gt tt (Ad O) O O O O (Aa O (Aa O (Ah (Lc 2 9001 3 (.ints []) O O O O (Az ?_)))))));show ∃ _,_;cases h;exact ⟨[9001],_,O,⟨O,Y⟩,O,.eq O,O⟩
 replace h:=Al hb2 h;refine As (Ai (Ab ?_));iterate 4 refine Aa O ?_
 obtain ⟨hg3,h⟩:=Ac h;refine Aa2 tt O O O O O O O O O O O hg3 (Bw tt O O O O O O O O O (Ar tt O O O O O O O O O O O ⟨Y,Y⟩ (Ah (Ai (Ab (Aa O (Aa O (Aa O ?_))))))));obtain ⟨hg4,h⟩:=Ac h;refine Aa2 tt O O O O O O O O O O O hg4 (Bw tt O O O O O O O O O (Ar tt O O O O O O O O O O O ⟨Y,Y⟩ (Ah (Ai (Ab (Bw tt O O O O O O O O O (Ah (Ai (Ab ?_)))))))));refine oMakeFunc O [4,1,5,6] O O O O (Ar tt O O O O O O O O O O O ⟨Y,Y⟩ (Ah (Ai (Ai (Ab (Aa O ?_))))));obtain ⟨v2,hc5,h⟩:=Ag h;refine oMCloX [1000001,1000002,1000003,1000004] [.int (0:Int)] (Aat N (0:Int) (List.replicate (((p_0.g.bars.length:Int)).toNat) (0:Int)) p_0 (List.replicate ((p_0.g.n).toNat) (0:Int)) v2 hc5) [15,19] [4,1,5,6] [1220,1221] O O O O O O O O O  ⟨O,O,Y⟩ ⟨O,O,O,O,Y⟩ ⟨⟨O,O⟩,Y⟩ (Aa O (Ah (Au O (fun hb6=>?_) (fun hb6=>?_))))
 ·replace h:=Ak hb6 h;refine Ai (Ab (Gt tt (Ad O) O O O O (Aa O (Aa O (Ah (Lc 2 9001 3 (.ints []) O O O O (Az ?_)))))));show ∃ _,_;cases h;exact ⟨[9001],_,O,⟨O,Y⟩,O,.eq O,O⟩
 replace h:=Al hb6 h;refine As (Ai (Ab (Aa O (Aa O (Aa O (Ah (Az ?_)))))));show ∃ _,_;cases h;exact ⟨[1220],_,O,⟨O,Y⟩,O,.eq O,O⟩
end
section
variable {N:Nat}
def cnt (n e:Nat) (L:List Int):List Int:=(List.range n).map fun (v:Nat)=>(((L.take e).count (v:Int):Nat):Int)
theorem Mo (n e:Nat) (L:List Int):(cnt n e L).length=n:=by simp [cnt]
theorem cnt_get {n e:Nat} {L:List Int} {v:Int} (h0:0≤v) (h1:v<n):(cnt n e L).getD v.toNat 0=(((L.take e).count v:Nat):Int):=by
 have h:v.toNat<n:=by omega
 have hv:((v.toNat:Nat):Int)=v:=by omega
 simp [cnt,List.getD_eq_getElem?_getD,List.getElem?_range h,hv]
theorem Ke {L:List Int} {e:Nat} (h:e<L.length) (v:Int):(L.set e v).take (e+1)=L.take e++[v]:=by
 have h2:e<(L.set e v).length:=by simpa using h
 rw [List.take_add_one,List.take_set_of_le (Nat.le_refl _),List.getElem?_eq_getElem h2,List.getElem_set_self]; rfl
theorem Wj {L:List Int} {e:Nat} (v:Int):(L.set e v).take e=L.take e:=List.take_set_of_le (Nat.le_refl _)
theorem cnt_up {n e:Nat} {L:List Int} {v:Int} (h0:0≤v) (h1:v<n) (he:e<L.length):(cnt n e L).set v.toNat ((cnt n e L).getD v.toNat 0+1)=cnt n (e+1) (L.set e v):=by
 rw [cnt_get h0 h1];apply List.ext_getElem?;intro i;have hv:((v.toNat:Nat):Int)=v:=by omega
 rw [List.getElem?_set,Mo];by_cases hi:i<n
 ·have e2:(cnt n (e+1) (L.set e v))[i]? = some ((((L.take e++[v]).count (i:Int):Nat)):Int):=by simp [cnt,List.getElem?_range hi,Ke he]
  have e1:(cnt n e L)[i]? = some ((((L.take e).count (i:Int):Nat)):Int):=by simp [cnt,List.getElem?_range hi]
  rw [e1,e2];by_cases hvi:v.toNat=i
  ·rw [if_pos hvi,if_pos (by omega)];subst hvi;rw [hv,List.count_append,List.count_singleton_self]; rfl
  rw [if_neg hvi,List.count_append];have:List.count (i:Int) [v]=0:=by rw [List.count_eq_zero]; simp; omega
  rw [this]; rfl
 rw [List.getElem?_eq_none (by rw [Mo]; omega),List.getElem?_eq_none (by rw [Mo]; omega)];split
 ·split
  ·omega
  rfl
 rfl
theorem cnt_down {n e:Nat} {L:List Int} {v:Int} (h0:0≤v) (h1:v<n) (he:e<L.length):(cnt n (e+1) (L.set e v)).set v.toNat ((cnt n (e+1) (L.set e v)).getD v.toNat 0-1)=cnt n e L:=by
 rw [cnt_get h0 h1,Ke he];apply List.ext_getElem?;intro i;have hv:((v.toNat:Nat):Int)=v:=by omega
 rw [List.getElem?_set,Mo];by_cases hi:i<n
 ·have e2:(cnt n (e+1) (L.set e v))[i]? = some ((((L.take e++[v]).count (i:Int):Nat)):Int):=by simp [cnt,List.getElem?_range hi,Ke he]
  have e1:(cnt n e L)[i]? = some ((((L.take e).count (i:Int):Nat)):Int):=by simp [cnt,List.getElem?_range hi]
  rw [e1,e2];by_cases hvi:v.toNat=i
  ·rw [if_pos hvi,if_pos (by omega)];subst hvi;rw [hv,List.count_append,List.count_singleton_self];congr 1; omega
  rw [if_neg hvi,List.count_append];have:List.count (i:Int) [v]=0:=by rw [List.count_eq_zero]; simp; omega
  rw [this]; rfl
 rw [List.getElem?_eq_none (by rw [Mo]; omega),List.getElem?_eq_none (by rw [Mo]; omega)];split
 ·split
  ·omega
  rfl
 rfl
theorem cnt_take {n e:Nat} {L L':List Int} (h:L'.take e=L.take e):cnt n e L'=cnt n e L:=by unfold cnt; rw [h]
def cok (e:Nat) (L:List Int):Prop:=∀ v:Int,(L.take e).count v≤2
abbrev Px (p:Pin) (e:Nat):List Int:=[(p.g.bars.getD e (0,0)).1,(p.g.bars.getD e (0,0)).2]
theorem count2_s {p:Pin} {e:Nat} {L0 L:List Int} {k:Nat} (hk:k<2) (h0:L0.length=L.length) (he:e≤L.length) (hb:L.length≤1000) {kk:Int→Option (Bool×List Int)}:∀ (fuel i:Nat),i≤e→e<fuel+i →
  Du N p (e:Int) L0 L (k:Int) kk fuel ((((L.take i).count ((Px p e).getD k 0):Nat):Int),(i:Int))=kk (((L.take e).count ((Px p e).getD k 0):Nat):Int):=by
 intro fuel
 induction fuel with
 | zero=>intro i h1 h2; omega
 | succ fuel ih=>
  intro i h1 h2;rw [Du];by_cases hi:i<e
  ·have e2:((i:Int)).toNat=i:=by omega
   have e3:((k:Int)).toNat=k:=by omega
   have e4:((e:Int)).toNat=e:=by omega
   have hc:(L.take i).count ((Px p e).getD k 0)≤i:=Nat.le_trans List.count_le_length (by rw [List.length_take]; omega);have hl:([(p.g.bars.getD e (0,0)).1,(p.g.bars.getD e (0,0)).2]:List Int).length=2:=rfl;rw [Dk (by omega),Ao (by omega),Ao (by omega),e4,Ao (by rw [hl]; omega),e2,e3];have hil:i<L.length:=by omega
   have ht:L.take (i+1)=L.take i++[L.getD i 0]:=by
    rw [List.take_add_one,List.getElem?_eq_getElem hil,List.getD_eq_getElem?_getD,List.getElem?_eq_getElem hil]; rfl
   have hr:=ih (i+1) (by omega) (by omega);rw [ht,List.count_append] at hr;by_cases hv:L.getD i 0=(Px p e).getD k 0
   ·rw [Rb hv,Cy (by omega) (by omega),Cy (by omega) (by omega),Am,Am];rw [hv,List.count_singleton_self] at hr;exact hr
   rw [Lz hv,Cy (by omega) (by omega),Am];have:List.count ((Px p e).getD k 0) [L.getD i 0]=0:=by rw [List.count_eq_zero]; simpa using fun h=>hv h.symm
   rw [this,Nat.add_zero] at hr;exact hr
  obtain rfl:i=e:=by omega
  rw [Dx (by omega)]
def OwnAt (p:Pin) (i:Nat) (L:List Int):Prop:=(L.getD i 0=(p.g.bars.getD i (0,0)).1∨L.getD i 0=(p.g.bars.getD i (0,0)).2)∧p.ground.contains (L.getD i 0)=false
def Own (p:Pin) (e:Nat) (L:List Int):Prop:=∀ i,e≤i→i<p.g.bars.length→OwnAt p i L
theorem own_step {p:Pin} {e k:Nat} {L L':List Int} (hk:k<2) (he:e<L.length) (hg:p.ground.contains ((Px p e).getD k 0)=false) (ht:L'.take (e+1)=(L.set e ((Px p e).getD k 0)).take (e+1)) (h:Own p (e+1) L'):Own p e L':=by
 intro i h1 h2;by_cases hi:i=e
 ·subst hi
  have:L'.getD i 0=(Px p i).getD k 0:=by
   have h3:=congrArg (fun l=>l.getD i 0) ht;simp only [List.getD_eq_getElem?_getD,List.getElem?_take,Nat.lt_succ_self,if_true] at h3;rw [List.getD_eq_getElem?_getD,h3,List.getElem?_set_self he]; rfl
  unfold OwnAt;rw [this];refine ⟨?_,hg⟩;rcases (by omega:k=0∨k=1) with rfl | rfl
  ·exact .inl O
  exact .inr O
 exact h i (by omega) h2
def Full (p:Pin) (A:List Int):Prop:=A.length=p.g.bars.length∧Own p 0 A∧cok p.g.bars.length A
theorem Full.take {p:Pin} {A:List Int} (h:Full p A) {e:Nat} (he:e<p.g.bars.length):A.take (e+1)=A.take e++[A.getD e 0]:=by
 have hl:=h.1;rw [List.take_add_one,List.getElem?_eq_getElem (by omega),List.getD_eq_getElem?_getD,List.getElem?_eq_getElem (by omega)]; rfl
theorem Full.lt {p:Pin} {A:List Int} (h:Full p A) {e:Nat} (he:e<p.g.bars.length):(A.take e).count (A.getD e 0)<2:=by
 have h1:=h.2.2 (A.getD e 0);have h2:=congrArg (List.count (A.getD e 0)) (h.take he);rw [List.count_append,List.count_singleton_self] at h2
 have h3:(A.take (e+1)).count (A.getD e 0)≤(A.take p.g.bars.length).count (A.getD e 0):=by
  refine List.Sublist.count_le _ ?_;have:A.take (e+1)=(A.take p.g.bars.length).take (e+1):=by rw [List.take_take,Nat.min_eq_left (by omega)]
  rw [this]; exact List.take_sublist _ _
 omega
theorem own1_s (hN:4000000≤N) {p:Pin} (hp:Aw p=true) {n:Nat} (hn:p.g.n=n) {e:Nat} (he:e<p.g.bars.length) {rS:Pin→Int→List Int→Option (Bool×List Int)} {rI:Int→List Int→Pin→List Int→Option (Bool×List Int×List Int)} {L0:List Int} (hL0:L0.length=p.g.bars.length)
  (hrec:∀ L:List Int,L.length=p.g.bars.length→cok (e+1) L→∃ (b:Bool) (L' o':List Int),rS p ((e:Int)+1) L=some (b,L')∧rI ((e:Int)+1) L p (cnt n (e+1) L)=some (b,L',o')∧L'.length=p.g.bars.length∧L'.take (e+1)=L.take (e+1)∧(b=false→o'=cnt n (e+1) L)∧(b=true→Own p (e+1) L')∧(b=false→∀ A,Full p A→A.take (e+1)≠L.take (e+1))∧(b=true→cok p.g.bars.length L')) :
  ∀ (fuel k:Nat) (L:List Int),k≤2→2<fuel+k→L.length=p.g.bars.length→cok e L →
  ∃ (b:Bool) (L' o':List Int),Bm N p (e:Int) L0 rS (fun l=>some (false,l)) fuel (L,(k:Int))=some (b,L') ∧
   Cc N (e:Int) p rI (fun (x:(List Int)×(List Int)×Nat)=>match x with | (l11,l12,n13)=>grd (n13=l12.length) <| some (false,l11,l12)) fuel (L,cnt n e L,(k:Int),n)=some (b,L',o')∧L'.length=p.g.bars.length∧L'.take e=L.take e∧(b=false→o'=cnt n e L)∧(b=true→Own p e L')∧(b=false→∀ A,Full p A→A.take e=L.take e→∀ k',k≤k'→k'<2→A.getD e 0≠(Px p e).getD k' 0)∧(b=true→cok p.g.bars.length L'):=by
 have hbd:=Bg hp;have hbar:=Jv hp he;intro fuel
 induction fuel with
 | zero=>intro k L h1 h2; omega
 | succ fuel ih=>
  intro k L h1 h2 hL hok;rw [Bm,Cc];have e4:((e:Int)).toNat=e:=by omega
  have hl:([(p.g.bars.getD e (0,0)).1,(p.g.bars.getD e (0,0)).2]:List Int).length=2:=rfl;rw [e4,hl];by_cases hk:k<2
  ·have e3:((k:Int)).toNat=k:=by omega
   have e5:((((2:Nat)):Int))=2:=rfl;rw [Dk (by omega),Dk (by omega),e3,e5]
   have hv:0≤(Px p e).getD k 0∧(Px p e).getD k 0<n:=by
    rcases (by omega:k=0∨k=1) with rfl | rfl
    ·exact ⟨hbar.1,by show (p.g.bars.getD e (0,0)).1<_; omega⟩
    exact ⟨hbar.2.2.1,by show (p.g.bars.getD e (0,0)).2<_; omega⟩
   have hcS := count2_s (N := N) (p := p) (e := e) (L0 := L0) (L := L) hk (by omega) (by omega) (by omega) (kk := (fun (n49 : Int) =>
      cnd (decide (n49<(2:Int))) (
       grd (0≤(k:Int)∧(k:Int)<(2:Int)) <|
       (Fe N p.ground ((Px p e).getD k 0)).bind fun v50=>
       cnd (!v50) (
        grd (0≤(e:Int)∧(e:Int)<(L0.length:Int)) <|
        grd (0≤(e:Int)∧(e:Int)<(L.length:Int)) <|
        grd (Bc ((e:Int)+(1:Int))) <|
        grd (L0.length=(L.set e ((Px p e).getD k 0)).length) <|
        (rS (⟨⟨p.g.n,p.g.bars⟩,p.ground⟩:Pin) ((e:Int)+(1:Int)) (L.set e ((Px p e).getD k 0))).bind fun v51=>
        cnd v51.1 (
         some (true,v51.2)) (
         grd (Bc ((k:Int)+(1:Int))) <|
         Bm N p e L0 rS (fun l=>some (false,l)) fuel (v51.2,((k:Int)+(1:Int))))) (
        grd (Bc ((k:Int)+(1:Int))) <|
        Bm N p e L0 rS (fun l=>some (false,l)) fuel (L,((k:Int)+(1:Int))))) (
       grd (Bc ((k:Int)+(1:Int))) <|
       Bm N p e L0 rS (fun l=>some (false,l)) fuel (L,((k:Int)+(1:Int)))))) N 0 (by omega) (by omega)
   rw [List.take_zero,List.count_nil] at hcS;have next:=ih (k+1) L (by omega) (by omega) hL hok;rw [←Am] at next
   have hin:Ps p ((Px p e).getD k 0)=!p.ground.contains ((Px p e).getD k 0):=by
    unfold Ps;rw [inB_true.2 ⟨hv.1,by omega⟩,Bool.true_and]
   have hgd:=cnt_get (e:=e) (L:=L) hv.1 hv.2;have hcl:=Mo n e L;have hco:=hok ((Px p e).getD k 0)
   have hI:∀ X:Option (Bool×List Int×List Int),(grd (0≤(k:Int)∧(k:Int)<2) <| (Co N p ((Px p e).getD k 0)).bind fun v23=>cnd (!v23) (grd (Bc ((k:Int)+(1:Int))) (Cc N (e:Int) p rI (fun (x:(List Int)×(List Int)×Nat)=>match x with | (l11,l12,n13)=>grd (n13=l12.length) <| some (false,l11,l12)) fuel (L,cnt n e L,((k:Int)+(1:Int)),n))) X) =
     cnd (p.ground.contains ((Px p e).getD k 0)) (Cc N (e:Int) p rI (fun (x:(List Int)×(List Int)×Nat)=>match x with | (l11,l12,n13)=>grd (n13=l12.length) <| some (false,l11,l12)) fuel (L,cnt n e L,((k:Int)+(1:Int)),n)) X:=by
    intro X;rw [Ao (by omega),Pj N hN hp,Option.bind_some,hin,Bool.not_not,Cy (by omega) (by omega)]
   cases hg:p.ground.contains ((Px p e).getD k 0) with
   | true=>
    obtain ⟨b,L',o',n1,n2,n3,n4,n5,n6,n7,n8⟩:=next;refine ⟨b,L',o',?_,?_,n3,n4,n5,n6,fun hb A hA ht k' h1 h2 h3=>?_,n8⟩
    rotate_left 2
    ·by_cases ek:k'=k
     ·subst ek;have:=(hA.2.1 e (by omega) he).2;rw [h3,hg] at this; cases this
     exact n7 hb A hA ht k' (by omega) h2 h3
    ·refine hcS.trans ?_;by_cases hlt:(L.take e).count ((Px p e).getD k 0)<2
     ·rw [Dk (by omega),Ao (by omega),Kh N hN (by omega),hg,Option.bind_some,Bool.not_true,cnd_false,Cy (by omega) (by omega)];exact n1
     rw [Dx (by omega),Cy (by omega) (by omega)];exact n1
    refine (hI _).trans ?_;rw [hg,cnd_true];exact n2
   | false=>
    by_cases hlt:(L.take e).count ((Px p e).getD k 0)<2
    ·have hset:(L.set e ((Px p e).getD k 0)).length=p.g.bars.length:=by simpa using hL
     have hok2:cok (e+1) (L.set e ((Px p e).getD k 0)):=by
      intro v;rw [Ke (by omega),List.count_append];by_cases hvv:v=(Px p e).getD k 0
      ·rw [hvv,List.count_singleton_self]; omega
      have:List.count v [(Px p e).getD k 0]=0:=by rw [List.count_eq_zero]; simpa using hvv
      rw [this]; exact hok v
     obtain ⟨b,L',o',r1,r2,r3,r4,r5,r6,r7,r8⟩:=hrec _ hset hok2;have hup:=cnt_up (n:=n) (e:=e) (L:=L) hv.1 hv.2 (by omega);have hpe:(⟨⟨p.g.n,p.g.bars⟩,p.ground⟩:Pin)=p:=rfl;have hul:(cnt n (e+1) (L.set e ((Px p e).getD k 0))).length=n:=Mo _ _ _;have hne:¬ (cnt n e L).getD ((Px p e).getD k 0).toNat 0=2:=by rw [hgd]; omega
     have hS:Du N p (e:Int) L0 L (k:Int) (fun (n49:Int)=>
      cnd (decide (n49<(2:Int))) (
       grd (0≤(k:Int)∧(k:Int)<(2:Int)) <|
       (Fe N p.ground ((Px p e).getD k 0)).bind fun v50=>
       cnd (!v50) (
        grd (0≤(e:Int)∧(e:Int)<(L0.length:Int)) <|
        grd (0≤(e:Int)∧(e:Int)<(L.length:Int)) <|
        grd (Bc ((e:Int)+(1:Int))) <|
        grd (L0.length=(L.set e ((Px p e).getD k 0)).length) <|
        (rS (⟨⟨p.g.n,p.g.bars⟩,p.ground⟩:Pin) ((e:Int)+(1:Int)) (L.set e ((Px p e).getD k 0))).bind fun v51=>
        cnd v51.1 (
         some (true,v51.2)) (
         grd (Bc ((k:Int)+(1:Int))) <|
         Bm N p e L0 rS (fun l=>some (false,l)) fuel (v51.2,((k:Int)+(1:Int))))) (
        grd (Bc ((k:Int)+(1:Int))) <|
        Bm N p e L0 rS (fun l=>some (false,l)) fuel (L,((k:Int)+(1:Int))))) (
       grd (Bc ((k:Int)+(1:Int))) <|
       Bm N p e L0 rS (fun l=>some (false,l)) fuel (L,((k:Int)+(1:Int))))) N ((((0:Nat):Int)),(((0:Nat):Int)))=cnd b (some (true,L')) (Bm N p e L0 rS (fun l=>some (false,l)) fuel (L',((k:Int)+(1:Int)))):=by
      refine hcS.trans ?_;rw [Dk (by omega),Ao (by omega),Kh N hN (by omega),hg,Option.bind_some,Bool.not_false,cnd_true,Ao (by omega),Ao (by omega),Cy (by omega) (by omega),Ao (by omega),hpe,r1,Option.bind_some,Cy (by omega) (by omega)]
     cases b with
     | true=>
      refine ⟨true,L',o',hS,?_,r3,?_,(fun h=>by cases h),(fun _=>own_step hk (by omega) hg r4 (r6 O)),(fun h=>by cases h),fun _=>r8 O⟩
      ·refine (hI _).trans ?_;rw [hg,cnd_false,Ao hv,Ao ⟨hv.1,by rw [hcl]; exact hv.2⟩,Lz hne,Cy (by rw [hgd]; omega) (by rw [hgd]; omega),Ao (by omega),Cy (by omega) (by omega),Ao (List.length_set).symm,Ao (by rw [List.length_set,hcl]),hup,r2,Option.bind_some];rfl
      have:=congrArg (List.take e) r4;rw [List.take_take,List.take_take,Nat.min_eq_left (by omega),Wj] at this;exact this
     | false=>
      have ht:L'.take e=L.take e:=by
       have:=congrArg (List.take e) r4;rw [List.take_take,List.take_take,Nat.min_eq_left (by omega),Wj] at this;exact this
      obtain ⟨b2,L2,o2,n1,n2,n3,n4,n5,n6,n7,n8⟩:=ih (k+1) L' (by omega) (by omega) r3 (by intro v; rw [ht]; exact hok v);rw [←Am] at n1 n2;rw [cnt_take ht] at n2 n5;refine ⟨b2,L2,o2,hS.trans n1,?_,n3,n4.trans ht,n5,n6,fun hb A hA hT k' h1 h2 h3=>?_,n8⟩
      rotate_left 1
      ·by_cases ek:k'=k
       ·subst ek;refine r7 O A hA ?_;rw [hA.take he,Ke (by omega),hT,h3]
       exact n7 hb A hA (hT.trans ht.symm) k' (by omega) h2 h3
      refine (hI _).trans ?_;have hdn:=cnt_down (n:=n) (e:=e) (L:=L) hv.1 hv.2 (by omega);have hgd2:=cnt_get (e:=e+1) (L:=L.set e ((Px p e).getD k 0)) hv.1 hv.2;have ho:=r5 rfl;subst ho;have hco2:=hok2 ((Px p e).getD k 0);rw [hg,cnd_false,Ao hv,Ao ⟨hv.1,by rw [hcl]; exact hv.2⟩,Lz hne,Cy (by rw [hgd]; omega) (by rw [hgd]; omega),Ao (by omega),Cy (by omega) (by omega),Ao (List.length_set).symm,Ao (by rw [List.length_set,hcl]),hup,r2,Option.bind_some];show grd _ (grd _ (grd _ (Cc N (e:Int) p rI _ fuel (L',(cnt n (e+1) (L.set e ((Px p e).getD k 0))).set ((Px p e).getD k 0).toNat ((cnt n (e+1) (L.set e ((Px p e).getD k 0))).getD ((Px p e).getD k 0).toNat 0-1),((k:Int)+1),(cnt n (e+1) (L.set e ((Px p e).getD k 0))).length))))=_;rw [Ao ⟨hv.1,by rw [hul]; exact hv.2⟩,Cy (by rw [hgd2]; omega) (by rw [hgd2]; omega),Cy (by omega) (by omega),hdn,hul];exact n2
    have heq:(cnt n e L).getD ((Px p e).getD k 0).toNat 0=2:=by rw [hgd]; omega
    obtain ⟨b,L',o',n1,n2,n3,n4,n5,n6,n7,n8⟩:=next;refine ⟨b,L',o',?_,?_,n3,n4,n5,n6,fun hb A hA hT k' h1 h2 h3=>?_,n8⟩
    rotate_left 2
    ·by_cases ek:k'=k
     ·subst ek;have:=hA.lt he;rw [h3,hT] at this;omega
     exact n7 hb A hA hT k' (by omega) h2 h3
    ·refine hcS.trans ?_;rw [Dx (by omega),Cy (by omega) (by omega)];exact n1
    refine (hI _).trans ?_;rw [hg,cnd_false,Ao hv,Ao ⟨hv.1,by rw [hcl]; exact hv.2⟩,Rb heq,Cy (by omega) (by omega)];exact n2
  obtain rfl:k=2:=by omega
  refine ⟨false,L,cnt n e L,?_,?_,hL,O,(fun _=>O),(fun h=>by cases h),(fun _ A _ _ k' h1 h2=>by omega),fun h=>by cases h⟩
  ·rw [Dx (by omega)]
  rw [Dx (by omega)];show grd _ _=_;rw [Ao (Mo n e L).symm]
theorem own_s (hN:4000000≤N) {p:Pin} (hp:Aw p=true) {n:Nat} (hn:p.g.n=n):∀ (d e:Nat) (L:List Int),e≤p.g.bars.length→p.g.bars.length<d+e→L.length=p.g.bars.length→cok e L →
  ∃ (b:Bool) (L' o':List Int),Je N d p (e:Int) L=some (b,L')∧Hl N d (e:Int) L p (cnt n e L)=some (b,L',o')∧L'.length=p.g.bars.length∧L'.take e=L.take e∧(b=false→o'=cnt n e L)∧(b=true→Own p e L')∧(b=false→∀ A,Full p A→A.take e≠L.take e)∧(b=true→cok p.g.bars.length L'):=by
 have hbd:=Bg hp;intro d
 induction d with
 | zero=>intro e L h1 h2; omega
 | succ d ih=>
  intro e L h1 h2 hL hok;rw [Je,Hl];unfold Mi Li;by_cases he:e<p.g.bars.length
  ·rw [Lz (by omega),Lz (by omega),Ao (by omega),Ao (by omega)]
   have:=own1_s (N:=N) hN hp hn he (rS:=Je N d) (rI:=Hl N d) hL (fun L hL hok=>by
    have:=ih (e+1) L (by omega) (by omega) hL hok;rw [←Am] at this
    exact this) N 0 L (by omega) (by omega) hL hok
   rw [Mo];obtain ⟨b,L',o',n1,n2,n3,n4,n5,n6,n7,n8⟩:=this;refine ⟨b,L',o',n1,n2,n3,n4,n5,n6,fun hb A hA ht=>?_,n8⟩;rcases (hA.2.1 e (by omega) he).1 with h | h
   ·exact n7 hb A hA ht 0 (by omega) (by omega) h
   exact n7 hb A hA ht 1 (by omega) (by omega) h
  obtain rfl:e=p.g.bars.length:=by omega
  rw [Rb rfl,Rb (by omega)];exact ⟨true,L,_,O,O,hL,O,(fun h=>by cases h),(fun _ i h1 h2=>by omega),(fun h=>by cases h),fun _=>hok⟩
theorem owners_z (hN:4000000≤N) {p:Pin} (hb:p.g.bars.length≤3000000) (hg:p.ground.length≤3000000):∃ (l:List Int) (b:Bool),(l.length≤15∧Dy N p=some (l,b)∧Do N p=some (l,b)∧(b=false→l=[])∧(b=true→Aw p=true∧l.length=p.g.bars.length∧Own p 0 l))∧(b=true→Bo N p=some true∧Full p l)∧(Bo N p=some true→(∃ A,Full p A)→b=true):=by
 obtain ⟨b,g1,g2⟩:=Zu (N:=N) hN hb hg;unfold Dy Do;rw [Ao (by omega),g1,g2,Option.bind_some,Option.bind_some]
 cases b with
 | false=>exact ⟨[],false,⟨by simp,rfl,rfl,fun _=>rfl,fun h=>by cases h⟩,(fun h=>by cases h),fun h=>by cases h⟩
 | true=>
  have hp:Aw p=true:=by
   cases hp:Aw p with
   | true=>rfl
   | false=>
    unfold Bo Dw Cz at g1;rw [Er N hN hb hg,hp] at g1;simp [cnd] at g1
  have hbd:=Bg hp;obtain ⟨n,hn⟩:∃ n:Nat,p.g.n=n:=⟨p.g.n.toNat,by omega⟩;have e1:((p.g.bars.length:Int)).toNat=p.g.bars.length:=by omega
  have e2:(p.g.n).toNat=n:=by omega
  have e3:List.replicate n (0:Int)=cnt n 0 (List.replicate p.g.bars.length (0:Int)):=by
   apply List.ext_getElem?;intro i;by_cases hi:i<n
   ·simp [cnt,List.getElem?_range hi,List.getElem?_replicate,hi]
   rw [List.getElem?_eq_none (by simpa using Nat.le_of_not_lt hi),List.getElem?_eq_none (by rw [Mo]; omega)]
  obtain ⟨b,L',o',h1,h2,h3,h4,h5,h6,h7,h8⟩:=own_s (N:=N) hN hp hn N 0 (List.replicate p.g.bars.length (0:Int)) (by omega) (by omega) (by simp) (by intro v; simp);have hpe:(⟨⟨p.g.n,p.g.bars⟩,p.ground⟩:Pin)=p:=rfl;rw [Bool.not_true,cnd_false,cnd_false,Ao (by omega),Ao (by omega),e1,e2,e3,hpe];have h1':Tl N p 0 (List.replicate p.g.bars.length (0:Int))=some (b,L'):=h1;have h2':Se N 0 (List.replicate p.g.bars.length (0:Int)) p (cnt n 0 (List.replicate p.g.bars.length (0:Int)))=some (b,L',o'):=h2;rw [h1',h2',Option.bind_some,Option.bind_some]
  cases b with
  | false=>exact ⟨[],false,⟨by simp,rfl,rfl,fun _=>rfl,fun h=>by cases h⟩,(fun h=>by cases h),fun _ ⟨A,hA⟩=>absurd (by simp) (h7 rfl A hA)⟩
  | true=>
   refine ⟨L',true,⟨by omega,?_,O,(fun h=>by cases h),fun _=>⟨hp,h3,h6 O⟩⟩,(fun _=>⟨O,h3,h6 O,h8 O⟩),fun _ _=>O⟩;show grd _ _=_;rw [Ao (by rw [List.length_replicate,h3])]
theorem owners_y (hN:4000000≤N) {p:Pin} (hb:p.g.bars.length≤3000000) (hg:p.ground.length≤3000000):∃ (l:List Int) (b:Bool),l.length≤15∧Dy N p=some (l,b)∧Do N p=some (l,b)∧(b=false→l=[])∧(b=true→Aw p=true∧l.length=p.g.bars.length∧Own p 0 l):=by
 obtain ⟨l,b,h,_⟩:=owners_z (N:=N) hN hb hg;exact ⟨l,b,h⟩
theorem owners_x (hN:4000000≤N) {p:Pin} (hb:p.g.bars.length≤3000000) (hg:p.ground.length≤3000000):∃ (l:List Int) (b:Bool),l.length≤15∧Dy N p=some (l,b)∧Do N p=some (l,b):=by
 obtain ⟨l,b,h1,h2,h3,_⟩:=owners_y (N:=N) hN hb hg;exact ⟨l,b,h1,h2,h3⟩
end
section
variable (N:Nat)
theorem own_l1 (hN:4000000≤N) {p:Pin} (hp:Aw p=true) {c:List Int} (hc:c.length=p.g.n.toNat) :
  ∃ b,Ej N p c (Af p) (fun _=>some true) N 0=some b∧Cq N p c (Af p) (fun _=>some true) N 0=some b:=by
 have hbd:=Bg hp
 have hlen:(Af p).length≤8:=by
  unfold Af; rw [hp,cnd_true,Ee];have:=Jn p.ground p.g.n.toNat; omega
 have hin:∀ i,i<(Af p).length→0≤(Af p).getD i 0∧(Af p).getD i 0<p.g.n:=fun i hi=>by
  have h1:(Af p).contains ((Af p).getD i 0)=true:=by
   simp [List.getD_eq_getElem?_getD,hi]
  rw [Jy hp,Ps,Bool.and_eq_true] at h1;have:=inB_true.1 h1.1;omega
 refine ⟨(List.range (Af p).length).all (fun i=>(c.getD ((Af p).getD i 0).toNat 0==2)),?_,?_⟩
 ·refine (srch (len:=(Af p).length) (ok:=fun i=>(c.getD ((Af p).getD i 0).toNat 0==2)) (bad:=some false) (fin:=some true) (by omega) ?_ ?_).trans (by rw [Ew,Wa])
  ·intro n i hi _;have:=hin i hi;rw [Ej];simp (disch:=omega) only [pst,List.length_replicate,Am];refine Ek ?_ _ _;rw [bne]
  intro n _;rw [Ej];simp (disch:=omega) only [pst]
 refine (srch (len:=(Af p).length) (ok:=fun i=>(c.getD ((Af p).getD i 0).toNat 0==2)) (bad:=some false) (fin:=some true) (by omega) ?_ ?_).trans (by rw [Ew,Wa])
 ·intro n i hi _;have:=hin i hi;rw [Cq];simp (disch:=omega) only [pst,List.length_replicate,Am];refine Ek ?_ _ _;rw [bne]
 intro n _;rw [Cq];simp (disch:=omega) only [pst]
theorem own_l2 (hN:4000000≤N) {p:Pin} (hp:Aw p=true) {l:List Int} (hl:l.length=p.g.bars.length) {kS kI:List Int→Option Bool} (hk:∀ c:List Int,c.length=p.g.n.toNat→∃ b,kS c=some b∧kI c=some b) :
  ∀ (n i:Nat) (c:List Int),i≤l.length→l.length<n+i→c.length=p.g.n.toNat→(∀ j:Nat,0≤c.getD j 0∧c.getD j 0≤(i:Int)) →
   ∃ b,Ei N p l kS n (c,(i:Int))=some b∧Dt N p l kI n (c,(i:Int))=some b:=by
 have hbd:=Bg hp;intro n
 induction n with
 | zero=>intro i c h1 h2; omega
 | succ n ih=>
  intro i c h1 h2 hc hr;rw [Ei,Dt];by_cases hi:i<l.length
  ·simp (disch:=omega) only [pst,bhas_s,Pj N hN hp,Rk];have hbar:=Jv hp (i:=i) (by omega);by_cases he:Mu (p.g.bars.getD i (0,0)) (l.getD i 0)=true
   ·rw [he,cnd_true]
    have hx:0≤l.getD i 0∧l.getD i 0<p.g.n:=by
     simp only [Mu,Bool.or_eq_true,beq_iff_eq] at he; omega
    have hr':=hr (l.getD i 0).toNat
    have hin:Ps p (l.getD i 0)=!p.ground.contains (l.getD i 0):=by
     unfold Ps; rw [inB_true.2 (by omega)]; rfl
    rw [hin]
    have e:∀ X:Option Bool,cnd (l.getD i 0 != (p.g.bars.getD i (0,0)).1) (cnd (l.getD i 0 != (p.g.bars.getD i (0,0)).2) (some false) X) X=X:=fun X=>by
     simp only [Mu,Bool.or_eq_true,beq_iff_eq] at he;rcases he with he | he
     ·rw [Fy he.symm]
     rw [Fy he.symm]; exact cnd_same _ _
    rw [e];rw [Kh N hN (by omega),Option.bind_some]
    cases hg:p.ground.contains (l.getD i 0) with
    | true=>exact ⟨false,rfl,rfl⟩
    | false=>
     simp (disch:=omega) only [pst,List.length_replicate,Bool.not_false]
     exact ih (i+1) _ (by omega) (by omega) (by simp [hc]) fun j=>by
      have h0:=hr j;simp only [List.getD_eq_getElem?_getD,List.getElem?_set] at h0 hr' ⊢;split
      ·split
       ·simp only [Option.getD_some]; omega
       simp only [Option.getD_none]; omega
      omega
   have he':Mu (p.g.bars.getD i (0,0)) (l.getD i 0)=false:=by simpa using he
   rw [he',cnd_false];have h3:¬ l.getD i 0=(p.g.bars.getD i (0,0)).1:=fun h=>by rw [hasEnd_1 h.symm] at he'; cases he'
   have h4:¬ l.getD i 0=(p.g.bars.getD i (0,0)).2:=fun h=>by rw [hasEnd_2 h.symm] at he'; cases he'
   rw [Mx h3,Mx h4];exact ⟨false,O,O⟩
  simp (disch:=omega) only [pst];exact hk c hc
theorem areOwners_s (hN:4000000≤N) {p:Pin} (hb:p.g.bars.length≤3000000) (hg:p.ground.length≤3000000) {l:List Int} (hl:l.length≤3000000):∃ b,Kx N p l=some b∧Fx N p l=some b:=by
 unfold Kx Fx;rw [Er N hN hb hg,Jp N hN hb hg,Option.bind_some,Option.bind_some]
 cases hp:Aw p with
 | false=>exact ⟨false,rfl,rfl⟩
 | true=>
  have hbd:=Bg hp;rw [Bool.not_true,cnd_false,cnd_false];by_cases h:l.length=p.g.bars.length
  ·rw [Fy (by omega),Fy (by omega)];simp (disch:=omega) only [pst,Yk N hN hb hg,Sr N hN hb hg]
   exact own_l2 N hN hp h (fun c hc=>own_l1 N hN hp hc) N 0 _ (by omega) (by omega) (by simp) fun j=>by
    simp only [List.getD_eq_getElem?_getD,List.getElem?_replicate];split <;> simp
  rw [Mx (by omega),Mx (by omega)];exact ⟨false,O,O⟩
end
section
variable {n:Nat} {N:Nat}
theorem game_ex (hN:4000000≤N) (hn:n≤1000) {bars:List (Int×Int)} (hb:∀ e∈bars,Bok n e):∀ i,i≤bars.length→∃ p:Pbl,Gm n bars p i
 | 0,_=>⟨_,Gm.start bars⟩
 | i+1,h=>by
  obtain ⟨p,hp⟩:=game_ex hN hn hb i (by omega);have hbi:=hb _ (Ci (d:=(0,0)) (show i<bars.length by omega));have r:=id hbi;obtain ⟨b1,b2,b3,b4,b5⟩:=r;obtain ⟨p',g1,g2,⟨g3,g4⟩ | ⟨g3,g4⟩⟩:=gather_s (g:=⟨(n:Int),bars⟩) hN hn rfl (a:=(bars.getD i (0,0)).1) (b:=(bars.getD i (0,0)).2) hbi hp.pg
  ·have le1:=g2.inv.le2 (v:=(bars.getD i (0,0)).2.toNat) (by omega);exact ⟨_,hp.put (by omega) hbi g1 g2 (.inl O) (by omega) g4⟩
  exact ⟨p,hp.skip g4⟩
theorem gather_all (hN:4000000≤N) (hn:n≤1000) {bars:List (Int×Int)} {a b:Int} (hb:Bok n (a,b)):∀ (c:Nat) (p:Pbl),PG n bars p→(4:Int)≤c+(p.free.getD a.toNat 0+p.free.getD b.toNat 0) →
  ∃ p':Pbl,p'.placed=p.placed∧PG n bars p'∧(4≤p'.free.getD a.toNat 0+p'.free.getD b.toNat 0∨(Shut n (p.placed.map (brI bars)) p'.free p'.tails a b∧Shut n (p.placed.map (brI bars)) p'.free p'.tails b a)):=by
 intro c
 induction c with
 | zero=>intro p hp h; exact ⟨p,rfl,hp,.inl (by omega)⟩
 | succ c ih=>
  intro p hp h;rcases find_s (g:=⟨(n:Int),bars⟩) hN hn rfl hp hb with ⟨p1,f1,f2,f3⟩ | ⟨f1,f2⟩
  ·obtain ⟨p',g1,g2,g3⟩:=ih p1 (f2.pg hp f3) (by have:=f2.symm'; omega);rw [f3] at g3;exact ⟨p',g1.trans f3,g2,g3⟩
  rcases find_s (g:=⟨(n:Int),bars⟩) hN hn rfl hp hb.swap with ⟨p1,k1,k2,k3⟩ | ⟨k1,k2⟩
  ·obtain ⟨p',g1,g2,g3⟩:=ih p1 (k2.pg hp k3) (by have:=k2.symm'; omega);rw [k3] at g3;exact ⟨p',g1.trans k3,g2,g3⟩
  exact ⟨p,O,hp,.inr ⟨f2,k2⟩⟩
theorem shut_three {E:List (Int×Int)} {f T:List Int} {a b:Int} (hp:PInv n E f T) (hE:Spr n E) (hb:Bok n (a,b)) (h1:Shut n E f T a b) (h2:Shut n E f T b a):3≤f.getD a.toNat 0+f.getD b.toNat 0:=by
 obtain ⟨R,r1,r2,r3⟩:=h1;obtain ⟨S,s1,s2,s3⟩:=h2;obtain ⟨g1,g2,g3,g4,g5⟩:=id hb;simp only at g1 g2 g3 g4 g5
 have both:∀ (R:VS) i,i<E.length→R (T.getD i 0)=true→R (oth (E.getD i (0,0)) (T.getD i 0))=true→inX R (E.getD i (0,0))=true:=by
  intro R i hi g1 g2;simp only [inX,Bool.and_eq_true];rcases hp.en i hi with e | e
  ·rw [e] at g1 g2;simp only [oth] at g2;exact ⟨g1,by rwa [show (E.getD i (0,0)).1+(E.getD i (0,0)).2-(E.getD i (0,0)).1=(E.getD i (0,0)).2 from by omega] at g2⟩
  rw [e] at g1 g2;simp only [oth] at g2;exact ⟨by rwa [show (E.getD i (0,0)).1+(E.getD i (0,0)).2-(E.getD i (0,0)).2=(E.getD i (0,0)).1 from by omega] at g2,g1⟩
 have hcl:∀ i,i<E.length→vU R S (T.getD i 0)=true→inX (vU R S) (E.getD i (0,0))=true:=fun i hi hR=>by
  simp only [vU,Bool.or_eq_true] at hR;rcases hR with hR | hR
  ·have:=both R i hi hR (r2 i hi hR);simp only [inX,vU,Bool.and_eq_true,Bool.or_eq_true] at this ⊢;exact ⟨.inl this.1,.inl this.2⟩
  have:=both S i hi hR (s2 i hi hR);simp only [inX,vU,Bool.and_eq_true,Bool.or_eq_true] at this ⊢;exact ⟨.inr this.1,.inr this.2⟩
 have hz:∀ v:Nat,v<n→vU R S (v:Int)=true→(v:Int)≠a→(v:Int)≠b→f.getD v 0=0:=fun v hv hR g1 g2=>by
  simp only [vU,Bool.or_eq_true] at hR;rcases hR with hR | hR
  ·exact r3 v hv hR g1 g2
  exact s3 v hv hR g2 g1
 have ha:vU R S a=true:=by simp [vU,r1]
 have hb':vU R S b=true:=by simp [vU,s1]
 have v2:=Kb (n:=n) (X:=vU R S) ⟨g1,g2⟩ ⟨g3,g4⟩ g5 ha hb';obtain ⟨a,rfl⟩:=Int.eq_ofNat_of_zero_le g1;obtain ⟨b,rfl⟩:=Int.eq_ofNat_of_zero_le g3;have a1:=fsum_le (n:=n) (X:=vU R S) (f:=f) (a:=a) (b:=b) (fun e=>g5 (by rw [e])) hp.nn (fun v hv hx h1 h2=>hz v hv hx (by omega) (by omega)) n (Nat.le_refl _);rw [if_pos (by omega),if_pos (by omega)] at a1;have a2:=hp.sum (vU R S);have a3:=Zw (vU R S) hp.tl hcl;have a4:=hE (vU R S);simp only [Int.toNat_natCast];have:(T.countP (vU R S):Int)≤spn (vU R S) E:=by exact_mod_cast a3
 by_cases h0:0<spn (vU R S) E
 ·have:=a4 h0; omega
 omega
theorem tight_state (hN:4000000≤N) (hn:n≤1000) {bars:List (Int×Int)} (hb:∀ e∈bars,Bok n e) {a b:Int} (hab:Bok n (a,b)):∃ (E:List (Int×Int)) (f T:List Int),Bas n bars E∧PInv n E f T∧3≤f.getD a.toNat 0+f.getD b.toNat 0:=by
 obtain ⟨p,hp⟩:=game_ex hN hn hb bars.length (Nat.le_refl _);obtain ⟨h1,h2,h3,h4,h5⟩:=id hab;simp only at h1 h2 h3 h4 h5;have n1:=hp.pg.inv.nn a.toNat (by omega);have n2:=hp.pg.inv.nn b.toNat (by omega);obtain ⟨p',g1,g2,g3⟩:=gather_all hN hn hab 4 p hp.pg (by omega);have hi:=g2.inv;rw [g1] at hi;refine ⟨p.placed.map (brI bars),p'.free,p'.tails,hp.bas,hi,?_⟩;rcases g3 with g3 | ⟨g3,g4⟩
 ·omega
 exact shut_three hi hp.spr hab g3 g4
def ownr (E:List (Int×Int)) (T:List Int) (e:Int×Int):Int:=T.getD (E.idxOf e) 0
theorem ownr_map {E:List (Int×Int)} {T:List Int} (hd:E.Nodup) (hl:T.length=E.length):E.map (ownr E T)=T:=by
 apply List.ext_getElem
 ·simp [hl]
 intro i h1 h2;have hi:i<E.length:=by simpa using h1
 have e:E.idxOf E[i]=i:=hd.idxOf_getElem i hi;rw [List.getElem_map,ownr,e,List.getD_eq_getElem?_getD,List.getElem?_eq_getElem h2,Option.getD_some]
theorem cnt_own {E B:List (Int×Int)} {T:List Int} (hd:E.Nodup) (hl:T.length=E.length) (hB:B.Nodup) (X:Int→Bool) (h:∀ e∈B,e∈E∧X (ownr E T e)=true):B.length≤T.countP X:=by
 have:=Ed (I:=B) (L:=E.filter fun e=>X (ownr E T e)) hB fun e he=>List.mem_filter.2 (h e he);have e2:=congrArg (List.countP X) (ownr_map hd hl);rw [List.countP_map,List.countP_eq_length_filter] at e2;have e3:(E.filter (X ∘ ownr E T)).length=(E.filter fun e=>X (ownr E T e)).length:=rfl;omega
theorem Xz {α:Type} (q:α→Bool):∀ l:List α,(l.filter q).length+(l.filter fun x=>!q x).length=l.length
 | []=>rfl
 | a::l=>by
  have:=Xz q l;cases h:q a <;> simp [h] <;> omega
theorem vsz_ground {G:List Int}:vsz n (fun v=>G.contains v)≤G.length:=by
 unfold vsz;rw [List.countP_eq_length_filter,←List.length_map (f:=fun (i:Nat)=>(i:Int))];refine Ed ?_ fun x hx=>?_
 ·rw [List.nodup_iff_pairwise_ne];refine List.Pairwise.map _ (fun a b h=>?_) (List.nodup_iff_pairwise_ne.1 (List.nodup_range.filter _));omega
 obtain ⟨k,hk,rfl⟩:=List.mem_map.1 hx;simpa using (List.mem_filter.1 hk).2
theorem iso_parts {p:Pin} (hi:Bo N p=some true) {LH LS H I:List (Int×Int)} (h:PF0 N n p LH LS H I):I.length=H.length+p.g.bars.length∧p.g.bars.length=2*(Af p).length:=by
 have hnn:=h.nn
 have hz:Bo N p=some (cnd (2*((Af p).length:Int)-((I.length:Int)-H.length)==0) ((p.g.bars.length:Int)==(I.length:Int)-H.length) false):=by
  unfold Bo Dw;rw [h.fr,Option.bind_some,Option.bind_some,h.rk,Option.bind_some,Ew]
 rw [hi] at hz;have b3:=Option.some.inj hz
 cases hq:(2*((Af p).length:Int)-((I.length:Int)-H.length)==0) with
 | false=>rw [hq] at b3; cases b3
 | true=>
  rw [hq,cnd_true,eq_comm,beq_iff_eq] at b3;have h2:2*((Af p).length:Int)-((I.length:Int)-H.length)=0:=by simpa using hq
  omega
theorem full_ex (hN:4000000≤N) {p:Pin} (hp:Aw p=true) (hi:Bo N p=some true):∃ A,Full p A:=by
 obtain ⟨n,LH,LS,H,I,h⟩:=pin_full0 hN hp;obtain ⟨q1,q2⟩:=iso_parts hi h;have hg2:=h.g2;have hn8:=h.n8;have g0:=h.hG 0 (by omega);have g1:=h.hG 1 (by omega);have glt:=h.hlt 1 0 (by omega) (by omega);obtain ⟨E,f,T,hE,hP,h3⟩:=tight_state hN (n:=n) (by omega) (bars:=LS) h.okS (a:=p.ground.getD 0 0) (b:=p.ground.getD 1 0) ⟨g0.1,g0.2,g1.1,g1.2,by simp only; omega⟩;have okE:∀ e∈E,Bok n e:=hP.ok;have hEd:=hE.spr.nodup okE;have hEl:I.length=E.length:=bas_len h.okS (fun _=>Iff.rfl) h.bI hE;have tl:=hP.tl
 have hbd:p.g.bars.Nodup:=by
  obtain ⟨p1,p2,_⟩:=Gc hp;exact graph_nodup p1 p2
 have hE1:(E.filter fun e=>LH.contains e).length≤H.length:=spr_le h.bH.spr (hE.spr.sub List.filter_sublist) (fun e he=>h.okH e (h.bH.mem e he)) fun e he=>h.bH.spn e (by simpa using (List.mem_filter.1 he).2)
 have hsum:(E.filter fun e=>LH.contains e).length+(E.filter fun e=>!LH.contains e).length=E.length:=by
  exact Xz (fun e=>LH.contains e) E
 have hE2m:∀ e∈E.filter (fun e=>!LH.contains e),e∈p.g.bars:=fun e he=>by
  obtain ⟨a1,a2⟩:=List.mem_filter.1 he;rcases (h.mem e).1 (hE.mem e a1) with hh | hh
  ·have:LH.contains e=true:=by simpa using hh
   rw [this] at a2; cases a2
  exact hh
 have hE2:=Ed (hEd.filter fun e=>!LH.contains e) hE2m;have hhl:=h.hl
 have hbE:∀ e∈p.g.bars,e∈E:=fun e he=>by
  apply Classical.byContradiction;intro hn;have hd:(e::E.filter fun e=>!LH.contains e).Nodup:=List.nodup_cons.2 ⟨fun hh=>hn (List.mem_filter.1 hh).1,hEd.filter _⟩
  have:=Ed (L:=p.g.bars) hd fun x hx=>by
   rcases List.mem_cons.1 hx with rfl | hx
   ·exact he
   exact hE2m x hx
  rw [List.length_cons] at this;omega
 have hgm:∀ i,i<p.ground.length→p.ground.contains (p.ground.getD i 0)=true:=fun i hi=>by
  have:=Ci (l:=p.ground) (d:=0) hi;simpa using this
 have hHg:∀ e∈LH,p.ground.contains e.1=true∧p.ground.contains e.2=true:=fun e he=>by
  obtain ⟨i,j,a1,a2,rfl⟩:=h.hS.mem e he;exact ⟨hgm i (by omega),hgm j a2⟩
 have hown:∀ e∈E,ownr E T e=e.1∨ownr E T e=e.2:=fun e he=>by
  have hlt:E.idxOf e<E.length:=List.idxOf_lt_length_of_mem he;have:=hP.en _ hlt
  have e2:E.getD (E.idxOf e) (0,0)=e:=by
   rw [List.getD_eq_getElem?_getD,List.getElem?_eq_getElem hlt,Option.getD_some,List.getElem_idxOf hlt]
  rw [e2] at this;exact this
 have hTr:∀ v:Int,T.count v≤2:=fun v=>by
  by_cases hv:v∈T
  ·obtain ⟨i,hi,e⟩:=List.mem_iff_getElem.1 hv;have r:=hP.tail (i:=i) (by omega);have e2:T.getD i 0=v:=by rw [List.getD_eq_getElem?_getD,List.getElem?_eq_getElem hi,Option.getD_some,e]
   rw [e2] at r;have s:=hP.sm v.toNat (by omega);have nn:=hP.nn v.toNat (by omega);rw [show ((v.toNat:Nat):Int)=v by omega] at s;omega
  rw [List.count_eq_zero_of_not_mem hv]; omega
 have hG3:(T.countP fun v=>p.ground.contains v)+3≤2*p.ground.length:=by
  have a1:=hP.sum fun v=>p.ground.contains v;have a2:=vsz_ground (n:=n) (G:=p.ground);have a3:=fsum_ge (n:=n) (X:=fun v=>p.ground.contains v) (f:=f) (a:=(p.ground.getD 0 0).toNat) (b:=(p.ground.getD 1 0).toNat) (by omega) (by rw [show (((p.ground.getD 0 0).toNat:Nat):Int)=p.ground.getD 0 0 by omega]; exact hgm 0 (by omega)) (by rw [show (((p.ground.getD 1 0).toNat:Nat):Int)=p.ground.getD 1 0 by omega]; exact hgm 1 (by omega)) hP.nn n (Nat.le_refl _);rw [if_pos (by omega),if_pos (by omega)] at a3;omega
 have hng:∀ e∈p.g.bars,p.ground.contains (ownr E T e)=false:=fun e he=>by
  cases hc:p.ground.contains (ownr E T e) with
  | false=>rfl
  | true=>
   have hnb:=List.all_eq_true.1 (Gc hp).2.2.2.2.2.2 e he
   have hnH:e∉LH:=fun hh=>by
    have a:=hHg e hh;unfold Zt at hnb;rw [a.1,a.2] at hnb;cases hnb
   have hd:(e::E.filter fun e=>LH.contains e).Nodup:=List.nodup_cons.2 ⟨fun hh=>hnH (by simpa using (List.mem_filter.1 hh).2),hEd.filter _⟩
   have:=cnt_own hEd tl hd (fun v=>p.ground.contains v) fun x hx=>by
    rcases List.mem_cons.1 hx with rfl | hx
    ·exact ⟨hbE _ he,hc⟩
    obtain ⟨a1,a2⟩:=List.mem_filter.1 hx;have hg:=hHg x (by simpa using a2);refine ⟨a1,?_⟩;rcases hown x a1 with e2 | e2
    ·simp only [e2]; exact hg.1
    simp only [e2]; exact hg.2
   rw [List.length_cons] at this;omega
 refine ⟨p.g.bars.map (ownr E T),by simp,fun i _ hi=>?_,fun v=>?_⟩
 ·have e2:(p.g.bars.map (ownr E T)).getD i 0=ownr E T (p.g.bars.getD i (0,0)):=by
   rw [List.getD_eq_getElem?_getD,List.getElem?_map,List.getD_eq_getElem?_getD,List.getElem?_eq_getElem hi]; rfl
  have hm:=Ci (l:=p.g.bars) (d:=(0,0)) hi;unfold OwnAt;rw [e2];exact ⟨hown _ (hbE _ hm),hng _ hm⟩
 have e1:(p.g.bars.map (ownr E T)).take p.g.bars.length=p.g.bars.map (ownr E T):=List.take_of_length_le (by simp);rw [e1];refine Nat.le_trans ?_ (hTr v)
 have:=cnt_own hEd tl (hbd.filter fun e=>ownr E T e==v) (fun x=>x==v) fun x hx=>by
  obtain ⟨a1,a2⟩:=List.mem_filter.1 hx;exact ⟨hbE _ a1,a2⟩
 rw [←List.countP_eq_length_filter] at this;rw [List.count,List.countP_map];exact this
theorem count_sum {Q:List Int} (hQ:Q.Nodup):∀ {A:List Int},(∀ x∈A,x∈Q)→(Q.map fun q=>A.count q).sum=A.length
 | [],_=>by
  have:∀ Q:List Int,(Q.map fun q=>([]:List Int).count q).sum=0:=fun Q=>by
   induction Q with
   | nil=>rfl
   | cons a R ih=>simpa using ih
  exact this Q
 | x::A,h=>by
  have ih:=count_sum hQ (A:=A) fun y hy=>h y (by simp [hy])
  have hx:Q.count x=1:=by
   have:=hQ.count (a:=x);rw [this,if_pos (h x (by simp))]
  have:∀ Q:List Int,(Q.map fun q=>(x::A).count q).sum=Q.count x+(Q.map fun q=>A.count q).sum:=fun Q=>by
   induction Q with
   | nil=>rfl
   | cons a R ih=>
    rw [List.map_cons,List.sum_cons,List.map_cons,List.sum_cons,ih,List.count_cons,List.count_cons];by_cases e:x=a
    ·subst e; simp; omega
    have e1:(x==a)=false:=by simpa using e
    have e2:(a==x)=false:=by simpa using fun h=>e h.symm
    rw [e1,e2]; simp; omega
  rw [this Q,ih,hx,List.length_cons]; omega
theorem all_two:∀ {Q:List Int} {c:Int→Nat},(∀ q∈Q,c q≤2)→(Q.map c).sum=2*Q.length→∀ q∈Q,c q=2
 | [],c,_,_=>by simp
 | a::Q,c,h,hs=>by
  have hb:∀ {Q:List Int},(∀ q∈Q,c q≤2)→(Q.map c).sum≤2*Q.length:=fun {Q}=>by
   induction Q with
   | nil=>intro _; simp
   | cons b Q ih=>
    intro h;have:=ih fun q hq=>h q (by simp [hq]);have:=h b (by simp);simp; omega
  have h1:=hb (Q:=Q) fun q hq=>h q (by simp [hq]);have h2:=h a (by simp);simp at hs;have ih:=all_two (Q:=Q) (c:=c) (fun q hq=>h q (by simp [hq])) (by omega);intro q hq;rcases List.mem_cons.1 hq with rfl | hq
  ·omega
  exact ih q hq
theorem full_two {p:Pin} (hp:Aw p=true) {A:List Int} (hA:Full p A) (hl:p.g.bars.length=2*(Af p).length):∀ v∈Af p,A.count v=2:=by
 obtain ⟨h1,h2,h3⟩:=hA
 have hnd:(Af p).Nodup:=by
  unfold Af;rw [hp,cnd_true,inner]
  have h0:((List.range p.g.n.toNat).map fun (i:Nat)=>(i:Int)).Nodup:=by
   rw [List.nodup_iff_pairwise_ne];exact List.Pairwise.map _ (fun a b h=>by omega) (List.nodup_iff_pairwise_ne.1 List.nodup_range)
  exact h0.filter _
 have hm:∀ x∈A,x∈Af p:=fun x hx=>by
  obtain ⟨i,hi,e⟩:=List.mem_iff_getElem.1 hx;have h4:=h2 i (by omega) (by omega);unfold OwnAt at h4;rw [List.getD_eq_getElem?_getD,List.getElem?_eq_getElem hi,Option.getD_some,e] at h4;have hbar:=Jv hp (i:=i) (by omega)
  have:(Af p).contains x=true:=by
   rw [Jy hp,Ps,h4.2,inB_true.2 (by omega)]; rfl
  simpa using this
 refine all_two (fun q hq=>?_) ((count_sum hnd hm).trans (by omega));have:=h3 q
 rwa [List.take_of_length_le (by omega)] at this
theorem areOwners_t (hN:4000000≤N) {p:Pin} (hp:Aw p=true) {A:List Int} (hA:Full p A) (h2:∀ v∈Af p,A.count v=2):Fx N p A=some true:=by
 have hbd:=Bg hp;obtain ⟨hl,ho,_⟩:=hA
 have hin:∀ i,i<(Af p).length→0≤(Af p).getD i 0∧(Af p).getD i 0<p.g.n:=fun i hi=>by
  have h1:(Af p).contains ((Af p).getD i 0)=true:=by
   simp [List.getD_eq_getElem?_getD,hi]
  rw [Jy hp,Ps,Bool.and_eq_true] at h1;have:=inB_true.1 h1.1;omega
 have hlen:(Af p).length≤8:=by
  unfold Af; rw [hp,cnd_true,Ee];have:=Jn p.ground p.g.n.toNat; omega
 have last:∀ c:List Int,c.length=p.g.n.toNat→(∀ v:Int,0≤v→v<p.g.n→c.getD v.toNat 0=(A.count v:Int))→Cq N p c (Af p) (fun _=>some true) N 0=some true:=fun c hc hv=>by
  refine (srch (len:=(Af p).length) (ok:=fun _=>true) (bad:=some false) (fin:=some true) (by omega) ?_ ?_).trans (by rw [show ((List.range (Af p).length).all fun _=>true)=true from List.all_eq_true.2 fun _ _=>O,cnd_true])
  ·intro n i hi _;have:=hin i hi;have e:=hv _ this.1 this.2;rw [h2 _ (Ci hi)] at e;rw [Cq];simp (disch:=omega) only [pst,List.length_replicate,Am,cnd_true];rw [Fy (by rw [e]; rfl)]
  intro n _;rw [Cq];simp (disch:=omega) only [pst]
 have loop:∀ (n i:Nat) (c:List Int),i≤A.length→A.length<n+i→c.length=p.g.n.toNat→(∀ v:Int,0≤v→v<p.g.n→c.getD v.toNat 0=((A.take i).count v:Int)) →
   Dt N p A (fun (l10:List Int)=>(Fi N p).bind fun v11=>Cq N p l10 v11 (fun (_:Unit)=>some true) N (0:Int)) n (c,(i:Int))=some true:=by
  intro n
  induction n with
  | zero=>intro i c h1 h2; omega
  | succ n ih=>
   intro i c h1 h2 hc hv;rw [Dt];by_cases hi:i<A.length
   ·have hbar:=Jv hp (i:=i) (by omega);obtain ⟨o1,o2⟩:=ho i (by omega) (by omega)
    have he:Mu (p.g.bars.getD i (0,0)) (A.getD i 0)=true:=by
     rcases o1 with o | o
     ·exact hasEnd_1 o.symm
     exact hasEnd_2 o.symm
    have hx:0≤A.getD i 0∧A.getD i 0<p.g.n:=by omega
    have hiI:Ps p (A.getD i 0)=true:=by rw [Ps,o2,inB_true.2 (by omega)]; rfl
    have hcv:=hv _ hx.1 hx.2;have hle:(A.take i).count (A.getD i 0)≤i:=Nat.le_trans List.count_le_length (by rw [List.length_take]; omega);simp (disch:=omega) only [pst,bhas_s,Pj N hN hp,he,hiI,Bool.not_true,List.length_replicate,Am];refine ih (i+1) _ (by omega) (by omega) (by simp [hc]) fun v v0 v1=>?_
    have ht:A.take (i+1)=A.take i++[A.getD i 0]:=by
     rw [List.take_add_one,List.getElem?_eq_getElem hi,List.getD_eq_getElem?_getD,List.getElem?_eq_getElem hi]; rfl
    rw [ht,List.count_append,List.getD_eq_getElem?_getD,List.getElem?_set];by_cases e:v=A.getD i 0
    ·subst e;rw [if_pos rfl,if_pos (by omega),Option.getD_some,hcv,List.count_singleton_self]; omega
    have e2:[A.getD i 0].count v=0:=by rw [List.count_eq_zero]; simpa using e
    rw [if_neg (by omega),e2,←List.getD_eq_getElem?_getD,hv v v0 v1]; omega
   have:i=A.length:=by omega
   subst this;simp (disch:=omega) only [pst,Yk N hN (show p.g.bars.length≤3000000 by omega) (show p.ground.length≤3000000 by omega)];refine last c hc fun v v0 v1=>?_;have:=hv v v0 v1
   rwa [List.take_length] at this
 unfold Fx;rw [Jp N hN (by omega) (by omega),hp,Option.bind_some,Bool.not_true,cnd_false,Fy (by omega),Ao (by omega)]
 exact loop N 0 _ (by omega) (by omega) (by simp) fun v v0 v1=>by
  simp only [List.getD_eq_getElem?_getD,List.getElem?_replicate,List.take_zero,List.count_nil];split <;> simp
end
section
open Go.RowKit Go.Deep
def klXS (r:Nat):D→D
 | .row x o n=>match (Nat.beq x r || !Gg x) with | true=>.dead | false=>.row x o n
 | .eptr x i o=>match (Nat.beq x r || !Gg x) with | true=>.dead | false=>.eptr x i o
 | .agg _ | .tup _ | .irow _ _ _ | .iptr _ _ _ _=>.dead
 | d=>d
def klXA (r:Nat):D→D
 | .agg l=>.agg (l.map (klXS r))
 | d=>klXS r d
def klX (r:Nat):D→D
 | .tup l=>.tup (l.map (klXA r))
 | d=>klXA r d
def PS.killX (s:PS) (r:Nat):PS:=⟨s.tmp.map fun p=>(p.1,klX r p.2),s.row,s.box.map fun p=>(p.1,p.2.map fun cs=>cs.map (klXS r))⟩
section
variable {M M':Mp} {A A':Bool→Nat→Prop} {w w':World} {r:Nat} {s:PS}
theorem VR.klXS (hA:∀ f b,b<w.heap.size→A f b→A' f b∧b<w'.heap.size∧w'.heap[b]? = w.heap[b]?) (hγ:∀ x y,x≠r→Gg x=true→M'.γ x=some y→M.γ x=some y) (hβ:∀ b k,M'.β b=some k→M.β b=some k)
  {d:D} {v:Value} (h:VR M A w d v):VR M' A' w' (klXS r d) v:=by
 cases h with
 | dead v=>exact .dead v
 | int n=>exact .int n
 | bool b=>exact .bool b
 | val v h=>exact .val v h
 | nil ao=>exact .nil ao
 | ro f q ao cap b o u hn hc hao hu hv=>exact VR.ro_any (.ro f q ao cap b o u hn hc hao hu hv) hA
 | row x off n v h1 h=>
  simp only [Ytaipbhnpandbkaa.klXS];split
  ·exact .dead _
  rename_i hx;rw [Bool.or_eq_false_iff] at hx;exact .row _ off n v h1 fun y hy=>h y (hγ _ y (fun e=>by subst e; rw [Nat.beq_refl] at hx; cases hx.1) (by simpa using hx.2) hy)
 | ptr b off v h1 h=>exact .ptr _ off v h1 fun k hk=>h k (hβ b k hk)
 | eptr x i off v h=>
  simp only [Ytaipbhnpandbkaa.klXS];split
  ·exact .dead _
  rename_i hx;rw [Bool.or_eq_false_iff] at hx;exact .eptr _ i off v fun g c z hg=>h g c z (hγ _ _ (fun e=>by subst e; rw [Nat.beq_refl] at hx; cases hx.1) (by simpa using hx.2) hg)
 | rptr f q i off b o u hb hA' hu hv=>exact VR.rptr_any (.rptr f q i off b o u hb hA' hu hv) hA
 | agg l us hl h=>exact .dead _
 | tup l us hl h=>exact .dead _
 | clo f bs v h1 h=>exact .clo f bs v h1 fun ks hk=>h ks (Pw (fun b _=>hβ b) hk)
 | map k l es clock h hl hk=>obtain ⟨a1,a2,a3⟩:=hA _ k (Tv h) hk; exact .map k l es clock (a3.trans h) hl a1
 | any v h1=>exact .any v h1
 | irow F k n v h1 h=>exact .dead _
 | iptr F k i off v h=>exact .dead _
 | fam te q v=>exact .fam te q v
theorem VR.klXA (hA:∀ f b,b<w.heap.size→A f b→A' f b∧b<w'.heap.size∧w'.heap[b]? = w.heap[b]?) (hγ:∀ x y,x≠r→Gg x=true→M'.γ x=some y→M.γ x=some y) (hβ:∀ b k,M'.β b=some k→M.β b=some k)
  {d:D} {v:Value} (h:VR M A w d v):VR M' A' w' (klXA r d) v:=by
 cases d with
 | agg l=>
  cases h with | agg _ us hl h=>
  refine .agg _ us (by simpa using hl) fun i d hd=>?_;rw [List.getElem?_map] at hd;obtain ⟨d0,h0,rfl⟩:=Option.map_eq_some_iff.1 hd;exact (h i d0 h0).klXS hA hγ hβ
 | _=>exact VR.klXS hA hγ hβ h
theorem VR.klX (hA:∀ f b,b<w.heap.size→A f b→A' f b∧b<w'.heap.size∧w'.heap[b]? = w.heap[b]?) (hγ:∀ x y,x≠r→Gg x=true→M'.γ x=some y→M.γ x=some y) (hβ:∀ b k,M'.β b=some k→M.β b=some k)
  {d:D} {v:Value} (h:VR M A w d v):VR M' A' w' (klX r d) v:=by
 cases d with
 | tup l=>
  cases h with | tup _ us hl h=>
  refine .tup _ us (by simpa using hl) fun i d hd=>?_;rw [List.getElem?_map] at hd;obtain ⟨d0,h0,rfl⟩:=Option.map_eq_some_iff.1 hd;exact (h i d0 h0).klXA hA hγ hβ
 | _=>exact VR.klXA hA hγ hβ h
theorem PS.t_killX (s:PS) (r t:Nat):(s.killX r).t t=klX r (s.t t):=by
 unfold PS.t PS.killX;simp only [Yi (klX r)];cases Bh s.tmp t <;> rfl
theorem PS.b_killX (s:PS) (r b:Nat):(s.killX r).b b=(s.b b).map fun cs=>cs.map (klXS r):=by
 unfold PS.b PS.killX;simp only [Yi (fun (x:Option (List D))=>x.map fun cs=>cs.map (Ytaipbhnpandbkaa.klXS r))];cases Bh s.box b <;> rfl
end
def lone (s:PS) (R F:Nat):Bool:=s.row.all fun p=>Nat.beq p.1 R || (match s.r p.1 with | some (_,q)=>(match q.refF with | some G=>!Nat.beq G F&&Nat.blt G 4294967296 | none=>true) | none=>true)
theorem Ts {s:PS} {R F:Nat} (hl:lone s R F=true) {x:Nat} {e:TypeId} {q:Sq} {G:Nat} (hx:s.r x=some (e,q)) (hG:q.refF=some G):x=R∨(G≠F∧G<4294967296):=by
 cases hb:Nat.ble BIG x with
 | true=>
  rw [PS.r_hi _ hb] at hx;have:=Aab hx;cases q <;> simp [Sq.refF,Sq.isRefs] at hG this
 | false=>
  have hx':=hx;rw [PS.r_lo _ hb] at hx';split at hx'
  ·rename_i y hy;have:=(List.all_eq_true.1 hl) _ (Gh hy);simp only [hx,hG,Bool.or_eq_true,Bool.and_eq_true,Bool.not_eq_true',Nat.blt_eq] at this;rcases this with h1 | ⟨h1,h2⟩
   ·exact .inl (Nat.eq_of_beq_eq_true h1)
   exact .inr ⟨fun e=>(by rw [e,Nat.beq_refl] at h1; cases h1),h2⟩
  cases hx'
section
variable {w0:World} {O0:Hd} {n:Nat} {M:Mp} {s:PS} {a:Act} {w:World}
theorem Rel.remap (h:Rel w0 O0 n M s a w) {M':Mp} {s':PS} (r F:Nat) (hF:F<4294967296) (hβ:∀ b,M'.β b=M.β b) (hsub:∀ x k c z,M'.γ x=some (some (k,c,z))→∃ y,M.γ y=some (some (k,c,z)))
  (hinj:∀ x y k c z c' z',M'.γ x=some (some (k,c,z))→M'.γ y=some (some (k,c',z'))→x=y)
  (hγ':∀ x y,x≠r→Gg x=true→M'.γ x=some y→M.γ x=some y) (hγk:∀ x y,x≠FK+F→Gg x=false→Nat.ble BIG x=false→M'.γ x=some y→M.γ x=some y) (hrr:r<1000000∨M'.γ r=none) (hfk:∀ u u',O0.fr (FK+F)=some u→M'.γ (FK+F)=some u'→u'=u)
  (hbg:∀ G k y,G<4294967296→G≠F→M'.γ (inn G k)=some y→M.γ (inn G k)=some y)
  (ht:∀ t,VR M' (Ow (Fs w0 O0) M') w (s'.t t) (a.tmps.getD t undef)) (hb:∀ b,s'.b b=(s.b b).map fun cs=>cs.map (klXS r))
  (hrow:∀ x e q,s'.r x=some (e,q)→(s.r x=some (e,q)∧M'.γ x=M.γ x∧∀ G,q.refF=some G→G≠F∧G<4294967296)∨RowAt (Fs w0 O0) M' w x e q) (hrown:∀ x,s'.r x=none→M'.γ x=none):Rel w0 O0 n M' s' a w:=by
 have hown:∀ k,M'.owned k→M.owned k:=by
  rintro k (⟨b,hb⟩ | ⟨y,c,z,hy⟩)
  ·exact .inl ⟨b,by rw [←hβ]; exact hb⟩
  obtain ⟨x,hx⟩:=hsub _ _ _ _ hy; exact .inr ⟨x,c,z,hx⟩
 have hA:∀ f b,b<w.heap.size→Ow (Fs w0 O0) M f b→Ow (Fs w0 O0) M' f b∧b<w.heap.size∧w.heap[b]? = w.heap[b]?:=fun f b h1 h2=>⟨⟨fun h3=>h2.1 (hown b h3),h2.2⟩,h1,rfl⟩;refine ⟨h.fr,h.dfr,h.sz,ht,fun b cs hx=>?_,fun b hx=>?_,fun x e q hx=>?_,hrown,fun k hk=>h.low k (hown k hk),fun b b' k h1 h2=>h.inj1 b b' k (by rw [←hβ]; exact h1) (by rw [←hβ]; exact h2),hinj,fun b x k c z h1 h2=>?_,h.nle,fun b k k' h1 h2=>h.fxb b k k' h1 (by rw [←hβ]; exact h2),fun x u u' h1 h2=>?_⟩
 ·rw [hb] at hx;obtain ⟨cs0,h0,rfl⟩:=Option.map_eq_some_iff.1 hx;obtain ⟨k,cur,e2,a1,a2,a3,a4⟩:=h.box b cs0 h0;refine ⟨k,cur,e2,by rw [hβ]; exact a1,a2,by simpa using a3,fun j d hd=>?_⟩;rw [List.getElem?_map] at hd;obtain ⟨d0,h1,rfl⟩:=Option.map_eq_some_iff.1 hd;exact VR.klXS hA hγ' (fun b k hk=>by rw [←hβ]; exact hk) (a4 j d0 h1)
 ·rw [hb] at hx;rw [hβ]; exact h.boxn b (by simpa using hx)
 ·rcases hrow x e q hx with ⟨h1,h2,h3⟩ | h1
  ·rcases h.row x e q h1 with ⟨g1,g2⟩ | ⟨g,cap,cur,g1,g2,g3,g4,g5,g6⟩
   ·exact .inl ⟨h2.trans g1,g2⟩
   refine .inr ⟨g,cap,cur,h2.trans g1,g2,g3,g4,g5,fun i j d hi hd=>(g6 i j d hi hd).relem_any2 hd hA fun G hG k y hy=>?_⟩;exact hbg G k y (h3 G hG).2 (h3 G hG).1 hy
  exact h1
 ·obtain ⟨y,hy⟩:=hsub _ _ _ _ h2;exact h.inj3 _ _ _ _ _ (by rw [←hβ]; exact h1) hy
 obtain ⟨h3,h4⟩:=O0.lor x u h1
 have hb1:Nat.ble BIG x=false:=by
  cases hb:Nat.ble BIG x with
  | false=>rfl
  | true=>have:=Nat.le_of_ble_eq_true hb; omega
 by_cases hxr:x=r
 ·subst hxr;rcases hrr with h5 | h5
  ·omega
  rw [h5] at h2; cases h2
 cases hn:Gg x with
 | true=>exact h.fxr x u u' h1 (hγ' x u' hxr hn h2)
 | false=>
  by_cases hxf:x=FK+F
  ·rw [hxf] at h1 h2; exact hfk u u' h1 h2
  exact h.fxr x u u' h1 (hγk x u' hxf hn hb1 h2)
end
end
section
open Go.RowKit Go.Deep
def Fq.len:Fq→Nat
 | .ints L=>L.length | .pairs L=>L.length | .bools L=>L.length
def Fq.push:Fq→Sq→Option Fq
 | .ints L,.ints c=>some (.ints (L++[some c])) | .pairs L,.pairs c=>some (.pairs (L++[some c])) | .bools L,.bools c=>some (.bools (L++[some c]))
 | _,_=>none
def Fq.hole:Fq→Nat→Fq
 | .ints L,k=>.ints (L.set k none) | .pairs L,k=>.pairs (L.set k none) | .bools L,k=>.bools (L.set k none)
theorem Ru {α:Type} (L:List (Option α)) (c:α) (k:Nat):(L++[some c]).getD k none=if k=L.length then some c else L.getD k none:=by
 by_cases h:k=L.length
 ·subst h; simp
 rw [if_neg h];by_cases h2:k<L.length
 ·simp [List.getElem?_append_left h2]
 have h3:L.length<k:=by omega
 simp [List.getElem?_append_right (show L.length≤k by omega),List.getElem?_eq_none (show L.length≤k by omega),List.getElem?_eq_none (show [some c].length≤k-L.length by simp; omega)]
theorem Fq.get_push {fq fq':Fq} {c:Sq} (h:fq.push c=some fq') (k:Nat):fq'.get k=if k=fq.len then some c else fq.get k:=by
 cases fq <;> cases c <;> simp only [Fq.push,reduceCtorEq,Option.some.injEq] at h <;> subst h <;> simp only [Fq.get,Fq.len,Ru] <;> (rename_i L l; by_cases hk:k=L.length <;> simp [hk])
theorem getD_hole {α:Type} (L:List (Option α)) (k j:Nat):(L.set k none).getD j none=if j=k then none else L.getD j none:=by
 by_cases h:j=k
 ·subst h;simp only [if_true,List.getD_eq_getElem?_getD,List.getElem?_set];split <;> simp
 simp [h,List.getD_eq_getElem?_getD,List.getElem?_set,Ne.symm h]
theorem Fq.get_hole (fq:Fq) (k j:Nat):(fq.hole k).get j=if j=k then none else fq.get j:=by
 cases fq <;> simp only [Fq.hole,Fq.get,getD_hole] <;> split <;> split <;> simp_all
theorem Fq.get_flat {fq:Fq} {k:Nat} {c:Sq} (h:fq.get k=some c):c.isRefs=false:=by
 cases fq <;> simp only [Fq.get] at h <;> split at h <;> first | (cases h; done) | (cases h; rfl)
theorem Sz {x:Nat} (h:Nat.ble BIG x=true):inn (unF x) (unK x)=x:=by
 have h1:=Nat.le_of_ble_eq_true h;have e:∀ y:Nat,y / 4294967296*4294967296+y % 4294967296 % 4294967296=y:=fun y=>by omega
 have:=e (x-BIG);unfold inn unF unK;rw [this];omega
theorem fam_r {s:PS} {F:Nat} (hF:F<4294967296) {te:TypeId} {fq:Fq} (hf:s.r (FK+F)=some (te,.fam fq)) (i:Nat):s.r (inn F i)=match fq.get i with | some c=>some (te,c) | none=>none:=by
 rw [PS.r_hi _ (Hf F i),PS.inn_r,Zs hF,hf,Mt];rfl
def Tw (M:Mp) (r F:Nat) (fq:Fq) (g:Nat→Nat):Mp:=⟨M.β,fun x=>match Nat.ble BIG x with
 | true=>if unF x=F then (match fq.get (unK x) with | some _=>M.γ (g (unK x)) | none=>none) else M.γ x
 | false=>if x=r then none else M.γ x⟩
theorem famM_hi (M:Mp) (r F:Nat) (fq:Fq) (g:Nat→Nat) {x:Nat} (hb:Nat.ble BIG x=true) (hu:unF x=F):(Tw M r F fq g).γ x=match fq.get (unK x) with | some _=>M.γ (g (unK x)) | none=>none:=by
 simp only [Tw];rw [hb];simp [hu]
theorem famM_hi2 (M:Mp) (r F:Nat) (fq:Fq) (g:Nat→Nat) {x:Nat} (hb:Nat.ble BIG x=true) (hu:unF x≠F):(Tw M r F fq g).γ x=M.γ x:=by
 simp only [Tw];rw [hb];simp [hu]
theorem Sp (M:Mp) (r F:Nat) (fq:Fq) (g:Nat→Nat) (hF:F<4294967296) (k:Nat):(Tw M r F fq g).γ (inn F k)=match fq.get k with | some _=>M.γ (g k) | none=>none:=by
 have:=famM_hi M r F fq g (Hf F k) (by rw [Jr,Nat.mod_eq_of_lt hF]);rw [Mt] at this;exact this
theorem famM_inn2 (M:Mp) (r F:Nat) (fq:Fq) (g:Nat→Nat) {G:Nat} (hG:G<4294967296) (hne:G≠F) (k:Nat):(Tw M r F fq g).γ (inn G k)=M.γ (inn G k):=
 famM_hi2 M r F fq g (Hf G k) (by rw [Jr,Nat.mod_eq_of_lt hG]; exact hne)
theorem Kl (M:Mp) (r F:Nat) (fq:Fq) (g:Nat→Nat) {x:Nat} (hb:Nat.ble BIG x=false) (hx:x≠r):(Tw M r F fq g).γ x=M.γ x:=by
 simp only [Tw];rw [hb];simp [hx]
theorem famM_r (M:Mp) (r F:Nat) (fq:Fq) (g:Nat→Nat) (hb:Nat.ble BIG r=false):(Tw M r F fq g).γ r=none:=by
 simp only [Tw];rw [hb];simp
theorem VR.irow_mv {M M':Mp} {A A':Bool→Nat→Prop} {w w':World} {F F' k k' n:Nat} {v:Value} (hv:VR M A w (.irow F k n) v) (h:∀ x,M'.γ (inn F' k')=some x→M.γ (inn F k)=some x):VR M' A' w' (.irow F' k' n) v:=by
 cases hv with | irow _ _ _ _ h1 h2=>exact .irow _ _ _ _ h1 fun x hx=>h2 x (h x hx)
theorem VR.irow_of {M M':Mp} {A A':Bool→Nat→Prop} {w w':World} {F' r k' n:Nat} {v:Value} (hv:VR M A w (.row r 0 n) v) (h:∀ x,M'.γ (inn F' k')=some x→M.γ r=some x):VR M' A' w' (.irow F' k' n) v:=by
 cases hv with | row _ _ _ _ h1 h2=>exact .irow _ _ _ _ h1 fun x hx=>h2 x (h x hx)
theorem RowAt.mv {F:Bool→Nat→Prop} {M M':Mp} {w:World} {x y:Nat} {e:TypeId} {q:Sq} (h:RowAt F M w x e q) (hq:q.isRefs=false) (hγ:M'.γ y=M.γ x) (hA:∀ f b,b<w.heap.size→Ow F M f b→Ow F M' f b∧b<w.heap.size∧w.heap[b]? = w.heap[b]?):RowAt F M' w y e q:=by
 rcases h with ⟨g1,g2⟩ | ⟨g,cap,cur,g1,g2,g3,g4,g5,g6⟩
 ·exact .inl ⟨hγ.trans g1,g2⟩
 refine .inr ⟨g,cap,cur,hγ.trans g1,g2,g3,g4,g5,fun i j d hi hd=>?_⟩;have hd':=hd;rw [Sq.relem_eq hq] at hd';exact (g6 i j d hi hd).elem_any hd' hA
section
variable {w0:World} {O0:Hd} {n:Nat} {M:Mp} {s:PS} {a:Act} {w:World}
theorem Rel.refam (h:Rel w0 O0 n M s a w) {s':PS} (r R F:Nat) (hF:F<4294967296) {te:TypeId} {fq fq':Fq} (g:Nat→Nat) {yR:Option (TypeId×Sq)}
  (hr:r<1000000) (hR:Gg R=true) (hrR:r≠R) (hf:s.r (FK+F)=some (te,.fam fq)) (hl:lone s R F=true)
  (hg:∀ k c,fq'.get k=some c→s.r (g k)=some (te,c)) (hinj:∀ k k' c c',fq'.get k=some c→fq'.get k'=some c'→g k=g k'→k=k') (hsrc:∀ k c,fq'.get k=some c→g k=r∨∃ j,g k=inn F j)
  (hs:∀ x,s'.r x=match Nat.ble BIG x with | true=>(if unF x=F then Abk (some (some (te,.fam fq'))) (unK x) else s.r x) | false=>if x=r then none else if x=FK+F then some (te,.fam fq') else if x=R then yR else s.r x)
  (hyR:∀ e q,yR=some (e,q)→RowAt (Fs w0 O0) (Tw M r F fq' g) w R e q) (hyn:yR=none→M.γ R=none)
  (ht:∀ t,VR (Tw M r F fq' g) (Ow (Fs w0 O0) (Tw M r F fq' g)) w (s'.t t) (a.tmps.getD t undef)) (hb:∀ b,s'.b b=(s.b b).map fun cs=>cs.map (klXS r)):Rel w0 O0 n (Tw M r F fq' g) s' a w:=by
 have hrb:Nat.ble BIG r=false:=Cn (Dd hr);have hRb:Nat.ble BIG R=false:=Cn hR;have hfr:FK+F≠r:=fun e=>by have:=Dd hr; rw [←e] at this; have h2:=Lw (inn F 0); rw [Zs hF] at h2; rw [h2] at this; cases this
 have hfR:FK+F≠R:=fun e=>by rw [←e] at hR; have h2:=Lw (inn F 0); rw [Zs hF] at h2; rw [h2] at hR; cases hR
 have cases3:∀ x y,(Tw M r F fq' g).γ x=some y→(∃ k c,x=inn F k∧fq'.get k=some c∧M.γ (g k)=some y)∨(M.γ x=some y∧x≠r∧∀ j,x≠inn F j):=fun x y hx=>by
  cases hbx:Nat.ble BIG x with
  | true=>
   by_cases hu:unF x=F
   ·have hxe:x=inn F (unK x):=by rw [←hu]; exact (Sz hbx).symm
    rw [hxe,Sp _ _ _ _ _ hF] at hx;split at hx
    ·rename_i c hc; exact .inl ⟨_,c,hxe,hc,hx⟩
    cases hx
   simp only [Tw,hbx,hu,if_false] at hx;refine .inr ⟨hx,fun e=>(by rw [e,hrb] at hbx; cases hbx),fun j e=>hu (by rw [e,Jr,Nat.mod_eq_of_lt hF])⟩
  | false=>
   simp only [Tw,hbx] at hx;split at hx
   ·cases hx
   rename_i hxr;exact .inr ⟨hx,hxr,fun j e=>by rw [e,Hf] at hbx; cases hbx⟩
 have hsub:∀ x k c z,(Tw M r F fq' g).γ x=some (some (k,c,z))→∃ y,M.γ y=some (some (k,c,z)):=fun x k c z hx=>by
  rcases cases3 x _ hx with ⟨_,_,_,_,h1⟩ | ⟨h1,_⟩
  ·exact ⟨_,h1⟩
  exact ⟨_,h1⟩
 have hown:∀ k,(Tw M r F fq' g).owned k→M.owned k:=by
  rintro k (⟨b,hb⟩ | ⟨y,c,z,hy⟩)
  ·exact .inl ⟨b,hb⟩
  obtain ⟨x,hx⟩:=hsub _ _ _ _ hy; exact .inr ⟨x,c,z,hx⟩
 have hA:∀ f b,b<w.heap.size→Ow (Fs w0 O0) M f b→Ow (Fs w0 O0) (Tw M r F fq' g) f b∧b<w.heap.size∧w.heap[b]? = w.heap[b]?:=fun f b h1 h2=>⟨⟨fun h3=>h2.1 (hown b h3),h2.2⟩,h1,rfl⟩;refine h.remap (s':=s') r F hF (fun _=>O) hsub (fun x y k c z c' z' h1 h2=>?_) (fun x y h1 h2 h3=>?_) (fun x y h1 h2 h3 h4=>?_) (.inl hr) (fun u u' h1 h2=>?_) (fun G k y h1 h2 h3=>?_) ht hb (fun x e q hx=>?_) fun x hx=>?_
 ·rcases cases3 x _ h1 with ⟨k1,c1,rfl,g1,g2⟩ | ⟨g1,g2,g3⟩
  ·rcases cases3 y _ h2 with ⟨k2,c2,rfl,g4,g5⟩ | ⟨g4,g5,g6⟩
   ·have:=h.inj2 _ _ _ _ _ _ _ g2 g5;rw [hinj k1 k2 c1 c2 g1 g4 this]
   exfalso;have:=h.inj2 _ _ _ _ _ _ _ g2 g4;rcases hsrc k1 c1 g1 with h5 | ⟨j,h5⟩
   ·exact g5 (by rw [←this,h5])
   exact g6 j (by rw [←this,h5])
  rcases cases3 y _ h2 with ⟨k2,c2,rfl,g4,g5⟩ | ⟨g4,g5,g6⟩
  ·exfalso;have:=h.inj2 _ _ _ _ _ _ _ g1 g5;rcases hsrc k2 c2 g4 with h5 | ⟨j,h5⟩
   ·exact g2 (by rw [this,h5])
   exact g3 j (by rw [this,h5])
  exact h.inj2 _ _ _ _ _ _ _ g1 g4
 ·rw [Kl _ _ _ _ _ (Cn h2) h1] at h3; exact h3
 ·by_cases hxr:x=r
  ·rw [hxr,famM_r _ _ _ _ _ hrb] at h4; cases h4
  rw [Kl _ _ _ _ _ h3 hxr] at h4; exact h4
 ·rw [Kl _ _ _ _ _ (Ya hF) hfr] at h2;exact h.fxr _ _ _ h1 h2
 ·rw [famM_inn2 _ _ _ _ _ h1 h2] at h3; exact h3
 ·rw [hs] at hx
  cases hbx:Nat.ble BIG x with
  | true=>
   rw [hbx] at hx;by_cases hu:unF x=F
   ·have hxe:x=inn F (unK x):=by rw [←hu]; exact (Sz hbx).symm
    simp only [hu,if_true,Abk] at hx;split at hx
    ·rename_i c hc;cases hx;right;have h1:=h.row _ _ _ (hg _ _ hc);refine h1.mv (Fq.get_flat hc) ?_ hA;rw [hxe,Sp _ _ _ _ _ hF,Mt,hc]
    cases hx
   simp only [hu,if_false] at hx;refine .inl ⟨hx,by simp only [Tw,hbx,hu,if_false],fun G hG=>?_⟩;rcases Ts hl hx hG with h1 | h1
   ·rw [h1,hRb] at hbx; cases hbx
   exact h1
  | false=>
   rw [hbx] at hx;simp only at hx;split at hx
   ·cases hx
   rename_i hxr;split at hx
   ·rename_i hxf;cases hx;right;rcases h.row _ _ _ hf with ⟨g1,g2⟩ | ⟨gg,cap,cur,g1,g2,g3,g4,g5,g6⟩
    ·exact .inl ⟨by rw [hxf,Kl _ _ _ _ _ (Ya hF) hfr]; exact g1,O⟩
    exact .inr ⟨gg,cap,cur,by rw [hxf,Kl _ _ _ _ _ (Ya hF) hfr]; exact g1,g2,Nat.zero_le _,g4,g5,fun i j d hi hd=>absurd hi (Nat.not_lt_zero _)⟩
   rename_i hxf;split at hx
   ·rename_i hxR;right;rw [hxR]; exact hyR e q hx
   rename_i hxR;refine .inl ⟨hx,Kl _ _ _ _ _ hbx hxr,fun G hG=>?_⟩;rcases Ts hl hx hG with h1 | h1
   ·exact absurd h1 hxR
   exact h1
 rw [hs] at hx
 cases hbx:Nat.ble BIG x with
 | true=>
  rw [hbx] at hx;by_cases hu:unF x=F
  ·have hxe:x=inn F (unK x):=by rw [←hu]; exact (Sz hbx).symm
   simp only [hu,if_true,Abk] at hx;rw [hxe,Sp _ _ _ _ _ hF];split at hx
   ·cases hx
   rename_i hc; rw [hc]
  simp only [hu,if_false] at hx;simp only [Tw,hbx,hu,if_false];exact h.rown x hx
 | false=>
  rw [hbx] at hx;simp only at hx;split at hx
  ·rename_i hxr; rw [hxr]; exact famM_r _ _ _ _ _ hrb
  rename_i hxr;split at hx
  ·cases hx
  rename_i hxf;split at hx
  ·rename_i hxR;rw [hxR,Kl _ _ _ _ _ hRb (Ne.symm hrR)]; exact hyn hx
  rename_i hxR;rw [Kl _ _ _ _ _ hbx hxr]; exact h.rown x hx
end
end
section
open Go.RowKit Go.Deep
theorem PS.r_app {s s':PS} {l:List (Nat×Option (TypeId×Sq))} (h:s'.row=l++s.row) (x:Nat):s'.r x=match Nat.ble BIG x with | true=>(match Bh l (FK+unF x) with | some y=>Abk (some y) (unK x) | none=>s.r x) | false=>(match Bh l x with | some y=>y | none=>s.r x):=by
 cases hb:Nat.ble BIG x with
 | true=>
  rw [PS.r_hi _ hb,PS.r_hi _ hb];unfold PS.inn;rw [h,Ea];cases Bh l (FK+unF x) <;> rfl
 | false=>
  rw [PS.r_lo _ hb,PS.r_lo _ hb,h,Ea];cases Bh l x <;> rfl
def Ro:Sq→Fq
 | .intss X=>.ints (X.map some) | .pairss X=>.pairs (X.map some) | .boolss X=>.bools (X.map some) | .raises X=>.ints (X.map fun x=>some x.2) | _=>.ints []
theorem dF_fam (q:Sq):dF q=.fam (Ro q):=by cases q <;> rfl
theorem My {q:Sq} (hq:q.deep=true) (i:Nat):(Ro q).get i=if i<q.len then some (q.nn i) else none:=by
 have:=famr_dF hq 0 i;rw [dF_fam] at this;simp only [Abk] at this
 cases h:(Ro q).get i with
 | none=>rw [h] at this; split at this <;> simp_all
 | some c=>rw [h] at this; split at this <;> simp_all
theorem fk_ne {F r:Nat} (hF:F<4294967296) (hr:Gg r=true):FK+F≠r:=fun e=>by
 have h2:=Lw (inn F 0);rw [Zs hF,e] at h2;rw [h2] at hr; cases hr
theorem Gp {α:Type} (k:Nat) (x:α) (i:Nat):Bh [(k,x)] i=if k=i then some x else none:=by
 by_cases h:k=i
 ·subst h; rw [Ap,if_pos rfl]
 rw [At h,if_neg h]; rfl
theorem He {α:Type} (k l:Nat) (x y:α) (i:Nat):Bh [(k,x),(l,y)] i=if k=i then some x else if l=i then some y else none:=by
 by_cases h:k=i
 ·subst h; rw [Ap,if_pos rfl]
 rw [At h,if_neg h]; exact Gp l y i
section
variable {C:Cx} {tm:List (Nat×D)} {rw':List (Nat×Option (TypeId×Sq))} {bx:List (Nat×Option (List D))} {s':PS}
theorem En.newFam (F:Nat) (te:TypeId) (fq:Fq) (h0:fq.len=0) (hl:lone ⟨tm,rw',bx⟩ 999999 F=true) (hl2:PS.r ⟨tm,rw',bx⟩ 999999=none) (hN:PS.r ⟨tm,rw',bx⟩ (FK+F)=none) (hO:∀ u,C.O0.fr (FK+F)≠some u)
  (hnf:nf ⟨(PS.killX ⟨tm,rw',bx⟩ 999999).tmp,(FK+F,some (te,.fam fq))::rw',(PS.killX ⟨tm,rw',bx⟩ 999999).box⟩=some s') (hF:Nat.blt F 4294967296=true:=by rfl):En C ⟨tm,rw',bx⟩ s':=⟨fun M a w h=>by
 rw [nf_ok hnf];rw [Nat.blt_eq] at hF
 have hget:∀ k,fq.get k=none:=fun k=>by
  cases fq <;> simp only [Fq.len,List.length_eq_zero_iff] at h0 <;> subst h0 <;> rfl
 let M':Mp:=⟨M.β,fun x=>if x=FK+F then some none else M.γ x⟩
 have hMi:∀ G k,M'.γ (inn G k)=M.γ (inn G k):=fun G k=>by
  have:inn G k≠FK+F:=fun e=>by have h1:=Hf G k; rw [e,Ya hF] at h1; cases h1
  simp [M',this]
 have hsub:∀ x k c z,M'.γ x=some (some (k,c,z))→M.γ x=some (some (k,c,z)):=fun x k c z hx=>by
  simp only [M'] at hx;split at hx
  ·cases hx
  exact hx
 have hown:∀ k,M'.owned k→M.owned k:=by
  rintro k (⟨b,hb⟩ | ⟨y,c,z,hy⟩)
  ·exact .inl ⟨b,hb⟩
  exact .inr ⟨y,c,z,hsub _ _ _ _ hy⟩
 have hA:∀ f b,b<w.heap.size→Ow (Fs C.w0 C.O0) M f b→Ow (Fs C.w0 C.O0) M' f b∧b<w.heap.size∧w.heap[b]? = w.heap[b]?:=fun f b h1 h2=>⟨⟨fun h3=>h2.1 (hown b h3),h2.2⟩,h1,rfl⟩
 have hγ':∀ x y,x≠999999→Gg x=true→M'.γ x=some y→M.γ x=some y:=fun x y _ h2 h3=>by
  simp only [M'] at h3;rw [if_neg (fun e=>fk_ne hF h2 e.symm)] at h3;exact h3
 refine ⟨M',h.remap 999999 F hF (fun _=>O) (fun x k c z hx=>⟨x,hsub _ _ _ _ hx⟩) (fun x y k c z c' z' h1 h2=>h.inj2 _ _ _ _ _ _ _ (hsub _ _ _ _ h1) (hsub _ _ _ _ h2)) hγ' (fun x y h1 h2 h3 h4=>?_) (.inl (by decide)) (fun u u' h1 _=>absurd h1 (hO u)) (fun G k y _ _ h3=>by rw [←hMi]; exact h3) (fun t=>?_) (fun b=>?_) (fun x e q hx=>?_) fun x hx=>?_⟩
 ·simp only [M'] at h4;rw [if_neg h1] at h4;exact h4
 ·have:PS.t ⟨(PS.killX ⟨tm,rw',bx⟩ 999999).tmp,(FK+F,some (te,.fam fq))::rw',(PS.killX ⟨tm,rw',bx⟩ 999999).box⟩ t=klX 999999 (PS.t ⟨tm,rw',bx⟩ t):=PS.t_killX ⟨tm,rw',bx⟩ 999999 t;rw [this];exact VR.klX hA hγ' (fun _ _ h=>h) (h.tmp t)
 ·exact PS.b_killX ⟨tm,rw',bx⟩ 999999 b
 ·rw [PS.r_app (s:=⟨tm,rw',bx⟩) (l:=[(FK+F,some (te,.fam fq))]) rfl,Gp,Gp] at hx
  cases hbx:Nat.ble BIG x with
  | true=>
   rw [hbx] at hx;have hxf:x≠FK+F:=fun e=>by rw [e,Ya hF] at hbx; cases hbx
   have hMx:M'.γ x=M.γ x:=by simp [M',hxf]
   by_cases hu:FK+F=FK+unF x
   ·simp only [hu,if_true,Abk,hget] at hx;cases hx
   simp only [hu,if_false] at hx;refine .inl ⟨hx,hMx,fun G hG=>?_⟩;rcases Ts hl hx hG with h1 | h1
   ·rw [h1,hl2] at hx; cases hx
   exact h1
  | false=>
   rw [hbx] at hx;by_cases hxf:FK+F=x
   ·subst hxf;simp only [if_true] at hx;cases hx;exact .inr (.inl ⟨by simp [M'],O⟩)
   simp only [hxf,if_false] at hx;refine .inl ⟨hx,by simp [M',Ne.symm hxf],fun G hG=>?_⟩;rcases Ts hl hx hG with h1 | h1
   ·rw [h1,hl2] at hx; cases hx
   exact h1
 rw [PS.r_app (s:=⟨tm,rw',bx⟩) (l:=[(FK+F,some (te,.fam fq))]) rfl,Gp,Gp] at hx
 cases hbx:Nat.ble BIG x with
 | true=>
  rw [hbx] at hx;have hxf:x≠FK+F:=fun e=>by rw [e,Ya hF] at hbx; cases hbx
  have hMx:M'.γ x=M.γ x:=by simp [M',hxf]
  rw [hMx];refine h.rown x ?_;by_cases hu:FK+F=FK+unF x
  ·rw [PS.r_hi _ hbx,PS.inn_r,←hu,hN]; rfl
  simp only [hu,if_false] at hx; exact hx
 | false=>
  rw [hbx] at hx;by_cases hxf:FK+F=x
  ·simp only [hxf,if_true] at hx; cases hx
  simp only [hxf,if_false] at hx;simp only [M',Ne.symm hxf,if_false]
  exact h.rown x hx⟩
theorem En.asRefs (R F:Nat) {et:TypeId} {q qR:Sq} (hR:PS.r ⟨tm,rw',bx⟩ R=some (et,q)) (h0:q.len=0) (h1:qR.len=0) (hz:qR.sz=q.sz) (hFR:Gg R=true:=by rfl):En C ⟨tm,rw',bx⟩ ⟨tm,(R,some (et,qR))::rw',bx⟩:=⟨fun M a w h=>by
 have hPS:∀ x,PS.r ⟨tm,(R,some (et,qR))::rw',bx⟩ x=if R=x then some (et,qR) else PS.r ⟨tm,rw',bx⟩ x:=fun x=>PS.r_setR ⟨tm,rw',bx⟩ R (some (et,qR)) x hFR
 refine ⟨M,h.fr,h.dfr,h.sz,h.tmp,h.box,h.boxn,fun x e p hx=>?_,fun x hx=>?_,h.low,h.inj1,h.inj2,h.inj3,h.nle,h.fxb,h.fxr⟩
 ·rw [hPS] at hx;split at hx
  ·rename_i hxR;cases hx;subst hxR;rcases h.row _ _ _ hR with ⟨g1,g2⟩ | ⟨g,cap,cur,g1,g2,g3,g4,g5,g6⟩
   ·exact .inl ⟨g1,h1⟩
   exact .inr ⟨g,cap,cur,by rw [hz]; exact g1,g2,by omega,g4,by rw [hz]; exact g5,fun i j d hi hd=>by omega⟩
  exact h.row x e p hx
 rw [hPS] at hx;split at hx
 ·cases hx
 exact h.rown x hx⟩
theorem En.adopt (t r R F:Nat) {n:Nat} {et te:TypeId} {c q:Sq} {fq fq':Fq} (ht:PS.t ⟨tm,rw',bx⟩ t=.row r 0 n) (hr:PS.r ⟨tm,rw',bx⟩ r=some (te,c)) (hn:n=c.len) (hf:PS.r ⟨tm,rw',bx⟩ (FK+F)=some (te,.fam fq)) (hR:PS.r ⟨tm,rw',bx⟩ R=some (et,dR F q))
  (hq:q.deep=true) (hlen:q.len=fq.len) (hp:fq.push c=some fq') (hl:lone ⟨tm,rw',bx⟩ R F=true) {d':D} (hd':d'=.irow F fq.len n)
  (hnf:nf ⟨(t,d')::(PS.killX ⟨tm,rw',bx⟩ r).tmp,(r,none)::(FK+F,some (te,.fam fq'))::rw',(PS.killX ⟨tm,rw',bx⟩ r).box⟩=some s') (hF:Nat.blt F 4294967296=true:=by rfl) (hr1:Nat.blt r 1000000=true:=by rfl) (hFR:Gg R=true:=by rfl) (hrR:Nat.beq r R=false:=by rfl):En C ⟨tm,rw',bx⟩ s':=⟨fun M a w h=>by
 rw [nf_ok hnf];rw [Nat.blt_eq] at hF hr1;subst hn hd';have hne:r≠R:=fun e=>by subst e; rw [Nat.beq_refl] at hrR; cases hrR
 have hget:=Fq.get_push hp;have hrn:=Dd hr1
 let g:Nat→Nat:=fun k=>if k=fq.len then r else inn F k
 have hinnr:∀ k,inn F k≠r:=fun k e=>by have:=Hf F k; rw [e,Cn hrn] at this; cases this
 have hown:∀ k,(Tw M r F fq' g).owned k→M.owned k:=by
  rintro k (⟨b,hb⟩ | ⟨y,c,z,hy⟩)
  ·exact .inl ⟨b,hb⟩
  simp only [Tw] at hy;split at hy
  ·split at hy
   ·split at hy
    ·exact .inr ⟨_,c,z,hy⟩
    cases hy
   exact .inr ⟨_,c,z,hy⟩
  split at hy
  ·cases hy
  exact .inr ⟨_,c,z,hy⟩
 have hA:∀ f b,b<w.heap.size→Ow (Fs C.w0 C.O0) M f b→Ow (Fs C.w0 C.O0) (Tw M r F fq' g) f b∧b<w.heap.size∧w.heap[b]? = w.heap[b]?:=fun f b h1 h2=>⟨⟨fun h3=>h2.1 (hown b h3),h2.2⟩,h1,rfl⟩;have hγ':∀ x y,x≠r→Gg x=true→(Tw M r F fq' g).γ x=some y→M.γ x=some y:=fun x y h1 h2 h3=>by rw [Kl _ _ _ _ _ (Cn h2) h1] at h3; exact h3
 have hgM:∀ k,k≠fq.len→∀ y,(Tw M r F fq' g).γ (inn F k)=some y→M.γ (inn F k)=some y:=fun k hk y hy=>by
  rw [Sp _ _ _ _ _ hF] at hy;split at hy
  ·simpa [g,hk] using hy
  cases hy
 refine ⟨_,h.refam r R F hF (fq':=fq') g (yR:=some (et,dR F q)) hr1 hFR hne hf hl (fun k c' hc=>?_) (fun k k' c1 c2 h1 h2 h3=>?_) (fun k c' hc=>?_) (fun x=>?_) (fun e p hx=>?_) (fun hx=>by cases hx) (fun t'=>?_) fun b=>?_⟩
 ·rw [hget] at hc;by_cases hk:k=fq.len
  ·rw [if_pos hk] at hc;cases hc;simp [g,hk,hr]
  rw [if_neg hk] at hc;simp only [g,hk,if_false];rw [fam_r hF hf,hc]
 ·simp only [g] at h3;split at h3 <;> split at h3
  ·omega
  ·exact absurd h3.symm (hinnr _)
  ·exact absurd h3 (hinnr _)
  exact (inn_inj h3).2
 ·by_cases hk:k=fq.len
  ·exact .inl (by simp [g,hk])
  exact .inr ⟨k,by simp [g,hk]⟩
 ·rw [PS.r_app (s:=⟨tm,rw',bx⟩) (l:=[(r,none),(FK+F,some (te,.fam fq'))]) rfl,He,He]
  cases hbx:Nat.ble BIG x with
  | true=>
   have h1:r≠FK+unF x:=fun e=>by have:=Lw x; rw [←e,hrn] at this; cases this
   simp only [h1,if_false];by_cases hu:unF x=F
   ·simp [hu]
   simp [hu,Ne.symm hu]
  | false=>
   simp only;by_cases hxr:r=x
   ·simp [hxr]
   simp only [hxr,if_false,Ne.symm hxr];by_cases hxf:FK+F=x
   ·simp [hxf]
   simp only [hxf,if_false,Ne.symm hxf];by_cases hxR:x=R
   ·simp [hxR,hR]
   simp [hxR]
 ·cases hx;rcases h.row _ _ _ hR with ⟨g1,g2⟩ | ⟨gg,cap,cur,g1,g2,g3,g4,g5,g6⟩
  ·exact .inl ⟨by rw [Kl _ _ _ _ _ (Cn hFR) (Ne.symm hne)]; exact g1,g2⟩
  refine .inr ⟨gg,cap,cur,by rw [Kl _ _ _ _ _ (Cn hFR) (Ne.symm hne)]; exact g1,g2,g3,g4,g5,fun i j d hi hd=>?_⟩;have hv:=g6 i j d hi hd;rw [Mb] at hi;rcases Wu hq hi hd with ⟨rfl,_⟩ | ⟨x,rfl,_⟩
  ·exact hv.irow_mv (hgM i (by omega))
  rw [hv.int_inv]; exact .int _
 ·have hk:=PS.t_killX ⟨tm,rw',bx⟩ r t';by_cases htt:t=t'
  ·subst htt;have:PS.t ⟨(t,.irow F fq.len c.len)::(PS.killX ⟨tm,rw',bx⟩ r).tmp,(r,none)::(FK+F,some (te,.fam fq'))::rw',(PS.killX ⟨tm,rw',bx⟩ r).box⟩ t=.irow F fq.len c.len:=by simp [PS.t,Ap]
   rw [this];have hv:=h.tmp t;rw [ht] at hv;refine hv.irow_of fun x hx=>?_;rw [Sp _ _ _ _ _ hF] at hx;split at hx
   ·simpa [g] using hx
   cases hx
  have:PS.t ⟨(t,.irow F fq.len c.len)::(PS.killX ⟨tm,rw',bx⟩ r).tmp,(r,none)::(FK+F,some (te,.fam fq'))::rw',(PS.killX ⟨tm,rw',bx⟩ r).box⟩ t'=PS.t (PS.killX ⟨tm,rw',bx⟩ r) t':=by simp [PS.t,At htt]
  rw [this,hk];exact VR.klX hA hγ' (fun _ _ h=>h) (h.tmp t')
 exact PS.b_killX ⟨tm,rw',bx⟩ r b⟩
end
end
section
open Go.RowKit Go.Deep
structure ReOK (F:Nat) (qR:Sq) (fq:Fq) (q':Sq):Prop where
 deep:q'.deep=true
 len:q'.len=qR.len
 sz:q'.sz=qR.sz
 κ:∃ κ:Nat→Nat,(∀ i,i<q'.len→fq.get (κ i)=some (q'.nn i))∧(∀ i j,i<q'.len→j<q'.len→κ i=κ j→i=j) ∧
  ∀ (i j n:Nat),i<q'.len→(((dR F q').relem i)[j]? = some (D.irow F i n)→(qR.relem i)[j]? = some (D.irow F (κ i) n))∧∀ x:Int,((dR F q').relem i)[j]? = some (D.int x)→(qR.relem i)[j]? = some (D.int x)
section
variable {C:Cx} {tm:List (Nat×D)} {rw':List (Nat×Option (TypeId×Sq))} {bx:List (Nat×Option (List D))} {s':PS}
theorem En.re (R F:Nat) {et te:TypeId} {qR q':Sq} {fq:Fq} (hR:PS.r ⟨tm,rw',bx⟩ R=some (et,qR)) (hf:PS.r ⟨tm,rw',bx⟩ (FK+F)=some (te,.fam fq)) (hre:ReOK F qR fq q') (hl:lone ⟨tm,rw',bx⟩ R F=true) (h9:PS.r ⟨tm,rw',bx⟩ 999999=none)
  (hnf:nf ⟨(PS.killX ⟨tm,rw',bx⟩ 999999).tmp,(R,some (et,dR F q'))::(FK+F,some (te,dF q'))::rw',(PS.killX ⟨tm,rw',bx⟩ 999999).box⟩=some s') (hF:Nat.blt F 4294967296=true:=by rfl) (hFR:Gg R=true:=by rfl) (hrR:Nat.beq R 999999=false:=by rfl):En C ⟨tm,rw',bx⟩ s':=⟨fun M a w h=>by
 rw [nf_ok hnf];rw [Nat.blt_eq] at hF;obtain ⟨hq,hlen,hsz,κ,k1,k2,k3⟩:=hre;have hne:(999999:Nat)≠R:=fun e=>by rw [←e,Nat.beq_refl] at hrR; cases hrR
 have h9n:Gg 999999=true:=Dd (by decide)
 let g:Nat→Nat:=fun k=>inn F (κ k)
 have hget:=My hq
 have hown:∀ k,(Tw M 999999 F (Ro q') g).owned k→M.owned k:=by
  rintro k (⟨b,hb⟩ | ⟨y,c,z,hy⟩)
  ·exact .inl ⟨b,hb⟩
  simp only [Tw] at hy;split at hy
  ·split at hy
   ·split at hy
    ·exact .inr ⟨_,c,z,hy⟩
    cases hy
   exact .inr ⟨_,c,z,hy⟩
  split at hy
  ·cases hy
  exact .inr ⟨_,c,z,hy⟩
 have hA:∀ f b,b<w.heap.size→Ow (Fs C.w0 C.O0) M f b→Ow (Fs C.w0 C.O0) (Tw M 999999 F (Ro q') g) f b∧b<w.heap.size∧w.heap[b]? = w.heap[b]?:=fun f b h1 h2=>⟨⟨fun h3=>h2.1 (hown b h3),h2.2⟩,h1,rfl⟩;have hγ':∀ x y,x≠999999→Gg x=true→(Tw M 999999 F (Ro q') g).γ x=some y→M.γ x=some y:=fun x y h1 h2 h3=>by rw [Kl _ _ _ _ _ (Cn h2) h1] at h3; exact h3
 rw [dF_fam];refine ⟨_,h.refam 999999 R F hF (fq':=Ro q') g (yR:=some (et,dR F q')) (by decide) hFR hne hf hl (fun k c' hc=>?_) (fun k k' c1 c2 h1 h2 h3=>?_) (fun k c' hc=>.inr ⟨κ k,O⟩) (fun x=>?_) (fun e p hx=>?_) (fun hx=>by cases hx) (fun t'=>?_) fun b=>?_⟩
 ·rw [hget] at hc;split at hc
  ·rename_i hk;cases hc;show PS.r _ (inn F (κ k))=_;rw [fam_r hF hf,k1 k hk]
  cases hc
 ·rw [hget] at h1 h2;split at h1
  ·split at h2
   ·rename_i a1 a2; exact k2 k k' a1 a2 (inn_inj h3).2
   cases h2
  cases h1
 ·rw [PS.r_app (s:=⟨tm,rw',bx⟩) (l:=[(R,some (et,dR F q')),(FK+F,some (te,.fam (Ro q')))]) rfl,He,He]
  cases hbx:Nat.ble BIG x with
  | true=>
   have h1:R≠FK+unF x:=fun e=>by have:=Lw x; rw [←e,hFR] at this; cases this
   simp only [h1,if_false];by_cases hu:unF x=F
   ·simp [hu]
   simp [hu,Ne.symm hu]
  | false=>
   simp only;by_cases hx9:x=999999
   ·subst hx9;have h2:FK+F≠999999:=fk_ne hF h9n;simp [Ne.symm hne,h2,h9]
   simp only [hx9,if_false];by_cases hxR:R=x
   ·subst hxR;have h2:R≠FK+F:=Ne.symm (fk_ne hF hFR);simp [h2]
   simp only [hxR,if_false,Ne.symm hxR];by_cases hxf:FK+F=x
   ·simp [hxf]
   simp [hxf,Ne.symm hxf]
 ·cases hx;rcases h.row _ _ _ hR with ⟨g1,g2⟩ | ⟨gg,cap,cur,g1,g2,g3,g4,g5,g6⟩
  ·exact .inl ⟨by rw [Kl _ _ _ _ _ (Cn hFR) (Ne.symm hne)]; exact g1,by rw [Mb,hlen]; exact g2⟩
  refine .inr ⟨gg,cap,cur,by rw [Kl _ _ _ _ _ (Cn hFR) (Ne.symm hne),Xj,hsz]; exact g1,g2,by rw [Mb,hlen]; exact g3,g4,by rw [Xj,hsz]; exact g5,fun i j d hi hd=>?_⟩;rw [Mb] at hi;rw [Xj,hsz];rcases Wu hq hi hd with ⟨rfl,_⟩ | ⟨x,rfl,_⟩
  ·have h1:=(k3 i j _ hi).1 hd;have hv:=g6 i j _ (by omega) h1;refine hv.irow_mv fun x hx=>?_;rw [Sp _ _ _ _ _ hF,hget,if_pos hi] at hx;exact hx
  have h1:=(k3 i j 0 hi).2 x hd;rw [(g6 i j _ (by omega) h1).int_inv]; exact .int _
 ·have:PS.t ⟨(PS.killX ⟨tm,rw',bx⟩ 999999).tmp,(R,some (et,dR F q'))::(FK+F,some (te,.fam (Ro q')))::rw',(PS.killX ⟨tm,rw',bx⟩ 999999).box⟩ t'=klX 999999 (PS.t ⟨tm,rw',bx⟩ t'):=PS.t_killX ⟨tm,rw',bx⟩ 999999 t';rw [this];exact VR.klX hA hγ' (fun _ _ h=>h) (h.tmp t')
 exact PS.b_killX ⟨tm,rw',bx⟩ 999999 b⟩
theorem En.pull (t r F k:Nat) {n:Nat} {te:TypeId} {c:Sq} {fq:Fq} (ht:PS.t ⟨tm,rw',bx⟩ t=.irow F k n) (hn:n=c.len) (hc:fq.get k=some c) (hf:PS.r ⟨tm,rw',bx⟩ (FK+F)=some (te,.fam fq)) (hfr:frB ⟨tm,rw',bx⟩ noB (isR r)=true) (hrn:PS.r ⟨tm,rw',bx⟩ r=none)
  (hnf:nf ⟨(t,.row r 0 n)::(PS.killX ⟨tm,rw',bx⟩ r).tmp,(r,some (te,c))::(FK+F,some (te,.fam (fq.hole k)))::rw',(PS.killX ⟨tm,rw',bx⟩ r).box⟩=some s') (hF:Nat.blt F 4294967296=true:=by rfl) (hr1:Nat.blt r 1000000=true:=by rfl):En C ⟨tm,rw',bx⟩ s':=⟨fun M a w h=>by
 rw [nf_ok hnf];rw [Nat.blt_eq] at hF hr1;subst hn;have hrn':=Dd hr1;have hrb:=Cn hrn';have hget:=Fq.get_hole fq k;have hfr':FK+F≠r:=fk_ne hF hrn';have hir:∀ G l,inn G l≠r:=fun G l e=>by have:=Hf G l; rw [e,hrb] at this; cases this
 have hinn:=fam_r hF hf k;rw [hc] at hinn
 let M':Mp:=⟨M.β,fun x=>if x=r then M.γ (inn F k) else if x=inn F k then none else M.γ x⟩
 have m1:M'.γ r=M.γ (inn F k):=by simp [M']
 have m2:∀ x,x≠r→x≠inn F k→M'.γ x=M.γ x:=fun x h1 h2=>by simp [M',h1,h2]
 have m3:M'.γ (inn F k)=none:=by simp [M',hir]
 have m4:∀ x y,x≠r→M'.γ x=some y→M.γ x=some y:=fun x y h1 h2=>by
  by_cases hx:x=inn F k
  ·rw [hx,m3] at h2; cases h2
  rw [m2 x h1 hx] at h2; exact h2
 have hsub:∀ x k c z,M'.γ x=some (some (k,c,z))→∃ y,M.γ y=some (some (k,c,z)):=fun x k' c z hx=>by
  by_cases h1:x=r
  ·rw [h1,m1] at hx; exact ⟨_,hx⟩
  exact ⟨x,m4 x _ h1 hx⟩
 have hown:∀ k,M'.owned k→M.owned k:=by
  rintro k' (⟨b,hb⟩ | ⟨y,c,z,hy⟩)
  ·exact .inl ⟨b,hb⟩
  obtain ⟨x,hx⟩:=hsub _ _ _ _ hy; exact .inr ⟨x,c,z,hx⟩
 have hA:∀ f b,b<w.heap.size→Ow (Fs C.w0 C.O0) M f b→Ow (Fs C.w0 C.O0) M' f b∧b<w.heap.size∧w.heap[b]? = w.heap[b]?:=fun f b h1 h2=>⟨⟨fun h3=>h2.1 (hown b h3),h2.2⟩,h1,rfl⟩;have hγ':∀ x y,x≠r→Gg x=true→M'.γ x=some y→M.γ x=some y:=fun x y h1 _ h3=>m4 x y h1 h3;have hrow0:∀ x e q,s'.r x=some (e,q)→True:=fun _ _ _ _=>trivial
 have mvrow:∀ x e q,PS.r ⟨tm,rw',bx⟩ x=some (e,q)→x≠r→x≠inn F k→RowAt (Fs C.w0 C.O0) M' w x e q:=fun x e q hx h1 h2=>by
  rcases h.row x e q hx with ⟨g1,g2⟩ | ⟨g,cap,cur,g1,g2,g3,g4,g5,g6⟩
  ·exact .inl ⟨(m2 x h1 h2).trans g1,g2⟩
  exact .inr ⟨g,cap,cur,(m2 x h1 h2).trans g1,g2,g3,g4,g5,fun i j d hi hd=>(g6 i j d hi hd).relem_any2 hd hA fun G _ l y hy=>m4 _ y (hir G l) hy⟩
 refine ⟨M',h.remap r F hF (fun _=>O) hsub (fun x y k' c z c' z' h1 h2=>?_) hγ' (fun x y h1 h2 h3 h4=>?_) (.inl hr1) (fun u u' h1 h2=>?_) (fun G l y _ _ h3=>m4 _ y (hir G l) h3) (fun t'=>?_) (fun b=>?_) (fun x e q hx=>.inr ?_) fun x hx=>?_⟩
 ·by_cases hx:x=r
  ·by_cases hy:y=r
   ·rw [hx,hy]
   rw [hx,m1] at h1;by_cases hyk:y=inn F k
   ·rw [hyk,m3] at h2; cases h2
   rw [m2 y hy hyk] at h2;exact absurd (h.inj2 _ _ _ _ _ _ _ h1 h2).symm hyk
  by_cases hy:y=r
  ·rw [hy,m1] at h2;by_cases hxk:x=inn F k
   ·rw [hxk,m3] at h1; cases h1
   rw [m2 x hx hxk] at h1;exact absurd (h.inj2 _ _ _ _ _ _ _ h1 h2) hxk
  exact h.inj2 _ _ _ _ _ _ _ (m4 _ _ hx h1) (m4 _ _ hy h2)
 ·by_cases hx:x=r
  ·rw [hx,hrn'] at h2; cases h2
  exact m4 x y hx h4
 ·exact h.fxr _ _ _ h1 (m4 _ _ hfr' h2)
 ·have hk:=PS.t_killX ⟨tm,rw',bx⟩ r t';by_cases htt:t=t'
  ·subst htt;have:PS.t ⟨(t,.row r 0 c.len)::(PS.killX ⟨tm,rw',bx⟩ r).tmp,(r,some (te,c))::(FK+F,some (te,.fam (fq.hole k)))::rw',(PS.killX ⟨tm,rw',bx⟩ r).box⟩ t=.row r 0 c.len:=by simp [PS.t,Ap]
   rw [this];have hv:=h.tmp t;rw [ht] at hv;generalize a.tmps.getD t undef=v at hv
   cases hv with
   | irow _ _ _ _ g1 g2=>exact .row _ _ _ _ g1 fun x hx=>g2 x (by rw [←m1]; exact hx)
  have:PS.t ⟨(t,.row r 0 c.len)::(PS.killX ⟨tm,rw',bx⟩ r).tmp,(r,some (te,c))::(FK+F,some (te,.fam (fq.hole k)))::rw',(PS.killX ⟨tm,rw',bx⟩ r).box⟩ t'=PS.t (PS.killX ⟨tm,rw',bx⟩ r) t':=by simp [PS.t,At htt]
  rw [this,hk];exact VR.klX hA hγ' (fun _ _ h=>h) (h.tmp t')
 ·exact PS.b_killX ⟨tm,rw',bx⟩ r b
 ·rw [PS.r_app (s:=⟨tm,rw',bx⟩) (l:=[(r,some (te,c)),(FK+F,some (te,.fam (fq.hole k)))]) rfl,He,He] at hx
  cases hbx:Nat.ble BIG x with
  | true=>
   rw [hbx] at hx;have h1:r≠FK+unF x:=fun e=>by have:=Lw x; rw [←e,hrn'] at this; cases this
   have hxr:x≠r:=fun e=>by rw [e,hrb] at hbx; cases hbx
   simp only [h1,if_false] at hx;by_cases hu:unF x=F
   ·have hxe:x=inn F (unK x):=by rw [←hu]; exact (Sz hbx).symm
    simp only [hu,if_true,Abk,hget] at hx;by_cases hk:unK x=k
    ·simp only [hk,if_true] at hx; cases hx
    simp only [hk,if_false] at hx;split at hx
    ·rename_i c' hc';cases hx;refine mvrow x _ _ ?_ hxr (fun e=>hk (by rw [e,Mt]));rw [hxe,fam_r hF hf,hc']
    cases hx
   simp only [Ne.symm hu,Nat.add_left_cancel_iff,if_false] at hx;exact mvrow x e q hx hxr (fun e'=>hu (by rw [e',Jr,Nat.mod_eq_of_lt hF]))
  | false=>
   rw [hbx] at hx;have hxk:x≠inn F k:=fun e=>by rw [e,Hf] at hbx; cases hbx
   by_cases hxr:r=x
   ·subst hxr;simp only [if_true] at hx;cases hx;exact (h.row _ _ _ hinn).mv (Fq.get_flat hc) m1 hA
   simp only [hxr,if_false] at hx;by_cases hxf:FK+F=x
   ·subst hxf;simp only [if_true] at hx;cases hx;rcases h.row _ _ _ hf with ⟨g1,g2⟩ | ⟨gg,cap,cur,g1,g2,g3,g4,g5,g6⟩
    ·exact .inl ⟨(m2 _ hfr' hxk).trans g1,O⟩
    exact .inr ⟨gg,cap,cur,(m2 _ hfr' hxk).trans g1,g2,Nat.zero_le _,g4,g5,fun i j d hi hd=>absurd hi (Nat.not_lt_zero _)⟩
   simp only [hxf,if_false] at hx;exact mvrow x e q hx (Ne.symm hxr) hxk
 rw [PS.r_app (s:=⟨tm,rw',bx⟩) (l:=[(r,some (te,c)),(FK+F,some (te,.fam (fq.hole k)))]) rfl,He,He] at hx
 cases hbx:Nat.ble BIG x with
 | true=>
  rw [hbx] at hx;have h1:r≠FK+unF x:=fun e=>by have:=Lw x; rw [←e,hrn'] at this; cases this
  have hxr:x≠r:=fun e=>by rw [e,hrb] at hbx; cases hbx
  simp only [h1,if_false] at hx;by_cases hxk:x=inn F k
  ·rw [hxk]; exact m3
  rw [m2 x hxr hxk];refine h.rown x ?_;by_cases hu:unF x=F
  ·have hxe:x=inn F (unK x):=by rw [←hu]; exact (Sz hbx).symm
   simp only [hu,if_true,Abk,hget] at hx;have hk:unK x≠k:=fun e=>hxk (by rw [hxe,e]);simp only [hk,if_false] at hx;rw [hxe,fam_r hF hf];split at hx
   ·cases hx
   rename_i hc'; rw [hc']
  simp only [Ne.symm hu,Nat.add_left_cancel_iff,if_false] at hx;exact hx
 | false=>
  rw [hbx] at hx;have hxk:x≠inn F k:=fun e=>by rw [e,Hf] at hbx; cases hbx
  by_cases hxr:r=x
  ·simp only [hxr,if_true] at hx; cases hx
  simp only [hxr,if_false] at hx;by_cases hxf:FK+F=x
  ·simp only [hxf,if_true] at hx; cases hx
  simp only [hxf,if_false] at hx
  rw [m2 x (Ne.symm hxr) hxk]; exact h.rown x hx⟩
end
end
section
open Go.RowKit Go.Deep
section
variable {w0:World} {O0:Hd} {n:Nat} {M:Mp} {s:PS} {a:Act} {w:World}
theorem Rel.newRowR (h:Rel w0 O0 n M s a w) {r m:Nat} {e:TypeId} {q:Sq} {cur:Array Value} (hq:q.len=m) (hm:m≤maxLen) (hc:cur.size=m*q.sz)
  (hv:∀ i j d,i<m→(q.relem i)[j]? = some d→VR M (Ow (Fs w0 O0) M) w d (cur.getD (i*q.sz+j) undef)) (hf:Fresh s noB (isR r)) (hlo:r<1000000) :
  ∃ M',Rel w0 O0 n M' (s.setR r (some (e,q))) a (w.alloc (.cells cur e))∧VR M' (Ow (Fs w0 O0) M') (w.alloc (.cells cur e)) (.row r 0 m) (.slice (some ⟨w.heap.size,0,none⟩) m m):=by
 have hF:=Dd hlo
 let M':Mp:=⟨M.β,fun x=>if x=r then some (some (w.heap.size,m,q.sz)) else M.γ x⟩
 have m1:M'.γ r=some (some (w.heap.size,m,q.sz)):=by simp [M']
 have m2:∀ x,x≠r→M'.γ x=M.γ x:=fun x hx=>by simp [M',hx]
 have hown:∀ k,M'.owned k→M.owned k∨k=w.heap.size:=by
  rintro k (⟨x,hx⟩ | ⟨y,c,z,hy⟩)
  ·exact .inl (.inl ⟨x,hx⟩)
  by_cases hyr:y=r
  ·rw [hyr,m1] at hy; cases hy; exact .inr rfl
  rw [m2 y hyr] at hy; exact .inl (.inr ⟨y,c,z,hy⟩)
 have hA:∀ f k,k<w.heap.size→Ow (Fs w0 O0) M f k→Ow (Fs w0 O0) M' f k∧k<(w.alloc (.cells cur e)).heap.size∧(w.alloc (.cells cur e)).heap[k]? = w.heap[k]?:=fun f k h1 h2=>
  ⟨⟨fun h3=>by rcases hown k h3 with h4 | h4; exact h2.1 h4; omega,h2.2⟩,by simp; omega,Below.heap_alloc w _ k h1⟩
 have hγ:∀ x y,isR r x=false→M'.γ x=some y→M.γ x=some y:=fun x y h1 h2=>by
  rw [m2 x (fun e=>by subst e; simp [isR,Nat.beq_refl] at h1)] at h2; exact h2
 have hrb:=Cn hF
 have hbig:∀ x y,BIG≤x→M'.γ x=some y→M.γ x=some y:=fun x y hx h2=>by
  rw [m2 x (fun e=>by rw [←e,Nat.ble_eq_true_of_le hx] at hrb; cases hrb)] at h2; exact h2
 have hno:∀ y c z,M.γ y≠some (some (w.heap.size,c,z)):=fun y c z hy=>by have:=h.lt _ (.inr ⟨y,c,z,hy⟩); omega
 refine ⟨M',⟨?_,h.dfr,h.sz,fun t=>?_,fun x ds hx=>?_,fun x hx=>h.boxn x hx,fun x e' p hx=>?_,fun x hx=>?_,fun k hk=>?_,h.inj1,fun x y k c z c' z' h1 h2=>?_,fun x y k c z h1 h2=>?_,h.nle,h.fxb,fun x u u' h1 h2=>?_⟩,?_⟩
 ·exact h.fr.step O O O (by simp) fun k h1 _=>Below.heap_alloc w _ k (Nat.lt_of_lt_of_le h1 h.fr.size)
 ·exact VR.new (b:=noB) (r:=isR r) hA hγ (fun _ _ _ h=>h) (hf.t t) (h.tmp t) (hi:=fun _=>hbig)
 ·obtain ⟨k,cur',e',h1,h2,h3,h4⟩:=h.box x ds hx;have hlt:=(Array.getElem?_eq_some_iff.1 h2).1;exact ⟨k,cur',e',h1,(Below.heap_alloc w _ k hlt).trans h2,h3,fun j d hd=>VR.newS (b:=noB) (r:=isR r) hA hγ (fun _ _ _ h=>h) (hf.b _ _ hx d (List.mem_of_getElem? hd)) (h4 j d hd) (hi:=fun _=>hbig)⟩
 ·rw [PS.r_setR _ _ _ _ hF] at hx;by_cases hxr:r=x
  ·subst hxr;rw [if_pos rfl] at hx;cases hx;exact .inr ⟨w.heap.size,m,cur,m1,heap_alloc_new w _,by omega,hm,hc,fun i j d hi hd=>(hv i j d (by omega) hd).relem_any hd hA hbig⟩
  rw [if_neg hxr] at hx;rcases h.row x e' p hx with ⟨h1,h2⟩ | ⟨g,cap,cur',h1,h2,h3,h4,h5,h6⟩
  ·exact .inl ⟨(m2 x (Ne.symm hxr)).trans h1,h2⟩
  have hlt:=(Array.getElem?_eq_some_iff.1 h2).1;exact .inr ⟨g,cap,cur',(m2 x (Ne.symm hxr)).trans h1,(Below.heap_alloc w _ g hlt).trans h2,h3,h4,h5,fun i j d hi hd=>(h6 i j d hi hd).relem_any hd hA hbig⟩
 ·rw [PS.r_setR _ _ _ _ hF] at hx;by_cases hxr:r=x
  ·rw [if_pos hxr] at hx; cases hx
  rw [if_neg hxr] at hx; exact (m2 x (Ne.symm hxr)).trans (h.rown x hx)
 ·rcases hown k hk with h1 | rfl
  ·exact h.low k h1
  exact .inl h.fr.size
 ·by_cases hx:x=r
  ·by_cases hy:y=r
   ·rw [hx,hy]
   rw [hx,m1] at h1; cases h1; rw [m2 y hy] at h2; exact absurd h2 (hno _ _ _)
  by_cases hy:y=r
  ·rw [hy,m1] at h2; cases h2; rw [m2 x hx] at h1; exact absurd h1 (hno _ _ _)
  rw [m2 x hx] at h1; rw [m2 y hy] at h2; exact h.inj2 _ _ _ _ _ _ _ h1 h2
 ·by_cases hy:y=r
  ·rw [hy,m1] at h2; cases h2;have:=h.lt _ (.inl ⟨x,h1⟩); omega
  rw [m2 y hy] at h2; exact h.inj3 _ _ _ _ _ h1 h2
 ·have h3:=(O0.lor x u h1).1;rw [m2 x (by omega)] at h2;exact h.fxr x u u' h1 h2
 exact .row _ _ _ _ O fun x hx=>by rw [m1] at hx; cases hx; exact ⟨by omega,_,by rw [Nat.sub_zero],fun _=>by rw [Nat.zero_mul]⟩
end
def refOf:D→Option Sq
 | .irow F k n=>some (.irefs F [(k,n)])
 | .agg [.int p,.irow F k n]=>some (.rrefs F [(p,k,n)])
 | _=>none
theorem refOf_ok {d:D} {q:Sq} (h:refOf d=some q):d.flat=true∧d.cells=q.relem 0∧q.len=1:=by
 unfold refOf at h;split at h
 ·cases h; exact ⟨rfl,rfl,rfl⟩
 ·cases h; exact ⟨rfl,rfl,rfl⟩
 cases h
section
variable {C:Cx} {ops:Array Oper} {K:PS→Prop} {o:Oper} {rest:List Oper} {s:PS} {TT:List (Nat×Ty)} {tm:List (Nat×D)} {rw':List (Nat×Option (TypeId×Sq))} {bx:List (Nat×Option (List D))}
theorem oBuildI (hT:Ks C.P TT) (hg:o.guard=none) {t e:TypeId} {k q:Sq} {by' b:Nat} {x:Operand} {d:D} (hop:o.op=.buildSlice t 1 #[(0,x)]) (hd:o.dst=some b) (hy:Bh TT t=some (.sl e k by')) (hx:(PS.ev ⟨tm,rw',bx⟩ x)=d)
  (hq:refOf d=some q) (hz:Nat.beq k.sz q.sz=true) (hbig:Nat.ble (1*k.sz) 16777216=true) (hn:Nat.blt b C.n=true) (hf:frB ⟨tm,rw',bx⟩ noB (isR b)=true) (h:VO C ops K rest ⟨(b,.row b 0 1)::tm,(b,some (e,q))::rw',bx⟩):VO C ops K (o::rest) ⟨tm,rw',bx⟩:=by
 refine vOp hg ⟨fun M a w Q K' hrl hk=>?_⟩;have hev:=hrl.ev x;rw [hx] at hev;obtain ⟨r1,r2,r3⟩:=refOf_ok hq;have hz':=Nat.eq_of_beq_eq_true hz;obtain ⟨c1,c2,_⟩:=hev.cells r1;rw [r2,Sq.relem_len,←hz'] at c1;have hvs:∀ v∈[a.eval x],v.cells.size=k.sz:=by intro v hv; simp at hv; subst hv; exact c1.symm
 have hbig':=Nat.le_of_ble_eq_true hbig
 have hfill:∀ cells:Array Value,cells.size=1*k.sz→Instr.fill (fun i=>some (i*k.sz,k.sz)) cells (idxL 0 [a.eval x])=some ([a.eval x].flatMap fun v=>v.cells.toList).toArray:=fun cells hc=>by
  have:=fill_all k.sz [a.eval x] 0 cells hvs (by rw [hc]; rfl);simpa using this
 have hrun:(execOp a.eval o).run C.P w=.ok (.value (.slice (some ⟨w.heap.size,0,none⟩) 1 1)) (w.alloc (.cells ([a.eval x].flatMap fun v=>v.cells.toList).toArray e)):=by
  have hparts:((#[(0,x)]:Array (Nat×Operand)).map fun (p:Nat×Operand)=>(p.1,a.eval p.2)).toList=idxL 0 [a.eval x]:=by simp [idxL]
  have:=Qg (hT t _ hy) w 1 _ ([a.eval x].flatMap fun v=>v.cells.toList).toArray (by omega) (fun cells hc=>by rw [hparts]; exact hfill cells hc);unfold execOp;rw [hop];simp only [Sem.run_bind,this,Result.andThen_ok];rfl
 obtain ⟨M',h1,h2⟩:=hrl.newRowR (r:=b) (m:=1) (e:=e) (q:=q) (cur:=([a.eval x].flatMap fun v=>v.cells.toList).toArray) r3 (by unfold maxLen; omega)
  (by simp only [List.size_toArray]; rw [Tp _ hvs,←hz']; rfl) (fun i j d' hi hd'=>by
   obtain rfl:i=0:=by omega
   have:=c2 j d' (by rw [r2]; exact hd')
   simpa using this) (Ku hf) (by have h1000:=hrl.nle; rw [Nat.blt_eq] at hn; omega)
 unfold Oper.wp;rw [hrun];refine hk M' _ _ _ h ?_;rw [hd];exact h1.put (o:=some b) hn h2
end
end
section
open Go.RowKit Go.Deep
section
variable {P:Program} {w0:World} {O0:Hd} {n:Nat} {M:Mp} {s:PS} {a:Act} {w w':World}
theorem fam_row {F:Nat} (hF:F<4294967296) {te:TypeId} {fq':Fq} (x:Nat):PS.r ⟨s.tmp,(FK+F,some (te,.fam fq'))::s.row,s.box⟩ x=match Nat.ble BIG x with | true=>(if unF x=F then Abk (some (some (te,.fam fq'))) (unK x) else s.r x) | false=>if x=FK+F then some (te,.fam fq') else s.r x:=by
 rw [PS.r_app (s:=s) (l:=[(FK+F,some (te,.fam fq'))]) rfl,Gp,Gp]
 cases hbx:Nat.ble BIG x with
 | true=>
  by_cases hu:unF x=F
  ·simp [hu]
  simp [hu,Ne.symm hu]
 | false=>
  by_cases hx:FK+F=x
  ·simp [hx]
  simp [hx,Ne.symm hx]
theorem Rel.inPlace (h:Rel w0 O0 n M s a w) {F k g cap:Nat} (hF:F<4294967296) {te:TypeId} {c c':Sq} {fq fq':Fq} {cur':Array Value} (hf:s.r (FK+F)=some (te,.fam fq)) (hc:fq.get k=some c) (hfq:∀ j,fq'.get j=if j=k then some c' else fq.get j)
  (hos:w'.os=w.os) (ht:w'.tape=w.tape) (ho:w'.output=w.output) (hs:w.heap.size≤w'.heap.size)
  (hcase:(M.γ (inn F k)=some none∧c'.len=0∧∀ x,x<w.heap.size→w'.heap[x]? = w.heap[x]?) ∨
   (M.γ (inn F k)=some (some (g,cap,c'.sz))∧(∀ x,x<w.heap.size→x≠g→w'.heap[x]? = w.heap[x]?)∧w'.heap[g]? = some (.cells cur' te (0,0))∧c'.len≤cap∧cap≤maxLen∧cur'.size=cap*c'.sz∧∀ i j d,i<c'.len→(c'.relem i)[j]? = some d→VR M (Ow (Fs w0 O0) M) w' d (cur'.getD (i*c'.sz+j) undef))) :
  Rel w0 O0 n M ⟨s.tmp,(FK+F,some (te,.fam fq'))::s.row,s.box⟩ a w'∧∀ d v,VR M (Ow (Fs w0 O0) M) w d v→VR M (Ow (Fs w0 O0) M) w' d v:=by
 have hinn:s.r (inn F k)=some (te,c):=by rw [fam_r hF hf,hc]
 have hoth:∀ x y cp z,M.γ y=some (some (x,cp,z))→y≠inn F k→w'.heap[x]? = w.heap[x]?:=fun x y cp z hy hne=>by
  have hlt:=h.lt x (.inr ⟨y,cp,z,hy⟩);rcases hcase with ⟨_,_,h3⟩ | ⟨h1,h2,_⟩
  ·exact h3 x hlt
  exact h2 x hlt fun e=>hne (h.inj2 _ _ _ _ _ _ _ hy (by rw [e]; exact h1))
 have hbox:∀ x b,M.β b=some x→w'.heap[x]? = w.heap[x]?:=fun x b hb=>by
  have hlt:=h.lt x (.inl ⟨b,hb⟩);rcases hcase with ⟨_,_,h3⟩ | ⟨h1,h2,_⟩
  ·exact h3 x hlt
  exact h2 x hlt fun e=>h.inj3 _ _ _ _ _ hb (by rw [e]; exact h1)
 have hun:∀ x,x<w.heap.size→¬ M.owned x→w'.heap[x]? = w.heap[x]?:=fun x hlt hx=>by
  rcases hcase with ⟨_,_,h3⟩ | ⟨h1,h2,_⟩
  ·exact h3 x hlt
  exact h2 x hlt fun e=>hx (.inr ⟨_,_,_,by rw [e]; exact h1⟩)
 have hA:∀ f b,b<w.heap.size→Ow (Fs w0 O0) M f b→Ow (Fs w0 O0) M f b∧b<w'.heap.size∧w'.heap[b]? = w.heap[b]?:=fun f b h1 h2=>⟨h2,by omega,hun b h1 h2.1⟩;have g4:∀ d v,VR M (Ow (Fs w0 O0) M) w d v→VR M (Ow (Fs w0 O0) M) w' d v:=fun d v hv=>hv.mono hA (fun _ _ h=>h) (fun _ _ h=>h)
 have keep:∀ x e q,s.r x=some (e,q)→x≠inn F k→RowAt (Fs w0 O0) M w' x e q:=fun x e q hx hne=>by
  rcases h.row x e q hx with ⟨h1,h2⟩ | ⟨g',cap',cur2,b1,b2,b3,b4,b5,b6⟩
  ·exact .inl ⟨h1,h2⟩
  exact .inr ⟨g',cap',cur2,b1,(hoth _ _ _ _ b1 hne).trans b2,b3,b4,b5,fun i j d hi hd=>g4 _ _ (b6 i j d hi hd)⟩
 refine ⟨⟨?_,h.dfr,h.sz,fun t=>g4 _ _ (h.tmp t),fun x ds hx=>?_,h.boxn,fun x e q hx=>?_,fun x hx=>?_,h.low,h.inj1,h.inj2,h.inj3,h.nle,h.fxb,h.fxr⟩,g4⟩
 ·refine h.fr.step hos ht ho hs fun x h1 h2=>hun x (Nat.lt_of_lt_of_le h1 h.fr.size) fun hx=>?_;rcases h.low x hx with h3 | h3
  ·omega
  exact h2 h3
 ·obtain ⟨k2,cur2,e2,b1,b2,b3,b4⟩:=h.box x ds hx;exact ⟨k2,cur2,e2,b1,(hbox _ _ b1).trans b2,b3,fun i d' hd=>g4 _ _ (b4 i d' hd)⟩
 ·rw [fam_row hF] at hx
  cases hbx:Nat.ble BIG x with
  | true=>
   rw [hbx] at hx;by_cases hu:unF x=F
   ·have hxe:x=inn F (unK x):=by rw [←hu]; exact (Sz hbx).symm
    simp only [hu,if_true,Abk,hfq] at hx;by_cases hk:unK x=k
    ·simp only [hk,if_true,Option.some.injEq,Prod.mk.injEq] at hx;obtain ⟨rfl,rfl⟩:=hx;rw [hxe,hk];rcases hcase with ⟨h1,h2,_⟩ | ⟨h1,_,h3,h4,h5,h6,h7⟩
     ·exact .inl ⟨h1,h2⟩
     exact .inr ⟨g,cap,cur',h1,h3,h4,h5,h6,h7⟩
    simp only [hk,if_false] at hx;split at hx
    ·rename_i c2 hc2;cases hx;refine keep x _ _ ?_ (fun e=>hk (by rw [e,Mt]));rw [hxe,fam_r hF hf,hc2]
    cases hx
   simp only [hu,if_false] at hx;exact keep x e q hx (fun e'=>hu (by rw [e',Jr,Nat.mod_eq_of_lt hF]))
  | false=>
   rw [hbx] at hx;have hxk:x≠inn F k:=fun e=>by rw [e,Hf] at hbx; cases hbx
   simp only at hx;split at hx
   ·rename_i hxf;cases hx;rw [hxf];rcases h.row _ _ _ hf with ⟨g1,g2⟩ | ⟨gg,cp,cur,g1,g2,g3,g4',g5,g6⟩
    ·exact .inl ⟨g1,O⟩
    exact .inr ⟨gg,cp,cur,g1,(hoth _ _ _ _ g1 (by rw [←hxf]; exact hxk)).trans g2,Nat.zero_le _,g4',g5,fun i j d hi hd=>absurd hi (Nat.not_lt_zero _)⟩
   exact keep x e q hx hxk
 rw [fam_row hF] at hx
 cases hbx:Nat.ble BIG x with
 | true=>
  rw [hbx] at hx;by_cases hu:unF x=F
  ·have hxe:x=inn F (unK x):=by rw [←hu]; exact (Sz hbx).symm
   simp only [hu,if_true,Abk,hfq] at hx;by_cases hk:unK x=k
   ·simp only [hk,if_true] at hx; cases hx
   simp only [hk,if_false] at hx;refine h.rown x ?_;rw [hxe,fam_r hF hf];split at hx
   ·cases hx
   rename_i h2; rw [h2]
  simp only [hu,if_false] at hx;exact h.rown x hx
 | false=>
  rw [hbx] at hx;simp only at hx;split at hx
  ·cases hx
  exact h.rown x hx
theorem Sd (h:Rel w0 O0 n M s a w) {F k m:Nat} {te:TypeId} {c:Sq} {v:Value} (hr:s.r (inn F k)=some (te,c)) (hv:VR M (Ow (Fs w0 O0) M) w (.irow F k m) v) :
  (M.γ (inn F k)=some none∧c.len=0∧m=0∧∃ ao,v=.slice ao 0 0)∨∃ g cap cur,M.γ (inn F k)=some (some (g,cap,c.sz))∧v=.slice (some ⟨g,0,none⟩) m cap∧m≤cap∧w.heap[g]? = some (.cells cur te (0,0))∧c.len≤cap∧cap≤maxLen∧cur.size=cap*c.sz ∧
   ∀ i j d,i<c.len→(c.relem i)[j]? = some d→VR M (Ow (Fs w0 O0) M) w d (cur.getD (i*c.sz+j) undef):=by
 cases hv with
 | irow _ _ _ _ h1 g2=>
  rcases h.row _ te c hr with ⟨hg,h0⟩ | ⟨g,cap,cur,hg,hh,hl,hmx,hcs,hcc⟩
  ·have:=g2 _ hg;simp only [Tz] at this;exact .inl ⟨hg,h0,this.2.1,this.1⟩
  have:=g2 _ hg;simp only [Tz] at this;obtain ⟨h1,ao,h2,h3⟩:=this;have h4:=h3 (.inr trivial);rw [Nat.zero_mul] at h4;subst h4;exact .inr ⟨g,cap,cur,hg,h2,by omega,hh,hl,hmx,hcs,hcc⟩
end
section
variable {C:Cx} {ops:Array Oper} {K:PS→Prop} {o:Oper} {rest:List Oper} {s:PS} {TT:List (Nat×Ty)} {tm:List (Nat×D)} {rw':List (Nat×Option (TypeId×Sq))} {bx:List (Nat×Option (List D))} {cr B:List Nat} {j:Nat}
structure PurF (C:Cx) (o:Oper) (s:PS) (d:D):Prop where
 out:∀ s1,(∀ x∈o.op.operands,s1.ev x=s.ev x)→(∀ r,Gg r=false→s1.r r=s.r r)→∀ M a w,Rel C.w0 C.O0 C.n M s1 a w→∃ v,(execOp a.eval o).run C.P w=.ok (.value v) w∧VR M (Ow (Fs C.w0 C.O0) M) w d v
theorem PurF.step {d:D} (h:PurF C o s d) (ho:Kf C.n o.dst=true) {s1:PS} (hs:∀ x∈o.op.operands,s1.ev x=s.ev x) (hfk:∀ r,Gg r=false→s1.r r=s.r r):Step C o s1 (fun s'=>s'=s1.put o.dst d):=sRun (fun M a w hr=>h.out s1 hs hfk M a w hr) ho rfl
theorem Xt (hw:Wanted C ops o ⟨tm,rw',bx⟩) {d:D} (hp:PurF C o ⟨tm,rw',bx⟩ d) {t:Nat} (hd:o.dst=some t) (hn:Nat.blt t C.n=true) (h:VO C ops K rest ⟨(t,d)::tm,rw',bx⟩):VO C ops K (o::rest) ⟨tm,rw',bx⟩:=by
 refine oStepW hw (Step.weak (hp.step (by rw [hd]; exact hn) (fun _ _=>O) (fun _ _=>O)) fun s' hs'=>?_);rw [hs',hd]; exact h
theorem Xu (hw:Wanted C ops o ⟨tm,rw',bx⟩) {d:D} (hp:PurF C o ⟨tm,rw',bx⟩ d) {t:Nat} (hd:o.dst=some t) (hn:Nat.blt t C.n=true) (h:QC C ops K rest ⟨(t,d)::tm,rw',bx⟩):QC C ops K (o::rest) ⟨tm,rw',bx⟩:=
 ⟨d,qStep hw fun s1 hag=>hp.step (by rw [hd]; exact hn) (fun x hx=>hag.ev x hx) (fun r _=>hag.r r),by rw [hd]; exact h⟩
theorem Xq (hw:Wanted C ops o ⟨tm,rw',bx⟩) {d:D} (hp:PurF C o ⟨tm,rw',bx⟩ d) {t:Nat} (hd:o.dst=some t) (hn:Nat.blt t C.n=true) (hc:Kr ops cr B j ⟨d,[],[]⟩=true) (h:QN C ops cr B K (j+1) rest ⟨(t,d)::tm,rw',bx⟩):QN C ops cr B K j (o::rest) ⟨tm,rw',bx⟩:=
 Sx (e:=⟨d,[],[]⟩) hw hc (fun s1 hag=>Step.weak (hp.step (by rw [hd]; exact hn) (fun x hx=>hag.ev x hx) hag.fk) fun s' hs'=>by rw [hs',hd]; rfl) (by rw [hd]; exact h)
theorem fk_notF {F:Nat}:Gg (FK+F)=false:=by
 cases hn:Gg (FK+F) with
 | false=>rfl
 | true=>have:=notF_lt hn; omega
theorem pLenI (hT:Ks C.P TT) {x:Operand} {t e te:TypeId} {kk q:Sq} {by' F k m:Nat} (hop:o.op=.call { callee:=.builtin .len,args:=#[x],argTypes:=#[t] }) (hy:Bh TT t=some (.sl e kk by')) (hx:s.ev x=.irow F k m) (hf:s.r (FK+F)=some (te,dF q)) (hq:q.deep=true) (hk:k<q.len) (hF:Nat.blt F 4294967296=true:=by rfl):PurF C o s (.int (m:Int)):=
 ⟨fun s1 hs hfk M a w hr=>by
  rw [Nat.blt_eq] at hF;have hev:=hr.ev x;rw [hs x (by rw [hop]; simp [Op.operands,Call.operands]),hx] at hev;have hinn:=Zp hF hq (s:=s1) (by rw [hfk _ fk_notF]; exact hf) k;rw [if_pos hk] at hinn
  have hrun:∀ ao m c,a.eval x=.slice ao m c→(do let d ←resolve a.eval { callee:=.builtin .len,args:=#[x],argTypes:=#[t] } o.type; invoke d.target d.args:Sem Next).run C.P w=.ok (.value (.int .i64 m)) w:=fun ao m c he=>by
   simp only [resolve,List.map_toArray,List.map_cons,List.map_nil,he];simp [invoke,Go.builtin,Builtin.len_,ty_sl (hT t _ hy),go_sem,goInt]
  refine ⟨.int .i64 m,?_,.int _⟩;unfold execOp;rw [hop];rcases Sd hr hinn hev with ⟨_,_,rfl,ao,hv⟩ | ⟨g,cap,cur,_,hv,_⟩
  ·exact hrun _ _ _ hv
  exact hrun _ _ _ hv⟩
theorem Ww (hT:Ks C.P TT) {x y:Operand} {t e te:TypeId} {kk q:Sq} {by' F k m:Nat} {i:Int} (hop:o.op=.indexAddr t x y) (hy:Bh TT t=some (.sl e kk by')) (hx:s.ev x=.irow F k m) (hyy:s.ev y=.int i) (hf:s.r (FK+F)=some (te,dF q)) (hq:q.deep=true) (hk:k<q.len) (hz:Nat.beq kk.sz (q.nn k).sz=true) (hi:0≤i∧i<(m:Int)) (hF:Nat.blt F 4294967296=true:=by rfl):PurF C o s (.iptr F k i 0):=
 ⟨fun s1 hs hfk M a w hr=>by
  rw [Nat.blt_eq] at hF;have hev:=hr.ev x;rw [hs x (by rw [hop]; simp [Op.operands]),hx] at hev;have hev2:=hr.ev y;rw [hs y (by rw [hop]; simp [Op.operands]),hyy] at hev2;have hinn:=Zp hF hq (s:=s1) (by rw [hfk _ fk_notF]; exact hf) k;rw [if_pos hk] at hinn;have hz':=Nat.eq_of_beq_eq_true hz;have hty:=hT t _ hy;rcases Sd hr hinn hev with ⟨_,_,rfl,ao,hv⟩ | ⟨g,cap,cur,hg,hv,_⟩
  ·omega
  refine ⟨.pointer (some ⟨g,0+i.toNat*kk.sz,none⟩),?_,.iptr _ _ _ _ _ fun g' c' z' hg'=>?_⟩
  ·have hrun:(Instr.indexAt t (a.eval x) (a.eval y)).run C.P w=.ok (.pointer (some ⟨g,0+i.toNat*kk.sz,none⟩)) w:=by
    rw [hv,hev2.int_inv];simp [Instr.indexAt,asIntOf,ty_sl hty,ty_size hty,go_sem,hi.1,hi.2,add_lit]
   unfold execOp;rw [hop];show ((do pure (Next.value (←Instr.indexAt t (a.eval x) (a.eval y))):Sem Next)).run C.P w=_;rw [Sem.run_bind,hrun]; rfl
  rw [hg] at hg'; cases hg'
  simp [hz']⟩
theorem Wb (hT:Ks C.P TT) {x:Operand} {t te:TypeId} {q:Sq} {z:Value} {F k off:Nat} {i:Int} {d:D} (hop:o.op=.load t x) (hy:Bh TT t=some (.sc z)) (hx:s.ev x=.iptr F k i off) (hf:s.r (FK+F)=some (te,dF q)) (hq:q.deep=true) (hk:k<q.len) (hi:0≤i∧i<((q.nn k).len:Int)) (hd:((q.nn k).elem true i.toNat)[off]? = some d) (hF:Nat.blt F 4294967296=true:=by rfl):PurF C o s d:=
 ⟨fun s1 hs hfk M a w hr=>by
  rw [Nat.blt_eq] at hF;have hev:=hr.ev x;rw [hs x (by rw [hop]; simp [Op.operands]),hx] at hev;have hinn:=Zp hF hq (s:=s1) (by rw [hfk _ fk_notF]; exact hf) k;rw [if_pos hk] at hinn;have hflat:(q.nn k).isRefs=false:=Zk q k;rcases hr.row _ _ _ hinn with ⟨hg,h0⟩ | ⟨g,cap,cur,hg,hh,hl,hm,hcs,hc⟩
  ·omega
  generalize hgv:a.eval x=v at hev
  cases hev with
  | iptr _ _ _ _ _ hv=>
   have hv':=hv g cap _ hg;have hi':i.toNat<(q.nn k).len:=by omega
   have hoff:off<(q.nn k).sz:=by rw [←Sq.elem_len true (q.nn k) i.toNat]; exact (List.getElem?_eq_some_iff.1 hd).1
   have hlt:i.toNat*(q.nn k).sz+off<cur.size:=by
    rw [hcs];have h4:(i.toNat+1)*(q.nn k).sz≤cap*(q.nn k).sz:=Nat.mul_le_mul_right _ (by omega);rw [Nat.add_mul,Nat.one_mul] at h4; omega
   have hcell:w.cell? ⟨g,i.toNat*(q.nn k).sz+off,none⟩=some (cur.getD (i.toNat*(q.nn k).sz+off) undef):=by
    rw [cell_of_row w g _ cur te (0,0) hh]; simp [hlt]
   refine ⟨_,?_,hc i.toNat off d hi' (by rw [Sq.relem_eq hflat]; exact hd)⟩;obtain ⟨⟨dd,hu,hn1,hn2⟩,_⟩:=hT t _ hy
   have hag:(isAgg t).run C.P w=.ok false w:=by
    cases dd <;> simp [isAgg,Go.run_underlying hu,go_sem];all_goals first | exact hn1 _ rfl | exact hn2 _ _ rfl
   have hrun:(Instr.loadAt t (a.eval x)).run C.P w=.ok (cur.getD (i.toNat*(q.nn k).sz+off) undef) w:=by
    rw [hgv,hv'];simp [Instr.loadAt,Instr.sureAddr,loadVar,hag,go_sem,hcell]
   unfold execOp;rw [hop];show ((do pure (Next.value (←Instr.loadAt t (a.eval x))):Sem Next)).run C.P w=_
   rw [Sem.run_bind,hrun]; rfl⟩
end
end
section
open Go.RowKit Go.Deep
structure SetIn (F:Nat) (q q':Sq) (k:Nat) (c':Sq):Prop where
 get:∀ j,(Ro q').get j=if j=k then some c' else (Ro q).get j
 dR:dR F q=dR F q'
section
variable {C:Cx} {ops:Array Oper} {K:PS→Prop} {o:Oper} {rest:List Oper} {s:PS} {TT:List (Nat×Ty)} {tm:List (Nat×D)} {rw':List (Nat×Option (TypeId×Sq))} {bx:List (Nat×Option (List D))}
theorem Rel.outer {w0:World} {O0:Hd} {n:Nat} {M:Mp} {a:Act} {w:World} {R F:Nat} {et:TypeId} {qo qo':Sq} {z:Option (TypeId×Sq)} (hF:F<4294967296) (hFR:Gg R=true) (hR:PS.r ⟨tm,rw',bx⟩ R=some (et,qo)) (he:qo=qo') (h:Rel w0 O0 n M ⟨tm,(FK+F,z)::rw',bx⟩ a w) :
  Rel w0 O0 n M ⟨tm,(R,some (et,qo'))::(FK+F,z)::rw',bx⟩ a w:=by
 subst he;have hne:FK+F≠R:=fk_ne hF hFR
 have hrr:∀ x,PS.r ⟨tm,(R,some (et,qo))::(FK+F,z)::rw',bx⟩ x=PS.r ⟨tm,(FK+F,z)::rw',bx⟩ x:=fun x=>by
  rw [PS.r_app (s:=⟨tm,rw',bx⟩) (s':=⟨tm,(R,some (et,qo))::(FK+F,z)::rw',bx⟩) (l:=[(R,some (et,qo)),(FK+F,z)]) rfl,PS.r_app (s:=⟨tm,rw',bx⟩) (s':=⟨tm,(FK+F,z)::rw',bx⟩) (l:=[(FK+F,z)]) rfl,He,He,Gp,Gp]
  cases hbx:Nat.ble BIG x with
  | true=>
   have h1:R≠FK+unF x:=fun e=>by have:=Lw x; rw [←e,hFR] at this; cases this
   simp [h1]
  | false=>
   by_cases hx:R=x
   ·subst hx; simp [hR,hne]
   simp [hx]
 exact ⟨h.fr,h.dfr,h.sz,h.tmp,h.box,h.boxn,fun x e p hx=>h.row x e p (by rw [←hrr]; exact hx),fun x hx=>h.rown x (by rw [←hrr]; exact hx),h.low,h.inj1,h.inj2,h.inj3,h.nle,h.fxb,h.fxr⟩
theorem Yw (R:Nat) (q':Sq) (hT:Ks C.P TT) (hg:o.guard=none) {t te et:TypeId} {p x:Operand} {z:Value} {q c':Sq} {F k off:Nat} {i:Int} {d:D} (hop:o.op=.store t p x) (hd:o.dst=none) (hy:Bh TT t=some (.sc z)) (hp:(PS.ev ⟨tm,rw',bx⟩ p)=.iptr F k i off) (hx:(PS.ev ⟨tm,rw',bx⟩ x)=d) (hone:d.one=true)
  (hf:PS.r ⟨tm,rw',bx⟩ (FK+F)=some (te,dF q)) (hR:PS.r ⟨tm,rw',bx⟩ R=some (et,dR F q)) (hq:q.deep=true) (hk:k<q.len) (hi:0≤i∧i<((q.nn k).len:Int)) (hset:(q.nn k).set i.toNat off d=some c') (hin:SetIn F q q' k c')
  (h:VO C ops K rest ⟨tm,(R,some (et,dR F q'))::(FK+F,some (te,dF q'))::rw',bx⟩) (hF:Nat.blt F 4294967296=true:=by rfl) (hFR:Gg R=true:=by rfl):VO C ops K (o::rest) ⟨tm,rw',bx⟩:=by
 refine vOp hg ⟨fun M a w Q K' hr hkk=>?_⟩;rw [Nat.blt_eq] at hF;have hevp:=hr.ev p;rw [hp] at hevp;have hevx:=hr.ev x;rw [hx] at hevx;have hinn:=Zp hF hq (s:=⟨tm,rw',bx⟩) hf k;rw [if_pos hk] at hinn;have h1c:=hevx.one hone;have hflat:(q.nn k).isRefs=false:=Zk q k;obtain ⟨q1,q2,q3,q4,q5⟩:=Sq.set_ok hset;have hi':i.toNat<(q.nn k).len:=by omega
 have hf':=hf;rw [dF_fam] at hf';rcases hr.row _ _ _ hinn with ⟨hg',h0⟩ | ⟨g,cap,cur,hg',hh,hl,hm,hcs,hc⟩
 ·omega
 have hpv:a.eval p=.pointer (some ⟨g,i.toNat*(q.nn k).sz+off,none⟩):=by
  generalize a.eval p=v at hevp;cases hevp with | iptr _ _ _ _ _ hv=>exact hv g cap _ hg'
 have hpos:i.toNat*(q.nn k).sz+off<cur.size:=by
  rw [hcs];have h4:(i.toNat+1)*(q.nn k).sz≤cap*(q.nn k).sz:=Nat.mul_le_mul_right _ (by omega);rw [Nat.add_mul,Nat.one_mul] at h4; omega
 have hrunS:(store ⟨g,i.toNat*(q.nn k).sz+off,none⟩ (a.eval x)).run C.P w=.ok () (w.setCell ⟨g,i.toNat*(q.nn k).sz+off,none⟩ (a.eval x)):=by
  rw [run_store C.P w _ (a.eval x) _ h1c,cell_of_row w g _ cur te (0,0) hh];simp [hpos,World.frozen?,hh]
 have hrun:(execOp a.eval o).run C.P w=.ok .skip (w.setCell ⟨g,i.toNat*(q.nn k).sz+off,none⟩ (a.eval x)):=by
  obtain ⟨⟨dd,hu,hn1,hn2⟩,hz1,_⟩:=hT t _ hy;simp only [execOp,hop,Instr.storeAt,Instr.sureAddr,storeVar,hpv,Sem.run_bind,ty_sizeOf (hT t _ hy),Result.andThen_ok];have hcz:(a.eval x).cells=#[a.eval x]:=cells_one h1c;rw [hcz];generalize a.eval x=vx at hrunS ⊢;simp [go_sem,storeCells,add_lit,hrunS,Sy]
 have hoth:∀ y,y≠g→(w.setCell ⟨g,i.toNat*(q.nn k).sz+off,none⟩ (a.eval x)).heap[y]? = w.heap[y]?:=fun y hy=>Below.heap_setCell _ _ _ _ hy;have hself:=Mr w g (i.toNat*(q.nn k).sz+off) cur te (a.eval x) hh
 have hA:∀ f b,b<w.heap.size→Ow (Fs C.w0 C.O0) M f b→Ow (Fs C.w0 C.O0) M f b∧b<(w.setCell ⟨g,i.toNat*(q.nn k).sz+off,none⟩ (a.eval x)).heap.size∧(w.setCell ⟨g,i.toNat*(q.nn k).sz+off,none⟩ (a.eval x)).heap[b]? = w.heap[b]?:=fun f b h2 h3=>
  ⟨h3,by simpa [World.setCell] using h2,hoth b (fun e=>h3.1 (by subst e; exact .inr ⟨_,_,_,hg'⟩))⟩
 have mono:∀ d v,VR M (Ow (Fs C.w0 C.O0) M) w d v→VR M (Ow (Fs C.w0 C.O0) M) (w.setCell ⟨g,i.toNat*(q.nn k).sz+off,none⟩ (a.eval x)) d v:=fun d v hv=>hv.mono hA (fun _ _ h=>h) (fun _ _ h=>h)
 obtain ⟨r1,_⟩:=hr.inPlace (w':=w.setCell ⟨g,i.toNat*(q.nn k).sz+off,none⟩ (a.eval x)) (g:=g) (cap:=cap) (c':=c') (fq':=Ro q') (cur':=cur.setIfInBounds (i.toNat*(q.nn k).sz+off) (a.eval x)) hF hf' (by rw [My hq,if_pos hk]) hin.get rfl rfl rfl (by simp [World.setCell])
  (.inr ⟨by rw [q2]; exact hg',fun y _ hy=>hoth y hy,hself,by omega,hm,by simp [hcs,q2],fun i' j' d' hi1 hd'=>by
   rw [q2];by_cases hii:i'=i.toNat
   ·subst hii;rw [q5 hi',List.getElem?_set] at hd';by_cases hjj:off=j'
    ·subst hjj;rw [if_pos rfl,Sq.relem_len,if_pos q3] at hd';cases hd';simpa [hpos] using mono _ _ hevx
    rw [if_neg hjj] at hd';have:=hc i.toNat j' d' hi' hd';have hne:i.toNat*(q.nn k).sz+off≠i.toNat*(q.nn k).sz+j':=by omega
    simpa [Array.getElem?_setIfInBounds_ne hne] using mono _ _ this
   rw [q4 i' hii] at hd';have hj':j'<(q.nn k).sz:=by rw [←Sq.relem_len (q.nn k) i']; exact (List.getElem?_eq_some_iff.1 hd').1
   have:=hc i' j' d' (by omega) hd'
   have hne:i.toNat*(q.nn k).sz+off≠i'*(q.nn k).sz+j':=by
    intro he;rcases Nat.lt_or_gt_of_ne hii with h5 | h5
    ·have:(i'+1)*(q.nn k).sz≤i.toNat*(q.nn k).sz:=Nat.mul_le_mul_right _ h5;rw [Nat.add_mul,Nat.one_mul] at this; omega
    have:(i.toNat+1)*(q.nn k).sz≤i'*(q.nn k).sz:=Nat.mul_le_mul_right _ h5;rw [Nat.add_mul,Nat.one_mul] at this; omega
   simpa [Array.getElem?_setIfInBounds_ne hne] using mono _ _ this⟩)
 unfold Oper.wp;rw [hrun];have:(a.put o.dst undef)=a:=by rw [hd]; rfl
 show K' (a.put o.dst undef) _;rw [this];refine hkk M _ _ _ h ?_;rw [dF_fam];exact Rel.outer hF hFR hR hin.dR r1
end
end
section
open Go.RowKit Go.Deep
structure NewD (N:Mp) (A:Bool→Nat→Prop) (w w':World) (B F:Nat) (et te:TypeId) (q:Sq):Prop where
 os:w'.os=w.os
 tape:w'.tape=w.tape
 output:w'.output=w.output
 size:w.heap.size≤w'.heap.size
 block:∀ k,k<w.heap.size→w'.heap[k]? = w.heap[k]?
 noβ:∀ b,N.β b=none
 outer:(N.γ B=some none∧q.len=0)∨∃ g cap cur,N.γ B=some (some (g,cap,q.sz))∧w'.heap[g]? = some (.cells cur et (0,0))∧q.len≤cap∧cap≤maxLen∧cur.size=cap*q.sz∧∀ i j d,i<q.len→((dR F q).relem i)[j]? = some d→VR N A w' d (cur.getD (i*q.sz+j) undef)
 inner:∀ i,i<q.len→(N.γ (inn F i)=some none∧(q.nn i).len=0)∨∃ g cap cur,N.γ (inn F i)=some (some (g,cap,(q.nn i).sz))∧w'.heap[g]? = some (.cells cur te (0,0))∧(q.nn i).len≤cap∧cap≤maxLen∧cur.size=cap*(q.nn i).sz∧∀ i' j d,i'<(q.nn i).len→((q.nn i).relem i')[j]? = some d→VR N A w' d (cur.getD (i'*(q.nn i).sz+j) undef)
 none:∀ x,x≠B→(∀ i,i<q.len→x≠inn F i)→N.γ x=none
 low:∀ k,N.owned k→w.heap.size≤k
 inj:∀ r r' k c z c' z',N.γ r=some (some (k,c,z))→N.γ r'=some (some (k,c',z'))→r=r'
structure PCallD (P:Program) (f:FuncId) (ds:List D) (et te:TypeId) (q:Sq) (d:D):Prop where
 enter:∀ args w,(callFunc f args).run P w=.ok (.enter f args) w
 deep:q.deep=true
 run:∀ w args,ArgsOK w ds args→Calls P f args w fun e w'=>∃ v,e=.returned v∧∀ B F,B≤500000→F<4294967296→∃ N,NewD N (Rs w N) w w' B F et te q∧VR N (Rs w N) w' (ren id (fun j=>B+j) d) v
section
variable {C:Cx} {ops:Array Oper} {K:PS→Prop} {o:Oper} {rest:List Oper} {s s':PS} {TT:List (Nat×Ty)} {tm:List (Nat×D)} {rw':List (Nat×Option (TypeId×Sq))} {bx:List (Nat×Option (List D))}
theorem Rel.newDeep {w0:World} {O0:Hd} {n:Nat} {M N:Mp} {A:Bool→Nat→Prop} {a:Act} {w w':World} {B F:Nat} {et te:TypeId} {q:Sq} (h:Rel w0 O0 n M ⟨tm,rw',bx⟩ a w) (hq:q.deep=true) (hN:NewD N A w w' B F et te q) (hF:F<4294967296) (hB:B<1000000)
  (hA:∀ f k,k<w'.heap.size→A f k→(¬ N.owned k∧¬ M.owned k)∧Fs w0 O0 f k) (hf:Fresh ⟨tm,rw',bx⟩ (fun _=>false) (fun r=>Nat.beq r B || !Gg r)) (hl:lone ⟨tm,rw',bx⟩ 999999 F=true) (h9:PS.r ⟨tm,rw',bx⟩ 999999=none) (hfn:PS.r ⟨tm,rw',bx⟩ (FK+F)=none) (hO:∀ u,O0.fr (FK+F)≠some u) :
  ∃ M',Rel w0 O0 n M' ⟨tm,(B,some (et,dR F q))::(FK+F,some (te,dF q))::rw',bx⟩ a w'∧∀ d v,Gk (fun _=>true) (fun r=>!Nat.beq r B) d=false→VR N A w' d v→VR M' (Ow (Fs w0 O0) M') w' d v:=by
 have hBF:=Dd hB;have hBb:=Cn hBF;have hne:FK+F≠B:=fk_ne hF hBF
 let M':Mp:=⟨M.β,fun x=>match Nat.ble BIG x with
  | true=>if unF x=F then N.γ x else M.γ x
  | false=>if x=B then N.γ B else if x=FK+F then some none else M.γ x⟩
 have mB:M'.γ B=N.γ B:=by simp [M',hBb]
 have mF:M'.γ (FK+F)=some none:=by simp [M',Ya hF,hne]
 have mI:∀ i,M'.γ (inn F i)=N.γ (inn F i):=fun i=>by
  have e:∀ x,Nat.ble BIG x=true→unF x=F→M'.γ x=N.γ x:=fun x h1 h2=>by simp [M',h1,h2]
  exact e _ (Hf F i) (by rw [Jr,Nat.mod_eq_of_lt hF])
 have mG:∀ x,Nat.ble BIG x=true→unF x≠F→M'.γ x=M.γ x:=fun x h1 h2=>by simp [M',h1,h2]
 have mL:∀ x,Nat.ble BIG x=false→x≠B→x≠FK+F→M'.γ x=M.γ x:=fun x h1 h2 h3=>by simp [M',h1,h2,h3]
 have hfi:∀ k,M.γ (inn F k)=none:=fun k=>h.rown _ (by rw [PS.r_hi _ (Hf F k),PS.inn_r,Zs hF,hfn]; rfl)
 have cases4:∀ x y,M'.γ x=some y→N.γ x=some y∨(M.γ x=some y∧x≠FK+F)∨(x=FK+F∧y=none):=fun x y hx=>by
  cases hb:Nat.ble BIG x with
  | true=>
   by_cases hu:unF x=F
   ·have:M'.γ x=N.γ x:=by simp [M',hb,hu]
    rw [this] at hx; exact .inl hx
   rw [mG x hb hu] at hx;exact .inr (.inl ⟨hx,fun e=>by rw [e,Ya hF] at hb; cases hb⟩)
  | false=>
   by_cases h1:x=B
   ·rw [h1,mB] at hx; rw [h1]; exact .inl hx
   by_cases h2:x=FK+F
   ·rw [h2,mF] at hx; cases hx; exact .inr (.inr ⟨h2,rfl⟩)
   rw [mL x hb h1 h2] at hx; exact .inr (.inl ⟨hx,h2⟩)
 have hown:∀ k,M'.owned k→M.owned k∨N.owned k:=by
  rintro k (⟨x,hx⟩ | ⟨r,c,z,hr⟩)
  ·exact .inl (.inl ⟨x,hx⟩)
  rcases cases4 r _ hr with h1 | ⟨h1,_⟩ | ⟨_,h1⟩
  ·exact .inr (.inr ⟨r,c,z,h1⟩)
  ·exact .inl (.inr ⟨r,c,z,h1⟩)
  cases h1
 have hA0:∀ f k,k<w.heap.size→Ow (Fs w0 O0) M f k→Ow (Fs w0 O0) M' f k∧k<w'.heap.size∧w'.heap[k]? = w.heap[k]?:=fun f k h1 h2=>
  ⟨⟨fun h3=>by rcases hown k h3 with h4 | h4; exact h2.1 h4; have:=hN.low k h4; omega,h2.2⟩,by have:=hN.size; omega,hN.block k h1⟩
 have hA1:∀ f k,k<w'.heap.size→A f k→Ow (Fs w0 O0) M' f k∧k<w'.heap.size∧w'.heap[k]? = w'.heap[k]?:=fun f k h1 h2=>
  ⟨⟨fun h3=>by rcases hown k h3 with h4 | h4; exact (hA f k h1 h2).1.2 h4; exact (hA f k h1 h2).1.1 h4,(hA f k h1 h2).2⟩,h1,rfl⟩
 have hγ:∀ x y,(Nat.beq x B || !Gg x)=false→M'.γ x=some y→M.γ x=some y:=fun x y h1 h2=>by
  rw [Bool.or_eq_false_iff] at h1;have hn:Gg x=true:=by simpa using h1.2
  rw [mL x (Cn hn) (fun e=>by rw [e,Nat.beq_refl] at h1; cases h1.1) (fun e=>fk_ne hF hn e.symm)] at h2;exact h2
 have hbf:(Nat.beq BIG B || !Gg BIG)=true:=by
  have:Gg BIG=false:=by decide
  rw [this]; simp
 have oldrow:∀ x e p,PS.r ⟨tm,rw',bx⟩ x=some (e,p)→M'.γ x=M.γ x→RowAt (Fs w0 O0) M' w' x e p:=fun x e p hx hm=>by
  rcases h.row x e p hx with ⟨g1,g2⟩ | ⟨g,cap,cur,g1,g2,g3,g4,g5,g6⟩
  ·exact .inl ⟨hm.trans g1,g2⟩
  have hlt:=(Array.getElem?_eq_some_iff.1 g2).1;refine .inr ⟨g,cap,cur,hm.trans g1,(hN.block g hlt).trans g2,g3,g4,g5,fun i j d hi hd=>(g6 i j d hi hd).relem_any2 hd hA0 fun G hG k y hy=>?_⟩;rcases Ts hl hx hG with h1 | ⟨h1,h2⟩
  ·rw [h1,h9] at hx; cases hx
  rw [mG _ (Hf G k) (by rw [Jr,Nat.mod_eq_of_lt h2]; exact h1)] at hy; exact hy
 have hPS:∀ x,PS.r ⟨tm,(B,some (et,dR F q))::(FK+F,some (te,dF q))::rw',bx⟩ x=match Nat.ble BIG x with | true=>(if unF x=F then Abk (some (some (te,dF q))) (unK x) else PS.r ⟨tm,rw',bx⟩ x) | false=>if x=B then some (et,dR F q) else if x=FK+F then some (te,dF q) else PS.r ⟨tm,rw',bx⟩ x:=fun x=>by
  rw [PS.r_app (s:=⟨tm,rw',bx⟩) (s':=⟨tm,(B,some (et,dR F q))::(FK+F,some (te,dF q))::rw',bx⟩) (l:=[(B,some (et,dR F q)),(FK+F,some (te,dF q))]) rfl,He,He]
  cases hbx:Nat.ble BIG x with
  | true=>
   have h1:B≠FK+unF x:=fun e=>by have:=Lw x; rw [←e,hBF] at this; cases this
   by_cases hu:unF x=F
   ·simp [hu,Ne.symm hne]
   simp [hu,Ne.symm hu,h1]
  | false=>
   by_cases hx:B=x
   ·subst hx; simp
   by_cases hxf:FK+F=x
   ·rw [←hxf,if_neg (Ne.symm hne),if_pos rfl,if_neg hne,if_pos rfl]
   simp [hx,hxf,Ne.symm hx,Ne.symm hxf]
 refine ⟨M',⟨?_,h.dfr,h.sz,fun t=>?_,fun x ds hx=>?_,fun x hx=>h.boxn x hx,fun x e p hx=>?_,fun x hx=>?_,fun k hk=>?_,h.inj1,fun x y k c z c' z' h1 h2=>?_,fun x y k c z h1 h2=>?_,h.nle,h.fxb,fun x u u' h1 h2=>?_⟩,fun d v hd hv=>?_⟩
 ·exact h.fr.step hN.os hN.tape hN.output hN.size fun k h1 _=>hN.block k (Nat.lt_of_lt_of_le h1 h.fr.size)
 ·exact VR.new (b:=fun _=>false) (r:=fun r=>Nat.beq r B || !Gg r) hA0 hγ (fun _ _ _ h=>h) (hf.t t) (h.tmp t) (hi:=fun h0=>by rw [hbf] at h0; cases h0)
 ·obtain ⟨k,cur',e',h1,h2,h3,h4⟩:=h.box x ds hx;have hlt:=(Array.getElem?_eq_some_iff.1 h2).1;exact ⟨k,cur',e',h1,(hN.block k hlt).trans h2,h3,fun j d hd=>VR.newS (b:=fun _=>false) (r:=fun r=>Nat.beq r B || !Gg r) hA0 hγ (fun _ _ _ h=>h) (hf.b _ _ hx d (List.mem_of_getElem? hd)) (h4 j d hd) (hi:=fun h0=>by rw [hbf] at h0; cases h0)⟩
 ·rw [hPS] at hx
  cases hbx:Nat.ble BIG x with
  | true=>
   rw [hbx] at hx;by_cases hu:unF x=F
   ·have hxe:x=inn F (unK x):=by rw [←hu]; exact (Sz hbx).symm
    simp only [hu,if_true] at hx;rw [famr_dF hq] at hx;generalize unK x=k0 at hx hxe;split at hx
    ·rename_i hk;cases hx;rw [hxe];rcases hN.inner _ hk with ⟨g1,g2⟩ | ⟨g,cap,cur,g1,g2,g3,g4,g5,g6⟩
     ·exact .inl ⟨(mI _).trans g1,g2⟩
     refine .inr ⟨g,cap,cur,(mI _).trans g1,g2,g3,g4,g5,fun i j d hi hd=>?_⟩;have hd2:=hd;rw [Sq.relem_eq (Zk q _)] at hd2;exact (g6 i j d hi hd).elem_any hd2 hA1
    cases hx
   simp only [hu,if_false] at hx;exact oldrow x e p hx (mG x hbx hu)
  | false=>
   rw [hbx] at hx;simp only at hx;split at hx
   ·rename_i hxB;cases hx;subst hxB;rcases hN.outer with ⟨g1,g2⟩ | ⟨g,cap,cur,g1,g2,g3,g4,g5,g6⟩
    ·exact .inl ⟨mB.trans g1,by rw [Mb]; exact g2⟩
    refine .inr ⟨g,cap,cur,by rw [mB,Xj]; exact g1,g2,by rw [Mb]; exact g3,g4,by rw [Xj]; exact g5,fun i j d hi hd=>?_⟩;rw [Mb] at hi;rw [Xj];have hv:=g6 i j d hi hd;rcases Wu hq hi hd with ⟨rfl,_⟩ | ⟨y,rfl,_⟩
    ·exact hv.irow_mv fun y hy=>by rw [mI] at hy; exact hy
    rw [hv.int_inv]; exact .int _
   rename_i hxB;split at hx
   ·rename_i hxf;cases hx;rw [hxf];exact .inl ⟨mF,dF_len q⟩
   rename_i hxf;exact oldrow x e p hx (mL x hbx hxB hxf)
 ·rw [hPS] at hx
  cases hbx:Nat.ble BIG x with
  | true=>
   rw [hbx] at hx;by_cases hu:unF x=F
   ·have hxe:x=inn F (unK x):=by rw [←hu]; exact (Sz hbx).symm
    simp only [hu,if_true] at hx;rw [famr_dF hq] at hx;split at hx
    ·cases hx
    rename_i hk;rw [hxe,mI];refine hN.none _ (fun e=>by have:=Hf F (unK x); rw [e,hBb] at this; cases this) fun i hi e=>hk ?_;rw [(inn_inj e).2]; exact hi
   simp only [hu,if_false] at hx;rw [mG x hbx hu]; exact h.rown x hx
  | false=>
   rw [hbx] at hx;simp only at hx;split at hx
   ·cases hx
   rename_i hxB;split at hx
   ·cases hx
   rename_i hxf;rw [mL x hbx hxB hxf]; exact h.rown x hx
 ·rcases hown k hk with h1 | h1
  ·exact h.low k h1
  exact .inl (Nat.le_trans h.fr.size (hN.low k h1))
 ·have hx:∀ r r' k c z c' z',M.γ r=some (some (k,c,z))→N.γ r'=some (some (k,c',z'))→False:=fun r r' k c z c' z' a1 a2=>by
   have:=h.lt _ (.inr ⟨r,c,z,a1⟩); have:=hN.low _ (.inr ⟨r',c',z',a2⟩); omega
  rcases cases4 x _ h1 with g1 | ⟨g1,_⟩ | ⟨_,g1⟩
  ·rcases cases4 y _ h2 with g2 | ⟨g2,_⟩ | ⟨_,g2⟩
   ·exact hN.inj _ _ _ _ _ _ _ g1 g2
   ·exact (hx _ _ _ _ _ _ _ g2 g1).elim
   cases g2
  ·rcases cases4 y _ h2 with g2 | ⟨g2,_⟩ | ⟨_,g2⟩
   ·exact (hx _ _ _ _ _ _ _ g1 g2).elim
   ·exact h.inj2 _ _ _ _ _ _ _ g1 g2
   cases g2
  cases g1
 ·rcases cases4 y _ h2 with g2 | ⟨g2,_⟩ | ⟨_,g2⟩
  ·have:=h.lt _ (.inl ⟨x,h1⟩); have:=hN.low _ (.inr ⟨y,c,z,g2⟩); omega
  ·exact h.inj3 _ _ _ _ _ h1 g2
  cases g2
 ·obtain ⟨h3,h4⟩:=O0.lor x u h1
  have hb1:Nat.ble BIG x=false:=by
   cases hb:Nat.ble BIG x with
   | false=>rfl
   | true=>have:=Nat.le_of_ble_eq_true hb; omega
  by_cases hxf:x=FK+F
  ·rw [hxf] at h1; exact absurd h1 (hO u)
  rw [mL x hb1 (by omega) hxf] at h2; exact h.fxr x u u' h1 h2
 refine VR.new (b:=fun _=>true) (r:=fun r=>!Nat.beq r B) hA1 (fun x y h1 h2=>?_) (fun x k hx=>by simp at hx) hd hv (hi:=fun h0=>?_)
 ·have:x=B:=Nat.eq_of_beq_eq_true (by simpa using h1);rw [this,mB] at h2; rw [this]; exact h2
 have:BIG=B:=Nat.eq_of_beq_eq_true (by simpa using h0);rw [←this] at hBb;exact absurd hBb (by decide)
theorem Aa9 (F:Nat) {f:FuncId} {args:Array Operand} {ts:Array TypeId} {ds:List D} {et te:TypeId} {q:Sq} {d d':D} (hp:PCallD C.P f ds et te q d) (hg:o.guard=none) (hop:o.op=.call { callee:=.value (.func f),args:=args,argTypes:=ts }) {b:Nat} (hd:o.dst=some b) (hn:Nat.blt b C.n=true) (hno:(ds.all Kz)=true)
  (hm:Gk (fun _=>true) (fun r=>!Nat.beq r (Gu b)) (ren id (fun j=>Gu b+j) d)=false) (hx:(fcD (ren id (fun j=>Gu b+j) d) some)=some d') (hf:frB ⟨tm,rw',bx⟩ (fun _=>false) (fun r=>Nat.beq r (Gu b) || !Gg r)=true) (hl:lone ⟨tm,rw',bx⟩ 999999 F=true) (h9:PS.r ⟨tm,rw',bx⟩ 999999=none) (hfn:PS.r ⟨tm,rw',bx⟩ (FK+F)=none) (hO:∀ u,C.O0.fr (FK+F)≠some u) (hfit:fits ⟨tm,rw',bx⟩ args.toList ds)
  (h:VO C ops K rest ⟨(b,d')::tm,(Gu b,some (et,dR F q))::(FK+F,some (te,dF q))::rw',bx⟩) (hF:Nat.blt F 4294967296=true:=by rfl):VO C ops K (o::rest) ⟨tm,rw',bx⟩:=by
 refine vOp hg ⟨fun M a w Q K' hr hk=>?_⟩;rw [Nat.blt_eq] at hF;rw [Jk] at hx;cases hx;have hb1000:b<1000:=by have:=hr.nle; rw [Nat.blt_eq] at hn; omega
 have hrun:(execOp a.eval o).run C.P w=.ok (.enter f (args.map a.eval)) w:=by
  have:=hp.enter (args.map a.eval) w;unfold execOp;rw [hop];show ((do let d ←resolve a.eval _ o.type; invoke d.target d.args:Sem Next)).run C.P w=_;simp only [resolve];show ((callFunc f ((#[]++args.map a.eval)++#[])):Sem Next).run C.P w=_;rw [show (#[]++args.map a.eval)++#[]=args.map a.eval by simp];exact this
 unfold Oper.wp;rw [hrun];refine (hp.run w _ (Zc hr hfit hno)).mono ?_;rintro e w' ⟨v,rfl,hB⟩;obtain ⟨N,hN,hv⟩:=hB (Gu b) F (by simp only [Gu]; omega) hF;obtain ⟨M',h1,h2⟩:=hr.newDeep hp.deep hN hF (by simp only [Gu]; omega) (fun f k hk hA=>⟨⟨hA.2,fun ho=>by have:=hr.lt k ho; have:=hA.1; omega⟩,.inl (Nat.le_trans hr.fr.size hA.1)⟩) (Ku hf) hl h9 hfn hO;refine hk M' _ _ _ h ?_;rw [hd];exact h1.put (o:=some b) hn (h2 _ _ hm hv)
end
end
section
open Go.RowKit Go.Deep
theorem mentA_ne {b r:Nat→Bool} {d:D} (h:∀ l,d≠.agg l):Dh b r d=Ca b r d:=by cases d <;> first | rfl | exact absurd rfl (h _)
theorem ment_ne {b r:Nat→Bool} {d:D} (h:∀ l,d≠.tup l):Gk b r d=Dh b r d:=by cases d <;> first | rfl | exact absurd rfl (h _)
theorem renA_ne {τ σ:Nat→Nat} {d:D} (h:∀ l,d≠.agg l):renA τ σ d=renS τ σ d:=by cases d <;> first | rfl | exact absurd rfl (h _)
theorem ren_ne {τ σ:Nat→Nat} {d:D} (h:∀ l,d≠.tup l):ren τ σ d=renA τ σ d:=by cases d <;> first | rfl | exact absurd rfl (h _)
theorem renS_agg {τ σ:Nat→Nat} (d:D):∀ l,renS τ σ d≠.agg l:=by cases d <;> intro l h <;> cases h
theorem renA_tup {τ σ:Nat→Nat} (d:D):∀ l,renA τ σ d≠.tup l:=by cases d <;> intro l h <;> cases h
theorem ment_one {B:Nat}:∀ d:D,Gk (fun _=>true) (fun j=>!Nat.blt j 1) d=false→Gk (fun _=>true) (fun r=>!Nat.beq r B) (ren id (fun j=>B+j) d)=false:=by
 have keyS:∀ d:D,Ca (fun _=>true) (fun j=>!Nat.blt j 1) d=false→Ca (fun _=>true) (fun r=>!Nat.beq r B) (renS id (fun j=>B+j) d)=false:=fun d hd=>by
  cases d <;> simp only [Ca,renS] at hd ⊢ <;> try (first | exact hd | rfl)
  ·rename_i x _ _;have h1:x<1:=by simpa using hd
   have:x=0:=by omega
   subst this; simp [Nat.beq_refl]
  ·rename_i x _ _;have h1:x<1:=by simpa using hd
   have:x=0:=by omega
   subst this; simp [Nat.beq_refl]
  ·rename_i f bs;simpa using hd
  ·exact absurd hd (by decide)
  exact absurd hd (by decide)
 have keyA:∀ d:D,Dh (fun _=>true) (fun j=>!Nat.blt j 1) d=false→Dh (fun _=>true) (fun r=>!Nat.beq r B) (renA id (fun j=>B+j) d)=false:=fun d hd=>by
  by_cases ha:∃ l,d=.agg l
  ·obtain ⟨l,rfl⟩:=ha;simp only [Dh,renA,List.any_eq_false,List.mem_map] at hd ⊢;rintro x ⟨y,hy,rfl⟩;have:=keyS y (by simpa using hd y hy);simp [this]
  have hne:∀ l,d≠.agg l:=fun l e=>ha ⟨l,e⟩;rw [mentA_ne hne] at hd;rw [renA_ne hne,mentA_ne (renS_agg d)];exact keyS d hd
 intro d hd;by_cases ha:∃ l,d=.tup l
 ·obtain ⟨l,rfl⟩:=ha;simp only [Gk,ren,List.any_eq_false,List.mem_map] at hd ⊢;rintro x ⟨y,hy,rfl⟩;have:=keyA y (by simpa using hd y hy);simp [this]
 have hne:∀ l,d≠.tup l:=fun l e=>ha ⟨l,e⟩;rw [ment_ne hne] at hd;rw [ren_ne hne,ment_ne (renA_tup d)];exact keyA d hd
def RetPD (TT:List (Nat×Ty)) (res:List ResultVar) (et te:TypeId) (q:Sq) (d:D):Exit→PS→Prop:=fun e s=>match e with
 | .normal | .ret=>∃ R F d',Nat.blt F 4294967296=true∧retD TT s res=some d'∧s.r R=some (et,dR F q)∧s.r (FK+F)=some (te,dF q)∧Gg R=true∧Wk d' (ren id (fun _=>R) d)∧okD 1 d=true
 | _=>False
theorem Rw {P:Program} {f:FuncId} {fn:Func} {c:Code} {TT:List (Nat×Ty)} {ds:List D} {et te:TypeId} {q:Sq} {d:D} {n:Nat} {res:List ResultVar} (hT:Ks P TT) (hf:P.funcs[f]? = some fn) (hb:fn.body=some c)
  (hname : (fn.name == "runtime.NumGoroutine") = false) (hn : fn.ntmps = n) (hres : fn.results.toList = res) (hds : Nat.ble ds.length n = true) (hno : (ds.all fun d => Kz d && nwD false d) = true) (hq : q.deep = true)
  (h:∀ w0,VC ⟨P,w0,Hd.no,n⟩ c (RetPD TT res et te q d) ⟨entL 0 ds,[],[]⟩) (hn1000:Nat.ble n 1000=true:=by rfl):PCallD P f ds et te q d:=by
 subst hn hres;refine ⟨Qz hf hname (by simp [hb]),hq,fun w0 args ⟨hsz,hargs⟩=>?_⟩;have hle:=Nat.le_of_ble_eq_true hds
 have hent:Rel w0 Hd.no fn.ntmps M0 ⟨entL 0 ds,[],[]⟩ { tmps:=args++Array.replicate (fn.ntmps-args.size) undef,defers:=[] } w0:=by
  refine ⟨⟨O,O,O,Nat.le_refl _,fun _ _ _=>O⟩,O,by simp; omega,fun t=>?_,fun b cs hb=>by simp [PS.b,Bh] at hb,fun _ _=>O,fun r e q hr=>(by rw [r_ent] at hr; cases hr),fun _ _=>O,?_,by simp,by simp,by simp,Nat.le_of_ble_eq_true hn1000,by simp,by simp⟩
  ·simp only [PS.t,Rz,Nat.zero_le,if_true,Nat.sub_zero]
   cases hd:ds[t]? with
   | none=>exact .dead _
   | some d0=>
    have hlt:t<args.size:=by rw [hsz]; exact (List.getElem?_eq_some_iff.1 hd).1
    have h1:=hargs t d0 hd
    have h2:(args++Array.replicate (fn.ntmps-args.size) undef).getD t undef=args.getD t undef:=by
     simp [Array.getElem?_append_left hlt]
    rw [h2];have h4:=(List.all_eq_true.1 hno) d0 (List.mem_of_getElem? hd);simp only [Bool.and_eq_true] at h4;refine VR.new (b:=fun _=>true) (r:=fun _=>true) (A:=fun f _=>True∧f=false) (fun f b hb hf=>⟨⟨?_,.inr hf.2⟩,hb,O⟩) (fun x y hx=>by simp at hx) (fun x y hx=>by simp at hx) ?_ (h1.flag h4.2)
    ·simpa [Kz] using h4.1
    rintro (⟨x,hx⟩ | ⟨x,c,z,hx⟩) <;> simp at hx
  rintro k (⟨x,hx⟩ | ⟨x,c,z,hx⟩) <;> simp at hx
 refine calls_of_wp hf hb (Code.wp_mono ?_ ((h w0).out M0 _ w0 hent));rintro e a' w' ⟨s',M',hqq,hr⟩
 have fin:∀ (hq':∃ R F d',Nat.blt F 4294967296=true∧retD TT s' fn.results.toList=some d'∧s'.r R=some (et,dR F q)∧s'.r (FK+F)=some (te,dF q)∧Gg R=true∧Wk d' (ren id (fun _=>R) d)∧okD 1 d=true),
   a'.defers=[]∧∃ v,(results fn a'.tmps).run P w'=.ok v w'∧∃ v',Ending.returned v=.returned v'∧∀ B F,B≤500000→F<4294967296→∃ N,NewD N (Rs w0 N) w0 w' B F et te q∧VR N (Rs w0 N) w' (ren id (fun j=>B+j) d) v':=by
  rintro ⟨R,F0,d',hF0,h1,hR,hf0,hFR,h4,h5⟩;rw [Nat.blt_eq] at hF0;obtain ⟨v,h6,h7⟩:=ret_ok hT hr h1;replace h7:=h7.wk h4;refine ⟨hr.dfr,v,h6,v,O,fun B F hB0 hF=>?_⟩;have hB:B<1000000:=by omega
  have hBb:=Cn (Dd hB);simp only [okD,Bool.and_eq_true,Bool.not_eq_true'] at h5;obtain ⟨⟨k1,k2⟩,k3⟩:=h5
  let M1:Mp:=⟨fun _=>none,fun j=>if j=0 then M'.γ R else none⟩
  let N:Mp:=⟨fun _=>none,fun y=>if y=B then M'.γ R else if Nat.ble BIG y=true∧unF y=F∧unK y<q.len then M'.γ (inn F0 (unK y)) else none⟩
  have nB:N.γ B=M'.γ R:=by simp [N]
  have nI:∀ i,i<q.len→N.γ (inn F i)=M'.γ (inn F0 i):=fun i hi=>by
   have e:∀ x,x≠B→(Nat.ble BIG x=true∧unF x=F∧unK x<q.len)→N.γ x=M'.γ (inn F0 (unK x)):=fun x h1 h2=>by simp [N,h1,h2]
   have:=e (inn F i) (fun e=>by have:=Hf F i; rw [e,hBb] at this; cases this) ⟨Hf F i,by rw [Jr,Nat.mod_eq_of_lt hF],by rw [Mt]; exact hi⟩
   rwa [Mt] at this
  have nC:∀ y z,N.γ y=some z→(y=B∧M'.γ R=some z)∨∃ i,i<q.len∧y=inn F i∧M'.γ (inn F0 i)=some z:=fun y z hy=>by
   by_cases hyB:y=B
   ·rw [hyB,nB] at hy; exact .inl ⟨hyB,hy⟩
   simp only [N,hyB,if_false] at hy;split at hy
   ·rename_i hc;exact .inr ⟨_,hc.2.2,by rw [←hc.2.1]; exact (Sz hc.1).symm,hy⟩
   cases hy
  have hNo:∀ k,N.owned k→M'.owned k:=by
   rintro k (⟨b,hb⟩ | ⟨y,c,z,hy⟩)
   ·cases hb
   rcases nC y _ hy with ⟨_,h1⟩ | ⟨i,_,_,h1⟩
   ·exact .inr ⟨_,c,z,h1⟩
   exact .inr ⟨_,c,z,h1⟩
  have hlow:∀ k,M'.owned k→w0.heap.size≤k:=fun k hk=>(hr.low k hk).resolve_right (fun h=>h)
  have hA:∀ f b,b<w'.heap.size→(Ow (Fs w0 Hd.no) M' f b∧f=true)→Rs w0 N f b∧b<w'.heap.size∧w'.heap[b]? = w'.heap[b]?:=fun f b hb hh=>
   ⟨⟨hh.1.2.resolve_right (fun h=>by rw [hh.2] at h; cases h),fun ho=>hh.1.1 (hNo b ho)⟩,hb,rfl⟩
  have hdeep:=Zp hF0 hq hf0;have hRb:=Cn hFR;refine ⟨N,⟨hr.fr.os,hr.fr.tape,hr.fr.output,hr.fr.size,fun k hk=>hr.fr.block k hk (fun h=>h),fun _=>O,?_,fun i hi=>?_,fun x hx hxi=>?_,fun k hk=>hlow k (hNo k hk),fun r r' k c z c' z' a1 a2=>?_⟩,?_⟩
  ·rcases hr.row _ _ _ hR with ⟨b1,b2⟩ | ⟨g,cap,cur,b1,b2,b3,b4,b5,b6⟩
   ·exact .inl ⟨nB.trans b1,by rw [Mb] at b2; exact b2⟩
   rw [Mb] at b3 b6;rw [Xj] at b1 b5 b6;refine .inr ⟨g,cap,cur,nB.trans b1,b2,b3,b4,b5,fun i j d0 hi hd=>?_⟩;rcases Wu hq hi hd with ⟨rfl,hro⟩ | ⟨y,rfl,hro⟩
   ·have:((dR F0 q).relem i)[j]? = some (.irow F0 i (q.nn i).len):=by
     rcases Tu (F:=F0) hq hi (hro true) with ⟨_,h2⟩ | ⟨y,h2,_⟩
     ·exact h2
     cases h2
    exact (b6 i j _ hi this).irow_mv fun y hy=>by rw [nI i hi] at hy; exact hy
   have:((dR F0 q).relem i)[j]? = some (.int y):=by
    rcases Tu (F:=F0) hq hi (hro true) with ⟨h2,_⟩ | ⟨y',h2,h3⟩
    ·cases h2
    cases h2; exact h3
   rw [(b6 i j _ hi this).int_inv]; exact .int _
  ·have hin:=hdeep i;rw [if_pos hi] at hin;rcases hr.row _ _ _ hin with ⟨b1,b2⟩ | ⟨g,cap,cur,b1,b2,b3,b4,b5,b6⟩
   ·exact .inl ⟨(nI i hi).trans b1,b2⟩
   refine .inr ⟨g,cap,cur,(nI i hi).trans b1,b2,b3,b4,b5,fun i' j d0 hi' hd=>?_⟩;have h8:=b6 i' j d0 hi' hd;rw [Sq.relem_eq (Zk q i)] at hd;have hfl:nwS true d0=true∧Mg d0 d0:=Wn true (q.nn i) i' j d0 hd;exact (h8.flagE (M':=M') hfl.2 hfl.1).elem_any hd hA
  ·cases hx':N.γ x with
   | none=>rfl
   | some z=>
    rcases nC x z hx' with ⟨h1,_⟩ | ⟨i,h1,h2,_⟩
    ·exact absurd h1 hx
    exact absurd h2 (hxi i h1)
  ·rcases nC r _ a1 with ⟨e1,b1⟩ | ⟨i,i1,e1,b1⟩
   ·rcases nC r' _ a2 with ⟨e2,b2⟩ | ⟨i',i2,e2,b2⟩
    ·rw [e1,e2]
    have:=hr.inj2 _ _ _ _ _ _ _ b1 b2;have h9:=Hf F0 i';rw [←this,hRb] at h9; cases h9
   rcases nC r' _ a2 with ⟨e2,b2⟩ | ⟨i',i2,e2,b2⟩
   ·have:=hr.inj2 _ _ _ _ _ _ _ b1 b2;have h9:=Hf F0 i;rw [this,hRb] at h9; cases h9
   have:=hr.inj2 _ _ _ _ _ _ _ b1 b2;rw [e1,e2,(inn_inj this).2]
  have h8:VR M1 (Ow (Fs w0 Hd.no) M') w' d v:=VR.unren (M':=M') (A':=Ow (Fs w0 Hd.no) M') (τ:=id) (σ:=fun _=>R) (fun r x hx=>by
   simp only [M1] at hx;split at hx
   ·exact hx
   ·cases hx) (fun b k hb=>by simp [M1] at hb) (fun _ _ _ h=>h) k2 h7 (hi:=fun r x hr1 hx=>by
   simp only [M1] at hx;split at hx
   ·rename_i h0;subst h0;exact absurd hr1 (by decide)
   cases hx)
  have hbk:∀ r x,BIG≤r→M1.γ r=some x→False:=fun r x hr1 hx=>by
   simp only [M1] at hx;split at hx
   ·rename_i h0; subst h0; exact absurd hr1 (by decide)
   cases hx
  have hment:Gk (fun _=>true) (fun j=>!Nat.blt j 1) d=false:=k1
  have h9:VR N (Rs w0 N) w' (ren id (fun j=>B+j) d) v:=by
   let N1:Mp:=⟨fun _=>none,fun y=>if y=B then M'.γ R else none⟩
   have h10:VR N1 (Rs w0 N) w' (ren id (fun j=>B+j) d) v:=VR.ren (M:=M1) hA (fun r x hx=>by
    simp only [N1] at hx;split at hx
    ·rename_i h0;have:r=0:=by omega
     simp only [M1,this,if_true];exact hx
    ·cases hx) (fun b k hb=>by simp [N1] at hb) (h8.flag k3) (hi:=fun r x hr1 hx=>by
    simp only [N1] at hx;split at hx
    ·rename_i h0;rw [←h0,Nat.ble_eq_true_of_le hr1] at hBb; cases hBb
    cases hx)
   have hm2:Gk (fun _=>true) (fun r=>!Nat.beq r B) (ren id (fun j=>B+j) d)=false:=ment_one d hment;refine VR.new (b:=fun _=>true) (r:=fun r=>!Nat.beq r B) (fun f b hb ha=>⟨ha,hb,O⟩) (fun x y hx hy=>?_) (fun x k hx=>by simp at hx) hm2 h10 (hi:=fun h0=>?_)
   ·have:x=B:=Nat.eq_of_beq_eq_true (by simpa using hx);rw [this,nB] at hy;simp only [N1,this,if_true]; exact hy
   have:BIG=B:=Nat.eq_of_beq_eq_true (by simpa using h0);rw [←this] at hBb; exact absurd hBb (by decide)
  exact h9
 cases e with
 | normal=>exact fin hqq
 | ret=>exact fin hqq
 | _=>exact hqq.elim
end
end Go.Proofs.Ytaipbhnpandbkaa
