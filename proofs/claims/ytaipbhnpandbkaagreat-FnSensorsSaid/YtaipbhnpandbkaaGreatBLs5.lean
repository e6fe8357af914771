/- Texts that the proof needs, put together: Pp G8 G14 G15 Pd G30 Pq Pr Pe Pf Pw Ps Pt Pv Px G35 G40 Qa Ea Eo M7 M8 M9 M10 M11 M12 M13 M14 M15 M17 M18 M19 M20 M21 G38 G56 G24 G71. -/
import Derived.Laws.Strings
import Derived.Laws.BytesArg
import Derived.Test.YtaipbhnpandbkaaGreatBLs3
import Derived.Test.YtaipbhnpandbkaaGreatBLs4
set_option maxRecDepth 20000
set_option maxHeartbeats 1600000
set_option linter.unusedVariables false
set_option linter.unusedSimpArgs false
namespace Go.Proofs.YtaipbhnpandbkaaGreat
section
variable {n:Nat} {f T:List Int} {a b:Int}
abbrev brI (bars:List (Int×Int)) (i:Int):Int×Int:=bars.getD i.toNat (0,0)
structure PG (n:Nat) (bars:List (Int×Int)) (p:Pbl):Prop where
 inv:PInv n (p.placed.map (brI bars)) p.free p.tails
 pl:∀ i∈p.placed,0≤i∧i<(bars.length:Int)
theorem fsum_nn {n:Nat} {X:VS} {f:List Int} (nn:∀ v:Nat,v<n→0≤f.getD v 0):∀ m,m≤n→0≤fsum X f m
 | 0,_=>by simp [fsum]
 | m+1,hm=>by
  have ih:=fsum_nn (X:=X) nn m (by omega);have:=nn m (by omega);rw [fsum]; split <;> omega
theorem PInv.tlen {E:List (Int×Int)} (h:PInv n E f T):T.length≤2*n:=by
 have h1:=h.sum fun _=>true;have h2:=fsum_nn (X:=fun _=>true) h.nn n (Nat.le_refl _);have h3:T.countP (fun _=>true)=T.length:=by simp
 have h4:vsz n (fun _=>true)=n:=by simp [vsz]
 rw [h3,h4] at h1;omega
theorem eAt {bars:List (Int×Int)} {pl:List Int} {i:Nat} (h:i<pl.length):(pl.map (brI bars)).getD i (0,0)=bars.getD (pl.getD i 0).toNat (0,0):=by
 simp [List.getD_eq_getElem?_getD,List.getElem?_eq_getElem h]
section
variable {g:Grf} {p:Pbl} {N:Nat} (hN:4000000≤N) (hn:n≤1000) (hg:g.n=n) (hp:PG n g.bars p)
include hp in
theorem PG.plAt {i:Nat} (h:i<p.placed.length):0≤p.placed.getD i 0∧p.placed.getD i 0<(g.bars.length:Int):=hp.pl _ (Fn h)
include hp in
theorem PG.bok {i:Nat} (h:i<p.placed.length):Bok n (g.bars.getD (p.placed.getD i 0).toNat (0,0)):=by
 rw [←eAt h]; exact hp.inv.ok _ (Fn (by simpa using h))
theorem other_s {n:Nat} (hn:n≤1000) {e:Int×Int} (he:Bok n e) {v:Int} (hv:0≤v∧v<n):Ku N e v=some (oth e v):=by
 obtain ⟨h1,h2,h3,h4,_⟩:=he;unfold Ku;rw [Bf (by omega) (by omega),Bf (by omega) (by omega)]; rfl
include hn hp in
theorem shift_s {from':List Int} {q:List Int} {u:Int} {v1:Pbl} {kk:List Int→Option Pbl} (hfl:from'.length=n) (hb:BI n (p.placed.map (brI g.bars)) p.tails a q (fun v=>from'.getD v.toNat 0)) (hv1:v1.tails.length=p.tails.length) :
  ∀ (fuel j:Nat) (T':List Int),j<q.length→j<fuel→Mv (p.placed.map (brI g.bars)) p.tails T' u (q.getD j 0) →
   (∀ j',0<j'→j'≤j→T'.getD (from'.getD (q.getD j' 0).toNat 0).toNat 0=p.tails.getD (from'.getD (q.getD j' 0).toNat 0).toNat 0) →
   ∃ T'',Mv (p.placed.map (brI g.bars)) p.tails T'' u a∧Kb N g p from' a v1 kk fuel (T',q.getD j 0)=kk T'':=by
 intro fuel
 induction fuel with
 | zero=>intro j T' _ h; omega
 | succ fuel ih=>
  intro j T' hj hf hm hun;rw [Kb];by_cases h0:j=0
  ·subst h0;refine ⟨T',by rw [hb.hd] at hm; exact hm,?_⟩;rw [Jx hb.hd]
  have hne:¬ q.getD j 0=a:=by
   intro e;rw [←hb.hd] at e;have hp0:=hb.pos;rw [List.getD_eq_getElem?_getD,List.getD_eq_getElem?_getD,List.getElem?_eq_getElem hj,List.getElem?_eq_getElem hp0] at e;have:=(List.getElem_inj hb.nd).1 e;omega
  obtain ⟨j',i,g1,g2,g3,g4,g5,g6,g7⟩:=hb.back hp.inv (by omega) hj hm hun;have hip:i<p.placed.length:=by simpa using g2
  obtain ⟨T'',k1,k2⟩:=ih j' (T'.set i (q.getD j 0)) (by omega) (by omega) g6 g7;refine ⟨T'',k1,?_⟩;have hr:=hb.rg _ (Fn (d:=0) hj);have hpl:=hp.plAt hip;have htl:=hp.inv.tl;have hml:=hm.len;have eo:=other_s (N:=N) hn (hp.bok hip) hr;rw [←eAt hip,g4] at eo;rw [eAt hip] at eo;simp only [List.length_map] at htl;simp (disch:=omega) only [pst,Ws hne,g3,eo,hfl,hv1,hml,htl,k2]
include hN hn hp in
theorem shiftS_s {from':List Int} {q:List Int} {j:Nat} (hfl:from'.length=n) (hb:BI n (p.placed.map (brI g.bars)) p.tails a q (fun v=>from'.getD v.toNat 0)) (hj:j<q.length) (hj0:0<j) (hbr:0≤b∧b<n) (hub:q.getD j 0≠b) (hab:a≠b) (hf:1≤p.free.getD (q.getD j 0).toNat 0) :
  ∃ p':Pbl,Vt N g p from' a (q.getD j 0)=some p'∧Won n (p.placed.map (brI g.bars)) p.free p'.free p'.tails a b∧p'.placed=p.placed:=by
 have hu:=hb.rg _ (Fn (d:=0) hj);have ha:0≤a∧a<n:=by have:=hb.rg _ (Fn (d:=0) hb.pos); rwa [hb.hd] at this
 have hua:q.getD j 0≠a:=by
  intro e;rw [←hb.hd] at e;have hp0:=hb.pos;rw [List.getD_eq_getElem?_getD,List.getD_eq_getElem?_getD,List.getElem?_eq_getElem hj,List.getElem?_eq_getElem hp0] at e;have:=(List.getElem_inj hb.nd).1 e;omega
 have hle:=hb.len
 obtain ⟨T'',k1,k2⟩:=shift_s hn hp (N:=N) (v1:=⟨[]++p.free,[]++p.tails,[]++p.placed⟩) (u:=q.getD j 0)
  (kk:=fun l7=>grd (p.free.length=(Zp p.free (q.getD j 0) a).length) <| grd (p.tails.length=l7.length) <| some ⟨Zp p.free (q.getD j 0) a,l7,p.placed⟩) hfl hb (by simp) N j p.tails hj (by omega) (Mv.start hp.inv _) (fun _ _ _=>rfl)
 refine ⟨⟨Zp p.free (q.getD j 0) a,T'',p.placed⟩,?_,k1.won hp.inv ha hu hbr hua hub hab hf,O⟩;have f1:=hp.inv.fl;have t1:=hp.inv.tl;have t2:=hp.inv.tlen;have t3:=k1.len;simp only [List.length_map] at t1;have b1:p.free.getD (q.getD j 0).toNat 0≤2:=hp.inv.le2 (by omega)
 have b2:0≤(p.free.set (q.getD j 0).toNat (p.free.getD (q.getD j 0).toNat 0-1)).getD a.toNat 0∧(p.free.set (q.getD j 0).toNat (p.free.getD (q.getD j 0).toNat 0-1)).getD a.toNat 0≤2:=by
  rw [Kp];have:=hp.inv.le2 (v:=a.toNat) (by omega);have:=hp.inv.nn a.toNat (by omega);split <;> omega
 unfold Vt Ji;simp (disch:=omega) only [pst,List.nil_append,List.length_set];simp only [List.nil_append] at k2;simp only [Zp,List.length_set,grd_T] at k2 ⊢;rw [k2];exact Am t3.symm _
structure FSt (n:Nat) (bars:List (Int×Int)) (p:Pbl) (a b:Int) (from' q:List Int) (seen:List Bool):Prop where
 bi:BI n (p.placed.map (brI bars)) p.tails a q (fun v=>from'.getD v.toNat 0)
 bz:BZ p.free a b q
 fl:from'.length=n
 sl:seen.length=n
 sq:∀ v:Int,0≤v→v<n→seen.getD v.toNat false=decide (v∈q)
theorem oth_rg {e:Int×Int} (he:Bok n e) {v:Int} (h:v=e.1∨v=e.2):0≤oth e v∧oth e v<n:=by
 obtain ⟨h1,h2,h3,h4,_⟩:=he;unfold oth;rcases h with rfl | rfl <;> omega
theorem FSt.pushB {bars:List (Int×Int)} {from' q:List Int} {seen:List Bool} (h:FSt n bars p a b from' q seen) {k i:Nat} {v:Int} (hk:k<q.length) (hi:i<p.placed.length) (ht:p.tails.getD i 0=q.getD k 0) (hv:oth ((p.placed.map (brI bars)).getD i (0,0)) (q.getD k 0)=v) (hr:0≤v∧v<n) (hn:v∉q) :
  BI n (p.placed.map (brI bars)) p.tails a (q++[v]) (fun w=>(from'.set v.toNat (i:Int)).getD w.toNat 0):=by
 have hfl:=h.fl;refine h.bi.push (fr':=fun w=>(from'.set v.toNat i).getD w.toNat 0) hk (by simpa using hi) ht hv hr hn ?_ fun w hw=>?_
 ·show (from'.set v.toNat i).getD v.toNat 0=i;rw [Kp,if_pos ⟨rfl,by omega⟩]
 show (from'.set v.toNat i).getD w.toNat 0=from'.getD w.toNat 0;have:=h.bi.rg w hw;have hne:w≠v:=fun e=>hn (e ▸ hw);rw [Kp,if_neg (by omega)]
theorem FSt.push {bars:List (Int×Int)} {from' q:List Int} {seen:List Bool} (h:FSt n bars p a b from' q seen) {k i:Nat} {v:Int} (hk:k<q.length) (hi:i<p.placed.length) (ht:p.tails.getD i 0=q.getD k 0) (hv:oth ((p.placed.map (brI bars)).getD i (0,0)) (q.getD k 0)=v) (hr:0≤v∧v<n) (hn:v∉q) (hz:v=b∨p.free.getD v.toNat 0=0) :
  FSt n bars p a b (from'.set v.toNat i) (q++[v]) (seen.set v.toNat true):=by
 have hfl:=h.fl;have hsl:=h.sl;refine ⟨h.pushB hk hi ht hv hr hn,h.bz.push hz,by simp [hfl],by simp [hsl],fun w h1 h2=>?_⟩;rw [Kp];by_cases e:w=v
 ·subst e;rw [if_pos ⟨rfl,by omega⟩]; simp
 rw [if_neg (by omega),h.sq w h1 h2];simp [e]
include hN hn hg hp in
theorem find2_s {l106:List Int} {kk:(List Int×List Int×List Bool)→Option (Pbl×Bool)} {k:Nat} (hab:a≠b) (hbr:0≤b∧b<n) :
  ∀ (fuel m:Nat) (from' q:List Int) (seen:List Bool),m≤p.placed.length→p.placed.length<fuel+m→FSt n g.bars p a b from' q seen→Done (p.placed.map (brI g.bars)) p.tails q k m→k<q.length→q.getD k 0=l106.getD k 0 →
   (∃ p':Pbl,Em N g p a b l106 k kk fuel (from',q,seen,(m:Int))=some (p',true)∧Won n (p.placed.map (brI g.bars)) p.free p'.free p'.tails a b∧p'.placed=p.placed) ∨
   ∃ from'' q' seen',Em N g p a b l106 k kk fuel (from',q,seen,(m:Int))=kk (from'',q',seen')∧FSt n g.bars p a b from'' q' seen'∧Done (p.placed.map (brI g.bars)) p.tails q' (k+1) 0∧k<q'.length:=by
 intro fuel
 induction fuel with
 | zero=>intro m _ _ _ h1 h2; omega
 | succ fuel ih=>
  intro m from' q seen h1 h2 hF hD hk hq;rw [Em];have hlen:(p.placed.map (brI g.bars)).length=p.placed.length:=by simp
  by_cases hm:m<p.placed.length
  ·have htl:=hp.inv.tl;have hfr:=hp.inv.fl;have hfl:=hF.fl;have hsl:=hF.sl;rw [hlen] at htl;have hpl:=hp.plAt hm;have ht2:=hp.inv.tlen;by_cases ht:p.tails.getD m 0=q.getD k 0
   ·have hbk:=hp.bok hm;have hen:=hp.inv.en m (by rw [hlen]; exact hm);rw [eAt hm] at hen;rw [ht] at hen;have hr0:=hF.bi.rg _ (Fn (d:=0) hk);have eo:=other_s (N:=N) hn hbk hr0;have hvr:=oth_rg hbk hen;have ht':p.tails.getD m 0=l106.getD k 0:=ht.trans hq;rw [hq] at eo;generalize hv:oth (g.bars.getD (p.placed.getD m 0).toNat (0,0)) (q.getD k 0)=v at hvr;rw [←hq,hv] at eo;rw [hq] at eo;have hvo:oth ((p.placed.map (brI g.bars)).getD m (0,0)) (q.getD k 0)=v:=by rw [eAt hm,hv]
    have hsq:=hF.sq v hvr.1 hvr.2;by_cases hs:v∈q
    ·have hsq:seen.getD v.toNat false=true:=by rw [hsq]; exact decide_eq_true hs
     simp (disch:=omega) only [pst,Jx ht',eo,hsq,hg,List.length_replicate,Ah];exact ih (m+1) from' q seen (by omega) (by omega) hF (hD.step fun _ _=>by rw [hvo]; exact hs) hk hq
    have hsq:seen.getD v.toNat false=false:=by rw [hsq]; exact decide_eq_false hs
    have hD':Done (p.placed.map (brI g.bars)) p.tails (q++[v]) k (m+1):=(hD.push hk).step fun _ _=>by rw [Jw hk,hvo]; simp
    have hql:=hF.bi.len;by_cases hvb:v=b
    ·have hF':=hF.push (i:=m) hk hm ht hvo hvr hs (.inl hvb);simp (disch:=omega) only [pst,Jx ht',eo,hsq,hg,List.length_replicate,Ah,Jx hvb];exact ih (m+1) _ _ _ (by omega) (by omega) hF' hD' (by simp; omega) (by rw [Jw hk]; exact hq)
    by_cases hz:p.free.getD v.toNat 0 > 0
    ·left;have hb2:BI n (p.placed.map (brI g.bars)) p.tails a (q++[v]) (fun w=>(from'.set v.toNat (m:Int)).getD w.toNat 0):=hF.pushB hk hm ht hvo hvr hs;have e1:(q++[v]).getD q.length 0=v:=by rw [Mq]; simp
     obtain ⟨p',s1,s2,s3⟩:=shiftS_s hN hn hp (from':=from'.set v.toNat (m:Int)) (q:=q++[v]) (j:=q.length) (a:=a) (b:=b) (by simp [hfl]) hb2 (by simp) (by have:=hF.bi.pos; omega) hbr (by rw [e1]; exact hvb) hab (by rw [e1]; omega);rw [e1] at s1;refine ⟨p',?_,s2,s3⟩;simp (disch:=omega) only [pst,Jx ht',eo,hsq,hg,List.length_replicate,List.length_set,Ah,Ws hvb,s1]
    have hz0:p.free.getD v.toNat 0=0:=by have:=hp.inv.nn v.toNat (by omega); omega
    have hF':=hF.push (i:=m) hk hm ht hvo hvr hs (.inr hz0);simp (disch:=omega) only [pst,Jx ht',eo,hsq,hg,List.length_replicate,Ah,Ws hvb];exact ih (m+1) _ _ _ (by omega) (by omega) hF' hD' (by simp; omega) (by rw [Jw hk]; exact hq)
   have ht':¬ p.tails.getD m 0=l106.getD k 0:=by rw [←hq]; exact ht
   simp (disch:=omega) only [pst,Ws ht',Ah];exact ih (m+1) from' q seen (by omega) (by omega) hF (hD.step fun _ e=>absurd e ht) hk hq
  right;have e:m=(p.placed.map (brI g.bars)).length:=by omega
  refine ⟨from',q,seen,?_,hF,by subst e; exact hD.next,hk⟩;simp (disch:=omega) only [pst]
include hN hn hg hp in
theorem find1_s {kk:Unit→Option (Pbl×Bool)} (hab:a≠b) (hbr:0≤b∧b<n) :
  ∀ (fuel k:Nat) (from' q:List Int) (seen:List Bool),n<fuel+k→FSt n g.bars p a b from' q seen→Done (p.placed.map (brI g.bars)) p.tails q k 0→k≤q.length →
   (∃ p':Pbl,Cz N g p a b kk fuel (from',q,seen,(k:Int))=some (p',true)∧Won n (p.placed.map (brI g.bars)) p.free p'.free p'.tails a b∧p'.placed=p.placed) ∨
   (Cz N g p a b kk fuel (from',q,seen,(k:Int))=kk ()∧Shut n (p.placed.map (brI g.bars)) p.free p.tails a b):=by
 intro fuel
 induction fuel with
 | zero=>intro k from' q seen h1 hF hD hk; have:=hF.bi.len; omega
 | succ fuel ih=>
  intro k from' q seen h1 hF hD hk;rw [Cz];have ht2:=hp.inv.tlen;have htl:=hp.inv.tl;simp only [List.length_map] at htl;by_cases hkq:k<q.length
  ·have hql:=hF.bi.len
   have key:=find2_s (l106:=q) (kk:=(fun (x:(List Int)×(List Int)×(List Bool))=>
     match x with
     | (l143,l144,l145)=>
      grd (Bc ((k:Int)+(1:Int))) <|
      Cz N g p a b kk fuel (l143,l144,l145,((k:Int)+(1:Int))))) hN hn hg hp hab hbr N 0 from' q seen (by omega) (by omega) hF hD hkq rfl
   rw [show ((0:Nat):Int)=0 from rfl] at key;rcases key with ⟨p',g1,g2,g3⟩ | ⟨f2,q2,s2,g1,g2,g3,g4⟩
   ·left;refine ⟨p',?_,g2,g3⟩;rw [Bb (by omega),Am (by omega)];exact g1
   have e:Cz N g p a b kk (fuel+1) (from',q,seen,(k:Int))=Cz N g p a b kk fuel (f2,q2,s2,((k+1:Nat):Int)):=by
    rw [Cz];rw [Bb (by omega),Am (by omega)];refine g1.trans ?_;have:=g2.bi.len;simp (disch:=omega) only [pst,Ah]
   rw [Cz] at e;rw [e];exact ih (k+1) f2 q2 s2 (by omega) g2 g3 (by omega)
  right;refine ⟨?_,hF.bi.shut hF.bz hD (by omega)⟩;simp (disch:=omega) only [pst]
theorem find3_s {kk:List Int→Option (Pbl×Bool)} (hN:4000000≤N) (hn:n≤1000) (hg:g.n=n):∀ (fuel i:Nat) (l:List Int),n<fuel+i→i≤n→l.length=n→∃ l':List Int,l'.length=n∧Hi N g kk fuel (l,(i:Int))=kk l':=by
 intro fuel
 induction fuel with
 | zero=>intro i l h1 h2 h3; omega
 | succ fuel ih=>
  intro i l h1 h2 h3;rw [Hi];by_cases hi:i<n
  ·obtain ⟨l',g1,g2⟩:=ih (i+1) (l.set i (-1)) (by omega) (by omega) (by simp [h3]);refine ⟨l',g1,?_⟩;simp (disch:=omega) only [pst,hg,List.length_replicate,Ah];exact g2
  refine ⟨l,h3,?_⟩;simp (disch:=omega) only [pst,hg]
include hN hn hg hp in
theorem find_s (hb:Bok n (a,b)) :
  (∃ p':Pbl,Mu N g p a b=some (p',true)∧Won n (p.placed.map (brI g.bars)) p.free p'.free p'.tails a b∧p'.placed=p.placed) ∨
  (Mu N g p a b=some (p,false)∧Shut n (p.placed.map (brI g.bars)) p.free p.tails a b):=by
 obtain ⟨h1,h2,h3,h4,h5⟩:=hb;simp only at h1 h2 h3 h4 h5
 have e:∃ l:List Int,l.length=n∧Mu N g p a b=Cz N g p a b (fun _=>some (p,false)) N (l,[a],(List.replicate n false).set a.toNat true,((0:Nat):Int)):=by
  obtain ⟨l,g1,g2⟩:=find3_s (N:=N) (kk:=fun (l3:List Int)=>
    grd (0≤a∧a<((List.replicate ((g.n).toNat) (false:Bool)).length:Int)) <|
    Cz N g p a b (fun (_:Unit)=>some ((⟨p.free,p.tails,p.placed⟩:Pbl),false)) N (l3,([a]:List Int),((List.replicate ((g.n).toNat) (false:Bool)).set ((a).toNat) true),(0:Int))) hN hn hg N 0 (List.replicate n 0) (by omega) (by omega) (by simp)
  refine ⟨l,g1,?_⟩;unfold Mu;rw [Am (by omega)];simp only [hg,Int.toNat_natCast] at g2 ⊢;refine g2.trans ?_;simp (disch:=omega) only [pst,List.length_replicate];rfl
 obtain ⟨l,hl,e⟩:=e;rw [e];refine find1_s (kk:=fun _=>some (p,false)) hN hn hg hp h5 ⟨h3,h4⟩ N 0 l [a] _ (by omega) ⟨BI.start ⟨h1,h2⟩,fun v hv h _=>absurd (by simpa using hv) h,hl,by simp,fun v g1 g2=>?_⟩ Done.start (by simp);rw [Kp];by_cases e:v=a
 ·subst e;rw [if_pos ⟨rfl,by simp; omega⟩]; simp
 rw [if_neg (by omega)];simp [e,List.getD_eq_getElem?_getD,List.getElem?_replicate];split <;> rfl
end
section
variable {g:Grf} {N:Nat} (hN:4000000≤N) (hn:n≤1000) (hg:g.n=n)
theorem Won.pg {bars:List (Int×Int)} {p p':Pbl} (hp:PG n bars p) (h:Won n (p.placed.map (brI bars)) p.free p'.free p'.tails a b) (he:p'.placed=p.placed):PG n bars p':=⟨by rw [he]; exact h.inv,by rw [he]; exact hp.pl⟩
theorem Won.symm' {E:List (Int×Int)} {f f' T':List Int} (h:Won n E f f' T' a b):f'.getD a.toNat 0+f'.getD b.toNat 0=f.getD a.toNat 0+f.getD b.toNat 0+1:=by rw [h.up,h.keep]; omega
theorem Bok.swap (h:Bok n (a,b)):Bok n (b,a):=⟨h.2.2.1,h.2.2.2.1,h.1,h.2.1,h.2.2.2.2.symm⟩
include hN hn hg in
theorem gather1_s (hb:Bok n (a,b)) {kk:(List Int×List Int×List Int)→Option (Pbl×Bool)}:∀ (fuel:Nat) (p:Pbl),PG n g.bars p→4<fuel+(p.free.getD a.toNat 0+p.free.getD b.toNat 0) →
  ∃ p':Pbl,p'.placed=p.placed∧PG n g.bars p'∧((Ga N g a b 4 kk fuel (p.free,p.tails,p.placed)=kk (p'.free,p'.tails,p'.placed)∧4≤p'.free.getD a.toNat 0+p'.free.getD b.toNat 0) ∨
   (Ga N g a b 4 kk fuel (p.free,p.tails,p.placed)=some (p',false)∧∃ X,Tgt n (p.placed.map (brI g.bars)) X∧inX X (a,b)=true)):=by
 obtain ⟨h1,h2,h3,h4,h5⟩:=id hb;simp only at h1 h2 h3 h4 h5;intro fuel
 induction fuel with
 | zero=>
  intro p hp hf;have:=hp.inv.le2 (v:=a.toNat) (by omega);have:=hp.inv.le2 (v:=b.toNat) (by omega);omega
 | succ fuel ih=>
  intro p hp hf;have fl:=hp.inv.fl;have l1:=hp.inv.le2 (v:=a.toNat) (by omega);have l2:=hp.inv.le2 (v:=b.toNat) (by omega);have n1:=hp.inv.nn a.toNat (by omega);have n2:=hp.inv.nn b.toNat (by omega);rw [Ga];by_cases hs:p.free.getD a.toNat 0+p.free.getD b.toNat 0<4
  ·rcases find_s hN hn hg hp hb with ⟨p1,f1,f2,f3⟩ | ⟨f1,f2⟩
   ·obtain ⟨p',g1,g2,g3⟩:=ih p1 (f2.pg hp f3) (by have:=f2.symm'; omega);refine ⟨p',g1.trans f3,g2,?_⟩;rw [f3] at g3;have e:(⟨p.free,p.tails,p.placed⟩:Pbl)=p:=rfl;simp (disch:=omega) only [pst,e,f1];rw [f3];exact g3
   rcases find_s hN hn hg hp hb.swap with ⟨p1,k1,k2,k3⟩ | ⟨k1,k2⟩
   ·obtain ⟨p',g1,g2,g3⟩:=ih p1 (k2.pg hp k3) (by have:=k2.symm'; omega);refine ⟨p',g1.trans k3,g2,?_⟩;rw [k3] at g3;have e:(⟨p.free,p.tails,p.placed⟩:Pbl)=p:=rfl;simp (disch:=omega) only [pst,e,f1,k1];rw [k3];exact g3
   refine ⟨p,O,hp,.inr ⟨?_,Shut.tgt hp.inv hb f2 k2 (by omega)⟩⟩;have e:(⟨p.free,p.tails,p.placed⟩:Pbl)=p:=rfl;simp (disch:=omega) only [pst,e,f1,k1]
  refine ⟨p,O,hp,.inl ⟨?_,by omega⟩⟩;simp (disch:=omega) only [pst]
include hN hn hg in
theorem gather_s (hb : Bok n (a, b)) {p : Pbl} (hp : PG n g.bars p) : ∃ p' : Pbl, p'.placed = p.placed ∧ PG n g.bars p' ∧ ((Kn N g p a b 4 = some (p', true) ∧ 4 ≤ p'.free.getD a.toNat 0 + p'.free.getD b.toNat 0) ∨
   (Kn N g p a b 4=some (p',false)∧∃ X,Tgt n (p.placed.map (brI g.bars)) X∧inX X (a,b)=true)):=by
 obtain ⟨h1,h2,h3,h4,h5⟩:=id hb;simp only at h1 h2 h3 h4 h5;have n1:=hp.inv.nn a.toNat (by omega);have n2:=hp.inv.nn b.toNat (by omega);have fl:=hp.inv.fl;have tl:=hp.inv.tl;simp only [List.length_map] at tl;have t2:=hp.inv.tlen;obtain ⟨p',g1,g2,g3⟩:=gather1_s hN hn hg hb (kk:=fun x=>match x with | (l11,l12,l13)=>some ((⟨l11,l12,l13⟩:Pbl),true)) N p hp (by omega);refine ⟨p',g1,g2,?_⟩;unfold Kn Ji;simp (disch:=omega) only [pst,List.nil_append];exact g3
end
end
section
open Go.RowKit
def Hs (N:Nat) (g_0:Grf) (anchors_1:List Int):Option (Bool):=
 (He N g_0 anchors_1).bind fun v1=>
 cnd v1 (
  (Cw N g_0 anchors_1).bind fun v2=>
  grd (Bc ((anchors_1.length:Int)+(v2.length:Int))) <|
  some (((anchors_1.length:Int)+(v2.length:Int))==g_0.n)) (
  some false)
theorem Wu (N:Nat) (g_0:Grf) (anchors_1:List Int) (r:Bool) (h:Hs N g_0 anchors_1=some r):PCall Tryz.prog 12 [gD g_0,.ro false (.ints anchors_1)] [] (.bool r):=by
 unfold Hs at h;refine Aj (TT:=TT) tt Tryz.func12 O O Tryz.ntmps12 (congrArg Array.toList Tryz.results12) O O fun w0=>(Ag (Ab (Hz O O O O O O O O O (Aa O (Af (Ag (Dn 13 [8] [0,0,3,7,15,31,15,15,207,463,1023,15,2063,8191,16383,32767] (by kernel_rfl) (by kernel_rfl) (by kernel_rfl) (by kernel_rfl) (by kernel_rfl) O (by rfl) ?_)))))));iterate 2 refine Fy tt O (Ai O) O O O O O Y ?_
 obtain ⟨v1,hc1,h⟩:=Ae h;refine nCall (Kv N g_0 anchors_1 v1 hc1) O (Ai O) O O O O O O O O ⟨⟨O,O,Y⟩,O,Y⟩ (Fy tt O (Ai O) O O O O O Y (Yd O O O (fun hb2=>?_) (fun hb2=>?_)))
 ·replace h:=Ak hb2 h;iterate 4 refine Fy tt O (Bl O O O O hb2) O O O O O Y ?_
  obtain ⟨v2,hc3,h⟩:=Ae h;refine Rd (Lw N g_0 anchors_1 v2 hc3) rfl (Bl rfl rfl rfl rfl hb2) rfl rfl rfl rfl rfl rfl (by first | rfl | kernel_rfl | (simp [nrL,nm,Hy,nmT,Jv]; done)) rfl (by first | rfl | kernel_rfl | (simp [Pr,nrL,nm,Hy,nmT,Jv,hid,Jp,Fb,Dh]; done) | (simp [Pr,nrL,nm,Hy,nmT,Jv,hid,Jp,Fb,Dh]; decide)) ⟨⟨rfl,rfl,Y⟩,rfl,Y⟩ (Fy tt rfl (Bl rfl rfl rfl rfl hb2) rfl rfl rfl rfl rfl Y ?_);obtain ⟨hg4,h⟩:=Ac h;refine Fy tt O (Bl O O O O hb2) O O O O O hg4 ?_;iterate 2 refine Fy tt O (Bl O O O O hb2) O O O O O Y ?_
  refine Tb ?_;show VO _ _ _ _ _;refine Av tt O O O O O hb2 O O O Y (Bm O O O O O hb2 O (Aa O (Af (Bg ?_))));show ∃ _,_;cases h;exact ⟨[],_,O,Y,O,.eq O,O⟩
 replace h:=Al hb2 h;iterate 9 refine nNoT O O O O hb2 O O ?_
 refine Tb ?_;show VO _ _ _ _ _;refine Kq O O O O hb2 O O (Aw O O O O O hb2 O (Aa O (Af (Bg ?_))));show ∃ _,_;cases h;exact ⟨[],_,O,Y,O,.eq O,O⟩
end
section
open Go.RowKit
def Hl (N:Nat) (s_0:List Int) (v_1:Int) (k:Unit→Option (Int)):Nat→Int→Option (Int)
 | 0,_=>none
 | n+1,x3=>
  cnd (decide (x3<(s_0.length:Int))) (
   grd (0≤x3∧x3<(s_0.length:Int)) <|
   cnd (v_1==(s_0.getD ((x3).toNat) 0)) (
    some x3) (
    grd (Bc (x3+(1:Int))) <|
    Hl N s_0 v_1 k n (x3+(1:Int)))) (
   k ())
def Si (N:Nat) (s_0:List Int) (v_1:Int):Option (Int):=
 Hl N s_0 v_1 (fun (_ : Unit) =>
    some (-1:Int)) N (0:Int)
theorem G_Index_int_w (N:Nat) (s_0:List Int) (v_1:Int) (r:Int) (h:Si N s_0 v_1=some r):PCall Tryz.prog 117 [.ro false (.ints s_0),.int v_1] [] (.int r):=by
 unfold Si at h;refine Aj (TT:=TT) tt Tryz.func117 O O Tryz.ntmps117 (congrArg Array.toList Tryz.results117) O O fun w0=>(Ag (Ab (Aa O (Af (Ag (Ag (Ab (Aa O (Aa O ?_)))))))));refine Aa O (Af (Bz (F:=fun k=>Hl N s_0 v_1 k) h (α:=Unit) (J:=fun (_:Unit)=>(⟨[],[],[]⟩:PS)) ?_ ?_))
 ·rintro ⟨⟩ h;show VC _ _ _ (⟨[],[],[]⟩:PS);refine Ag (Ab (Aa O (Af (Bg ?_))));show ∃ _,_;cases h;exact ⟨[],_,O,Y,O,.eq O,O⟩
 intro k h;refine Ap (Bh (α:=Int) (fun (x3:Int)=>(⟨[(0,.ro false (.ints s_0)),(1,.int v_1),(7,.int (s_0.length:Int)),(8,.int x3)],[],[]⟩:PS)) (Hl N s_0 v_1 k) h (En.of ⟨O,O,O,O,Y⟩ trivial trivial) (fun _=>O) ?_);rintro n x3 h;rw [Hl] at h;show VC _ _ _ (⟨[(0,.ro false (.ints s_0)),(1,.int v_1),(7,.int (s_0.length:Int)),(8,.int x3)],[],[]⟩:PS);refine Ag (Ab (Aa O (Af (Ag (Ar O (fun hb1=>?_) (fun hb1=>?_))))))
 ·replace h:=Ak hb1 h;refine Aq (Ag (Ap (Ag (Ab (Aa O (Aa O (Af (Ag (Ab ?_)))))))));refine Aa O (Aa O (Aa O ?_));obtain ⟨hg2,h⟩:=Ac h;refine Ad tt O hg2 (Aa O (Aa O (Af (Ar O (fun hb3=>?_) (fun hb3=>?_)))))
  ·replace h:=Ak hb3 h;refine Ag (Ab (Aa O (Aa O (Af (Bg ?_)))));show ∃ _,_;cases h;exact ⟨[],_,O,Y,O,.eq O,O⟩
  replace h:=Al hb3 h;refine Aq (Ab ?_);obtain ⟨hg4,h⟩:=Ac h;refine Ad tt O hg4 (Aa O (Af ?_));show ∃ _,_;exact ⟨(x3+(1:Int)),(En.of ⟨O,O,O,O,Y⟩ trivial trivial),h⟩
 replace h:=Al hb1 h;refine Bp ?_;show ∃ _,_;exact ⟨(),(En.of trivial trivial trivial),h⟩
end
section
open Go.RowKit
def Ks (N:Nat) (s_0:List Int) (v_1:Int):Option (Bool):=
 (Si N s_0 v_1).bind fun v1=>
 some (decide (v1≥(0:Int)))
theorem Zo (N:Nat) (s_0:List Int) (v_1:Int) (r:Bool) (h:Ks N s_0 v_1=some r):PCall Tryz.prog 79 [.ro false (.ints s_0),.int v_1] [] (.bool r):=by
 unfold Ks at h;refine Aj (TT:=TT) tt Tryz.func79 O O Tryz.ntmps79 (congrArg Array.toList Tryz.results79) O O fun w0=>(Ag (Ab (Aa O (Af (Ag (Ab (Aa O (Aa O ?_))))))));obtain ⟨v1,hc1,h⟩:=Ae h;refine Ba (G_Index_int_w N s_0 v_1 v1 hc1) O O O O O O O O ⟨O,O,Y⟩ (Aa O (Aa O (Af (Bg ?_))));show ∃ _,_;cases h;exact ⟨[],_,O,Y,O,.eq O,O⟩
end
section
variable (N:Nat)
theorem Zg (x lo hi:Int):Wi N x lo hi=some (inB x lo hi):=by
 unfold Wi inB;rw [La];show some (cnd (decide (lo≤x)) _ _)=_;cases decide (lo≤x) <;> rfl
theorem Rf (x lo hi:Int):Lo N x lo hi=some (inB x lo hi):=by
 unfold Lo inB;rw [La];show some (cnd (decide (lo≤x)) _ _)=_;cases decide (lo≤x) <;> rfl
theorem Vl (hN:4000000≤N) {l:List Int} (hl:l.length≤3000000) (x:Int):Qx N l x=some (l.contains x):=by
 unfold Qx;refine (srch (len:=l.length) (ok:=fun i=>!(l.getD i 0==x)) (bad:=some true) (fin:=some false) (by omega) ?_ ?_).trans ?_
 ·intro n i hi _;rw [Mk];simp (disch:=omega) only [pst,Yp,Ah]
 ·intro n _;rw [Mk];simp (disch:=omega) only [pst]
 rw [Sz,La]; cases l.contains x <;> rfl
theorem indexInt_l (hN:4000000≤N) {l:List Int} (hl:l.length≤3000000) (x:Int):∀ n i:Nat,i≤l.length→l.length<n+i→∃ r:Int,Hl N l x (fun _=>some (-1)) n (i:Int)=some r∧(decide (r≥0)=(l.drop i).contains x):=by
 intro n
 induction n with
 | zero=>intro i h1 h2; omega
 | succ n ih=>
  intro i h1 h2;rw [Hl];by_cases hi:i<l.length
  ·simp (disch:=omega) only [pst];rw [List.drop_eq_getElem_cons hi,List.contains_cons];have e:l.getD i 0=l[i]:=by simp [List.getD_eq_getElem?_getD,hi]
   rw [e]
   cases h:x==l[i] with
   | true=>exact ⟨i,rfl,by simp⟩
   | false=>
    obtain ⟨r,h1,h2⟩:=ih (i+1) (by omega) (by omega);exact ⟨r,h1,by rw [h2]; rfl⟩
  simp (disch:=omega) only [pst];exact ⟨-1,O,by rw [List.drop_eq_nil_of_le (by omega)]; rfl⟩
theorem contains_s (hN:4000000≤N) {l:List Int} (hl:l.length≤3000000) (x:Int):Ks N l x=some (l.contains x):=by
 unfold Ks Si;obtain ⟨r,h1,h2⟩:=indexInt_l N hN hl x N 0 (by omega) (by omega);rw [show (0:Int)=((0:Nat):Int) from rfl,h1];show some (decide (r≥0))=_;rw [h2]; rfl
theorem Rm (a b:Int×Int):Rn N a b=some (Ee a b):=by
 unfold Rn Ee;simp only [La];cases decide (a.1<b.1) <;> cases a.1==b.1 <;> rfl
theorem compareInts_s (a b:Int):Kk N a b=some (cmpI a b):=by
 unfold Kk cmpI;by_cases h:a<b
 ·simp (disch:=omega) only [pst,if_pos h]
 by_cases h':b<a
 ·simp (disch:=omega) only [pst,if_neg h,if_pos h',gt_iff_lt]
 simp (disch:=omega) only [pst,if_neg h,if_neg h',gt_iff_lt]
theorem Xp (a b:Int×Int):Ll N a b=some (cmpBar a b):=by
 unfold Ll cmpBar;simp only [compareInts_s,Option.bind_some];by_cases h:cmpI a.1 b.1=0
 ·rw [if_pos h,Jx h]
 rw [if_neg h,Ws h]
theorem cmpBar_gt (a b:Int×Int):decide (cmpBar a b > 0)=!Ee a b:=by
 have:=cmpBar_pos a b
 cases h:Ee a b with
 | true=>rw [h] at this; simp at this; simp; omega
 | false=>rw [h] at this; simp at this; simp; omega
theorem Ca (hN:4000000≤N) {g:Grf}:Dg N g=some (Bd g):=by
 unfold Dg Bd;rw [Zg,Option.bind_some,Yp]
 cases h1:inB g.n 1 8 with
 | false=>rfl
 | true=>
  by_cases h2:g.bars.length≤24
  ·simp (disch:=omega) only [pst];refine (srch (len:=g.bars.length) (ok:=Xo g.n g.bars) (bad:=some false) (fin:=some true) (by omega) ?_ ?_).trans ?_
   ·intro n i hi _;rw [Jc];by_cases h0:i=0
    ·subst h0;simp (disch:=omega) only [pst,Rm,Ab0,cnd_and,Ah];refine Ki ?_ _ _;simp only [Xo,Tk];rw [Bool.eq_iff_iff]; simp; omega
    simp (disch:=omega) only [pst,Rm,Ab0,cnd_and,Ah,show ((i:Int)-1).toNat=i-1 from by omega];refine Ki ?_ _ _;simp only [Xo,Tk,decide_eq_false h0,Bool.false_or];cases Ee (g.bars.getD (i-1) (0,0)) (g.bars.getD i (0,0)) <;> (rw [Bool.eq_iff_iff]; simp; try omega)
   ·intro n _;rw [Jc];simp (disch:=omega) only [pst]
   rw [La,cnd_bool]; simp [h2]
  simp (disch:=omega) only [pst];simp [h2]
theorem Ed (hN:4000000≤N) {g:Grf}:Cs N g=some (Bd g):=by
 unfold Cs Bd;rw [Rf,Option.bind_some,Yp]
 cases h1:inB g.n 1 8 with
 | false=>rfl
 | true=>
  by_cases h2:g.bars.length≤24
  ·simp (disch:=omega) only [pst];refine (srch (len:=g.bars.length) (ok:=Xo g.n g.bars) (bad:=some false) (fin:=some true) (by omega) ?_ ?_).trans ?_
   ·intro n i hi _;rw [Ja];by_cases h0:i=0
    ·subst h0;simp (disch:=omega) only [pst,Xp,cmpBar_gt,Ab0,cnd_and,Ah];refine Ki ?_ _ _;simp only [Xo,Tk];rw [Bool.eq_iff_iff]; simp; omega
    simp (disch:=omega) only [pst,Xp,cmpBar_gt,Ab0,cnd_and,Ah,show ((i:Int)-1).toNat=i-1 from by omega];refine Ki ?_ _ _;simp only [Xo,Tk,decide_eq_false h0,Bool.false_or];cases Ee (g.bars.getD (i-1) (0,0)) (g.bars.getD i (0,0)) <;> (rw [Bool.eq_iff_iff]; simp; try omega)
   ·intro n _;rw [Ja];simp (disch:=omega) only [pst]
   rw [La,cnd_bool]; simp [h2]
  simp (disch:=omega) only [pst];simp [h2]
end
section
open Go.RowKit
def Do (N:Nat) (g_0:Grf) (x_1:Int×Int) (k:((List (Int×Int))×Bool)→Option (Grf)):Nat→((List (Int×Int))×Bool×Int)→Option (Grf)
 | 0,_=>none
 | n+1,(l17,placed18,i19)=>
  cnd (decide (i19<(g_0.bars.length:Int))) (
   cnd (!placed18) (
    grd (0≤i19∧i19<(g_0.bars.length:Int)) <|
    (Rn N (g_0.bars.getD ((i19).toNat) (0,0)) x_1).bind fun v21=>
    cnd (!v21) (
     grd (l17.length+1≤4294967296) <|
     grd ((l17++([(x_1.1,x_1.2)]:List (Int×Int))).length+1≤4294967296) <|
     grd (Bc (i19+(1:Int))) <|
     Do N g_0 x_1 k n (((l17++([(x_1.1,x_1.2)]:List (Int×Int)))++([((g_0.bars.getD ((i19).toNat) (0,0)).1,(g_0.bars.getD ((i19).toNat) (0,0)).2)]:List (Int×Int))),true,(i19+(1:Int)))) (
     grd (l17.length+1≤4294967296) <|
     grd (Bc (i19+(1:Int))) <|
     Do N g_0 x_1 k n ((l17++([((g_0.bars.getD ((i19).toNat) (0,0)).1,(g_0.bars.getD ((i19).toNat) (0,0)).2)]:List (Int×Int))),placed18,(i19+(1:Int))))) (
    grd (0≤i19∧i19<(g_0.bars.length:Int)) <|
    grd (l17.length+1≤4294967296) <|
    grd (Bc (i19+(1:Int))) <|
    Do N g_0 x_1 k n ((l17++([((g_0.bars.getD ((i19).toNat) (0,0)).1,(g_0.bars.getD ((i19).toNat) (0,0)).2)]:List (Int×Int))),placed18,(i19+(1:Int))))) (
   k (l17,placed18))
def Fv (N:Nat) (g_0:Grf) (x_1:Int×Int):Option (Grf):=
 Do N g_0 x_1 (fun (x:(List (Int×Int))×Bool)=>
   match x with
   | (l10,placed11)=>
    cnd (!placed11) (
     grd (l10.length+1≤4294967296) <|
     some (⟨g_0.n,(l10++([(x_1.1,x_1.2)]:List (Int×Int)))⟩:Grf)) (
     some (⟨g_0.n,l10⟩:Grf))) N (([]:List (Int×Int)),false,(0:Int))
theorem Ke (N:Nat) (g_0:Grf) (x_1:Int×Int) (r:Grf) (h:Fv N g_0 x_1=some r):PCall Tryz.prog 63 [gD g_0,.agg [.int x_1.1,.int x_1.2]] [(42,.pairs r.bars)] (.agg [.int r.n,.row 0 0 r.bars.length]):=by
 unfold Fv at h;refine Aj (TT:=TT) tt Tryz.func63 O O Tryz.ntmps63 (congrArg Array.toList Tryz.results63) O O fun w0=>(Ag (Ab ?_));iterate 2 refine Hz O O O O O O O O O ?_
 refine Bi tt O O O O O O O O O (Af (Ag (Ab (Aa O (Aa O (Gr tt (Ai O) O O O O (Fz (Ai O) (Df Cv O O) O O (Bi tt O O O O O O O O O (Ao tt O O O O O O O O O O O ⟨Y,Y,Y⟩ ?_)))))))));refine Af (Ag (Ab (Aa O (Af (Ag (Ag (Ab (Aa O (Af ?_)))))))));refine Bz (F:=fun k=>Do N g_0 x_1 k) h (α:=(List (Int×Int))×Bool) (J:=fun | (l10,placed11)=>(⟨[(3,.ptr 3 0),(4,.ptr 4 0),(5,.ptr 5 0),(6,.bool placed11)],[(35,some (42,.pairs l10))],[(3,some [.int x_1.1,.int x_1.2]),(4,some [.int (0:Int),.nil]),(5,some [.int g_0.n,.row 35 0 l10.length])]⟩:PS)) ?_ ?_
 ·rintro ⟨l10,placed11⟩ h;show VC _ _ _ (⟨[(3,.ptr 3 0),(4,.ptr 4 0),(5,.ptr 5 0),(6,.bool placed11)],[(35,some (42,.pairs l10))],[(3,some [.int x_1.1,.int x_1.2]),(4,some [.int (0:Int),.nil]),(5,some [.int g_0.n,.row 35 0 l10.length])]⟩:PS);refine Ag (Ag (Ab (Aa O (Aa O (Af (Ar O (fun hb1=>?_) (fun hb1=>?_)))))))
  ·replace h:=Ak hb1 h;refine Ab (Aa O (Aa O (Aa O (Cr tt O O O O O O O O O O O ?_))));obtain ⟨hg2,h⟩:=Ac h;refine Bt tt O O O O O O O O O O O O O O O O (Nat.le_of_eq (Nat.zero_add _)) hg2 (Aa O (Ao tt O O O O O O O O O O O ⟨Y,Y⟩ (Af (Ag (Ab (Aa O (Ao tt O O O O O O O O O O O ⟨Y,Y,Y⟩ (Af (Bg ?_)))))))));show ∃ _,_;cases h;exact ⟨[35],_,O,⟨O,Y⟩,O,.eq O,O⟩
  replace h:=Al hb1 h;refine Aq (Ag (Ab (Aa O (Ao tt O O O O O O O O O O O ⟨Y,Y,Y⟩ (Af (Bg ?_))))));show ∃ _,_;cases h;exact ⟨[35],_,O,⟨O,Y⟩,O,.eq O,O⟩
 intro k h;refine Ap (Kr 5 1 35 42 (.pairs []) rfl rfl rfl rfl rfl (Bh (α:=(List (Int×Int))×Bool×Int) (fun | (l17,placed18,i19)=>(⟨[(2,.ptr 2 0),(3,.ptr 3 0),(4,.ptr 4 0),(5,.ptr 5 0),(6,.bool placed18),(7,.int i19)],[(35,some (42,.pairs l17))],[(2,some [.int g_0.n,.ro false (.pairs g_0.bars)]),(3,some [.int x_1.1,.int x_1.2]),(4,some [.int (0:Int),.nil]),(5,some [.int g_0.n,.row 35 0 l17.length])]⟩:PS)) (Do N g_0 x_1 k) h (En.of ⟨rfl,rfl,rfl,rfl,rfl,rfl,Y⟩ ⟨rfl,Y⟩ ⟨rfl,rfl,rfl,rfl,Y⟩) (fun _=>rfl) ?_));rintro n ⟨l17,placed18,i19⟩ h;rw [Do] at h;show VC _ _ _ (⟨[(2,.ptr 2 0),(3,.ptr 3 0),(4,.ptr 4 0),(5,.ptr 5 0),(6,.bool placed18),(7,.int i19)],[(35,some (42,.pairs l17))],[(2,some [.int g_0.n,.ro false (.pairs g_0.bars)]),(3,some [.int x_1.1,.int x_1.2]),(4,some [.int (0:Int),.nil]),(5,some [.int g_0.n,.row 35 0 l17.length])]⟩:PS);refine Ag (Ag (Ab ?_));iterate 5 refine Aa O ?_
 refine Af (Ar O (fun hb3=>?_) (fun hb3=>?_))
 ·replace h:=Ak hb3 h;refine Aq (Ag (Ap (Ag (Ag (Cu (by kernel_rfl) (by kernel_rfl) ?_)))));iterate 3 refine Bq tt O (Ai O) O O O Y ?_
  refine Ju O O O (fun hb4=>?_) (fun hb4=>?_)
  ·replace h:=Ak hb4 h;iterate 3 refine Bq tt O (Bl O O O O hb4) O O O Y ?_
   obtain ⟨hg5,h⟩:=Ac h;refine Bq tt O (Bl O O O O hb4) O O O hg5 ?_;iterate 2 refine Bq tt O (Bl O O O O hb4) O O O Y ?_
   obtain ⟨v21,hc6,h⟩:=Ae h;refine Xh (Ace N (g_0.bars.getD ((i19).toNat) (0,0)) x_1 v21 hc6) O (Bl O O O O hb4) O O O O O O ⟨⟨O,O,Y⟩,⟨O,O,Y⟩,Y⟩ (Bq tt O (Bl O O O O hb4) O O O Y (Fk O (Ai O) O O O hb4 O (Ms (Ar O (fun hb7=>?_) (fun hb7=>?_)))))
   ·replace h:=Ak hb7 h;refine Ag (Ab (Aa O (Aa O (Aa O (Cr tt O O O O O O O O O O O ?_)))));obtain ⟨hg8,h⟩:=Ac h;refine Bt tt O O O O O O O O O O O O O O O O (Nat.le_of_eq (Nat.zero_add _)) hg8 (Aa O (Ao tt O O O O O O O O O O O ⟨Y,Y⟩ (Af (Ab (Aa O (Af (Dn 8 [7] [0,1,0,4,0,28,60,124,255,511,1023] (by kernel_rfl) (by kernel_rfl) (by kernel_rfl) (by kernel_rfl) (by kernel_rfl) O (by rfl) ?_)))))));iterate 5 refine Fy tt O (Ai O) O O O O O Y ?_
    refine Fy tt O (Ai O) O O O O O hg5 (Fy tt O (Ai O) O O O O O Y (Adl tt (Ai O) O O O O O O O O O O O O (Tb ?_)));show VO _ _ _ _ _;obtain ⟨hg9,h⟩:=Ac h;refine Bt tt O O O O O O O O O O O O O O O O (Nat.le_of_eq (Nat.zero_add _)) hg9 (Aa O (Ao tt O O O O O O O O O O O ⟨Y,Y⟩ (Af (Ab (Aa O ?_)))));obtain ⟨hg10,h⟩:=Ac h;refine Ad tt O hg10 (Aa O (Af ?_));show ∃ _,_;exact ⟨(((l17++([(x_1.1,x_1.2)]:List (Int×Int)))++([((g_0.bars.getD ((i19).toNat) (0,0)).1,(g_0.bars.getD ((i19).toNat) (0,0)).2)]:List (Int×Int))),true,(i19+(1:Int))),(En.of ⟨O,O,O,O,O,O,Y⟩ ⟨O,Y⟩ ⟨O,O,O,O,Y⟩),h⟩
   replace h:=Al hb7 h;refine Aq (Dn 8 [7] [0,1,0,4,0,28,60,124,255,511,1023] (by kernel_rfl) (by kernel_rfl) (by kernel_rfl) (by kernel_rfl) (by kernel_rfl) O (by rfl) ?_);iterate 5 refine Fy tt O (Ai O) O O O O O Y ?_
   refine Fy tt O (Ai O) O O O O O hg5 (Fy tt O (Ai O) O O O O O Y (Adl tt (Ai O) O O O O O O O O O O O O (Tb ?_)));show VO _ _ _ _ _;obtain ⟨hg11,h⟩:=Ac h;refine Bt tt O O O O O O O O O O O O O O O O (Nat.le_of_eq (Nat.zero_add _)) hg11 (Aa O (Ao tt O O O O O O O O O O O ⟨Y,Y⟩ (Af (Ab (Aa O ?_)))));obtain ⟨hg12,h⟩:=Ac h;refine Ad tt O hg12 (Aa O (Af ?_));show ∃ _,_;exact ⟨((l17++([((g_0.bars.getD ((i19).toNat) (0,0)).1,(g_0.bars.getD ((i19).toNat) (0,0)).2)]:List (Int×Int))),placed18,(i19+(1:Int))),(En.of ⟨O,O,O,O,O,O,Y⟩ ⟨O,Y⟩ ⟨O,O,O,O,Y⟩),h⟩
  replace h:=Al hb4 h;iterate 8 refine cNoT O O O O hb4 O O ?_
  refine Ge O (Ai O) O O O hb4 O (Ms (Cp O O (Aq (Dn 8 [7] [0,1,0,4,0,28,60,124,255,511,1023] (by kernel_rfl) (by kernel_rfl) (by kernel_rfl) (by kernel_rfl) (by kernel_rfl) O (by rfl) ?_))));iterate 5 refine Fy tt O (Ai O) O O O O O Y ?_
  obtain ⟨hg13,h⟩:=Ac h;refine Fy tt O (Ai O) O O O O O hg13 (Fy tt O (Ai O) O O O O O Y (Adl tt (Ai O) O O O O O O O O O O O O (Tb ?_)));show VO _ _ _ _ _;obtain ⟨hg14,h⟩:=Ac h;refine Bt tt O O O O O O O O O O O O O O O O (Nat.le_of_eq (Nat.zero_add _)) hg14 (Aa O (Ao tt O O O O O O O O O O O ⟨Y,Y⟩ (Af (Ab (Aa O ?_)))));obtain ⟨hg15,h⟩:=Ac h;refine Ad tt O hg15 (Aa O (Af ?_));show ∃ _,_;exact ⟨((l17++([((g_0.bars.getD ((i19).toNat) (0,0)).1,(g_0.bars.getD ((i19).toNat) (0,0)).2)]:List (Int×Int))),placed18,(i19+(1:Int))),(En.of ⟨O,O,O,O,O,O,Y⟩ ⟨O,Y⟩ ⟨O,O,O,O,Y⟩),h⟩
 replace h:=Al hb3 h;refine Bp ?_;show ∃ _,_;exact ⟨(l17,placed18),(En.of ⟨O,O,O,O,Y⟩ ⟨O,Y⟩ ⟨O,O,O,Y⟩),h⟩
def Gp (N:Nat) (g_0:Grf) (k_1:Int) (k:(List Int)→Option (Pbl×Bool)):Nat→((List Int)×Int)→Option (Pbl×Bool)
 | 0,_=>none
 | n+1,(l9,i10)=>
  cnd (decide (i10<g_0.n)) (
   grd (l9.length+1≤4294967296) <|
   grd (Bc (i10+(1:Int))) <|
   Gp N g_0 k_1 k n ((l9++([k_1]:List Int)),(i10+(1:Int)))) (
   k l9)
def Lh (N:Nat) (g_0:Grf) (k_1:Int):Option (Pbl×Bool):=
 (Dg N g_0).bind fun v1=>
 cnd (!v1) (
  some ((⟨([]:List Int),[],[]⟩:Pbl),false)) (
  (Wi N k_1 (1:Int) (3:Int)).bind fun v2=>
  cnd (!v2) (
   some ((⟨([]:List Int),[],[]⟩:Pbl),false)) (
   Gp N g_0 k_1 (fun (l6 : List Int) =>
      some ((⟨l6,[],[]⟩:Pbl),true)) N (([]:List Int),(0:Int))))
theorem Acs (N:Nat) (g_0:Grf) (k_1:Int) (r:Pbl×Bool) (h:Lh N g_0 k_1=some r):PCall Tryz.prog 205 [gD g_0,.int k_1] [(3,.ints r.1.free)] (.tup [.agg [.row 0 0 r.1.free.length,.nil,.nil],.bool r.2]):=by
 unfold Lh at h;refine Aj (TT:=TT) tt Tryz.func205 O O Tryz.ntmps205 (congrArg Array.toList Tryz.results205) O O fun w0=>(Ag (Ab (Hz O O O O O O O O O (Bi tt O O O O O O O O O (Aa O (Af (Ag (Ab ?_))))))));iterate 3 refine Gr tt (Ai O) O O O O ?_
 refine Fz (Ai O) (Df Dj O O) O O (Bi tt O O O O O O O O O (Ao tt O O O O O O O O O O O ⟨Y,Y,Y,Y⟩ (Af (Ag (Ag (Ab (Aa O ?_)))))));obtain ⟨v1,hc1,h⟩:=Ae h;refine Ba (Ez N g_0 v1 hc1) O O O O O O O O ⟨⟨O,O,Y⟩,Y⟩ (Aa O (Aa O (Be O O O (fun hb2=>?_) (fun hb2=>?_))))
 ·replace h:=Ak hb2 h;iterate 3 refine Hg O O O O hb2 O O ?_
  refine Bm O O O O O hb2 O (Af (Ce O O (Ag (Ab (Fz (Ai O) (Df Dj O O) O O (Ao tt O O O O O O O O O O O ⟨Y,Y,Y,Y⟩ (Aa O (Af (Kr 4 0 9001 3 (.ints []) O O O O O ?_)))))))));refine Bg ?_;show ∃ _,_;cases h;exact ⟨[9001],_,O,⟨O,Y⟩,O,.eq O,O⟩
 replace h:=Al hb2 h;refine Av tt O O O O O hb2 O O O Y ?_;obtain ⟨v2,hc3,h⟩:=Ae h;refine Eh (Vy N k_1 (1:Int) (3:Int) v2 hc3) O O O O hb2 O O O O O O O ⟨O,O,O,Y⟩ (Av tt O O O O O hb2 O O O Y (Aw O O O O O hb2 O (Af (Ar O (fun hb4=>?_) (fun hb4=>?_)))))
 ·replace h:=Ak hb4 h;refine Ag (Ab (Fz (Ai O) (Df Dj O O) O O (Ao tt O O O O O O O O O O O ⟨Y,Y,Y,Y⟩ (Aa O (Af (Kr 4 0 9001 3 (.ints []) O O O O O (Bg ?_)))))));show ∃ _,_;cases h;exact ⟨[9001],_,O,⟨O,Y⟩,O,.eq O,O⟩
 replace h:=Al hb4 h;refine Aq (Ag (Ag (Ab (Aa O (Af (Bz (F:=fun k=>Gp N g_0 k_1 k) h (α:=List Int) (J:=fun (l6:List Int)=>(⟨[(4,.ptr 4 0),(6,.ptr 6 0)],[(31,some (3,.ints l6))],[(4,some [.nil,.nil,.nil]),(6,some [.row 31 0 l6.length,.nil,.nil])]⟩:PS)) ?_ ?_))))))
 ·rintro l6 h;show VC _ _ _ (⟨[(4,.ptr 4 0),(6,.ptr 6 0)],[(31,some (3,.ints l6))],[(4,some [.nil,.nil,.nil]),(6,some [.row 31 0 l6.length,.nil,.nil])]⟩:PS);refine Ag (Ab (Aa O (Ao tt O O O O O O O O O O O ⟨Y,Y,Y,Y⟩ (Aa O (Af (Bg ?_))))));show ∃ _,_;cases h;exact ⟨[31],_,O,⟨O,Y⟩,O,.eq O,O⟩
 intro k h;refine Ap (Kr 6 0 31 3 (.ints []) rfl rfl rfl rfl rfl (Bh (α:=(List Int)×Int) (fun | (l9,i10)=>(⟨[(1,.int k_1),(2,.ptr 2 0),(4,.ptr 4 0),(6,.ptr 6 0),(7,.int i10)],[(31,some (3,.ints l9))],[(2,some [.int g_0.n,.ro false (.pairs g_0.bars)]),(4,some [.nil,.nil,.nil]),(6,some [.row 31 0 l9.length,.nil,.nil])]⟩:PS)) (Gp N g_0 k_1 k) h (En.of ⟨rfl,rfl,rfl,rfl,rfl,Y⟩ ⟨rfl,Y⟩ ⟨rfl,rfl,rfl,Y⟩) (fun _=>rfl) ?_));rintro n ⟨l9,i10⟩ h;rw [Gp] at h;show VC _ _ _ (⟨[(1,.int k_1),(2,.ptr 2 0),(4,.ptr 4 0),(6,.ptr 6 0),(7,.int i10)],[(31,some (3,.ints l9))],[(2,some [.int g_0.n,.ro false (.pairs g_0.bars)]),(4,some [.nil,.nil,.nil]),(6,some [.row 31 0 l9.length,.nil,.nil])]⟩:PS);refine Ag (Ag (Ab ?_));iterate 4 refine Aa O ?_
 refine Af (Ar O (fun hb5=>?_) (fun hb5=>?_))
 ·replace h:=Ak hb5 h;refine Aq (Ag (Ap (Ab (Aa O (Aa O (Aa O (Cr tt O O O O O O O O O O O ?_)))))));obtain ⟨hg6,h⟩:=Ac h;refine Bt tt O O O O O O O O O O O O O O O O (Nat.le_of_eq (Nat.zero_add _)) hg6 (Aa O (Ao tt O O O O O O O O O O O ⟨Y,Y⟩ (Af (Ab (Aa O ?_)))));obtain ⟨hg7,h⟩:=Ac h;refine Ad tt O hg7 (Aa O (Af ?_));show ∃ _,_;exact ⟨((l9++([k_1]:List Int)),(i10+(1:Int))),(En.of ⟨O,O,O,O,O,Y⟩ ⟨O,Y⟩ ⟨O,O,O,Y⟩),h⟩
 replace h:=Al hb5 h;refine Bp ?_;show ∃ _,_;exact ⟨l9,(En.of ⟨O,O,Y⟩ ⟨O,Y⟩ ⟨O,O,Y⟩),h⟩
def I_bar (N:Nat) (a_0:Int) (b_1:Int):Option (Int×Int):=
 some ((min a_0 b_1),(max a_0 b_1))
theorem I_bar_w (N:Nat) (a_0:Int) (b_1:Int) (r:Int×Int) (h:I_bar N a_0 b_1=some r):PCall Tryz.prog 59 [.int a_0,.int b_1] [] (.agg [.int r.1,.int r.2]):=by
 unfold I_bar at h;refine Aj (TT:=TT) tt Tryz.func59 O O Tryz.ntmps59 (congrArg Array.toList Tryz.results59) O O fun w0=>(Ag (Ab (Bi tt O O O O O O O O O (Af (Ag (Ab ?_))))));iterate 6 refine Aa O ?_
 refine Fz (Ai O) (Df Bx O O) O O (Ao tt O O O O O O O O O O O ⟨Y,Y,Y⟩ (Af (Bg ?_)));show ∃ _,_;cases h;exact ⟨[],_,O,Y,O,.eq O,O⟩
end
section
variable {n:Nat} {N:Nat}
theorem tri {L:List (Int×Int)} (hL:Spr n L) (hok:∀ e∈L,Bok n e) {A B C:VS} (hA:Tgt n L A) (hB:Tgt n L B) (hC:Tgt n L C) {x y z:Int} (hx:0≤x∧x<n) (hy:0≤y∧y<n) (hz:0≤z∧z<n) (hxy:x≠y) (hxz:x≠z) (hyz:y≠z)
  (ax:A x=true) (ay:A y=true) (bx:B x=true) (bz:B z=true) (cy:C y=true) (cz:C z=true):∃ W,Tgt n L W∧W x=true∧W y=true∧W z=true:=by
 by_cases h1:2≤vsz n (vI A B)
 ·exact ⟨vU A B,hA.union hL hB h1,by simp [vU,ax],by simp [vU,ay],by simp [vU,bz]⟩
 by_cases h2:2≤vsz n (vI A C)
 ·exact ⟨vU A C,hA.union hL hC h2,by simp [vU,ax],by simp [vU,ay],by simp [vU,cz]⟩
 by_cases h3:2≤vsz n (vI B C)
 ·exact ⟨vU B C,hB.union hL hC h3,by simp [vU,bx],by simp [vU,cy],by simp [vU,bz]⟩
 have s1:Zz n A B:=by unfold Zz; omega
 have s2:Zz n A C:=by unfold Zz; omega
 have s3:Zz n B C:=by unfold Zz; omega
 have sums:∀ L':List (Int×Int),(∀ e∈L',Bok n e)→spn A L'+spn B L'+spn C L'≤spn (vU (vU A B) C) L':=by
  intro L'
  induction L' with
  | nil=>intro _; simp [spn]
  | cons e L' ih=>
   intro h;have ih:=ih fun e he=>h e (by simp [he]);have b:=h e (by simp);have t1:=spn_two s1 b;have t2:=spn_two s2 b;have t3:=spn_two s3 b;rw [Hq,Hq,Hq,Hq]
   have up:(inX A e || inX B e || inX C e)=true→inX (vU (vU A B) C) e=true:=by
    simp only [inX,vU,Bool.or_eq_true,Bool.and_eq_true];rintro ((⟨g1,g2⟩ | ⟨g1,g2⟩) | ⟨g1,g2⟩)
    ·exact ⟨.inl (.inl g1),.inl (.inl g2)⟩
    ·exact ⟨.inl (.inr g1),.inl (.inr g2)⟩
    exact ⟨.inr g1,.inr g2⟩
   revert t1 t2 t3 up
   generalize inX A e=p;generalize inX B e=q;generalize inX C e=r;generalize inX (vU (vU A B) C) e=w;intro t1 t2 t3 up;cases p <;> cases q <;> cases r <;> simp at t1 t2 t3 up ⊢ <;> first | omega | (subst up; simp; omega)
 have a1:=sums L hok;have c1:=vsz_UI n A B;have c2:=vsz_UI n (vU A B) C
 have d1:1≤vsz n (vI A B):=by
  obtain ⟨x',rfl⟩:=Int.eq_ofNat_of_zero_le hx.1;exact List.countP_pos_iff.2 ⟨x',by simp; omega,by simp [vI,ax,bx]⟩
 have d2:2≤vsz n (vI (vU A B) C):=Lg hy hz hyz (by simp [vI,vU,ay,cy]) (by simp [vI,vU,bz,cz]);have e1:=hA.eq hL;have e2:=hB.eq hL;have e3:=hC.eq hL;refine ⟨vU (vU A B) C,⟨?_,by omega⟩,by simp [vU,ax],by simp [vU,ay],by simp [vU,bz]⟩;exact Lg hx hy hxy (by simp [vU,ax]) (by simp [vU,ay])
structure Gm (n:Nat) (bars:List (Int×Int)) (p:Pbl) (i:Nat):Prop where
 pg:PG n bars p
 spr:Spr n (p.placed.map (brI bars))
 sp:∀ j,j<i→∃ X,Tgt n (p.placed.map (brI bars)) X∧inX X (bars.getD j (0,0))=true
theorem Gm.skip {bars:List (Int×Int)} {p:Pbl} {i:Nat} (h:Gm n bars p i) (hX:∃ X,Tgt n (p.placed.map (brI bars)) X∧inX X (bars.getD i (0,0))=true):Gm n bars p (i+1):=⟨h.pg,h.spr,fun j hj=>by
 by_cases e:j=i
 ·subst e; exact hX
 exact h.sp j (by omega)⟩
theorem Gm.put {bars:List (Int×Int)} {p p':Pbl} {i:Nat} (h:Gm n bars p i) (hi:i<bars.length) (hb:Bok n (bars.getD i (0,0))) (hp:p'.placed=p.placed) (hg:PG n bars p') {t:Int} (ht:t=(bars.getD i (0,0)).1∨t=(bars.getD i (0,0)).2) (hf:1≤p'.free.getD t.toNat 0) (h4:4≤p'.free.getD (bars.getD i (0,0)).1.toNat 0+p'.free.getD (bars.getD i (0,0)).2.toNat 0) :
  Gm n bars ⟨p'.free.set t.toNat (p'.free.getD t.toNat 0-1),p'.tails++[t],p'.placed++[(i:Int)]⟩ (i+1):=by
 have hE:((p'.placed++[(i:Int)]).map (brI bars))=p.placed.map (brI bars)++[bars.getD i (0,0)]:=by rw [hp]; simp
 have hg':=hg.inv;rw [hp] at hg';have hs:Spr n (p.placed.map (brI bars)++[bars.getD i (0,0)]):=hg'.acc h.spr (a:=(bars.getD i (0,0)).1) (b:=(bars.getD i (0,0)).2) hb h4;refine ⟨⟨?_,fun x hx=>?_⟩,?_,fun j hj=>?_⟩
 ·show PInv n ((p'.placed++[(i:Int)]).map (brI bars)) _ _;rw [hE];exact hg'.put (a:=(bars.getD i (0,0)).1) (b:=(bars.getD i (0,0)).2) hb ht hf
 ·rcases List.mem_append.1 hx with hx | hx
  ·exact hg.pl x hx
  simp at hx; subst hx; exact ⟨by omega,by omega⟩
 ·show Spr n ((p'.placed++[(i:Int)]).map (brI bars));rw [hE]; exact hs
 show ∃ X,Tgt n ((p'.placed++[(i:Int)]).map (brI bars)) X∧_;rw [hE];by_cases e:j=i
 ·subst e;exact ⟨_,tgt_bar (by simp) hb,by simp [inX,v2]⟩
 obtain ⟨X,g1,g2⟩:=h.sp j (by omega);exact ⟨X,g1.grow (by rw [Yw]; omega),g2⟩
theorem Gm.bas {bars:List (Int×Int)} {p:Pbl} (h:Gm n bars p bars.length):Bas n bars (p.placed.map (brI bars)):=by
 refine ⟨fun e he=>?_,h.spr,fun e he=>?_⟩
 ·obtain ⟨i,hi,rfl⟩:=List.mem_map.1 he;have:=h.pg.pl i hi;exact Fn (by omega)
 obtain ⟨j,hj,e'⟩:=List.mem_iff_getElem.1 he;have:=h.sp j hj
 rwa [List.getD_eq_getElem?_getD,List.getElem?_eq_getElem hj,Option.getD_some,e'] at this
theorem Gm.start (bars:List (Int×Int)):Gm n bars ⟨List.replicate n 2,[],[]⟩ 0:=by
 refine ⟨⟨⟨by simp,by simp,by simp,by simp,fun v hv=>?_,fun v hv=>?_⟩,by simp⟩,fun X h=>by simp [spn] at h,fun j h=>by omega⟩
 ·simp [List.getD_eq_getElem?_getD,List.getElem?_replicate,hv]
 simp [List.getD_eq_getElem?_getD,List.getElem?_replicate,hv]
variable {g:Grf} (hN:4000000≤N) (hn:n≤1000) (hg:g.n=n)
end
section
variable {n:Nat} {a b:Int} {N:Nat}
theorem Yo:∀ (l:List (Int×Int)) (k v w:Int),Pc (l++[(k,v)]) w=match Pc l w with | some p=>some p | none=>if k=w then some (l.length,v) else none
 | [],k,v,w=>by simp [Pc]
 | (x,y)::l,k,v,w=>by
  simp only [List.cons_append,Pc];by_cases h:x=w
  ·simp [h]
  rw [if_neg h,if_neg h,Yo l k v w]
  cases Pc l w with
  | some p=>simp
  | none=>simp only [Option.map_none]; split <;> simp
theorem mset_new {l:List (Int×Int)} {k v:Int} (h:Acn l k=false):Xy l k v=l++[(k,v)]:=by
 unfold Acn at h;unfold Xy
 cases hm:Pc l k with
 | none=>rfl
 | some p=>rw [hm] at h; cases h
theorem mget_new {l:List (Int×Int)} {k v:Int} (h:Acn l k=false):Aaw (Xy l k v) k=v:=by
 rw [mset_new h];unfold Aaw;rw [Yo];unfold Acn at h
 cases hm:Pc l k with
 | none=>simp
 | some p=>rw [hm] at h; cases h
theorem mget_old {l:List (Int×Int)} {k v w:Int} (h:Acn l k=false) (hw:Acn l w=true):Aaw (Xy l k v) w=Aaw l w:=by
 rw [mset_new h];unfold Aaw;rw [Yo];unfold Acn at hw
 cases hm:Pc l w with
 | none=>rw [hm] at hw; cases hw
 | some p=>rfl
theorem mhas_set {l:List (Int×Int)} {k v w:Int} (h:Acn l k=false):Acn (Xy l k v) w=(Acn l w || k==w):=by
 rw [mset_new h];unfold Acn;rw [Yo]
 cases hm:Pc l w with
 | none=>
  by_cases e:k=w
  ·simp [e]
  simp [e]
 | some p=>simp
theorem otherI_s {e:Int×Int} {v:Int} (h:v=e.1∨v=e.2):Ka N e v=some (oth e v):=by
 unfold Ka oth;by_cases h1:e.1=v
 ·rw [Tt h1,←h1]; congr 1; omega
 rw [Rj h1];have:=h.resolve_left (fun h=>h1 h.symm);rw [this]; congr 1; omega
theorem Ab4 {l:List Int} (hl:l.length≤3000000):Mj N l=some l:=by
 unfold Mj;rw [Am (by first | omega | (simp; omega))];rfl
structure FI (n:Nat) (bars:List (Int×Int)) (p:Pbl) (a b:Int) (q:List Int) (mp:List (Int×Int)):Prop where
 bi:BI n (p.placed.map (brI bars)) p.tails a q (Aaw mp)
 bz:BZ p.free a b q
 sq:∀ v:Int,Acn mp v=decide (v∈q)
section
variable {bars:List (Int×Int)} {p:Pbl} (hN:4000000≤N) (hn:n≤1000) (hp:PG n bars p)
include hp in
theorem PG.plAt' {i:Nat} (h:i<p.placed.length):0≤p.placed.getD i 0∧p.placed.getD i 0<(bars.length:Int):=hp.pl _ (Fn h)
include hp in
theorem PG.bok' {i:Nat} (h:i<p.placed.length):Bok n (bars.getD (p.placed.getD i 0).toNat (0,0)):=by
 rw [←eAt h]; exact hp.inv.ok _ (Fn (by simpa using h))
include hp in
theorem turn_s {from':List (Int×Int)} {q:List Int} {u x v:Int} {kk:List Int→Option (Bool×List Int×List Int×List Int)} (hb:BI n (p.placed.map (brI bars)) p.tails a q (Aaw (Xy from' v x))) :
  ∀ (fuel j:Nat) (T':List Int),j<q.length→j<fuel→Mv (p.placed.map (brI bars)) p.tails T' u (q.getD j 0) →
   (∀ j',0<j'→j'≤j→T'.getD (Aaw (Xy from' v x) (q.getD j' 0)).toNat 0=p.tails.getD (Aaw (Xy from' v x) (q.getD j' 0)).toNat 0) →
   ∃ T'',Mv (p.placed.map (brI bars)) p.tails T'' u a∧Ld N p a from' x v kk fuel (T',q.getD j 0)=kk T'':=by
 intro fuel
 induction fuel with
 | zero=>intro j T' _ h; omega
 | succ fuel ih=>
  intro j T' hj hf hm hun;rw [Ld];by_cases h0:j=0
  ·subst h0;refine ⟨T',by rw [hb.hd] at hm; exact hm,?_⟩;rw [Jx hb.hd]
  have hne:¬ q.getD j 0=a:=by
   intro e;rw [←hb.hd] at e;have hp0:=hb.pos;rw [List.getD_eq_getElem?_getD,List.getD_eq_getElem?_getD,List.getElem?_eq_getElem hj,List.getElem?_eq_getElem hp0] at e;have:=(List.getElem_inj hb.nd).1 e;omega
  obtain ⟨j',i,g1,g2,g3,g4,g5,g6,g7⟩:=hb.back hp.inv (by omega) hj hm hun;have hip:i<p.placed.length:=by simpa using g2
  obtain ⟨T'',k1,k2⟩:=ih j' (T'.set i (q.getD j 0)) (by omega) (by omega) g6 g7;refine ⟨T'',k1,?_⟩;have htl:=hp.inv.tl;have hml:=hm.len;simp only [List.length_map] at htl;simp (disch:=omega) only [pst,Ws hne,g3,hml,htl,g5,k2]
theorem FI.pushB {q:List Int} {mp:List (Int×Int)} (h:FI n bars p a b q mp) {k i:Nat} {v:Int} (hk:k<q.length) (hi:i<p.placed.length) (ht:p.tails.getD i 0=q.getD k 0) (hv:oth ((p.placed.map (brI bars)).getD i (0,0)) (q.getD k 0)=v) (hr:0≤v∧v<n) (hn:v∉q) :
  BI n (p.placed.map (brI bars)) p.tails a (q++[v]) (Aaw (Xy mp v (i:Int))):=by
 have hm:Acn mp v=false:=by rw [h.sq v]; exact decide_eq_false hn
 exact h.bi.push hk (by simpa using hi) ht hv hr hn (mget_new hm) fun w hw=>mget_old hm (by rw [h.sq w]; exact decide_eq_true hw)
theorem FI.push {q:List Int} {mp:List (Int×Int)} (h:FI n bars p a b q mp) {k i:Nat} {v:Int} (hk:k<q.length) (hi:i<p.placed.length) (ht:p.tails.getD i 0=q.getD k 0) (hv:oth ((p.placed.map (brI bars)).getD i (0,0)) (q.getD k 0)=v) (hr:0≤v∧v<n) (hn:v∉q) (hz:v=b∨p.free.getD v.toNat 0=0) :
  FI n bars p a b (q++[v]) (Xy mp v (i:Int)):=by
 have hm:Acn mp v=false:=by rw [h.sq v]; exact decide_eq_false hn
 refine ⟨h.pushB hk hi ht hv hr hn,h.bz.push hz,fun w=>?_⟩;rw [mhas_set hm,h.sq w];by_cases e:v=w
 ·subst e; simp
 have e':¬ w=v:=fun h=>e h.symm;simp [e,e']
include hN hn hp in
theorem move2_s {k:Nat} {kk:(List Int×List (Int×Int))→Option (Bool×List Int×List Int×List Int)} (hab:a≠b) (hbr:0≤b∧b<n) :
  ∀ (fuel m:Nat) (q:List Int) (mp:List (Int×Int)),m≤p.placed.length→p.placed.length<fuel+m→FI n bars p a b q mp→Done (p.placed.map (brI bars)) p.tails q k m→k<q.length →
   (∃ p':Pbl,Gi N bars p a b k kk fuel (q,mp,(m:Int))=some (true,p'.free,p'.tails,p'.placed)∧Won n (p.placed.map (brI bars)) p.free p'.free p'.tails a b∧p'.placed=p.placed) ∨
   ∃ q' mp',Gi N bars p a b k kk fuel (q,mp,(m:Int))=kk (q',mp')∧FI n bars p a b q' mp'∧Done (p.placed.map (brI bars)) p.tails q' (k+1) 0∧k<q'.length:=by
 intro fuel
 induction fuel with
 | zero=>intro m _ _ h1 h2; omega
 | succ fuel ih=>
  intro m q mp h1 h2 hF hD hk;rw [Gi];have hlen:(p.placed.map (brI bars)).length=p.placed.length:=by simp
  by_cases hm:m<p.placed.length
  ·have htl:=hp.inv.tl;have hfr:=hp.inv.fl;rw [hlen] at htl;have hpl:=hp.plAt' hm;have ht2:=hp.inv.tlen;have hql:=hF.bi.len;by_cases ht:p.tails.getD m 0=q.getD k 0
   ·have hbk:=hp.bok' hm;have hen:=hp.inv.en m (by rw [hlen]; exact hm);rw [eAt hm,ht] at hen;have hr0:=hF.bi.rg _ (Fn (d:=0) hk);have eo:=otherI_s (N:=N) hen;have hvr:=oth_rg hbk hen;generalize hv:oth (bars.getD (p.placed.getD m 0).toNat (0,0)) (q.getD k 0)=v at hvr;rw [hv] at eo;have hvo:oth ((p.placed.map (brI bars)).getD m (0,0)) (q.getD k 0)=v:=by rw [eAt hm,hv]
    have hsq:=hF.sq v;by_cases hs:v∈q
    ·have hsq:Acn mp v=true:=by rw [hsq]; exact decide_eq_true hs
     simp (disch:=omega) only [pst,Jx ht,eo,hsq,Ah];exact ih (m+1) q mp (by omega) (by omega) hF (hD.step fun _ _=>by rw [hvo]; exact hs) hk
    have hsq:Acn mp v=false:=by rw [hsq]; exact decide_eq_false hs
    have hD':Done (p.placed.map (brI bars)) p.tails (q++[v]) k (m+1):=(hD.push hk).step fun _ _=>by rw [Jw hk,hvo]; simp
    by_cases hvb:v=b
    ·have hF':=hF.push (i:=m) hk hm ht hvo hvr hs (.inl hvb);simp (disch:=omega) only [pst,Jx ht,eo,hsq,Ah,Tt hvb];exact ih (m+1) _ _ (by omega) (by omega) hF' hD' (by simp; omega)
    by_cases hz:p.free.getD v.toNat 0=0
    ·have hF':=hF.push (i:=m) hk hm ht hvo hvr hs (.inr hz);simp (disch:=omega) only [pst,Jx ht,eo,hsq,Ah,Rj hvb,Tt hz];exact ih (m+1) _ _ (by omega) (by omega) hF' hD' (by simp; omega)
    left;have n0:=hp.inv.nn v.toNat (by omega);have n2:=hp.inv.le2 (v:=v.toNat) (by omega);have hb2:=hF.pushB hk hm ht hvo hvr hs;have e1:(q++[v]).getD q.length 0=v:=by rw [Mq]; simp
    have ha:0≤a∧a<n:=by have:=hF.bi.rg _ (Fn (d:=0) hF.bi.pos); rwa [hF.bi.hd] at this
    have hva:v≠a:=by
     rintro rfl;have:=Fn (d:=(0:Int)) hF.bi.pos;rw [hF.bi.hd] at this;exact hs this
    obtain ⟨T'',k1,k2⟩:=turn_s hp (N:=N) (u:=v)
     (kk:=fun l310=>grd (p.free.length=(Zp p.free v a).length) <| grd (p.tails.length=l310.length) <| some (true,Zp p.free v a,l310,p.placed)) hb2 N q.length p.tails (by simp) (by omega) (by rw [e1]; exact Mv.start hp.inv _) (fun _ _ _=>rfl)
    rw [e1] at k2
    have b2:0≤(p.free.set v.toNat (p.free.getD v.toNat 0-1)).getD a.toNat 0∧(p.free.set v.toNat (p.free.getD v.toNat 0-1)).getD a.toNat 0≤2:=by
     rw [Kp];have:=hp.inv.le2 (v:=a.toNat) (by omega);have:=hp.inv.nn a.toNat (by omega);split <;> omega
    refine ⟨⟨Zp p.free v a,T'',p.placed⟩,?_,k1.won hp.inv ha hvr hbr hva hvb hab (by omega),O⟩;have t3:=k1.len;simp only [Zp,List.length_set,grd_T] at k2 ⊢;simp (disch:=omega) only [pst,Jx ht,eo,hsq,Ah,Rj hvb,Rj hz,List.length_set];rw [k2];exact Am t3.symm _
   simp (disch:=omega) only [pst,Ws ht,Ah];exact ih (m+1) q mp (by omega) (by omega) hF (hD.step fun _ e=>absurd e ht) hk
  right;have e:m=(p.placed.map (brI bars)).length:=by omega
  refine ⟨q,mp,?_,hF,by subst e; exact hD.next,hk⟩;simp (disch:=omega) only [pst]
include hN hn hp in
theorem move1_s {kk:Unit→Option (Bool×List Int×List Int×List Int)} (hab:a≠b) (hbr:0≤b∧b<n) :
  ∀ (fuel k:Nat) (q:List Int) (mp:List (Int×Int)),n<fuel+k→FI n bars p a b q mp→Done (p.placed.map (brI bars)) p.tails q k 0→k≤q.length →
   (∃ p':Pbl,Ex N bars p a b kk fuel (q,mp,(k:Int))=some (true,p'.free,p'.tails,p'.placed)∧Won n (p.placed.map (brI bars)) p.free p'.free p'.tails a b∧p'.placed=p.placed) ∨
   (Ex N bars p a b kk fuel (q,mp,(k:Int))=kk ()∧Shut n (p.placed.map (brI bars)) p.free p.tails a b):=by
 intro fuel
 induction fuel with
 | zero=>intro k q mp h1 hF hD hk; have:=hF.bi.len; omega
 | succ fuel ih=>
  intro k q mp h1 hF hD hk;have ht2:=hp.inv.tlen;have htl:=hp.inv.tl;simp only [List.length_map] at htl;by_cases hkq:k<q.length
  ·have hql:=hF.bi.len
   have key:=move2_s (k:=k) (kk:=(fun (x:(List Int)×(List (Int×Int)))=>
     match x with
     | (l287,from288)=>
      grd (Bc ((k:Int)+(1:Int))) <|
      Ex N bars p a b kk fuel (l287,from288,((k:Int)+(1:Int))))) hN hn hp hab hbr N 0 q mp (by omega) (by omega) hF hD hkq
   rw [show ((0:Nat):Int)=0 from rfl] at key;rcases key with ⟨p',g1,g2,g3⟩ | ⟨q2,m2,g1,g2,g3,g4⟩
   ·left;refine ⟨p',?_,g2,g3⟩;rw [Ex,Bb (by omega)];exact g1
   have e:Ex N bars p a b kk (fuel+1) (q,mp,(k:Int))=Ex N bars p a b kk fuel (q2,m2,((k+1:Nat):Int)):=by
    rw [Ex,Bb (by omega)];refine g1.trans ?_;have:=g2.bi.len;simp (disch:=omega) only [pst,Ah]
   rw [e];exact ih (k+1) q2 m2 (by omega) g2 g3 (by omega)
  right;refine ⟨?_,hF.bi.shut hF.bz hD (by omega)⟩;rw [Ex];simp (disch:=omega) only [pst]
include hN hn hp in
theorem move_s (hb:Bok n (a,b)) :
  (∃ p':Pbl,Sm N bars p a b=some (true,p'.free,p'.tails,p'.placed)∧Won n (p.placed.map (brI bars)) p.free p'.free p'.tails a b∧p'.placed=p.placed) ∨
  (Sm N bars p a b=some (false,p.free,p.tails,p.placed)∧Shut n (p.placed.map (brI bars)) p.free p.tails a b):=by
 obtain ⟨h1,h2,h3,h4,h5⟩:=hb;simp only at h1 h2 h3 h4 h5
 have key:=move1_s (kk:=fun _=>some (false,p.free,p.tails,p.placed)) hN hn hp h5 ⟨h3,h4⟩ N 0 [a] (Xy [] a (-1)) (by omega) ⟨BI.start ⟨h1,h2⟩,fun v hv h _=>absurd (by simpa using hv) h,fun v=>by
  rw [mhas_set rfl];by_cases e:a=v
  ·subst e; simp
  have e':¬ v=a:=fun h=>e h.symm;have:Acn [] v=false:=rfl
  simp [e,e',this]⟩ Done.start (by simp)
 rw [show ((0:Nat):Int)=0 from rfl] at key;unfold Sm;exact key
end
section
variable {bars:List (Int×Int)} (hN:4000000≤N) (hn:n≤1000)
include hN hn in
theorem gatherI1_s (hb:Bok n (a,b)) {kk:(List Int×List Int×List Int)→Option (Bool×List Int×List Int×List Int)}:∀ (fuel:Nat) (p:Pbl),PG n bars p→4<fuel+(p.free.getD a.toNat 0+p.free.getD b.toNat 0) →
  ∃ p':Pbl,p'.placed=p.placed∧PG n bars p'∧((Je N bars a b 4 kk fuel (p.free,p.tails,p.placed)=kk (p'.free,p'.tails,p'.placed)∧4≤p'.free.getD a.toNat 0+p'.free.getD b.toNat 0) ∨
   (Je N bars a b 4 kk fuel (p.free,p.tails,p.placed)=some (false,p'.free,p'.tails,p'.placed)∧∃ X,Tgt n (p.placed.map (brI bars)) X∧inX X (a,b)=true)):=by
 obtain ⟨h1,h2,h3,h4,h5⟩:=id hb;simp only at h1 h2 h3 h4 h5;intro fuel
 induction fuel with
 | zero=>
  intro p hp hf;have:=hp.inv.le2 (v:=a.toNat) (by omega);have:=hp.inv.le2 (v:=b.toNat) (by omega);omega
 | succ fuel ih=>
  intro p hp hf;have fl:=hp.inv.fl;have l1:=hp.inv.le2 (v:=a.toNat) (by omega);have l2:=hp.inv.le2 (v:=b.toNat) (by omega);have n1:=hp.inv.nn a.toNat (by omega);have n2:=hp.inv.nn b.toNat (by omega);rw [Je];have e:(⟨p.free,p.tails,p.placed⟩:Pbl)=p:=rfl;by_cases hs:p.free.getD a.toNat 0+p.free.getD b.toNat 0<4
  ·rcases move_s hN hn hp hb with ⟨p1,f1,f2,f3⟩ | ⟨f1,f2⟩
   ·obtain ⟨p',g1,g2,g3⟩:=ih p1 (f2.pg hp f3) (by have:=f2.symm'; omega);refine ⟨p',g1.trans f3,g2,?_⟩;rw [f3] at g3;simp (disch:=omega) only [pst,e,f1,Bool.not_true];rw [f3];exact g3
   rcases move_s hN hn hp hb.swap with ⟨p1,k1,k2,k3⟩ | ⟨k1,k2⟩
   ·obtain ⟨p',g1,g2,g3⟩:=ih p1 (k2.pg hp k3) (by have:=k2.symm'; omega);refine ⟨p',g1.trans k3,g2,?_⟩;rw [k3] at g3;simp (disch:=omega) only [pst,e,f1,k1,Bool.not_true,Bool.not_false];rw [k3];exact g3
   refine ⟨p,O,hp,.inr ⟨?_,Shut.tgt hp.inv hb f2 k2 (by omega)⟩⟩;simp (disch:=omega) only [pst,e,f1,k1,Bool.not_false]
  refine ⟨p,O,hp,.inl ⟨?_,by omega⟩⟩;simp (disch:=omega) only [pst]
include hN hn in
theorem gatherI_s (hb : Bok n (a, b)) {p : Pbl} (hp : PG n bars p) : ∃ p' : Pbl, p'.placed = p.placed ∧ PG n bars p' ∧ ((Yk N bars p a b 4 = some (true, p'.free, p'.tails, p'.placed) ∧ 4 ≤ p'.free.getD a.toNat 0 + p'.free.getD b.toNat 0) ∨
   (Yk N bars p a b 4=some (false,p'.free,p'.tails,p'.placed)∧∃ X,Tgt n (p.placed.map (brI bars)) X∧inX X (a,b)=true)):=by
 obtain ⟨h1,h2,h3,h4,h5⟩:=id hb;simp only at h1 h2 h3 h4 h5;have n1:=hp.inv.nn a.toNat (by omega);have n2:=hp.inv.nn b.toNat (by omega);exact gatherI1_s hN hn hb (kk:=fun x=>match x with | (l11,l12,l13)=>some (true,l11,l12,l13)) N p hp (by omega)
include hN hn in
theorem placeI_s {p:Pbl} {i:Nat} (hi:i<bars.length) (hbl:bars.length≤1000) (hb:∀ e∈bars,Bok n e) (h:Gm n bars p i) :
  (∃ p':Pbl,Wv N bars 3 p i=some (true,p'.free,p'.tails,p'.placed)∧Gm n bars p' (i+1))∨((∃ x,Wv N bars 3 p i=some (false,x))∧Gm n bars p (i+1)):=by
 have hbi:=hb _ (Fn (d:=(0,0)) hi);have r1:=hbi.1;have r2:=hbi.2.1;have r3:=hbi.2.2.1;have r4:=hbi.2.2.2.1;have e:(⟨p.free,p.tails,p.placed⟩:Pbl)=p:=rfl;have e4:(3:Int)+1=4:=rfl;obtain ⟨p',g1,g2,⟨g3,g4⟩ | ⟨g3,g4⟩⟩:=gatherI_s hN hn (bars:=bars) (a:=(bars.getD i (0,0)).1) (b:=(bars.getD i (0,0)).2) hbi h.pg
 ·left;have le1:=g2.inv.le2 (v:=(bars.getD i (0,0)).2.toNat) (by omega);have le2:=g2.inv.le2 (v:=(bars.getD i (0,0)).1.toNat) (by omega);have hput:=h.put hi hbi g1 g2 (.inl rfl) (by omega) g4;refine ⟨_,?_,hput⟩;have fl:=g2.inv.fl;have tl:=g2.inv.tl;simp only [List.length_map] at tl;have t2:=g2.inv.tlen;unfold Wv;have hz:¬ p'.free.getD (bars.getD i (0,0)).1.toNat 0=0:=by omega
  simp (disch:=omega) only [pst,e,e4,g3,Bool.not_true,jn_def,Rj hz,List.length_set]
 right;refine ⟨⟨(p'.free,p'.tails,p'.placed),?_⟩,h.skip g4⟩;unfold Wv;simp (disch:=omega) only [pst,e,e4,g3,Bool.not_false]
include hN hn in
theorem play1_s (hb:∀ e∈bars,Bok n e) (hl:bars.length≤1000) {kk:(List Int×List Int×List Int)→Option Pbl}:∀ (fuel i:Nat) (p:Pbl),i≤bars.length→bars.length<fuel+i→Gm n bars p i →
  ∃ p':Pbl,Gm n bars p' bars.length∧My N bars 3 kk fuel (p.free,p.tails,p.placed,(i:Int))=kk (p'.free,p'.tails,p'.placed):=by
 intro fuel
 induction fuel with
 | zero=>intro i p h1 h2; omega
 | succ fuel ih=>
  intro i p h1 h2 h;rw [My];by_cases hi:i<bars.length
  ·have e:(⟨p.free,p.tails,p.placed⟩:Pbl)=p:=rfl;have fl:=h.pg.inv.fl;have tl:=h.pg.inv.tl;simp only [List.length_map] at tl;have t2:=h.pg.inv.tlen
   have ec:Ln N p=some p:=by
    unfold Ln;rw [Ab4 (by omega),Ab4 (by omega),Ab4 (by omega)];rfl
   rcases placeI_s hN hn hi hl hb h with ⟨p',g1,g2⟩ | ⟨⟨x,g1⟩,g2⟩
   ·obtain ⟨p2,k1,k2⟩:=ih (i+1) p' (by omega) (by omega) g2;refine ⟨p2,k1,?_⟩;simp (disch:=omega) only [pst,e,ec,g1,Ah];exact k2
   obtain ⟨p2,k1,k2⟩:=ih (i+1) p (by omega) (by omega) g2;refine ⟨p2,k1,?_⟩;simp (disch:=omega) only [pst,e,ec,g1,Ah];exact k2
  have e:i=bars.length:=by omega
  subst e;refine ⟨p,h,?_⟩;simp (disch:=omega) only [pst]
end
end
section
variable (N:Nat)
theorem Aa0 (l:List (Int×Int)):((List.range l.length).all fun i=>!Jt l i)=!Rb l:=by
 simp only [Rb,List.not_any_eq_all_not]
theorem pair_eq (a b:Int×Int):((a.1==b.1)&&(a.2==b.2))=(a==b):=by
 obtain ⟨x,y⟩:=a; obtain ⟨u,v⟩:=b; rfl
theorem Zi (hN:4000000≤N) {g:Grf} (hb:g.bars.length≤3000000):Lf N g=some (Rb g.bars):=by
 unfold Lf;refine (srch1 (len:=g.bars.length) (ok:=fun i=>!Jt g.bars i) (bad:=some true) (fin:=some false) (by omega) O ?_ ?_).trans ?_
 ·intro n i h0 hi;rw [Gk];simp (disch:=omega) only [pst,Ah,pair_eq,show ((i:Int)-1).toNat=i-1 from by omega];refine Ki ?_ _ _;simp [Jt,h0]
 ·intro n i hi;rw [Gk];simp (disch:=omega) only [pst]
 rw [Aa0,La]; cases Rb g.bars <;> rfl
theorem Qm (hN:4000000≤N) {g:Grf} (hb:g.bars.length≤3000000):Lb N g=some (Cc g):=by
 unfold Lb Cc;refine (srch1 (len:=g.bars.length) (ok:=fun i=>!Jt g.bars i) (bad:=some false) (fin:=some (Bd g)) (by omega) O ?_ ?_).trans ?_
 ·intro n i h0 hi;rw [Hh];simp (disch:=omega) only [pst,Ah,pair_eq,show ((i:Int)-1).toNat=i-1 from by omega];refine Ki ?_ _ _;simp [Jt,h0]
 ·intro n i hi;rw [Hh];simp (disch:=omega) only [pst,Ca N hN]
 rw [Aa0,La]; cases Rb g.bars <;> cases Bd g <;> rfl
theorem ghasW_s (g:Grf) (x:Int):Kd N g x=some (inB x 0 (w64 (g.n-1))):=by
 unfold Kd;simp (disch:=omega) only [pst,Rf]
theorem ghas_s {g:Grf} (h:0≤g.n) (h':g.n≤1048576) (x:Int):Kd N g x=some (inB x 0 (g.n-1)):=by
 unfold Kd;rw [Acz (by omega) (by omega)];simp (disch:=omega) only [pst,Rf]
end
section
variable (N:Nat)
def Hb (b:Int×Int) (v:Int):Int:=cnd (b.1==v) b.2 b.1
def Pg (b:Int×Int) (v:Int):Bool:=b.1==v || b.2==v
theorem hasEnd_1 {b:Int×Int} {v:Int} (h:b.1=v):Pg b v=true:=by simp [Pg,h]
theorem hasEnd_2 {b:Int×Int} {v:Int} (h:b.2=v):Pg b v=true:=by simp [Pg,h]
theorem hasEnd_0 {b:Int×Int} {v:Int} (h:¬ b.1=v) (h2:¬ b.2=v):Pg b v=false:=by simp [Pg,h,h2]
theorem bhas_s (b:Int×Int) (v:Int):Ts N b v=some (Pg b v):=by
 unfold Ts Pg;rw [La]; cases b.1==v <;> rfl
theorem bother_s (b:Int×Int) (v:Int):Ka N b v=some (Hb b v):=by
 unfold Ka Hb;rw [La]
theorem l4Other_s {b:Int×Int} {v:Int} (h1:0≤b.1) (h2:b.1≤1048576) (h3:0≤b.2) (h4:b.2≤1048576) (h:Pg b v=true):Ku N b v=some (Hb b v):=by
 unfold Ku Hb;simp only [Pg,Bool.or_eq_true,beq_iff_eq] at h;rcases h with h | h
 ·simp (disch:=omega) only [pst];congr 1;rw [show (b.1==v)=true by simpa using h,cnd_true]; omega
 simp (disch:=omega) only [pst];congr 1
 cases hb:b.1==v with
 | true => have : b.1 = v := by simpa using hb
           rw [cnd_true]; omega
 | false=>rw [cnd_false]; omega
end
section
variable {n:Nat} {N:Nat}
def Srt (L:List (Int×Int)):Prop:=L.Pairwise fun a b=>Ee a b=true
theorem le_total {a b:Int×Int} (h:Ee a b=false):Ee b a=true:=by
 simp only [Ee,Bool.or_eq_false_iff,Bool.and_eq_false_iff,decide_eq_false_iff_not,Bool.or_eq_true,Bool.and_eq_true,decide_eq_true_eq,beq_iff_eq,beq_eq_false_iff_ne] at h ⊢;omega
theorem Abm {a b c:Int×Int} (h1:Ee a b=true) (h2:Ee b c=true):Ee a c=true:=by
 simp only [Ee,Bool.or_eq_true,Bool.and_eq_true,decide_eq_true_eq,beq_iff_eq] at h1 h2 ⊢;omega
theorem srt_put {A B:List (Int×Int)} {x:Int×Int} (h:Srt (A++B)) (hA:∀ e∈A,Ee e x=true) (hB:∀ b l,B=b::l→Ee b x=false):Srt (A++x::B):=by
 obtain ⟨h1,h2,h3⟩:=List.pairwise_append.1 h
 have hx:∀ b∈B,Ee x b=true:=by
  cases B with
  | nil=>intro b hb; simp at hb
  | cons b0 l=>
   have h0:=le_total (hB b0 l rfl);intro b hb;rcases List.mem_cons.1 hb with rfl | hb
   ·exact h0
   exact Abm h0 ((List.pairwise_cons.1 h2).1 b hb)
 refine List.pairwise_append.2 ⟨h1,List.pairwise_cons.2 ⟨hx,h2⟩,fun a ha b hb=>?_⟩;rcases List.mem_cons.1 hb with rfl | hb
 ·exact hA a ha
 exact h3 a ha b hb
end
section
variable {n:Nat} {N:Nat}
theorem put0_s (hN:4000000≤N) {g:Grf} (hl:g.bars.length≤1000) (x:Int×Int):∃ L,Fv N g x=some ⟨g.n,L⟩∧L.length=g.bars.length+1∧∀ e,e∈L↔e=x∨e∈g.bars:=by
 have key:∀ {kk:(List (Int×Int)×Bool)→Option Grf} (fuel i:Nat) (l:List (Int×Int)) (pl:Bool),i≤g.bars.length→g.bars.length<fuel+i→l.length=i+(if pl=true then 1 else 0)→(pl=true→x∈l)→(∀ e,(e=x∨e∈l)↔(e=x∨e∈g.bars.take i)) →
   ∃ l' pl',Do N g x kk fuel (l,pl,(i:Int))=kk (l',pl')∧l'.length=g.bars.length+(if pl'=true then 1 else 0)∧(pl'=true→x∈l')∧∀ e,(e=x∨e∈l')↔(e=x∨e∈g.bars):=by
  intro kk fuel
  induction fuel with
  | zero=>intro i l pl h1 h2; omega
  | succ fuel ih=>
   intro i l pl h1 h2 h3 h4 h5;rw [Do];have hlb:l.length≤1001:=by rw [h3]; split <;> omega
   by_cases hi:i<g.bars.length
   ·have htk:∀ e,e∈g.bars.take (i+1)↔e∈g.bars.take i∨e=g.bars.getD i (0,0):=by
     intro e;have hd:g.bars.getD i (0,0)=g.bars[i]:=by simp [List.getD_eq_getElem?_getD,List.getElem?_eq_getElem hi]
     rw [List.take_add_one,List.getElem?_eq_getElem hi,List.mem_append,hd];simp only [Option.toList_some,List.mem_singleton]
    have step:∀ l2:List (Int×Int),(∀ e,(e=x∨e∈l2)↔(e=x∨e∈l∨e=g.bars.getD i (0,0)))→∀ e,(e=x∨e∈l2)↔(e=x∨e∈g.bars.take (i+1)):=by
     intro l2 h e;rw [h e,htk e];have:=h5 e;constructor
     ·rintro (h | h | h)
      ·exact .inl h
      ·rcases this.1 (.inr h) with h | h
       ·exact .inl h
       exact .inr (.inl h)
      exact .inr (.inr h)
     rintro (h | h | h)
     ·exact .inl h
     ·rcases this.2 (.inr h) with h | h
      ·exact .inl h
      exact .inr (.inl h)
     exact .inr (.inr h)
    cases pl with
    | true=>
     simp only [if_true] at h3;obtain ⟨l',pl',k1,k2⟩:=ih (i+1) (l++[g.bars.getD i (0,0)]) true (by omega) (by omega) (by simp; omega) (fun _=>by simp [h4 rfl]) (step _ fun e=>by simp);refine ⟨l',pl',?_,k2⟩;simp (disch:=omega) only [pst,Bool.not_true,Ah];exact k1
    | false=>
     simp only [Bool.false_eq_true,if_false] at h3
     cases hb:Ee (g.bars.getD i (0,0)) x with
     | false=>
      obtain ⟨l',pl',k1,k2⟩:=ih (i+1) (l++[x]++[g.bars.getD i (0,0)]) true (by omega) (by omega) (by simp; omega) (fun _=>by simp) (step _ fun e=>by simp; grind);refine ⟨l',pl',?_,k2⟩;simp (disch:=omega) only [pst,Bool.not_false,Rm,hb,List.length_append,Ah];exact k1
     | true=>
      obtain ⟨l',pl',k1,k2⟩:=ih (i+1) (l++[g.bars.getD i (0,0)]) false (by omega) (by omega) (by simp; omega) (fun h=>by cases h) (step _ fun e=>by simp);refine ⟨l',pl',?_,k2⟩;simp (disch:=omega) only [pst,Bool.not_false,Bool.not_true,Rm,hb,Ah];exact k1
   have e:i=g.bars.length:=by omega
   subst e;refine ⟨l,pl,?_,h3,h4,by simpa using h5⟩;simp (disch:=omega) only [pst]
 obtain ⟨l',pl',k1,k2,k3,k4⟩:=key (kk:=fun (x_:(List (Int×Int))×Bool)=>
   match x_ with
   | (l10,placed11)=>
    cnd (!placed11) (
     grd (l10.length+1≤4294967296) <|
     some (⟨g.n,(l10++([(x.1,x.2)]:List (Int×Int)))⟩:Grf)) (
     some (⟨g.n,l10⟩:Grf))) N 0 [] false (by omega) (by omega) (by simp) (fun h=>by cases h) (fun e=>by simp)
 rw [show ((0:Nat):Int)=0 from rfl] at k1
 cases pl' with
 | true=>
  refine ⟨l',k1,by simpa using k2,fun e=>?_⟩;rw [←k4 e];constructor
  ·exact .inr
  rintro (rfl | h)
  ·exact k3 O
  exact h
 | false=>
  simp only [Bool.false_eq_true,if_false] at k2;refine ⟨l'++[x],?_,by simp; omega,fun e=>?_⟩
  ·refine Eq.trans k1 ?_;simp (disch:=omega) only [pst,Bool.not_false]
  rw [←k4 e]; simp; grind
end
section
variable {n:Nat} {N:Nat}
end
section
variable {n:Nat}
end
section
variable {n:Nat} {N:Nat}
theorem Aat {g:Grf} (h1:inB g.n 1 8=true) (h2:g.bars.length≤24) (h3:Srt g.bars) (h4:∀ e∈g.bars,Tk g.n e=true):Bd g=true:=by
 refine isGraph_true h1 h2 fun i hi=>?_;unfold Xo;rw [h4 _ (Fn hi)];by_cases h0:i=0
 ·simp [h0]
 have:=List.pairwise_iff_getElem.1 h3 (i-1) i (by omega) hi (by omega);have e1:g.bars.getD (i-1) (0,0)=g.bars[i-1]:=by rw [List.getD_eq_getElem?_getD,List.getElem?_eq_getElem (by omega)]; rfl
 have e2:g.bars.getD i (0,0)=g.bars[i]:=by rw [List.getD_eq_getElem?_getD,List.getElem?_eq_getElem hi]; rfl
 rw [e1,e2,this]; simp
end
section
variable {n:Nat}
end
section
variable {n:Nat} {N:Nat}
end
section
variable {n:Nat} {N:Nat}
end
section
variable {N:Nat}
end
section
open Go.RowKit
end
section
open Go.RowKit
def Fo (N:Nat) (g_0:Grf) (k_1:Int):Option (Grf×Bool):=
 (Dg N g_0).bind fun v1=>
 cnd (!v1) (
  (Fm N g_0).bind fun v2=>
  some ((⟨v2.n,v2.bars⟩:Grf),false)) (
  cnd (decide (k_1<(0:Int))) (
   (Fm N g_0).bind fun v3=>
   some ((⟨v3.n,v3.bars⟩:Grf),false)) (
   cnd (decide (k_1≥(g_0.bars.length:Int))) (
    (Fm N g_0).bind fun v4=>
    some ((⟨v4.n,v4.bars⟩:Grf),false)) (
    grd (0≤k_1∧k_1≤(g_0.bars.length:Int)) <|
    grd (((g_0.bars.take ((k_1).toNat)).drop 0).length≤4294967296) <|
    grd (Bc (k_1+(1:Int))) <|
    grd (0≤(k_1+(1:Int))∧(k_1+(1:Int))≤(g_0.bars.length:Int)) <|
    grd ((([]:List (Int×Int))++((g_0.bars.take ((k_1).toNat)).drop 0)).length+((g_0.bars.take g_0.bars.length).drop (((k_1+(1:Int))).toNat)).length≤4294967296) <|
    some ((⟨g_0.n,((([]:List (Int×Int))++((g_0.bars.take ((k_1).toNat)).drop 0))++((g_0.bars.take g_0.bars.length).drop (((k_1+(1:Int))).toNat)))⟩:Grf),true))))
theorem St (N:Nat) (g_0:Grf) (k_1:Int) (r:Grf×Bool) (h:Fo N g_0 k_1=some r):PCall Tryz.prog 122 [gD g_0,.int k_1] [(42,.pairs r.1.bars)] (.tup [.agg [.int r.1.n,.row 0 0 r.1.bars.length],.bool r.2]):=by
 unfold Fo at h;refine Aj (TT:=TT) tt Tryz.func122 O O Tryz.ntmps122 (congrArg Array.toList Tryz.results122) O O fun w0=>(Ag (Ab (Hz O O O O O O O O O (Bi tt O O O O O O O O O (Aa O (Af (Ag (Ag (Ab ?_)))))))));refine Aa O ?_;obtain ⟨v1,hc1,h⟩:=Ae h;refine Ba (Ez N g_0 v1 hc1) O O O O O O O O ⟨⟨O,O,Y⟩,Y⟩ (Aa O (Aa O (Be O O O (fun hb2=>?_) (fun hb2=>?_))))
 ·replace h:=Ak hb2 h;iterate 2 refine Hg O O O O hb2 O O ?_
  refine Bm O O O O O hb2 O (Aa O ?_);iterate 5 refine Hg O O O O O O O ?_
  refine Bm O O O O O O O (Af (Ce O O (Ag (Ab (Aa O ?_)))));obtain ⟨v2,hc3,h⟩:=Ae h;refine Ba (Hv N g_0 v2 hc3) O O O O O O O O ⟨⟨O,O,Y⟩,Y⟩ (Ao tt O O O O O O O O O O O ⟨Y,Y,Y⟩ (Aa O (Af (Bg ?_))));show ∃ _,_;cases h;exact ⟨[1210],_,O,⟨O,Y⟩,O,.eq O,O⟩
 replace h:=Al hb2 h;iterate 2 refine Av tt O O O O O hb2 O O O Y ?_
 refine Aw O O O O O hb2 O (Aa O (Be O O O (fun hb4=>?_) (fun hb4=>?_)))
 ·replace h:=Ak hb4 h;iterate 5 refine Hg O O O O hb4 O O ?_
  refine Bm O O O O O hb4 O (Af (Ce O O (Ag (Ab (Aa O ?_)))));obtain ⟨v3,hc5,h⟩:=Ae h;refine Ba (Hv N g_0 v3 hc5) O O O O O O O O ⟨⟨O,O,Y⟩,Y⟩ (Ao tt O O O O O O O O O O O ⟨Y,Y,Y⟩ (Aa O (Af (Bg ?_))));show ∃ _,_;cases h;exact ⟨[1210],_,O,⟨O,Y⟩,O,.eq O,O⟩
 replace h:=Al hb4 h;iterate 5 refine Av tt O O O O O hb4 O O O Y ?_
 refine Aw O O O O O hb4 O (Af (Ar O (fun hb6=>?_) (fun hb6=>?_)))
 ·replace h:=Ak hb6 h;refine Ag (Ab (Aa O ?_));obtain ⟨v4,hc7,h⟩:=Ae h;refine Ba (Hv N g_0 v4 hc7) O O O O O O O O ⟨⟨O,O,Y⟩,Y⟩ (Ao tt O O O O O O O O O O O ⟨Y,Y,Y⟩ (Aa O (Af (Bg ?_))));show ∃ _,_;cases h;exact ⟨[1210],_,O,⟨O,Y⟩,O,.eq O,O⟩
 replace h:=Al hb6 h;refine Aq (Ag (Dn 14 [7,13,1130000029] [0,1,0,0,8,0,56,124,0,256,0,1024,3840,8188,16383,32767,65535] (by kernel_rfl) (by kernel_rfl) (by kernel_rfl) (by kernel_rfl) (by kernel_rfl) O (by rfl) ?_));iterate 2 refine Fy tt O (Ai O) O O O O O Y ?_
 refine Adi tt (Ai O) O O O O O ?_;iterate 3 refine Fy tt O (Ai O) O O O O O Y ?_
 obtain ⟨hg8,h⟩:=Ac h;refine Fy tt O (Ai O) O O O O O hg8 ?_;obtain ⟨hg9,h⟩:=Ac h;refine Abc tt (Ai O) O O O O O O O O (fun _=>O) O O O O O O hg9 ?_;iterate 3 refine Fy tt O (Ai O) O O O O O Y ?_
 obtain ⟨hg10,h⟩:=Ac h;refine Fy tt O (Ai O) O O O O O hg10 ?_;obtain ⟨hg11,h⟩:=Ac h;refine Fy tt O (Ai O) O O O O O hg11 ?_;obtain ⟨hg12,h⟩:=Ac h;refine nAppMove tt (Ai O) O O O O O O O O O O O O O O O O O O O O Y hg12 (Tb ?_);show VO _ _ _ _ _;refine Fz (Ai O) (Df Cv O O) O O (Ao tt O O O O O O O O O O O ⟨Y,Y,Y⟩ (Aa O (Af (Bg ?_))));show ∃ _,_;cases h;exact ⟨[35],_,O,⟨O,Y⟩,O,.eq O,O⟩
end
section
variable {N:Nat}
def lessL {α:Type} (l:List α) (k:Nat):List α:=l.take k++l.drop (k+1)
end
section
open Go.RowKit
variable {n:Nat} {N:Nat}
theorem Jj {α:Type} [DecidableEq α]:∀ {I L:List α},I.Nodup→(∀ e∈I,e∈L)→I.length≤L.length
 | [],L,_,_=>by simp
 | e::I,L,h,hm=>by
  have h1:=List.nodup_cons.1 h;have he:=hm e (by simp)
  have h2:=Jj (I:=I) (L:=L.erase e) h1.2 fun x hx=>by
   have hne:x≠e:=fun hc=>h1.1 (by rw [←hc]; exact hx);exact (List.mem_erase_of_ne hne).2 (hm x (by simp [hx]))
  rw [List.length_erase_of_mem he] at h2;have:0<L.length:=List.length_pos_of_mem he;simp only [List.length_cons]; omega
theorem Spr.sub {I J:List (Int×Int)} (h:Spr n I) (hs:J.Sublist I):Spr n J:=fun X hX=>by
 have h1:YtaipbhnpandbkaaGreat.spn X J≤YtaipbhnpandbkaaGreat.spn X I:=hs.countP_le;have:=h X (by omega);omega
theorem Spr.nodup:∀ {I:List (Int×Int)},Spr n I→(∀ e∈I,Bok n e)→I.Nodup
 | [],_,_=>List.nodup_nil
 | e::I,h,ok=>by
  refine List.nodup_cons.2 ⟨fun hm=>?_,Spr.nodup (h.sub (List.sublist_cons_self _ _)) fun x hx=>ok x (by simp [hx])⟩;obtain ⟨b1,b2,b3,b4,b5⟩:=ok e (by simp);have h2:=vsz_v2 (n:=n) ⟨b1,b2⟩ ⟨b3,b4⟩ b5;have hin:inX (v2 e.1 e.2) e=true:=by simp [inX,v2]
  have h3:2≤YtaipbhnpandbkaaGreat.spn (v2 e.1 e.2) (e::I):=by
   rw [Hq,if_pos hin];have:0<YtaipbhnpandbkaaGreat.spn (v2 e.1 e.2) I:=List.countP_pos_iff.2 ⟨e,hm,hin⟩;omega
  have:=h (v2 e.1 e.2) (by omega);omega
theorem vsz_all:vsz n (fun _=>true)=n:=by simp [vsz]
theorem spn_all (I:List (Int×Int)):spn (fun _=>true) I=I.length:=by simp [spn,inX]
theorem Spr.top {I:List (Int×Int)} (h:Spr n I) (hn:2≤n):I.length+3≤2*n:=by
 by_cases h0:I.length=0
 ·omega
 have:=h (fun _=>true) (by rw [spn_all]; omega);rw [spn_all,vsz_all] at this;exact this
theorem vsz_ge {W:VS} {G:List Int} (hd:G.Nodup) (h:∀ v∈G,(0≤v∧v<n)∧W v=true):G.length≤vsz n W:=by
 have e:vsz n W=(((List.range n).filter fun (i:Nat)=>W (i:Int)).map fun (i:Nat)=>(i:Int)).length:=by
  rw [List.length_map,vsz,List.countP_eq_length_filter]
 rw [e];refine Jj hd fun v hv=>?_;obtain ⟨⟨h1,h2⟩,h3⟩:=h v hv;refine List.mem_map.2 ⟨v.toNat,List.mem_filter.2 ⟨List.mem_range.2 (by omega),?_⟩,by omega⟩;rw [show ((v.toNat:Nat):Int)=v by omega]; exact h3
theorem le_anti {a b:Int×Int} (h1:Ee a b=true) (h2:Ee b a=true):a=b:=by
 simp only [Ee,Bool.or_eq_true,Bool.and_eq_true,decide_eq_true_eq,beq_iff_eq] at h1 h2;exact Prod.ext (by omega) (by omega)
theorem graph_le {g:Grf} (h:Bd g=true):∀ d i,i+d+1<g.bars.length→Ee (g.bars.getD i (0,0)) (g.bars.getD (i+d+1) (0,0))=true:=by
 have hp:=(As h).2.2
 have ad:∀ i,i+1<g.bars.length→Ee (g.bars.getD i (0,0)) (g.bars.getD (i+1) (0,0))=true:=by
  intro i hi;have:=hp (i+1) hi;simp only [Xo,Bool.and_eq_true,Bool.or_eq_true,decide_eq_true_eq,Nat.add_sub_cancel] at this;rcases this.2 with h | h
  ·omega
  exact h
 intro d
 induction d with
 | zero=>intro i hi; exact ad i hi
 | succ d ih=>intro i hi; exact Abm (ih i (by omega)) (ad (i+d+1) (by omega))
theorem Yu {g:Grf} (h:Bd g=true):Srt g.bars:=by
 refine List.pairwise_iff_getElem.2 fun i j hi hj hij=>?_;have:=graph_le h (j-i-1) i (by omega);rw [show i+(j-i-1)+1=j by omega] at this;simpa [List.getD_eq_getElem?_getD,hi,hj] using this
theorem graph_nodup {g:Grf} (h:Bd g=true) (hd:Rb g.bars=false):g.bars.Nodup:=by
 refine List.pairwise_iff_getElem.2 fun i j hi hj hij he=>?_;have h1:=(List.pairwise_iff_getElem.1 (Yu h))
 have hdj:Jt g.bars j=false:=by
  simp only [Rb,List.any_eq_false,List.mem_range] at hd;simpa using hd j hj
 have e1:g.bars.getD (j-1) (0,0)=g.bars[j-1]:=by simp [List.getD_eq_getElem?_getD,show j-1<g.bars.length by omega]
 have e2:g.bars.getD j (0,0)=g.bars[j]:=by simp [List.getD_eq_getElem?_getD,hj]
 have hle:Ee g.bars[j-1] g.bars[j]=true:=h1 (j-1) j (by omega) hj (by omega)
 have hge:Ee g.bars[j] g.bars[j-1]=true:=by
  rw [←he];by_cases hc:i=j-1
  ·subst hc; simp [Ee]
  exact h1 i (j-1) hi (by omega) (by omega)
 have:=le_anti hle hge
 have h0:(decide (0<j)&&(g.bars.getD (j-1) (0,0)==g.bars.getD j (0,0)))=true:=by
  rw [e1,e2,this]; simp; omega
 rw [Jt,h0] at hdj;cases hdj
theorem lessL_sub {α:Type} (l:List α) (k:Nat):(lessL l k).Sublist l:=by
 have h:(l.take k++l.drop (k+1)).Sublist (l.take k++l.drop k):=(List.Sublist.refl _).append (by
  rw [show k+1=k+1 from rfl,←List.drop_drop]; exact List.drop_sublist _ _)
 rwa [List.take_append_drop] at h
end
section
variable {n:Nat}
theorem vsz_one {v:Int} (hv:0≤v∧v<n):vsz n (fun u=>u==v)=1:=by
 have e:∀ i:Nat,((i:Int)==v)=(i==v.toNat):=fun i=>by
  rw [Bool.eq_iff_iff,beq_iff_eq,beq_iff_eq]; omega
 show (List.range n).countP (fun (i:Nat)=>((i:Int)==v))=1;simp only [e];have h:=List.nodup_range (n:=n);have:=h.count (a:=v.toNat);rw [if_pos (List.mem_range.2 (by omega))] at this;exact this
theorem vsz_del {X:VS} {v:Int} (hv:0≤v∧v<n) (h:X v=true):vsz n X=vsz n (fun u=>X u&&u != v)+1:=by
 have a:=vsz_UI n (fun u=>X u&&u != v) (fun u=>u==v)
 have e1:vU (fun u=>X u&&u != v) (fun u=>u==v)=X:=by
  funext u;show (X u&&u != v || u==v)=X u;by_cases e:u=v
  ·subst e; simp [h]
  have b1:(u==v)=false:=by simpa using e
  have b2:(u != v)=true:=by simpa using e
  rw [b1,b2]; simp
 have e2:vI (fun u=>X u&&u != v) (fun u=>u==v)=fun _=>false:=by
  funext u;show (X u&&u != v&&u==v)=false;by_cases e:u=v
  ·subst e; simp
  have b1:(u==v)=false:=by simpa using e
  rw [b1,Bool.and_false]
 have e3:vsz n (fun _=>false)=0:=by unfold vsz; simp
 rw [e1,e2,e3,vsz_one hv] at a;omega
def brr (a b:Int):Int×Int:=(min a b,max a b)
theorem brr_comm (a b:Int):brr a b=brr b a:=by unfold brr; rw [Int.min_comm,Int.max_comm]
theorem brr_in {X:VS} {a b:Int}:inX X (brr a b)=(X a&&X b):=by
 unfold inX brr;simp only;rcases Int.le_total a b with h | h
 ·rw [Int.min_eq_left h,Int.max_eq_right h]
 rw [Int.min_eq_right h,Int.max_eq_left h,Bool.and_comm]
theorem Aa7 {a b c d:Int} (h:brr a b=brr c d):(a=c∧b=d)∨(a=d∧b=c):=by
 unfold brr at h;have h1:=congrArg Prod.fst h;have h2:=congrArg Prod.snd h;simp only at h1 h2;omega
theorem spr_join {J:List (Int×Int)} (hJ:Spr n J) {v a b:Int} (hv:0≤v∧v<n) (ha:0≤a∧a<n) (hb:0≤b∧b<n) (hav:a≠v) (hbv:b≠v) (hab:a≠b) (hf:∀ e∈J,e.1≠v∧e.2≠v):Spr n (J++[brr v a,brr v b]):=by
 intro X h
 have e:spn X (J++[brr v a,brr v b])=spn X J+((if (X v&&X a)=true then 1 else 0)+(if (X v&&X b)=true then 1 else 0)):=by
  rw [Yw,Hq,Hq,brr_in,brr_in];simp only [spn,List.countP_nil];omega
 rw [e] at h ⊢
 cases hX:X v with
 | false=>
  simp only [hX,Bool.false_and] at h ⊢;simp at h ⊢;exact hJ X h
 | true=>
  have hd:=vsz_del hv hX
  have es:spn X J=spn (fun u=>X u&&u != v) J:=by
   unfold spn;refine List.countP_congr fun x hx=>?_;have:=hf x hx;simp [inX,this.1,this.2]
  have hs:=hJ (fun u=>X u&&u != v);rw [←es] at hs;have c2:X a=true→X b=true→2≤vsz n (fun u=>X u&&u != v):=fun h1 h2=>Lg ha hb hab (by simp [h1,hav]) (by simp [h2,hbv]);have c1:∀ x,0≤x∧x<(n:Int)→x≠v→X x=true→2≤vsz n X:=fun x hx hxv h1=>Lg hx hv hxv h1 hX;simp only [hX,Bool.true_and] at h ⊢;cases h1:X a <;> cases h2:X b <;> simp only [h1,h2] at h ⊢
  ·simp at h ⊢; have:=hs h; omega
  ·have:=c1 b hb hbv h2;simp at h ⊢;by_cases h0:0<spn X J
   ·have:=hs h0; omega
   omega
  ·have:=c1 a ha hav h1;simp at h ⊢;by_cases h0:0<spn X J
   ·have:=hs h0; omega
   omega
  have:=c2 h1 h2;simp at h ⊢;by_cases h0:0<spn X J
  ·have:=hs h0; omega
  omega
theorem spr_tri {a b c:Int} (ha:0≤a∧a<n) (hb:0≤b∧b<n) (hc:0≤c∧c<n) (hab:a≠b) (hac:a≠c) (hbc:b≠c):Spr n ([brr a b]++[brr c a,brr c b]):=by
 refine spr_join (fun X h=>?_) hc ha hb hac hbc hab fun e he=>?_
 ·have:inX X (brr a b)=true:=by
   have:=List.countP_pos_iff.1 h;simpa using this
  rw [brr_in,Bool.and_eq_true] at this;have h2:=Lg ha hb hab this.1 this.2;have:spn X [brr a b]≤1:=List.countP_le_length;show spn X [brr a b]+3≤2*vsz n X;omega
 simp at he;subst he;unfold brr;simp only;omega
def adj (E:List (Int×Int)) (a b:Int):Prop:=brr a b∈E
theorem adj.symm {E:List (Int×Int)} {a b:Int} (h:adj E a b):adj E b a:=by unfold adj; rw [brr_comm]; exact h
inductive Glo (n:Nat) (E:List (Int×Int)):List Int→Prop
 | tri {a b c:Int}:(0≤a∧a<n)→(0≤b∧b<n)→(0≤c∧c<n)→a≠b→a≠c→b≠c→adj E a b→adj E a c→adj E b c→Glo n E [a,b,c]
 | add {P:List Int} {v x y z:Int}:Glo n E P→(0≤v∧v<n)→v∉P→x∈P→y∈P→z∈P→x≠y→x≠z→y≠z→adj E v x→adj E v y→adj E v z→Glo n E (v::P)
def Rig (n:Nat) (E:List (Int×Int)) (P:List Int) (no:Int×Int):Prop:=∃ J,Spr n J∧(∀ e∈J,e∈E∧e.1∈P∧e.2∈P∧e≠no)∧J.length+3=2*P.length
theorem Glo.rg {E:List (Int×Int)} {P:List Int} (h:Glo n E P):∀ v∈P,0≤v∧v<n:=by
 induction h with
 | tri h1 h2 h3=>intro v hv; simp at hv; rcases hv with rfl | rfl | rfl <;> assumption
 | add _ h1 _ _ _ _ _ _ _ _ _ _ ih=>
  intro u hu;rcases List.mem_cons.1 hu with rfl | hu
  ·exact h1
  exact ih u hu
theorem Glo.nd {E:List (Int×Int)} {P:List Int} (h:Glo n E P):P.Nodup:=by
 induction h with
 | tri _ _ _ h1 h2 h3=>simp [h1,h2,h3]
 | add _ _ h1 _ _ _ _ _ _ _ _ _ ih=>exact List.nodup_cons.2 ⟨h1,ih⟩
theorem Glo.ge {E:List (Int×Int)} {P:List Int} (h:Glo n E P):3≤P.length:=by
 induction h with
 | tri=>simp
 | add _ _ _ _ _ _ _ _ _ _ _ _ ih=>simp; omega
theorem Ys {a b:Int} {P:List Int} (ha:a∈P) (hb:b∈P):(brr a b).1∈P∧(brr a b).2∈P:=by
 unfold brr;simp only;rcases Int.le_total a b with h | h
 ·rw [Int.min_eq_left h,Int.max_eq_right h]; exact ⟨ha,hb⟩
 rw [Int.min_eq_right h,Int.max_eq_left h]; exact ⟨hb,ha⟩
theorem Rig.add {E:List (Int×Int)} {P:List Int} {no:Int×Int} (h:Rig n E P no) (hr:∀ v∈P,0≤v∧v<(n:Int)) {v x y:Int} (hv:0≤v∧v<n) (hn:v∉P) (hx:x∈P) (hy:y∈P) (hxy:x≠y) (a1:adj E v x) (a2:adj E v y) (n1:brr v x≠no) (n2:brr v y≠no):Rig n E (v::P) no:=by
 obtain ⟨J,h1,h2,h3⟩:=h;have hvx:x≠v:=fun e=>hn (e ▸ hx);have hvy:y≠v:=fun e=>hn (e ▸ hy);refine ⟨J++[brr v x,brr v y],spr_join h1 hv (hr x hx) (hr y hy) hvx hvy hxy fun e he=>?_,fun e he=>?_,by simp; omega⟩
 ·obtain ⟨_,b1,b2,_⟩:=h2 e he;exact ⟨fun q=>hn (q ▸ b1),fun q=>hn (q ▸ b2)⟩
 rcases List.mem_append.1 he with he | he
 ·obtain ⟨b0,b1,b2,b3⟩:=h2 e he;exact ⟨b0,List.mem_cons_of_mem _ b1,List.mem_cons_of_mem _ b2,b3⟩
 have m1:=Ys (a:=v) (b:=x) (P:=v::P) (by simp) (by simp [hx]);have m2:=Ys (a:=v) (b:=y) (P:=v::P) (by simp) (by simp [hy]);simp at he;rcases he with rfl | rfl
 ·exact ⟨a1,m1.1,m1.2,n1⟩
 exact ⟨a2,m2.1,m2.2,n2⟩
theorem rig_tri {E:List (Int×Int)} {no:Int×Int} {a b c:Int} (ha:0≤a∧a<n) (hb:0≤b∧b<n) (hc:0≤c∧c<n) (hab:a≠b) (hac:a≠c) (hbc:b≠c) (h1:adj E a b) (h2:adj E a c) (h3:adj E b c) (n1:brr a b≠no) (n2:brr a c≠no) (n3:brr b c≠no):Rig n E [a,b,c] no:=by
 refine ⟨_,spr_tri ha hb hc hab hac hbc,fun e he=>?_,by simp⟩;have m1:=Ys (a:=a) (b:=b) (P:=[a,b,c]) (by simp) (by simp);have m2:=Ys (a:=c) (b:=a) (P:=[a,b,c]) (by simp) (by simp);have m3:=Ys (a:=c) (b:=b) (P:=[a,b,c]) (by simp) (by simp);simp at he;rcases he with rfl | rfl | rfl
 ·exact ⟨h1,m1.1,m1.2,n1⟩
 ·exact ⟨h2.symm,m2.1,m2.2,by rw [brr_comm]; exact n2⟩
 exact ⟨h3.symm,m3.1,m3.2,by rw [brr_comm]; exact n3⟩
theorem Rig.perm {E:List (Int×Int)} {P Q:List Int} {no:Int×Int} (h:Rig n E P no) (hm:∀ v∈P,v∈Q) (hl:P.length=Q.length):Rig n E Q no:=by
 obtain ⟨J,h1,h2,h3⟩:=h;exact ⟨J,h1,fun e he=>by obtain ⟨b0,b1,b2,b3⟩:=h2 e he; exact ⟨b0,hm _ b1,hm _ b2,b3⟩,by omega⟩
theorem rig_four {E:List (Int×Int)} {p q r s:Int} (hp:0≤p∧p<n) (hq:0≤q∧q<n) (hr:0≤r∧r<n) (hs:0≤s∧s<n) (pq:p≠q) (pr:p≠r) (ps:p≠s) (qr:q≠r) (qs:q≠s) (rs:r≠s) (a1:adj E p r) (a2:adj E p s) (a3:adj E r s) (a4:adj E q r) (a5:adj E q s):Rig n E [q,p,r,s] (brr p q):=by
 have ne:∀ {a b:Int},¬ ((a=p∧b=q)∨(a=q∧b=p))→brr a b≠brr p q:=fun h e=>h (Aa7 e);refine Rig.add (P:=[p,r,s]) (x:=r) (y:=s) (rig_tri hp hr hs pr ps rs a1 a2 a3 (ne (by omega)) (ne (by omega)) (ne (by omega))) (fun v hv=>by simp at hv; rcases hv with rfl | rfl | rfl <;> assumption) hq (by simp; omega) (by simp) (by simp) rs a4 a5 (ne (by omega)) (ne (by omega))
theorem rig_tri4 {E:List (Int×Int)} {v a b c:Int} (hv:0≤v∧v<n) (ha:0≤a∧a<n) (hb:0≤b∧b<n) (hc:0≤c∧c<n) (va:v≠a) (vb:v≠b) (vc:v≠c) (ab:a≠b) (ac:a≠c) (bc:b≠c) (mab:adj E a b) (mac:adj E a c) (mbc:adj E b c) (mva:adj E v a) (mvb:adj E v b) (mvc:adj E v c) (no:Int×Int):Rig n E [v,a,b,c] no:=by
 by_cases e1:brr a b=no
 ·subst e1;exact (rig_four ha hb hc hv ab ac va.symm bc vb.symm vc.symm mac mva.symm mvc.symm mbc mvb.symm).perm (by simp) O
 by_cases e2:brr a c=no
 ·subst e2;exact (rig_four ha hc hb hv ac ab va.symm bc.symm vc.symm vb.symm mab mva.symm mvb.symm mbc.symm mvc.symm).perm (by simp) O
 by_cases e3:brr b c=no
 ·subst e3;exact (rig_four hb hc ha hv bc ab.symm vb.symm ac.symm vc.symm va.symm mab.symm mvb.symm mva.symm mac.symm mvc.symm).perm (by simp) O
 have ht:=rig_tri ha hb hc ab ac bc mab mac mbc e1 e2 e3
 have hr:∀ u∈[a,b,c],0≤u∧u<(n:Int):=fun u hu=>by
  simp only [List.mem_cons,List.not_mem_nil,or_false] at hu;rcases hu with rfl | rfl | rfl <;> assumption
 have hn:v∉[a,b,c]:=by simp [va,vb,vc]
 by_cases f1:brr v a=no
 ·exact ht.add hr hv hn (by simp) (by simp) bc mvb mvc (fun e=>by have:=Aa7 (e.trans f1.symm); omega) (fun e=>by have:=Aa7 (e.trans f1.symm); omega)
 by_cases f2:brr v b=no
 ·exact ht.add hr hv hn (by simp) (by simp) ac mva mvc f1 (fun e=>by have:=Aa7 (e.trans f2.symm); omega)
 exact ht.add hr hv hn (by simp) (by simp) ab mva mvb f1 f2
theorem three_all {a b c x y z u:Int} (hx:x=a∨x=b∨x=c) (hy:y=a∨y=b∨y=c) (hz:z=a∨z=b∨z=c) (xy:x≠y) (xz:x≠z) (yz:y≠z) (hu:u=a∨u=b∨u=c):u=x∨u=y∨u=z:=by
 rcases hu with rfl | rfl | rfl <;> omega
theorem Glo.rig {E:List (Int×Int)} {P:List Int} (h:Glo n E P):∀ no:Int×Int,(P.length=3→∀ x∈P,∀ y∈P,brr x y≠no)→Rig n E P no:=by
 induction h with
 | @tri a b c h1 h2 h3 h4 h5 h6 h7 h8 h9=>
  intro no hno;have hno:=hno (by simp);exact rig_tri h1 h2 h3 h4 h5 h6 h7 h8 h9 (hno a (by simp) b (by simp)) (hno a (by simp) c (by simp)) (hno b (by simp) c (by simp))
 | @add P v x y z hP hv hn hx hy hz hxy hxz hyz a1 a2 a3 ih=>
  intro no _;have hr:=hP.rg;by_cases h3:P.length=3
  ·cases hP with
   | @tri a b c g1 g2 g3 g4 g5 g6 g7 g8 g9=>
    have all:∀ u,u=a∨u=b∨u=c→adj E v u:=fun u hu=>by
     rcases three_all (by simpa using hx) (by simpa using hy) (by simpa using hz) hxy hxz hyz hu with e | e | e
     ·rw [e]; exact a1
     ·rw [e]; exact a2
     rw [e]; exact a3
    have hva:v≠a∧v≠b∧v≠c:=by simpa using hn
    exact rig_tri4 hv g1 g2 g3 hva.1 hva.2.1 hva.2.2 g4 g5 g6 g7 g8 g9 (all a (.inl O)) (all b (.inr (.inl O))) (all c (.inr (.inr O))) no
   | @add P' v' x' y' z' g0=>
    have:=g0.ge;simp at h3; omega
  have hI:Rig n E P no:=ih no fun hl=>absurd hl h3;by_cases e1:brr v x=no
  ·exact hI.add hr hv hn hy hz hyz a2 a3 (fun e=>by have:=Aa7 (e.trans e1.symm); omega) (fun e=>by have:=Aa7 (e.trans e1.symm); omega)
  by_cases e2:brr v y=no
  ·exact hI.add hr hv hn hx hz hxz a1 a3 e1 (fun e=>by have:=Aa7 (e.trans e2.symm); omega)
  exact hI.add hr hv hn hx hy hxy a1 a2 e1 e2
inductive Pth (E:List (Int×Int)) (Q:Int→Prop):Int→Int→Prop
 | self {a:Int}:Q a→Pth E Q a a
 | step {a b c:Int}:Pth E Q a b→Q c→adj E b c→Pth E Q a c
theorem Pth.trans {E:List (Int×Int)} {Q:Int→Prop} {a b c:Int} (h1:Pth E Q a b) (h2:Pth E Q b c):Pth E Q a c:=by
 induction h2 with
 | self=>exact h1
 | step _ h3 h4 ih=>exact ih.step h3 h4
theorem Pth.mono {E:List (Int×Int)} {Q R:Int→Prop} (h:∀ x,Q x→R x) {a b:Int} (hp:Pth E Q a b):Pth E R a b:=by
 induction hp with
 | self h1=>exact .self (h _ h1)
 | step _ h3 h4 ih=>exact ih.step (h _ h3) h4
theorem Glo.conn {E:List (Int×Int)} {P:List Int} (h:Glo n E P) {C:Int→Bool}:(∀ x y z,x∈P→y∈P→z∈P→x≠y→x≠z→y≠z→C x=true→C y=true→C z=true→False)→∀ u w,u∈P→C u=false→w∈P→C w=false→Pth E (fun x=>x∈P∧C x=false) u w:=by
 induction h with
 | @tri a b c h1 h2 h3 h4 h5 h6 h7 h8 h9=>
  intro _ u w hu cu hw cw;by_cases e:u=w
  ·subst e; exact .self ⟨hu,cu⟩
  refine (Pth.self ⟨hu,cu⟩).step ⟨hw,cw⟩ ?_;simp at hu hw;rcases hu with rfl | rfl | rfl <;> rcases hw with rfl | rfl | rfl <;> first | exact absurd rfl e | assumption | exact adj.symm ‹_›
 | @add P v x y z hP hv hn hx hy hz hxy hxz hyz a1 a2 a3 ih=>
  intro hC;have ih:=ih fun x y z hx hy hz=>hC x y z (List.mem_cons_of_mem _ hx) (List.mem_cons_of_mem _ hy) (List.mem_cons_of_mem _ hz);have old:∀ u w,u∈P→C u=false→w∈P→C w=false→Pth E (fun x=>x∈v::P∧C x=false) u w:=fun u w a b c d=>(ih u w a b c d).mono fun x hx=>⟨List.mem_cons_of_mem _ hx.1,hx.2⟩
  have one:∃ u,u∈P∧C u=false∧adj E v u:=by
   cases cx:C x with
   | false=>exact ⟨x,hx,cx,a1⟩
   | true=>
    cases cy:C y with
    | false=>exact ⟨y,hy,cy,a2⟩
    | true=>
     cases cz:C z with
     | false=>exact ⟨z,hz,cz,a3⟩
     | true=>exact (hC x y z (List.mem_cons_of_mem _ hx) (List.mem_cons_of_mem _ hy) (List.mem_cons_of_mem _ hz) hxy hxz hyz cx cy cz).elim
  obtain ⟨t,t1,t2,t3⟩:=one;intro u w hu cu hw cw;rcases List.mem_cons.1 hu with e1 | u1
  ·rcases List.mem_cons.1 hw with e2 | w1
   ·rw [e1,e2]; exact .self ⟨by simp,e1 ▸ cu⟩
   rw [e1]; exact (((Pth.self ⟨by simp,e1 ▸ cu⟩).step ⟨List.mem_cons_of_mem _ t1,t2⟩ t3)).trans (old t w t1 t2 w1 cw)
  rcases List.mem_cons.1 hw with e2 | w1
  ·rw [e2]; exact (old u t u1 cu t1 t2).step ⟨by simp,e2 ▸ cw⟩ t3.symm
  exact old u w u1 cu w1 cw
end
section
open Go.RowKit Go.Deep
section
variable {C:Cx} {ops:Array Oper} {K:PS→Prop} {l:List Oper} {s s':PS} {TT:List (Nat×Ty)} {tm:List (Nat×D)} {rw':List (Nat×Option (TypeId×Sq))} {bx:List (Nat×Option (List D))}
theorem vEnO (hl:En C s s') (h:VO C ops K l s'):VO C ops K l s:=⟨fun M a w Q hr hk=>by
 obtain ⟨M',h'⟩:=hl.out M a w hr
 exact h.out M' a w Q h' hk⟩
theorem oRowT (t r:Nat) {n n':Nat} (hn:n=n') (ht:(PS.t ⟨tm,rw',bx⟩ t)=.row r 0 n) (h:VO C ops K l ⟨(t,.row r 0 n')::tm,rw',bx⟩):VO C ops K l ⟨tm,rw',bx⟩:=by
 subst hn;refine vEnO (s':=⟨(t,.row r 0 n)::tm,rw',bx⟩) ⟨fun M a w hr=>⟨M,hr.sameT (fun x=>?_) O O⟩⟩ h;by_cases hx:t=x
 ·subst hx;rw [ht]; simp [PS.t,At]
 simp [PS.t,Au hx]
end
section
end
section
variable {C:Cx} {ops:Array Oper} {K:PS→Prop} {l:List Oper} {s s':PS} {TT:List (Nat×Ty)} {tm:List (Nat×D)} {rw':List (Nat×Option (TypeId×Sq))} {bx:List (Nat×Option (List D))}
variable {o:Oper} {rest:List Oper} {rk rids bk bids pids:List Nat}
theorem oMCloX {f:FuncId} {x:Operand} {args:Array Operand} {ts:Array TypeId} {bs:List Nat} {r0 r1:List (TypeId×Sq)} {b0 b1:List (List D)} {d:D} (cs:List Nat) (ds:List D) (hp:MCall C.P f (ds++cs.map fun b=>.ptr b 0) rk bk r0 r1 b0 b1 d) (rids bids pids:List Nat) (hg:o.guard=none) (hop:o.op=.call { callee:=.value x,args:=args,argTypes:=ts })
  (hx:(PS.ev ⟨tm,rw',bx⟩ x)=.clo f bs) (hcs:cs.map (sgm bk bids)=bs) (hin:cs.all (Lc bk)=true) (hn:Me C.n o.dst=true)
  (hchk:mchk rk rids bk bids pids=true) (hf:frB ⟨tm,rw',bx⟩ noB (newP rids pids)=true)
  (hnf:nf ((PS.after ⟨tm,rw',bx⟩ rids pids r1 bids (b1.map fun cs=>cs.map (renS (sgm bk bids) (sgm rk pids)))).put o.dst (ren (sgm bk bids) (sgm rk pids) d))=some s')
  (hr:Ho (PS.r ⟨tm,rw',bx⟩) rids r0) (hb:Ho (PS.b ⟨tm,rw',bx⟩) bids (b0.map fun cs=>cs.map (renS (sgm bk bids) (sgm rk rids)))) (hfit:Acu rk rids bk bids ⟨tm,rw',bx⟩ args.toList ds) (h:VO C ops K rest s') (hrf:rfB ⟨tm,rw',bx⟩ rids=true:=by rfl):VO C ops K (o::rest) ⟨tm,rw',bx⟩:=
 vOp hg (sMClo hop hx hp hcs hin hn hchk hrf (Mz hf) hr hb hfit (vNf hnf h))
end
section
end
section
variable {C:Cx} {ops:Array Oper} {K:PS→Prop} {o:Oper} {rest:List Oper} {s s':PS} {TT:List (Nat×Ty)} {tm:List (Nat×D)} {rw':List (Nat×Option (TypeId×Sq))} {bx:List (Nat×Option (List D))} {cr B:List Nat} {j:Nat}
end
end
section
open Go.RowKit Go.Deep
def klXS (r:Nat):D→D
 | .row x o n=>match (Nat.beq x r || !Kg x) with | true=>.dead | false=>.row x o n
 | .eptr x i o=>match (Nat.beq x r || !Kg x) with | true=>.dead | false=>.eptr x i o
 | .agg _ | .tup _ | .irow _ _ _ | .iptr _ _ _ _=>.dead
 | d=>d
def klXA (r:Nat):D→D
 | .agg l=>.agg (l.map (klXS r))
 | d=>klXS r d
def klX (r:Nat):D→D
 | .tup l=>.tup (l.map (klXA r))
 | d=>klXA r d
def PS.killX (s:PS) (r:Nat):PS:=⟨s.tmp.map fun p=>(p.1,klX r p.2),s.row,s.box.map fun p=>(p.1,p.2.map fun cs=>cs.map (klXS r))⟩
section
variable {M M':Mp} {A A':Bool→Nat→Prop} {w w':World} {r:Nat} {s:PS}
theorem VR.klXS (hA:∀ f b,b<w.heap.size→A f b→A' f b∧b<w'.heap.size∧w'.heap[b]? = w.heap[b]?) (hγ:∀ x y,x≠r→Kg x=true→M'.γ x=some y→M.γ x=some y) (hβ:∀ b k,M'.β b=some k→M.β b=some k)
  {d:D} {v:Value} (h:VR M A w d v):VR M' A' w' (klXS r d) v:=by
 cases h with
 | dead v=>exact .dead v
 | int n=>exact .int n
 | bool b=>exact .bool b
 | val v h=>exact .val v h
 | nil ao=>exact .nil ao
 | ro f q ao cap b o u hn hc hao hu hv=>exact VR.ro_any (.ro f q ao cap b o u hn hc hao hu hv) hA
 | row x off n v h1 h=>
  simp only [YtaipbhnpandbkaaGreat.klXS];split
  ·exact .dead _
  rename_i hx;rw [Bool.or_eq_false_iff] at hx;exact .row _ off n v h1 fun y hy=>h y (hγ _ y (fun e=>by subst e; rw [Nat.beq_refl] at hx; cases hx.1) (by simpa using hx.2) hy)
 | ptr b off v h1 h=>exact .ptr _ off v h1 fun k hk=>h k (hβ b k hk)
 | eptr x i off v h=>
  simp only [YtaipbhnpandbkaaGreat.klXS];split
  ·exact .dead _
  rename_i hx;rw [Bool.or_eq_false_iff] at hx;exact .eptr _ i off v fun g c z hg=>h g c z (hγ _ _ (fun e=>by subst e; rw [Nat.beq_refl] at hx; cases hx.1) (by simpa using hx.2) hg)
 | rptr f q i off b o u hb hA' hu hv=>exact VR.rptr_any (.rptr f q i off b o u hb hA' hu hv) hA
 | agg l us hl h=>exact .dead _
 | tup l us hl h=>exact .dead _
 | clo f bs v h1 h=>exact .clo f bs v h1 fun ks hk=>h ks (Rc (fun b _=>hβ b) hk)
 | map k l es clock h hl hk=>obtain ⟨a1,a2,a3⟩:=hA _ k (Th h) hk; exact .map k l es clock (a3.trans h) hl a1
 | any v h1=>exact .any v h1
 | irow F k n v h1 h=>exact .dead _
 | iptr F k i off v h=>exact .dead _
 | fam te q v=>exact .fam te q v
theorem VR.klXA (hA:∀ f b,b<w.heap.size→A f b→A' f b∧b<w'.heap.size∧w'.heap[b]? = w.heap[b]?) (hγ:∀ x y,x≠r→Kg x=true→M'.γ x=some y→M.γ x=some y) (hβ:∀ b k,M'.β b=some k→M.β b=some k)
  {d:D} {v:Value} (h:VR M A w d v):VR M' A' w' (klXA r d) v:=by
 cases d with
 | agg l=>
  cases h with | agg _ us hl h=>
  refine .agg _ us (by simpa using hl) fun i d hd=>?_;rw [List.getElem?_map] at hd;obtain ⟨d0,h0,rfl⟩:=Option.map_eq_some_iff.1 hd;exact (h i d0 h0).klXS hA hγ hβ
 | _=>exact VR.klXS hA hγ hβ h
theorem VR.klX (hA:∀ f b,b<w.heap.size→A f b→A' f b∧b<w'.heap.size∧w'.heap[b]? = w.heap[b]?) (hγ:∀ x y,x≠r→Kg x=true→M'.γ x=some y→M.γ x=some y) (hβ:∀ b k,M'.β b=some k→M.β b=some k)
  {d:D} {v:Value} (h:VR M A w d v):VR M' A' w' (klX r d) v:=by
 cases d with
 | tup l=>
  cases h with | tup _ us hl h=>
  refine .tup _ us (by simpa using hl) fun i d hd=>?_;rw [List.getElem?_map] at hd;obtain ⟨d0,h0,rfl⟩:=Option.map_eq_some_iff.1 hd;exact (h i d0 h0).klXA hA hγ hβ
 | _=>exact VR.klXA hA hγ hβ h
theorem PS.t_killX (s:PS) (r t:Nat):(s.killX r).t t=klX r (s.t t):=by
 unfold PS.t PS.killX;simp only [Aam (klX r)];cases Bw s.tmp t <;> rfl
theorem PS.b_killX (s:PS) (r b:Nat):(s.killX r).b b=(s.b b).map fun cs=>cs.map (klXS r):=by
 unfold PS.b PS.killX;simp only [Aam (fun (x:Option (List D))=>x.map fun cs=>cs.map (YtaipbhnpandbkaaGreat.klXS r))];cases Bw s.box b <;> rfl
end
def lone (s:PS) (R F:Nat):Bool:=s.row.all fun p=>Nat.beq p.1 R || (match s.r p.1 with | some (_,q)=>(match q.refF with | some G=>!Nat.beq G F&&Nat.blt G 4294967296 | none=>true) | none=>true)
theorem Ab1 {s:PS} {R F:Nat} (hl:lone s R F=true) {x:Nat} {e:TypeId} {q:Sq} {G:Nat} (hx:s.r x=some (e,q)) (hG:q.refF=some G):x=R∨(G≠F∧G<4294967296):=by
 cases hb:Nat.ble BIG x with
 | true=>
  rw [PS.r_hi _ hb] at hx;have:=Aau hx;cases q <;> simp [Sq.refF,Sq.isRefs] at hG this
 | false=>
  have hx':=hx;rw [PS.r_lo _ hb] at hx';split at hx'
  ·rename_i y hy;have:=(List.all_eq_true.1 hl) _ (Hp hy);simp only [hx,hG,Bool.or_eq_true,Bool.and_eq_true,Bool.not_eq_true',Nat.blt_eq] at this;rcases this with h1 | ⟨h1,h2⟩
   ·exact .inl (Nat.eq_of_beq_eq_true h1)
   exact .inr ⟨fun e=>(by rw [e,Nat.beq_refl] at h1; cases h1),h2⟩
  cases hx'
section
variable {w0:World} {O0:Hd} {n:Nat} {M:Mp} {s:PS} {a:Act} {w:World}
theorem Rel.remap (h:Rel w0 O0 n M s a w) {M':Mp} {s':PS} (r F:Nat) (hF:F<4294967296) (hβ:∀ b,M'.β b=M.β b) (hsub:∀ x k c z,M'.γ x=some (some (k,c,z))→∃ y,M.γ y=some (some (k,c,z)))
  (hinj:∀ x y k c z c' z',M'.γ x=some (some (k,c,z))→M'.γ y=some (some (k,c',z'))→x=y)
  (hγ':∀ x y,x≠r→Kg x=true→M'.γ x=some y→M.γ x=some y) (hγk:∀ x y,x≠FK+F→Kg x=false→Nat.ble BIG x=false→M'.γ x=some y→M.γ x=some y) (hrr:r<1000000∨M'.γ r=none) (hfk:∀ u u',O0.fr (FK+F)=some u→M'.γ (FK+F)=some u'→u'=u)
  (hbg:∀ G k y,G<4294967296→G≠F→M'.γ (inn G k)=some y→M.γ (inn G k)=some y)
  (ht:∀ t,VR M' (Ow (Fs w0 O0) M') w (s'.t t) (a.tmps.getD t undef)) (hb:∀ b,s'.b b=(s.b b).map fun cs=>cs.map (klXS r))
  (hrow:∀ x e q,s'.r x=some (e,q)→(s.r x=some (e,q)∧M'.γ x=M.γ x∧∀ G,q.refF=some G→G≠F∧G<4294967296)∨RowAt (Fs w0 O0) M' w x e q) (hrown:∀ x,s'.r x=none→M'.γ x=none):Rel w0 O0 n M' s' a w:=by
 have hown:∀ k,M'.owned k→M.owned k:=by
  rintro k (⟨b,hb⟩ | ⟨y,c,z,hy⟩)
  ·exact .inl ⟨b,by rw [←hβ]; exact hb⟩
  obtain ⟨x,hx⟩:=hsub _ _ _ _ hy; exact .inr ⟨x,c,z,hx⟩
 have hA:∀ f b,b<w.heap.size→Ow (Fs w0 O0) M f b→Ow (Fs w0 O0) M' f b∧b<w.heap.size∧w.heap[b]? = w.heap[b]?:=fun f b h1 h2=>⟨⟨fun h3=>h2.1 (hown b h3),h2.2⟩,h1,rfl⟩;refine ⟨h.fr,h.dfr,h.sz,ht,fun b cs hx=>?_,fun b hx=>?_,fun x e q hx=>?_,hrown,fun k hk=>h.low k (hown k hk),fun b b' k h1 h2=>h.inj1 b b' k (by rw [←hβ]; exact h1) (by rw [←hβ]; exact h2),hinj,fun b x k c z h1 h2=>?_,h.nle,fun b k k' h1 h2=>h.fxb b k k' h1 (by rw [←hβ]; exact h2),fun x u u' h1 h2=>?_⟩
 ·rw [hb] at hx;obtain ⟨cs0,h0,rfl⟩:=Option.map_eq_some_iff.1 hx;obtain ⟨k,cur,e2,a1,a2,a3,a4⟩:=h.box b cs0 h0;refine ⟨k,cur,e2,by rw [hβ]; exact a1,a2,by simpa using a3,fun j d hd=>?_⟩;rw [List.getElem?_map] at hd;obtain ⟨d0,h1,rfl⟩:=Option.map_eq_some_iff.1 hd;exact VR.klXS hA hγ' (fun b k hk=>by rw [←hβ]; exact hk) (a4 j d0 h1)
 ·rw [hb] at hx;rw [hβ]; exact h.boxn b (by simpa using hx)
 ·rcases hrow x e q hx with ⟨h1,h2,h3⟩ | h1
  ·rcases h.row x e q h1 with ⟨g1,g2⟩ | ⟨g,cap,cur,g1,g2,g3,g4,g5,g6⟩
   ·exact .inl ⟨h2.trans g1,g2⟩
   refine .inr ⟨g,cap,cur,h2.trans g1,g2,g3,g4,g5,fun i j d hi hd=>(g6 i j d hi hd).relem_any2 hd hA fun G hG k y hy=>?_⟩;exact hbg G k y (h3 G hG).2 (h3 G hG).1 hy
  exact h1
 ·obtain ⟨y,hy⟩:=hsub _ _ _ _ h2;exact h.inj3 _ _ _ _ _ (by rw [←hβ]; exact h1) hy
 obtain ⟨h3,h4⟩:=O0.lor x u h1
 have hb1:Nat.ble BIG x=false:=by
  cases hb:Nat.ble BIG x with
  | false=>rfl
  | true=>have:=Nat.le_of_ble_eq_true hb; omega
 by_cases hxr:x=r
 ·subst hxr;rcases hrr with h5 | h5
  ·omega
  rw [h5] at h2; cases h2
 cases hn:Kg x with
 | true=>exact h.fxr x u u' h1 (hγ' x u' hxr hn h2)
 | false=>
  by_cases hxf:x=FK+F
  ·rw [hxf] at h1 h2; exact hfk u u' h1 h2
  exact h.fxr x u u' h1 (hγk x u' hxf hn hb1 h2)
end
end
section
open Go.RowKit Go.Deep
def Fq.len:Fq→Nat
 | .ints L=>L.length | .pairs L=>L.length | .bools L=>L.length
def Fq.push:Fq→Sq→Option Fq
 | .ints L,.ints c=>some (.ints (L++[some c])) | .pairs L,.pairs c=>some (.pairs (L++[some c])) | .bools L,.bools c=>some (.bools (L++[some c]))
 | _,_=>none
def Fq.hole:Fq→Nat→Fq
 | .ints L,k=>.ints (L.set k none) | .pairs L,k=>.pairs (L.set k none) | .bools L,k=>.bools (L.set k none)
theorem getD_snoc {α:Type} (L:List (Option α)) (c:α) (k:Nat):(L++[some c]).getD k none=if k=L.length then some c else L.getD k none:=by
 by_cases h:k=L.length
 ·subst h; simp
 rw [if_neg h];by_cases h2:k<L.length
 ·simp [List.getElem?_append_left h2]
 have h3:L.length<k:=by omega
 simp [List.getElem?_append_right (show L.length≤k by omega),List.getElem?_eq_none (show L.length≤k by omega),List.getElem?_eq_none (show [some c].length≤k-L.length by simp; omega)]
theorem Fq.get_push {fq fq':Fq} {c:Sq} (h:fq.push c=some fq') (k:Nat):fq'.get k=if k=fq.len then some c else fq.get k:=by
 cases fq <;> cases c <;> simp only [Fq.push,reduceCtorEq,Option.some.injEq] at h <;> subst h <;> simp only [Fq.get,Fq.len,getD_snoc] <;> (rename_i L l; by_cases hk:k=L.length <;> simp [hk])
theorem Fq.get_flat {fq:Fq} {k:Nat} {c:Sq} (h:fq.get k=some c):c.isRefs=false:=by
 cases fq <;> simp only [Fq.get] at h <;> split at h <;> first | (cases h; done) | (cases h; rfl)
theorem Adf {x:Nat} (h:Nat.ble BIG x=true):inn (unF x) (unK x)=x:=by
 have h1:=Nat.le_of_ble_eq_true h;have e:∀ y:Nat,y / 4294967296*4294967296+y % 4294967296 % 4294967296=y:=fun y=>by omega
 have:=e (x-BIG);unfold inn unF unK;rw [this];omega
theorem fam_r {s:PS} {F:Nat} (hF:F<4294967296) {te:TypeId} {fq:Fq} (hf:s.r (FK+F)=some (te,.fam fq)) (i:Nat):s.r (inn F i)=match fq.get i with | some c=>some (te,c) | none=>none:=by
 rw [PS.r_hi _ (Lz F i),PS.inn_r,Abi hF,hf,Tw];rfl
def Ze (M:Mp) (r F:Nat) (fq:Fq) (g:Nat→Nat):Mp:=⟨M.β,fun x=>match Nat.ble BIG x with
 | true=>if unF x=F then (match fq.get (unK x) with | some _=>M.γ (g (unK x)) | none=>none) else M.γ x
 | false=>if x=r then none else M.γ x⟩
theorem famM_hi (M:Mp) (r F:Nat) (fq:Fq) (g:Nat→Nat) {x:Nat} (hb:Nat.ble BIG x=true) (hu:unF x=F):(Ze M r F fq g).γ x=match fq.get (unK x) with | some _=>M.γ (g (unK x)) | none=>none:=by
 simp only [Ze];rw [hb];simp [hu]
theorem famM_hi2 (M:Mp) (r F:Nat) (fq:Fq) (g:Nat→Nat) {x:Nat} (hb:Nat.ble BIG x=true) (hu:unF x≠F):(Ze M r F fq g).γ x=M.γ x:=by
 simp only [Ze];rw [hb];simp [hu]
theorem Yf (M:Mp) (r F:Nat) (fq:Fq) (g:Nat→Nat) (hF:F<4294967296) (k:Nat):(Ze M r F fq g).γ (inn F k)=match fq.get k with | some _=>M.γ (g k) | none=>none:=by
 have:=famM_hi M r F fq g (Lz F k) (by rw [Px,Nat.mod_eq_of_lt hF]);rw [Tw] at this;exact this
theorem famM_inn2 (M:Mp) (r F:Nat) (fq:Fq) (g:Nat→Nat) {G:Nat} (hG:G<4294967296) (hne:G≠F) (k:Nat):(Ze M r F fq g).γ (inn G k)=M.γ (inn G k):=
 famM_hi2 M r F fq g (Lz G k) (by rw [Px,Nat.mod_eq_of_lt hG]; exact hne)
theorem Qn (M:Mp) (r F:Nat) (fq:Fq) (g:Nat→Nat) {x:Nat} (hb:Nat.ble BIG x=false) (hx:x≠r):(Ze M r F fq g).γ x=M.γ x:=by
 simp only [Ze];rw [hb];simp [hx]
theorem famM_r (M:Mp) (r F:Nat) (fq:Fq) (g:Nat→Nat) (hb:Nat.ble BIG r=false):(Ze M r F fq g).γ r=none:=by
 simp only [Ze];rw [hb];simp
theorem VR.irow_mv {M M':Mp} {A A':Bool→Nat→Prop} {w w':World} {F F' k k' n:Nat} {v:Value} (hv:VR M A w (.irow F k n) v) (h:∀ x,M'.γ (inn F' k')=some x→M.γ (inn F k)=some x):VR M' A' w' (.irow F' k' n) v:=by
 cases hv with | irow _ _ _ _ h1 h2=>exact .irow _ _ _ _ h1 fun x hx=>h2 x (h x hx)
theorem VR.irow_of {M M':Mp} {A A':Bool→Nat→Prop} {w w':World} {F' r k' n:Nat} {v:Value} (hv:VR M A w (.row r 0 n) v) (h:∀ x,M'.γ (inn F' k')=some x→M.γ r=some x):VR M' A' w' (.irow F' k' n) v:=by
 cases hv with | row _ _ _ _ h1 h2=>exact .irow _ _ _ _ h1 fun x hx=>h2 x (h x hx)
theorem RowAt.mv {F:Bool→Nat→Prop} {M M':Mp} {w:World} {x y:Nat} {e:TypeId} {q:Sq} (h:RowAt F M w x e q) (hq:q.isRefs=false) (hγ:M'.γ y=M.γ x) (hA:∀ f b,b<w.heap.size→Ow F M f b→Ow F M' f b∧b<w.heap.size∧w.heap[b]? = w.heap[b]?):RowAt F M' w y e q:=by
 rcases h with ⟨g1,g2⟩ | ⟨g,cap,cur,g1,g2,g3,g4,g5,g6⟩
 ·exact .inl ⟨hγ.trans g1,g2⟩
 refine .inr ⟨g,cap,cur,hγ.trans g1,g2,g3,g4,g5,fun i j d hi hd=>?_⟩;have hd':=hd;rw [Sq.relem_eq hq] at hd';exact (g6 i j d hi hd).elem_any hd' hA
section
variable {w0:World} {O0:Hd} {n:Nat} {M:Mp} {s:PS} {a:Act} {w:World}
theorem Rel.refam (h:Rel w0 O0 n M s a w) {s':PS} (r R F:Nat) (hF:F<4294967296) {te:TypeId} {fq fq':Fq} (g:Nat→Nat) {yR:Option (TypeId×Sq)}
  (hr:r<1000000) (hR:Kg R=true) (hrR:r≠R) (hf:s.r (FK+F)=some (te,.fam fq)) (hl:lone s R F=true)
  (hg:∀ k c,fq'.get k=some c→s.r (g k)=some (te,c)) (hinj:∀ k k' c c',fq'.get k=some c→fq'.get k'=some c'→g k=g k'→k=k') (hsrc:∀ k c,fq'.get k=some c→g k=r∨∃ j,g k=inn F j)
  (hs:∀ x,s'.r x=match Nat.ble BIG x with | true=>(if unF x=F then famr (some (some (te,.fam fq'))) (unK x) else s.r x) | false=>if x=r then none else if x=FK+F then some (te,.fam fq') else if x=R then yR else s.r x)
  (hyR:∀ e q,yR=some (e,q)→RowAt (Fs w0 O0) (Ze M r F fq' g) w R e q) (hyn:yR=none→M.γ R=none)
  (ht:∀ t,VR (Ze M r F fq' g) (Ow (Fs w0 O0) (Ze M r F fq' g)) w (s'.t t) (a.tmps.getD t undef)) (hb:∀ b,s'.b b=(s.b b).map fun cs=>cs.map (klXS r)):Rel w0 O0 n (Ze M r F fq' g) s' a w:=by
 have hrb:Nat.ble BIG r=false:=Ew (Gs hr);have hRb:Nat.ble BIG R=false:=Ew hR;have hfr:FK+F≠r:=fun e=>by have:=Gs hr; rw [←e] at this; have h2:=Tj (inn F 0); rw [Abi hF] at h2; rw [h2] at this; cases this
 have hfR:FK+F≠R:=fun e=>by rw [←e] at hR; have h2:=Tj (inn F 0); rw [Abi hF] at h2; rw [h2] at hR; cases hR
 have cases3:∀ x y,(Ze M r F fq' g).γ x=some y→(∃ k c,x=inn F k∧fq'.get k=some c∧M.γ (g k)=some y)∨(M.γ x=some y∧x≠r∧∀ j,x≠inn F j):=fun x y hx=>by
  cases hbx:Nat.ble BIG x with
  | true=>
   by_cases hu:unF x=F
   ·have hxe:x=inn F (unK x):=by rw [←hu]; exact (Adf hbx).symm
    rw [hxe,Yf _ _ _ _ _ hF] at hx;split at hx
    ·rename_i c hc; exact .inl ⟨_,c,hxe,hc,hx⟩
    cases hx
   simp only [Ze,hbx,hu,if_false] at hx;refine .inr ⟨hx,fun e=>(by rw [e,hrb] at hbx; cases hbx),fun j e=>hu (by rw [e,Px,Nat.mod_eq_of_lt hF])⟩
  | false=>
   simp only [Ze,hbx] at hx;split at hx
   ·cases hx
   rename_i hxr;exact .inr ⟨hx,hxr,fun j e=>by rw [e,Lz] at hbx; cases hbx⟩
 have hsub:∀ x k c z,(Ze M r F fq' g).γ x=some (some (k,c,z))→∃ y,M.γ y=some (some (k,c,z)):=fun x k c z hx=>by
  rcases cases3 x _ hx with ⟨_,_,_,_,h1⟩ | ⟨h1,_⟩
  ·exact ⟨_,h1⟩
  exact ⟨_,h1⟩
 have hown:∀ k,(Ze M r F fq' g).owned k→M.owned k:=by
  rintro k (⟨b,hb⟩ | ⟨y,c,z,hy⟩)
  ·exact .inl ⟨b,hb⟩
  obtain ⟨x,hx⟩:=hsub _ _ _ _ hy; exact .inr ⟨x,c,z,hx⟩
 have hA:∀ f b,b<w.heap.size→Ow (Fs w0 O0) M f b→Ow (Fs w0 O0) (Ze M r F fq' g) f b∧b<w.heap.size∧w.heap[b]? = w.heap[b]?:=fun f b h1 h2=>⟨⟨fun h3=>h2.1 (hown b h3),h2.2⟩,h1,rfl⟩;refine h.remap (s':=s') r F hF (fun _=>O) hsub (fun x y k c z c' z' h1 h2=>?_) (fun x y h1 h2 h3=>?_) (fun x y h1 h2 h3 h4=>?_) (.inl hr) (fun u u' h1 h2=>?_) (fun G k y h1 h2 h3=>?_) ht hb (fun x e q hx=>?_) fun x hx=>?_
 ·rcases cases3 x _ h1 with ⟨k1,c1,rfl,g1,g2⟩ | ⟨g1,g2,g3⟩
  ·rcases cases3 y _ h2 with ⟨k2,c2,rfl,g4,g5⟩ | ⟨g4,g5,g6⟩
   ·have:=h.inj2 _ _ _ _ _ _ _ g2 g5;rw [hinj k1 k2 c1 c2 g1 g4 this]
   exfalso;have:=h.inj2 _ _ _ _ _ _ _ g2 g4;rcases hsrc k1 c1 g1 with h5 | ⟨j,h5⟩
   ·exact g5 (by rw [←this,h5])
   exact g6 j (by rw [←this,h5])
  rcases cases3 y _ h2 with ⟨k2,c2,rfl,g4,g5⟩ | ⟨g4,g5,g6⟩
  ·exfalso;have:=h.inj2 _ _ _ _ _ _ _ g1 g5;rcases hsrc k2 c2 g4 with h5 | ⟨j,h5⟩
   ·exact g2 (by rw [this,h5])
   exact g3 j (by rw [this,h5])
  exact h.inj2 _ _ _ _ _ _ _ g1 g4
 ·rw [Qn _ _ _ _ _ (Ew h2) h1] at h3; exact h3
 ·by_cases hxr:x=r
  ·rw [hxr,famM_r _ _ _ _ _ hrb] at h4; cases h4
  rw [Qn _ _ _ _ _ h3 hxr] at h4; exact h4
 ·rw [Qn _ _ _ _ _ (fk_lo hF) hfr] at h2;exact h.fxr _ _ _ h1 h2
 ·rw [famM_inn2 _ _ _ _ _ h1 h2] at h3; exact h3
 ·rw [hs] at hx
  cases hbx:Nat.ble BIG x with
  | true=>
   rw [hbx] at hx;by_cases hu:unF x=F
   ·have hxe:x=inn F (unK x):=by rw [←hu]; exact (Adf hbx).symm
    simp only [hu,if_true,famr] at hx;split at hx
    ·rename_i c hc;cases hx;right;have h1:=h.row _ _ _ (hg _ _ hc);refine h1.mv (Fq.get_flat hc) ?_ hA;rw [hxe,Yf _ _ _ _ _ hF,Tw,hc]
    cases hx
   simp only [hu,if_false] at hx;refine .inl ⟨hx,by simp only [Ze,hbx,hu,if_false],fun G hG=>?_⟩;rcases Ab1 hl hx hG with h1 | h1
   ·rw [h1,hRb] at hbx; cases hbx
   exact h1
  | false=>
   rw [hbx] at hx;simp only at hx;split at hx
   ·cases hx
   rename_i hxr;split at hx
   ·rename_i hxf;cases hx;right;rcases h.row _ _ _ hf with ⟨g1,g2⟩ | ⟨gg,cap,cur,g1,g2,g3,g4,g5,g6⟩
    ·exact .inl ⟨by rw [hxf,Qn _ _ _ _ _ (fk_lo hF) hfr]; exact g1,O⟩
    exact .inr ⟨gg,cap,cur,by rw [hxf,Qn _ _ _ _ _ (fk_lo hF) hfr]; exact g1,g2,Nat.zero_le _,g4,g5,fun i j d hi hd=>absurd hi (Nat.not_lt_zero _)⟩
   rename_i hxf;split at hx
   ·rename_i hxR;right;rw [hxR]; exact hyR e q hx
   rename_i hxR;refine .inl ⟨hx,Qn _ _ _ _ _ hbx hxr,fun G hG=>?_⟩;rcases Ab1 hl hx hG with h1 | h1
   ·exact absurd h1 hxR
   exact h1
 rw [hs] at hx
 cases hbx:Nat.ble BIG x with
 | true=>
  rw [hbx] at hx;by_cases hu:unF x=F
  ·have hxe:x=inn F (unK x):=by rw [←hu]; exact (Adf hbx).symm
   simp only [hu,if_true,famr] at hx;rw [hxe,Yf _ _ _ _ _ hF];split at hx
   ·cases hx
   rename_i hc; rw [hc]
  simp only [hu,if_false] at hx;simp only [Ze,hbx,hu,if_false];exact h.rown x hx
 | false=>
  rw [hbx] at hx;simp only at hx;split at hx
  ·rename_i hxr; rw [hxr]; exact famM_r _ _ _ _ _ hrb
  rename_i hxr;split at hx
  ·cases hx
  rename_i hxf;split at hx
  ·rename_i hxR;rw [hxR,Qn _ _ _ _ _ hRb (Ne.symm hrR)]; exact hyn hx
  rename_i hxR;rw [Qn _ _ _ _ _ hbx hxr]; exact h.rown x hx
end
end
section
open Go.RowKit Go.Deep
theorem PS.r_app {s s':PS} {l:List (Nat×Option (TypeId×Sq))} (h:s'.row=l++s.row) (x:Nat):s'.r x=match Nat.ble BIG x with | true=>(match Bw l (FK+unF x) with | some y=>famr (some y) (unK x) | none=>s.r x) | false=>(match Bw l x with | some y=>y | none=>s.r x):=by
 cases hb:Nat.ble BIG x with
 | true=>
  rw [PS.r_hi _ hb,PS.r_hi _ hb];unfold PS.inn;rw [h,Fw];cases Bw l (FK+unF x) <;> rfl
 | false=>
  rw [PS.r_lo _ hb,PS.r_lo _ hb,h,Fw];cases Bw l x <;> rfl
def famOf:Sq→Fq
 | .intss X=>.ints (X.map some) | .pairss X=>.pairs (X.map some) | .boolss X=>.bools (X.map some) | .raises X=>.ints (X.map fun x=>some x.2) | _=>.ints []
theorem fk_ne {F r:Nat} (hF:F<4294967296) (hr:Kg r=true):FK+F≠r:=fun e=>by
 have h2:=Tj (inn F 0);rw [Abi hF,e] at h2;rw [h2] at hr; cases hr
theorem Tv {α:Type} (k:Nat) (x:α) (i:Nat):Bw [(k,x)] i=if k=i then some x else none:=by
 by_cases h:k=i
 ·subst h; rw [At,if_pos rfl]
 rw [Au h,if_neg h]; rfl
theorem Xu {α:Type} (k l:Nat) (x y:α) (i:Nat):Bw [(k,x),(l,y)] i=if k=i then some x else if l=i then some y else none:=by
 by_cases h:k=i
 ·subst h; rw [At,if_pos rfl]
 rw [Au h,if_neg h]; exact Tv l y i
section
variable {C:Cx} {tm:List (Nat×D)} {rw':List (Nat×Option (TypeId×Sq))} {bx:List (Nat×Option (List D))} {s':PS}
theorem En.newFam (F:Nat) (te:TypeId) (fq:Fq) (h0:fq.len=0) (hl:lone ⟨tm,rw',bx⟩ 999999 F=true) (hl2:PS.r ⟨tm,rw',bx⟩ 999999=none) (hN:PS.r ⟨tm,rw',bx⟩ (FK+F)=none) (hO:∀ u,C.O0.fr (FK+F)≠some u)
  (hnf:nf ⟨(PS.killX ⟨tm,rw',bx⟩ 999999).tmp,(FK+F,some (te,.fam fq))::rw',(PS.killX ⟨tm,rw',bx⟩ 999999).box⟩=some s') (hF:Nat.blt F 4294967296=true:=by rfl):En C ⟨tm,rw',bx⟩ s':=⟨fun M a w h=>by
 rw [nf_ok hnf];rw [Nat.blt_eq] at hF
 have hget:∀ k,fq.get k=none:=fun k=>by
  cases fq <;> simp only [Fq.len,List.length_eq_zero_iff] at h0 <;> subst h0 <;> rfl
 let M':Mp:=⟨M.β,fun x=>if x=FK+F then some none else M.γ x⟩
 have hMi:∀ G k,M'.γ (inn G k)=M.γ (inn G k):=fun G k=>by
  have:inn G k≠FK+F:=fun e=>by have h1:=Lz G k; rw [e,fk_lo hF] at h1; cases h1
  simp [M',this]
 have hsub:∀ x k c z,M'.γ x=some (some (k,c,z))→M.γ x=some (some (k,c,z)):=fun x k c z hx=>by
  simp only [M'] at hx;split at hx
  ·cases hx
  exact hx
 have hown:∀ k,M'.owned k→M.owned k:=by
  rintro k (⟨b,hb⟩ | ⟨y,c,z,hy⟩)
  ·exact .inl ⟨b,hb⟩
  exact .inr ⟨y,c,z,hsub _ _ _ _ hy⟩
 have hA:∀ f b,b<w.heap.size→Ow (Fs C.w0 C.O0) M f b→Ow (Fs C.w0 C.O0) M' f b∧b<w.heap.size∧w.heap[b]? = w.heap[b]?:=fun f b h1 h2=>⟨⟨fun h3=>h2.1 (hown b h3),h2.2⟩,h1,rfl⟩
 have hγ':∀ x y,x≠999999→Kg x=true→M'.γ x=some y→M.γ x=some y:=fun x y _ h2 h3=>by
  simp only [M'] at h3;rw [if_neg (fun e=>fk_ne hF h2 e.symm)] at h3;exact h3
 refine ⟨M',h.remap 999999 F hF (fun _=>O) (fun x k c z hx=>⟨x,hsub _ _ _ _ hx⟩) (fun x y k c z c' z' h1 h2=>h.inj2 _ _ _ _ _ _ _ (hsub _ _ _ _ h1) (hsub _ _ _ _ h2)) hγ' (fun x y h1 h2 h3 h4=>?_) (.inl (by decide)) (fun u u' h1 _=>absurd h1 (hO u)) (fun G k y _ _ h3=>by rw [←hMi]; exact h3) (fun t=>?_) (fun b=>?_) (fun x e q hx=>?_) fun x hx=>?_⟩
 ·simp only [M'] at h4;rw [if_neg h1] at h4;exact h4
 ·have:PS.t ⟨(PS.killX ⟨tm,rw',bx⟩ 999999).tmp,(FK+F,some (te,.fam fq))::rw',(PS.killX ⟨tm,rw',bx⟩ 999999).box⟩ t=klX 999999 (PS.t ⟨tm,rw',bx⟩ t):=PS.t_killX ⟨tm,rw',bx⟩ 999999 t;rw [this];exact VR.klX hA hγ' (fun _ _ h=>h) (h.tmp t)
 ·exact PS.b_killX ⟨tm,rw',bx⟩ 999999 b
 ·rw [PS.r_app (s:=⟨tm,rw',bx⟩) (l:=[(FK+F,some (te,.fam fq))]) rfl,Tv,Tv] at hx
  cases hbx:Nat.ble BIG x with
  | true=>
   rw [hbx] at hx;have hxf:x≠FK+F:=fun e=>by rw [e,fk_lo hF] at hbx; cases hbx
   have hMx:M'.γ x=M.γ x:=by simp [M',hxf]
   by_cases hu:FK+F=FK+unF x
   ·simp only [hu,if_true,famr,hget] at hx;cases hx
   simp only [hu,if_false] at hx;refine .inl ⟨hx,hMx,fun G hG=>?_⟩;rcases Ab1 hl hx hG with h1 | h1
   ·rw [h1,hl2] at hx; cases hx
   exact h1
  | false=>
   rw [hbx] at hx;by_cases hxf:FK+F=x
   ·subst hxf;simp only [if_true] at hx;cases hx;exact .inr (.inl ⟨by simp [M'],O⟩)
   simp only [hxf,if_false] at hx;refine .inl ⟨hx,by simp [M',Ne.symm hxf],fun G hG=>?_⟩;rcases Ab1 hl hx hG with h1 | h1
   ·rw [h1,hl2] at hx; cases hx
   exact h1
 rw [PS.r_app (s:=⟨tm,rw',bx⟩) (l:=[(FK+F,some (te,.fam fq))]) rfl,Tv,Tv] at hx
 cases hbx:Nat.ble BIG x with
 | true=>
  rw [hbx] at hx;have hxf:x≠FK+F:=fun e=>by rw [e,fk_lo hF] at hbx; cases hbx
  have hMx:M'.γ x=M.γ x:=by simp [M',hxf]
  rw [hMx];refine h.rown x ?_;by_cases hu:FK+F=FK+unF x
  ·rw [PS.r_hi _ hbx,PS.inn_r,←hu,hN]; rfl
  simp only [hu,if_false] at hx; exact hx
 | false=>
  rw [hbx] at hx;by_cases hxf:FK+F=x
  ·simp only [hxf,if_true] at hx; cases hx
  simp only [hxf,if_false] at hx;simp only [M',Ne.symm hxf,if_false]
  exact h.rown x hx⟩
theorem En.asRefs (R F:Nat) {et:TypeId} {q qR:Sq} (hR:PS.r ⟨tm,rw',bx⟩ R=some (et,q)) (h0:q.len=0) (h1:qR.len=0) (hz:qR.sz=q.sz) (hFR:Kg R=true:=by rfl):En C ⟨tm,rw',bx⟩ ⟨tm,(R,some (et,qR))::rw',bx⟩:=⟨fun M a w h=>by
 have hPS:∀ x,PS.r ⟨tm,(R,some (et,qR))::rw',bx⟩ x=if R=x then some (et,qR) else PS.r ⟨tm,rw',bx⟩ x:=fun x=>PS.r_setR ⟨tm,rw',bx⟩ R (some (et,qR)) x hFR
 refine ⟨M,h.fr,h.dfr,h.sz,h.tmp,h.box,h.boxn,fun x e p hx=>?_,fun x hx=>?_,h.low,h.inj1,h.inj2,h.inj3,h.nle,h.fxb,h.fxr⟩
 ·rw [hPS] at hx;split at hx
  ·rename_i hxR;cases hx;subst hxR;rcases h.row _ _ _ hR with ⟨g1,g2⟩ | ⟨g,cap,cur,g1,g2,g3,g4,g5,g6⟩
   ·exact .inl ⟨g1,h1⟩
   exact .inr ⟨g,cap,cur,by rw [hz]; exact g1,g2,by omega,g4,by rw [hz]; exact g5,fun i j d hi hd=>by omega⟩
  exact h.row x e p hx
 rw [hPS] at hx;split at hx
 ·cases hx
 exact h.rown x hx⟩
theorem En.adopt (t r R F:Nat) {n:Nat} {et te:TypeId} {c q:Sq} {fq fq':Fq} (ht:PS.t ⟨tm,rw',bx⟩ t=.row r 0 n) (hr:PS.r ⟨tm,rw',bx⟩ r=some (te,c)) (hn:n=c.len) (hf:PS.r ⟨tm,rw',bx⟩ (FK+F)=some (te,.fam fq)) (hR:PS.r ⟨tm,rw',bx⟩ R=some (et,dR F q))
  (hq:q.deep=true) (hlen:q.len=fq.len) (hp:fq.push c=some fq') (hl:lone ⟨tm,rw',bx⟩ R F=true) {d':D} (hd':d'=.irow F fq.len n)
  (hnf:nf ⟨(t,d')::(PS.killX ⟨tm,rw',bx⟩ r).tmp,(r,none)::(FK+F,some (te,.fam fq'))::rw',(PS.killX ⟨tm,rw',bx⟩ r).box⟩=some s') (hF:Nat.blt F 4294967296=true:=by rfl) (hr1:Nat.blt r 1000000=true:=by rfl) (hFR:Kg R=true:=by rfl) (hrR:Nat.beq r R=false:=by rfl):En C ⟨tm,rw',bx⟩ s':=⟨fun M a w h=>by
 rw [nf_ok hnf];rw [Nat.blt_eq] at hF hr1;subst hn hd';have hne:r≠R:=fun e=>by subst e; rw [Nat.beq_refl] at hrR; cases hrR
 have hget:=Fq.get_push hp;have hrn:=Gs hr1
 let g:Nat→Nat:=fun k=>if k=fq.len then r else inn F k
 have hinnr:∀ k,inn F k≠r:=fun k e=>by have:=Lz F k; rw [e,Ew hrn] at this; cases this
 have hown:∀ k,(Ze M r F fq' g).owned k→M.owned k:=by
  rintro k (⟨b,hb⟩ | ⟨y,c,z,hy⟩)
  ·exact .inl ⟨b,hb⟩
  simp only [Ze] at hy;split at hy
  ·split at hy
   ·split at hy
    ·exact .inr ⟨_,c,z,hy⟩
    cases hy
   exact .inr ⟨_,c,z,hy⟩
  split at hy
  ·cases hy
  exact .inr ⟨_,c,z,hy⟩
 have hA:∀ f b,b<w.heap.size→Ow (Fs C.w0 C.O0) M f b→Ow (Fs C.w0 C.O0) (Ze M r F fq' g) f b∧b<w.heap.size∧w.heap[b]? = w.heap[b]?:=fun f b h1 h2=>⟨⟨fun h3=>h2.1 (hown b h3),h2.2⟩,h1,rfl⟩;have hγ':∀ x y,x≠r→Kg x=true→(Ze M r F fq' g).γ x=some y→M.γ x=some y:=fun x y h1 h2 h3=>by rw [Qn _ _ _ _ _ (Ew h2) h1] at h3; exact h3
 have hgM:∀ k,k≠fq.len→∀ y,(Ze M r F fq' g).γ (inn F k)=some y→M.γ (inn F k)=some y:=fun k hk y hy=>by
  rw [Yf _ _ _ _ _ hF] at hy;split at hy
  ·simpa [g,hk] using hy
  cases hy
 refine ⟨_,h.refam r R F hF (fq':=fq') g (yR:=some (et,dR F q)) hr1 hFR hne hf hl (fun k c' hc=>?_) (fun k k' c1 c2 h1 h2 h3=>?_) (fun k c' hc=>?_) (fun x=>?_) (fun e p hx=>?_) (fun hx=>by cases hx) (fun t'=>?_) fun b=>?_⟩
 ·rw [hget] at hc;by_cases hk:k=fq.len
  ·rw [if_pos hk] at hc;cases hc;simp [g,hk,hr]
  rw [if_neg hk] at hc;simp only [g,hk,if_false];rw [fam_r hF hf,hc]
 ·simp only [g] at h3;split at h3 <;> split at h3
  ·omega
  ·exact absurd h3.symm (hinnr _)
  ·exact absurd h3 (hinnr _)
  exact (inn_inj h3).2
 ·by_cases hk:k=fq.len
  ·exact .inl (by simp [g,hk])
  exact .inr ⟨k,by simp [g,hk]⟩
 ·rw [PS.r_app (s:=⟨tm,rw',bx⟩) (l:=[(r,none),(FK+F,some (te,.fam fq'))]) rfl,Xu,Xu]
  cases hbx:Nat.ble BIG x with
  | true=>
   have h1:r≠FK+unF x:=fun e=>by have:=Tj x; rw [←e,hrn] at this; cases this
   simp only [h1,if_false];by_cases hu:unF x=F
   ·simp [hu]
   simp [hu,Ne.symm hu]
  | false=>
   simp only;by_cases hxr:r=x
   ·simp [hxr]
   simp only [hxr,if_false,Ne.symm hxr];by_cases hxf:FK+F=x
   ·simp [hxf]
   simp only [hxf,if_false,Ne.symm hxf];by_cases hxR:x=R
   ·simp [hxR,hR]
   simp [hxR]
 ·cases hx;rcases h.row _ _ _ hR with ⟨g1,g2⟩ | ⟨gg,cap,cur,g1,g2,g3,g4,g5,g6⟩
  ·exact .inl ⟨by rw [Qn _ _ _ _ _ (Ew hFR) (Ne.symm hne)]; exact g1,g2⟩
  refine .inr ⟨gg,cap,cur,by rw [Qn _ _ _ _ _ (Ew hFR) (Ne.symm hne)]; exact g1,g2,g3,g4,g5,fun i j d hi hd=>?_⟩;have hv:=g6 i j d hi hd;rw [Tr] at hi;rcases dR_relem hq hi hd with ⟨rfl,_⟩ | ⟨x,rfl,_⟩
  ·exact hv.irow_mv (hgM i (by omega))
  rw [hv.int_inv]; exact .int _
 ·have hk:=PS.t_killX ⟨tm,rw',bx⟩ r t';by_cases htt:t=t'
  ·subst htt;have:PS.t ⟨(t,.irow F fq.len c.len)::(PS.killX ⟨tm,rw',bx⟩ r).tmp,(r,none)::(FK+F,some (te,.fam fq'))::rw',(PS.killX ⟨tm,rw',bx⟩ r).box⟩ t=.irow F fq.len c.len:=by simp [PS.t,At]
   rw [this];have hv:=h.tmp t;rw [ht] at hv;refine hv.irow_of fun x hx=>?_;rw [Yf _ _ _ _ _ hF] at hx;split at hx
   ·simpa [g] using hx
   cases hx
  have:PS.t ⟨(t,.irow F fq.len c.len)::(PS.killX ⟨tm,rw',bx⟩ r).tmp,(r,none)::(FK+F,some (te,.fam fq'))::rw',(PS.killX ⟨tm,rw',bx⟩ r).box⟩ t'=PS.t (PS.killX ⟨tm,rw',bx⟩ r) t':=by simp [PS.t,Au htt]
  rw [this,hk];exact VR.klX hA hγ' (fun _ _ h=>h) (h.tmp t')
 exact PS.b_killX ⟨tm,rw',bx⟩ r b⟩
end
end
section
open Go.RowKit Go.Deep
section
variable {C:Cx} {tm:List (Nat×D)} {rw':List (Nat×Option (TypeId×Sq))} {bx:List (Nat×Option (List D))} {s':PS}
end
end
section
open Go.RowKit Go.Deep
section
variable {w0:World} {O0:Hd} {n:Nat} {M:Mp} {s:PS} {a:Act} {w:World}
theorem Rel.newRowR (h:Rel w0 O0 n M s a w) {r m:Nat} {e:TypeId} {q:Sq} {cur:Array Value} (hq:q.len=m) (hm:m≤maxLen) (hc:cur.size=m*q.sz)
  (hv:∀ i j d,i<m→(q.relem i)[j]? = some d→VR M (Ow (Fs w0 O0) M) w d (cur.getD (i*q.sz+j) undef)) (hf:Fresh s noB (isR r)) (hlo:r<1000000) :
  ∃ M',Rel w0 O0 n M' (s.setR r (some (e,q))) a (w.alloc (.cells cur e))∧VR M' (Ow (Fs w0 O0) M') (w.alloc (.cells cur e)) (.row r 0 m) (.slice (some ⟨w.heap.size,0,none⟩) m m):=by
 have hF:=Gs hlo
 let M':Mp:=⟨M.β,fun x=>if x=r then some (some (w.heap.size,m,q.sz)) else M.γ x⟩
 have m1:M'.γ r=some (some (w.heap.size,m,q.sz)):=by simp [M']
 have m2:∀ x,x≠r→M'.γ x=M.γ x:=fun x hx=>by simp [M',hx]
 have hown:∀ k,M'.owned k→M.owned k∨k=w.heap.size:=by
  rintro k (⟨x,hx⟩ | ⟨y,c,z,hy⟩)
  ·exact .inl (.inl ⟨x,hx⟩)
  by_cases hyr:y=r
  ·rw [hyr,m1] at hy; cases hy; exact .inr rfl
  rw [m2 y hyr] at hy; exact .inl (.inr ⟨y,c,z,hy⟩)
 have hA:∀ f k,k<w.heap.size→Ow (Fs w0 O0) M f k→Ow (Fs w0 O0) M' f k∧k<(w.alloc (.cells cur e)).heap.size∧(w.alloc (.cells cur e)).heap[k]? = w.heap[k]?:=fun f k h1 h2=>
  ⟨⟨fun h3=>by rcases hown k h3 with h4 | h4; exact h2.1 h4; omega,h2.2⟩,by simp; omega,Below.heap_alloc w _ k h1⟩
 have hγ:∀ x y,isR r x=false→M'.γ x=some y→M.γ x=some y:=fun x y h1 h2=>by
  rw [m2 x (fun e=>by subst e; simp [isR,Nat.beq_refl] at h1)] at h2; exact h2
 have hrb:=Ew hF
 have hbig:∀ x y,BIG≤x→M'.γ x=some y→M.γ x=some y:=fun x y hx h2=>by
  rw [m2 x (fun e=>by rw [←e,Nat.ble_eq_true_of_le hx] at hrb; cases hrb)] at h2; exact h2
 have hno:∀ y c z,M.γ y≠some (some (w.heap.size,c,z)):=fun y c z hy=>by have:=h.lt _ (.inr ⟨y,c,z,hy⟩); omega
 refine ⟨M',⟨?_,h.dfr,h.sz,fun t=>?_,fun x ds hx=>?_,fun x hx=>h.boxn x hx,fun x e' p hx=>?_,fun x hx=>?_,fun k hk=>?_,h.inj1,fun x y k c z c' z' h1 h2=>?_,fun x y k c z h1 h2=>?_,h.nle,h.fxb,fun x u u' h1 h2=>?_⟩,?_⟩
 ·exact h.fr.step O O O (by simp) fun k h1 _=>Below.heap_alloc w _ k (Nat.lt_of_lt_of_le h1 h.fr.size)
 ·exact VR.new (b:=noB) (r:=isR r) hA hγ (fun _ _ _ h=>h) (hf.t t) (h.tmp t) (hi:=fun _=>hbig)
 ·obtain ⟨k,cur',e',h1,h2,h3,h4⟩:=h.box x ds hx;have hlt:=(Array.getElem?_eq_some_iff.1 h2).1;exact ⟨k,cur',e',h1,(Below.heap_alloc w _ k hlt).trans h2,h3,fun j d hd=>VR.newS (b:=noB) (r:=isR r) hA hγ (fun _ _ _ h=>h) (hf.b _ _ hx d (List.mem_of_getElem? hd)) (h4 j d hd) (hi:=fun _=>hbig)⟩
 ·rw [PS.r_setR _ _ _ _ hF] at hx;by_cases hxr:r=x
  ·subst hxr;rw [if_pos rfl] at hx;cases hx;exact .inr ⟨w.heap.size,m,cur,m1,heap_alloc_new w _,by omega,hm,hc,fun i j d hi hd=>(hv i j d (by omega) hd).relem_any hd hA hbig⟩
  rw [if_neg hxr] at hx;rcases h.row x e' p hx with ⟨h1,h2⟩ | ⟨g,cap,cur',h1,h2,h3,h4,h5,h6⟩
  ·exact .inl ⟨(m2 x (Ne.symm hxr)).trans h1,h2⟩
  have hlt:=(Array.getElem?_eq_some_iff.1 h2).1;exact .inr ⟨g,cap,cur',(m2 x (Ne.symm hxr)).trans h1,(Below.heap_alloc w _ g hlt).trans h2,h3,h4,h5,fun i j d hi hd=>(h6 i j d hi hd).relem_any hd hA hbig⟩
 ·rw [PS.r_setR _ _ _ _ hF] at hx;by_cases hxr:r=x
  ·rw [if_pos hxr] at hx; cases hx
  rw [if_neg hxr] at hx; exact (m2 x (Ne.symm hxr)).trans (h.rown x hx)
 ·rcases hown k hk with h1 | rfl
  ·exact h.low k h1
  exact .inl h.fr.size
 ·by_cases hx:x=r
  ·by_cases hy:y=r
   ·rw [hx,hy]
   rw [hx,m1] at h1; cases h1; rw [m2 y hy] at h2; exact absurd h2 (hno _ _ _)
  by_cases hy:y=r
  ·rw [hy,m1] at h2; cases h2; rw [m2 x hx] at h1; exact absurd h1 (hno _ _ _)
  rw [m2 x hx] at h1; rw [m2 y hy] at h2; exact h.inj2 _ _ _ _ _ _ _ h1 h2
 ·by_cases hy:y=r
  ·rw [hy,m1] at h2; cases h2;have:=h.lt _ (.inl ⟨x,h1⟩); omega
  rw [m2 y hy] at h2; exact h.inj3 _ _ _ _ _ h1 h2
 ·have h3:=(O0.lor x u h1).1;rw [m2 x (by omega)] at h2;exact h.fxr x u u' h1 h2
 exact .row _ _ _ _ O fun x hx=>by rw [m1] at hx; cases hx; exact ⟨by omega,_,by rw [Nat.sub_zero],fun _=>by rw [Nat.zero_mul]⟩
end
def refOf:D→Option Sq
 | .irow F k n=>some (.irefs F [(k,n)])
 | .agg [.int p,.irow F k n]=>some (.rrefs F [(p,k,n)])
 | _=>none
theorem refOf_ok {d:D} {q:Sq} (h:refOf d=some q):d.flat=true∧d.cells=q.relem 0∧q.len=1:=by
 unfold refOf at h;split at h
 ·cases h; exact ⟨rfl,rfl,rfl⟩
 ·cases h; exact ⟨rfl,rfl,rfl⟩
 cases h
section
variable {C:Cx} {ops:Array Oper} {K:PS→Prop} {o:Oper} {rest:List Oper} {s:PS} {TT:List (Nat×Ty)} {tm:List (Nat×D)} {rw':List (Nat×Option (TypeId×Sq))} {bx:List (Nat×Option (List D))}
theorem oBuildI (hT:Qg C.P TT) (hg:o.guard=none) {t e:TypeId} {k q:Sq} {by' b:Nat} {x:Operand} {d:D} (hop:o.op=.buildSlice t 1 #[(0,x)]) (hd:o.dst=some b) (hy:Bw TT t=some (.sl e k by')) (hx:(PS.ev ⟨tm,rw',bx⟩ x)=d)
  (hq:refOf d=some q) (hz:Nat.beq k.sz q.sz=true) (hbig:Nat.ble (1*k.sz) 16777216=true) (hn:Nat.blt b C.n=true) (hf:frB ⟨tm,rw',bx⟩ noB (isR b)=true) (h:VO C ops K rest ⟨(b,.row b 0 1)::tm,(b,some (e,q))::rw',bx⟩):VO C ops K (o::rest) ⟨tm,rw',bx⟩:=by
 refine vOp hg ⟨fun M a w Q K' hrl hk=>?_⟩;have hev:=hrl.ev x;rw [hx] at hev;obtain ⟨r1,r2,r3⟩:=refOf_ok hq;have hz':=Nat.eq_of_beq_eq_true hz;obtain ⟨c1,c2,_⟩:=hev.cells r1;rw [r2,Sq.relem_len,←hz'] at c1;have hvs:∀ v∈[a.eval x],v.cells.size=k.sz:=by intro v hv; simp at hv; subst hv; exact c1.symm
 have hbig':=Nat.le_of_ble_eq_true hbig
 have hfill:∀ cells:Array Value,cells.size=1*k.sz→Instr.fill (fun i=>some (i*k.sz,k.sz)) cells (idxL 0 [a.eval x])=some ([a.eval x].flatMap fun v=>v.cells.toList).toArray:=fun cells hc=>by
  have:=fill_all k.sz [a.eval x] 0 cells hvs (by rw [hc]; rfl);simpa using this
 have hrun:(execOp a.eval o).run C.P w=.ok (.value (.slice (some ⟨w.heap.size,0,none⟩) 1 1)) (w.alloc (.cells ([a.eval x].flatMap fun v=>v.cells.toList).toArray e)):=by
  have hparts:((#[(0,x)]:Array (Nat×Operand)).map fun (p:Nat×Operand)=>(p.1,a.eval p.2)).toList=idxL 0 [a.eval x]:=by simp [idxL]
  have:=Ri (hT t _ hy) w 1 _ ([a.eval x].flatMap fun v=>v.cells.toList).toArray (by omega) (fun cells hc=>by rw [hparts]; exact hfill cells hc);unfold execOp;rw [hop];simp only [Sem.run_bind,this,Result.andThen_ok];rfl
 obtain ⟨M',h1,h2⟩:=hrl.newRowR (r:=b) (m:=1) (e:=e) (q:=q) (cur:=([a.eval x].flatMap fun v=>v.cells.toList).toArray) r3 (by unfold maxLen; omega)
  (by simp only [List.size_toArray]; rw [Wn _ hvs,←hz']; rfl) (fun i j d' hi hd'=>by
   obtain rfl:i=0:=by omega
   have:=c2 j d' (by rw [r2]; exact hd')
   simpa using this) (Mz hf) (by have h1000:=hrl.nle; rw [Nat.blt_eq] at hn; omega)
 unfold Oper.wp;rw [hrun];refine hk M' _ _ _ h ?_;rw [hd];exact h1.put (o:=some b) hn h2
end
end
section
open Go.RowKit Go.Deep
section
variable {P:Program} {w0:World} {O0:Hd} {n:Nat} {M:Mp} {s:PS} {a:Act} {w w':World}
end
section
variable {C:Cx} {ops:Array Oper} {K:PS→Prop} {o:Oper} {rest:List Oper} {s:PS} {TT:List (Nat×Ty)} {tm:List (Nat×D)} {rw':List (Nat×Option (TypeId×Sq))} {bx:List (Nat×Option (List D))} {cr B:List Nat} {j:Nat}
end
end
section
open Go.RowKit Go.Deep
section
variable {C:Cx} {ops:Array Oper} {K:PS→Prop} {o:Oper} {rest:List Oper} {s:PS} {TT:List (Nat×Ty)} {tm:List (Nat×D)} {rw':List (Nat×Option (TypeId×Sq))} {bx:List (Nat×Option (List D))}
end
end
section
open Go.RowKit Go.Deep
structure NewD (N:Mp) (A:Bool→Nat→Prop) (w w':World) (B F:Nat) (et te:TypeId) (q:Sq):Prop where
 os:w'.os=w.os
 tape:w'.tape=w.tape
 output:w'.output=w.output
 size:w.heap.size≤w'.heap.size
 block:∀ k,k<w.heap.size→w'.heap[k]? = w.heap[k]?
 noβ:∀ b,N.β b=none
 outer:(N.γ B=some none∧q.len=0)∨∃ g cap cur,N.γ B=some (some (g,cap,q.sz))∧w'.heap[g]? = some (.cells cur et (0,0))∧q.len≤cap∧cap≤maxLen∧cur.size=cap*q.sz∧∀ i j d,i<q.len→((dR F q).relem i)[j]? = some d→VR N A w' d (cur.getD (i*q.sz+j) undef)
 inner:∀ i,i<q.len→(N.γ (inn F i)=some none∧(q.nn i).len=0)∨∃ g cap cur,N.γ (inn F i)=some (some (g,cap,(q.nn i).sz))∧w'.heap[g]? = some (.cells cur te (0,0))∧(q.nn i).len≤cap∧cap≤maxLen∧cur.size=cap*(q.nn i).sz∧∀ i' j d,i'<(q.nn i).len→((q.nn i).relem i')[j]? = some d→VR N A w' d (cur.getD (i'*(q.nn i).sz+j) undef)
 none:∀ x,x≠B→(∀ i,i<q.len→x≠inn F i)→N.γ x=none
 low:∀ k,N.owned k→w.heap.size≤k
 inj:∀ r r' k c z c' z',N.γ r=some (some (k,c,z))→N.γ r'=some (some (k,c',z'))→r=r'
structure PCallD (P:Program) (f:FuncId) (ds:List D) (et te:TypeId) (q:Sq) (d:D):Prop where
 enter:∀ args w,(callFunc f args).run P w=.ok (.enter f args) w
 deep:q.deep=true
 run:∀ w args,ArgsOK w ds args→Calls P f args w fun e w'=>∃ v,e=.returned v∧∀ B F,B≤500000→F<4294967296→∃ N,NewD N (Rs w N) w w' B F et te q∧VR N (Rs w N) w' (ren id (fun j=>B+j) d) v
section
variable {C:Cx} {ops:Array Oper} {K:PS→Prop} {o:Oper} {rest:List Oper} {s s':PS} {TT:List (Nat×Ty)} {tm:List (Nat×D)} {rw':List (Nat×Option (TypeId×Sq))} {bx:List (Nat×Option (List D))}
theorem Rel.newDeep {w0:World} {O0:Hd} {n:Nat} {M N:Mp} {A:Bool→Nat→Prop} {a:Act} {w w':World} {B F:Nat} {et te:TypeId} {q:Sq} (h:Rel w0 O0 n M ⟨tm,rw',bx⟩ a w) (hq:q.deep=true) (hN:NewD N A w w' B F et te q) (hF:F<4294967296) (hB:B<1000000)
  (hA:∀ f k,k<w'.heap.size→A f k→(¬ N.owned k∧¬ M.owned k)∧Fs w0 O0 f k) (hf:Fresh ⟨tm,rw',bx⟩ (fun _=>false) (fun r=>Nat.beq r B || !Kg r)) (hl:lone ⟨tm,rw',bx⟩ 999999 F=true) (h9:PS.r ⟨tm,rw',bx⟩ 999999=none) (hfn:PS.r ⟨tm,rw',bx⟩ (FK+F)=none) (hO:∀ u,O0.fr (FK+F)≠some u) :
  ∃ M',Rel w0 O0 n M' ⟨tm,(B,some (et,dR F q))::(FK+F,some (te,dF q))::rw',bx⟩ a w'∧∀ d v,Jp (fun _=>true) (fun r=>!Nat.beq r B) d=false→VR N A w' d v→VR M' (Ow (Fs w0 O0) M') w' d v:=by
 have hBF:=Gs hB;have hBb:=Ew hBF;have hne:FK+F≠B:=fk_ne hF hBF
 let M':Mp:=⟨M.β,fun x=>match Nat.ble BIG x with
  | true=>if unF x=F then N.γ x else M.γ x
  | false=>if x=B then N.γ B else if x=FK+F then some none else M.γ x⟩
 have mB:M'.γ B=N.γ B:=by simp [M',hBb]
 have mF:M'.γ (FK+F)=some none:=by simp [M',fk_lo hF,hne]
 have mI:∀ i,M'.γ (inn F i)=N.γ (inn F i):=fun i=>by
  have e:∀ x,Nat.ble BIG x=true→unF x=F→M'.γ x=N.γ x:=fun x h1 h2=>by simp [M',h1,h2]
  exact e _ (Lz F i) (by rw [Px,Nat.mod_eq_of_lt hF])
 have mG:∀ x,Nat.ble BIG x=true→unF x≠F→M'.γ x=M.γ x:=fun x h1 h2=>by simp [M',h1,h2]
 have mL:∀ x,Nat.ble BIG x=false→x≠B→x≠FK+F→M'.γ x=M.γ x:=fun x h1 h2 h3=>by simp [M',h1,h2,h3]
 have hfi:∀ k,M.γ (inn F k)=none:=fun k=>h.rown _ (by rw [PS.r_hi _ (Lz F k),PS.inn_r,Abi hF,hfn]; rfl)
 have cases4:∀ x y,M'.γ x=some y→N.γ x=some y∨(M.γ x=some y∧x≠FK+F)∨(x=FK+F∧y=none):=fun x y hx=>by
  cases hb:Nat.ble BIG x with
  | true=>
   by_cases hu:unF x=F
   ·have:M'.γ x=N.γ x:=by simp [M',hb,hu]
    rw [this] at hx; exact .inl hx
   rw [mG x hb hu] at hx;exact .inr (.inl ⟨hx,fun e=>by rw [e,fk_lo hF] at hb; cases hb⟩)
  | false=>
   by_cases h1:x=B
   ·rw [h1,mB] at hx; rw [h1]; exact .inl hx
   by_cases h2:x=FK+F
   ·rw [h2,mF] at hx; cases hx; exact .inr (.inr ⟨h2,rfl⟩)
   rw [mL x hb h1 h2] at hx; exact .inr (.inl ⟨hx,h2⟩)
 have hown:∀ k,M'.owned k→M.owned k∨N.owned k:=by
  rintro k (⟨x,hx⟩ | ⟨r,c,z,hr⟩)
  ·exact .inl (.inl ⟨x,hx⟩)
  rcases cases4 r _ hr with h1 | ⟨h1,_⟩ | ⟨_,h1⟩
  ·exact .inr (.inr ⟨r,c,z,h1⟩)
  ·exact .inl (.inr ⟨r,c,z,h1⟩)
  cases h1
 have hA0:∀ f k,k<w.heap.size→Ow (Fs w0 O0) M f k→Ow (Fs w0 O0) M' f k∧k<w'.heap.size∧w'.heap[k]? = w.heap[k]?:=fun f k h1 h2=>
  ⟨⟨fun h3=>by rcases hown k h3 with h4 | h4; exact h2.1 h4; have:=hN.low k h4; omega,h2.2⟩,by have:=hN.size; omega,hN.block k h1⟩
 have hA1:∀ f k,k<w'.heap.size→A f k→Ow (Fs w0 O0) M' f k∧k<w'.heap.size∧w'.heap[k]? = w'.heap[k]?:=fun f k h1 h2=>
  ⟨⟨fun h3=>by rcases hown k h3 with h4 | h4; exact (hA f k h1 h2).1.2 h4; exact (hA f k h1 h2).1.1 h4,(hA f k h1 h2).2⟩,h1,rfl⟩
 have hγ:∀ x y,(Nat.beq x B || !Kg x)=false→M'.γ x=some y→M.γ x=some y:=fun x y h1 h2=>by
  rw [Bool.or_eq_false_iff] at h1;have hn:Kg x=true:=by simpa using h1.2
  rw [mL x (Ew hn) (fun e=>by rw [e,Nat.beq_refl] at h1; cases h1.1) (fun e=>fk_ne hF hn e.symm)] at h2;exact h2
 have hbf:(Nat.beq BIG B || !Kg BIG)=true:=by
  have:Kg BIG=false:=by decide
  rw [this]; simp
 have oldrow:∀ x e p,PS.r ⟨tm,rw',bx⟩ x=some (e,p)→M'.γ x=M.γ x→RowAt (Fs w0 O0) M' w' x e p:=fun x e p hx hm=>by
  rcases h.row x e p hx with ⟨g1,g2⟩ | ⟨g,cap,cur,g1,g2,g3,g4,g5,g6⟩
  ·exact .inl ⟨hm.trans g1,g2⟩
  have hlt:=(Array.getElem?_eq_some_iff.1 g2).1;refine .inr ⟨g,cap,cur,hm.trans g1,(hN.block g hlt).trans g2,g3,g4,g5,fun i j d hi hd=>(g6 i j d hi hd).relem_any2 hd hA0 fun G hG k y hy=>?_⟩;rcases Ab1 hl hx hG with h1 | ⟨h1,h2⟩
  ·rw [h1,h9] at hx; cases hx
  rw [mG _ (Lz G k) (by rw [Px,Nat.mod_eq_of_lt h2]; exact h1)] at hy; exact hy
 have hPS:∀ x,PS.r ⟨tm,(B,some (et,dR F q))::(FK+F,some (te,dF q))::rw',bx⟩ x=match Nat.ble BIG x with | true=>(if unF x=F then famr (some (some (te,dF q))) (unK x) else PS.r ⟨tm,rw',bx⟩ x) | false=>if x=B then some (et,dR F q) else if x=FK+F then some (te,dF q) else PS.r ⟨tm,rw',bx⟩ x:=fun x=>by
  rw [PS.r_app (s:=⟨tm,rw',bx⟩) (s':=⟨tm,(B,some (et,dR F q))::(FK+F,some (te,dF q))::rw',bx⟩) (l:=[(B,some (et,dR F q)),(FK+F,some (te,dF q))]) rfl,Xu,Xu]
  cases hbx:Nat.ble BIG x with
  | true=>
   have h1:B≠FK+unF x:=fun e=>by have:=Tj x; rw [←e,hBF] at this; cases this
   by_cases hu:unF x=F
   ·simp [hu,Ne.symm hne]
   simp [hu,Ne.symm hu,h1]
  | false=>
   by_cases hx:B=x
   ·subst hx; simp
   by_cases hxf:FK+F=x
   ·rw [←hxf,if_neg (Ne.symm hne),if_pos rfl,if_neg hne,if_pos rfl]
   simp [hx,hxf,Ne.symm hx,Ne.symm hxf]
 refine ⟨M',⟨?_,h.dfr,h.sz,fun t=>?_,fun x ds hx=>?_,fun x hx=>h.boxn x hx,fun x e p hx=>?_,fun x hx=>?_,fun k hk=>?_,h.inj1,fun x y k c z c' z' h1 h2=>?_,fun x y k c z h1 h2=>?_,h.nle,h.fxb,fun x u u' h1 h2=>?_⟩,fun d v hd hv=>?_⟩
 ·exact h.fr.step hN.os hN.tape hN.output hN.size fun k h1 _=>hN.block k (Nat.lt_of_lt_of_le h1 h.fr.size)
 ·exact VR.new (b:=fun _=>false) (r:=fun r=>Nat.beq r B || !Kg r) hA0 hγ (fun _ _ _ h=>h) (hf.t t) (h.tmp t) (hi:=fun h0=>by rw [hbf] at h0; cases h0)
 ·obtain ⟨k,cur',e',h1,h2,h3,h4⟩:=h.box x ds hx;have hlt:=(Array.getElem?_eq_some_iff.1 h2).1;exact ⟨k,cur',e',h1,(hN.block k hlt).trans h2,h3,fun j d hd=>VR.newS (b:=fun _=>false) (r:=fun r=>Nat.beq r B || !Kg r) hA0 hγ (fun _ _ _ h=>h) (hf.b _ _ hx d (List.mem_of_getElem? hd)) (h4 j d hd) (hi:=fun h0=>by rw [hbf] at h0; cases h0)⟩
 ·rw [hPS] at hx
  cases hbx:Nat.ble BIG x with
  | true=>
   rw [hbx] at hx;by_cases hu:unF x=F
   ·have hxe:x=inn F (unK x):=by rw [←hu]; exact (Adf hbx).symm
    simp only [hu,if_true] at hx;rw [famr_dF hq] at hx;generalize unK x=k0 at hx hxe;split at hx
    ·rename_i hk;cases hx;rw [hxe];rcases hN.inner _ hk with ⟨g1,g2⟩ | ⟨g,cap,cur,g1,g2,g3,g4,g5,g6⟩
     ·exact .inl ⟨(mI _).trans g1,g2⟩
     refine .inr ⟨g,cap,cur,(mI _).trans g1,g2,g3,g4,g5,fun i j d hi hd=>?_⟩;have hd2:=hd;rw [Sq.relem_eq (nn_refs q _)] at hd2;exact (g6 i j d hi hd).elem_any hd2 hA1
    cases hx
   simp only [hu,if_false] at hx;exact oldrow x e p hx (mG x hbx hu)
  | false=>
   rw [hbx] at hx;simp only at hx;split at hx
   ·rename_i hxB;cases hx;subst hxB;rcases hN.outer with ⟨g1,g2⟩ | ⟨g,cap,cur,g1,g2,g3,g4,g5,g6⟩
    ·exact .inl ⟨mB.trans g1,by rw [Tr]; exact g2⟩
    refine .inr ⟨g,cap,cur,by rw [mB,dR_sz]; exact g1,g2,by rw [Tr]; exact g3,g4,by rw [dR_sz]; exact g5,fun i j d hi hd=>?_⟩;rw [Tr] at hi;rw [dR_sz];have hv:=g6 i j d hi hd;rcases dR_relem hq hi hd with ⟨rfl,_⟩ | ⟨y,rfl,_⟩
    ·exact hv.irow_mv fun y hy=>by rw [mI] at hy; exact hy
    rw [hv.int_inv]; exact .int _
   rename_i hxB;split at hx
   ·rename_i hxf;cases hx;rw [hxf];exact .inl ⟨mF,dF_len q⟩
   rename_i hxf;exact oldrow x e p hx (mL x hbx hxB hxf)
 ·rw [hPS] at hx
  cases hbx:Nat.ble BIG x with
  | true=>
   rw [hbx] at hx;by_cases hu:unF x=F
   ·have hxe:x=inn F (unK x):=by rw [←hu]; exact (Adf hbx).symm
    simp only [hu,if_true] at hx;rw [famr_dF hq] at hx;split at hx
    ·cases hx
    rename_i hk;rw [hxe,mI];refine hN.none _ (fun e=>by have:=Lz F (unK x); rw [e,hBb] at this; cases this) fun i hi e=>hk ?_;rw [(inn_inj e).2]; exact hi
   simp only [hu,if_false] at hx;rw [mG x hbx hu]; exact h.rown x hx
  | false=>
   rw [hbx] at hx;simp only at hx;split at hx
   ·cases hx
   rename_i hxB;split at hx
   ·cases hx
   rename_i hxf;rw [mL x hbx hxB hxf]; exact h.rown x hx
 ·rcases hown k hk with h1 | h1
  ·exact h.low k h1
  exact .inl (Nat.le_trans h.fr.size (hN.low k h1))
 ·have hx:∀ r r' k c z c' z',M.γ r=some (some (k,c,z))→N.γ r'=some (some (k,c',z'))→False:=fun r r' k c z c' z' a1 a2=>by
   have:=h.lt _ (.inr ⟨r,c,z,a1⟩); have:=hN.low _ (.inr ⟨r',c',z',a2⟩); omega
  rcases cases4 x _ h1 with g1 | ⟨g1,_⟩ | ⟨_,g1⟩
  ·rcases cases4 y _ h2 with g2 | ⟨g2,_⟩ | ⟨_,g2⟩
   ·exact hN.inj _ _ _ _ _ _ _ g1 g2
   ·exact (hx _ _ _ _ _ _ _ g2 g1).elim
   cases g2
  ·rcases cases4 y _ h2 with g2 | ⟨g2,_⟩ | ⟨_,g2⟩
   ·exact (hx _ _ _ _ _ _ _ g1 g2).elim
   ·exact h.inj2 _ _ _ _ _ _ _ g1 g2
   cases g2
  cases g1
 ·rcases cases4 y _ h2 with g2 | ⟨g2,_⟩ | ⟨_,g2⟩
  ·have:=h.lt _ (.inl ⟨x,h1⟩); have:=hN.low _ (.inr ⟨y,c,z,g2⟩); omega
  ·exact h.inj3 _ _ _ _ _ h1 g2
  cases g2
 ·obtain ⟨h3,h4⟩:=O0.lor x u h1
  have hb1:Nat.ble BIG x=false:=by
   cases hb:Nat.ble BIG x with
   | false=>rfl
   | true=>have:=Nat.le_of_ble_eq_true hb; omega
  by_cases hxf:x=FK+F
  ·rw [hxf] at h1; exact absurd h1 (hO u)
  rw [mL x hb1 (by omega) hxf] at h2; exact h.fxr x u u' h1 h2
 refine VR.new (b:=fun _=>true) (r:=fun r=>!Nat.beq r B) hA1 (fun x y h1 h2=>?_) (fun x k hx=>by simp at hx) hd hv (hi:=fun h0=>?_)
 ·have:x=B:=Nat.eq_of_beq_eq_true (by simpa using h1);rw [this,mB] at h2; rw [this]; exact h2
 have:BIG=B:=Nat.eq_of_beq_eq_true (by simpa using h0);rw [←this] at hBb;exact absurd hBb (by decide)
theorem oCallD (F:Nat) {f:FuncId} {args:Array Operand} {ts:Array TypeId} {ds:List D} {et te:TypeId} {q:Sq} {d d':D} (hp:PCallD C.P f ds et te q d) (hg:o.guard=none) (hop:o.op=.call { callee:=.value (.func f),args:=args,argTypes:=ts }) {b:Nat} (hd:o.dst=some b) (hn:Nat.blt b C.n=true) (hno:(ds.all Ml)=true)
  (hm:Jp (fun _=>true) (fun r=>!Nat.beq r (Jv b)) (ren id (fun j=>Jv b+j) d)=false) (hx:(fcD (ren id (fun j=>Jv b+j) d) some)=some d') (hf:frB ⟨tm,rw',bx⟩ (fun _=>false) (fun r=>Nat.beq r (Jv b) || !Kg r)=true) (hl:lone ⟨tm,rw',bx⟩ 999999 F=true) (h9:PS.r ⟨tm,rw',bx⟩ 999999=none) (hfn:PS.r ⟨tm,rw',bx⟩ (FK+F)=none) (hO:∀ u,C.O0.fr (FK+F)≠some u) (hfit:fits ⟨tm,rw',bx⟩ args.toList ds)
  (h:VO C ops K rest ⟨(b,d')::tm,(Jv b,some (et,dR F q))::(FK+F,some (te,dF q))::rw',bx⟩) (hF:Nat.blt F 4294967296=true:=by rfl):VO C ops K (o::rest) ⟨tm,rw',bx⟩:=by
 refine vOp hg ⟨fun M a w Q K' hr hk=>?_⟩;rw [Nat.blt_eq] at hF;rw [Li] at hx;cases hx;have hb1000:b<1000:=by have:=hr.nle; rw [Nat.blt_eq] at hn; omega
 have hrun:(execOp a.eval o).run C.P w=.ok (.enter f (args.map a.eval)) w:=by
  have:=hp.enter (args.map a.eval) w;unfold execOp;rw [hop];show ((do let d ←resolve a.eval _ o.type; invoke d.target d.args:Sem Next)).run C.P w=_;simp only [resolve];show ((callFunc f ((#[]++args.map a.eval)++#[])):Sem Next).run C.P w=_;rw [show (#[]++args.map a.eval)++#[]=args.map a.eval by simp];exact this
 unfold Oper.wp;rw [hrun];refine (hp.run w _ (Abn hr hfit hno)).mono ?_;rintro e w' ⟨v,rfl,hB⟩;obtain ⟨N,hN,hv⟩:=hB (Jv b) F (by simp only [Jv]; omega) hF;obtain ⟨M',h1,h2⟩:=hr.newDeep hp.deep hN hF (by simp only [Jv]; omega) (fun f k hk hA=>⟨⟨hA.2,fun ho=>by have:=hr.lt k ho; have:=hA.1; omega⟩,.inl (Nat.le_trans hr.fr.size hA.1)⟩) (Mz hf) hl h9 hfn hO;refine hk M' _ _ _ h ?_;rw [hd];exact h1.put (o:=some b) hn (h2 _ _ hm hv)
end
end
section
open Go.RowKit Go.Deep
theorem mentA_ne {b r:Nat→Bool} {d:D} (h:∀ l,d≠.agg l):Fb b r d=Dh b r d:=by cases d <;> first | rfl | exact absurd rfl (h _)
theorem ment_ne {b r:Nat→Bool} {d:D} (h:∀ l,d≠.tup l):Jp b r d=Fb b r d:=by cases d <;> first | rfl | exact absurd rfl (h _)
theorem renA_ne {τ σ:Nat→Nat} {d:D} (h:∀ l,d≠.agg l):renA τ σ d=renS τ σ d:=by cases d <;> first | rfl | exact absurd rfl (h _)
theorem ren_ne {τ σ:Nat→Nat} {d:D} (h:∀ l,d≠.tup l):ren τ σ d=renA τ σ d:=by cases d <;> first | rfl | exact absurd rfl (h _)
theorem renS_agg {τ σ:Nat→Nat} (d:D):∀ l,renS τ σ d≠.agg l:=by cases d <;> intro l h <;> cases h
theorem renA_tup {τ σ:Nat→Nat} (d:D):∀ l,renA τ σ d≠.tup l:=by cases d <;> intro l h <;> cases h
theorem ment_one {B:Nat}:∀ d:D,Jp (fun _=>true) (fun j=>!Nat.blt j 1) d=false→Jp (fun _=>true) (fun r=>!Nat.beq r B) (ren id (fun j=>B+j) d)=false:=by
 have keyS:∀ d:D,Dh (fun _=>true) (fun j=>!Nat.blt j 1) d=false→Dh (fun _=>true) (fun r=>!Nat.beq r B) (renS id (fun j=>B+j) d)=false:=fun d hd=>by
  cases d <;> simp only [Dh,renS] at hd ⊢ <;> try (first | exact hd | rfl)
  ·rename_i x _ _;have h1:x<1:=by simpa using hd
   have:x=0:=by omega
   subst this; simp [Nat.beq_refl]
  ·rename_i x _ _;have h1:x<1:=by simpa using hd
   have:x=0:=by omega
   subst this; simp [Nat.beq_refl]
  ·rename_i f bs;simpa using hd
  ·exact absurd hd (by decide)
  exact absurd hd (by decide)
 have keyA:∀ d:D,Fb (fun _=>true) (fun j=>!Nat.blt j 1) d=false→Fb (fun _=>true) (fun r=>!Nat.beq r B) (renA id (fun j=>B+j) d)=false:=fun d hd=>by
  by_cases ha:∃ l,d=.agg l
  ·obtain ⟨l,rfl⟩:=ha;simp only [Fb,renA,List.any_eq_false,List.mem_map] at hd ⊢;rintro x ⟨y,hy,rfl⟩;have:=keyS y (by simpa using hd y hy);simp [this]
  have hne:∀ l,d≠.agg l:=fun l e=>ha ⟨l,e⟩;rw [mentA_ne hne] at hd;rw [renA_ne hne,mentA_ne (renS_agg d)];exact keyS d hd
 intro d hd;by_cases ha:∃ l,d=.tup l
 ·obtain ⟨l,rfl⟩:=ha;simp only [Jp,ren,List.any_eq_false,List.mem_map] at hd ⊢;rintro x ⟨y,hy,rfl⟩;have:=keyA y (by simpa using hd y hy);simp [this]
 have hne:∀ l,d≠.tup l:=fun l e=>ha ⟨l,e⟩;rw [ment_ne hne] at hd;rw [ren_ne hne,ment_ne (renA_tup d)];exact keyA d hd
def RetPD (TT:List (Nat×Ty)) (res:List ResultVar) (et te:TypeId) (q:Sq) (d:D):Exit→PS→Prop:=fun e s=>match e with
 | .normal | .ret=>∃ R F d',Nat.blt F 4294967296=true∧retD TT s res=some d'∧s.r R=some (et,dR F q)∧s.r (FK+F)=some (te,dF q)∧Kg R=true∧Wk d' (ren id (fun _=>R) d)∧okD 1 d=true
 | _=>False
theorem pcallD_intro {P:Program} {f:FuncId} {fn:Func} {c:Code} {TT:List (Nat×Ty)} {ds:List D} {et te:TypeId} {q:Sq} {d:D} {n:Nat} {res:List ResultVar} (hT:Qg P TT) (hf:P.funcs[f]? = some fn) (hb:fn.body=some c)
  (hname : (fn.name == "runtime.NumGoroutine") = false) (hn : fn.ntmps = n) (hres : fn.results.toList = res) (hds : Nat.ble ds.length n = true) (hno : (ds.all fun d => Ml d && nwD false d) = true) (hq : q.deep = true)
  (h:∀ w0,VC ⟨P,w0,Hd.no,n⟩ c (RetPD TT res et te q d) ⟨entL 0 ds,[],[]⟩) (hn1000:Nat.ble n 1000=true:=by rfl):PCallD P f ds et te q d:=by
 subst hn hres;refine ⟨Sd hf hname (by simp [hb]),hq,fun w0 args ⟨hsz,hargs⟩=>?_⟩;have hle:=Nat.le_of_ble_eq_true hds
 have hent:Rel w0 Hd.no fn.ntmps M0 ⟨entL 0 ds,[],[]⟩ { tmps:=args++Array.replicate (fn.ntmps-args.size) undef,defers:=[] } w0:=by
  refine ⟨⟨O,O,O,Nat.le_refl _,fun _ _ _=>O⟩,O,by simp; omega,fun t=>?_,fun b cs hb=>by simp [PS.b,Bw] at hb,fun _ _=>O,fun r e q hr=>(by rw [r_ent] at hr; cases hr),fun _ _=>O,?_,by simp,by simp,by simp,Nat.le_of_ble_eq_true hn1000,by simp,by simp⟩
  ·simp only [PS.t,Tf,Nat.zero_le,if_true,Nat.sub_zero]
   cases hd:ds[t]? with
   | none=>exact .dead _
   | some d0=>
    have hlt:t<args.size:=by rw [hsz]; exact (List.getElem?_eq_some_iff.1 hd).1
    have h1:=hargs t d0 hd
    have h2:(args++Array.replicate (fn.ntmps-args.size) undef).getD t undef=args.getD t undef:=by
     simp [Array.getElem?_append_left hlt]
    rw [h2];have h4:=(List.all_eq_true.1 hno) d0 (List.mem_of_getElem? hd);simp only [Bool.and_eq_true] at h4;refine VR.new (b:=fun _=>true) (r:=fun _=>true) (A:=fun f _=>True∧f=false) (fun f b hb hf=>⟨⟨?_,.inr hf.2⟩,hb,O⟩) (fun x y hx=>by simp at hx) (fun x y hx=>by simp at hx) ?_ (h1.flag h4.2)
    ·simpa [Ml] using h4.1
    rintro (⟨x,hx⟩ | ⟨x,c,z,hx⟩) <;> simp at hx
  rintro k (⟨x,hx⟩ | ⟨x,c,z,hx⟩) <;> simp at hx
 refine calls_of_wp hf hb (Code.wp_mono ?_ ((h w0).out M0 _ w0 hent));rintro e a' w' ⟨s',M',hqq,hr⟩
 have fin:∀ (hq':∃ R F d',Nat.blt F 4294967296=true∧retD TT s' fn.results.toList=some d'∧s'.r R=some (et,dR F q)∧s'.r (FK+F)=some (te,dF q)∧Kg R=true∧Wk d' (ren id (fun _=>R) d)∧okD 1 d=true),
   a'.defers=[]∧∃ v,(results fn a'.tmps).run P w'=.ok v w'∧∃ v',Ending.returned v=.returned v'∧∀ B F,B≤500000→F<4294967296→∃ N,NewD N (Rs w0 N) w0 w' B F et te q∧VR N (Rs w0 N) w' (ren id (fun j=>B+j) d) v':=by
  rintro ⟨R,F0,d',hF0,h1,hR,hf0,hFR,h4,h5⟩;rw [Nat.blt_eq] at hF0;obtain ⟨v,h6,h7⟩:=ret_ok hT hr h1;replace h7:=h7.wk h4;refine ⟨hr.dfr,v,h6,v,O,fun B F hB0 hF=>?_⟩;have hB:B<1000000:=by omega
  have hBb:=Ew (Gs hB);simp only [okD,Bool.and_eq_true,Bool.not_eq_true'] at h5;obtain ⟨⟨k1,k2⟩,k3⟩:=h5
  let M1:Mp:=⟨fun _=>none,fun j=>if j=0 then M'.γ R else none⟩
  let N:Mp:=⟨fun _=>none,fun y=>if y=B then M'.γ R else if Nat.ble BIG y=true∧unF y=F∧unK y<q.len then M'.γ (inn F0 (unK y)) else none⟩
  have nB:N.γ B=M'.γ R:=by simp [N]
  have nI:∀ i,i<q.len→N.γ (inn F i)=M'.γ (inn F0 i):=fun i hi=>by
   have e:∀ x,x≠B→(Nat.ble BIG x=true∧unF x=F∧unK x<q.len)→N.γ x=M'.γ (inn F0 (unK x)):=fun x h1 h2=>by simp [N,h1,h2]
   have:=e (inn F i) (fun e=>by have:=Lz F i; rw [e,hBb] at this; cases this) ⟨Lz F i,by rw [Px,Nat.mod_eq_of_lt hF],by rw [Tw]; exact hi⟩
   rwa [Tw] at this
  have nC:∀ y z,N.γ y=some z→(y=B∧M'.γ R=some z)∨∃ i,i<q.len∧y=inn F i∧M'.γ (inn F0 i)=some z:=fun y z hy=>by
   by_cases hyB:y=B
   ·rw [hyB,nB] at hy; exact .inl ⟨hyB,hy⟩
   simp only [N,hyB,if_false] at hy;split at hy
   ·rename_i hc;exact .inr ⟨_,hc.2.2,by rw [←hc.2.1]; exact (Adf hc.1).symm,hy⟩
   cases hy
  have hNo:∀ k,N.owned k→M'.owned k:=by
   rintro k (⟨b,hb⟩ | ⟨y,c,z,hy⟩)
   ·cases hb
   rcases nC y _ hy with ⟨_,h1⟩ | ⟨i,_,_,h1⟩
   ·exact .inr ⟨_,c,z,h1⟩
   exact .inr ⟨_,c,z,h1⟩
  have hlow:∀ k,M'.owned k→w0.heap.size≤k:=fun k hk=>(hr.low k hk).resolve_right (fun h=>h)
  have hA:∀ f b,b<w'.heap.size→(Ow (Fs w0 Hd.no) M' f b∧f=true)→Rs w0 N f b∧b<w'.heap.size∧w'.heap[b]? = w'.heap[b]?:=fun f b hb hh=>
   ⟨⟨hh.1.2.resolve_right (fun h=>by rw [hh.2] at h; cases h),fun ho=>hh.1.1 (hNo b ho)⟩,hb,rfl⟩
  have hdeep:=deep_r hF0 hq hf0;have hRb:=Ew hFR;refine ⟨N,⟨hr.fr.os,hr.fr.tape,hr.fr.output,hr.fr.size,fun k hk=>hr.fr.block k hk (fun h=>h),fun _=>O,?_,fun i hi=>?_,fun x hx hxi=>?_,fun k hk=>hlow k (hNo k hk),fun r r' k c z c' z' a1 a2=>?_⟩,?_⟩
  ·rcases hr.row _ _ _ hR with ⟨b1,b2⟩ | ⟨g,cap,cur,b1,b2,b3,b4,b5,b6⟩
   ·exact .inl ⟨nB.trans b1,by rw [Tr] at b2; exact b2⟩
   rw [Tr] at b3 b6;rw [dR_sz] at b1 b5 b6;refine .inr ⟨g,cap,cur,nB.trans b1,b2,b3,b4,b5,fun i j d0 hi hd=>?_⟩;rcases dR_relem hq hi hd with ⟨rfl,hro⟩ | ⟨y,rfl,hro⟩
   ·have:((dR F0 q).relem i)[j]? = some (.irow F0 i (q.nn i).len):=by
     rcases Yx (F:=F0) hq hi (hro true) with ⟨_,h2⟩ | ⟨y,h2,_⟩
     ·exact h2
     cases h2
    exact (b6 i j _ hi this).irow_mv fun y hy=>by rw [nI i hi] at hy; exact hy
   have:((dR F0 q).relem i)[j]? = some (.int y):=by
    rcases Yx (F:=F0) hq hi (hro true) with ⟨h2,_⟩ | ⟨y',h2,h3⟩
    ·cases h2
    cases h2; exact h3
   rw [(b6 i j _ hi this).int_inv]; exact .int _
  ·have hin:=hdeep i;rw [if_pos hi] at hin;rcases hr.row _ _ _ hin with ⟨b1,b2⟩ | ⟨g,cap,cur,b1,b2,b3,b4,b5,b6⟩
   ·exact .inl ⟨(nI i hi).trans b1,b2⟩
   refine .inr ⟨g,cap,cur,(nI i hi).trans b1,b2,b3,b4,b5,fun i' j d0 hi' hd=>?_⟩;have h8:=b6 i' j d0 hi' hd;rw [Sq.relem_eq (nn_refs q i)] at hd;have hfl:nwS true d0=true∧Pq d0 d0:=Yc true (q.nn i) i' j d0 hd;exact (h8.flagE (M':=M') hfl.2 hfl.1).elem_any hd hA
  ·cases hx':N.γ x with
   | none=>rfl
   | some z=>
    rcases nC x z hx' with ⟨h1,_⟩ | ⟨i,h1,h2,_⟩
    ·exact absurd h1 hx
    exact absurd h2 (hxi i h1)
  ·rcases nC r _ a1 with ⟨e1,b1⟩ | ⟨i,i1,e1,b1⟩
   ·rcases nC r' _ a2 with ⟨e2,b2⟩ | ⟨i',i2,e2,b2⟩
    ·rw [e1,e2]
    have:=hr.inj2 _ _ _ _ _ _ _ b1 b2;have h9:=Lz F0 i';rw [←this,hRb] at h9; cases h9
   rcases nC r' _ a2 with ⟨e2,b2⟩ | ⟨i',i2,e2,b2⟩
   ·have:=hr.inj2 _ _ _ _ _ _ _ b1 b2;have h9:=Lz F0 i;rw [this,hRb] at h9; cases h9
   have:=hr.inj2 _ _ _ _ _ _ _ b1 b2;rw [e1,e2,(inn_inj this).2]
  have h8:VR M1 (Ow (Fs w0 Hd.no) M') w' d v:=VR.unren (M':=M') (A':=Ow (Fs w0 Hd.no) M') (τ:=id) (σ:=fun _=>R) (fun r x hx=>by
   simp only [M1] at hx;split at hx
   ·exact hx
   ·cases hx) (fun b k hb=>by simp [M1] at hb) (fun _ _ _ h=>h) k2 h7 (hi:=fun r x hr1 hx=>by
   simp only [M1] at hx;split at hx
   ·rename_i h0;subst h0;exact absurd hr1 (by decide)
   cases hx)
  have hbk:∀ r x,BIG≤r→M1.γ r=some x→False:=fun r x hr1 hx=>by
   simp only [M1] at hx;split at hx
   ·rename_i h0; subst h0; exact absurd hr1 (by decide)
   cases hx
  have hment:Jp (fun _=>true) (fun j=>!Nat.blt j 1) d=false:=k1
  have h9:VR N (Rs w0 N) w' (ren id (fun j=>B+j) d) v:=by
   let N1:Mp:=⟨fun _=>none,fun y=>if y=B then M'.γ R else none⟩
   have h10:VR N1 (Rs w0 N) w' (ren id (fun j=>B+j) d) v:=VR.ren (M:=M1) hA (fun r x hx=>by
    simp only [N1] at hx;split at hx
    ·rename_i h0;have:r=0:=by omega
     simp only [M1,this,if_true];exact hx
    ·cases hx) (fun b k hb=>by simp [N1] at hb) (h8.flag k3) (hi:=fun r x hr1 hx=>by
    simp only [N1] at hx;split at hx
    ·rename_i h0;rw [←h0,Nat.ble_eq_true_of_le hr1] at hBb; cases hBb
    cases hx)
   have hm2:Jp (fun _=>true) (fun r=>!Nat.beq r B) (ren id (fun j=>B+j) d)=false:=ment_one d hment;refine VR.new (b:=fun _=>true) (r:=fun r=>!Nat.beq r B) (fun f b hb ha=>⟨ha,hb,O⟩) (fun x y hx hy=>?_) (fun x k hx=>by simp at hx) hm2 h10 (hi:=fun h0=>?_)
   ·have:x=B:=Nat.eq_of_beq_eq_true (by simpa using hx);rw [this,nB] at hy;simp only [N1,this,if_true]; exact hy
   have:BIG=B:=Nat.eq_of_beq_eq_true (by simpa using h0);rw [←this] at hBb; exact absurd hBb (by decide)
  exact h9
 cases e with
 | normal=>exact fin hqq
 | ret=>exact fin hqq
 | _=>exact hqq.elim
end
section
open Go.RowKit Go.Deep
theorem idn_snoc {α:Type} (X:List (List α)) (c:List α):idn (X++[c])=idn X++[(X.length,c.length)]:=by simp [idn,List.zipIdx_append]
theorem appI (F:Nat) (X:List (List Int)) (c:List Int):(dR F (.intss X)).app (.irefs F [(X.length,c.length)])=some (dR F (.intss (X++[c]))):=by simp [dR,Sq.app,Nat.beq_refl,idn_snoc]
theorem pushI (X:List (List Int)) (c:List Int):(Fq.ints (X.map some)).push (.ints c)=some (.ints ((X++[c]).map some)):=by simp [Fq.push]
section
variable {C:Cx} {ops:Array Oper} {K:PS→Prop} {o:Oper} {rest:List Oper} {s:PS} {TT:List (Nat×Ty)} {tm:List (Nat×D)} {rw':List (Nat×Option (TypeId×Sq))} {bx:List (Nat×Option (List D))} {cr B:List Nat} {j:Nat}
theorem oAppendD (q':Sq) (hT:Qg C.P TT) (hg:o.guard=none) {t e:TypeId} {k q qb:Sq} {by' b R F m m':Nat} {x y:Operand} {dy:D} {ob:Prop} (hop:o.op=.call { callee:=.builtin .append,args:=#[x,y],argTypes:=#[t,t] }) (hd:o.dst=some b) (hy:Bw TT t=some (.sl e k by'))
  (hx:(PS.ev ⟨tm,rw',bx⟩ x)=.row R 0 m) (hR:PS.r ⟨tm,rw',bx⟩ R=some (e,dR F q)) (hyy:(PS.ev ⟨tm,rw',bx⟩ y)=dy) (hs:Wt ⟨tm,rw',bx⟩ dy=some (ob,qb)) (hob:ob) (hk:Nat.beq k.sz q.sz=true) (hbb:Nat.ble by' 32=true) (hn:Nat.blt b C.n=true) (hlo:Nat.ble R 999999=true)
  (hm:m=q.len) (hm':m'=q'.len) {s':PS} (hnf:nf ⟨(b,.row R 0 m')::(PS.kill ⟨tm,rw',bx⟩ R).tmp,(R,some (e,dR F q'))::rw',(PS.kill ⟨tm,rw',bx⟩ R).box⟩=some s') (happ:(dR F q).app qb=some (dR F q')) (hbd:q.len+qb.len≤4294967296) (h:VO C ops K rest s'):VO C ops K (o::rest) ⟨tm,rw',bx⟩:=by
 subst hm';refine vOp hg (sAppend hT hop hd hy hx hR (by rw [dR_sz]; exact hk) hyy hs happ hbb hn (by rw [Tr]; exact hm) hob (by rw [Tr]; exact hbd) hlo ?_);rw [Tr];exact vNf hnf h
end
end
section
open Go.RowKit Go.Deep
section
variable {C:Cx} {tm:List (Nat×D)} {rw':List (Nat×Option (TypeId×Sq))} {bx:List (Nat×Option (List D))} {s':PS}
end
section
variable {C:Cx} {ops:Array Oper} {K:PS→Prop} {o:Oper} {rest:List Oper} {s:PS} {TT:List (Nat×Ty)} {tm:List (Nat×D)} {rw':List (Nat×Option (TypeId×Sq))} {bx:List (Nat×Option (List D))}
end
end
section
open Go.RowKit Go.Deep
section
variable {C:Cx} {ops:Array Oper} {K:PS→Prop} {o:Oper} {rest:List Oper} {TT:List (Nat×Ty)} {tm:List (Nat×D)} {rw':List (Nat×Option (TypeId×Sq))} {bx:List (Nat×Option (List D))} {cr B:List Nat} {j:Nat}
end
end
section
open Go.RowKit Go.Deep
section
variable {C:Cx} {ops:Array Oper} {Q:Exit→PS→Prop} {s:PS} {fuel:Nat} {listed:Array Bool}
end
section
variable {C:Cx} {tm:List (Nat×D)} {rw':List (Nat×Option (TypeId×Sq))} {bx:List (Nat×Option (List D))} {s':PS}
end
end
section
open Go.RowKit Go.Deep
theorem VR.str_inv {M:Mp} {A:Bool→Nat→Prop} {w:World} {b:ByteArray} {v:Value} (h:VR M A w (.val (.string b)) v):v=.string b:=by cases h; rfl
section
variable {C:Cx} {o:Oper} {s:PS}
theorem pStrEq {t u:TypeId} {x y:Operand} {a b:ByteArray} (hop:o.op=.binOp .eql t x y u) (hx:s.ev x=.val (.string a)) (hy:s.ev y=.val (.string b)):Pur C o s (.bool (a.toList==b.toList)):=
 ⟨fun s1 hs M ac w hr'=>by
  have h1:=hr'.ev x;have h2:=hr'.ev y;rw [hs x (by rw [hop]; simp [Op.operands]),hx] at h1;rw [hs y (by rw [hop]; simp [Op.operands]),hy] at h2;have e1:=h1.str_inv;have e2:=h2.str_inv;refine ⟨.bool (a.toList==b.toList),?_,.bool _⟩;simp only [execOp,hop,e1,e2]
  simp [eqGuard,go_sem]⟩
end
end
section
open Go.RowKit Go.Deep
section
variable {C:Cx} {ops:Array Oper} {K:PS→Prop} {o:Oper} {rest:List Oper} {s:PS} {TT:List (Nat×Ty)} {tm:List (Nat×D)} {rw':List (Nat×Option (TypeId×Sq))} {bx:List (Nat×Option (List D))} {cr B:List Nat} {j:Nat}
theorem pConvI {src dst:TypeId} {x:Operand} {n:Int} {dsrc:TypeDesc} (hs:C.P.underlying src=some dsrc) (hd:C.P.underlying dst=some (.int .i64)) (hop:o.op=.convert src dst x) (hx:s.ev x=.val (.int .u8 n)) (hn:0≤n∧n<256):Pur C o s (.int n):=
 ⟨fun s1 hs1 M ac w hr'=>by
  have h1:=hr'.ev x;rw [hs1 x (by rw [hop]; simp [Op.operands]),hx] at h1;have e1:ac.eval x=.int .u8 n:=by generalize ac.eval x=v at h1; cases h1; rfl
  have hw:IntKind.i64.wrap n=n:=by
   have h2:(2:Int) ^ IntKind.i64.bits=18446744073709551616:=by decide
   have h3:(2:Int) ^ (IntKind.i64.bits-1)=9223372036854775808:=by decide
   simp only [IntKind.wrap,h2,h3];have h4:n % 18446744073709551616=n:=by omega
   rw [h4,if_neg];simp; intro; omega
  refine ⟨.int .i64 n,?_,.int _⟩
  have hrun:(convert src dst (ac.eval x)).run C.P w=.ok (.int .i64 n) w:=by
   rw [e1];cases dsrc <;> simp [convert,Go.run_underlying hs,Go.run_underlying hd,Conv.intToInt,go_sem,hw]
  unfold execOp;rw [hop];show ((do pure (Next.value (←convert src dst (ac.eval x))):Sem Next)).run C.P w=_
  rw [Sem.run_bind,hrun]; rfl⟩
end
end
section
open Go.RowKit Go.Deep
section
variable {C:Cx} {ops:Array Oper} {K:PS→Prop} {o:Oper} {rest:List Oper} {s s':PS} {TT:List (Nat×Ty)} {tm:List (Nat×D)} {rw':List (Nat×Option (TypeId×Sq))} {bx:List (Nat×Option (List D))} {cr B:List Nat} {j:Nat}
end
end
section
open Go.RowKit Go.Deep
structure PCallB (P:Program) (f:FuncId) (ds cs:List D):Prop where
 enter:∀ args w,(callFunc f args).run P w=.ok (.enter f args) w
 noc:(cs.all fun d=>!Dh (fun _=>true) (fun _=>true) d)=true
 run:∀ w args (A:Bool→Nat→Prop),(∀ k,A true k→A false k)→ArgsM A M0 w ds args→Calls P f args w fun e w'=>∃ k cur et,e=.returned (.pointer (some ⟨k,0,none⟩))∧w.heap.size≤k∧w'.heap[k]? = some (.cells cur et (0,0))∧cs.length=cur.size ∧
  (∀ j d,cs[j]? = some d→VR M0 (fun f b=>(A f b∨w.heap.size≤b)∧b≠k) w' d (cur.getD j undef))∧w'.os=w.os∧w'.tape=w.tape∧w'.output=w.output∧w.heap.size≤w'.heap.size∧∀ i,i<w.heap.size→w'.heap[i]? = w.heap[i]?
section
variable {w0:World} {O0:Hd} {n:Nat} {M:Mp} {s:PS} {a:Act} {w w':World}
theorem Rel.newBoxAt (h:Rel w0 O0 n M s a w) {b k0:Nat} {cs:List D} {cur:Array Value} {e:TypeId} (hsz:w.heap.size≤w'.heap.size) (hblk:∀ k,k<w.heap.size→w'.heap[k]? = w.heap[k]?) (hos:w'.os=w.os) (htp:w'.tape=w.tape) (hout:w'.output=w.output) (hk0:w.heap.size≤k0) (hcell:w'.heap[k0]? = some (.cells cur e (0,0)))
  (hf:Fresh s (fun x=>Nat.beq x b) (fun _=>false)) (hl:cs.length=cur.size) (hc:∀ j d,cs[j]? = some d→VR M0 (fun f k=>(Ow (Fs w0 O0) M f k∨w.heap.size≤k)∧k≠k0) w' d (cur.getD j undef)) (hm:∀ d∈cs,Dh (fun _=>true) (fun _=>true) d=false) (hlo:b<1000000) :
  ∃ M',Rel w0 O0 n M' (s.addBox b cs) a w'∧M'.β b=some k0:=by
 let M':Mp:=⟨fun x=>if x=b then some k0 else M.β x,M.γ⟩
 have hown:∀ k,M'.owned k→M.owned k∨k=k0:=by
  rintro k (⟨x,hx⟩ | ⟨r,c,z,hr⟩)
  ·simp only [M'] at hx;split at hx
   ·cases hx; exact .inr rfl
   exact .inl (.inl ⟨x,hx⟩)
  exact .inl (.inr ⟨r,c,z,hr⟩)
 have hA:∀ f k,k<w.heap.size→Ow (Fs w0 O0) M f k→Ow (Fs w0 O0) M' f k∧k<w'.heap.size∧w'.heap[k]? = w.heap[k]?:=fun f k h1 h2=>
  ⟨⟨fun h3=>by rcases hown k h3 with h4 | h4; exact h2.1 h4; omega,h2.2⟩,by omega,hblk k h1⟩
 have hA1:∀ f k,k<w'.heap.size→((Ow (Fs w0 O0) M f k∨w.heap.size≤k)∧k≠k0)→Ow (Fs w0 O0) M' f k∧k<w'.heap.size∧w'.heap[k]? = w'.heap[k]?:=fun f k h1 ⟨h2,h5⟩=>by
  refine ⟨⟨fun h3=>?_,?_⟩,h1,O⟩
  ·rcases hown k h3 with h4 | h4
   ·rcases h2 with h2 | h2
    ·exact h2.1 h4
    have:=h.lt k h4; omega
   exact h5 h4
  rcases h2 with h2 | h2
  ·exact h2.2
  exact .inl (Nat.le_trans h.fr.size h2)
 have hβ:∀ x k,Nat.beq x b=false→M'.β x=some k→M.β x=some k:=fun x k h1 h2=>by
  simp only [M'] at h2;rw [if_neg] at h2
  ·exact h2
  intro e; subst e; rw [Nat.beq_refl] at h1; cases h1
 have hγ:∀ x y,(fun _=>false) x=false→M'.γ x=some y→M.γ x=some y:=fun x y _ h=>h;refine ⟨M',⟨?_,h.dfr,h.sz,fun t=>?_,fun x ds hx=>?_,fun x hx=>?_,fun r e q hr=>?_,fun r hr=>h.rown r hr,fun k hk=>?_,fun x x' k h1 h2=>?_,h.inj2,fun x r k c z h1 h2=>?_,h.nle,fun x k k' h1 h2=>?_,h.fxr⟩,by simp [M']⟩
 ·exact h.fr.step hos htp hout hsz fun k h1 _=>hblk k (Nat.lt_of_lt_of_le h1 h.fr.size)
 ·exact VR.new hA hγ hβ (hf.t t) (h.tmp t)
 ·by_cases hxb:b=x
  ·subst hxb;simp [PS.addBox,PS.b,At] at hx;subst hx;exact ⟨k0,cur,e,by simp [M'],hcell,hl,fun j d hd=>VR.newS (b:=fun _=>true) (r:=fun _=>true) hA1 (fun x y hx=>by cases hx) (fun x y hx=>by cases hx) (hm d (List.mem_of_getElem? hd)) (hc j d hd)⟩
  have hx':s.b x=some ds:=by simpa [PS.addBox,PS.b,Au hxb] using hx
  obtain ⟨k,cur',e',h1,h2,h3,h4⟩:=h.box x ds hx';have hlt:=(Array.getElem?_eq_some_iff.1 h2).1;exact ⟨k,cur',e',by simp [M',Ne.symm hxb,h1],(hblk k hlt).trans h2,h3,fun j d hd=>VR.newS hA hγ hβ (hf.b _ _ hx' d (List.mem_of_getElem? hd)) (h4 j d hd)⟩
 ·by_cases hxb:b=x
  ·subst hxb; simp [PS.addBox,PS.b,At] at hx
  have hx':s.b x=none:=by simpa [PS.addBox,PS.b,Au hxb] using hx
  simp [M',Ne.symm hxb,h.boxn x hx']
 ·rcases h.row r e q hr with ⟨h1,h2⟩ | ⟨g,cap,cur',h1,h2,h3,h4,h5,h6⟩
  ·exact .inl ⟨h1,h2⟩
  have hlt:=(Array.getElem?_eq_some_iff.1 h2).1;exact .inr ⟨g,cap,cur',h1,(hblk g hlt).trans h2,h3,h4,h5,fun i j d hi hd=>(h6 i j d hi hd).relem_any hd hA⟩
 ·rcases hown k hk with h1 | rfl
  ·exact h.low k h1
  exact .inl (Nat.le_trans h.fr.size hk0)
 ·have hno:∀ y,M.β y≠some k0:=fun y hy=>by have:=h.lt _ (.inl ⟨y,hy⟩); omega
  simp only [M'] at h1 h2;split at h1 <;> split at h2
  ·simp_all
  ·cases h1; exact absurd h2 (hno _)
  ·cases h2; exact absurd h1 (hno _)
  exact h.inj1 _ _ _ h1 h2
 ·simp only [M'] at h1;split at h1
  ·cases h1; have:=h.lt _ (.inr ⟨r,c,z,h2⟩); omega
  exact h.inj3 _ _ _ _ _ h1 h2
 have h3:=O0.lob x k h1;simp only [M'] at h2;rw [if_neg (by omega)] at h2;exact h.fxb x k k' h1 h2
end
section
variable {C:Cx} {ops:Array Oper} {K:PS→Prop} {o:Oper} {rest:List Oper} {s s':PS} {TT:List (Nat×Ty)} {tm:List (Nat×D)} {rw':List (Nat×Option (TypeId×Sq))} {bx:List (Nat×Option (List D))}
def fitsB (s:PS):List Operand→List D→Prop
 | [],[]=>True
 | x::xs,d::ds=>s.ev x=d∧Ml d=true∧fitsB s xs ds
 | _,_=>False
theorem fitsB_get {s:PS}:∀ {xs:List Operand} {ds:List D},fitsB s xs ds→xs.length=ds.length∧∀ (i:Nat) (d:D),ds[i]? = some d→∃ x:Operand,xs[i]? = some x∧s.ev x=d∧Ml d=true
 | [],[],_=>⟨rfl,fun i d h=>by simp at h⟩
 | x::xs,d::ds,h=>by
  obtain ⟨h1,h2,h3⟩:=h;obtain ⟨h4,h5⟩:=fitsB_get h3;refine ⟨by simp [h4],fun i e hi=>?_⟩
  cases i with
  | zero=>simp at hi; subst hi; exact ⟨x,rfl,h1,h2⟩
  | succ i=>simp at hi ⊢; exact h5 i e hi
theorem oCallB {f:FuncId} {args:Array Operand} {ts:Array TypeId} {ds cs:List D} (hp:PCallB C.P f ds cs) (hg:o.guard=none) (hop:o.op=.call { callee:=.value (.func f),args:=args,argTypes:=ts }) {b:Nat} (hd:o.dst=some b) (hn:Nat.blt b C.n=true) (hfr:frB ⟨tm,rw',bx⟩ (fun y=>Nat.beq y b) noB=true)
  (hfit:fitsB ⟨tm,rw',bx⟩ args.toList ds) (h:VO C ops K rest ⟨(b,.ptr b 0)::tm,rw',(b,some cs)::bx⟩):VO C ops K (o::rest) ⟨tm,rw',bx⟩:=by
 refine vOp hg ⟨fun M a w Q K' hr hk=>?_⟩
 have hrun:(execOp a.eval o).run C.P w=.ok (.enter f (args.map a.eval)) w:=by
  have:=hp.enter (args.map a.eval) w;unfold execOp;rw [hop];show ((do let d ←resolve a.eval _ o.type; invoke d.target d.args:Sem Next)).run C.P w=_;simp only [resolve];show ((callFunc f ((#[]++args.map a.eval)++#[])):Sem Next).run C.P w=_;rw [show (#[]++args.map a.eval)++#[]=args.map a.eval by simp];exact this
 obtain ⟨g1,g2⟩:=fitsB_get hfit
 have hargs:ArgsM (Ow (Fs C.w0 C.O0) M) M0 w ds (args.map a.eval):=by
  refine ⟨by simpa using g1,fun i d hi=>?_⟩;obtain ⟨x,hx,hev,hno⟩:=g2 i d hi;have h1:=hr.ev x;rw [hev] at h1
  have h2:(args.map a.eval).getD i undef=a.eval x:=by
   have:args[i]? = some x:=by simpa using hx
   simp [this]
  rw [h2];refine VR.new (b:=fun _=>true) (r:=fun _=>true) (fun f k h1 h2=>⟨h2,h1,O⟩) (fun x y hx=>by cases hx) (fun x y hx=>by cases hx) ?_ h1;simpa [Ml] using hno
 unfold Oper.wp;rw [hrun];refine (hp.run w _ (Ow (Fs C.w0 C.O0) M) (fun k hk=>⟨hk.1,hk.2.imp_right (C.O0.mon k)⟩) hargs).mono ?_;rintro e w' ⟨k,cur,et,rfl,k1,k2,k3,k4,k5,k6,k7,k8,k9⟩;have hlo:b<1000000:=by have h1000:=hr.nle; rw [Nat.blt_eq] at hn; omega
 obtain ⟨M',h2,h3⟩:=hr.newBoxAt (b:=b) (k0:=k) (cs:=cs) k8 k9 k5 k6 k7 k1 k2 (Mz hfr) k3 (fun j d hj=>k4 j d hj) (fun d hd=>by have:=(List.all_eq_true.1 hp.noc) d hd; simpa using this) hlo;refine hk M' _ _ _ h ?_;rw [hd];exact h2.put (o:=some b) hn (.ptr _ _ _ O fun k hk=>by rw [h3] at hk; cases hk; rfl)
end
def RetB (TT:List (Nat×Ty)) (res:List ResultVar) (cs:List D):Exit→PS→Prop:=fun e s=>match e with
 | .normal | .ret=>∃ b,retD TT s res=some (.ptr b 0)∧s.b b=some cs∧Nat.blt b 1000000=true
 | _=>False
theorem pcallB_intro {P:Program} {f:FuncId} {fn:Func} {c:Code} {TT:List (Nat×Ty)} {ds cs:List D} {n:Nat} {res:List ResultVar} (hT:Qg P TT) (hf:P.funcs[f]? = some fn) (hb:fn.body=some c)
  (hname : (fn.name == "runtime.NumGoroutine") = false) (hn : fn.ntmps = n) (hres : fn.results.toList = res) (hds : Nat.ble ds.length n = true) (hno : (ds.all Ml) = true) (hnoc : (cs.all fun d => !Dh (fun _ => true) (fun _ => true) d) = true)
  (h:∀ w0 O0,VC ⟨P,w0,O0,n⟩ c (RetB TT res cs) ⟨entL 0 ds,[],[]⟩) (hn1000:Nat.ble n 1000=true:=by rfl):PCallB P f ds cs:=by
 subst hn hres;refine ⟨Sd hf hname (by simp [hb]),hnoc,fun w0 args A hmon ⟨hsz,hargs⟩=>?_⟩;have hle:=Nat.le_of_ble_eq_true hds
 let O0:Hd:=⟨fun _=>False,fun f k=>A f k,fun _ _ h=>h.elim,hmon,fun _=>none,fun _=>none,fun _ _ h=>(by cases h),fun _ _ h=>(by cases h)⟩
 have hM0:∀ k,¬ M0.owned k:=by rintro k (⟨x,hx⟩ | ⟨x,c,z,hx⟩) <;> simp at hx
 have hent:Rel w0 O0 fn.ntmps M0 ⟨entL 0 ds,[],[]⟩ { tmps:=args++Array.replicate (fn.ntmps-args.size) undef,defers:=[] } w0:=by
  refine ⟨⟨O,O,O,Nat.le_refl _,fun _ _ _=>O⟩,O,by simp; omega,fun t=>?_,fun b cs hb=>by simp [PS.b,Bw] at hb,fun _ _=>O,fun r e q hr=>(by rw [r_ent] at hr; cases hr),fun _ _=>O,fun k hk=>absurd hk (hM0 k),by simp,by simp,by simp,Nat.le_of_ble_eq_true hn1000,fun b k k' h=>by simp [O0] at h,fun b k k' h=>by simp [O0] at h⟩;simp only [PS.t,Tf,Nat.zero_le,if_true,Nat.sub_zero]
  cases hd:ds[t]? with
  | none=>exact .dead _
  | some d0=>
   have hlt:t<args.size:=by rw [hsz]; exact (List.getElem?_eq_some_iff.1 hd).1
   have h1:=hargs t d0 hd
   have h2:(args++Array.replicate (fn.ntmps-args.size) undef).getD t undef=args.getD t undef:=by
    simp [Array.getElem?_append_left hlt]
   rw [h2];exact h1.mono (fun f b h1 h2=>⟨⟨hM0 b,.inr h2⟩,h1,O⟩) (fun _ _ h=>h) (fun _ _ h=>h)
 refine calls_of_wp hf hb (Code.wp_mono ?_ ((h w0 O0).out M0 _ w0 hent));rintro e a' w' ⟨s',M',hq,hr⟩
 have fin:∀ (hq:∃ b,retD TT s' fn.results.toList=some (.ptr b 0)∧s'.b b=some cs∧Nat.blt b 1000000=true),
   a'.defers=[]∧∃ v,(results fn a'.tmps).run P w'=.ok v w'∧∃ k cur et,Ending.returned v=.returned (.pointer (some ⟨k,0,none⟩))∧w0.heap.size≤k∧w'.heap[k]? = some (.cells cur et (0,0))∧cs.length=cur.size ∧
    (∀ j d,cs[j]? = some d→VR M0 (fun f b=>(A f b∨w0.heap.size≤b)∧b≠k) w' d (cur.getD j undef))∧w'.os=w0.os∧w'.tape=w0.tape∧w'.output=w0.output∧w0.heap.size≤w'.heap.size∧∀ i,i<w0.heap.size→w'.heap[i]? = w0.heap[i]?:=by
  rintro ⟨b,h1,h2,h3⟩;obtain ⟨v,h6,h7⟩:=ret_ok hT hr h1;obtain ⟨k,cur,et,g1,g2,g3,g4⟩:=hr.box b cs h2
  have hv:v=.pointer (some ⟨k,0,none⟩):=by
   cases h7 with
   | ptr _ _ _ _ h8=>exact h8 k g1
  refine ⟨hr.dfr,v,h6,k,cur,et,by rw [hv],(hr.low k (.inl ⟨b,g1⟩)).resolve_right (fun h=>h),g2,g3,fun j d hj=>?_,hr.fr.os,hr.fr.tape,hr.fr.output,hr.fr.size,fun i hi=>hr.fr.block i hi (fun h=>h)⟩;have hmm:=(List.all_eq_true.1 hnoc) d (List.mem_of_getElem? hj);refine VR.newS (b:=fun _=>true) (r:=fun _=>true) (fun f i h1 h2=>⟨⟨?_,fun e=>h2.1 (by rw [e]; exact .inl ⟨b,g1⟩)⟩,h1,O⟩) (fun x y hx=>by cases hx) (fun x y hx=>by cases hx) (by simpa using hmm) (g4 j d hj);rcases h2.2 with h3 | h3
  ·exact .inr h3
  exact .inl h3
 cases e <;> first | exact fin hq | exact hq.elim
end
section
open Go.RowKit Go.Deep
structure Cur where
 b:List Int
 i:Int
 h:Int
def xorI (a b:Int):Int:=IntKind.i64.wrap ((BitVec.ofInt 64 a ^^^ BitVec.ofInt 64 b).toNat:Int)
section
variable {C:Cx} {ops:Array Oper} {K:PS→Prop} {o:Oper} {rest:List Oper} {s:PS} {tm:List (Nat×D)} {rw':List (Nat×Option (TypeId×Sq))} {bx:List (Nat×Option (List D))}
theorem pXor {t u:TypeId} {x y:Operand} {a b:Int} (hop:o.op=.binOp .xor t x y u) (hx:s.ev x=.int a) (hy:s.ev y=.int b):Pur C o s (.int (xorI a b)):=
 ⟨fun s1 hs M ac w hr'=>by
  have h1:=hr'.ev x;have h2:=hr'.ev y;rw [hs x (by rw [hop]; simp [Op.operands]),hx] at h1;rw [hs y (by rw [hop]; simp [Op.operands]),hy] at h2;have e1:=h1.int_inv;have e2:=h2.int_inv;refine ⟨.int .i64 (xorI a b),?_,.int _⟩;simp only [execOp,hop,e1,e2];simp [eqGuard,binOp,Op.intBits,go_sem,IntKind.bits]
  rfl⟩
theorem pShrU {t u:TypeId} {x y:Operand} {a n:Int} (hop:o.op=.binOp .shr t x y u) (hx:s.ev x=.int a) (hy:s.ev y=.val (.int .u64 n)) (hn:0≤n):Pur C o s (.int (shrI a n)):=
 ⟨fun s1 hs M ac w hr'=>by
  have h1:=hr'.ev x;have h2:=hr'.ev y;rw [hs x (by rw [hop]; simp [Op.operands]),hx] at h1;rw [hs y (by rw [hop]; simp [Op.operands]),hy] at h2;have e1:=h1.int_inv;have e2:ac.eval y=.int .u64 n:=by generalize ac.eval y=v at h2; cases h2; rfl
  have h4:¬ n<0:=by omega
  refine ⟨.int .i64 (shrI a n),?_,.int _⟩;simp only [execOp,hop,e1,e2];simp [eqGuard,binOp,Op.shift,go_sem,h4,IntKind.bits]
  rfl⟩
theorem En.zero (r:Nat) (e:TypeId) (q:Sq) (hq:q.len=0) (hf:frB ⟨tm,rw',bx⟩ noB (isR r)=true) (hr:Nat.blt r 1000000=true:=by rfl):En C ⟨tm,rw',bx⟩ ⟨tm,(r,some (e,q))::rw',bx⟩:=⟨fun M a w h=>by
 rw [Nat.blt_eq] at hr;obtain ⟨M',h1,_⟩:=h.nilRow (r:=r) (e:=e) (q:=q) hq (Mz hf) hr
 exact ⟨M',h1⟩⟩
end
end
section
open Go.RowKit
end
section
open Go.RowKit
end
section
open Go.RowKit
end
section
open Go.RowKit Go.Deep
end
end Go.Proofs.YtaipbhnpandbkaaGreat
