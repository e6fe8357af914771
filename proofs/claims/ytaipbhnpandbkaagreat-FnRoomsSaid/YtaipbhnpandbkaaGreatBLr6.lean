/- Texts that the proof needs, put together: Sm SoS G93 G95 G97 Qm SoR G91 Qn M17 M18 M19 M20 M21 G30 G32 G31 G33 G34 G35 G40 G38 G56 G24 G71 G72. -/
import Derived.Sort.Grow
import Derived.Sort.EveryDepth
import Derived.Shelf.Sort.AssemblyIn
import Derived.Shelf.Slices.In.SortNone
import Derived.Ground.NamesProg
import Derived.Shelf.Slices.Reverse
import Derived.Laws.Strings
import Derived.Laws.BytesArg
import Derived.Test.YtaipbhnpandbkaaGreatBLr3
import Derived.Test.YtaipbhnpandbkaaGreatBLr4
import Derived.Test.YtaipbhnpandbkaaGreatBLr5
set_option maxRecDepth 20000
set_option maxHeartbeats 1600000
set_option linter.unusedVariables false
set_option linter.unusedSimpArgs false
namespace Go.Proofs.YtaipbhnpandbkaaGreat
section
open Go.RowKit Go.Deep Go.Sort
structure RowPut (w w':World) (blk m:Nat) (F':Nat→Value):Prop where
 os:w'.os=w.os
 tape:w'.tape=w.tape
 output:w'.output=w.output
 size:w.heap.size≤w'.heap.size
 else_:∀ k,k<w.heap.size→k≠blk→w'.heap[k]? = w.heap[k]?
 here:∀ cur e fr,w.heap[blk]? = some (.cells cur e fr)→∃ cur':Array Value,w'.heap[blk]? = some (.cells cur' e fr)∧cur'.size=cur.size∧∀ t,t<m→t<cur.size→cur'.getD t undef=F' t
theorem RowPut.to {w w':World} {blk m m':Nat} {F F':Nat→Value} (h:RowPut w w' blk m F) (hm:m'=m) (hF:∀ t,t<m→F t=F' t):RowPut w w' blk m' F':=
 ⟨h.os,h.tape,h.output,h.size,h.else_,fun cur e fr hb=>by
  obtain ⟨c,h1,h2,h3⟩:=h.here cur e fr hb
  exact ⟨c,h1,h2,fun t h4 h5=>by rw [h3 t (by omega) h5,hF t (by omega)]⟩⟩
theorem Xq {α:Type} [Inhabited α] {enc:α→Value} {w:World} {blk n:Nat} {d:Array α} {os:Array Obj}:RowPut w (grow (putRow enc (Sort.ahead w n) blk 0 d) os) blk d.size (fun t=>enc d[t]!):=by
 refine ⟨O,O,O,by simp,fun k hk hne=>?_,fun cur e fr h=>?_⟩
 ·rw [heap_grow_old _ _ (by simpa using hk)];simp [putRow,mapBlock,Sort.ahead,Array.getElem?_modify,Ne.symm hne]
 refine ⟨putCells enc 0 d cur,?_,by simp [putCells],fun t h1 h2=>?_⟩
 ·have hg:blk<w.heap.size:=(Array.getElem?_eq_some_iff.1 h).1;rw [heap_grow_old _ _ (by simpa using hg)];simp [putRow,mapBlock,Sort.ahead,Array.getElem?_modify,h,onCells]
 simp [putCells,h1,h2]
def Kb:Sq→Nat→Value
 | .ints l,t=>.int .i64 (l.getD t 0)
 | .pairs l,t=>.int .i64 (match t % 2 with | 0=>(l.getD (t / 2) (0,0)).1 | _=>(l.getD (t / 2) (0,0)).2)
 | _,_=>undef
def isIP:Sq→Bool
 | .ints _ | .pairs _=>true
 | _=>false
theorem cellsQ_rel {q:Sq} (hq:isIP q=true) {M:Mp} {A:Bool→Nat→Prop} {w:World} {i j:Nat} {d:D} (hi:i<q.len) (hd:(q.relem i)[j]? = some d):VR M A w d (Kb q (i*q.sz+j)):=by
 cases q <;> first | (cases hq; done) | skip
 ·rename_i l;rcases j with _ | j <;> simp [Sq.relem,Sq.elem] at hd;subst hd;simp only [Kb,Sq.sz,Nat.mul_one,Nat.add_zero];simp only [List.getD_eq_getElem?_getD];exact .int _
 rename_i l;rcases j with _ | _ | j <;> simp [Sq.relem,Sq.elem] at hd
 ·subst hd;have e1:(i*2+0) % 2=0:=by omega
  have e2:(i*2+0) / 2=i:=by omega
  simp only [Kb,Sq.sz,e1,e2];simp only [List.getD_eq_getElem?_getD];exact .int _
 subst hd;have e1:(i*2+(0+1)) % 2=1:=by omega
 have e2:(i*2+(0+1)) / 2=i:=by omega
 simp only [Kb,Sq.sz,e1,e2];simp only [List.getD_eq_getElem?_getD];exact .int _
theorem VR.int_val {M:Mp} {A:Bool→Nat→Prop} {w:World} {n:Int} {v:Value} (h:VR M A w (.int n) v):v=.int .i64 n:=by cases h; rfl
theorem cellsQ_read {q:Sq} (hq:isIP q=true) {M:Mp} {A:Bool→Nat→Prop} {w:World} {f:Nat→Value} (h:∀ i j d,i<q.len→(q.relem i)[j]? = some d→VR M A w d (f (i*q.sz+j))) {t:Nat} (ht:t<q.len*q.sz):f t=Kb q t:=by
 cases q <;> first | (cases hq; done) | skip
 ·rename_i l;simp only [Sq.len,Sq.sz,Nat.mul_one] at ht h;have:=(h t 0 (.int (l.getD t 0)) ht (by simp [Sq.relem,Sq.elem,List.getD_eq_getElem?_getD])).int_val;simpa [Kb] using this
 rename_i l;simp only [Sq.len,Sq.sz] at ht h;have h0:t / 2<l.length:=by omega
 rcases (by omega:t % 2=0∨t % 2=1) with e | e
 ·have:=(h (t / 2) 0 (.int (l.getD (t / 2) (0,0)).1) h0 (by simp [Sq.relem,Sq.elem,List.getD_eq_getElem?_getD])).int_val;rw [show t / 2*2+0=t by omega] at this;rw [this]; simp [Kb,e]
 have:=(h (t / 2) 1 (.int (l.getD (t / 2) (0,0)).2) h0 (by simp [Sq.relem,Sq.elem,List.getD_eq_getElem?_getD])).int_val;rw [show t / 2*2+1=t by omega] at this;rw [this]; simp [Kb,e]
structure Lays1 (P:Program) (f:FuncId) (vs:List Value) (q q':Sq):Prop where
 some_:∀ (blk cap:Nat) (w:World),(∀ t,t<q.len*q.sz→w.cell? ⟨blk,t,none⟩=some (Kb q t)∧w.frozen? ⟨blk,t,none⟩=false)→blk<w.heap.size→q.len≤maxLen →
  Calls P f (Value.slice (some ⟨blk,0,none⟩) q.len cap::vs).toArray w fun e w'=>e=.returned (.tuple #[])∧RowPut w w' blk (q'.len*q'.sz) (Kb q')
 none_:q.len=0→∀ (p:Option Addr) (cap:Nat) (w:World),Calls P f (Value.slice p 0 cap::vs).toArray w fun e w'=>e=.returned (.tuple #[])∧w'=w
theorem Wa {P:Program} {f:FuncId} (en:∀ args w,(callFunc f args).run P w=.ok (.enter f args) w) {ds:List D} {vs:List Value} {e:TypeId} {q q':Sq} (hq:isIP q=true) (hq':isIP q'=true) (hl:q'.len=q.len) (hz:q'.sz=q.sz)
  (hvs:ds.length=vs.length) (hds:∀ M A w i d v,ds[i]? = some d→VR M A w d v→vs.getD i undef=v) (hL:Lays1 P f vs q q') :
  MCall P f (.row 1000000 0 q.len::ds) [1000000] [] [(e,q)] [(e,q')] [] [] (.tup []):=by
 have hrf:q'.refF=none:=by cases q' <;> first | (cases hq'; done) | rfl
 refine ⟨en,⟨O,O,O,O⟩,O,O,by simp [conR,hrf],O,⟨O,O⟩,fun w N args A hA1 hA2 hM hargs=>?_⟩;obtain ⟨ha,hv⟩:=hargs;have h0:=hv 0 _ rfl
 have hargs':args=(args.getD 0 undef::vs).toArray:=by
  apply Array.ext
  ·simpa [hvs] using ha
  intro i h1 h2;rcases i with _ | i
  ·simp [Array.getD_eq_getD_getElem?,h1]
  have hi:i<vs.length:=by simpa using h2
  have hi':i<ds.length:=by omega
  have:=hds N A w i ds[i] _ (by simp [hi']) (hv (i+1) ds[i] (by simp [hi']));rw [Array.getD_eq_getD_getElem?,Array.getElem?_eq_getElem h1] at this;simp [List.getD_eq_getElem?_getD,hi] at this;simp [this]
 have hrow:=hM.row 1000000 e q (by rfl);have hvr:∀ x,N.γ 1000000=some x→Ri x 0 q.len (args.getD 0 undef):=by cases h0 with | row _ _ _ _ _ h=>exact h
 have hγ:∀ r,r≠1000000→N.γ r=none:=fun r hr=>hM.rown r (by
  show PS.r ⟨[],[(1000000,some (e,q))],[]⟩ r=none;unfold PS.r
  cases hb:Nat.ble BIG r with
  | true=>
   simp only [PS.inn];have:Bf [(1000000,some (e,q))] (FK+unF r)=none:=by rw [Ap (by have:FK=8589934592:=rfl; omega)]; rfl
   rw [this]; rfl
  | false=>simp only; rw [Ap (Ne.symm hr)]; rfl)
 rcases hrow with ⟨hn,h00⟩ | ⟨g,cap,cur,hg,hblk,hlc,hcm,hcs,hcells⟩
 ·have hv2:=hvr _ hn;obtain ⟨⟨ao,hv3⟩,h3,_⟩:=hv2;rw [hargs',hv3];refine (hL.none_ h00 ao 0 w).mono ?_;rintro x w' ⟨rfl,rfl⟩;refine ⟨_,O,N,⟨?_,hM.boxn,fun r e' q'' hr=>?_,fun r hr=>?_,hM.inj1,hM.inj2,hM.inj3⟩,fun _=>O,fun _ _ _=>O,fun k hk=>.inl hk,O,O,O,Nat.le_refl _,fun _ _ _=>O,?_⟩
  ·intro b cs hb; cases hb
  ·by_cases hr1:r=1000000
   ·subst hr1;have:(e,q')=(e',q''):=by simpa [PS.r,asL,Ao,show Nat.ble BIG 1000000=false from rfl] using hr
    cases this;exact .inl ⟨hn,by omega⟩
   exfalso
   have:PS.r ⟨[],[(1000000,some (e,q'))],[]⟩ r=none:=by
    unfold PS.r
    cases hb:Nat.ble BIG r with
    | true=>
     simp only [PS.inn];have:Bf [(1000000,some (e,q'))] (FK+unF r)=none:=by rw [Ap (by have:FK=8589934592:=rfl; omega)]; rfl
     rw [this]; rfl
    | false=>simp only; rw [Ap (Ne.symm hr1)]; rfl
   have hr':PS.r ⟨[],[(1000000,some (e,q'))],[]⟩ r=some (e',q''):=hr;rw [this] at hr'; cases hr'
  ·by_cases hr1:r=1000000
   ·subst hr1;have hr':PS.r ⟨[],[(1000000,some (e,q'))],[]⟩ 1000000=none:=hr;simp [PS.r,Ao,show Nat.ble BIG 1000000=false from rfl] at hr'
   exact hγ r hr1
  exact .tup [] #[] O (fun i d h=>by simp at h)
 obtain ⟨_,ao,hv3,hao⟩:=hvr _ hg;have hao':=hao (.inr rfl);subst hao';have hgs:g<w.heap.size:=Rj hblk;have hlen:q.len≤maxLen:=Nat.le_trans hlc hcm;rw [Nat.zero_mul] at hv3;rw [hargs',hv3];have hsz:q.len*q.sz≤cur.size:=by rw [hcs]; exact Nat.mul_le_mul_right _ hlc
 have hcq:∀ t,t<q.len*q.sz→cur.getD t undef=Kb q t:=fun t ht=>cellsQ_read hq (f:=fun t=>cur.getD t undef) hcells ht;refine (hL.some_ g (cap-0) w (fun t ht=>?_) hgs hlen).mono ?_
 ·have h1:=hcq t ht;have ht2:t<cur.size:=by omega
  rw [Array.getD_eq_getD_getElem?,Array.getElem?_eq_getElem ht2] at h1;refine ⟨?_,by simp [World.frozen?,hblk]⟩;simp only [World.cell?,hblk];simp only [Option.isSome_none,Bool.false_eq_true,if_false];rw [Array.getElem?_eq_getElem ht2];simpa using h1
 rintro x w' ⟨rfl,hP⟩;obtain ⟨cur',hb',hs',hc'⟩:=hP.here _ _ _ hblk;refine ⟨_,O,N,⟨?_,hM.boxn,fun r e' q'' hr=>?_,fun r hr=>?_,hM.inj1,hM.inj2,hM.inj3⟩,fun _=>O,fun _ _ _=>O,fun k hk=>.inl hk,hP.os,hP.tape,hP.output,hP.size,fun k hk hno=>hP.else_ k hk fun e1=>hno (.inr ⟨1000000,cap,q.sz,by rw [hg,e1]⟩),?_⟩
 ·intro b cs hb; cases hb
 ·by_cases hr1:r=1000000
  ·subst hr1;have:(e,q')=(e',q''):=by simpa [PS.r,asL,Ao,show Nat.ble BIG 1000000=false from rfl] using hr
   cases this;refine .inr ⟨g,cap,cur',by rw [hg,hz],hb',by omega,hcm,by rw [hs',hcs,hz],fun i j d hi hd=>?_⟩
   have hj:j<q'.sz:=by
    cases q' <;> first | (cases hq'; done) | skip
    ·rcases j with _ | j <;> simp [Sq.relem,Sq.elem] at hd; simp [Sq.sz]
    rcases j with _ | _ | j <;> simp [Sq.relem,Sq.elem] at hd <;> simp [Sq.sz]
   have hin:i*q'.sz+j<q'.len*q'.sz:=by
    have h5:=Nat.mul_le_mul_right q'.sz (show i+1≤q'.len from hi);rw [Nat.add_mul,Nat.one_mul] at h5; omega
   rw [hc' _ hin (by rw [hl,hz] at hin; rw [hz]; omega)];exact cellsQ_rel hq' hi hd
  exfalso
  have:PS.r ⟨[],[(1000000,some (e,q'))],[]⟩ r=none:=by
   unfold PS.r
   cases hb:Nat.ble BIG r with
   | true=>
    simp only [PS.inn];have:Bf [(1000000,some (e,q'))] (FK+unF r)=none:=by rw [Ap (by have:FK=8589934592:=rfl; omega)]; rfl
    rw [this]; rfl
   | false=>simp only; rw [Ap (Ne.symm hr1)]; rfl
  have hr':PS.r ⟨[],[(1000000,some (e,q'))],[]⟩ r=some (e',q''):=hr;rw [this] at hr'; cases hr'
 ·by_cases hr1:r=1000000
  ·subst hr1;have hr':PS.r ⟨[],[(1000000,some (e,q'))],[]⟩ 1000000=none:=hr;simp [PS.r,Ao,show Nat.ble BIG 1000000=false from rfl] at hr'
  exact hγ r hr1
 exact .tup [] #[] O (fun i d h=>by simp at h)
end
section
open Go.RowKit Go.Deep Go.Sort
def layS_ren:Go.Shelf.Ren:=⟨fun | 189=>75 | 125=>111 | 257=>110 | 128=>145 | 129=>146 | 294=>136 | 295=>137 | 296=>138 | 297=>139 | 298=>140 | 299=>141 | 216=>142 | 300=>143 | 301=>144 | 328=>175 | 329=>176 | 330=>177 | 331=>178 | 332=>179 | 215=>180 | 343=>194 | n=>n,fun | 28=>27 | 3=>3 | 46=>117 | 0=>0 | 51=>141 | 53=>143 | 4=>4 | 183=>133 | 182=>132 | 131=>138 | 5=>5 | 9=>9 | 218=>159 | 222=>163 | 228=>170 | 229=>171 | n=>n,fun | n=>n⟩
theorem layS:Go.Proofs.Lays.n189 Tryz.prog layS_ren:={
 mixed:=by kernel_rfl
 f125:=Tryz.func111.trans (congrArg some (by kernel_rfl))
 f128:=Tryz.func145.trans (congrArg some (by kernel_rfl))
 f129:=Tryz.func146.trans (congrArg some (by kernel_rfl))
 f189:=Tryz.func75.trans (congrArg some (by kernel_rfl))
 f215:=Tryz.func180.trans (congrArg some (by kernel_rfl))
 f216:=Tryz.func142.trans (congrArg some (by kernel_rfl))
 f257:=Tryz.func110.trans (congrArg some (by kernel_rfl))
 f294:=Tryz.func136.trans (congrArg some (by kernel_rfl))
 f295:=Tryz.func137.trans (congrArg some (by kernel_rfl))
 f296:=Tryz.func138.trans (congrArg some (by kernel_rfl))
 f297:=Tryz.func139.trans (congrArg some (by kernel_rfl))
 f298:=Tryz.func140.trans (congrArg some (by kernel_rfl))
 f299:=Tryz.func141.trans (congrArg some (by kernel_rfl))
 f300:=Tryz.func143.trans (congrArg some (by kernel_rfl))
 f301:=Tryz.func144.trans (congrArg some (by kernel_rfl))
 f328:=Tryz.func175.trans (congrArg some (by kernel_rfl))
 f329:=Tryz.func176.trans (congrArg some (by kernel_rfl))
 f330:=Tryz.func177.trans (congrArg some (by kernel_rfl))
 f331:=Tryz.func178.trans (congrArg some (by kernel_rfl))
 f332:=Tryz.func179.trans (congrArg some (by kernel_rfl))
 f343:=Tryz.func194.trans (congrArg some (by kernel_rfl))
 t0:=Tryz.underlying0
 a0:=Tryz.isAgg0
 z0:=Tryz.sizeOf0
 v0:=Tryz.zeroValue0
 t3:=Tryz.underlying3
 a3:=Tryz.isAgg3
 z3:=Tryz.sizeOf3
 v3:=Tryz.zeroValue3
 t4:=Tryz.underlying4
 a4:=Tryz.isAgg4
 z4:=Tryz.sizeOf4
 v4:=Tryz.zeroValue4
 t5:=Tryz.underlying5
 a5:=Tryz.isAgg5
 z5:=Tryz.sizeOf5
 v5:=Tryz.zeroValue5
 t9:=Tryz.underlying9
 a9:=Tryz.isAgg9
 z9:=Tryz.sizeOf9
 v9:=Tryz.zeroValue9
 t28:=Tryz.underlying27
 a28:=Tryz.isAgg27
 z28:=Tryz.sizeOf27
 v28:=Tryz.zeroValue27
 t46:=Tryz.underlying117
 a46:=Tryz.isAgg117
 z46:=Tryz.sizeOf117
 v46:=Tryz.zeroValue117
 t51:=Tryz.underlying141
 a51:=Tryz.isAgg141
 z51:=Tryz.sizeOf141
 v51:=Tryz.zeroValue141
 t53:=Tryz.underlying143
 a53:=Tryz.isAgg143
 z53:=Tryz.sizeOf143
 v53:=Tryz.zeroValue143
 t131:=Tryz.underlying138
 a131:=Tryz.isAgg138
 z131:=Tryz.sizeOf138
 v131:=Tryz.zeroValue138
 t182:=Tryz.underlying132
 a182:=Tryz.isAgg132
 z182:=Tryz.sizeOf132
 v182:=Tryz.zeroValue132
 t183:=Tryz.underlying133
 a183:=Tryz.isAgg133
 z183:=Tryz.sizeOf133
 v183:=Tryz.zeroValue133
 t218:=Tryz.underlying159
 a218:=Tryz.isAgg159
 z218:=Tryz.sizeOf159
 v218:=Tryz.zeroValue159
 t222:=Tryz.underlying163
 a222:=Tryz.isAgg163
 z222:=Tryz.sizeOf163
 v222:=Tryz.zeroValue163
 t228:=Tryz.underlying170
 a228:=Tryz.isAgg170
 z228:=Tryz.sizeOf170
 v228:=Tryz.zeroValue170
 t229:=Tryz.underlying171
 a229:=Tryz.isAgg171
 z229:=Tryz.sizeOf171
 v229:=Tryz.zeroValue171 }
def Ky (N:Nat) (a_0:List Int):Option (List Int):=
 grd (a_0.length<4611686018427387904) (some (a_0.mergeSort fun x y=>decide (x≤y)))
theorem lays_sort (l:List Int) (hl2:l.length<4611686018427387904):Lays1 Tryz.prog 75 [] (.ints l) (.ints (l.mergeSort fun x y=>decide (x≤y))):=by
 refine ⟨fun blk cap w hc hb hl=>?_,fun h p cap w=>?_⟩
 ·have hH:Holds (Value.int .i64) w blk 0 l.toArray:=fun j hj=>by
   have hj':j<l.length:=by simpa using hj
   have:=hc j (by simpa [Sq.len,Sq.sz] using hj');simp only [Nat.zero_add];refine ⟨?_,this.2⟩;rw [this.1];simp [Kb,hj']
  refine (calls_of_every_depth fun D=>AnyS.slices_Sort_int_in layS D blk 0 cap l w hH hb hl2).mono ?_;rintro e w' ⟨rfl,n,os,rfl⟩;refine ⟨O,?_⟩;have h:=Xq (enc:=Value.int .i64) (w:=w) (blk:=blk) (n:=n) (d:=(l.mergeSort fun x y=>decide (x≤y)).toArray) (os:=os);refine h.to (by simp [Sq.len,Sq.sz]) fun t ht=>?_;have ht':t<(l.mergeSort fun x y=>decide (x≤y)).length:=by simpa using ht
  simp only [Kb,List.getD_eq_getElem?_getD];rw [List.getElem?_eq_getElem ht'];simp;rw [List.getElem?_eq_getElem ht']; rfl
 exact calls_of_every_depth fun D=>AnyS.slices_Sort_int_none_in layS D p cap w
theorem G_Sort_int_w (N:Nat) (a_0:List Int) (r:List Int) (h:Ky N a_0=some r):MCall Tryz.prog 75 [.row 1000000 0 a_0.length] [1000000] [] [(3,.ints a_0)] [(3,.ints r)] [] [] (.tup []):=by
 obtain ⟨h2,h⟩:=Ac h;cases h;exact Wa (q:=.ints a_0) (q':=.ints (a_0.mergeSort fun x y=>decide (x≤y))) (ds:=[]) (vs:=[]) (enters_of Tryz.func75 (by kernel_rfl) O) O O (by show (a_0.mergeSort _).length=a_0.length; simp) O O (fun _ _ _ i d v h=>by simp at h) (lays_sort a_0 h2)
end
section
open Go.RowKit Go.Deep
def Dx (N:Nat) (v1:(List (List (Int×Int)))×Bool) (k781:Int) (k:((List Bool)×(List Int))→Option ((List (List Int))×Bool)):Nat→((List Bool)×(List Int)×Int)→Option ((List (List Int))×Bool)
 | 0,_=>none
 | n+1,(l807,l808,x809)=>
  cnd (decide (x809<(v1.1.length:Int))) (
   grd (0≤x809∧x809<((List.replicate (((v1.1.length:Int)).toNat) (false:Bool)).length:Int)) <|
   grd (0≤x809∧x809<(l807.length:Int)) <|
   cnd (!(l807.getD ((x809).toNat) false)) (
    grd (0≤k781∧k781<(l808.length:Int)) <|
    grd (0≤(l808.getD ((k781).toNat) 0)∧(l808.getD ((k781).toNat) 0)<(v1.1.length:Int)) <|
    grd (0≤x809∧x809<(v1.1.length:Int)) <|
    (Fw N (v1.1.getD (((l808.getD ((k781).toNat) 0)).toNat) []) (v1.1.getD ((x809).toNat) [])).bind fun v811=>
    cnd v811 (
     grd (l808.length+1≤4294967296) <|
     grd (Bg (x809+(1:Int))) <|
     Dx N v1 k781 k n ((l807.set ((x809).toNat) true),(l808++([x809]:List Int)),(x809+(1:Int)))) (
     grd (Bg (x809+(1:Int))) <|
     Dx N v1 k781 k n (l807,l808,(x809+(1:Int))))) (
    grd (Bg (x809+(1:Int))) <|
    Dx N v1 k781 k n (l807,l808,(x809+(1:Int))))) (
   k (l807,l808))
def Fj (N:Nat) (v1:(List (List (Int×Int)))×Bool) (k:((List Bool)×(List Int))→Option ((List (List Int))×Bool)):Nat→((List Bool)×(List Int)×Int)→Option ((List (List Int))×Bool)
 | 0,_=>none
 | n+1,(l779,l780,k781)=>
  cnd (decide (k781<(l780.length:Int))) (
   Dx N v1 k781 (fun (x:(List Bool)×(List Int))=>
     match x with
     | (l803,l804)=>
      grd (Bg (k781+(1:Int))) <|
      Fj N v1 k n (l803,l804,(k781+(1:Int)))) N (l779,l780,(0:Int))) (
   k (l779,l780))
def Bu (N:Nat) (v1:(List (List (Int×Int)))×Bool) (k:(List (List Int))→Option ((List (List Int))×Bool)):Nat→((List (List Int))×(List Bool)×Int)→Option ((List (List Int))×Bool)
 | 0,_=>none
 | n+1,(l609,l610,x611)=>
  cnd (decide (x611<(v1.1.length:Int))) (
   grd (0≤x611∧x611<((List.replicate (((v1.1.length:Int)).toNat) (false:Bool)).length:Int)) <|
   grd (0≤x611∧x611<(l610.length:Int)) <|
   cnd (l610.getD ((x611).toNat) false) (
    grd (Bg (x611+(1:Int))) <|
    Bu N v1 k n (l609,l610,(x611+(1:Int)))) (
    Fj N v1 (fun (x:(List Bool)×(List Int))=>
      match x with
      | (l760,l761)=>
       (Ky N l761).bind fun v762=>
       grd (l761.length=v762.length) <|
       grd (l609.length+1≤4294967296) <|
       grd (Bg (x611+(1:Int))) <|
       Bu N v1 k n ((l609++[v762]),l760,(x611+(1:Int)))) N ((l610.set ((x611).toNat) true),([x611]:List Int),(0:Int)))) (
   k l609)
def Mb (N:Nat) (l_0:Lnk):Option ((List (List Int))×Bool):=
 (Vw N l_0).bind fun v1=>
 cnd (!v1.2) (
  some (([]:List (List Int)),false)) (
  grd (0≤(v1.1.length:Int)∧(v1.1.length:Int)≤4294967296) <|
  Bu N v1 (fun (l406 : List (List Int)) =>
     some (l406,true)) N (([]:List (List Int)),(List.replicate (((v1.1.length:Int)).toNat) (false:Bool)),(0:Int)))
theorem Yb (N:Nat) (l_0:Lnk) (r:(List (List Int))×Bool) (h:Mb N l_0=some r):PCallD Tryz.prog 26 [lD l_0] 27 3 (.intss r.1) (.tup [.row 0 0 r.1.length,.bool r.2]):=by
 unfold Mb at h;refine Qd (TT:=TT) tt Tryz.func26 O O Tryz.ntmps26 (congrArg Array.toList Tryz.results26) O O O fun w0=>(Ah (Ab (Lw O O O O O O O O O (Aa O (Aa O (Af (Ah (Ab (Cj tt (Ag O) O O O O ?_)))))))));refine Aa O (Af (Ah (Ab (Aa O ?_))));obtain ⟨v1,hc1,h⟩:=Ad h;refine Xv 10 (I_poses_w N l_0 v1 hc1) O O O O O O O O O O O (fun _ h=>by cases h) ⟨⟨O,O,O,O,Y⟩,Y⟩ ?_;iterate 5 refine Aa O ?_
 refine Af (Ah (Ah (Ab (Aa O (Aa O (Af (At O (fun hb2=>?_) (fun hb2=>?_))))))))
 ·replace h:=Ai hb2 h;refine Ah (Ab (Aa O (Aa O (Aa O (Af (Gw 2 9001 27 (.intss []) O O O O (vEn (En.newFam 12 3 (.ints []) O O O O (fun _ h=>by cases h) O) (vEn (En.asRefs 9001 12 (q:=.intss []) (qR:=dR 12 (.intss [])) O O O O) (Ay ?_)))))))));show ∃ _,_;cases h;exact ⟨9001,12,_,O,O,O,O,O,.eq O,O⟩
 replace h:=Aj hb2 h;refine Ar (Ah (Ab (Aa O (Aa O ?_))));obtain ⟨hg3,h⟩:=Ac h;refine oMake tt O O O O O O O O O O O hg3 (Aa O (Af (Ah (Ah (Ab (Aa O (Aa O (Aa O (Af ?_)))))))));refine Cb (F:=fun k=>Bu N v1 k) h (α:=List (List Int)) (J:=fun (l406:List (List Int))=>(⟨[(4,.row 9506 0 l406.length)],[(9506,some (27,dR 11 (.intss l406))),(8589934603,some (3,dF (.intss l406)))],[]⟩:PS)) ?_ ?_
 ·rintro l406 h;show VC _ _ _ (⟨[(4,.row 9506 0 l406.length)],[(9506,some (27,dR 11 (.intss l406))),(8589934603,some (3,dF (.intss l406)))],[]⟩:PS);refine Ah (Ab (Aa O (Aa O (Aa O (Af (Ay ?_))))));show ∃ _,_;cases h;exact ⟨9506,11,_,O,O,O,O,O,.eq O,O⟩
 intro k h;refine Aq (Gw 4 9508 27 (.intss []) rfl rfl rfl rfl (vEn (En.newFam 11 3 (.ints []) rfl rfl rfl rfl (fun _ h=>by cases h) rfl) (vEn (En.asRefs 9508 11 (q:=.intss []) (qR:=dR 11 (.intss [])) rfl rfl rfl rfl) (Bh (α:=(List (List Int))×(List Bool)×Int) (fun | (l609,l610,x611)=>(⟨[(4,.row 9508 0 l609.length),(5,.row 1150 0 v1.1.length),(7,.row 23 0 ((List.replicate (((v1.1.length:Int)).toNat) (false:Bool)).length)),(25,.int (v1.1.length:Int)),(26,.int x611)],[(9508,some (27,dR 11 (.intss l609))),(8589934603,some (3,dF (.intss l609))),(1150,some (45,dR 10 (.pairss v1.1))),(8589934602,some (95,dF (.pairss v1.1))),(23,some (4,.bools l610))],[]⟩:PS)) (Bu N v1 k) h (En.of ⟨rfl,rfl,rfl,rfl,rfl,Y⟩ ⟨rfl,rfl,rfl,rfl,rfl,Y⟩ trivial) (fun _=>rfl) ?_))));rintro n ⟨l609,l610,x611⟩ h;rw [Bu] at h;show VC _ _ _ (⟨[(4,.row 9508 0 l609.length),(5,.row 1150 0 v1.1.length),(7,.row 23 0 ((List.replicate (((v1.1.length:Int)).toNat) (false:Bool)).length)),(25,.int (v1.1.length:Int)),(26,.int x611)],[(9508,some (27,dR 11 (.intss l609))),(8589934603,some (3,dF (.intss l609))),(1150,some (45,dR 10 (.pairss v1.1))),(8589934602,some (95,dF (.pairss v1.1))),(23,some (4,.bools l610))],[]⟩:PS);refine Ah (Ab (Aa O (Af (Ah (At O (fun hb4=>?_) (fun hb4=>?_))))))
 ·replace h:=Ai hb4 h;refine Ar (Ah (Aq (Ah (Ab (Aa O (Aa O (Af (Ah (Ah ?_)))))))));refine Ab (Aa O (Aa O ?_));obtain ⟨hg5,h⟩:=Ac h;refine Ae tt O hg5 ?_;obtain ⟨hg6,h⟩:=Ac h;refine Ae tt O hg6 (Af (At O (fun hb7=>?_) (fun hb7=>?_)))
  ·replace h:=Ai hb7 h;refine Br (Ab ?_);obtain ⟨hg8,h⟩:=Ac h;refine Ae tt O hg8 (Aa O (Af ?_));show ∃ _,_;exact ⟨(l609,l610,(x611+(1:Int))),(En.of ⟨O,O,O,O,O,Y⟩ ⟨O,O,O,O,O,Y⟩ trivial),h⟩
  replace h:=Aj hb7 h;refine Ar (Ah (Ab (Aa O (Aa O (Ae tt O hg5 (As tt O O O O O O O O O O ⟨_,_,O,hg6.1,hg6.2⟩ ⟨hg6,Y⟩ (Af (Ah (Ab ?_)))))))));refine Aa rfl (Dr tt rfl rfl rfl rfl rfl rfl rfl rfl rfl rfl rfl (Aa rfl (Af (Ah (Ah (Ab (Aa rfl (Af (Cb (F:=fun k=>Fj N v1 k) h (α:=(List Bool)×(List Int)) (J:=fun | (l760,l761)=>(⟨[(4,.row 9508 0 l609.length),(5,.row 1150 0 v1.1.length),(7,.row 23 0 ((List.replicate (((v1.1.length:Int)).toNat) (false:Bool)).length)),(9,.row 37 0 l761.length),(25,.int (v1.1.length:Int)),(26,.int x611)],[(9508,some (27,dR 11 (.intss l609))),(8589934603,some (3,dF (.intss l609))),(1150,some (45,dR 10 (.pairss v1.1))),(8589934602,some (95,dF (.pairss v1.1))),(23,some (4,.bools l760)),(37,some (3,.ints l761))],[]⟩:PS)) ?_ ?_)))))))))
  ·rintro ⟨l760,l761⟩ h;show VC _ _ _ (⟨[(4,.row 9508 0 l609.length),(5,.row 1150 0 v1.1.length),(7,.row 23 0 ((List.replicate (((v1.1.length:Int)).toNat) (false:Bool)).length)),(9,.row 37 0 l761.length),(25,.int (v1.1.length:Int)),(26,.int x611)],[(9508,some (27,dR 11 (.intss l609))),(8589934603,some (3,dF (.intss l609))),(1150,some (45,dR 10 (.pairss v1.1))),(8589934602,some (95,dF (.pairss v1.1))),(23,some (4,.bools l760)),(37,some (3,.ints l761))],[]⟩:PS);refine Ah (Ab (Aa O ?_));obtain ⟨v762,hc9,h⟩:=Ad h;refine Bs (G_Sort_int_w N l761 v762 hc9) [37] [] [37] O O O O O O ⟨O,Y⟩ trivial ⟨⟨O,O⟩,Y⟩ (Af (Ab (Aa O (Aa O ?_))));obtain ⟨hg10,h⟩:=Ac h;refine oRowT 79 37 hg10 O (Kn (En.adopt 79 37 9508 11 (q:=(.intss l609)) O O O O O O (by simp [Sq.len,Fq.len,Ru,Fq.hole]) (pushI _ _) O (d':=.irow 11 l609.length v762.length) (by simp [Fq.len]) O) (Ld tt O O O O O O O O O O ?_));obtain ⟨hg11,h⟩:=Ac h;refine Jb (.intss (l609++[v762])) tt (q:=(.intss l609)) O O O O O O O O (Nat.le_of_eq (Nat.zero_add _)) O O O O O O O (appI 11 l609 v762) hg11 (Aa O (Af (Ab ?_)));obtain ⟨hg12,h⟩:=Ac h;refine Ae tt O hg12 (Aa O (Af ?_));show ∃ _,_;exact ⟨((l609++[v762]),l760,(x611+(1:Int))),(En.of ⟨O,O,O,O,O,Y⟩ ⟨O,O,O,O,O,Y⟩ trivial),h⟩
  intro k h;refine Aq (Bh (α:=(List Bool)×(List Int)×Int) (fun | (l779,l780,k781)=>(⟨[(4,.row 9508 0 l609.length),(5,.row 1150 0 v1.1.length),(7,.row 23 0 ((List.replicate (((v1.1.length:Int)).toNat) (false:Bool)).length)),(9,.row 37 0 l780.length),(10,.int k781),(25,.int (v1.1.length:Int)),(26,.int x611)],[(9508,some (27,dR 11 (.intss l609))),(8589934603,some (3,dF (.intss l609))),(1150,some (45,dR 10 (.pairss v1.1))),(8589934602,some (95,dF (.pairss v1.1))),(23,some (4,.bools l779)),(37,some (3,.ints l780))],[]⟩:PS)) (Fj N v1 k) h (En.of ⟨rfl,rfl,rfl,rfl,rfl,rfl,rfl,Y⟩ ⟨rfl,rfl,rfl,rfl,rfl,rfl,Y⟩ trivial) (fun _=>rfl) ?_);rintro n ⟨l779,l780,k781⟩ h;rw [Fj] at h;show VC _ _ _ (⟨[(4,.row 9508 0 l609.length),(5,.row 1150 0 v1.1.length),(7,.row 23 0 ((List.replicate (((v1.1.length:Int)).toNat) (false:Bool)).length)),(9,.row 37 0 l780.length),(10,.int k781),(25,.int (v1.1.length:Int)),(26,.int x611)],[(9508,some (27,dR 11 (.intss l609))),(8589934603,some (3,dF (.intss l609))),(1150,some (45,dR 10 (.pairss v1.1))),(8589934602,some (95,dF (.pairss v1.1))),(23,some (4,.bools l779)),(37,some (3,.ints l780))],[]⟩:PS);refine Ah (Ah (Ab ?_));iterate 4 refine Aa O ?_
  refine Af (At O (fun hb13=>?_) (fun hb13=>?_))
  ·replace h:=Ai hb13 h;refine Ar (Ah (Aq (Ah (Ab (Aa rfl (Aa rfl (Aa rfl (Af (Cb (F:=fun k=>Dx N v1 k781 k) h (α:=(List Bool)×(List Int)) (J:=fun | (l803,l804)=>(⟨[(4,.row 9508 0 l609.length),(5,.row 1150 0 v1.1.length),(7,.row 23 0 ((List.replicate (((v1.1.length:Int)).toNat) (false:Bool)).length)),(9,.row 37 0 l804.length),(10,.int k781),(25,.int (v1.1.length:Int)),(26,.int x611)],[(9508,some (27,dR 11 (.intss l609))),(8589934603,some (3,dF (.intss l609))),(1150,some (45,dR 10 (.pairss v1.1))),(8589934602,some (95,dF (.pairss v1.1))),(23,some (4,.bools l803)),(37,some (3,.ints l804))],[]⟩:PS)) ?_ ?_)))))))))
   ·rintro ⟨l803,l804⟩ h;show VC _ _ _ (⟨[(4,.row 9508 0 l609.length),(5,.row 1150 0 v1.1.length),(7,.row 23 0 ((List.replicate (((v1.1.length:Int)).toNat) (false:Bool)).length)),(9,.row 37 0 l804.length),(10,.int k781),(25,.int (v1.1.length:Int)),(26,.int x611)],[(9508,some (27,dR 11 (.intss l609))),(8589934603,some (3,dF (.intss l609))),(1150,some (45,dR 10 (.pairss v1.1))),(8589934602,some (95,dF (.pairss v1.1))),(23,some (4,.bools l803)),(37,some (3,.ints l804))],[]⟩:PS);refine Ab (Aa O ?_);obtain ⟨hg14,h⟩:=Ac h;refine Ae tt O hg14 (Aa O (Af ?_));show ∃ _,_;exact ⟨(l803,l804,(k781+(1:Int))),(En.of ⟨O,O,O,O,O,O,O,Y⟩ ⟨O,O,O,O,O,O,Y⟩ trivial),h⟩
   intro k h;refine Aq (Bh (α:=(List Bool)×(List Int)×Int) (fun | (l807,l808,x809)=>(⟨[(4,.row 9508 0 l609.length),(5,.row 1150 0 v1.1.length),(7,.row 23 0 ((List.replicate (((v1.1.length:Int)).toNat) (false:Bool)).length)),(9,.row 37 0 l808.length),(10,.int k781),(25,.int (v1.1.length:Int)),(26,.int x611),(45,.int (v1.1.length:Int)),(46,.int x809)],[(9508,some (27,dR 11 (.intss l609))),(8589934603,some (3,dF (.intss l609))),(1150,some (45,dR 10 (.pairss v1.1))),(8589934602,some (95,dF (.pairss v1.1))),(23,some (4,.bools l807)),(37,some (3,.ints l808))],[]⟩:PS)) (Dx N v1 k781 k) h (En.of ⟨rfl,rfl,rfl,rfl,rfl,rfl,rfl,rfl,rfl,Y⟩ ⟨rfl,rfl,rfl,rfl,rfl,rfl,Y⟩ trivial) (fun _=>rfl) ?_);rintro n ⟨l807,l808,x809⟩ h;rw [Dx] at h;show VC _ _ _ (⟨[(4,.row 9508 0 l609.length),(5,.row 1150 0 v1.1.length),(7,.row 23 0 ((List.replicate (((v1.1.length:Int)).toNat) (false:Bool)).length)),(9,.row 37 0 l808.length),(10,.int k781),(25,.int (v1.1.length:Int)),(26,.int x611),(45,.int (v1.1.length:Int)),(46,.int x809)],[(9508,some (27,dR 11 (.intss l609))),(8589934603,some (3,dF (.intss l609))),(1150,some (45,dR 10 (.pairss v1.1))),(8589934602,some (95,dF (.pairss v1.1))),(23,some (4,.bools l807)),(37,some (3,.ints l808))],[]⟩:PS);refine Ah (Ab (Aa O (Af (Ah (At O (fun hb15=>?_) (fun hb15=>?_))))))
   ·replace h:=Ai hb15 h;refine Ar (Ah (Aq (Ah (Ab (Aa O (Aa O (Af (Ah (Bt (by kernel_rfl) (by kernel_rfl) ?_)))))))));iterate 2 refine Bb tt O (Ag O) O O O Y ?_
    obtain ⟨hg16,h⟩:=Ac h;refine Bb tt O (Ag O) O O O hg16 ?_;obtain ⟨hg17,h⟩:=Ac h;refine Bb tt O (Ag O) O O O hg17 ?_;iterate 2 refine Bb tt O (Ag O) O O O Y ?_
    refine Gg O O O (fun hb18=>?_) (fun hb18=>?_)
    ·replace h:=Ai hb18 h;iterate 3 refine Bb tt O (Aw O O O O hb18) O O O Y ?_
     obtain ⟨hg19,h⟩:=Ac h;iterate 2 refine Bb tt O (Aw O O O O hb18) O O O hg19 ?_
     obtain ⟨hg20,h⟩:=Ac h;refine Bb tt O (Aw O O O O hb18) O O O hg20 (cLoadD tt (Aw O O O O hb18) (.pairss v1.1) O O O O O O O O O hg20 ?_);iterate 2 refine Bb tt O (Aw O O O O hb18) O O O Y ?_
     obtain ⟨hg21,h⟩:=Ac h;refine Bb tt O (Aw O O O O hb18) O O O hg21 (cLoadD tt (Aw O O O O hb18) (.pairss v1.1) O O O O O O O O O hg21 ?_);obtain ⟨v811,hc22,h⟩:=Ad h;refine Ta (Js N (v1.1.getD (((l808.getD ((k781).toNat) 0)).toNat) []) (v1.1.getD ((x809).toNat) []) v811 hc22) O (Aw O O O O hb18) O O O O O O ⟨⟨_,Xw (q:=(.pairss v1.1)) O O O (by simp only [Sq.len,List.length_set,List.length_append,List.length_replicate] at *; omega),O,O⟩,⟨_,Xw (q:=(.pairss v1.1)) O O O (by simp only [Sq.len,List.length_set,List.length_append,List.length_replicate] at *; omega),O,O⟩,Y⟩ (Eh O (Ag O) O O O hb18 O (Km (At O (fun hb23=>?_) (fun hb23=>?_))))
     ·replace h:=Ai hb23 h;refine Ah (Ab (Aa O (Aa O (Ae tt O hg16 (As tt O O O O O O O O O O ⟨_,_,O,hg17.1,hg17.2⟩ ⟨hg17,Y⟩ (Af (Ab (Aa O (Aa O ?_)))))))));refine Dr tt O O O O O O O O O O O ?_;obtain ⟨hg24,h⟩:=Ac h;refine Cn tt O O O O O O O O O O O O O O O O (Nat.le_of_eq (Nat.zero_add _)) hg24 (Aa O (Af (Ab ?_)));obtain ⟨hg25,h⟩:=Ac h;refine Ae tt O hg25 (Aa O (Af ?_));show ∃ _,_;exact ⟨((l807.set ((x809).toNat) true),(l808++([x809]:List Int)),(x809+(1:Int))),(En.of ⟨O,O,O,O,O,O,O,O,O,Y⟩ ⟨O,O,O,O,O,O,Y⟩ trivial),h⟩
     replace h:=Aj hb23 h;refine Ar (Ab ?_);obtain ⟨hg26,h⟩:=Ac h;refine Ae tt O hg26 (Aa O (Af ?_));show ∃ _,_;exact ⟨(l807,l808,(x809+(1:Int))),(En.of ⟨O,O,O,O,O,O,O,O,O,Y⟩ ⟨O,O,O,O,O,O,Y⟩ trivial),h⟩
    replace h:=Aj hb18 h;iterate 12 refine cNoT O O O O hb18 O O ?_
    refine Eo O (Ag O) O O O hb18 O (Km (Gx O O (Ar (Ab ?_))));obtain ⟨hg27,h⟩:=Ac h;refine Ae tt O hg27 (Aa O (Af ?_));show ∃ _,_;exact ⟨(l807,l808,(x809+(1:Int))),(En.of ⟨O,O,O,O,O,O,O,O,O,Y⟩ ⟨O,O,O,O,O,O,Y⟩ trivial),h⟩
   replace h:=Aj hb15 h;refine Br ?_;show ∃ _,_;exact ⟨(l807,l808),(En.of ⟨O,O,O,O,O,O,O,Y⟩ ⟨O,O,O,O,O,O,Y⟩ trivial),h⟩
  replace h:=Aj hb13 h;refine Br ?_;show ∃ _,_;exact ⟨(l779,l780),(En.of ⟨O,O,O,O,O,O,Y⟩ ⟨O,O,O,O,O,O,Y⟩ trivial),h⟩
 replace h:=Aj hb4 h;refine Br ?_;show ∃ _,_;exact ⟨l609,(En.ren [9506] [9508] O ⟨.inr O,Y⟩ ⟨.inr O,.inr O,Y⟩ trivial),h⟩
end
section
open Go.RowKit Go.Deep
def Hf (N:Nat) (v1:(List (List Int))×Bool) (v3:Int) (k:Unit→Option (List Int)):Nat→Int→Option (List Int)
 | 0,_=>none
 | n+1,x10=>
  cnd (decide (x10<(v1.1.length:Int))) (
   grd (0≤x10∧x10<(v1.1.length:Int)) <|
   (Dy N (v1.1.getD ((x10).toNat) []) v3).bind fun v12=>
   cnd v12 (
    some (v1.1.getD ((x10).toNat) [])) (
    grd (Bg (x10+(1:Int))) <|
    Hf N v1 v3 k n (x10+(1:Int)))) (
   k ())
def Mx (N:Nat) (l_0:Lnk):Option (List Int):=
 (Mb N l_0).bind fun v1=>
 cnd (!v1.2) (
  some ([]:List Int)) (
  (Lc N l_0).bind fun v2=>
  (Jd N v2.1 l_0.f.places).bind fun v3=>
  Hf N v1 v3 (fun (_ : Unit) =>
     some ([]:List Int)) N (0:Int))
theorem Vl (N:Nat) (l_0:Lnk) (r:List Int) (h:Mx N l_0=some r):PCall Tryz.prog 28 [lD l_0] [(3,.ints r)] (.row 0 0 r.length):=by
 unfold Mx at h;refine Ak (TT:=TT) tt Tryz.func28 O O Tryz.ntmps28 (congrArg Array.toList Tryz.results28) O O fun w0=>(Ah (Ab (Lw O O O O O O O O O (Aa O (Af (Ah (Ab (Aa O ?_))))))));obtain ⟨v1,hc1,h⟩:=Ad h;refine Xv 10 (Yb N l_0 v1 hc1) O O O O O O O O O O O (fun _ h=>by cases h) ⟨⟨O,O,O,O,Y⟩,Y⟩ ?_;iterate 5 refine Aa O ?_
 refine Af (Ah (Ah (Ab (Aa O (Aa O (Af (At O (fun hb2=>?_) (fun hb2=>?_))))))))
 ·replace h:=Ai hb2 h;refine Ah (Ab (Cj tt (Ag O) O O O O (Aa O (Af (Gw 2 9001 3 (.ints []) O O O O (Ay ?_))))));show ∃ _,_;cases h;exact ⟨[9001],_,O,⟨O,Y⟩,O,.eq O,O⟩
 replace h:=Aj hb2 h;refine Ar (Ah (Ab (Aa O ?_)));obtain ⟨v2,hc3,h⟩:=Ad h;refine Xv 11 (Rr N l_0 v2 hc3) O O O O O O O O O O O (fun _ h=>by cases h) ⟨⟨O,O,O,O,Y⟩,Y⟩ ?_;iterate 5 refine Aa O ?_
 refine Af (Ah (Ab ?_));iterate 4 refine Aa O ?_
 obtain ⟨v3,hc4,h⟩:=Ad h;refine Bn (Xf N v2.1 l_0.f.places v3 hc4) O O O O O O O O ⟨(.inr (.inr ⟨11,_,by decide,O,O,O,O⟩)),O,Y⟩ (Aa O (Af (Ah (Ah (Ab (Aa O (Aa O (Aa O (Af ?_)))))))));refine Cb (F:=fun k=>Hf N v1 v3 k) h (α:=Unit) (J:=fun (_:Unit)=>(⟨[],[],[]⟩:PS)) ?_ ?_
 ·rintro ⟨⟩ h;show VC _ _ _ (⟨[],[],[]⟩:PS);refine Ah (Ab (Cj tt (Ag O) O O O O (Aa O (Af (Gw 2 9001 3 (.ints []) O O O O (Ay ?_))))));show ∃ _,_;cases h;exact ⟨[9001],_,O,⟨O,Y⟩,O,.eq O,O⟩
 intro k h;refine Aq (Bh (α:=Int) (fun (x10:Int)=>(⟨[(7,.int v3),(28,.row 1120 0 v1.1.length),(29,.int (v1.1.length:Int)),(30,.int x10)],[(1120,some (27,dR 10 (.intss v1.1))),(8589934602,some (3,dF (.intss v1.1)))],[]⟩:PS)) (Hf N v1 v3 k) h (En.of ⟨O,O,O,O,Y⟩ ⟨O,O,Y⟩ trivial) (fun _=>O) ?_);rintro n x10 h;rw [Hf] at h;show VC _ _ _ (⟨[(7,.int v3),(28,.row 1120 0 v1.1.length),(29,.int (v1.1.length:Int)),(30,.int x10)],[(1120,some (27,dR 10 (.intss v1.1))),(8589934602,some (3,dF (.intss v1.1)))],[]⟩:PS);refine Ah (Ab (Aa O (Af (Ah (At O (fun hb5=>?_) (fun hb5=>?_))))))
 ·replace h:=Ai hb5 h;refine Ar (Ah (Aq (Ah (Ab ?_))));obtain ⟨hg6,h⟩:=Ac h;refine Ae tt O hg6 (oLoadD tt (Ag O) (.intss v1.1) O O O O O O O O O hg6 (Aa O (Af (Ah (Ab (Aa O (Aa O ?_)))))));obtain ⟨v12,hc7,h⟩:=Ad h;refine Bn (Kg N (v1.1.getD ((x10).toNat) []) v3 v12 hc7) O O O O O O O O ⟨⟨_,Xw (q:=(.intss v1.1)) O O O (by simp only [Sq.len,List.length_set,List.length_append,List.length_replicate] at *; omega),O,O⟩,O,Y⟩ (Af (At O (fun hb8=>?_) (fun hb8=>?_)))
  ·replace h:=Ai hb8 h;refine Ah (Ab (Aa O (Aa O (Af (vEn (En.pull 2 9502 10 ((x10).toNat) O O (fam_get (q:=(.intss v1.1)) O (by simp only [Sq.len,List.length_set,List.length_append,List.length_replicate] at *; omega)) O O O O) (Ay ?_))))));show ∃ _,_;cases h;exact ⟨[9502],_,O,⟨O,Y⟩,O,.eq O,O⟩
  replace h:=Aj hb8 h;refine Ar (Ab ?_);obtain ⟨hg9,h⟩:=Ac h;refine Ae tt O hg9 (Aa O (Af ?_));show ∃ _,_;exact ⟨(x10+(1:Int)),(En.of ⟨O,O,O,O,Y⟩ ⟨O,O,Y⟩ trivial),h⟩
 replace h:=Aj hb5 h;refine Br ?_;show ∃ _,_;exact ⟨(),(En.of trivial trivial trivial),h⟩
end
section
open Go.RowKit
def Qf (N:Nat) (l_0:Lnk):Option (Bool):=
 (Mx N l_0).bind fun v1=>
 some ((v1.length:Int)==(1:Int))
theorem I_IsStuck_w (N:Nat) (l_0:Lnk) (r:Bool) (h:Qf N l_0=some r):PCall Tryz.prog 30 [lD l_0] [] (.bool r):=by
 unfold Qf at h;refine Ak (TT:=TT) tt Tryz.func30 O O Tryz.ntmps30 (congrArg Array.toList Tryz.results30) O O fun w0=>(Ah (Ab (Lw O O O O O O O O O (Aa O (Af (Ah (Ab (Aa O ?_))))))));obtain ⟨v1,hc1,h⟩:=Ad h;refine Bn (Vl N l_0 v1 hc1) O O O O O O O O ⟨⟨O,O,O,O,Y⟩,Y⟩ (Aa O (Aa O (Aa O (Af (Ay ?_)))));show ∃ _,_;cases h;exact ⟨[],_,O,Y,O,.eq O,O⟩
end
section
variable {N:Nat}
abbrev Wi (P:List (List (Int×Int))) (s:Int):List Int:=(Sm (nrP P) P.length s).1
def Yf (l:List Int):List Int:=l.mergeSort fun x y=>decide (x≤y)
def rmS (P:List (List (Int×Int))):Nat→List (List Int)×List Int
 | 0=>([],[])
 | i+1=>cnd ((rmS P i).2.contains (i:Int)) (rmS P i) ((rmS P i).1++[Yf (Wi P (i:Int))],(rmS P i).2++Wi P (i:Int))
theorem Qo (P:List (List (Int×Int))) {i:Nat} (hi:i<P.length):BQ (nrP P) P.length (i:Int) (Sm (nrP P) P.length (i:Int)) (Wi P (i:Int)).length:=bfs0_inv ⟨by omega,by omega⟩
structure RM (P:List (List (Int×Int))) (i:Nat):Prop where
 rg:∀ x∈(rmS P i).2,0≤x∧x<(P.length:Int)
 nd:(rmS P i).2.Nodup
 cl:∀ u∈(rmS P i).2,∀ j:Nat,j<P.length→nrP P u (j:Int)=true→(j:Int)∈(rmS P i).2
 ln:(rmS P i).1.length≤i
 rl:∀ r∈(rmS P i).1,r.length≤P.length
theorem bq_closed {nr:Int→Int→Bool} {m:Nat} {s:Int} {st:QF} (h:BQ nr m s st st.1.length) {u:Int} (hu:u∈st.1) {j:Nat} (hj:j<m) (hn:nr u (j:Int)=true):(j:Int)∈st.1:=by
 obtain ⟨i,hi,rfl⟩:=List.mem_iff_getElem.1 hu;exact h.cl i hi hi j hj (by rw [List.getD_eq_getElem?_getD,List.getElem?_eq_getElem hi]; exact hn)
theorem Tw {nr:Int→Int→Bool} (hsym:∀ a b,nr a b=nr b a) {m k:Nat} {D:List Int} (hD:∀ u∈D,∀ j:Nat,j<m→nr u (j:Int)=true→(j:Int)∈D) {s:Int} {st:QF} (h:BQ nr m s st k) (hk:k<st.1.length) (ha:∀ x∈st.1,x∉D):∀ j,j≤m→∀ x∈(Dq nr k st j).1,x∉D
 | 0,_=>ha
 | j+1,hj=>by
  have ih:=Tw hsym hD h hk ha j (by omega);rw [Dq]
  cases hc:(!(Dq nr k st j).1.contains (j:Int)&&nr (st.1.getD k 0) (j:Int)) with
  | false=>rw [cnd_false]; exact ih
  | true=>
   rw [cnd_true];intro x hx;rcases List.mem_append.1 hx with hx | hx
   ·exact ih x hx
   rw [List.mem_singleton.1 hx];intro hjD;have hn:nr (j:Int) (st.1.getD k 0)=true:=by rw [hsym]; exact (Bool.and_eq_true _ _ ▸ hc).2
   have hr:=h.rg _ (Cg (d:=0) hk);have he:(((st.1.getD k 0).toNat:Nat):Int)=st.1.getD k 0:=by omega
   have:=hD _ hjD (st.1.getD k 0).toNat (by omega) (by rw [he]; exact hn);rw [he] at this;exact ha _ (Cg hk) this
theorem Zl {nr:Int→Int→Bool} (hsym:∀ a b,nr a b=nr b a) {m:Nat} {D:List Int} (hD:∀ u∈D,∀ j:Nat,j<m→nr u (j:Int)=true→(j:Int)∈D) {s:Int}:∀ (f k:Nat) (st:QF),BQ nr m s st k→(∀ x∈st.1,x∉D)→∀ x∈(Aaa nr m f k st).1,x∉D
 | 0,k,st,h,ha=>ha
 | f+1,k,st,h,ha=>by
  rw [Aaa];by_cases hk:k<st.1.length
  ·rw [if_pos hk];exact Zl hsym hD f (k+1) _ (h.next hk).1 (Tw hsym hD h hk ha m (Nat.le_refl _))
  rw [if_neg hk]; exact ha
theorem rm_inv (P:List (List (Int×Int))):∀ i,i≤P.length→RM P i
 | 0,_=>⟨by simp [rmS],by simp [rmS],by simp [rmS],by simp [rmS],by simp [rmS]⟩
 | i+1,hi=>by
  have h:=rm_inv P i (by omega);have hr:=Qo P (show i<P.length by omega)
  cases hc:(rmS P i).2.contains (i:Int) with
  | true=>
   have e:rmS P (i+1)=rmS P i:=by rw [rmS,hc,cnd_true]
   exact ⟨by rw [e]; exact h.rg,by rw [e]; exact h.nd,by rw [e]; exact h.cl,by rw [e]; have:=h.ln; omega,by rw [e]; exact h.rl⟩
  | false=>
   have e:rmS P (i+1)=((rmS P i).1++[Yf (Wi P (i:Int))],(rmS P i).2++Wi P (i:Int)):=by rw [rmS,hc,cnd_false]
   have hap:=Zl (nrP_sym P) h.cl (P.length+1) 0 ([(i:Int)],[-1]) (BQ.start ⟨by omega,by omega⟩) (fun x hx=>by rw [List.mem_singleton.1 hx]; simpa using hc);refine ⟨fun x hx=>?_,?_,fun u hu j hj hn=>?_,?_,fun r hr'=>?_⟩
   ·rw [e] at hx;rcases List.mem_append.1 hx with hx | hx
    ·exact h.rg x hx
    exact hr.rg x hx
   ·rw [e];exact List.nodup_append.2 ⟨h.nd,hr.nd,fun a ha b hb hab=>hap b hb (by rw [←hab]; exact ha)⟩
   ·rw [e] at hu ⊢;rcases List.mem_append.1 hu with hu | hu
    ·exact List.mem_append_left _ (h.cl u hu j hj hn)
    exact List.mem_append_right _ (bq_closed hr hu hj hn)
   ·rw [e]; have:=h.ln; simp; omega
   rw [e] at hr';rcases List.mem_append.1 hr' with hr' | hr'
   ·exact h.rl r hr'
   rw [List.mem_singleton.1 hr',Yf,List.length_mergeSort]; exact hr.qlen
theorem roomsS2_s (hN:4000000≤N) {D:List Int} (hD:D.length≤1000) {v:QF} (hv:v.1.length≤1000) (hnd:v.1.Nodup) (kk:QF→Option (List (List Int)×Bool)):Cv N v kk N (D,[],(0:Int))=kk (D++v.1,Yf v.1):=by
 have hfl:∀ (l a:List Int),(l.foldl (fun l x=>Rx l x false) a).length≤a.length+l.length:=by
  intro l
  induction l with
  | nil=>intro a; simp
  | cons x l ih=>
   intro a;have h1:=ih (Rx a x false)
   have h2:∀ (a:List Int) (x:Int) (p:Bool),(Rx a x p).length≤a.length+1:=by
    intro a
    induction a with
    | nil=>intro x p; cases p <;> simp [Rx,cnd]
    | cons e a iha=>
     intro x p;rw [Rx];by_cases he:e > x
     ·rw [Av he]
      cases (p || e==x) with
      | true=>rw [Bool.not_true,cnd_false]; have:=iha x true; simp; omega
      | false=>rw [Bool.not_false,cnd_true,Sr]; simp
     rw [Au he]; have:=iha x (p || e==x); simp; omega
   have:=h2 a x false;simp only [List.foldl_cons,List.length_cons]; omega
 refine Eq.trans ?_ (fold (N:=N) (len:=v.1.length) (σ:=List Int×List Int) (st:=fun i=>(D++v.1.take i,(v.1.take i).foldl (fun l x=>Rx l x false) [])) (F:=fun m s=>Cv N v kk m (s.1.1,s.1.2,s.2)) (fin:=kk (D++v.1,Yf v.1)) (by omega) (fun m i hi=>?_) fun m=>?_)
 ·simp
 ·show Cv N v kk (m+1) (D++v.1.take i,(v.1.take i).foldl (fun l x=>Rx l x false) [],(i:Int))=Cv N v kk m (D++v.1.take (i+1),(v.1.take (i+1)).foldl (fun l x=>Rx l x false) [],((i+1:Nat):Int));have e:((i:Int)).toNat=i:=by omega
  have hl:=hfl (v.1.take i) [];have htl:(v.1.take i).length≤i:=by rw [List.length_take]; omega
  have hDl:(D++v.1.take i).length≤2000:=by rw [List.length_append]; omega
  simp only [List.length_nil] at hl;rw [Cv,Av (by omega),Am (by omega),l5With_s hN (by omega),Option.bind_some,e,Am (by omega),Ci (by omega) (by omega),Al,Zo hi,List.foldl_append,List.append_assoc];rfl
 show Cv N v kk (m+1) (D++v.1.take v.1.length,(v.1.take v.1.length).foldl (fun l x=>Rx l x false) [],(v.1.length:Int))=_;rw [Cv,Au (by omega),List.take_length,foldIns_sort hnd]; rfl
theorem roomsS_s (hN:4000000≤N) {P:List (List (Int×Int))} (hP:P.length≤100) (hPl:∀ x∈P,x.length≤3000000) {b:Bool} (kk:List (List Int)→Option (List (List Int)×Bool)):Bz N (P,b) kk N ([],[],(0:Int))=kk (rmS P P.length).1:=by
 refine (fold (N:=N) (len:=P.length) (σ:=List (List Int)×List Int) (st:=fun i=>rmS P i) (F:=fun m s=>Bz N (P,b) kk m (s.1.1,s.1.2,s.2)) (fin:=kk (rmS P P.length).1) (by omega) (fun m i hi=>?_) fun m=>?_)
 ·show Bz N (P,b) kk (m+1) ((rmS P i).1,(rmS P i).2,(i:Int))=Bz N (P,b) kk m ((rmS P (i+1)).1,(rmS P (i+1)).2,((i+1:Nat):Int));have hR:=rm_inv P i (by omega);have hlen:(rmS P i).2.length≤P.length:=Th hR.nd hR.rg;have hr:=Qo P hi;have hql:=hr.qlen;have hol:=hR.ln;rw [Bz,rmS];show cnd (decide ((i:Int)<(P.length:Int))) _ _=_;rw [Av (by omega),l2Has_s N hN (by omega),Option.bind_some]
  cases hc:(rmS P i).2.contains (i:Int) with
  | true=>rw [cnd_true,cnd_true,Ci (by omega) (by omega),Al]
  | false=>
   rw [cnd_false,cnd_false];show (Hr N P (i:Int)).bind _=_;rw [reachP_s hN (by omega) hPl ⟨by omega,by omega⟩,Option.bind_some,roomsS2_s hN (by omega) (by omega) hr.nd];show grd _ _=_;rw [Am (by omega),Ci (by omega) (by omega),Al]
 show Bz N (P,b) kk (m+1) ((rmS P P.length).1,(rmS P P.length).2,(P.length:Int))=_;rw [Bz];show cnd (decide ((P.length:Int)<(P.length:Int))) _ _=_;rw [Au (by omega)]
def Zi (m:Nat) (D:List Int):List Bool:=(List.range m).map fun (j:Nat)=>D.contains (j:Int)
theorem indL_len (m:Nat) (D:List Int):(Zi m D).length=m:=by simp [Zi]
theorem indL_get {m j:Nat} {D:List Int} (h:j<m):(Zi m D).getD j false=D.contains (j:Int):=by simp [Zi,List.getD_eq_getElem?_getD,h]
theorem indL_set {m j:Nat} {D:List Int} (h:j<m):(Zi m D).set j true=Zi m (D++[(j:Int)]):=by
 apply List.ext_getElem
 ·simp [Zi]
 intro a h1 h2;rw [List.getElem_set];simp only [Zi,List.getElem_map,List.getElem_range,List.contains_append];by_cases ha:j=a
 ·subst ha; simp
 rw [if_neg ha];have:[(j:Int)].contains (a:Int)=false:=by simp; omega
 rw [this,Bool.or_false]
theorem indL_zero (m:Nat):List.replicate m false=Zi m []:=by
 apply List.ext_getElem <;> simp [Zi]
abbrev RB:=Option (List (List Int)×Bool)
theorem roomsI3_s (hN:4000000≤N) {P:List (List (Int×Int))} (hP:P.length≤100) (hPl:∀ x∈P,x.length≤3000000) {b:Bool} {D:List Int} (hD:∀ u∈D,∀ j:Nat,j<P.length→nrP P u (j:Int)=true→(j:Int)∈D) {s:Int} {k:Nat} {st:QF} (h:BQ (nrP P) P.length s st k) (hk:k<st.1.length) (ha:∀ x∈st.1,x∉D) (kk:List Bool×List Int→RB):∀ (fuel j:Nat),j≤P.length→P.length<fuel+j →
  Dx N (P,b) (k:Int) kk fuel (Zi P.length (D++(Dq (nrP P) k st j).1),(Dq (nrP P) k st j).1,(j:Int))=kk (Zi P.length (D++(Dq (nrP P) k st P.length).1),(Dq (nrP P) k st P.length).1):=by
 intro fuel
 induction fuel with
 | zero=>intro j h1 h2; omega
 | succ fuel ih=>
  intro j h1 h2;obtain ⟨hB,⟨r,hr⟩,_⟩:=St h hk j h1;have hql:=hB.qlen;rw [Dx];show cnd (decide ((j:Int)<(P.length:Int))) (grd (0≤(j:Int)∧(j:Int)<((List.replicate (((P.length:Int)).toNat) (false:Bool)).length:Int)) _) _=_;by_cases hj:j<P.length
  ·have e1:((j:Int)).toNat=j:=by omega
   have e2:((k:Int)).toNat=k:=by omega
   have e3:((P.length:Int)).toNat=P.length:=by omega
   have hgk:(Dq (nrP P) k st j).1.getD k 0=st.1.getD k 0:=by rw [hr]; exact Cw hk
   have hkl:k<(Dq (nrP P) k st j).1.length:=by rw [hr,List.length_append]; omega
   have hrg:=h.rg (st.1.getD k 0) (Cg hk);have hx:(P.getD (st.1.getD k 0).toNat []).length≤3000000:=hPl _ (Cg (by omega));have hil:=indL_len P.length (D++(Dq (nrP P) k st j).1);have nx:=ih (j+1) (by omega) (by omega);rw [Dq] at nx;have hnr:nrP P (st.1.getD k 0) (j:Int)=Sg (P.getD (st.1.getD k 0).toNat []) (P.getD j []):=by unfold nrP; rw [e1]
   rw [Av (by omega),List.length_replicate,e3,Am (by omega),hil,Am (by omega),e1,indL_get hj,List.contains_append,e2,hgk]
   have skip:(!(Dq (nrP P) k st j).1.contains (j:Int)&&nrP P (st.1.getD k 0) (j:Int))=false→grd (Bg ((j:Int)+1)) (Dx N (P,b) (k:Int) kk fuel (Zi P.length (D++(Dq (nrP P) k st j).1),(Dq (nrP P) k st j).1,((j:Int)+1)))=kk (Zi P.length (D++(Dq (nrP P) k st P.length).1),(Dq (nrP P) k st P.length).1):=fun hc=>by
    rw [hc,cnd_false] at nx;rw [Ci (by omega) (by omega),Al];exact nx
   cases hq:(Dq (nrP P) k st j).1.contains (j:Int) with
   | true=>
    rw [Bool.or_true,Bool.not_true,cnd_false];exact skip (by rw [hq]; rfl)
   | false=>
    rw [Bool.or_false]
    cases hd:D.contains (j:Int) with
    | true=>
     rw [Bool.not_true,cnd_false];refine skip ?_;rw [hq,Bool.not_false,Bool.true_and]
     cases hn:nrP P (st.1.getD k 0) (j:Int) with
     | false=>rfl
     | true=>
      exfalso;have he:(((st.1.getD k 0).toNat:Nat):Int)=st.1.getD k 0:=by omega
      have:=hD (j:Int) (by simpa using hd) (st.1.getD k 0).toNat (by omega) (by rw [he,nrP_sym]; exact hn);rw [he] at this;exact ha _ (Cg hk) this
    | false=>
     rw [Bool.not_false,cnd_true,Am (by omega)];show grd (0≤st.1.getD k 0∧st.1.getD k 0<(P.length:Int)) (grd (0≤(j:Int)∧(j:Int)<(P.length:Int)) ((Fw N (P.getD (st.1.getD k 0).toNat []) (P.getD j [])).bind _))=_;rw [Am (by omega),Am (by omega),Yu hN hx,Option.bind_some]
     cases hn:Sg (P.getD (st.1.getD k 0).toNat []) (P.getD j []) with
     | true=>
      rw [hnr,hn,hq,Bool.not_false,Bool.true_and,cnd_true,←List.append_assoc,←indL_set hj] at nx;rw [cnd_true,Am (by omega),Ci (by omega) (by omega),Al];exact nx
     | false=>
      rw [cnd_false];exact skip (by rw [hnr,hn,Bool.and_false])
  obtain rfl:j=P.length:=by omega
  rw [Au (by omega)]
theorem roomsI2_s (hN:4000000≤N) {P:List (List (Int×Int))} (hP:P.length≤100) (hPl:∀ x∈P,x.length≤3000000) {b:Bool} {D:List Int} (hD:∀ u∈D,∀ j:Nat,j<P.length→nrP P u (j:Int)=true→(j:Int)∈D) {s:Int} (kk:List Bool×List Int→RB):∀ (fuel k:Nat) (st:QF),BQ (nrP P) P.length s st k→k≤st.1.length→P.length<fuel+k→(∀ x∈st.1,x∉D) →
  Fj N (P,b) kk fuel (Zi P.length (D++st.1),st.1,(k:Int))=kk (Zi P.length (D++(Aaa (nrP P) P.length fuel k st).1),(Aaa (nrP P) P.length fuel k st).1):=by
 intro fuel
 induction fuel with
 | zero=>intro k st h h1 h2; have:=h.qlen; omega
 | succ fuel ih=>
  intro k st h h1 h2 ha;have hql:=h.qlen;rw [Fj,Aaa];by_cases hk:k<st.1.length
  ·have hn:=h.next hk;rw [Av (by omega),if_pos hk]
   have:=roomsI3_s hN hP hPl (b:=b) hD h hk ha (fun (x:(List Bool)×(List Int))=>
     match x with
     | (l803,l804)=>
      grd (Bg ((k:Int)+(1:Int))) <|
      Fj N (P,b) kk fuel (l803,l804,((k:Int)+(1:Int)))) N 0 (by omega) (by omega)
   refine this.trans ?_;show grd _ _=_;rw [Ci (by omega) (by omega),Al];exact ih (k+1) _ hn.1 (by omega) (by omega) (Tw (nrP_sym P) hD h hk ha _ (Nat.le_refl _))
  rw [Au (by omega),if_neg hk]
theorem roomsI_s (hN:4000000≤N) {P:List (List (Int×Int))} (hP:P.length≤100) (hPl:∀ x∈P,x.length≤3000000) {b:Bool} (kk:List (List Int)→RB):Bu N (P,b) kk N ([],Zi P.length [],(0:Int))=kk (rmS P P.length).1:=by
 refine (fold (N:=N) (len:=P.length) (σ:=List (List Int)×List Int) (st:=fun i=>rmS P i) (F:=fun m s=>Bu N (P,b) kk m (s.1.1,Zi P.length s.1.2,s.2)) (fin:=kk (rmS P P.length).1) (by omega) (fun m i hi=>?_) fun m=>?_)
 ·show Bu N (P,b) kk (m+1) ((rmS P i).1,Zi P.length (rmS P i).2,(i:Int))=Bu N (P,b) kk m ((rmS P (i+1)).1,Zi P.length (rmS P (i+1)).2,((i+1:Nat):Int));have hR:=rm_inv P i (by omega);have hr:=Qo P hi;have hql:=hr.qlen;have hol:=hR.ln;have e1:((i:Int)).toNat=i:=by omega
  have e3:((P.length:Int)).toNat=P.length:=by omega
  have hil:=indL_len P.length (rmS P i).2;rw [Bu,rmS];show cnd (decide ((i:Int)<(P.length:Int))) (grd (0≤(i:Int)∧(i:Int)<((List.replicate (((P.length:Int)).toNat) (false:Bool)).length:Int)) _) _=_;rw [Av (by omega),List.length_replicate,e3,Am (by omega),hil,Am (by omega),e1,indL_get hi]
  cases hc:(rmS P i).2.contains (i:Int) with
  | true=>rw [cnd_true,cnd_true,Ci (by omega) (by omega),Al]
  | false=>
   rw [cnd_false,cnd_false,indL_set hi]
   have h2 := roomsI2_s hN hP hPl (b := b) (D := (rmS P i).2) hR.cl (s := (i : Int)) (fun (x : (List Bool) × (List Int)) =>
      match x with
      | (l760,l761)=>
       (Ky N l761).bind fun v762=>
       grd (l761.length=v762.length) <|
       grd ((rmS P i).1.length+1≤4294967296) <|
       grd (Bg ((i:Int)+(1:Int))) <|
       Bu N (P,b) kk m (((rmS P i).1++[v762]),l760,((i:Int)+(1:Int)))) N 0 ([(i:Int)],[-1]) (BQ.start ⟨by omega,by omega⟩) (by simp) (by omega) (fun x hx=>by rw [List.mem_singleton.1 hx]; simpa using hc)
   refine h2.trans ?_
   have e4:Aaa (nrP P) P.length N 0 ([(i:Int)],[-1])=Sm (nrP P) P.length (i:Int):=by
    rw [Sm,Qk (P.length+1) N 0 _ (BQ.start ⟨by omega,by omega⟩) (by simp) (by omega) (by omega)]
   rw [e4];show (Ky N (Wi P (i:Int))).bind _=_
   have e5:Ky N (Wi P (i:Int))=some (Yf (Wi P (i:Int))):=by
    have h7:=(Qo P hi).qlen;unfold Ky; rw [Am (Nat.lt_of_le_of_lt h7 (by omega))]; rfl
   rw [e5,Option.bind_some,Am (by rw [Yf,List.length_mergeSort]),Am (by omega),Ci (by omega) (by omega),Al]
 show Bu N (P,b) kk (m+1) ((rmS P P.length).1,Zi P.length (rmS P P.length).2,(P.length:Int))=_;rw [Bu];show cnd (decide ((P.length:Int)<(P.length:Int))) _ _=_;rw [Au (by omega)]
theorem Qp {l:Lnk} {p:List (Int×Int)} (h:p∈Bl l):p.length≤8:=by
 obtain ⟨h1,h2⟩:=Kx h;have hlk:Qy l=true:=by unfold Tn at h2; exact (Bool.and_eq_true _ _ ▸ h2).1
 obtain ⟨hf,_⟩:=Mg hlk;obtain ⟨hgr,h4,h5,_⟩:=Fy hf;omega
def rmOk (l:Lnk):Bool:=Qy l&&decide ((Bl l).length≤100)
def Ch (l:Lnk):List (List Int):=cnd (rmOk l) (rmS (Bl l) (Bl l).length).1 []
theorem posesP_s (hN:4000000≤N) {l:Lnk} (hp:l.f.places.length≤3000000) (hg:l.ground.length≤3000000):Vw N l=some (Bl l,rmOk l):=by
 unfold Vw rmOk;rw [posesI_s hN hp hg,Option.bind_some];show cnd (Qy l) (some (Bl l,decide (((Bl l).length:Int)≤100))) (some (Bl l,false))=_
 have e:decide (((Bl l).length:Int)≤100)=decide ((Bl l).length≤100):=by
  rw [Bool.eq_iff_iff,decide_eq_true_eq,decide_eq_true_eq]; omega
 rw [e];cases Qy l <;> rfl
theorem roomsOf_i (hN:4000000≤N) {l:Lnk} (hp:l.f.places.length≤3000000) (hg:l.ground.length≤3000000):Mb N l=some (Ch l,rmOk l):=by
 unfold Mb Ch;rw [posesP_s hN hp hg,Option.bind_some];show cnd (!rmOk l) _ _=_
 cases h:rmOk l with
 | false=>rfl
 | true=>
  have h100:(Bl l).length≤100:=by
   have:=(Bool.and_eq_true _ _ ▸ h).2;simpa using this
  have e3:(((Bl l).length:Int)).toNat=(Bl l).length:=by omega
  rw [Bool.not_true,cnd_false,cnd_true];show grd (0≤((Bl l).length:Int)∧((Bl l).length:Int)≤4294967296) (Bu N (Bl l,true) _ N ([],List.replicate (((Bl l).length:Int)).toNat false,(0:Int)))=_;rw [Am (by omega),e3,indL_zero,roomsI_s hN h100 (fun x hx=>by have:=Qp hx; omega)]
theorem roomsOf_s (hN:4000000≤N) {l:Lnk} (hp:l.f.places.length≤3000000) (hg:l.ground.length≤3000000):Mi N l=some (Ch l,rmOk l):=by
 unfold Mi Ch rmOk;rw [Ll hN hp hg,Option.bind_some];show cnd (!Qy l) _ (cnd (decide (((Bl l).length:Int) > 100)) _ _)=_
 cases h:Qy l with
 | false=>rfl
 | true=>
  rw [Bool.not_true,cnd_false];by_cases h100:(Bl l).length≤100
  ·rw [Au (by omega),decide_eq_true h100];show Bz N (Bl l,true) _ N ([],[],(0:Int))=_;rw [roomsS_s hN h100 (fun x hx=>by have:=Qp hx; omega)]; rfl
  rw [Av (by omega),decide_eq_false h100]; rfl
theorem Sj (l:Lnk):(Ch l).length≤100∧∀ r∈Ch l,r.length≤100:=by
 unfold Ch
 cases h:rmOk l with
 | false=>exact ⟨by simp [cnd],fun r hr=>by cases hr⟩
 | true=>
  have h100:(Bl l).length≤100:=by
   have:=(Bool.and_eq_true _ _ ▸ h).2;simpa using this
  have hR:=rm_inv (Bl l) _ (Nat.le_refl _);rw [cnd_true];exact ⟨Nat.le_trans hR.ln h100,fun r hr=>Nat.le_trans (hR.rl r hr) h100⟩
theorem equalPl_s (hN:4000000≤N) {a b:List (Int×Int)} (ha:a.length≤3000000):Jc N a b=some (decide (a=b)):=by
 unfold Jc;by_cases h:a.length=b.length
 ·rw [Ev (by omega)];refine (srch (len:=a.length) (ok:=fun i=>a.getD i (0,0)==b.getD i (0,0)) (bad:=some false) (fin:=some true) (by omega) ?_ ?_).trans ?_
  ·intro n i hi _;have e:((i:Int)).toNat=i:=by omega
   rw [Dn,Av (by omega),Am (by omega),Am (by omega),e,Pw,Gy,Ci (by omega) (by omega),Al]
  ·intro n _;rw [Dn,Au (by omega)]
  rw [Dd,Jv];congr 1;rw [Bool.eq_iff_iff,List.all_eq_true,decide_eq_true_eq];constructor
  ·intro hh;apply List.ext_getElem h;intro i h1 h2;have:=hh i (by simpa using h1);simpa [List.getD_eq_getElem?_getD,h1,h2] using this
  intro hh i hi; rw [hh]; simp
 rw [Kl (by omega),decide_eq_false (fun e=>h (by rw [e]))]
def idxP (P:List (List (Int×Int))) (p:List (Int×Int)):Nat→Nat→Int
 | 0,_=>-1
 | f+1,i=>cnd (decide (i<P.length)) (cnd (decide (P.getD i []=p)) (i:Int) (idxP P p f (i+1))) (-1)
theorem idxI_s (hN:4000000≤N) {P:List (List (Int×Int))} (hP:P.length≤1000) (hPl:∀ x∈P,x.length≤3000000) (p:List (Int×Int)):Jd N P p=some (idxP P p (P.length+1) 0):=by
 have key:∀ (fuel g i:Nat),i≤P.length→P.length<fuel+i→P.length<g+i→Dh N P p (fun (_:Unit)=>some (-1:Int)) fuel (i:Int)=some (idxP P p g i):=by
  intro fuel
  induction fuel with
  | zero=>intro g i h1 h2; omega
  | succ fuel ih=>
   intro g i h1 h2 h3;obtain ⟨g,rfl⟩:∃ g',g=g'+1:=⟨g-1,by omega⟩;rw [Dh,idxP];by_cases hi:i<P.length
   ·have e:((i:Int)).toNat=i:=by omega
    rw [Av (by omega),Av hi,Am (by omega),e,equalPl_s hN (hPl _ (Cg hi)),Option.bind_some];by_cases hq:P.getD i []=p
    ·rw [Av hq,Av hq]
    rw [Au hq,Au hq,Ci (by omega) (by omega),Al];exact ih g (i+1) (by omega) (by omega) (by omega)
   rw [Au (by omega),Au hi]
 exact key N _ 0 (by omega) (by omega) (by omega)
theorem idxS_s (hN:4000000≤N) {P:List (List (Int×Int))} (hP:P.length≤1000) (p:List (Int×Int)) (hp:p.length≤3000000):Hy N P p=some (idxP P p (P.length+1) 0):=by
 have l2:∀ (i:Nat) (hi:i<P.length) (kk:Bool→Option Int),Cf N P p (i:Int) kk N (((((P.getD ((i:Int)).toNat []).length:Int))==(p.length:Int)),(0:Int))=kk (decide (P.getD i []=p)):=by
  intro i hi kk;have e:((i:Int)).toNat=i:=by omega
  rw [e];by_cases hl:(P.getD i []).length=p.length
  ·have hb:((((P.getD i []).length:Int))==(p.length:Int))=true:=by rw [beq_iff_eq]; omega
   rw [hb]
   have key:∀ (fuel k:Nat) (sm:Bool),k≤p.length→p.length<fuel+k→sm=((List.range k).all fun j=>(P.getD i []).getD j (0,0)==p.getD j (0,0))→Cf N P p (i:Int) kk fuel (sm,(k:Int))=kk ((List.range p.length).all fun j=>(P.getD i []).getD j (0,0)==p.getD j (0,0)):=by
    intro fuel
    induction fuel with
    | zero=>intro k sm h1 h2; omega
    | succ fuel ih=>
     intro k sm h1 h2 hs;rw [Cf];by_cases hk:k<p.length
     ·have e2:((k:Int)).toNat=k:=by omega
      rw [Av (by omega)]
      cases sm with
      | true=>
       rw [cnd_true,e,e2,Am (by omega),Am (by omega),Ci (by omega) (by omega),Al,Pw];refine ih (k+1) _ (by omega) (by omega) ?_;rw [List.range_succ,List.all_append,←hs]; simp
      | false=>
       rw [cnd_false];congr 1;rw [eq_comm,List.all_eq_false];rw [eq_comm,List.all_eq_false] at hs;obtain ⟨j,hj,hj2⟩:=hs;exact ⟨j,by simp at hj ⊢; omega,hj2⟩
     obtain rfl:k=p.length:=by omega
     rw [Au (by omega),hs]
   refine (key N 0 true (by omega) (by omega) (by simp)).trans ?_;congr 1;rw [Bool.eq_iff_iff,List.all_eq_true,decide_eq_true_eq];constructor
   ·intro hh;apply List.ext_getElem hl;intro j h1 h2;have:=hh j (by simpa using h2);have g1:(P.getD i []).getD j (0,0)=(P.getD i [])[j]:=by rw [List.getD_eq_getElem?_getD,List.getElem?_eq_getElem h1]; rfl
    have g2:p.getD j (0,0)=p[j]:=by rw [List.getD_eq_getElem?_getD,List.getElem?_eq_getElem h2]; rfl
    rw [g1,g2] at this;simpa using this
   intro hh j hj; rw [hh]; simp
  have hb:((((P.getD i []).length:Int))==(p.length:Int))=false:=by rw [beq_eq_false_iff_ne]; omega
  rw [hb,decide_eq_false (fun e=>hl (by rw [e]))];obtain ⟨M,rfl⟩:∃ M,N=M+1:=⟨N-1,by omega⟩;rw [Cf,cnd_false,cnd_same]
 have key:∀ (fuel g i:Nat),i≤P.length→P.length<fuel+i→P.length<g+i→Dp N P p (fun (_:Unit)=>some (-1:Int)) fuel (i:Int)=some (idxP P p g i):=by
  intro fuel
  induction fuel with
  | zero=>intro g i h1 h2; omega
  | succ fuel ih=>
   intro g i h1 h2 h3;obtain ⟨g,rfl⟩:∃ g',g=g'+1:=⟨g-1,by omega⟩;rw [Dp,idxP];by_cases hi:i<P.length
   ·rw [Av (by omega),Av hi,Am (by omega),l2 i hi];by_cases hq:P.getD i []=p
    ·rw [Av hq,Av hq]
    rw [Au hq,Au hq,Ci (by omega) (by omega),Al];exact ih g (i+1) (by omega) (by omega) (by omega)
   rw [Au (by omega),Au hi]
 exact key N _ 0 (by omega) (by omega) (by omega)
def Lq (l:Lnk):List Int:=((Ch l).find? fun r=>r.contains (idxP (Bl l) l.f.places ((Bl l).length+1) 0)).getD []
theorem roomOf_bd (l:Lnk):(Lq l).length≤100:=by
 unfold Lq
 cases h:(Ch l).find? fun r=>r.contains (idxP (Bl l) l.f.places ((Bl l).length+1) 0) with
 | none=>simp
 | some r=>exact (Sj l).2 r (List.mem_of_find?_eq_some h)
theorem find_step {R:List (List Int)} {f:List Int→Bool} {i:Nat} (hi:i<R.length):(R.drop i).find? f=cnd (f (R.getD i [])) (some (R.getD i [])) ((R.drop (i+1)).find? f):=by
 have hd:R.drop i=R.getD i []::R.drop (i+1):=by
  rw [List.drop_eq_getElem_cons hi,List.getD_eq_getElem?_getD,List.getElem?_eq_getElem hi]; rfl
 rw [hd,List.find?_cons];cases f (R.getD i []) <;> rfl
theorem roomOf_i (hN:4000000≤N) {l:Lnk} (hp:l.f.places.length≤3000000) (hg:l.ground.length≤3000000):Mx N l=some (Lq l):=by
 have hbd:=Sj l;have hpl:=Tq l;unfold Mx Lq;rw [roomsOf_i hN hp hg,Option.bind_some];show cnd (!rmOk l) _ _=_
 cases h:rmOk l with
 | false=>
  have:Ch l=[]:=by unfold Ch; rw [h]; rfl
  rw [this]; rfl
 | true=>
  rw [Bool.not_true,cnd_false,posesI_s hN hp hg,Option.bind_some];show (Jd N (Bl l) l.f.places).bind _=_;rw [idxI_s hN (by omega) (fun x hx=>by have:=Qp hx; omega),Option.bind_some];generalize idxP (Bl l) l.f.places ((Bl l).length+1) 0=at_
  have key:∀ (fuel i:Nat),i≤(Ch l).length→(Ch l).length<fuel+i→Hf N (Ch l,true) at_ (fun (_:Unit)=>some ([]:List Int)) fuel (i:Int)=some ((((Ch l).drop i).find? fun r=>r.contains at_).getD []):=by
   intro fuel
   induction fuel with
   | zero=>intro i h1 h2; omega
   | succ fuel ih=>
    intro i h1 h2;rw [Hf];show cnd (decide ((i:Int)<((Ch l).length:Int))) (grd (0≤(i:Int)∧(i:Int)<((Ch l).length:Int)) ((Dy N ((Ch l).getD ((i:Int)).toNat []) at_).bind _)) _=_;by_cases hi:i<(Ch l).length
    ·have e:((i:Int)).toNat=i:=by omega
     have hrl:=hbd.2 _ (Cg (d:=[]) hi);rw [Av (by omega),Am (by omega),e,Vy N hN (by omega),Option.bind_some,find_step hi]
     cases hc:((Ch l).getD i []).contains at_ with
     | true=>
      rw [cnd_true,cnd_true];show some ((Ch l).getD ((i:Int)).toNat [])=_;rw [e]; rfl
     | false=>
      rw [cnd_false,cnd_false,Ci (by omega) (by omega),Al];exact ih (i+1) (by omega) (by omega)
    obtain rfl:i=(Ch l).length:=by omega
    rw [Au (by omega),List.drop_length]; rfl
  have:=key N 0 (by omega) (by omega);rw [List.drop_zero] at this;exact this
theorem roomOf_s (hN:4000000≤N) {l:Lnk} (hp:l.f.places.length≤3000000) (hg:l.ground.length≤3000000):Mn N l=some (Lq l):=by
 have hbd:=Sj l;have hpl:=Tq l;unfold Mn Lq;rw [roomsOf_s hN hp hg,Option.bind_some,Ll hN hp hg,Option.bind_some];show (Hy N (Bl l) l.f.places).bind _=_;rw [idxS_s hN (by omega) _ hp,Option.bind_some];generalize idxP (Bl l) l.f.places ((Bl l).length+1) 0=at_
 cases h:rmOk l with
 | false=>
  have:Ch l=[]:=by unfold Ch; rw [h]; rfl
  rw [this];obtain ⟨M,rfl⟩:∃ M,N=M+1:=⟨N-1,by omega⟩;rw [Gk,Au (by simp)]; rfl
 | true=>
  have key:∀ (fuel i:Nat),i≤(Ch l).length→(Ch l).length<fuel+i→Gk N (Ch l,true) at_ (fun (_:Unit)=>some ([]:List Int)) fuel (i:Int)=some ((((Ch l).drop i).find? fun r=>r.contains at_).getD []):=by
   intro fuel
   induction fuel with
   | zero=>intro i h1 h2; omega
   | succ fuel ih=>
    intro i h1 h2;rw [Gk];show cnd (decide ((i:Int)<((Ch l).length:Int))) (cnd true (grd (0≤(i:Int)∧(i:Int)<((Ch l).length:Int)) ((Pa N ((Ch l).getD ((i:Int)).toNat []) at_).bind _)) _) _=_;by_cases hi:i<(Ch l).length
    ·have e:((i:Int)).toNat=i:=by omega
     have hrl:=hbd.2 _ (Cg (d:=[]) hi);rw [Av (by omega),cnd_true,Am (by omega),e,l2Has_s N hN (by omega),Option.bind_some,find_step hi]
     cases hc:((Ch l).getD i []).contains at_ with
     | true=>
      rw [cnd_true,cnd_true];show grd (((Ch l).getD ((i:Int)).toNat []).length≤4294967296) (some ([]++(Ch l).getD ((i:Int)).toNat []))=_;rw [e,Am (by omega)]; rfl
     | false=>
      rw [cnd_false,cnd_false,Ci (by omega) (by omega),Al];exact ih (i+1) (by omega) (by omega)
    obtain rfl:i=(Ch l).length:=by omega
    rw [Au (by omega),List.drop_length]; rfl
  have:=key N 0 (by omega) (by omega);rw [List.drop_zero] at this;exact this
theorem stuck_x (hN:4000000≤N) {l:Lnk} (hp:l.f.places.length≤3000000) (hg:l.ground.length≤3000000):∃ b:Bool,Pj N l=some b∧Qf N l=some b:=by
 unfold Pj Qf;rw [roomOf_s hN hp hg,roomOf_i hN hp hg,Option.bind_some];exact ⟨_,O,O⟩
end
section
open Go.RowKit Go.Deep Go.Sort
def layR_ren:Go.Shelf.Ren:=⟨fun | 112=>86 | n=>n,fun | 28=>27 | 3=>3 | 4=>4 | 0=>0 | n=>n,fun | n=>n⟩
theorem layR:Go.Proofs.Lays.n112 Tryz.prog layR_ren:={
 mixed:=by kernel_rfl
 f112:=Tryz.func86.trans (congrArg some (by kernel_rfl))
 t0:=Tryz.underlying0
 a0:=Tryz.isAgg0
 z0:=Tryz.sizeOf0
 v0:=Tryz.zeroValue0
 t3:=Tryz.underlying3
 a3:=Tryz.isAgg3
 z3:=Tryz.sizeOf3
 v3:=Tryz.zeroValue3
 t4:=Tryz.underlying4
 a4:=Tryz.isAgg4
 z4:=Tryz.sizeOf4
 v4:=Tryz.zeroValue4
 t28:=Tryz.underlying27
 a28:=Tryz.isAgg27
 z28:=Tryz.sizeOf27
 v28:=Tryz.zeroValue27 }
def Ep (N:Nat) (a_0:List Int):Option (List Int):=some a_0.reverse
theorem lays_rev (l:List Int):Lays1 Tryz.prog 86 [] (.ints l) (.ints l.reverse):=by
 refine ⟨fun blk cap w hc hb hl=>?_,fun h p cap w=>?_⟩
 ·have hl2:l.length≤9223372036854775807:=by have:=hl; unfold maxLen at this; exact this
  have hH:Holds (Value.int .i64) w blk 0 l.toArray:=fun j hj=>by
   have hj':j<l.length:=by simpa using hj
   have:=hc j (by simpa [Sq.len,Sq.sz] using hj');simp only [Nat.zero_add];refine ⟨?_,this.2⟩;rw [this.1];simp [Kb,hj']
  refine (Any.slices_Reverse_int layR blk 0 cap l w hH (by omega)).mono ?_;rintro e w' ⟨rfl,n,rfl⟩;refine ⟨O,?_⟩;have h:=Xq (enc:=Value.int .i64) (w:=w) (blk:=blk) (n:=n) (d:=l.reverse.toArray) (os:=#[]);rw [grow_empty] at h;refine h.to (by simp [Sq.len,Sq.sz]) fun t ht=>?_;have ht':t<l.length:=by simpa using ht
  simp [Kb,ht']
 exact Any.slices_Reverse_int_empty layR p cap w
theorem Yr (N:Nat) (a_0:List Int) (r:List Int) (h:Ep N a_0=some r):MCall Tryz.prog 86 [.row 1000000 0 a_0.length] [1000000] [] [(3,.ints a_0)] [(3,.ints r)] [] [] (.tup []):=by
 cases h;exact Wa (q:=.ints a_0) (q':=.ints a_0.reverse) (ds:=[]) (vs:=[]) (enters_of Tryz.func86 (by kernel_rfl) O) O O (by show a_0.reverse.length=a_0.length; simp) O O (fun _ _ _ i d v h=>by simp at h) (lays_rev a_0)
end
section
open Go.RowKit Go.Deep
def Bv (N:Nat) (v2:(List Int)×(List Int)) (k:(List Int)→Option ((List Int)×Bool)):Nat→((List Int)×Int)→Option ((List Int)×Bool)
 | 0,_=>none
 | n+1,(l40,i41)=>
  cnd (decide (i41≥(0:Int))) (
   grd (0≤i41∧i41<(v2.1.length:Int)) <|
   grd (([(v2.1.getD ((i41).toNat) 0)]:List Int).length+((l40.take (0+l40.length)).drop 0).length≤4294967296) <|
   grd (0≤i41∧i41<(v2.2.length:Int)) <|
   Bv N v2 k n ((([(v2.1.getD ((i41).toNat) 0)]:List Int)++((l40.take (0+l40.length)).drop 0)),(v2.2.getD ((i41).toNat) 0))) (
   k l40)
def Bm (N:Nat) (to_2:Int) (v2:(List Int)×(List Int)) (k:Unit→Option ((List Int)×Bool)):Nat→Int→Option ((List Int)×Bool)
 | 0,_=>none
 | n+1,k29=>
  cnd (decide (k29<(v2.1.length:Int))) (
   grd (0≤k29∧k29<(v2.1.length:Int)) <|
   cnd ((v2.1.getD ((k29).toNat) 0) != to_2) (
    grd (Bg (k29+(1:Int))) <|
    Bm N to_2 v2 k n (k29+(1:Int))) (
    Bv N v2 (fun (l38 : List Int) =>
       some (l38,true)) N (([]:List Int),k29))) (
   k ())
def Fn (N:Nat) (l_0:Lnk) (from_1:Int) (to_2:Int):Option ((List Int)×Bool):=
 (Gj N l_0).bind fun v1=>
 cnd (!v1.2) (
  some (([]:List Int),false)) (
  cnd (decide ((v1.1.length:Int) > (100:Int))) (
   some (([]:List Int),false)) (
   cnd (decide (from_1<(0:Int))) (
    some (([]:List Int),false)) (
    cnd (decide (to_2<(0:Int))) (
     some (([]:List Int),false)) (
     cnd (decide (from_1≥(v1.1.length:Int))) (
      some (([]:List Int),false)) (
      cnd (decide (to_2≥(v1.1.length:Int))) (
       some (([]:List Int),false)) (
       (Hr N v1.1 from_1).bind fun v2=>
       Bm N to_2 v2 (fun (_ : Unit) =>
          some (([]:List Int),false)) N (0:Int)))))))
theorem Xo (N:Nat) (l_0:Lnk) (from_1:Int) (to_2:Int) (r:(List Int)×Bool) (h:Fn N l_0 from_1 to_2=some r):PCall Tryz.prog 35 [lD l_0,.int from_1,.int to_2] [(3,.ints r.1)] (.tup [.row 0 0 r.1.length,.bool r.2]):=by
 unfold Fn at h;refine Ak (TT:=TT) tt Tryz.func35 O O Tryz.ntmps35 (congrArg Array.toList Tryz.results35) O O fun w0=>(Ah (Ab (Lw O O O O O O O O O (Aa O (Aa O (Af (Ah (Ab (Aa O ?_)))))))));obtain ⟨v1,hc1,h⟩:=Ad h;refine Bn (Hb N l_0 v1 hc1) O O O O O O O O ⟨⟨O,O,O,O,Y⟩,Y⟩ ?_;iterate 5 refine Aa O ?_
 refine Af (Ah (Ah (Ab (Aa O (Aa O (Aa O (Bi O O O (fun hb2=>?_) (fun hb2=>?_))))))))
 ·replace h:=Ai hb2 h;iterate 3 refine Fd O O O O hb2 O O ?_
  refine Bd O O O O O hb2 O (Aa O ?_);iterate 2 refine Fd O O O O O O O ?_
  refine Bd O O O O O O O (Aa O ?_);iterate 2 refine Fd O O O O O O O ?_
  refine Bd O O O O O O O (Aa O ?_);iterate 4 refine Fd O O O O O O O ?_
  refine Bd O O O O O O O (Aa O ?_);iterate 4 refine Fd O O O O O O O ?_
  refine Bd O O O O O O O (Af (Bo O O (Ah (Ab (Cj tt (Ag O) O O O O (Aa O (Aa O (Af (Gw 6 9001 3 (.ints []) O O O O ?_)))))))));refine Ay ?_;show ∃ _,_;cases h;exact ⟨[9001],_,O,⟨O,Y⟩,O,.eq O,O⟩
 replace h:=Aj hb2 h;iterate 3 refine Bj tt O O O O O hb2 O O O Y ?_
 refine Az O O O O O hb2 O (Aa O (Bi O O O (fun hb3=>?_) (fun hb3=>?_)))
 ·replace h:=Ai hb3 h;iterate 2 refine Fd O O O O hb3 O O ?_
  refine Bd O O O O O hb3 O (Aa O ?_);iterate 2 refine Fd O O O O O O O ?_
  refine Bd O O O O O O O (Aa O ?_);iterate 4 refine Fd O O O O O O O ?_
  refine Bd O O O O O O O (Aa O ?_);iterate 4 refine Fd O O O O O O O ?_
  refine Bd O O O O O O O (Af (Bo O O (Ah (Ab (Cj tt (Ag O) O O O O (Aa O (Aa O (Af (Gw 6 9001 3 (.ints []) O O O O ?_)))))))));refine Ay ?_;show ∃ _,_;cases h;exact ⟨[9001],_,O,⟨O,Y⟩,O,.eq O,O⟩
 replace h:=Aj hb3 h;iterate 2 refine Bj tt O O O O O hb3 O O O Y ?_
 refine Az O O O O O hb3 O (Aa O (Bi O O O (fun hb4=>?_) (fun hb4=>?_)))
 ·replace h:=Ai hb4 h;iterate 2 refine Fd O O O O hb4 O O ?_
  refine Bd O O O O O hb4 O (Aa O ?_);iterate 4 refine Fd O O O O O O O ?_
  refine Bd O O O O O O O (Aa O ?_);iterate 4 refine Fd O O O O O O O ?_
  refine Bd O O O O O O O (Af (Bo O O (Ah (Ab (Cj tt (Ag O) O O O O (Aa O (Aa O (Af (Gw 6 9001 3 (.ints []) O O O O ?_)))))))));refine Ay ?_;show ∃ _,_;cases h;exact ⟨[9001],_,O,⟨O,Y⟩,O,.eq O,O⟩
 replace h:=Aj hb4 h;iterate 2 refine Bj tt O O O O O hb4 O O O Y ?_
 refine Az O O O O O hb4 O (Aa O (Bi O O O (fun hb5=>?_) (fun hb5=>?_)))
 ·replace h:=Ai hb5 h;iterate 4 refine Fd O O O O hb5 O O ?_
  refine Bd O O O O O hb5 O (Aa O ?_);iterate 4 refine Fd O O O O O O O ?_
  refine Bd O O O O O O O (Af (Bo O O (Ah (Ab (Cj tt (Ag O) O O O O (Aa O (Aa O (Af (Gw 6 9001 3 (.ints []) O O O O ?_)))))))));refine Ay ?_;show ∃ _,_;cases h;exact ⟨[9001],_,O,⟨O,Y⟩,O,.eq O,O⟩
 replace h:=Aj hb5 h;iterate 4 refine Bj tt O O O O O hb5 O O O Y ?_
 refine Az O O O O O hb5 O (Aa O (Bi O O O (fun hb6=>?_) (fun hb6=>?_)))
 ·replace h:=Ai hb6 h;iterate 4 refine Fd O O O O hb6 O O ?_
  refine Bd O O O O O hb6 O (Af (Bo O O (Ah (Ab (Cj tt (Ag O) O O O O (Aa O (Aa O (Af (Gw 6 9001 3 (.ints []) O O O O ?_)))))))));refine Ay ?_;show ∃ _,_;cases h;exact ⟨[9001],_,O,⟨O,Y⟩,O,.eq O,O⟩
 replace h:=Aj hb6 h;iterate 4 refine Bj tt O O O O O hb6 O O O Y ?_
 refine Az O O O O O hb6 O (Af (At O (fun hb7=>?_) (fun hb7=>?_)))
 ·replace h:=Ai hb7 h;refine Ah (Ab (Cj tt (Ag O) O O O O (Aa O (Aa O (Af (Gw 6 9001 3 (.ints []) O O O O (Ay ?_)))))));show ∃ _,_;cases h;exact ⟨[9001],_,O,⟨O,Y⟩,O,.eq O,O⟩
 replace h:=Aj hb7 h;refine Ar (Ah (Ab (Aa O (Aa O ?_))));obtain ⟨v2,hc8,h⟩:=Ad h;refine Bn (Wf N v1.1 from_1 v2 hc8) O O O O O O O O ⟨(.inl ⟨O,O⟩),O,Y⟩ ?_;iterate 5 refine Aa O ?_
 refine Af (Ah (Ah (Ab (Aa O (Af (Cb (F:=fun k=>Bm N to_2 v2 k) h (α:=Unit) (J:=fun (_:Unit)=>(⟨[],[],[]⟩:PS)) ?_ ?_))))))
 ·rintro ⟨⟩ h;show VC _ _ _ (⟨[],[],[]⟩:PS);refine Ah (Ab (Cj tt (Ag O) O O O O (Aa O (Aa O (Af (Gw 6 9001 3 (.ints []) O O O O (Ay ?_)))))));show ∃ _,_;cases h;exact ⟨[9001],_,O,⟨O,Y⟩,O,.eq O,O⟩
 intro k h;refine Aq (Bh (α:=Int) (fun (k29:Int)=>(⟨[(2,.int to_2),(10,.row 1510 0 v2.1.length),(11,.row 1511 0 v2.2.length),(12,.int k29)],[(1510,some (3,.ints v2.1)),(1511,some (3,.ints v2.2))],[]⟩:PS)) (Bm N to_2 v2 k) h (En.of ⟨O,O,O,O,Y⟩ ⟨O,O,Y⟩ trivial) (fun _=>O) ?_);rintro n k29 h;rw [Bm] at h;show VC _ _ _ (⟨[(2,.int to_2),(10,.row 1510 0 v2.1.length),(11,.row 1511 0 v2.2.length),(12,.int k29)],[(1510,some (3,.ints v2.1)),(1511,some (3,.ints v2.2))],[]⟩:PS);refine Ah (Ah (Ab ?_));iterate 4 refine Aa O ?_
 refine Af (At O (fun hb9=>?_) (fun hb9=>?_))
 ·replace h:=Ai hb9 h;refine Ar (Ah (Aq (Ah (Ah (Ab (Aa O (Aa O ?_)))))));obtain ⟨hg10,h⟩:=Ac h;refine Ae tt O hg10 (Ae tt O hg10 (Aa O (Aa O (Af (At O (fun hb11=>?_) (fun hb11=>?_))))))
  ·replace h:=Ai hb11 h;refine Br (Ab (Aa O ?_));obtain ⟨hg12,h⟩:=Ac h;refine Ae tt O hg12 (Aa O (Af ?_));show ∃ _,_;exact ⟨(k29+(1:Int)),(En.of ⟨O,O,O,O,Y⟩ ⟨O,O,Y⟩ trivial),h⟩
  replace h:=Aj hb11 h;refine Ar (Ah (Ab (Cj tt (Ag O) O O O O (Aa O (Af (Ah (Ah (Ab (Aa O ?_)))))))));refine Aa O (Af (Cb (F:=fun k=>Bv N v2 k) h (α:=List Int) (J:=fun (l38:List Int)=>(⟨[(13,.row 9546 0 l38.length)],[(9546,some (3,.ints l38))],[]⟩:PS)) ?_ ?_))
  ·rintro l38 h;show VC _ _ _ (⟨[(13,.row 9546 0 l38.length)],[(9546,some (3,.ints l38))],[]⟩:PS);refine Ah (Ab (Aa O (Aa O (Aa O (Af (Ay ?_))))));show ∃ _,_;cases h;exact ⟨[9546],_,O,⟨O,Y⟩,O,.eq O,O⟩
  intro k h;refine Aq (Gw 13 9548 3 (.ints []) rfl rfl rfl rfl (Bh (α:=(List Int)×Int) (fun | (l40,i41)=>(⟨[(10,.row 1510 0 v2.1.length),(11,.row 1511 0 v2.2.length),(13,.row 9548 0 l40.length),(14,.int i41)],[(1510,some (3,.ints v2.1)),(1511,some (3,.ints v2.2)),(9548,some (3,.ints l40))],[]⟩:PS)) (Bv N v2 k) h (En.of ⟨rfl,rfl,rfl,rfl,Y⟩ ⟨rfl,rfl,rfl,Y⟩ trivial) (fun _=>rfl) ?_));rintro n ⟨l40,i41⟩ h;rw [Bv] at h;show VC _ _ _ (⟨[(10,.row 1510 0 v2.1.length),(11,.row 1511 0 v2.2.length),(13,.row 9548 0 l40.length),(14,.int i41)],[(1510,some (3,.ints v2.1)),(1511,some (3,.ints v2.2)),(9548,some (3,.ints l40))],[]⟩:PS);refine Ah (Ah (Ab (Aa O (Aa O (Af (At O (fun hb13=>?_) (fun hb13=>?_)))))))
  ·replace h:=Ai hb13 h;refine Ar (Ah (Aq (Ab (Aa O (Aa O ?_)))));obtain ⟨hg14,h⟩:=Ac h;refine Ae tt O hg14 (Ae tt O hg14 (Dr tt O O O O O O O O O O O (Aa O ?_)));obtain ⟨hg15,h⟩:=Ac h;refine Cn tt O O O O O O O O O O O O O O O O (Nat.le_of_eq (Nat.zero_add _)) hg15 (Aa O (Af (Ab (Aa O (Aa O ?_)))));obtain ⟨hg16,h⟩:=Ac h;refine Ae tt O hg16 (Ae tt O hg16 (Aa O (Af ?_)));show ∃ _,_;exact ⟨((([(v2.1.getD ((i41).toNat) 0)]:List Int)++((l40.take (0+l40.length)).drop 0)),(v2.2.getD ((i41).toNat) 0)),(En.ren [9548] [78] O ⟨.inr O,.inr O,.inr O,.inr O,Y⟩ ⟨.inr O,.inr O,.inr O,Y⟩ trivial),h⟩
  replace h:=Aj hb13 h;refine Br ?_;show ∃ _,_;exact ⟨l40,(En.ren [9546] [9548] O ⟨.inr O,Y⟩ ⟨.inr O,Y⟩ trivial),h⟩
 replace h:=Aj hb9 h;refine Br ?_;show ∃ _,_;exact ⟨(),(En.of trivial trivial trivial),h⟩
def Bp (N:Nat) (from_1:Int) (v1:(List (List (Int×Int)))×Bool) (l55:List Int) (k:(List Int)→Option ((List Int)×Bool)):Nat→((List Int)×Int)→Option ((List Int)×Bool)
 | 0,_=>none
 | n+1,(l61,at62)=>
  cnd (at62 != from_1) (
   grd (0≤at62∧at62<((List.replicate (((v1.1.length:Int)).toNat) (0:Int)).length:Int)) <|
   grd (0≤at62∧at62<(l55.length:Int)) <|
   grd (l61.length+1≤4294967296) <|
   Bp N from_1 v1 l55 k n ((l61++([(l55.getD ((at62).toNat) 0)]:List Int)),(l55.getD ((at62).toNat) 0))) (
   k l61)
def Bw (N:Nat) (v1:(List (List (Int×Int)))×Bool) (k81:Int) (k:((List Int)×(List Int))→Option ((List Int)×Bool)):Nat→((List Int)×(List Int)×Int)→Option ((List Int)×Bool)
 | 0,_=>none
 | n+1,(l107,l108,x109)=>
  cnd (decide (x109<(v1.1.length:Int))) (
   grd (0≤x109∧x109<((List.replicate (((v1.1.length:Int)).toNat) (0:Int)).length:Int)) <|
   grd (0≤x109∧x109<(l107.length:Int)) <|
   cnd (decide ((l107.getD ((x109).toNat) 0)<(0:Int))) (
    grd (0≤k81∧k81<(l108.length:Int)) <|
    grd (0≤(l108.getD ((k81).toNat) 0)∧(l108.getD ((k81).toNat) 0)<(v1.1.length:Int)) <|
    grd (0≤x109∧x109<(v1.1.length:Int)) <|
    (Fw N (v1.1.getD (((l108.getD ((k81).toNat) 0)).toNat) []) (v1.1.getD ((x109).toNat) [])).bind fun v111=>
    cnd v111 (
     grd (l108.length+1≤4294967296) <|
     grd (Bg (x109+(1:Int))) <|
     Bw N v1 k81 k n ((l107.set ((x109).toNat) (l108.getD ((k81).toNat) 0)),(l108++([x109]:List Int)),(x109+(1:Int)))) (
     grd (Bg (x109+(1:Int))) <|
     Bw N v1 k81 k n (l107,l108,(x109+(1:Int))))) (
    grd (Bg (x109+(1:Int))) <|
    Bw N v1 k81 k n (l107,l108,(x109+(1:Int))))) (
   k (l107,l108))
def Ce (N:Nat) (v1:(List (List (Int×Int)))×Bool) (k:(List Int)→Option ((List Int)×Bool)):Nat→((List Int)×(List Int)×Int)→Option ((List Int)×Bool)
 | 0,_=>none
 | n+1,(l79,l80,k81)=>
  cnd (decide (k81<(l80.length:Int))) (
   Bw N v1 k81 (fun (x:(List Int)×(List Int))=>
     match x with
     | (l103,l104)=>
      grd (Bg (k81+(1:Int))) <|
      Ce N v1 k n (l103,l104,(k81+(1:Int)))) N (l79,l80,(0:Int))) (
   k l79)
def Be (N:Nat) (v1:(List (List (Int×Int)))×Bool) (k:(List Int)→Option ((List Int)×Bool)):Nat→((List Int)×Int)→Option ((List Int)×Bool)
 | 0,_=>none
 | n+1,(l113,x114)=>
  cnd (decide (x114<((List.replicate (((v1.1.length:Int)).toNat) (0:Int)).length:Int))) (
   grd (0≤x114∧x114<((List.replicate (((v1.1.length:Int)).toNat) (0:Int)).length:Int)) <|
   grd (0≤x114∧x114<(l113.length:Int)) <|
   grd (Bg (x114+(1:Int))) <|
   Be N v1 k n ((l113.set ((x114).toNat) (-1:Int)),(x114+(1:Int)))) (
   k l113)
def Ht (N:Nat) (l_0:Lnk) (from_1:Int) (to_2:Int):Option ((List Int)×Bool):=
 (Vw N l_0).bind fun v1=>
 cnd (!v1.2) (
  some (([]:List Int),false)) (
  grd (Bg ((v1.1.length:Int)-(1:Int))) <|
  (Gt N from_1 (0:Int) ((v1.1.length:Int)-(1:Int))).bind fun v2=>
  cnd (!v2) (
   some (([]:List Int),false)) (
   (Gt N to_2 (0:Int) ((v1.1.length:Int)-(1:Int))).bind fun v3=>
   cnd (!v3) (
    some (([]:List Int),false)) (
    grd (0≤(v1.1.length:Int)∧(v1.1.length:Int)≤4294967296) <|
    Be N v1 (fun (l6 : List Int) =>
       grd (0≤from_1∧from_1<((List.replicate (((v1.1.length:Int)).toNat) (0:Int)).length:Int)) <|
       grd (0≤from_1∧from_1<(l6.length:Int)) <|
       Ce N v1 (fun (l55 : List Int) =>
          grd (0≤to_2∧to_2<((List.replicate (((v1.1.length:Int)).toNat) (0:Int)).length:Int)) <|
          grd (0≤to_2∧to_2<(l55.length:Int)) <|
          cnd (decide ((l55.getD ((to_2).toNat) 0)<(0:Int))) (
           some (([]:List Int),false)) (
           Bp N from_1 v1 l55 (fun (l58 : List Int) =>
              (Ep N l58).bind fun v59=>
              grd (l58.length=v59.length) <|
              some (v59,true)) N (([to_2]:List Int),to_2))) N ((l6.set ((from_1).toNat) from_1),([from_1]:List Int),(0:Int))) N ((List.replicate (((v1.1.length:Int)).toNat) (0:Int)),(0:Int)))))
theorem Ya (N:Nat) (l_0:Lnk) (from_1:Int) (to_2:Int) (r:(List Int)×Bool) (h:Ht N l_0 from_1 to_2=some r):PCall Tryz.prog 34 [lD l_0,.int from_1,.int to_2] [(3,.ints r.1)] (.tup [.row 0 0 r.1.length,.bool r.2]):=by
 unfold Ht at h;refine Ak (TT:=TT) tt Tryz.func34 O O Tryz.ntmps34 (congrArg Array.toList Tryz.results34) O O fun w0=>(Ah (Ab (Lw O O O O O O O O O (Aa O (Aa O (Af (Ah (Ab (Aa O ?_)))))))));obtain ⟨v1,hc1,h⟩:=Ad h;refine Xv 10 (I_poses_w N l_0 v1 hc1) O O O O O O O O O O O (fun _ h=>by cases h) ⟨⟨O,O,O,O,Y⟩,Y⟩ ?_;iterate 5 refine Aa O ?_
 refine Af (Ah (Ah (Ab (Aa O (Aa O (Aa O (Bi O O O (fun hb2=>?_) (fun hb2=>?_))))))))
 ·replace h:=Ai hb2 h;iterate 6 refine Fd O O O O hb2 O O ?_
  refine Bd O O O O O hb2 O (Aa O ?_);iterate 6 refine Fd O O O O O O O ?_
  refine Bd O O O O O O O (Af (Bo O O (Ah (Ab (Cj tt (Ag O) O O O O (Aa O (Aa O (Af (Gw 6 9001 3 (.ints []) O O O O ?_)))))))));refine Ay ?_;show ∃ _,_;cases h;exact ⟨[9001],_,O,⟨O,Y⟩,O,.eq O,O⟩
 replace h:=Aj hb2 h;iterate 3 refine Bj tt O O O O O hb2 O O O Y ?_
 obtain ⟨hg3,h⟩:=Ac h;refine Bj tt O O O O O hb2 O O O hg3 ?_;obtain ⟨v2,hc4,h⟩:=Ad h;refine Hx (Hq N from_1 (0:Int) ((v1.1.length:Int)-(1:Int)) v2 hc4) O O O O hb2 O O O O O O O ⟨O,O,O,Y⟩ (Bj tt O O O O O hb2 O O O Y (Az O O O O O hb2 O (Aa O (Bi O O O (fun hb5=>?_) (fun hb5=>?_)))))
 ·replace h:=Ai hb5 h;iterate 6 refine Fd O O O O hb5 O O ?_
  refine Bd O O O O O hb5 O (Af (Bo O O (Ah (Ab (Cj tt (Ag O) O O O O (Aa O (Aa O (Af (Gw 6 9001 3 (.ints []) O O O O ?_)))))))));refine Ay ?_;show ∃ _,_;cases h;exact ⟨[9001],_,O,⟨O,Y⟩,O,.eq O,O⟩
 replace h:=Aj hb5 h;iterate 3 refine Bj tt O O O O O hb5 O O O Y ?_
 refine Bj tt O O O O O hb5 O O O hg3 ?_;obtain ⟨v3,hc6,h⟩:=Ad h;refine Hx (Hq N to_2 (0:Int) ((v1.1.length:Int)-(1:Int)) v3 hc6) O O O O hb5 O O O O O O O ⟨O,O,O,Y⟩ (Bj tt O O O O O hb5 O O O Y (Az O O O O O hb5 O (Af (At O (fun hb7=>?_) (fun hb7=>?_)))))
 ·replace h:=Ai hb7 h;refine Ah (Ab (Cj tt (Ag O) O O O O (Aa O (Aa O (Af (Gw 6 9001 3 (.ints []) O O O O (Ay ?_)))))));show ∃ _,_;cases h;exact ⟨[9001],_,O,⟨O,Y⟩,O,.eq O,O⟩
 replace h:=Aj hb7 h;refine Ar (Ah (Ab (Aa O (Aa O ?_))));obtain ⟨hg8,h⟩:=Ac h;refine oMake tt O O O O O O O O O O O hg8 (Aa O (Af (Ah (Ah (Ab (Aa O (Aa O (Aa O (Af ?_)))))))));refine Cb (F:=fun k=>Be N v1 k) h (α:=List Int) (J:=fun (l6:List Int)=>(⟨[(1,.int from_1),(2,.int to_2),(8,.row 1190 0 v1.1.length),(10,.row 43 0 ((List.replicate (((v1.1.length:Int)).toNat) (0:Int)).length))],[(1190,some (45,dR 10 (.pairss v1.1))),(8589934602,some (95,dF (.pairss v1.1))),(43,some (3,.ints l6))],[]⟩:PS)) ?_ ?_
 ·rintro l6 h;show VC _ _ _ (⟨[(1,.int from_1),(2,.int to_2),(8,.row 1190 0 v1.1.length),(10,.row 43 0 ((List.replicate (((v1.1.length:Int)).toNat) (0:Int)).length))],[(1190,some (45,dR 10 (.pairss v1.1))),(8589934602,some (95,dF (.pairss v1.1))),(43,some (3,.ints l6))],[]⟩:PS);refine Ah (Ab (Aa O (Aa O (Aa O ?_))));obtain ⟨hg9,h⟩:=Ac h;refine Ae tt O hg9 ?_;obtain ⟨hg10,h⟩:=Ac h;refine As tt O O O O O O O O O O ⟨_,_,O,hg10.1,hg10.2⟩ ⟨hg10,Y⟩ (Af (Ah (Ab (Aa O (Dr tt O O O O O O O O O O O (Aa O (Af (Ah (Ah ?_)))))))));refine Ab (Aa O (Af (Cb (F:=fun k=>Ce N v1 k) h (α:=List Int) (J:=fun (l55:List Int)=>(⟨[(1,.int from_1),(2,.int to_2),(10,.row 43 0 ((List.replicate (((v1.1.length:Int)).toNat) (0:Int)).length))],[(43,some (3,.ints l55))],[]⟩:PS)) ?_ ?_)))
  ·rintro l55 h;show VC _ _ _ (⟨[(1,.int from_1),(2,.int to_2),(10,.row 43 0 ((List.replicate (((v1.1.length:Int)).toNat) (0:Int)).length))],[(43,some (3,.ints l55))],[]⟩:PS);refine Ah (Ah (Ab (Aa O (Aa O ?_))));obtain ⟨hg11,h⟩:=Ac h;refine Ae tt O hg11 ?_;obtain ⟨hg12,h⟩:=Ac h;refine Ae tt O hg12 (Aa O (Af (At O (fun hb13=>?_) (fun hb13=>?_))))
   ·replace h:=Ai hb13 h;refine Ah (Ab (Cj tt (Ag O) O O O O (Aa O (Aa O (Af (Gw 6 9001 3 (.ints []) O O O O (Ay ?_)))))));show ∃ _,_;cases h;exact ⟨[9001],_,O,⟨O,Y⟩,O,.eq O,O⟩
   replace h:=Aj hb13 h;refine Ar (Ah (Ab (Aa O (Dr tt O O O O O O O O O O O (Aa O (Af (Ah (Ah (Ab ?_)))))))));refine Aa O (Aa O (Af (Cb (F:=fun k=>Bp N from_1 v1 l55 k) h (α:=List Int) (J:=fun (l58:List Int)=>(⟨[(15,.row 108 0 l58.length)],[(108,some (3,.ints l58))],[]⟩:PS)) ?_ ?_)))
   ·rintro l58 h;show VC _ _ _ (⟨[(15,.row 108 0 l58.length)],[(108,some (3,.ints l58))],[]⟩:PS);refine Ah (Ab (Aa O ?_));obtain ⟨v59,hc14,h⟩:=Ad h;refine Bs (Yr N l58 v59 hc14) [108] [] [108] O O O O O O ⟨O,Y⟩ trivial ⟨⟨O,O⟩,Y⟩ (Af (Ah (Ab (Aa O (Aa O (Aa O (Af ?_)))))));show VC ..;obtain ⟨hg15,h⟩:=Ac h;refine Ay ?_;show ∃ _,_;cases h;exact ⟨[108],_,O,⟨O,Y⟩,O,(.eq (by simp only [hg15]; rfl)),O⟩
   intro k h;refine Aq (Bh (α:=(List Int)×Int) (fun | (l61,at62)=>(⟨[(1,.int from_1),(10,.row 43 0 ((List.replicate (((v1.1.length:Int)).toNat) (0:Int)).length)),(15,.row 108 0 l61.length),(16,.int at62)],[(43,some (3,.ints l55)),(108,some (3,.ints l61))],[]⟩:PS)) (Bp N from_1 v1 l55 k) h (En.of ⟨rfl,rfl,rfl,rfl,Y⟩ ⟨rfl,rfl,Y⟩ trivial) (fun _=>rfl) ?_);rintro n ⟨l61,at62⟩ h;rw [Bp] at h;show VC _ _ _ (⟨[(1,.int from_1),(10,.row 43 0 ((List.replicate (((v1.1.length:Int)).toNat) (0:Int)).length)),(15,.row 108 0 l61.length),(16,.int at62)],[(43,some (3,.ints l55)),(108,some (3,.ints l61))],[]⟩:PS);refine Ah (Ah (Ab (Aa O (Aa O (Aa O (Af (At O (fun hb16=>?_) (fun hb16=>?_))))))))
   ·replace h:=Ai hb16 h;refine Ar (Aq (Ah (Ab (Aa O (Aa O ?_)))));obtain ⟨hg17,h⟩:=Ac h;refine Ae tt O hg17 ?_;obtain ⟨hg18,h⟩:=Ac h;refine Ae tt O hg18 (Aa O (Af (Ab (Aa O (Aa O (Dr tt O O O O O O O O O O O ?_))))));obtain ⟨hg19,h⟩:=Ac h;refine Cn tt O O O O O O O O O O O O O O O O (Nat.le_of_eq (Nat.zero_add _)) hg19 (Aa O (Af ?_));show ∃ _,_;exact ⟨((l61++([(l55.getD ((at62).toNat) 0)]:List Int)),(l55.getD ((at62).toNat) 0)),(En.of ⟨O,O,O,O,Y⟩ ⟨O,O,Y⟩ trivial),h⟩
   replace h:=Aj hb16 h;refine Br ?_;show ∃ _,_;exact ⟨l61,(En.of ⟨O,Y⟩ ⟨O,Y⟩ trivial),h⟩
  intro k h;refine Aq (Bh (α:=(List Int)×(List Int)×Int) (fun | (l79,l80,k81)=>(⟨[(1,.int from_1),(2,.int to_2),(8,.row 1190 0 v1.1.length),(10,.row 43 0 ((List.replicate (((v1.1.length:Int)).toNat) (0:Int)).length)),(12,.row 58 0 l80.length),(13,.int k81)],[(1190,some (45,dR 10 (.pairss v1.1))),(8589934602,some (95,dF (.pairss v1.1))),(43,some (3,.ints l79)),(58,some (3,.ints l80))],[]⟩:PS)) (Ce N v1 k) h (En.of ⟨rfl,rfl,rfl,rfl,rfl,rfl,Y⟩ ⟨rfl,rfl,rfl,rfl,Y⟩ trivial) (fun _=>rfl) ?_);rintro n ⟨l79,l80,k81⟩ h;rw [Ce] at h;show VC _ _ _ (⟨[(1,.int from_1),(2,.int to_2),(8,.row 1190 0 v1.1.length),(10,.row 43 0 ((List.replicate (((v1.1.length:Int)).toNat) (0:Int)).length)),(12,.row 58 0 l80.length),(13,.int k81)],[(1190,some (45,dR 10 (.pairss v1.1))),(8589934602,some (95,dF (.pairss v1.1))),(43,some (3,.ints l79)),(58,some (3,.ints l80))],[]⟩:PS);refine Ah (Ah (Ab ?_));iterate 4 refine Aa O ?_
  refine Af (At O (fun hb20=>?_) (fun hb20=>?_))
  ·replace h:=Ai hb20 h;refine Ar (Ah (Aq (Ah (Ab (Aa rfl (Aa rfl (Aa rfl (Af (Cb (F:=fun k=>Bw N v1 k81 k) h (α:=(List Int)×(List Int)) (J:=fun | (l103,l104)=>(⟨[(1,.int from_1),(2,.int to_2),(8,.row 1190 0 v1.1.length),(10,.row 43 0 ((List.replicate (((v1.1.length:Int)).toNat) (0:Int)).length)),(12,.row 58 0 l104.length),(13,.int k81)],[(1190,some (45,dR 10 (.pairss v1.1))),(8589934602,some (95,dF (.pairss v1.1))),(43,some (3,.ints l103)),(58,some (3,.ints l104))],[]⟩:PS)) ?_ ?_)))))))))
   ·rintro ⟨l103,l104⟩ h;show VC _ _ _ (⟨[(1,.int from_1),(2,.int to_2),(8,.row 1190 0 v1.1.length),(10,.row 43 0 ((List.replicate (((v1.1.length:Int)).toNat) (0:Int)).length)),(12,.row 58 0 l104.length),(13,.int k81)],[(1190,some (45,dR 10 (.pairss v1.1))),(8589934602,some (95,dF (.pairss v1.1))),(43,some (3,.ints l103)),(58,some (3,.ints l104))],[]⟩:PS);refine Ab (Aa O ?_);obtain ⟨hg21,h⟩:=Ac h;refine Ae tt O hg21 (Aa O (Af ?_));show ∃ _,_;exact ⟨(l103,l104,(k81+(1:Int))),(En.of ⟨O,O,O,O,O,O,Y⟩ ⟨O,O,O,O,Y⟩ trivial),h⟩
   intro k h;refine Aq (Bh (α:=(List Int)×(List Int)×Int) (fun | (l107,l108,x109)=>(⟨[(1,.int from_1),(2,.int to_2),(8,.row 1190 0 v1.1.length),(10,.row 43 0 ((List.replicate (((v1.1.length:Int)).toNat) (0:Int)).length)),(12,.row 58 0 l108.length),(13,.int k81),(66,.int (v1.1.length:Int)),(67,.int x109)],[(1190,some (45,dR 10 (.pairss v1.1))),(8589934602,some (95,dF (.pairss v1.1))),(43,some (3,.ints l107)),(58,some (3,.ints l108))],[]⟩:PS)) (Bw N v1 k81 k) h (En.of ⟨rfl,rfl,rfl,rfl,rfl,rfl,rfl,rfl,Y⟩ ⟨rfl,rfl,rfl,rfl,Y⟩ trivial) (fun _=>rfl) ?_);rintro n ⟨l107,l108,x109⟩ h;rw [Bw] at h;show VC _ _ _ (⟨[(1,.int from_1),(2,.int to_2),(8,.row 1190 0 v1.1.length),(10,.row 43 0 ((List.replicate (((v1.1.length:Int)).toNat) (0:Int)).length)),(12,.row 58 0 l108.length),(13,.int k81),(66,.int (v1.1.length:Int)),(67,.int x109)],[(1190,some (45,dR 10 (.pairss v1.1))),(8589934602,some (95,dF (.pairss v1.1))),(43,some (3,.ints l107)),(58,some (3,.ints l108))],[]⟩:PS);refine Ah (Ab (Aa O (Af (Ah (At O (fun hb22=>?_) (fun hb22=>?_))))))
   ·replace h:=Ai hb22 h;refine Ar (Ah (Aq (Ah (Ab (Aa O (Aa O (Af (Ah (Bt (by kernel_rfl) (by kernel_rfl) ?_)))))))));iterate 2 refine Bb tt O (Ag O) O O O Y ?_
    obtain ⟨hg23,h⟩:=Ac h;refine Bb tt O (Ag O) O O O hg23 ?_;obtain ⟨hg24,h⟩:=Ac h;refine Bb tt O (Ag O) O O O hg24 ?_;iterate 2 refine Bb tt O (Ag O) O O O Y ?_
    refine Gg O O O (fun hb25=>?_) (fun hb25=>?_)
    ·replace h:=Ai hb25 h;iterate 3 refine Bb tt O (Aw O O O O hb25) O O O Y ?_
     obtain ⟨hg26,h⟩:=Ac h;iterate 2 refine Bb tt O (Aw O O O O hb25) O O O hg26 ?_
     obtain ⟨hg27,h⟩:=Ac h;refine Bb tt O (Aw O O O O hb25) O O O hg27 (cLoadD tt (Aw O O O O hb25) (.pairss v1.1) O O O O O O O O O hg27 ?_);iterate 2 refine Bb tt O (Aw O O O O hb25) O O O Y ?_
     obtain ⟨hg28,h⟩:=Ac h;refine Bb tt O (Aw O O O O hb25) O O O hg28 (cLoadD tt (Aw O O O O hb25) (.pairss v1.1) O O O O O O O O O hg28 ?_);obtain ⟨v111,hc29,h⟩:=Ad h;refine Ta (Js N (v1.1.getD (((l108.getD ((k81).toNat) 0)).toNat) []) (v1.1.getD ((x109).toNat) []) v111 hc29) O (Aw O O O O hb25) O O O O O O ⟨⟨_,Xw (q:=(.pairss v1.1)) O O O (by simp only [Sq.len,List.length_set,List.length_append,List.length_replicate] at *; omega),O,O⟩,⟨_,Xw (q:=(.pairss v1.1)) O O O (by simp only [Sq.len,List.length_set,List.length_append,List.length_replicate] at *; omega),O,O⟩,Y⟩ (Eh O (Ag O) O O O hb25 O (Km (At O (fun hb30=>?_) (fun hb30=>?_))))
     ·replace h:=Ai hb30 h;refine Ah (Ab ?_);iterate 4 refine Aa O ?_
      refine Ae tt O hg26 (Ae tt O hg26 (Ae tt O hg23 (As tt O O O O O O O O O O ⟨_,_,O,hg24.1,hg24.2⟩ ⟨hg24,Y⟩ (Af (Ab (Aa O (Aa O (Dr tt O O O O O O O O O O O ?_))))))));obtain ⟨hg31,h⟩:=Ac h;refine Cn tt O O O O O O O O O O O O O O O O (Nat.le_of_eq (Nat.zero_add _)) hg31 (Aa O (Af (Ab ?_)));obtain ⟨hg32,h⟩:=Ac h;refine Ae tt O hg32 (Aa O (Af ?_));show ∃ _,_;exact ⟨((l107.set ((x109).toNat) (l108.getD ((k81).toNat) 0)),(l108++([x109]:List Int)),(x109+(1:Int))),(En.of ⟨O,O,O,O,O,O,O,O,Y⟩ ⟨O,O,O,O,Y⟩ trivial),h⟩
     replace h:=Aj hb30 h;refine Ar (Ab ?_);obtain ⟨hg33,h⟩:=Ac h;refine Ae tt O hg33 (Aa O (Af ?_));show ∃ _,_;exact ⟨(l107,l108,(x109+(1:Int))),(En.of ⟨O,O,O,O,O,O,O,O,Y⟩ ⟨O,O,O,O,Y⟩ trivial),h⟩
    replace h:=Aj hb25 h;iterate 12 refine cNoT O O O O hb25 O O ?_
    refine Eo O (Ag O) O O O hb25 O (Km (Gx O O (Ar (Ab ?_))));obtain ⟨hg34,h⟩:=Ac h;refine Ae tt O hg34 (Aa O (Af ?_));show ∃ _,_;exact ⟨(l107,l108,(x109+(1:Int))),(En.of ⟨O,O,O,O,O,O,O,O,Y⟩ ⟨O,O,O,O,Y⟩ trivial),h⟩
   replace h:=Aj hb22 h;refine Br ?_;show ∃ _,_;exact ⟨(l107,l108),(En.of ⟨O,O,O,O,O,O,Y⟩ ⟨O,O,O,O,Y⟩ trivial),h⟩
  replace h:=Aj hb20 h;refine Br ?_;show ∃ _,_;exact ⟨l79,(En.of ⟨O,O,O,Y⟩ ⟨O,Y⟩ trivial),h⟩
 intro k h;refine Aq (Bh (α:=(List Int)×Int) (fun | (l113,x114)=>(⟨[(1,.int from_1),(2,.int to_2),(8,.row 1190 0 v1.1.length),(10,.row 43 0 ((List.replicate (((v1.1.length:Int)).toNat) (0:Int)).length)),(45,.int ((List.replicate (((v1.1.length:Int)).toNat) (0:Int)).length:Int)),(46,.int x114)],[(1190,some (45,dR 10 (.pairss v1.1))),(8589934602,some (95,dF (.pairss v1.1))),(43,some (3,.ints l113))],[]⟩:PS)) (Be N v1 k) h (En.of ⟨rfl,rfl,rfl,rfl,rfl,rfl,Y⟩ ⟨rfl,rfl,rfl,Y⟩ trivial) (fun _=>rfl) ?_);rintro n ⟨l113,x114⟩ h;rw [Be] at h;show VC _ _ _ (⟨[(1,.int from_1),(2,.int to_2),(8,.row 1190 0 v1.1.length),(10,.row 43 0 ((List.replicate (((v1.1.length:Int)).toNat) (0:Int)).length)),(45,.int ((List.replicate (((v1.1.length:Int)).toNat) (0:Int)).length:Int)),(46,.int x114)],[(1190,some (45,dR 10 (.pairss v1.1))),(8589934602,some (95,dF (.pairss v1.1))),(43,some (3,.ints l113))],[]⟩:PS);refine Ah (Ab (Aa O (Af (Ah (At O (fun hb35=>?_) (fun hb35=>?_))))))
 ·replace h:=Ai hb35 h;refine Ar (Ah (Aq (Ah (Ab (Aa O (Aa O (Af (Ab (Aa O ?_)))))))));refine Aa O ?_;obtain ⟨hg36,h⟩:=Ac h;refine Ae tt O hg36 ?_;obtain ⟨hg37,h⟩:=Ac h;refine As tt O O O O O O O O O O ⟨_,_,O,hg37.1,hg37.2⟩ ⟨hg37,Y⟩ (Af (Ab ?_));obtain ⟨hg38,h⟩:=Ac h;refine Ae tt O hg38 (Aa O (Af ?_));show ∃ _,_;exact ⟨((l113.set ((x114).toNat) (-1:Int)),(x114+(1:Int))),(En.of ⟨O,O,O,O,O,O,Y⟩ ⟨O,O,O,Y⟩ trivial),h⟩
 replace h:=Aj hb35 h;refine Br ?_;show ∃ _,_;exact ⟨l113,(En.of ⟨O,O,O,O,Y⟩ ⟨O,O,O,Y⟩ trivial),h⟩
end
section
variable {N:Nat}
def parQ (st:QF) (i:Nat):Int:=cnd (decide (i=0)) (st.1.getD 0 0) (st.1.getD (st.2.getD i 0).toNat 0)
structure BF (m:Nat) (st:QF) (b:List Int):Prop where
 len:b.length=m
 no:∀ j:Nat,j<m→(j:Int)∉st.1→b.getD j 0=-1
 par:∀ i,i<st.1.length→b.getD (st.1.getD i 0).toNat 0=parQ st i
theorem Px {l:List Int} {i j:Nat} {x:Int} (h:i≠j):(l.set i x).getD j 0=l.getD j 0:=by
 rw [List.getD_eq_getElem?_getD,List.getElem?_set_ne h,←List.getD_eq_getElem?_getD]
theorem Wg {l:List Int} {i:Nat} {x:Int} (h:i<l.length):(l.set i x).getD i 0=x:=by
 rw [List.getD_eq_getElem?_getD,List.getElem?_set_self h]; rfl
abbrev RP:=Option (List Int×Bool)
theorem path3_s (hN:4000000≤N) {P:List (List (Int×Int))} (hP:P.length≤100) (hPl:∀ x∈P,x.length≤3000000) {ok:Bool} {s:Int} {k:Nat} {st:QF} (h:BQ (nrP P) P.length s st k) (hk:k<st.1.length) (kk:List Int×List Int→RP):∀ (fuel j:Nat) (b:List Int),j≤P.length→P.length<fuel+j→BF P.length (Dq (nrP P) k st j) b →
  ∃ b',Bw N (P,ok) (k:Int) kk fuel (b,(Dq (nrP P) k st j).1,(j:Int))=kk (b',(Dq (nrP P) k st P.length).1)∧BF P.length (Dq (nrP P) k st P.length) b':=by
 intro fuel
 induction fuel with
 | zero=>intro j b h1 h2; omega
 | succ fuel ih=>
  intro j b h1 h2 hb;obtain ⟨hB,⟨r,hr⟩,_⟩:=St h hk j h1;have hql:=hB.qlen;have hbl:=hb.len;rw [Bw];show ∃ b',cnd (decide ((j:Int)<(P.length:Int))) (grd (0≤(j:Int)∧(j:Int)<((List.replicate (((P.length:Int)).toNat) (0:Int)).length:Int)) _) _=_∧_;by_cases hj:j<P.length
  ·have e1:((j:Int)).toNat=j:=by omega
   have e2:((k:Int)).toNat=k:=by omega
   have e3:((P.length:Int)).toNat=P.length:=by omega
   have hgk:(Dq (nrP P) k st j).1.getD k 0=st.1.getD k 0:=by rw [hr]; exact Cw hk
   have hkl:k<(Dq (nrP P) k st j).1.length:=by rw [hr,List.length_append]; omega
   have hrg:=h.rg (st.1.getD k 0) (Cg hk);have hx:(P.getD (st.1.getD k 0).toNat []).length≤3000000:=hPl _ (Cg (by omega));have hnr:nrP P (st.1.getD k 0) (j:Int)=Sg (P.getD (st.1.getD k 0).toNat []) (P.getD j []):=by unfold nrP; rw [e1]
   rw [Av (by omega),List.length_replicate,e3,Am (by omega),Am (by omega),e1]
   have skip:(!(Dq (nrP P) k st j).1.contains (j:Int)&&nrP P (st.1.getD k 0) (j:Int))=false→∃ b',grd (Bg ((j:Int)+1)) (Bw N (P,ok) (k:Int) kk fuel (b,(Dq (nrP P) k st j).1,((j:Int)+1)))=kk (b',(Dq (nrP P) k st P.length).1)∧BF P.length (Dq (nrP P) k st P.length) b':=fun hc=>by
    have e:Dq (nrP P) k st (j+1)=Dq (nrP P) k st j:=by rw [Dq,hc,cnd_false]
    have nx:=ih (j+1) b (by omega) (by omega) (by rw [e]; exact hb);rw [e] at nx;rw [Ci (by omega) (by omega),Al];exact nx
   by_cases hq:(j:Int)∈(Dq (nrP P) k st j).1
   ·have hqc:(Dq (nrP P) k st j).1.contains (j:Int)=true:=by simpa using hq
    have hge:0≤b.getD j 0:=by
     obtain ⟨i,hi,e⟩:=List.mem_iff_getElem.1 hq;have e':(Dq (nrP P) k st j).1.getD i 0=(j:Int):=by rw [List.getD_eq_getElem?_getD,List.getElem?_eq_getElem hi,e]; rfl
     have:=hb.par i hi;rw [e',e1] at this;rw [this,parQ];by_cases h0:i=0
     ·rw [Av h0]; exact (hB.rg _ (Cg hB.pos)).1
     rw [Au h0];have hf:=hB.fr i (by omega) hi;exact (hB.rg _ (Cg (by omega))).1
    rw [Au (by omega)];exact skip (by rw [hqc]; rfl)
   have hqc:(Dq (nrP P) k st j).1.contains (j:Int)=false:=by simpa using hq
   have hneg:=hb.no j hj hq;rw [Av (by omega),Am (by omega),e2,hgk];show ∃ b',grd (0≤st.1.getD k 0∧st.1.getD k 0<(P.length:Int)) (grd (0≤(j:Int)∧(j:Int)<(P.length:Int)) ((Fw N (P.getD (st.1.getD k 0).toNat []) (P.getD j [])).bind _))=_∧_;rw [Am (by omega),Am (by omega),Yu hN hx,Option.bind_some]
   cases hn:Sg (P.getD (st.1.getD k 0).toNat []) (P.getD j []) with
   | true=>
    have e:Dq (nrP P) k st (j+1)=((Dq (nrP P) k st j).1++[(j:Int)],(Dq (nrP P) k st j).2++[(k:Int)]):=by rw [Dq,hqc,hnr,hn]; rfl
    have nx:=ih (j+1) (b.set j (st.1.getD k 0)) (by omega) (by omega) (by
     rw [e];refine ⟨by rw [List.length_set,hbl],fun j' hj' hno=>?_,fun i hi=>?_⟩
     ·have h3:(j':Int)∉(Dq (nrP P) k st j).1:=fun h=>hno (List.mem_append_left _ h);have h4:j≠j':=fun h=>hno (by rw [←h]; simp);rw [Px h4];exact hb.no j' hj' h3
     have hi':i<(Dq (nrP P) k st j).1.length+1:=by simpa using hi
     show (b.set j (st.1.getD k 0)).getD (((Dq (nrP P) k st j).1++[(j:Int)]).getD i 0).toNat 0=parQ ((Dq (nrP P) k st j).1++[(j:Int)],(Dq (nrP P) k st j).2++[(k:Int)]) i;unfold parQ;by_cases hl:i<(Dq (nrP P) k st j).1.length
     ·have hm:(Dq (nrP P) k st j).1.getD i 0∈(Dq (nrP P) k st j).1:=Cg hl;have hr2:=hB.rg _ hm;have hne:j≠((Dq (nrP P) k st j).1.getD i 0).toNat:=fun h=>hq (by rw [show (j:Int)=(Dq (nrP P) k st j).1.getD i 0 by omega]; exact hm);rw [Cw hl,Px hne,hb.par i hl];unfold parQ;by_cases h0:i=0
      ·rw [Av h0,Av h0]; exact (Cw hB.pos).symm
      have hf:=hB.fr i (by omega) hl;rw [Au h0,Au h0];show _=((Dq (nrP P) k st j).1++[(j:Int)]).getD (((Dq (nrP P) k st j).2++[(k:Int)]).getD i 0).toNat 0;have e9:((Dq (nrP P) k st j).2++[(k:Int)]).getD i 0=(Dq (nrP P) k st j).2.getD i 0:=Cw (by have:=hB.len; omega);rw [e9,Cw (by omega)]
     obtain rfl:i=(Dq (nrP P) k st j).1.length:=by omega
     have h0:¬ (Dq (nrP P) k st j).1.length=0:=by have:=hB.pos; omega
     have e4:((Dq (nrP P) k st j).2++[(k:Int)]).getD (Dq (nrP P) k st j).1.length 0=(k:Int):=by rw [←hB.len]; exact Pv _ _
     rw [Pv,e1,Wg (by omega),Au h0];show _=((Dq (nrP P) k st j).1++[(j:Int)]).getD (((Dq (nrP P) k st j).2++[(k:Int)]).getD (Dq (nrP P) k st j).1.length 0).toNat 0
     rw [e4,e2,Cw hkl,hgk])
    rw [e] at nx;rw [cnd_true,Am (by omega),Ci (by omega) (by omega),Al];exact nx
   | false=>
    rw [cnd_false];exact skip (by rw [hnr,hn,Bool.and_false])
  obtain rfl:j=P.length:=by omega
  rw [Au (by omega)];exact ⟨b,O,hb⟩
theorem path2_s (hN:4000000≤N) {P:List (List (Int×Int))} (hP:P.length≤100) (hPl:∀ x∈P,x.length≤3000000) {ok:Bool} {s:Int} (kk:List Int→RP):∀ (fuel k:Nat) (st:QF) (b:List Int),BQ (nrP P) P.length s st k→k≤st.1.length→P.length<fuel+k→BF P.length st b →
  ∃ b',Ce N (P,ok) kk fuel (b,st.1,(k:Int))=kk b'∧BF P.length (Aaa (nrP P) P.length fuel k st) b':=by
 intro fuel
 induction fuel with
 | zero=>intro k st b h h1 h2; have:=h.qlen; omega
 | succ fuel ih=>
  intro k st b h h1 h2 hb;have hql:=h.qlen;rw [Ce,Aaa];by_cases hk:k<st.1.length
  ·have hn:=h.next hk;rw [Av (by omega),if_pos hk]
   obtain ⟨b1,e1,hb1⟩:=path3_s hN hP hPl (ok:=ok) h hk (fun (x:(List Int)×(List Int))=>
     match x with
     | (l103,l104)=>
      grd (Bg ((k:Int)+(1:Int))) <|
      Ce N (P,ok) kk fuel (l103,l104,((k:Int)+(1:Int)))) N 0 b (by omega) (by omega) hb
   obtain ⟨b2,e2,hb2⟩:=ih (k+1) _ b1 hn.1 (by omega) (by omega) hb1;refine ⟨b2,e1.trans ?_,hb2⟩;show grd _ _=_;rw [Ci (by omega) (by omega),Al];exact e2
  rw [Au (by omega),if_neg hk];exact ⟨b,O,hb⟩
def chQ (st:QF):Nat→Nat→List Int
 | 0,_=>[]
 | f+1,i=>cnd (decide (i=0)) [] (st.1.getD (st.2.getD i 0).toNat 0::chQ st f (st.2.getD i 0).toNat)
theorem chQ_len (st:QF):∀ f i,(chQ st f i).length≤f
 | 0,_=>by simp [chQ]
 | f+1,i=>by
  rw [chQ];by_cases h:i=0
  ·rw [Av h]; simp
  rw [Au h]; have:=chQ_len st f (st.2.getD i 0).toNat; simp only [List.length_cons]; omega
theorem getD_inj {l:List Int} (h:l.Nodup) {i j:Nat} (hi:i<l.length) (hj:j<l.length) (e:l.getD i 0=l.getD j 0):i=j:=by
 rw [List.getD_eq_getElem?_getD,List.getD_eq_getElem?_getD,List.getElem?_eq_getElem hi,List.getElem?_eq_getElem hj] at e;exact (List.getElem_inj h).1 (by simpa using e)
theorem pathI1_s (hN:4000000≤N) {P:List (List (Int×Int))} {ok:Bool} (hP:P.length≤100) {s:Int} {st:QF} (h:BQ (nrP P) P.length s st st.1.length) {b:List Int} (hb:BF P.length st b) (kk:List Int→RP):∀ (f fuel i:Nat) (out:List Int),i≤f→f<fuel→i<st.1.length→out.length+f≤1000 →
  Bp N s (P,ok) b kk fuel (out,st.1.getD i 0)=kk (out++chQ st f i):=by
 intro f
 induction f with
 | zero=>
  intro fuel i out h1 h2 h3 h4;obtain ⟨fuel,rfl⟩:∃ g,fuel=g+1:=⟨fuel-1,by omega⟩;obtain rfl:i=0:=by omega
  rw [Bp,Ev h.hd,chQ,List.append_nil]
 | succ f ih=>
  intro fuel i out h1 h2 h3 h4;obtain ⟨fuel,rfl⟩:∃ g,fuel=g+1:=⟨fuel-1,by omega⟩;rw [Bp,chQ];by_cases h0:i=0
  ·subst h0;rw [Ev h.hd,Av rfl,List.append_nil]
  have hne:st.1.getD i 0≠s:=fun e=>h0 (getD_inj h.nd h3 h.pos (by rw [e,h.hd]));have hrg:=h.rg _ (Cg (d:=0) h3);have hf:=h.fr i (by omega) h3;have e3:((P.length:Int)).toNat=P.length:=by omega
  have hbl:=hb.len;have hpar:=hb.par i h3;rw [parQ,Au h0] at hpar;rw [Kl hne];show grd (0≤st.1.getD i 0∧st.1.getD i 0<((List.replicate (((P.length:Int)).toNat) (0:Int)).length:Int)) _=_;rw [List.length_replicate,e3,Am (by omega),Am (by omega),Am (by omega),hpar,Au h0,ih fuel _ _ (by omega) (by omega) (by omega) (by rw [List.length_append]; simp; omega),List.append_assoc];rfl
theorem pathS2_s (hN:4000000≤N) {nr:Int→Int→Bool} {m:Nat} {s:Int} {st:QF} (h:BQ nr m s st st.1.length) (kk:List Int→RP):∀ (f fuel i:Nat) (out:List Int),i≤f→f+1<fuel→i<st.1.length→out.length+f≤1000 →
  Bv N st kk fuel (out,(i:Int))=kk ((st.1.getD i 0::chQ st f i).reverse++out):=by
 intro f
 induction f with
 | zero=>
  intro fuel i out h1 h2 h3 h4;obtain ⟨fuel,rfl⟩:∃ g,fuel=g+2:=⟨fuel-2,by omega⟩;obtain rfl:i=0:=by omega
  have hl:=h.len;have hp:=h.pos;have e:(((0:Nat):Int)).toNat=0:=rfl;rw [Bv,Av (by omega),Am (by omega),tk0,Am (by simp; omega),Am (by omega),e,h.f0,Bv,Au (by omega),chQ];rfl
 | succ f ih=>
  intro fuel i out h1 h2 h3 h4;have hl:=h.len;have hp:=h.pos;have e:((i:Int)).toNat=i:=by omega
  obtain ⟨fuel,rfl⟩:∃ g,fuel=g+2:=⟨fuel-2,by omega⟩;rw [Bv,Av (by omega),Am (by omega),tk0,Am (by simp; omega),Am (by omega),e,chQ];by_cases h0:i=0
  ·subst h0;rw [h.f0,Bv,Au (by omega),Av rfl]; rfl
  have hf:=h.fr i (by omega) h3;have e2:st.2.getD i 0=(((st.2.getD i 0).toNat:Nat):Int):=by omega
  rw [Au h0];have:=ih (fuel+1) (st.2.getD i 0).toNat ([st.1.getD i 0]++out) (by omega) (by omega) (by omega) (by simp; omega);rw [←e2] at this;refine this.trans ?_;congr 1;simp
theorem path_x (hN:4000000≤N) {l:Lnk} (hp:l.f.places.length≤3000000) (hg:l.ground.length≤3000000) {fr to:Int}:∃ (r:List Int) (b:Bool),r.length≤1000∧Fn N l fr to=some (r,b)∧Ht N l fr to=some (r,b):=by
 have hpl:∀ x∈Bl l,x.length≤3000000:=fun x hx=>by have:=Qp hx; omega
 unfold Fn Ht;rw [Ll hN hp hg,Option.bind_some,posesP_s hN hp hg,Option.bind_some];show ∃ r b,_∧cnd (!Qy l) _ (cnd (decide (((Bl l).length:Int) > 100)) _ _)=_∧cnd (!rmOk l) _ _=_;unfold rmOk
 cases hlk:Qy l with
 | false=>exact ⟨[],false,by simp,rfl,rfl⟩
 | true=>
  rw [Bool.not_true,cnd_false,Bool.true_and];generalize hPP:Bl l=P at hpl;by_cases h100:P.length≤100
  case neg=>
   rw [Av (by omega),decide_eq_false h100];exact ⟨[],false,by simp,O,O⟩
  case pos=>
  rw [Au (by omega),decide_eq_true h100,Bool.not_true,cnd_false];show ∃ r b,_∧cnd (decide (fr<0)) _ (cnd (decide (to<0)) _ (cnd (decide (fr≥(P.length:Int))) _ (cnd (decide (to≥(P.length:Int))) _ ((Hr N P fr).bind _))))=_∧grd (Bg ((P.length:Int)-1)) ((Gt N fr 0 ((P.length:Int)-1)).bind _)=_;rw [Ci (by omega) (by omega),Lo,Option.bind_some];by_cases hf:0≤fr∧fr<(P.length:Int)
  case neg=>
   have:inB fr 0 ((P.length:Int)-1)=false:=by
    rw [←Bool.not_eq_true,Wt]; omega
   rw [this,Bool.not_false,cnd_true];refine ⟨[],false,by simp,?_,O⟩;by_cases h1:fr<0
   ·rw [Av h1]
   rw [Au h1];by_cases h2:to<0
   ·rw [Av h2]
   rw [Au h2,Av (by omega)]
  case pos=>
  have hif:inB fr 0 ((P.length:Int)-1)=true:=Wt.2 (by omega);rw [hif,Bool.not_true,cnd_false,Lo,Option.bind_some,Au (by omega)];by_cases ht:0≤to∧to<(P.length:Int)
  case neg=>
   have:inB to 0 ((P.length:Int)-1)=false:=by
    rw [←Bool.not_eq_true,Wt]; omega
   rw [this,Bool.not_false,cnd_true];refine ⟨[],false,by simp,?_,O⟩;by_cases h2:to<0
   ·rw [Av h2]
   rw [Au h2,Au (by omega),Av (by omega)]
  case pos=>
  have hit:inB to 0 ((P.length:Int)-1)=true:=Wt.2 (by omega);have e3:((P.length:Int)).toNat=P.length:=by omega
  rw [hit,Bool.not_true,cnd_false,Au (by omega),Au (by omega),Au (by omega),reachP_s hN (by omega) hpl hf,Option.bind_some];have hB:=bfs0_inv (nr:=nrP P) (m:=P.length) (s:=fr) hf;have hql:=hB.qlen
  have h4:∀ kk:List Int→RP,Be N (P,true) kk N (List.replicate P.length (0:Int),(0:Int))=kk (List.replicate P.length (-1:Int)):=fun kk=>by
   have e0:List.replicate P.length (0:Int)=(List.range P.length).map fun j=>if j<0 then (-1:Int) else 0:=by apply List.ext_getElem <;> simp
   rw [e0];refine fold (N:=N) (len:=P.length) (st:=fun i=>(List.range P.length).map fun j=>if j<i then (-1:Int) else 0) (F:=fun m s=>Be N (P,true) kk m s) (by omega) (fun m i hi=>?_) fun m=>?_
   ·show Be N (P,true) kk (m+1) ((List.range P.length).map fun j=>if j<i then (-1:Int) else 0,(i:Int))=Be N (P,true) kk m ((List.range P.length).map fun j=>if j<i+1 then (-1:Int) else 0,((i+1:Nat):Int));have hll:((List.range P.length).map fun j=>if j<i then (-1:Int) else 0).length=P.length:=by simp
    have e1:((i:Int)).toNat=i:=by omega
    rw [Be];show cnd (decide ((i:Int)<((List.replicate (((P.length:Int)).toNat) (0:Int)).length:Int))) (grd (0≤(i:Int)∧(i:Int)<((List.replicate (((P.length:Int)).toNat) (0:Int)).length:Int)) _) _=_;rw [List.length_replicate,e3,Av (by omega),Am (by omega),hll,Am (by omega),Ci (by omega) (by omega),Al,e1];refine congrArg (fun L=>Be N (P,true) kk m (L,((i+1:Nat):Int))) ?_;apply List.ext_getElem
    ·simp
    intro a h1 h2;rw [List.getElem_set];simp only [List.getElem_map,List.getElem_range];by_cases ha:i=a
    ·rw [if_pos ha,if_pos (by omega)]
    rw [if_neg ha];by_cases hl:a<i
    ·rw [if_pos hl,if_pos (by omega)]
    rw [if_neg hl,if_neg (by omega)]
   show Be N (P,true) kk (m+1) ((List.range P.length).map fun j=>if j<P.length then (-1:Int) else 0,(P.length:Int))=_;rw [Be];show cnd (decide ((P.length:Int)<((List.replicate (((P.length:Int)).toNat) (0:Int)).length:Int))) _ _=_;rw [List.length_replicate,e3,Au (by omega)];congr 1;apply List.ext_getElem
   ·simp
   intro a h1 h2;simp at h1;simp [h1]
  have hb0:BF P.length ([fr],[-1]) ((List.replicate P.length (-1:Int)).set fr.toNat fr):=by
   refine ⟨by simp,fun j hj hno=>?_,fun i hi=>?_⟩
   ·have hne:fr.toNat≠j:=fun e=>hno (by simp; omega);rw [Px hne];simp [List.getD_eq_getElem?_getD,hj]
   have hi0:i=0:=by simp at hi; omega
   subst hi0;show ((List.replicate P.length (-1:Int)).set fr.toNat fr).getD fr.toNat 0=parQ _ 0;rw [Wg (by simp; omega),parQ,Av rfl]; rfl
  obtain ⟨b', e2, hb'⟩ := path2_s hN h100 hpl (ok := true) (s := fr) (fun (l55 : List Int) =>
          grd (0≤to∧to<((List.replicate (((P.length:Int)).toNat) (0:Int)).length:Int)) <|
          grd (0≤to∧to<(l55.length:Int)) <|
          cnd (decide ((l55.getD ((to).toNat) 0)<(0:Int))) (
           some (([]:List Int),false)) (
           Bp N fr (P, true) l55 (fun (l58 : List Int) =>
              (Ep N l58).bind fun v59=>
              grd (l58.length=v59.length) <|
              some (v59,true)) N (([to]:List Int),to))) N 0 ([fr],[-1]) _ (BQ.start hf) (by simp) (by omega) hb0
  rw [Qk N (P.length+1+N) 0 _ (BQ.start hf) (by simp) (by omega) (by omega),←Qk (P.length+1) (P.length+1+N) 0 _ (BQ.start hf) (by simp) (by omega) (by omega)] at hb';have hb:BF P.length (Sm (nrP P) P.length fr) b':=hb';have hbl:=hb.len
  have hI : ∀ X : RP, (grd (0 ≤ to ∧ to < ((List.replicate (((P.length : Int)).toNat) (0 : Int)).length : Int)) <|
          grd (0≤to∧to<(b'.length:Int)) <|
          cnd (decide ((b'.getD ((to).toNat) 0)<(0:Int))) (
           some (([]:List Int),false)) (
           Bp N fr (P, true) b' (fun (l58 : List Int) =>
              (Ep N l58).bind fun v59=>
              grd (l58.length=v59.length) <|
              some (v59,true)) N (([to]:List Int),to)))=X→Be N (P,true) (fun (l6:List Int)=>
       grd (0≤fr∧fr<((List.replicate (((P.length:Int)).toNat) (0:Int)).length:Int)) <|
       grd (0≤fr∧fr<(l6.length:Int)) <|
       Ce N (P, true) (fun (l55 : List Int) =>
          grd (0≤to∧to<((List.replicate (((P.length:Int)).toNat) (0:Int)).length:Int)) <|
          grd (0≤to∧to<(l55.length:Int)) <|
          cnd (decide ((l55.getD ((to).toNat) 0)<(0:Int))) (
           some (([]:List Int),false)) (
           Bp N fr (P, true) l55 (fun (l58 : List Int) =>
              (Ep N l58).bind fun v59=>
              grd (l58.length=v59.length) <|
              some (v59,true)) N (([to]:List Int),to))) N ((l6.set ((fr).toNat) fr),([fr]:List Int),(0:Int))) N ((List.replicate P.length (0:Int)),(0:Int))=X:=fun X hX=>by
   rw [h4];show grd (0≤fr∧fr<((List.replicate (((P.length:Int)).toNat) (0:Int)).length:Int)) (grd (0≤fr∧fr<((List.replicate P.length (-1:Int)).length:Int)) _)=_;rw [Am (by rw [List.length_replicate,e3]; omega),Am (by rw [List.length_replicate]; omega)];exact e2.trans hX
  show ∃ r b,_∧Bm N to (Sm (nrP P) P.length fr) _ N (0:Int)=_∧grd (0≤(P.length:Int)∧(P.length:Int)≤4294967296) (Be N (P,true) _ N (List.replicate (((P.length:Int)).toNat) (0:Int),(0:Int)))=_;rw [Am (by omega),e3];by_cases hm:to∈(Sm (nrP P) P.length fr).1
  ·obtain ⟨k,hk,ek⟩:=List.mem_iff_getElem.1 hm;have ek':(Sm (nrP P) P.length fr).1.getD k 0=to:=by rw [List.getD_eq_getElem?_getD,List.getElem?_eq_getElem hk,ek]; rfl
   have hcl:=chQ_len (Sm (nrP P) P.length fr) k k;refine ⟨(to::chQ (Sm (nrP P) P.length fr) k k).reverse,true,by simp; omega,?_,?_⟩
   ·
    have key:∀ (fuel i:Nat),i≤k→k<fuel+i→Bm N to (Sm (nrP P) P.length fr) (fun (_:Unit)=>some (([]:List Int),false)) fuel (i:Int)=some ((to::chQ (Sm (nrP P) P.length fr) k k).reverse,true):=by
     intro fuel
     induction fuel with
     | zero=>intro i h1 h2; omega
     | succ fuel ih=>
      intro i h1 h2;have e1:((i:Int)).toNat=i:=by omega
      rw [Bm,Av (by omega),Am (by omega),e1];by_cases hik:i=k
      ·subst hik;rw [Ev ek',pathS2_s hN hB _ i N i [] (Nat.le_refl _) (by omega) hk (by simp; omega),ek',List.append_nil]
      have hne:(Sm (nrP P) P.length fr).1.getD i 0≠to:=fun e=>hik (getD_inj hB.nd (by omega) hk (by rw [e,ek']));rw [Kl hne,Ci (by omega) (by omega),Al];exact ih (i+1) (by omega) (by omega)
    exact key N 0 (by omega) (by omega)
   refine hI _ ?_;have hpar:=hb.par k hk;rw [ek'] at hpar
   have hge:0≤b'.getD to.toNat 0:=by
    rw [hpar,parQ];by_cases h0:k=0
    ·rw [Av h0]; exact (hB.rg _ (Cg hB.pos)).1
    rw [Au h0];have hf:=hB.fr k (by omega) hk;exact (hB.rg _ (Cg (by omega))).1
   have h1 := pathI1_s hN (ok := true) h100 hB hb (fun (l58 : List Int) =>
             (Ep N l58).bind fun v59=>
             grd (l58.length=v59.length) <|
             some (v59,true)) k N k [to] (Nat.le_refl _) (by omega) hk (by simp; omega)
   rw [ek'] at h1;rw [List.length_replicate,e3,Am (by omega),Am (by omega),Au (by omega),h1];have e5:Ep N ([to]++chQ (Sm (nrP P) P.length fr) k k)=some ([to]++chQ (Sm (nrP P) P.length fr) k k).reverse:=rfl;show (Ep N _).bind _=_;rw [e5,Option.bind_some,Am (by rw [List.length_reverse])];rfl
  refine ⟨[],false,by simp,?_,?_⟩
  ·have key:∀ (fuel i:Nat),i≤(Sm (nrP P) P.length fr).1.length→(Sm (nrP P) P.length fr).1.length<fuel+i→Bm N to (Sm (nrP P) P.length fr) (fun (_:Unit)=>some (([]:List Int),false)) fuel (i:Int)=some ([],false):=by
    intro fuel
    induction fuel with
    | zero=>intro i h1 h2; omega
    | succ fuel ih=>
     intro i h1 h2;rw [Bm];by_cases hi:i<(Sm (nrP P) P.length fr).1.length
     ·have e1:((i:Int)).toNat=i:=by omega
      have hne:(Sm (nrP P) P.length fr).1.getD i 0≠to:=fun e=>hm (by rw [←e]; exact Cg hi);rw [Av (by omega),Am (by omega),e1,Kl hne,Ci (by omega) (by omega),Al];exact ih (i+1) (by omega) (by omega)
     rw [Au (by omega)]
   exact key N 0 (by omega) (by omega)
  refine hI _ ?_;have e6:((to.toNat:Nat):Int)=to:=by omega
  have:=hb.no to.toNat (by omega) (by rw [e6]; exact hm);rw [List.length_replicate,e3,Am (by omega),Am (by omega),Av (by omega)]
end
section
open Go.RowKit Go.Deep
section
variable {C:Cx} {o:Oper} {s:PS}
end
end
section
open Go.RowKit Go.Deep
section
variable {C:Cx} {ops:Array Oper} {K:PS→Prop} {o:Oper} {rest:List Oper} {s:PS} {TT:List (Nat×Ty)} {tm:List (Nat×D)} {rw':List (Nat×Option (TypeId×Sq))} {bx:List (Nat×Option (List D))} {cr B:List Nat} {j:Nat}
theorem pConvI {src dst:TypeId} {x:Operand} {n:Int} {dsrc:TypeDesc} (hs:C.P.underlying src=some dsrc) (hd:C.P.underlying dst=some (.int .i64)) (hop:o.op=.convert src dst x) (hx:s.ev x=.val (.int .u8 n)) (hn:0≤n∧n<256):Pur C o s (.int n):=
 ⟨fun s1 hs1 M ac w hr'=>by
  have h1:=hr'.ev x;rw [hs1 x (by rw [hop]; simp [Op.operands]),hx] at h1;have e1:ac.eval x=.int .u8 n:=by generalize ac.eval x=v at h1; cases h1; rfl
  have hw:IntKind.i64.wrap n=n:=by
   have h2:(2:Int) ^ IntKind.i64.bits=18446744073709551616:=by decide
   have h3:(2:Int) ^ (IntKind.i64.bits-1)=9223372036854775808:=by decide
   simp only [IntKind.wrap,h2,h3];have h4:n % 18446744073709551616=n:=by omega
   rw [h4,if_neg];simp; intro; omega
  refine ⟨.int .i64 n,?_,.int _⟩
  have hrun:(convert src dst (ac.eval x)).run C.P w=.ok (.int .i64 n) w:=by
   rw [e1];cases dsrc <;> simp [convert,Go.run_underlying hs,Go.run_underlying hd,Conv.intToInt,go_sem,hw]
  unfold execOp;rw [hop];show ((do pure (Next.value (←convert src dst (ac.eval x))):Sem Next)).run C.P w=_
  rw [Sem.run_bind,hrun]; rfl⟩
end
end
section
open Go.RowKit Go.Deep
section
variable {C:Cx} {ops:Array Oper} {K:PS→Prop} {o:Oper} {rest:List Oper} {s s':PS} {TT:List (Nat×Ty)} {tm:List (Nat×D)} {rw':List (Nat×Option (TypeId×Sq))} {bx:List (Nat×Option (List D))} {cr B:List Nat} {j:Nat}
end
end
section
open Go.RowKit Go.Deep
structure PCallB (P:Program) (f:FuncId) (ds cs:List D):Prop where
 enter:∀ args w,(callFunc f args).run P w=.ok (.enter f args) w
 noc:(cs.all fun d=>!Cc (fun _=>true) (fun _=>true) d)=true
 run:∀ w args (A:Bool→Nat→Prop),(∀ k,A true k→A false k)→ArgsM A M0 w ds args→Calls P f args w fun e w'=>∃ k cur et,e=.returned (.pointer (some ⟨k,0,none⟩))∧w.heap.size≤k∧w'.heap[k]? = some (.cells cur et (0,0))∧cs.length=cur.size ∧
  (∀ j d,cs[j]? = some d→VR M0 (fun f b=>(A f b∨w.heap.size≤b)∧b≠k) w' d (cur.getD j undef))∧w'.os=w.os∧w'.tape=w.tape∧w'.output=w.output∧w.heap.size≤w'.heap.size∧∀ i,i<w.heap.size→w'.heap[i]? = w.heap[i]?
section
variable {w0:World} {O0:Hd} {n:Nat} {M:Mp} {s:PS} {a:Act} {w w':World}
theorem Rel.newBoxAt (h:Rel w0 O0 n M s a w) {b k0:Nat} {cs:List D} {cur:Array Value} {e:TypeId} (hsz:w.heap.size≤w'.heap.size) (hblk:∀ k,k<w.heap.size→w'.heap[k]? = w.heap[k]?) (hos:w'.os=w.os) (htp:w'.tape=w.tape) (hout:w'.output=w.output) (hk0:w.heap.size≤k0) (hcell:w'.heap[k0]? = some (.cells cur e (0,0)))
  (hf:Fresh s (fun x=>Nat.beq x b) (fun _=>false)) (hl:cs.length=cur.size) (hc:∀ j d,cs[j]? = some d→VR M0 (fun f k=>(Ow (Fs w0 O0) M f k∨w.heap.size≤k)∧k≠k0) w' d (cur.getD j undef)) (hm:∀ d∈cs,Cc (fun _=>true) (fun _=>true) d=false) (hlo:b<1000000) :
  ∃ M',Rel w0 O0 n M' (s.addBox b cs) a w'∧M'.β b=some k0:=by
 let M':Mp:=⟨fun x=>if x=b then some k0 else M.β x,M.γ⟩
 have hown:∀ k,M'.owned k→M.owned k∨k=k0:=by
  rintro k (⟨x,hx⟩ | ⟨r,c,z,hr⟩)
  ·simp only [M'] at hx;split at hx
   ·cases hx; exact .inr rfl
   exact .inl (.inl ⟨x,hx⟩)
  exact .inl (.inr ⟨r,c,z,hr⟩)
 have hA:∀ f k,k<w.heap.size→Ow (Fs w0 O0) M f k→Ow (Fs w0 O0) M' f k∧k<w'.heap.size∧w'.heap[k]? = w.heap[k]?:=fun f k h1 h2=>
  ⟨⟨fun h3=>by rcases hown k h3 with h4 | h4; exact h2.1 h4; omega,h2.2⟩,by omega,hblk k h1⟩
 have hA1:∀ f k,k<w'.heap.size→((Ow (Fs w0 O0) M f k∨w.heap.size≤k)∧k≠k0)→Ow (Fs w0 O0) M' f k∧k<w'.heap.size∧w'.heap[k]? = w'.heap[k]?:=fun f k h1 ⟨h2,h5⟩=>by
  refine ⟨⟨fun h3=>?_,?_⟩,h1,O⟩
  ·rcases hown k h3 with h4 | h4
   ·rcases h2 with h2 | h2
    ·exact h2.1 h4
    have:=h.lt k h4; omega
   exact h5 h4
  rcases h2 with h2 | h2
  ·exact h2.2
  exact .inl (Nat.le_trans h.fr.size h2)
 have hβ:∀ x k,Nat.beq x b=false→M'.β x=some k→M.β x=some k:=fun x k h1 h2=>by
  simp only [M'] at h2;rw [if_neg] at h2
  ·exact h2
  intro e; subst e; rw [Nat.beq_refl] at h1; cases h1
 have hγ:∀ x y,(fun _=>false) x=false→M'.γ x=some y→M.γ x=some y:=fun x y _ h=>h;refine ⟨M',⟨?_,h.dfr,h.sz,fun t=>?_,fun x ds hx=>?_,fun x hx=>?_,fun r e q hr=>?_,fun r hr=>h.rown r hr,fun k hk=>?_,fun x x' k h1 h2=>?_,h.inj2,fun x r k c z h1 h2=>?_,h.nle,fun x k k' h1 h2=>?_,h.fxr⟩,by simp [M']⟩
 ·exact h.fr.step hos htp hout hsz fun k h1 _=>hblk k (Nat.lt_of_lt_of_le h1 h.fr.size)
 ·exact VR.new hA hγ hβ (hf.t t) (h.tmp t)
 ·by_cases hxb:b=x
  ·subst hxb;simp [PS.addBox,PS.b,Ao] at hx;subst hx;exact ⟨k0,cur,e,by simp [M'],hcell,hl,fun j d hd=>VR.newS (b:=fun _=>true) (r:=fun _=>true) hA1 (fun x y hx=>by cases hx) (fun x y hx=>by cases hx) (hm d (List.mem_of_getElem? hd)) (hc j d hd)⟩
  have hx':s.b x=some ds:=by simpa [PS.addBox,PS.b,Ap hxb] using hx
  obtain ⟨k,cur',e',h1,h2,h3,h4⟩:=h.box x ds hx';have hlt:=(Array.getElem?_eq_some_iff.1 h2).1;exact ⟨k,cur',e',by simp [M',Ne.symm hxb,h1],(hblk k hlt).trans h2,h3,fun j d hd=>VR.newS hA hγ hβ (hf.b _ _ hx' d (List.mem_of_getElem? hd)) (h4 j d hd)⟩
 ·by_cases hxb:b=x
  ·subst hxb; simp [PS.addBox,PS.b,Ao] at hx
  have hx':s.b x=none:=by simpa [PS.addBox,PS.b,Ap hxb] using hx
  simp [M',Ne.symm hxb,h.boxn x hx']
 ·rcases h.row r e q hr with ⟨h1,h2⟩ | ⟨g,cap,cur',h1,h2,h3,h4,h5,h6⟩
  ·exact .inl ⟨h1,h2⟩
  have hlt:=(Array.getElem?_eq_some_iff.1 h2).1;exact .inr ⟨g,cap,cur',h1,(hblk g hlt).trans h2,h3,h4,h5,fun i j d hi hd=>(h6 i j d hi hd).relem_any hd hA⟩
 ·rcases hown k hk with h1 | rfl
  ·exact h.low k h1
  exact .inl (Nat.le_trans h.fr.size hk0)
 ·have hno:∀ y,M.β y≠some k0:=fun y hy=>by have:=h.lt _ (.inl ⟨y,hy⟩); omega
  simp only [M'] at h1 h2;split at h1 <;> split at h2
  ·simp_all
  ·cases h1; exact absurd h2 (hno _)
  ·cases h2; exact absurd h1 (hno _)
  exact h.inj1 _ _ _ h1 h2
 ·simp only [M'] at h1;split at h1
  ·cases h1; have:=h.lt _ (.inr ⟨r,c,z,h2⟩); omega
  exact h.inj3 _ _ _ _ _ h1 h2
 have h3:=O0.lob x k h1;simp only [M'] at h2;rw [if_neg (by omega)] at h2;exact h.fxb x k k' h1 h2
end
section
variable {C:Cx} {ops:Array Oper} {K:PS→Prop} {o:Oper} {rest:List Oper} {s s':PS} {TT:List (Nat×Ty)} {tm:List (Nat×D)} {rw':List (Nat×Option (TypeId×Sq))} {bx:List (Nat×Option (List D))}
def fitsB (s:PS):List Operand→List D→Prop
 | [],[]=>True
 | x::xs,d::ds=>s.ev x=d∧Jn d=true∧fitsB s xs ds
 | _,_=>False
theorem fitsB_get {s:PS}:∀ {xs:List Operand} {ds:List D},fitsB s xs ds→xs.length=ds.length∧∀ (i:Nat) (d:D),ds[i]? = some d→∃ x:Operand,xs[i]? = some x∧s.ev x=d∧Jn d=true
 | [],[],_=>⟨rfl,fun i d h=>by simp at h⟩
 | x::xs,d::ds,h=>by
  obtain ⟨h1,h2,h3⟩:=h;obtain ⟨h4,h5⟩:=fitsB_get h3;refine ⟨by simp [h4],fun i e hi=>?_⟩
  cases i with
  | zero=>simp at hi; subst hi; exact ⟨x,rfl,h1,h2⟩
  | succ i=>simp at hi ⊢; exact h5 i e hi
theorem oCallB {f:FuncId} {args:Array Operand} {ts:Array TypeId} {ds cs:List D} (hp:PCallB C.P f ds cs) (hg:o.guard=none) (hop:o.op=.call { callee:=.value (.func f),args:=args,argTypes:=ts }) {b:Nat} (hd:o.dst=some b) (hn:Nat.blt b C.n=true) (hfr:frB ⟨tm,rw',bx⟩ (fun y=>Nat.beq y b) noB=true)
  (hfit:fitsB ⟨tm,rw',bx⟩ args.toList ds) (h:VO C ops K rest ⟨(b,.ptr b 0)::tm,rw',(b,some cs)::bx⟩):VO C ops K (o::rest) ⟨tm,rw',bx⟩:=by
 refine vOp hg ⟨fun M a w Q K' hr hk=>?_⟩
 have hrun:(execOp a.eval o).run C.P w=.ok (.enter f (args.map a.eval)) w:=by
  have:=hp.enter (args.map a.eval) w;unfold execOp;rw [hop];show ((do let d ←resolve a.eval _ o.type; invoke d.target d.args:Sem Next)).run C.P w=_;simp only [resolve];show ((callFunc f ((#[]++args.map a.eval)++#[])):Sem Next).run C.P w=_;rw [show (#[]++args.map a.eval)++#[]=args.map a.eval by simp];exact this
 obtain ⟨g1,g2⟩:=fitsB_get hfit
 have hargs:ArgsM (Ow (Fs C.w0 C.O0) M) M0 w ds (args.map a.eval):=by
  refine ⟨by simpa using g1,fun i d hi=>?_⟩;obtain ⟨x,hx,hev,hno⟩:=g2 i d hi;have h1:=hr.ev x;rw [hev] at h1
  have h2:(args.map a.eval).getD i undef=a.eval x:=by
   have:args[i]? = some x:=by simpa using hx
   simp [this]
  rw [h2];refine VR.new (b:=fun _=>true) (r:=fun _=>true) (fun f k h1 h2=>⟨h2,h1,O⟩) (fun x y hx=>by cases hx) (fun x y hx=>by cases hx) ?_ h1;simpa [Jn] using hno
 unfold Oper.wp;rw [hrun];refine (hp.run w _ (Ow (Fs C.w0 C.O0) M) (fun k hk=>⟨hk.1,hk.2.imp_right (C.O0.mon k)⟩) hargs).mono ?_;rintro e w' ⟨k,cur,et,rfl,k1,k2,k3,k4,k5,k6,k7,k8,k9⟩;have hlo:b<1000000:=by have h1000:=hr.nle; rw [Nat.blt_eq] at hn; omega
 obtain ⟨M',h2,h3⟩:=hr.newBoxAt (b:=b) (k0:=k) (cs:=cs) k8 k9 k5 k6 k7 k1 k2 (Ke hfr) k3 (fun j d hj=>k4 j d hj) (fun d hd=>by have:=(List.all_eq_true.1 hp.noc) d hd; simpa using this) hlo;refine hk M' _ _ _ h ?_;rw [hd];exact h2.put (o:=some b) hn (.ptr _ _ _ O fun k hk=>by rw [h3] at hk; cases hk; rfl)
end
def RetB (TT:List (Nat×Ty)) (res:List ResultVar) (cs:List D):Exit→PS→Prop:=fun e s=>match e with
 | .normal | .ret=>∃ b,retD TT s res=some (.ptr b 0)∧s.b b=some cs∧Nat.blt b 1000000=true
 | _=>False
theorem pcallB_intro {P:Program} {f:FuncId} {fn:Func} {c:Code} {TT:List (Nat×Ty)} {ds cs:List D} {n:Nat} {res:List ResultVar} (hT:Ki P TT) (hf:P.funcs[f]? = some fn) (hb:fn.body=some c)
  (hname : (fn.name == "runtime.NumGoroutine") = false) (hn : fn.ntmps = n) (hres : fn.results.toList = res) (hds : Nat.ble ds.length n = true) (hno : (ds.all Jn) = true) (hnoc : (cs.all fun d => !Cc (fun _ => true) (fun _ => true) d) = true)
  (h:∀ w0 O0,VC ⟨P,w0,O0,n⟩ c (RetB TT res cs) ⟨entL 0 ds,[],[]⟩) (hn1000:Nat.ble n 1000=true:=by rfl):PCallB P f ds cs:=by
 subst hn hres;refine ⟨Mt hf hname (by simp [hb]),hnoc,fun w0 args A hmon ⟨hsz,hargs⟩=>?_⟩;have hle:=Nat.le_of_ble_eq_true hds
 let O0:Hd:=⟨fun _=>False,fun f k=>A f k,fun _ _ h=>h.elim,hmon,fun _=>none,fun _=>none,fun _ _ h=>(by cases h),fun _ _ h=>(by cases h)⟩
 have hM0:∀ k,¬ M0.owned k:=by rintro k (⟨x,hx⟩ | ⟨x,c,z,hx⟩) <;> simp at hx
 have hent:Rel w0 O0 fn.ntmps M0 ⟨entL 0 ds,[],[]⟩ { tmps:=args++Array.replicate (fn.ntmps-args.size) undef,defers:=[] } w0:=by
  refine ⟨⟨O,O,O,Nat.le_refl _,fun _ _ _=>O⟩,O,by simp; omega,fun t=>?_,fun b cs hb=>by simp [PS.b,Bf] at hb,fun _ _=>O,fun r e q hr=>(by rw [r_ent] at hr; cases hr),fun _ _=>O,fun k hk=>absurd hk (hM0 k),by simp,by simp,by simp,Nat.le_of_ble_eq_true hn1000,fun b k k' h=>by simp [O0] at h,fun b k k' h=>by simp [O0] at h⟩;simp only [PS.t,Pk,Nat.zero_le,if_true,Nat.sub_zero]
  cases hd:ds[t]? with
  | none=>exact .dead _
  | some d0=>
   have hlt:t<args.size:=by rw [hsz]; exact (List.getElem?_eq_some_iff.1 hd).1
   have h1:=hargs t d0 hd
   have h2:(args++Array.replicate (fn.ntmps-args.size) undef).getD t undef=args.getD t undef:=by
    simp [Array.getElem?_append_left hlt]
   rw [h2];exact h1.mono (fun f b h1 h2=>⟨⟨hM0 b,.inr h2⟩,h1,O⟩) (fun _ _ h=>h) (fun _ _ h=>h)
 refine calls_of_wp hf hb (Code.wp_mono ?_ ((h w0 O0).out M0 _ w0 hent));rintro e a' w' ⟨s',M',hq,hr⟩
 have fin:∀ (hq:∃ b,retD TT s' fn.results.toList=some (.ptr b 0)∧s'.b b=some cs∧Nat.blt b 1000000=true),
   a'.defers=[]∧∃ v,(results fn a'.tmps).run P w'=.ok v w'∧∃ k cur et,Ending.returned v=.returned (.pointer (some ⟨k,0,none⟩))∧w0.heap.size≤k∧w'.heap[k]? = some (.cells cur et (0,0))∧cs.length=cur.size ∧
    (∀ j d,cs[j]? = some d→VR M0 (fun f b=>(A f b∨w0.heap.size≤b)∧b≠k) w' d (cur.getD j undef))∧w'.os=w0.os∧w'.tape=w0.tape∧w'.output=w0.output∧w0.heap.size≤w'.heap.size∧∀ i,i<w0.heap.size→w'.heap[i]? = w0.heap[i]?:=by
  rintro ⟨b,h1,h2,h3⟩;obtain ⟨v,h6,h7⟩:=ret_ok hT hr h1;obtain ⟨k,cur,et,g1,g2,g3,g4⟩:=hr.box b cs h2
  have hv:v=.pointer (some ⟨k,0,none⟩):=by
   cases h7 with
   | ptr _ _ _ _ h8=>exact h8 k g1
  refine ⟨hr.dfr,v,h6,k,cur,et,by rw [hv],(hr.low k (.inl ⟨b,g1⟩)).resolve_right (fun h=>h),g2,g3,fun j d hj=>?_,hr.fr.os,hr.fr.tape,hr.fr.output,hr.fr.size,fun i hi=>hr.fr.block i hi (fun h=>h)⟩;have hmm:=(List.all_eq_true.1 hnoc) d (List.mem_of_getElem? hj);refine VR.newS (b:=fun _=>true) (r:=fun _=>true) (fun f i h1 h2=>⟨⟨?_,fun e=>h2.1 (by rw [e]; exact .inl ⟨b,g1⟩)⟩,h1,O⟩) (fun x y hx=>by cases hx) (fun x y hx=>by cases hx) (by simpa using hmm) (g4 j d hj);rcases h2.2 with h3 | h3
  ·exact .inr h3
  exact .inl h3
 cases e <;> first | exact fin hq | exact hq.elim
end
section
open Go.RowKit Go.Deep
structure Cur where
 b:List Int
 i:Int
 h:Int
def xorI (a b:Int):Int:=IntKind.i64.wrap ((BitVec.ofInt 64 a ^^^ BitVec.ofInt 64 b).toNat:Int)
section
variable {C:Cx} {ops:Array Oper} {K:PS→Prop} {o:Oper} {rest:List Oper} {s:PS} {tm:List (Nat×D)} {rw':List (Nat×Option (TypeId×Sq))} {bx:List (Nat×Option (List D))}
theorem pXor {t u:TypeId} {x y:Operand} {a b:Int} (hop:o.op=.binOp .xor t x y u) (hx:s.ev x=.int a) (hy:s.ev y=.int b):Pur C o s (.int (xorI a b)):=
 ⟨fun s1 hs M ac w hr'=>by
  have h1:=hr'.ev x;have h2:=hr'.ev y;rw [hs x (by rw [hop]; simp [Op.operands]),hx] at h1;rw [hs y (by rw [hop]; simp [Op.operands]),hy] at h2;have e1:=h1.int_inv;have e2:=h2.int_inv;refine ⟨.int .i64 (xorI a b),?_,.int _⟩;simp only [execOp,hop,e1,e2];simp [eqGuard,binOp,Op.intBits,go_sem,IntKind.bits]
  rfl⟩
theorem pShrU {t u:TypeId} {x y:Operand} {a n:Int} (hop:o.op=.binOp .shr t x y u) (hx:s.ev x=.int a) (hy:s.ev y=.val (.int .u64 n)) (hn:0≤n):Pur C o s (.int (shrI a n)):=
 ⟨fun s1 hs M ac w hr'=>by
  have h1:=hr'.ev x;have h2:=hr'.ev y;rw [hs x (by rw [hop]; simp [Op.operands]),hx] at h1;rw [hs y (by rw [hop]; simp [Op.operands]),hy] at h2;have e1:=h1.int_inv;have e2:ac.eval y=.int .u64 n:=by generalize ac.eval y=v at h2; cases h2; rfl
  have h4:¬ n<0:=by omega
  refine ⟨.int .i64 (shrI a n),?_,.int _⟩;simp only [execOp,hop,e1,e2];simp [eqGuard,binOp,Op.shift,go_sem,h4,IntKind.bits]
  rfl⟩
theorem En.zero (r:Nat) (e:TypeId) (q:Sq) (hq:q.len=0) (hf:frB ⟨tm,rw',bx⟩ noB (isR r)=true) (hr:Nat.blt r 1000000=true:=by rfl):En C ⟨tm,rw',bx⟩ ⟨tm,(r,some (e,q))::rw',bx⟩:=⟨fun M a w h=>by
 rw [Nat.blt_eq] at hr;obtain ⟨M',h1,_⟩:=h.nilRow (r:=r) (e:=e) (q:=q) hq (Ke hf) hr
 exact ⟨M',h1⟩⟩
end
end
section
open Go.RowKit
def Gs (N:Nat) (g_0:Grf) (x_1:Int×Int) (k:((List (Int×Int))×Bool)→Option (Grf)):Nat→((List (Int×Int))×Bool×Int)→Option (Grf)
 | 0,_=>none
 | n+1,(l17,placed18,i19)=>
  cnd (decide (i19<(g_0.bars.length:Int))) (
   cnd (!placed18) (
    grd (0≤i19∧i19<(g_0.bars.length:Int)) <|
    (Ml N (g_0.bars.getD ((i19).toNat) (0,0)) x_1).bind fun v21=>
    cnd (!v21) (
     grd (l17.length+1≤4294967296) <|
     grd ((l17++([(x_1.1,x_1.2)]:List (Int×Int))).length+1≤4294967296) <|
     grd (Bg (i19+(1:Int))) <|
     Gs N g_0 x_1 k n (((l17++([(x_1.1,x_1.2)]:List (Int×Int)))++([((g_0.bars.getD ((i19).toNat) (0,0)).1,(g_0.bars.getD ((i19).toNat) (0,0)).2)]:List (Int×Int))),true,(i19+(1:Int)))) (
     grd (l17.length+1≤4294967296) <|
     grd (Bg (i19+(1:Int))) <|
     Gs N g_0 x_1 k n ((l17++([((g_0.bars.getD ((i19).toNat) (0,0)).1,(g_0.bars.getD ((i19).toNat) (0,0)).2)]:List (Int×Int))),placed18,(i19+(1:Int))))) (
    grd (0≤i19∧i19<(g_0.bars.length:Int)) <|
    grd (l17.length+1≤4294967296) <|
    grd (Bg (i19+(1:Int))) <|
    Gs N g_0 x_1 k n ((l17++([((g_0.bars.getD ((i19).toNat) (0,0)).1,(g_0.bars.getD ((i19).toNat) (0,0)).2)]:List (Int×Int))),placed18,(i19+(1:Int))))) (
   k (l17,placed18))
def Fl (N:Nat) (g_0:Grf) (x_1:Int×Int):Option (Grf):=
 Gs N g_0 x_1 (fun (x:(List (Int×Int))×Bool)=>
   match x with
   | (l10,placed11)=>
    cnd (!placed11) (
     grd (l10.length+1≤4294967296) <|
     some (⟨g_0.n,(l10++([(x_1.1,x_1.2)]:List (Int×Int)))⟩:Grf)) (
     some (⟨g_0.n,l10⟩:Grf))) N (([]:List (Int×Int)),false,(0:Int))
theorem Hz (N:Nat) (g_0:Grf) (x_1:Int×Int) (r:Grf) (h:Fl N g_0 x_1=some r):PCall Tryz.prog 63 [gD g_0,.agg [.int x_1.1,.int x_1.2]] [(42,.pairs r.bars)] (.agg [.int r.n,.row 0 0 r.bars.length]):=by
 unfold Fl at h;refine Ak (TT:=TT) tt Tryz.func63 O O Tryz.ntmps63 (congrArg Array.toList Tryz.results63) O O fun w0=>(Ah (Ab ?_));iterate 2 refine Lw O O O O O O O O O ?_
 refine Bq tt O O O O O O O O O (Af (Ah (Ab (Aa O (Aa O (Cj tt (Ag O) O O O O (Gb (Ag O) (Ds Eu O O) O O (Bq tt O O O O O O O O O (As tt O O O O O O O O O O O ⟨Y,Y,Y⟩ ?_)))))))));refine Af (Ah (Ab (Aa O (Af (Ah (Ah (Ab (Aa O (Af ?_)))))))));refine Cb (F:=fun k=>Gs N g_0 x_1 k) h (α:=(List (Int×Int))×Bool) (J:=fun | (l10,placed11)=>(⟨[(3,.ptr 3 0),(4,.ptr 4 0),(5,.ptr 5 0),(6,.bool placed11)],[(35,some (42,.pairs l10))],[(3,some [.int x_1.1,.int x_1.2]),(4,some [.int (0:Int),.nil]),(5,some [.int g_0.n,.row 35 0 l10.length])]⟩:PS)) ?_ ?_
 ·rintro ⟨l10,placed11⟩ h;show VC _ _ _ (⟨[(3,.ptr 3 0),(4,.ptr 4 0),(5,.ptr 5 0),(6,.bool placed11)],[(35,some (42,.pairs l10))],[(3,some [.int x_1.1,.int x_1.2]),(4,some [.int (0:Int),.nil]),(5,some [.int g_0.n,.row 35 0 l10.length])]⟩:PS);refine Ah (Ah (Ab (Aa O (Aa O (Af (At O (fun hb1=>?_) (fun hb1=>?_)))))))
  ·replace h:=Ai hb1 h;refine Ab (Aa O (Aa O (Aa O (Dr tt O O O O O O O O O O O ?_))));obtain ⟨hg2,h⟩:=Ac h;refine Cn tt O O O O O O O O O O O O O O O O (Nat.le_of_eq (Nat.zero_add _)) hg2 (Aa O (As tt O O O O O O O O O O O ⟨Y,Y⟩ (Af (Ah (Ab (Aa O (As tt O O O O O O O O O O O ⟨Y,Y,Y⟩ (Af (Ay ?_)))))))));show ∃ _,_;cases h;exact ⟨[35],_,O,⟨O,Y⟩,O,.eq O,O⟩
  replace h:=Aj hb1 h;refine Ar (Ah (Ab (Aa O (As tt O O O O O O O O O O O ⟨Y,Y,Y⟩ (Af (Ay ?_))))));show ∃ _,_;cases h;exact ⟨[35],_,O,⟨O,Y⟩,O,.eq O,O⟩
 intro k h;refine Aq (vNilB 5 1 35 42 (.pairs []) rfl rfl rfl rfl rfl (Bh (α:=(List (Int×Int))×Bool×Int) (fun | (l17,placed18,i19)=>(⟨[(2,.ptr 2 0),(3,.ptr 3 0),(4,.ptr 4 0),(5,.ptr 5 0),(6,.bool placed18),(7,.int i19)],[(35,some (42,.pairs l17))],[(2,some [.int g_0.n,.ro false (.pairs g_0.bars)]),(3,some [.int x_1.1,.int x_1.2]),(4,some [.int (0:Int),.nil]),(5,some [.int g_0.n,.row 35 0 l17.length])]⟩:PS)) (Gs N g_0 x_1 k) h (En.of ⟨rfl,rfl,rfl,rfl,rfl,rfl,Y⟩ ⟨rfl,Y⟩ ⟨rfl,rfl,rfl,rfl,Y⟩) (fun _=>rfl) ?_));rintro n ⟨l17,placed18,i19⟩ h;rw [Gs] at h;show VC _ _ _ (⟨[(2,.ptr 2 0),(3,.ptr 3 0),(4,.ptr 4 0),(5,.ptr 5 0),(6,.bool placed18),(7,.int i19)],[(35,some (42,.pairs l17))],[(2,some [.int g_0.n,.ro false (.pairs g_0.bars)]),(3,some [.int x_1.1,.int x_1.2]),(4,some [.int (0:Int),.nil]),(5,some [.int g_0.n,.row 35 0 l17.length])]⟩:PS);refine Ah (Ah (Ab ?_));iterate 5 refine Aa O ?_
 refine Af (At O (fun hb3=>?_) (fun hb3=>?_))
 ·replace h:=Ai hb3 h;refine Ar (Ah (Aq (Ah (Ah (Bt (by kernel_rfl) (by kernel_rfl) ?_)))));iterate 3 refine Bb tt O (Ag O) O O O Y ?_
  refine Gg O O O (fun hb4=>?_) (fun hb4=>?_)
  ·replace h:=Ai hb4 h;iterate 3 refine Bb tt O (Aw O O O O hb4) O O O Y ?_
   obtain ⟨hg5,h⟩:=Ac h;refine Bb tt O (Aw O O O O hb4) O O O hg5 ?_;iterate 2 refine Bb tt O (Aw O O O O hb4) O O O Y ?_
   obtain ⟨v21,hc6,h⟩:=Ad h;refine Ta (Yv N (g_0.bars.getD ((i19).toNat) (0,0)) x_1 v21 hc6) O (Aw O O O O hb4) O O O O O O ⟨⟨O,O,Y⟩,⟨O,O,Y⟩,Y⟩ (Bb tt O (Aw O O O O hb4) O O O Y (Eh O (Ag O) O O O hb4 O (Km (At O (fun hb7=>?_) (fun hb7=>?_)))))
   ·replace h:=Ai hb7 h;refine Ah (Ab (Aa O (Aa O (Aa O (Dr tt O O O O O O O O O O O ?_)))));obtain ⟨hg8,h⟩:=Ac h;refine Cn tt O O O O O O O O O O O O O O O O (Nat.le_of_eq (Nat.zero_add _)) hg8 (Aa O (As tt O O O O O O O O O O O ⟨Y,Y⟩ (Af (Ab (Aa O (Af (Df 8 [7] [0,1,0,4,0,28,60,124,255,511,1023] (by kernel_rfl) (by kernel_rfl) (by kernel_rfl) (by kernel_rfl) (by kernel_rfl) O (by rfl) ?_)))))));iterate 5 refine Ei tt O (Ag O) O O O O O Y ?_
    refine Ei tt O (Ag O) O O O O O hg5 (Ei tt O (Ag O) O O O O O Y (nBuild tt (Ag O) O O O O O O O O O O O O (Tp ?_)));show VO _ _ _ _ _;obtain ⟨hg9,h⟩:=Ac h;refine Cn tt O O O O O O O O O O O O O O O O (Nat.le_of_eq (Nat.zero_add _)) hg9 (Aa O (As tt O O O O O O O O O O O ⟨Y,Y⟩ (Af (Ab (Aa O ?_)))));obtain ⟨hg10,h⟩:=Ac h;refine Ae tt O hg10 (Aa O (Af ?_));show ∃ _,_;exact ⟨(((l17++([(x_1.1,x_1.2)]:List (Int×Int)))++([((g_0.bars.getD ((i19).toNat) (0,0)).1,(g_0.bars.getD ((i19).toNat) (0,0)).2)]:List (Int×Int))),true,(i19+(1:Int))),(En.of ⟨O,O,O,O,O,O,Y⟩ ⟨O,Y⟩ ⟨O,O,O,O,Y⟩),h⟩
   replace h:=Aj hb7 h;refine Ar (Df 8 [7] [0,1,0,4,0,28,60,124,255,511,1023] (by kernel_rfl) (by kernel_rfl) (by kernel_rfl) (by kernel_rfl) (by kernel_rfl) O (by rfl) ?_);iterate 5 refine Ei tt O (Ag O) O O O O O Y ?_
   refine Ei tt O (Ag O) O O O O O hg5 (Ei tt O (Ag O) O O O O O Y (nBuild tt (Ag O) O O O O O O O O O O O O (Tp ?_)));show VO _ _ _ _ _;obtain ⟨hg11,h⟩:=Ac h;refine Cn tt O O O O O O O O O O O O O O O O (Nat.le_of_eq (Nat.zero_add _)) hg11 (Aa O (As tt O O O O O O O O O O O ⟨Y,Y⟩ (Af (Ab (Aa O ?_)))));obtain ⟨hg12,h⟩:=Ac h;refine Ae tt O hg12 (Aa O (Af ?_));show ∃ _,_;exact ⟨((l17++([((g_0.bars.getD ((i19).toNat) (0,0)).1,(g_0.bars.getD ((i19).toNat) (0,0)).2)]:List (Int×Int))),placed18,(i19+(1:Int))),(En.of ⟨O,O,O,O,O,O,Y⟩ ⟨O,Y⟩ ⟨O,O,O,O,Y⟩),h⟩
  replace h:=Aj hb4 h;iterate 8 refine cNoT O O O O hb4 O O ?_
  refine Eo O (Ag O) O O O hb4 O (Km (Gx O O (Ar (Df 8 [7] [0,1,0,4,0,28,60,124,255,511,1023] (by kernel_rfl) (by kernel_rfl) (by kernel_rfl) (by kernel_rfl) (by kernel_rfl) O (by rfl) ?_))));iterate 5 refine Ei tt O (Ag O) O O O O O Y ?_
  obtain ⟨hg13,h⟩:=Ac h;refine Ei tt O (Ag O) O O O O O hg13 (Ei tt O (Ag O) O O O O O Y (nBuild tt (Ag O) O O O O O O O O O O O O (Tp ?_)));show VO _ _ _ _ _;obtain ⟨hg14,h⟩:=Ac h;refine Cn tt O O O O O O O O O O O O O O O O (Nat.le_of_eq (Nat.zero_add _)) hg14 (Aa O (As tt O O O O O O O O O O O ⟨Y,Y⟩ (Af (Ab (Aa O ?_)))));obtain ⟨hg15,h⟩:=Ac h;refine Ae tt O hg15 (Aa O (Af ?_));show ∃ _,_;exact ⟨((l17++([((g_0.bars.getD ((i19).toNat) (0,0)).1,(g_0.bars.getD ((i19).toNat) (0,0)).2)]:List (Int×Int))),placed18,(i19+(1:Int))),(En.of ⟨O,O,O,O,O,O,Y⟩ ⟨O,Y⟩ ⟨O,O,O,O,Y⟩),h⟩
 replace h:=Aj hb3 h;refine Br ?_;show ∃ _,_;exact ⟨(l17,placed18),(En.of ⟨O,O,O,O,Y⟩ ⟨O,Y⟩ ⟨O,O,O,Y⟩),h⟩
end
section
open Go.RowKit
def Ey (N:Nat) (g_0:Grf):Option (Grf):=
 grd (g_0.bars.length≤4294967296) <|
 some (⟨g_0.n,(([]:List (Int×Int))++g_0.bars)⟩:Grf)
theorem Ga (N:Nat) (g_0:Grf) (r:Grf) (h:Ey N g_0=some r):PCall Tryz.prog 61 [gD g_0] [(42,.pairs r.bars)] (.agg [.int r.n,.row 0 0 r.bars.length]):=by
 unfold Ey at h;refine Ak (TT:=TT) tt Tryz.func61 O O Tryz.ntmps61 (congrArg Array.toList Tryz.results61) O O fun w0=>(Ah (Ab (Lw O O O O O O O O O (Bq tt O O O O O O O O O (Af (Ah (Df 6 [5] [0,1,0,0,8,28,63,127] (by kernel_rfl) (by kernel_rfl) (by kernel_rfl) (by kernel_rfl) (by kernel_rfl) O (by rfl) ?_)))))));iterate 2 refine Ei tt O (Ag O) O O O O O Y ?_
 refine nEmpty tt (Ag O) O O O O O ?_;iterate 2 refine Ei tt O (Ag O) O O O O O Y ?_
 obtain ⟨hg1,h⟩:=Ac h;refine nAppNil tt (Ag O) O O O O O O O O (fun _=>O) O O O O O O hg1 (Tp ?_);show VO _ _ _ _ _;refine Gb (Ag O) (Ds Eu O O) O O (As tt O O O O O O O O O O O ⟨Y,Y,Y⟩ (Af (Ay ?_)));show ∃ _,_;cases h;exact ⟨[8],_,O,⟨O,Y⟩,O,.eq O,O⟩
end
section
open Go.RowKit
end
section
open Go.RowKit
end
section
open Go.RowKit
end
section
open Go.RowKit
end
section
open Go.RowKit
def Hl (N:Nat) (g_0:Grf) (k_1:Int):Option (Grf×Bool):=
 (La N g_0).bind fun v1=>
 cnd (!v1) (
  (Ey N g_0).bind fun v2=>
  some ((⟨v2.n,v2.bars⟩:Grf),false)) (
  cnd (decide (k_1<(0:Int))) (
   (Ey N g_0).bind fun v3=>
   some ((⟨v3.n,v3.bars⟩:Grf),false)) (
   cnd (decide (k_1≥(g_0.bars.length:Int))) (
    (Ey N g_0).bind fun v4=>
    some ((⟨v4.n,v4.bars⟩:Grf),false)) (
    grd (0≤k_1∧k_1≤(g_0.bars.length:Int)) <|
    grd (((g_0.bars.take ((k_1).toNat)).drop 0).length≤4294967296) <|
    grd (Bg (k_1+(1:Int))) <|
    grd (0≤(k_1+(1:Int))∧(k_1+(1:Int))≤(g_0.bars.length:Int)) <|
    grd ((([]:List (Int×Int))++((g_0.bars.take ((k_1).toNat)).drop 0)).length+((g_0.bars.take g_0.bars.length).drop (((k_1+(1:Int))).toNat)).length≤4294967296) <|
    some ((⟨g_0.n,((([]:List (Int×Int))++((g_0.bars.take ((k_1).toNat)).drop 0))++((g_0.bars.take g_0.bars.length).drop (((k_1+(1:Int))).toNat)))⟩:Grf),true))))
theorem Rz (N:Nat) (g_0:Grf) (k_1:Int) (r:Grf×Bool) (h:Hl N g_0 k_1=some r):PCall Tryz.prog 122 [gD g_0,.int k_1] [(42,.pairs r.1.bars)] (.tup [.agg [.int r.1.n,.row 0 0 r.1.bars.length],.bool r.2]):=by
 unfold Hl at h;refine Ak (TT:=TT) tt Tryz.func122 O O Tryz.ntmps122 (congrArg Array.toList Tryz.results122) O O fun w0=>(Ah (Ab (Lw O O O O O O O O O (Bq tt O O O O O O O O O (Aa O (Af (Ah (Ah (Ab ?_)))))))));refine Aa O ?_;obtain ⟨v1,hc1,h⟩:=Ad h;refine Bn (Rn N g_0 v1 hc1) O O O O O O O O ⟨⟨O,O,Y⟩,Y⟩ (Aa O (Aa O (Bi O O O (fun hb2=>?_) (fun hb2=>?_))))
 ·replace h:=Ai hb2 h;iterate 2 refine Fd O O O O hb2 O O ?_
  refine Bd O O O O O hb2 O (Aa O ?_);iterate 5 refine Fd O O O O O O O ?_
  refine Bd O O O O O O O (Af (Bo O O (Ah (Ab (Aa O ?_)))));obtain ⟨v2,hc3,h⟩:=Ad h;refine Bn (Ga N g_0 v2 hc3) O O O O O O O O ⟨⟨O,O,Y⟩,Y⟩ (As tt O O O O O O O O O O O ⟨Y,Y,Y⟩ (Aa O (Af (Ay ?_))));show ∃ _,_;cases h;exact ⟨[1210],_,O,⟨O,Y⟩,O,.eq O,O⟩
 replace h:=Aj hb2 h;iterate 2 refine Bj tt O O O O O hb2 O O O Y ?_
 refine Az O O O O O hb2 O (Aa O (Bi O O O (fun hb4=>?_) (fun hb4=>?_)))
 ·replace h:=Ai hb4 h;iterate 5 refine Fd O O O O hb4 O O ?_
  refine Bd O O O O O hb4 O (Af (Bo O O (Ah (Ab (Aa O ?_)))));obtain ⟨v3,hc5,h⟩:=Ad h;refine Bn (Ga N g_0 v3 hc5) O O O O O O O O ⟨⟨O,O,Y⟩,Y⟩ (As tt O O O O O O O O O O O ⟨Y,Y,Y⟩ (Aa O (Af (Ay ?_))));show ∃ _,_;cases h;exact ⟨[1210],_,O,⟨O,Y⟩,O,.eq O,O⟩
 replace h:=Aj hb4 h;iterate 5 refine Bj tt O O O O O hb4 O O O Y ?_
 refine Az O O O O O hb4 O (Af (At O (fun hb6=>?_) (fun hb6=>?_)))
 ·replace h:=Ai hb6 h;refine Ah (Ab (Aa O ?_));obtain ⟨v4,hc7,h⟩:=Ad h;refine Bn (Ga N g_0 v4 hc7) O O O O O O O O ⟨⟨O,O,Y⟩,Y⟩ (As tt O O O O O O O O O O O ⟨Y,Y,Y⟩ (Aa O (Af (Ay ?_))));show ∃ _,_;cases h;exact ⟨[1210],_,O,⟨O,Y⟩,O,.eq O,O⟩
 replace h:=Aj hb6 h;refine Ar (Ah (Df 14 [7,13,1130000029] [0,1,0,0,8,0,56,124,0,256,0,1024,3840,8188,16383,32767,65535] (by kernel_rfl) (by kernel_rfl) (by kernel_rfl) (by kernel_rfl) (by kernel_rfl) O (by rfl) ?_));iterate 2 refine Ei tt O (Ag O) O O O O O Y ?_
 refine nEmpty tt (Ag O) O O O O O ?_;iterate 3 refine Ei tt O (Ag O) O O O O O Y ?_
 obtain ⟨hg8,h⟩:=Ac h;refine Ei tt O (Ag O) O O O O O hg8 ?_;obtain ⟨hg9,h⟩:=Ac h;refine nAppNil tt (Ag O) O O O O O O O O (fun _=>O) O O O O O O hg9 ?_;iterate 3 refine Ei tt O (Ag O) O O O O O Y ?_
 obtain ⟨hg10,h⟩:=Ac h;refine Ei tt O (Ag O) O O O O O hg10 ?_;obtain ⟨hg11,h⟩:=Ac h;refine Ei tt O (Ag O) O O O O O hg11 ?_;obtain ⟨hg12,h⟩:=Ac h;refine nAppMove tt (Ag O) O O O O O O O O O O O O O O O O O O O O Y hg12 (Tp ?_);show VO _ _ _ _ _;refine Gb (Ag O) (Ds Eu O O) O O (As tt O O O O O O O O O O O ⟨Y,Y,Y⟩ (Aa O (Af (Ay ?_))));show ∃ _,_;cases h;exact ⟨[35],_,O,⟨O,Y⟩,O,.eq O,O⟩
end
section
open Go.RowKit
end
section
open Go.RowKit
end
section
open Go.RowKit
end
section
open Go.RowKit Go.Deep
end
section
open Go.RowKit
def Ek (N:Nat) (n_0:Int) (mask_1:Int) (k:(List Int)→Option (List Int)):Nat→((List Int)×Int)→Option (List Int)
 | 0,_=>none
 | n+1,(l5,i6)=>
  cnd (decide (i6<n_0)) (
   grd (0≤i6) <|
   cnd ((andI (shrI mask_1 i6) (1:Int))==(1:Int)) (
    grd (l5.length+1≤4294967296) <|
    grd (Bg (i6+(1:Int))) <|
    Ek N n_0 mask_1 k n ((l5++([i6]:List Int)),(i6+(1:Int)))) (
    grd (Bg (i6+(1:Int))) <|
    Ek N n_0 mask_1 k n (l5,(i6+(1:Int))))) (
   k l5)
def Ql (N:Nat) (n_0:Int) (mask_1:Int):Option (List Int):=
 Ek N n_0 mask_1 (fun (l3 : List Int) =>
    some l3) N (([]:List Int),(0:Int))
theorem Yh (N:Nat) (n_0:Int) (mask_1:Int) (r:List Int) (h:Ql N n_0 mask_1=some r):PCall Tryz.prog 49 [.int n_0,.int mask_1] [(3,.ints r)] (.row 0 0 r.length):=by
 unfold Ql at h;refine Ak (TT:=TT) tt Tryz.func49 O O Tryz.ntmps49 (congrArg Array.toList Tryz.results49) O O fun w0=>(Ah (Ab (Aa O (Af (Ah (Ab (Cj tt (Ag O) O O O O (Aa O (Af ?_)))))))));refine Ah (Ah (Ab (Aa O (Af (Cb (F:=fun k=>Ek N n_0 mask_1 k) h (α:=List Int) (J:=fun (l3:List Int)=>(⟨[(5,.row 21 0 l3.length)],[(21,some (3,.ints l3))],[]⟩:PS)) ?_ ?_)))))
 ·rintro l3 h;show VC _ _ _ (⟨[(5,.row 21 0 l3.length)],[(21,some (3,.ints l3))],[]⟩:PS);refine Ah (Ab (Aa O (Aa O (Af (Ay ?_)))));show ∃ _,_;cases h;exact ⟨[21],_,O,⟨O,Y⟩,O,.eq O,O⟩
 intro k h;refine Aq (Gw 5 21 3 (.ints []) rfl rfl rfl rfl (Bh (α:=(List Int)×Int) (fun | (l5,i6)=>(⟨[(0,.int n_0),(1,.int mask_1),(5,.row 21 0 l5.length),(6,.int i6)],[(21,some (3,.ints l5))],[]⟩:PS)) (Ek N n_0 mask_1 k) h (En.of ⟨rfl,rfl,rfl,rfl,Y⟩ ⟨rfl,Y⟩ trivial) (fun _=>rfl) ?_));rintro n ⟨l5,i6⟩ h;rw [Ek] at h;show VC _ _ _ (⟨[(0,.int n_0),(1,.int mask_1),(5,.row 21 0 l5.length),(6,.int i6)],[(21,some (3,.ints l5))],[]⟩:PS);refine Ah (Ah (Ab (Aa O (Aa O (Aa O (Af (At O (fun hb1=>?_) (fun hb1=>?_))))))))
 ·replace h:=Ai hb1 h;refine Ar (Ah (Aq (Ah (Ab (Aa O (Aa O ?_))))));obtain ⟨hg2,h⟩:=Ac h;refine Ae tt O hg2 (Aa O (Aa O (Af (At O (fun hb3=>?_) (fun hb3=>?_)))))
  ·replace h:=Ai hb3 h;refine Ab (Aa O (Aa O (Dr tt O O O O O O O O O O O ?_)));obtain ⟨hg4,h⟩:=Ac h;refine Cn tt O O O O O O O O O O O O O O O O (Nat.le_of_eq (Nat.zero_add _)) hg4 (Aa O (Af (Ab (Aa O ?_))));obtain ⟨hg5,h⟩:=Ac h;refine Ae tt O hg5 (Aa O (Af ?_));show ∃ _,_;exact ⟨((l5++([i6]:List Int)),(i6+(1:Int))),(En.of ⟨O,O,O,O,Y⟩ ⟨O,Y⟩ trivial),h⟩
  replace h:=Aj hb3 h;refine Ar (Ab (Aa O ?_));obtain ⟨hg6,h⟩:=Ac h;refine Ae tt O hg6 (Aa O (Af ?_));show ∃ _,_;exact ⟨(l5,(i6+(1:Int))),(En.of ⟨O,O,O,O,Y⟩ ⟨O,Y⟩ trivial),h⟩
 replace h:=Aj hb1 h;refine Br ?_;show ∃ _,_;exact ⟨l5,(En.of ⟨O,Y⟩ ⟨O,Y⟩ trivial),h⟩
end
end Go.Proofs.YtaipbhnpandbkaaGreat
