/- Texts that the proof needs, put together: M3 M4 M5 M6 Vt Wr Shb Pa Pc G1 G4 G5 G6 G7 G2 G8 G14 G15 Pd Pe Pf Ph G10. -/
import Derived.MapKept
import Derived.Laws.CopyRow
import Derived.Test.YtaipbhnpandbkaaGreatChecked
import Derived.Laws.StructEq
import Derived.Test.YtaipbhnpandbkaaGreatBLr2
set_option maxRecDepth 20000
set_option maxHeartbeats 1600000
set_option linter.unusedVariables false
set_option linter.unusedSimpArgs false
namespace Go.Proofs.YtaipbhnpandbkaaGreat
section
open Go.RowKit Go.Deep
def mp:List Nat→List Nat→Nat→Option Nat
 | k::l,i::m,r=>match Nat.beq k r with | true=>some i | false=>mp l m r
 | _,_,_=>none
def asL {α:Type}:List Nat→List α→List (Nat×Option α)
 | k::l,x::m=>(k,some x)::asL l m
 | _,_=>[]
theorem Cm (k i:Nat) (l m:List Nat):mp (k::l) (i::m) k=some i:=by simp [mp,Nat.beq_refl]
theorem Ee {k r:Nat} (h:k≠r) (i:Nat) (l m:List Nat):mp (k::l) (i::m) r=mp l m r:=by
 have:Nat.beq k r=false:=by
  cases hb:Nat.beq k r
  ·rfl
  exact absurd (Nat.eq_of_beq_eq_true hb) h
 simp [mp,this]
theorem Ko:∀ {l m:List Nat} {r i:Nat},mp l m r=some i→r∈l∧i∈m
 | [],m,r,i,h=>by simp [mp] at h
 | k::l,[],r,i,h=>by simp [mp] at h
 | k::l,j::m,r,i,h=>by
  by_cases hk:k=r
  ·subst hk; rw [Cm] at h; cases h; exact ⟨by simp,by simp⟩
  rw [Ee hk] at h; have:=Ko h; exact ⟨by simp [this.1],by simp [this.2]⟩
theorem Ro {x:Nat} {l:List Nat} (h:Ej (x::l)=true):x∉l∧Ej l=true:=by
 simp only [Ej,Bool.and_eq_true,List.all_eq_true] at h;refine ⟨fun hx=>?_,h.2⟩;have:=h.1 x hx;simp [Nat.beq_refl] at this
theorem Xl:∀ {l m:List Nat} {r i:Nat},Ej m=true→mp l m r=some i→mp m l i=some r
 | [],m,r,i,hn,h=>by simp [mp] at h
 | k::l,[],r,i,hn,h=>by simp [mp] at h
 | k::l,j::m,r,i,hn,h=>by
  obtain ⟨hn1,hn2⟩:=Ro hn;by_cases hk:k=r
  ·subst hk; rw [Cm] at h; cases h; rw [Cm]
  rw [Ee hk] at h;have h1:=Ko h;rw [Ee (fun e=>hn1 (by subst e; exact h1.2))];exact Xl hn2 h
theorem Kj:∀ {l m:List Nat} {r:Nat},l.length=m.length→r∈l→∃ i,mp l m r=some i
 | [],m,r,hl,h=>by simp at h
 | k::l,[],r,hl,h=>by simp at hl
 | k::l,j::m,r,hl,h=>by
  by_cases hk:k=r
  ·subst hk; exact ⟨j,Cm _ _ _ _⟩
  rw [Ee hk]; exact Kj (by simpa using hl) (by simpa [Ne.symm hk] using h)
def Ff {α:Type} (f:Nat→Option α):List Nat→List α→Prop
 | [],[]=>True
 | i::l,x::m=>f i=some x∧Ff f l m
 | _,_=>False
theorem Zn {α:Type} {f:Nat→Option α}:∀ {l:List Nat} {m:List α},Ff f l m→l.length=m.length
 | [],[],_=>rfl
 | _::l,_::m,h=>by simp [Zn h.2]
 | [],_::_,h=>h.elim
 | _::_,[],h=>h.elim
theorem asL_none {α:Type}:∀ {k:List Nat} {x:List α} {r:Nat},k.length=x.length→r∉k→Bf (asL k x) r=none
 | [],x,r,_,_=>by simp [asL,Bf]
 | k::l,[],r,hl,_=>by simp at hl
 | k::l,x::m,r,hl,h=>by
  rw [asL,Ap (fun e=>h (by simp [e]))];exact asL_none (by simpa using hl) (fun hh=>h (by simp [hh]))
theorem Wr {α:Type} {f:Nat→Option α}:∀ {k i:List Nat} {x:List α} {r:Nat},k.length=i.length→Ff f i x→(Bf (asL k x) r=none∧mp k i r=none)∨∃ y j,Bf (asL k x) r=some (some y)∧mp k i r=some j∧f j=some y
 | [],[],[],r,_,_=>.inl ⟨rfl,rfl⟩
 | k::l,j::i,y::x,r,hl,h=>by
  by_cases hk:k=r
  ·subst hk; exact .inr ⟨y,j,by rw [asL,Ao],Cm _ _ _ _,h.1⟩
  rw [asL,Ap hk,Ee hk];exact Wr (by simpa using hl) h.2
 | [],_::_,_,_,hl,_=>by simp at hl
 | _::_,[],_,_,hl,_=>by simp at hl
 | [],[],_::_,_,_,h=>h.elim
 | _::_,_::_,[],_,_,h=>h.elim
theorem Lh {α:Type}:∀ {k i:List Nat} {x:List α} {r:Nat},k.length=i.length→i.length=x.length→(Bf (asL k x) r=none∧mp k i r=none)∨∃ y j,Bf (asL k x) r=some (some y)∧mp k i r=some j∧((Ej i=true→Bf (asL i x) j=some (some y)))
 | [],[],[],r,_,_=>.inl ⟨rfl,rfl⟩
 | k::l,j::i,y::x,r,hl,h=>by
  by_cases hk:k=r
  ·subst hk; exact .inr ⟨y,j,by rw [asL,Ao],Cm _ _ _ _,fun _=>by rw [asL,Ao]⟩
  rw [asL,Ap hk,Ee hk];rcases Lh (r:=r) (show l.length=i.length by simpa using hl) (show i.length=x.length by simpa using h) with h1 | ⟨y',j',h1,h2,h3⟩
  ·exact .inl h1
  refine .inr ⟨y',j',h1,h2,fun hn=>?_⟩;obtain ⟨n1,n2⟩:=Ro hn;rw [asL,Ap (fun e=>n1 (by subst e; exact (Ko h2).2))];exact h3 n2
 | [],_::_,_,_,hl,_=>by simp at hl
 | _::_,[],_,_,hl,_=>by simp at hl
 | [],[],_::_,_,_,h=>by simp at h
 | _::_,_::_,[],_,_,h=>by simp at h
def Ws:List Nat→List Nat→Bool
 | k::l,i::m=>(match Fe k,Fe i with | true,true=>true | _,_=>Nat.beq k i&&Nat.blt k BIG)&&Ws l m
 | _,_=>true
theorem famB_ok:∀ {l m:List Nat} {r i:Nat},Ws l m=true→mp l m r=some i→(Fe r=true∧Fe i=true)∨(r=i∧Fe r=false∧r<BIG)
 | [],m,r,i,_,h=>by simp [mp] at h
 | k::l,[],r,i,_,h=>by simp [mp] at h
 | k::l,j::m,r,i,hf,h=>by
  unfold Ws at hf;rw [Bool.and_eq_true] at hf;by_cases hk:k=r
  ·subst hk;rw [Cm] at h;cases h;have h1:=hf.1;split at h1
   ·rename_i a1 a2; exact .inl ⟨a1,a2⟩
   rename_i hno;rw [Bool.and_eq_true,Nat.blt_eq] at h1;have e:=Nat.eq_of_beq_eq_true h1.1;subst e;refine .inr ⟨O,?_,h1.2⟩
   cases hn:Fe k with
   | false=>rfl
   | true=>exact (hno hn hn).elim
  rw [Ee hk] at h;exact famB_ok hf.2 h
theorem famB_lt {l m:List Nat} {r i:Nat} (hf:Ws l m=true) (h:mp l m r=some i):Nat.ble BIG r=false∧Nat.ble BIG i=false:=by
 rcases famB_ok hf h with ⟨h1,h2⟩ | ⟨rfl,h1,h2⟩
 ·exact ⟨Cq h1,Cq h2⟩
 have:Nat.ble BIG r=false:=by
  cases hb:Nat.ble BIG r with
  | false=>rfl
  | true=>have:=Nat.le_of_ble_eq_true hb; omega
 exact ⟨this,this⟩
theorem Ls (u:Nat):Fe (FK+unF u)=false:=by
 cases h:Fe (FK+unF u) with
 | false=>rfl
 | true=>exact absurd rfl (notF_ne h (u-BIG))
theorem famB_fk {l m:List Nat} {u i:Nat} (hf:Ws l m=true) (h:mp l m (FK+unF u)=some i):i=FK+unF u:=by
 rcases famB_ok hf h with ⟨h1,_⟩ | ⟨h1,_⟩
 ·rw [Ls] at h1; cases h1
 exact h1.symm
theorem Xe:∀ {l m:List Nat},Ws l m=true→Ws m l=true
 | [],m,_=>by cases m <;> rfl
 | k::l,[],_=>rfl
 | k::l,j::m,h=>by
  unfold Ws at h ⊢;rw [Bool.and_eq_true] at h ⊢;refine ⟨?_,Xe h.2⟩;have h1:=h.1;split at h1
  ·rename_i a1 a2; rw [a1,a2]
  rename_i hno;rw [Bool.and_eq_true] at h1;have e:=Nat.eq_of_beq_eq_true h1.1;subst e;split
  ·rename_i a1 _; exact (hno a1 a1).elim
  rw [Bool.and_eq_true]; exact ⟨Nat.beq_refl _,h1.2⟩
def mpI (l m:List Nat) (r:Nat):Option Nat:=match Nat.ble BIG r with | true=>(match mp l m (FK+unF r) with | some _=>some r | none=>none) | false=>mp l m r
theorem Td {l m:List Nat} {r:Nat} (h:Nat.ble BIG r=false):mpI l m r=mp l m r:=by unfold mpI; rw [h]
theorem Xb {l m:List Nat} {r:Nat} (h:Nat.ble BIG r=true):mpI l m r=match mp l m (FK+unF r) with | some _=>some r | none=>none:=by unfold mpI; rw [h]
theorem Zt {l m:List Nat} {r i:Nat} (hf:Ws l m=true) (h:mp l m r=some i):mpI l m r=some i:=by rw [Td (famB_lt hf h).1]; exact h
theorem Qj {l m:List Nat} {r i:Nat} (hf:Ws l m=true) (h:mpI l m r=some i):(Nat.ble BIG r=false∧Nat.ble BIG i=false∧mp l m r=some i)∨(Nat.ble BIG r=true∧i=r∧mp l m (FK+unF r)=some (FK+unF r)):=by
 cases hb:Nat.ble BIG r with
 | false=>rw [Td hb] at h; exact .inl ⟨rfl,(famB_lt hf h).2,h⟩
 | true=>
  rw [Xb hb] at h;split at h
  ·rename_i j hj;cases h;rw [famB_fk hf hj] at hj;exact .inr ⟨O,O,hj⟩
  cases h
theorem Mq {l m:List Nat} {r i:Nat} (hf:Ws l m=true) (hn:Ej m=true) (h:mpI l m r=some i):mpI m l i=some r:=by
 rcases Qj hf h with ⟨h1,h2,h3⟩ | ⟨h1,rfl,h3⟩
 ·rw [Td h2]; exact Xl hn h3
 rw [Xb h1,Xl hn h3]
def He (l:List Nat) (x:Nat):Bool:=l.any fun k=>Nat.beq k x
theorem Kv {l:List Nat} {x:Nat} (h:He l x=true):x∈l:=by
 simp only [He,List.any_eq_true] at h;obtain ⟨k,hk,hx⟩:=h;rw [←Nat.eq_of_beq_eq_true hx]; exact hk
theorem mem_isIn {l:List Nat} {x:Nat} (h:x∈l):He l x=true:=by
 simp only [He,List.any_eq_true];exact ⟨x,h,Nat.beq_refl x⟩
def scS (rk bk:List Nat):D→Bool
 | .int _ | .bool _ | .val _ | .nil | .ro _ _ | .dead=>true
 | .row x _ _=>He rk x
 | .ptr x _=>He bk x
 | .clo _ bs=>bs.all (He bk)
 | _=>false
def scA (rk bk:List Nat):D→Bool
 | .agg l=>l.all (scS rk bk)
 | d=>scS rk bk d
def scT (rk bk:List Nat):D→Bool
 | .tup l=>l.all (scA rk bk)
 | d=>scA rk bk d
def sgm (l m:List Nat) (r:Nat):Nat:=match mp l m r with | some i=>i | none=>0
theorem sc_un {rk rids bk bids:List Nat} (hl:rk.length=rids.length) (hb:bk.length=bids.length) {N M:Mp} {A A':Bool→Nat→Prop} {w w':World}
  (hγ:∀ r i x,mp rk rids r=some i→N.γ r=some x→M.γ i=some x) (hβ:∀ r i x,mp bk bids r=some i→N.β r=some x→M.β i=some x)
  (hA:∀ f b,b<w.heap.size→A f b→A' f b∧b<w'.heap.size∧w'.heap[b]? = w.heap[b]?) {d:D} {v:Value} (h:VR M A w (renS (sgm bk bids) (sgm rk rids) d) v) (hs:scS rk bk d=true):VR N A' w' d v:=by
 cases d <;> simp only [scS,Bool.false_eq_true] at hs <;> simp only [renS] at h
 case int=>cases h; exact .int _
 case bool=>cases h; exact .bool _
 case val=>cases h with | val _ h=>exact .val _ h
 case nil=>cases h with | nil ao=>exact .nil ao
 case dead=>exact .dead _
 case ro f q=>exact h.ro_any hA
 case row r off n=>
  obtain ⟨i,hi⟩:=Kj hl (Kv hs)
  cases h with
  | row _ _ _ _ h1 h=>
   refine .row _ _ _ _ h1 fun x hx=>h x ?_;simp only [sgm,hi];exact hγ r i x hi hx
 case ptr b off=>
  obtain ⟨i,hi⟩:=Kj hb (Kv hs)
  cases h with
  | ptr _ _ _ h1 h=>
   refine .ptr _ _ _ h1 fun x hx=>h x ?_;simp only [sgm,hi];exact hβ b i x hi hx
 case clo f bs=>
  cases h with
  | clo _ _ _ h1 h=>
   refine .clo _ _ _ h1 fun ks hk=>h ks ?_
   have key:∀ (bs:List Nat) (ks:List Nat),bs.all (He bk)=true→Jl N.β bs=some ks→Jl M.β (bs.map (sgm bk bids))=some ks:=by
    intro bs
    induction bs with
    | nil=>intro ks _ h; exact h
    | cons b bs ih=>
     intro ks hs hk;simp only [List.all_cons,Bool.and_eq_true] at hs;simp only [List.map_cons,Jl] at hk ⊢;split at hk
     ·rename_i k ks' h1 h2;cases hk;obtain ⟨i,hi⟩:=Kj hb (Kv hs.1);have e1:sgm bk bids b=i:=by simp [sgm,hi]
      rw [e1,hβ b i k hi h1,ih ks' hs.2 h2]
     cases hk
   exact key bs ks hs hk
theorem sc_ren {rk pids bk bids:List Nat} (hl:rk.length=pids.length) (hb:bk.length=bids.length) {N M':Mp} {A A':Bool→Nat→Prop} {w w':World}
  (hγ:∀ r i x,mp rk pids r=some i→M'.γ i=some x→N.γ r=some x) (hβ:∀ r i x,mp bk bids r=some i→M'.β i=some x→N.β r=some x)
  (hA:∀ f b,b<w.heap.size→A f b→A' f b∧b<w'.heap.size∧w'.heap[b]? = w.heap[b]?) {d:D} {v:Value} (h:VR N A w d v) (hs:scS rk bk d=true):VR M' A' w' (renS (sgm bk bids) (sgm rk pids) d) v:=by
 cases h <;> simp only [scS,Bool.false_eq_true] at hs
 case int=>exact .int _
 case bool=>exact .bool _
 case val h=>exact .val _ h
 case nil ao=>exact .nil ao
 case dead=>exact .dead _
 case ro f q ao cap b o u hn hc hao hu hv=>exact VR.ro_any (.ro f q ao cap b o u hn hc hao hu hv) hA
 case row r off n h1 h=>
  obtain ⟨i,hi⟩:=Kj hl (Kv hs);have e:renS (sgm bk bids) (sgm rk pids) (.row r off n)=.row i off n:=by simp [renS,sgm,hi]
  rw [e];exact .row _ off n _ h1 fun x hx=>h x (hγ r i x hi hx)
 case ptr b off h1 h=>
  obtain ⟨i,hi⟩:=Kj hb (Kv hs);have e:renS (sgm bk bids) (sgm rk pids) (.ptr b off)=.ptr i off:=by simp [renS,sgm,hi]
  rw [e];exact .ptr _ off _ h1 fun x hx=>h x (hβ b i x hi hx)
 case clo f bs h1 h=>
  have e:renS (sgm bk bids) (sgm rk pids) (.clo f bs)=.clo f (bs.map (sgm bk bids)):=rfl;rw [e];refine .clo _ _ _ h1 fun ks hk=>h ks (Mo (τ:=sgm bk bids) (fun b hb' k hk'=>?_) hk);simp only [List.all_eq_true] at hs;obtain ⟨i,hi⟩:=Kj hb (Kv (hs b hb'));simp only [sgm,hi] at hk';exact hβ b i k hi hk'
theorem sc_renA {rk pids bk bids:List Nat} (hl:rk.length=pids.length) (hb:bk.length=bids.length) {N M':Mp} {A A':Bool→Nat→Prop} {w w':World}
  (hγ:∀ r i x,mp rk pids r=some i→M'.γ i=some x→N.γ r=some x) (hβ:∀ r i x,mp bk bids r=some i→M'.β i=some x→N.β r=some x)
  (hA:∀ f b,b<w.heap.size→A f b→A' f b∧b<w'.heap.size∧w'.heap[b]? = w.heap[b]?) {d:D} {v:Value} (h:VR N A w d v) (hs:scA rk bk d=true):VR M' A' w' (renA (sgm bk bids) (sgm rk pids) d) v:=by
 cases d with
 | agg l=>
  cases h with | agg _ us hl' h=>
  refine .agg _ us (by simpa using hl') fun i d hd=>?_;rw [List.getElem?_map] at hd;obtain ⟨d0,h0,rfl⟩:=Option.map_eq_some_iff.1 hd;simp only [scA,List.all_eq_true] at hs;exact sc_ren hl hb hγ hβ hA (h i d0 h0) (hs d0 (List.mem_of_getElem? h0))
 | _=>exact sc_ren hl hb hγ hβ hA h hs
theorem sc_renT {rk pids bk bids:List Nat} (hl:rk.length=pids.length) (hb:bk.length=bids.length) {N M':Mp} {A A':Bool→Nat→Prop} {w w':World}
  (hγ:∀ r i x,mp rk pids r=some i→M'.γ i=some x→N.γ r=some x) (hβ:∀ r i x,mp bk bids r=some i→M'.β i=some x→N.β r=some x)
  (hA:∀ f b,b<w.heap.size→A f b→A' f b∧b<w'.heap.size∧w'.heap[b]? = w.heap[b]?) {d:D} {v:Value} (h:VR N A w d v) (hs:scT rk bk d=true):VR M' A' w' (ren (sgm bk bids) (sgm rk pids) d) v:=by
 cases d with
 | tup l=>
  cases h with | tup _ us hl' h=>
  refine .tup _ us (by simpa using hl') fun i d hd=>?_;rw [List.getElem?_map] at hd;obtain ⟨d0,h0,rfl⟩:=Option.map_eq_some_iff.1 hd;simp only [scT,List.all_eq_true] at hs;exact sc_renA hl hb hγ hβ hA (h i d0 h0) (hs d0 (List.mem_of_getElem? h0))
 | _=>exact sc_renA hl hb hγ hβ hA h hs
def BoxA (A:Bool→Nat→Prop) (M:Mp) (w:World) (b:Nat) (cs:List D):Prop:=
 ∃ k cur e,M.β b=some k∧w.heap[k]? = some (.cells cur e (0,0))∧cs.length=cur.size∧∀ j d,cs[j]? = some d→VR M A w d (cur.getD j undef)
def RowA (A:Bool→Nat→Prop) (M:Mp) (w:World) (r:Nat) (e:TypeId) (q:Sq):Prop:=
 (M.γ r=some none∧q.len=0)∨∃ g cap cur,M.γ r=some (some (g,cap,q.sz))∧w.heap[g]? = some (.cells cur e (0,0))∧q.len≤cap∧cap≤maxLen∧cur.size=cap*q.sz ∧
  ∀ i j d,i<q.len→(q.relem i)[j]? = some d→VR M A w d (cur.getD (i*q.sz+j) undef)
structure HasM (A:Bool→Nat→Prop) (N:Mp) (s:PS) (w:World):Prop where
 box:∀ b cs,s.b b=some cs→BoxA A N w b cs
 boxn:∀ b,s.b b=none→N.β b=none
 row:∀ r e q,s.r r=some (e,q)→RowA A N w r e q
 rown:∀ r,s.r r=none→N.γ r=none
 inj1:∀ b b' k,N.β b=some k→N.β b'=some k→b=b'
 inj2:∀ r r' k c z c' z',N.γ r=some (some (k,c,z))→N.γ r'=some (some (k,c',z'))→r=r'
 inj3:∀ b r k c z,N.β b=some k→N.γ r=some (some (k,c,z))→False
def ArgsM (A:Bool→Nat→Prop) (N:Mp) (w:World) (ds:List D) (args:Array Value):Prop:=
 args.size=ds.length∧∀ i d,ds[i]? = some d→VR N A w d (args.getD i undef)
def Ji (M:Mp) (rk rids bk bids:List Nat):Mp:=⟨fun b=>match mp bk bids b with | some i=>M.β i | none=>none,fun r=>match mpI rk rids r with | some i=>M.γ i | none=>none⟩
def A2 (A:Bool→Nat→Prop) (w:World) (N N':Mp):Bool→Nat→Prop:=fun f k=>(A f k∨w.heap.size≤k∨N.owned k)∧¬ N'.owned k
def conB (rk bk:List Nat) (b:List (List D)):Bool:=b.all fun cs=>cs.all (scS rk bk)
def Sq.refF:Sq→Option Nat
 | .irefs F _ | .rrefs F _=>some F
 | _=>none
theorem VR.relem_any2 {M M':Mp} {A A':Bool→Nat→Prop} {w w':World} {q:Sq} {i j:Nat} {d:D} {v:Value} (hd:(q.relem i)[j]? = some d) (h:VR M A w d v) (hA:∀ f b,b<w.heap.size→A f b→A' f b∧b<w'.heap.size∧w'.heap[b]? = w.heap[b]?)
  (hi:∀ F,q.refF=some F→∀ k x,M'.γ (inn F k)=some x→M.γ (inn F k)=some x):VR M' A' w' d v:=by
 cases q
 case irefs F l=>
  rcases j with _ | j <;> simp [Sq.relem] at hd;subst hd;cases h with | irow _ _ _ _ h1 h=>exact .irow _ _ _ v h1 fun x hx=>h x (hi F rfl _ x hx)
 case rrefs F l=>
  rcases j with _ | _ | j <;> simp [Sq.relem] at hd
  ·subst hd; cases h; exact .int _
  subst hd;cases h with | irow _ _ _ _ h1 h=>exact .irow _ _ _ v h1 fun x hx=>h x (hi F rfl _ x hx)
 all_goals (rw [Sq.relem_eq rfl] at hd; exact h.elem_any (f:=true) hd hA)
def conR (rk:List Nat) (r:List (TypeId×Sq)):Bool:=r.all fun x=>match x.2.refF with | some F=>He rk (FK+F % 4294967296) | none=>true
structure MCall (P:Program) (f:FuncId) (ds:List D) (rk bk:List Nat) (r0 r1:List (TypeId×Sq)) (b0 b1:List (List D)) (d:D):Prop where
 enter:∀ args w,(callFunc f args).run P w=.ok (.enter f args) w
 len:rk.length=r0.length∧rk.length=r1.length∧bk.length=b0.length∧bk.length=b1.length
 con0:conB rk bk b0=true
 con1:conB rk bk b1=true
 conr:conR rk r1=true
 nd:scT rk bk d=true
 ndk:Ej rk=true∧Ej bk=true
 run:∀ w N args (A:Bool→Nat→Prop),(∀ f k,A f k→¬ N.owned k)→(∀ k,A true k→A false k)→HasM A N ⟨[],asL rk r0,asL bk b0⟩ w→ArgsM A N w ds args→Calls P f args w fun e w'=>∃ v,e=.returned v ∧
  ∃ N',HasM (A2 A w N N') N' ⟨[],asL rk r1,asL bk b1⟩ w'∧(∀ b,N'.β b=N.β b)∧(∀ r,1000000≤r→r<BIG→N'.γ r=N.γ r) ∧
  (∀ k,N'.owned k→N.owned k∨w.heap.size≤k)∧w'.os=w.os∧w'.tape=w.tape∧w'.output=w.output∧w.heap.size≤w'.heap.size∧(∀ k,k<w.heap.size→¬ N.owned k→w'.heap[k]? = w.heap[k]?)∧VR N' (A2 A w N N') w' d v
section
variable {w0:World} {O0:Hd} {n:Nat} {M:Mp} {s:PS} {a:Act} {w:World} {rk rids bk bids:List Nat}
theorem Mf {k:Nat} (h:(Ji M rk rids bk bids).owned k):(∃ b i,mp bk bids b=some i∧M.β i=some k)∨∃ r i c z,mpI rk rids r=some i∧M.γ i=some (some (k,c,z)):=by
 rcases h with ⟨b,hb⟩ | ⟨r,c,z,hr⟩
 ·simp only [Ji] at hb;split at hb
  ·rename_i i hi; exact .inl ⟨b,i,hi,hb⟩
  cases hb
 simp only [Ji] at hr;split at hr
 ·rename_i i hi; exact .inr ⟨r,i,c,z,hi,hr⟩
 cases hr
theorem Mw {k:Nat} (h:(Ji M rk rids bk bids).owned k):M.owned k:=by
 rcases Mf h with ⟨b,i,_,h⟩ | ⟨r,i,c,z,_,h⟩
 ·exact .inl ⟨i,h⟩
 exact .inr ⟨i,c,z,h⟩
theorem Lm {α:Type}:∀ {l:List Nat} {b:List α} {x:Nat} {y:α},Bf (asL l b) x=some (some y)→y∈b
 | [],b,x,y,h=>by simp [asL,Bf] at h
 | k::l,[],x,y,h=>by simp [asL,Bf] at h
 | k::l,z::b,x,y,h=>by
  by_cases hk:k=x
  ·subst hk; rw [asL,Ao] at h; cases h; simp
  rw [asL,Ap hk] at h; simp [Lm h]
theorem pair_box {f:Nat→Option (List D)} {g:D→D} {x:Nat}:∀ {l i:List Nat} {b:List (List D)},l.length=i.length→Ff f i (b.map fun cs=>cs.map g)→∀ y,Bf (asL l b) x=some (some y)→∃ j,mp l i x=some j∧f j=some (y.map g)
 | [],i,b,_,_,y,h=>by simp [asL,Bf] at h
 | k::l,i,[],_,_,y,h=>by simp [asL,Bf] at h
 | k::l,[],z::b,hl,_,y,h=>by simp at hl
 | k::l,j::i,z::b,hl,hp,y,h=>by
  by_cases hk:k=x
  ·subst hk; rw [asL,Ao] at h; cases h; exact ⟨j,Cm _ _ _ _,hp.1⟩
  rw [asL,Ap hk] at h; rw [Ee hk]; exact pair_box (by simpa using hl) hp.2 y h
theorem Rel.sub {A':Bool→Nat→Prop} (h:Rel w0 O0 n M s a w) {r:List (TypeId×Sq)} {b:List (List D)} (hA:∀ f k,k<w.heap.size→Ow (Fs w0 O0) M f k→A' f k) (hlr:rk.length=rids.length) (hlb:bk.length=bids.length) (hr:Ff s.r rids r) (hb:Ff s.b bids (b.map fun cs=>cs.map (renS (sgm bk bids) (sgm rk rids)))) (hc:conB rk bk b=true)
  (hnr:Ej rids=true) (hnb:Ej bids=true) (hfam:Ws rk rids=true):HasM A' (Ji M rk rids bk bids) ⟨[],asL rk r,asL bk b⟩ w:=by
 have hbig:∀ x y,BIG≤x→(Ji M rk rids bk bids).γ x=some y→M.γ x=some y:=fun x y hx h=>by
  simp only [Ji] at h;split at h
  ·rename_i i hi;rcases Qj hfam hi with ⟨h1,_⟩ | ⟨_,rfl,_⟩
   ·rw [Nat.ble_eq_true_of_le hx] at h1; cases h1
   exact h
  cases h
 have hsr:∀ {x y},Nat.ble BIG x=false→PS.r ⟨[],asL rk r,asL bk b⟩ x=some y→∃ j,mp rk rids x=some j∧s.r j=some y:=fun {x y} hb hx=>by
  rw [PS.r_lo _ hb] at hx;rcases Wr (k:=rk) (i:=rids) (x:=r) (r:=x) (f:=s.r) hlr hr with ⟨h1,_⟩ | ⟨y',j,h1,h2,h3⟩
  ·simp [h1] at hx
  simp only [h1] at hx;cases hx;exact ⟨j,h2,h3⟩
 have hsr2:∀ {x y},PS.r ⟨[],asL rk r,asL bk b⟩ x=some y→∃ j,mpI rk rids x=some j∧s.r j=some y:=fun {x y} hx=>by
  cases hb:Nat.ble BIG x with
  | false=>obtain ⟨j,h1,h2⟩:=hsr hb hx; exact ⟨j,by rw [Td hb]; exact h1,h2⟩
  | true=>
   rw [PS.r_hi _ hb,PS.inn_r] at hx
   cases h3:PS.r ⟨[],asL rk r,asL bk b⟩ (FK+unF x) with
   | none=>rw [h3] at hx; cases hx
   | some z=>
    obtain ⟨j,h1,h2⟩:=hsr (Yc x) h3;have e:=famB_fk hfam h1;rw [e] at h2;refine ⟨x,by rw [Xb hb,h1],?_⟩;rw [PS.r_hi _ hb,PS.inn_r,h2,←h3]; exact hx
 have hsn:∀ {x},PS.r ⟨[],asL rk r,asL bk b⟩ x=none→(Ji M rk rids bk bids).γ x=none:=fun {x} hx=>by
  cases hm:mpI rk rids x with
  | none=>simp [Ji,hm]
  | some i=>
   rcases Qj hfam hm with ⟨h1,_,h2⟩ | ⟨h1,rfl,h2⟩
   ·rw [PS.r_lo _ h1] at hx;rcases Wr (k:=rk) (i:=rids) (x:=r) (r:=x) (f:=s.r) hlr hr with ⟨_,h3⟩ | ⟨y',j,h3,_⟩
    ·rw [h3] at h2; cases h2
    simp [h3] at hx
   simp only [Ji,hm];refine h.rown i ?_;rw [PS.r_hi _ h1,PS.inn_r] at hx ⊢;rcases Wr (k:=rk) (i:=rids) (x:=r) (r:=FK+unF i) (f:=s.r) hlr hr with ⟨_,h3⟩ | ⟨y',j,h3,h4,h5⟩
   ·rw [h3] at h2; cases h2
   rw [h2] at h4;rw [←Option.some.inj h4] at h5;rw [h5];rw [PS.r_lo _ (Yc i)] at hx;simpa [h3] using hx
 simp only [conB,List.all_eq_true] at hc;have hlb':bids.length=b.length:=by have:=Zn hb; simpa using this
 have hA':∀ f k,k<w.heap.size→Ow (Fs w0 O0) M f k→A' f k∧k<w.heap.size∧w.heap[k]? = w.heap[k]?:=fun f k h1 h2=>⟨hA f k h1 h2,h1,rfl⟩;refine ⟨fun x cs hx=>?_,fun x hx=>?_,fun x e q hx=>?_,fun x hx=>?_,fun x x' k h1 h2=>?_,fun x x' k c z c' z' h1 h2=>?_,fun x y k c z h1 h2=>?_⟩
 ·simp only [PS.b] at hx
  cases hl:Bf (asL bk b) x with
  | none=>rw [hl] at hx; cases hx
  | some y=>
   rw [hl] at hx;simp only at hx;subst hx;obtain ⟨j,hj1,hj2⟩:=pair_box hlb hb cs hl;obtain ⟨k,cur,e,g1,g2,g3,g4⟩:=h.box j _ hj2;refine ⟨k,cur,e,by simp [Ji,hj1,g1],g2,by simpa using g3,fun i d hd=>?_⟩;have hcs:=hc cs (Lm hl);refine sc_un hlr hlb (M:=M) (fun r i x h1 h2=>by simpa [Ji,Zt hfam h1] using h2) (fun r i x h1 h2=>by simpa [Ji,h1] using h2) hA' (g4 i (renS (sgm bk bids) (sgm rk rids) d) (by simp [hd])) (hcs d (List.mem_of_getElem? hd))
 ·rcases Lh (k:=bk) (i:=bids) (x:=b) (r:=x) hlb hlb' with ⟨_,h2⟩ | ⟨y,j,h1,_⟩
  ·simp [Ji,h2]
  simp [PS.b,h1] at hx
 ·obtain ⟨j,h2,h3⟩:=hsr2 hx;rcases h.row j e q h3 with ⟨g1,g2⟩ | ⟨g,cap,cur,g1,g2,g3,g4,g5,g6⟩
  ·exact .inl ⟨by simp [Ji,h2,g1],g2⟩
  exact .inr ⟨g,cap,cur,by simp [Ji,h2,g1],g2,g3,g4,g5,fun i j d hi hd=>(g6 i j d hi hd).relem_any hd hA' hbig⟩
 ·exact hsn hx
 ·simp only [Ji] at h1 h2
  cases e1:mp bk bids x with
  | none=>simp [e1] at h1
  | some i=>
   cases e2:mp bk bids x' with
   | none=>simp [e2] at h2
   | some i'=>
    simp only [e1] at h1;simp only [e2] at h2;have:=h.inj1 i i' k h1 h2;subst this;have a1:=Xl hnb e1;rw [Xl hnb e2] at a1;cases a1; rfl
 ·simp only [Ji] at h1 h2
  cases e1:mpI rk rids x with
  | none=>simp [e1] at h1
  | some i=>
   cases e2:mpI rk rids x' with
   | none=>simp [e2] at h2
   | some i'=>
    simp only [e1] at h1;simp only [e2] at h2;have:=h.inj2 i i' k _ _ _ _ h1 h2;subst this;have a1:=Mq hfam hnr e1;rw [Mq hfam hnr e2] at a1;cases a1; rfl
 simp only [Ji] at h1 h2;split at h1
 ·split at h2
  ·exact h.inj3 _ _ _ _ _ h1 h2
  cases h2
 cases h1
def Wy (l:List Nat):Bool:=l.any fun k=>!Fe k
theorem anyFam_not {l:List Nat} (h:Wy l=false) {u:Nat} (hm:FK+unF u∈l):False:=by
 simp only [Wy,List.any_eq_false] at h;have:=h _ hm;rw [Ls] at this;exact this O
def newP (rids pids:List Nat) (x:Nat):Bool:=match Nat.ble BIG x with | true=>Wy rids | false=>match mp pids rids x with | some i=>!Nat.beq i x | none=>false
theorem newP_big {rids pids:List Nat} (h:newP rids pids BIG=false) {x:Nat} (hx:BIG≤x):newP rids pids x=false:=by
 unfold newP at h ⊢;rw [Nat.ble_eq_true_of_le hx];rw [Nat.ble_eq_true_of_le (Nat.le_refl BIG)] at h;exact h
def Qx (l:List Nat) (r:Nat):Bool:=match Nat.ble BIG r with | true=>He l (FK+unF r) | false=>He l r
theorem Wo {l:List Nat} {r:Nat} (h:Nat.ble BIG r=false):Qx l r=He l r:=by unfold Qx; rw [h]
theorem Tj {l:List Nat} {r:Nat} (h:Nat.ble BIG r=true):Qx l r=He l (FK+unF r):=by unfold Qx; rw [h]
theorem mpI_in {l m:List Nat} {r i:Nat} (hf:Ws l m=true) (h:mpI l m r=some i):Qx m i=true:=by
 rcases Qj hf h with ⟨h1,h2,h3⟩ | ⟨h1,rfl,h3⟩
 ·rw [Wo h2]; exact mem_isIn (Ko h3).2
 rw [Tj h1]; exact mem_isIn (Ko h3).2
theorem mpI_own {l m:List Nat} (hl:l.length=m.length) (hf:Ws l m=true) (hn:Ej m=true) {F x:Nat} (hF:He l (FK+F % 4294967296)=true) (hx:unF x=F % 4294967296) (hb:Nat.ble BIG x=true):mpI m l x=some x:=by
 rw [←hx] at hF;obtain ⟨j,hj⟩:=Kj hl (Kv hF);have e2:=famB_fk hf hj;rw [e2] at hj;rw [Xb hb,Xl hn hj]
def rfB (s:PS) (rids:List Nat):Bool:=match Wy rids with
 | false=>true
 | true=>s.row.all fun p=>He rids p.1 || (match p.2 with | some (_,q)=>(match q.refF with | some G=>Nat.blt G 4294967296&&!He rids (FK+G) | none=>!q.isRefs) | none=>true)
theorem Yy {x:Option (Option (TypeId×Sq))} {k:Nat} {e:TypeId} {q:Sq} (h:famr x k=some (e,q)):q.isRefs=false:=by
 unfold famr at h;split at h
 ·split at h
  ·rename_i q0 _ c hc;have e:q=c:=by cases h; rfl
   rw [e];cases q0 <;> simp only [Fq.get] at hc <;> split at hc <;> first | (cases hc; done) | (rw [←Option.some.inj hc]; rfl)
  cases h
 cases h
theorem rfB_ok {s:PS} {rids:List Nat} (h:rfB s rids=true) (ha:Wy rids=true) {r:Nat} {e:TypeId} {q:Sq} (hr:s.r r=some (e,q)) (hin:Qx rids r=false):q.isRefs=false∨∃ G,q.refF=some G∧G<4294967296∧He rids (FK+G)=false:=by
 unfold rfB at h;rw [ha] at h;simp only [List.all_eq_true] at h
 cases hb:Nat.ble BIG r with
 | true=>rw [PS.r_hi _ hb] at hr; exact .inl (Yy hr)
 | false=>
  rw [PS.r_lo _ hb] at hr;rw [Wo hb] at hin;split at hr
  ·rename_i x hx;subst hr;have:=h _ (Fm hx);simp only [hin,Bool.false_or] at this;split at this
   ·rename_i G hG;rw [Bool.and_eq_true,Nat.blt_eq] at this;exact .inr ⟨G,hG,this.1,by simpa using this.2⟩
   exact .inl (by simpa using this)
  cases hr
def fixB:List Nat→List Nat→List Nat→List Nat→Bool
 | k::rk,r::rids,p::pids,all=>(match Nat.ble 1000000 k with | true=>Nat.beq r p | false=>Nat.blt r 1000000&&Nat.blt p 1000000&&!He all p)&&fixB rk rids pids all
 | _,_,_,_=>true
theorem fixB_ok {all:List Nat}:∀ {rk rids pids:List Nat},fixB rk rids pids all=true→rk.length=rids.length→rk.length=pids.length→Ej rids=true→∀ {k p},mp pids rk p=some k →
  ∃ r,mp pids rids p=some r∧mp rids rk r=some k∧((1000000≤k∧r=p)∨(r<1000000∧p<1000000∧He all p=false))
 | [],[],[],_,_,_,_,k,p,h=>by simp [mp] at h
 | k'::rk,r::rids,p'::pids,h,hl,hl',hn,k,p,hm=>by
  simp only [fixB,Bool.and_eq_true] at h;obtain ⟨n1,n2⟩:=Ro hn;by_cases hp:p'=p
  ·subst hp;rw [Cm] at hm;cases hm;refine ⟨r,Cm _ _ _ _,Cm _ _ _ _,?_⟩;have h1:=h.1;split at h1
   ·rename_i hb; exact .inl ⟨Nat.le_of_ble_eq_true hb,Nat.eq_of_beq_eq_true h1⟩
   simp only [Bool.and_eq_true,Nat.blt_eq,Bool.not_eq_true'] at h1;exact .inr ⟨h1.1.1,h1.1.2,h1.2⟩
  rw [Ee hp] at hm;obtain ⟨r',h5,h6,h7⟩:=fixB_ok h.2 (by simpa using hl) (by simpa using hl') n2 hm;exact ⟨r',by rw [Ee hp]; exact h5,by rw [Ee (fun e=>n1 (by subst e; exact (Ko h6).1))]; exact h6,h7⟩
 | [],_::_,_,_,hl,_,_,_,_,_=>by simp at hl
 | [],[],_::_,_,_,hl,_,_,_,_=>by simp at hl
 | _::_,[],_,_,hl,_,_,_,_,_=>by simp at hl
 | _::_,_::_,[],_,_,hl,_,_,_,_=>by simp at hl
theorem asL_map {α β:Type} (g:α→β) (x:Nat):∀ (l:List Nat) (b:List α),Bf (asL l (b.map g)) x=(Bf (asL l b) x).map (Option.map g)
 | [],b=>by cases b <;> rfl
 | k::l,[]=>rfl
 | k::l,y::b=>by
  by_cases hk:k=x
  ·subst hk; simp [asL,Ao]
  simp only [List.map_cons,asL,Ap hk]; exact asL_map g x l b
theorem Zq {α:Type} (x:Nat):∀ (l:List Nat),Bf (l.map fun r=>(r,(none:Option α))) x=if He l x then some none else none
 | []=>rfl
 | k::l=>by
  by_cases hk:k=x
  ·subst hk; simp [Ao,He,Nat.beq_refl]
  have:Nat.beq k x=false:=by
   cases hb:Nat.beq k x
   ·rfl
   exact absurd (Nat.eq_of_beq_eq_true hb) hk
  rw [List.map_cons,Ap hk,Zq x l];simp [He,this]
def PS.after (s:PS) (rids pids:List Nat) (r1:List (TypeId×Sq)) (bids:List Nat) (cells:List (List D)):PS:=
 ⟨s.tmp,asL pids r1++((rids.map fun r=>(r,none))++s.row),asL bids cells++s.box⟩
theorem Rel.after {pids:List Nat} (h:Rel w0 O0 n M s a w) {N':Mp} {w':World} {r1:List (TypeId×Sq)} {b1:List (List D)}
  (hlr:rk.length=rids.length) (hlp:rk.length=pids.length) (hlb:bk.length=bids.length) (hl1:rk.length=r1.length) (hl2:bk.length=b1.length)
  (hnk:Ej rk=true) (hnbk:Ej bk=true) (hnr:Ej rids=true) (hnb:Ej bids=true) (hnp:Ej pids=true) (hfix:fixB rk rids pids rids=true) (hf:Fresh s noB (newP rids pids)) (hc1:conB rk bk b1=true) (hcr:conR rk r1=true) (hfam:Ws rk rids=true) (hfamp:Ws rk pids=true) (hrf:rfB s rids=true)
  (post:HasM (A2 (Ow (Fs w0 O0) M) w (Ji M rk rids bk bids) N') N' ⟨[],asL rk r1,asL bk b1⟩ w') (hβ:∀ b,N'.β b=(Ji M rk rids bk bids).β b) (hγ:∀ r,1000000≤r→r<BIG→N'.γ r=(Ji M rk rids bk bids).γ r)
  (hown:∀ k,N'.owned k→(Ji M rk rids bk bids).owned k∨w.heap.size≤k) (hos:w'.os=w.os) (htp:w'.tape=w.tape) (hout:w'.output=w.output) (hsz:w.heap.size≤w'.heap.size)
  (hfr:∀ k,k<w.heap.size→¬ (Ji M rk rids bk bids).owned k→w'.heap[k]? = w.heap[k]?) :
  ∃ M',Rel w0 O0 n M' (s.after rids pids r1 bids (b1.map fun cs=>cs.map (renS (sgm bk bids) (sgm rk pids)))) a w'∧∀ d v,scT rk bk d=true→VR N' (A2 (Ow (Fs w0 O0) M) w (Ji M rk rids bk bids) N') w' d v→VR M' (Ow (Fs w0 O0) M') w' (ren (sgm bk bids) (sgm rk pids) d) v:=by
 let M':Mp:=⟨M.β,fun r=>match mpI pids rk r with | some k=>N'.γ k | none=>if Qx rids r then none else M.γ r⟩
 have hfam':=Xe hfam;have hfamp':=Xe hfamp
 have F1:∀ k,M'.owned k→M.owned k∨w.heap.size≤k:=by
  rintro k (⟨b,hb⟩ | ⟨r,c,z,hr⟩)
  ·exact .inl (.inl ⟨b,hb⟩)
  simp only [M'] at hr;split at hr
  ·exact (hown k (.inr ⟨_,c,z,hr⟩)).imp_left Mw
  split at hr
  ·cases hr
  exact .inl (.inr ⟨r,c,z,hr⟩)
 have F0:∀ k,(Ji M rk rids bk bids).owned k→¬ N'.owned k→¬ M'.owned k:=by
  intro k hk hk' ho
  have hNb:∀ b,M.β b=some k→(∃ x,mp bk bids x=some b)→False:=by
   rintro b hb ⟨x,hx⟩;exact hk' (.inl ⟨x,by rw [hβ]; simp [Ji,hx,hb]⟩)
  have hcase:=Mf hk;rcases ho with ⟨b,hb⟩ | ⟨r,c,z,hr⟩
  ·rcases hcase with ⟨x,i,hx,hi⟩ | ⟨x,i,c',z',hx,hi⟩
   ·have:=h.inj1 _ _ _ hb hi; subst this; exact hNb b hb ⟨x,hx⟩
   exact h.inj3 _ _ _ _ _ hb hi
  simp only [M'] at hr;split at hr
  ·exact hk' (.inr ⟨_,c,z,hr⟩)
  split at hr
  ·cases hr
  rename_i hin;rcases hcase with ⟨x,i,hx,hi⟩ | ⟨x,i,c',z',hx,hi⟩
  ·exact h.inj3 _ _ _ _ _ hi hr
  have:=h.inj2 _ _ _ _ _ _ _ hr hi; subst this; exact hin (mpI_in hfam hx)
 have F2:∀ f k,k<w'.heap.size→A2 (Ow (Fs w0 O0) M) w (Ji M rk rids bk bids) N' f k→Ow (Fs w0 O0) M' f k∧k<w'.heap.size∧w'.heap[k]? = w'.heap[k]?:=by
  rintro f k hk ⟨h1,h2⟩;refine ⟨?_,hk,O⟩;rcases h1 with h1 | h1 | h1
  ·refine ⟨fun ho=>?_,h1.2⟩;rcases ho with ⟨b,hb⟩ | ⟨r,c,z,hr⟩
   ·exact h1.1 (.inl ⟨b,hb⟩)
   simp only [M'] at hr;split at hr
   ·exact h2 (.inr ⟨_,c,z,hr⟩)
   split at hr
   ·cases hr
   exact h1.1 (.inr ⟨r,c,z,hr⟩)
  ·refine ⟨fun ho=>?_,.inl (Nat.le_trans h.fr.size h1)⟩;rcases ho with ⟨b,hb⟩ | ⟨r,c,z,hr⟩
   ·have:=h.lt k (.inl ⟨b,hb⟩); omega
   simp only [M'] at hr;split at hr
   ·exact h2 (.inr ⟨_,c,z,hr⟩)
   split at hr
   ·cases hr
   have:=h.lt k (.inr ⟨r,c,z,hr⟩); omega
  exact ⟨F0 k h1 h2,(h.low k (Mw h1)).imp_right (O0.sub f k)⟩
 have F3:∀ f k,k<w.heap.size→Ow (Fs w0 O0) M f k→Ow (Fs w0 O0) M' f k∧k<w'.heap.size∧w'.heap[k]? = w.heap[k]?:=fun f k hk ho=>
  ⟨⟨fun h1=>(F1 k h1).elim ho.1 (fun h2=>by omega),ho.2⟩,by omega,hfr k hk fun h1=>ho.1 (Mw h1)⟩
 have hfx:∀ {p k},mpI pids rk p=some k→∃ r,mpI pids rids p=some r∧mpI rids rk r=some k∧((1000000≤k∧k<BIG∧r=p)∨(r<1000000∧p<1000000∧He rids p=false)∨(BIG≤p∧r=p∧Qx rids p=true)):=fun {p k} hm=>by
  rcases Qj hfamp' hm with ⟨a1,a2,a3⟩ | ⟨a1,rfl,a3⟩
  ·obtain ⟨r,b1,b2,b3⟩:=fixB_ok hfix hlr hlp hnr a3;have hr0:=(famB_lt hfam' b2).1;refine ⟨r,by rw [Td a1]; exact b1,by rw [Td hr0]; exact b2,?_⟩;rcases b3 with ⟨b4,b5⟩ | b4
   ·refine .inl ⟨b4,?_,b5⟩;rcases Nat.lt_or_ge k BIG with h | h
    ·exact h
    rw [Nat.ble_eq_true_of_le h] at a2; cases a2
   exact .inr (.inl b4)
  obtain ⟨r,b1,b2,b3⟩:=fixB_ok hfix hlr hlp hnr a3
  have e:FK+unF k=r:=by
   rcases famB_ok hfam' b2 with ⟨_,c2⟩ | ⟨c1,_⟩
   ·rw [Ls] at c2; cases c2
   exact c1.symm
  subst e;exact ⟨k,by rw [Xb a1,b1],by rw [Xb a1,b2],.inr (.inr ⟨Nat.le_of_ble_eq_true a1,O,by rw [Tj a1]; exact mem_isIn (Ko b2).1⟩)⟩
 have hNγ:∀ {r k},mpI rids rk r=some k→(Ji M rk rids bk bids).γ k=M.γ r:=fun hm=>by simp [Ji,Mq hfam' hnk hm]
 have F4:∀ x y,newP rids pids x=false→M'.γ x=some y→M.γ x=some y:=by
  intro x y hx hy;simp only [M'] at hy;split at hy
  ·rename_i k hk;obtain ⟨r,h1,h2,h3⟩:=hfx hk;rcases h3 with ⟨h4,h5,rfl⟩ | ⟨_,h4',h4⟩ | ⟨h4,rfl,h5⟩
   ·rw [hγ k h4 h5,hNγ h2] at hy; exact hy
   ·have hb:Nat.ble BIG x=false:=by
     cases hb:Nat.ble BIG x with
     | false=>rfl
     | true=>
      have:=Nat.le_of_ble_eq_true hb;have h6:BIG≤1000000:=by omega
      exact absurd h6 (by decide)
    unfold newP at hx;rw [hb] at hx;rw [Td hb] at h1;simp only [h1] at hx;have hrx:r=x:=Nat.eq_of_beq_eq_true (by simpa using hx);subst hrx;have hin:=mpI_in hfam (Mq hfam' hnk h2);rw [Wo hb,h4] at hin; cases hin
   have hb:=Nat.ble_eq_true_of_le h4;unfold newP at hx;rw [hb] at hx;rw [Tj hb] at h5;exact (anyFam_not hx (Kv h5)).elim
  split at hy
  ·cases hy
  exact hy
 have F5:∀ x,Nat.ble BIG x=true→Qx rids x=false→∀ y,M'.γ x=some y→M.γ x=some y:=by
  intro x hb hin y hy;simp only [M'] at hy;split at hy
  ·rename_i k hk;obtain ⟨r,h1,h2,h3⟩:=hfx hk;have h4:=mpI_in hfam (Mq hfam' hnk h2);rcases h3 with ⟨_,_,h5⟩ | ⟨_,h5,_⟩ | ⟨_,_,h5⟩
   ·rw [h5,hin] at h4; cases h4
   ·have:=Nat.le_of_ble_eq_true hb;have h6:BIG≤1000000:=by omega
    exact absurd h6 (by decide)
   rw [hin] at h5; cases h5
  split at hy
  ·cases hy
  exact hy
 have hother:∀ k,M.owned k→¬ (Ji M rk rids bk bids).owned k→w'.heap[k]? = w.heap[k]?:=fun k h1 h2=>hfr k (h.lt k h1) h2;have hβM:∀ {x j},mp bids bk x=some j→N'.β j=M.β x:=fun hm=>by rw [hβ]; simp [Ji,Xl hnbk hm]
 have hlb2:bids.length=bk.length:=hlb.symm
 have hNrow:∀ {r k c z},Qx rids r=false→M.γ r=some (some (k,c,z))→¬ (Ji M rk rids bk bids).owned k:=by
  intro r k c z hr hk ho;rcases Mf ho with ⟨x,i,hx,hi⟩ | ⟨x,i,c',z',hx,hi⟩
  ·exact h.inj3 _ _ _ _ _ hi hk
  have:=h.inj2 _ _ _ _ _ _ _ hk hi; subst this; rw [mpI_in hfam hx] at hr; cases hr
 have hNbox:∀ {b k},mp bids bk b=none→M.β b=some k→¬ (Ji M rk rids bk bids).owned k:=by
  intro b k hb hk ho;rcases Mf ho with ⟨x,i,hx,hi⟩ | ⟨x,i,c',z',hx,hi⟩
  ·have:=h.inj1 _ _ _ hk hi; subst this;obtain ⟨y,hy⟩:=Kj hlb2 (Ko hx).2;rw [hb] at hy; cases hy
  exact h.inj3 _ _ _ _ _ hk hi
 have alo:∀ x,Nat.ble BIG x=false→(s.after rids pids r1 bids (b1.map fun cs=>cs.map (renS (sgm bk bids) (sgm rk pids)))).r x=match mp pids rk x with | some j=>PS.r ⟨[],asL rk r1,asL bk b1⟩ j | none=>if He rids x then none else s.r x:=fun x hb=>by
  rw [PS.r_lo _ hb,show (s.after rids pids r1 bids (b1.map fun cs=>cs.map (renS (sgm bk bids) (sgm rk pids)))).row=asL pids r1++((rids.map fun r=>(r,none))++s.row) from rfl,Do,Do,Zq];rcases Lh (k:=pids) (i:=rk) (x:=r1) (r:=x) hlp.symm hl1 with ⟨e1,e2⟩ | ⟨y,j,e1,e2,e3⟩
  ·rw [e1,e2];by_cases hin:He rids x=true
   ·simp [hin]
   simp only [hin,if_false,Bool.false_eq_true];rw [PS.r_lo _ hb]
  rw [e1,e2];simp only;rw [PS.r_lo _ (famB_lt hfamp' e2).2];simp only [e3 hnk]
 have aall:∀ x,(s.after rids pids r1 bids (b1.map fun cs=>cs.map (renS (sgm bk bids) (sgm rk pids)))).r x=match mpI pids rk x with | some j=>PS.r ⟨[],asL rk r1,asL bk b1⟩ j | none=>if Qx rids x then none else s.r x:=fun x=>by
  cases hb:Nat.ble BIG x with
  | false=>rw [alo x hb,Td hb,Wo hb]
  | true=>
   rw [PS.r_hi _ hb,PS.inn_r,alo _ (Yc x),Xb hb,Tj hb]
   cases hm:mp pids rk (FK+unF x) with
   | some j=>
    have e:=famB_fk hfamp' hm;simp only [e];rw [PS.r_hi _ hb,PS.inn_r]
   | none=>
    simp only;by_cases hin:He rids (FK+unF x)=true
    ·simp only [hin,if_true]; rfl
    simp only [hin,if_false,Bool.false_eq_true];rw [PS.r_hi _ hb,PS.inn_r]
 have hMN:∀ y,mpI pids rk y=some y→M'.γ y=N'.γ y:=fun y hy=>by simp only [M',hy]
 have hNbig:∀ F,He rk (FK+F % 4294967296)=true→∀ k x,M'.γ (inn F k)=some x→N'.γ (inn F k)=some x:=fun F hF k x hx=>by
  have:=mpI_own hlp hfamp hnp hF (Kf F k) (Nat.ble_eq_true_of_le (Kh F k));rw [hMN _ this] at hx;exact hx
 have hkeep:∀ {r e q i j d v},s.r r=some (e,q)→Qx rids r=false→(q.relem i)[j]? = some d→VR M (Ow (Fs w0 O0) M) w d v→VR M' (Ow (Fs w0 O0) M') w' d v:=fun {r e q i j d v} h1 h2 h3 h4=>by
  cases ha:Wy rids with
  | false=>
   refine h4.relem_any h3 F3 fun x y hx hy=>F4 x y ?_ hy;unfold newP; rw [Nat.ble_eq_true_of_le hx]; exact ha
  | true=>
   rcases rfB_ok hrf ha h1 h2 with h5 | ⟨G,h5,h6,h7⟩
   ·rw [Sq.relem_eq h5] at h3;exact h4.elem_any h3 F3
   refine h4.relem_any2 h3 F3 fun G' hG' k y hy=>F5 _ (Gz G' k) ?_ y hy;rw [h5] at hG';cases hG';rw [Tj (Gz G k),Kf,Nat.mod_eq_of_lt h6];exact h7
 refine ⟨M',⟨?_,h.dfr,h.sz,fun t=>?_,fun x cs hx=>?_,fun x hx=>?_,fun r e q hr=>?_,fun r hr=>?_,fun k hk=>?_,h.inj1,fun r r' k c z c' z' h1 h2=>?_,fun b r k c z h1 h2=>?_,h.nle,h.fxb,fun r x x' h1 h2=>?_⟩,fun d v hd hv=>?_⟩
 ·refine h.fr.step hos htp hout hsz fun k hk h1=>hfr k (Nat.lt_of_lt_of_le hk h.fr.size) fun ho=>?_;rcases h.low k (Mw ho) with h2 | h2
  ·omega
  exact h1 h2
 ·exact VR.new (b:=noB) (r:=newP rids pids) F3 F4 (fun x k _ hx=>hx) (hf.t t) (h.tmp t) (hi:=fun h0 x y hx hy=>F4 x y (newP_big h0 hx) hy)
 ·simp only [PS.after,PS.b,Do] at hx;rcases Lh (k:=bids) (i:=bk) (x:=b1.map fun cs=>cs.map (renS (sgm bk bids) (sgm rk pids))) (r:=x) hlb2 (by simpa using hl2) with ⟨e1,e2⟩ | ⟨y,j,e1,e2,e3⟩
  ·rw [e1] at hx;have hx':s.b x=some cs:=hx;obtain ⟨k,cur,e,g1,g2,g3,g4⟩:=h.box x cs hx';refine ⟨k,cur,e,g1,(hother k (.inl ⟨x,g1⟩) (hNbox e2 g1)).trans g2,g3,fun i d hd=>?_⟩
   have hm:Gm noB (newP rids pids) d=false:=by
    have:=hf.b x cs hx' d (List.mem_of_getElem? hd);cases d <;> first | exact this | (simp [Cc] at this)
   exact VR.new (b:=noB) (r:=newP rids pids) F3 F4 (fun x k _ hx=>hx) hm (g4 i d hd) (hi:=fun h0 x y hx hy=>F4 x y (newP_big h0 hx) hy)
  rw [e1] at hx;simp only [Option.some.injEq] at hx;subst hx;have e4:=e3 hnbk;rw [asL_map] at e4;obtain ⟨y0,e5,e6⟩:=Option.map_eq_some_iff.1 e4
  cases y0 with
  | none=>cases e6
  | some y0=>
   simp only [Option.map_some,Option.some.injEq] at e6;subst e6;obtain ⟨k,cur,e,g1,g2,g3,g4⟩:=post.box j y0 (by simp [PS.b,e5]);refine ⟨k,cur,e,by rw [←hβM e2]; exact g1,g2,by simpa using g3,fun i d hd=>?_⟩;rw [List.getElem?_map] at hd;obtain ⟨d0,hd0,rfl⟩:=Option.map_eq_some_iff.1 hd
   have hs:scS rk bk d0=true:=by
    simp only [conB,List.all_eq_true] at hc1;exact hc1 y0 (Lm e5) d0 (List.mem_of_getElem? hd0)
   refine sc_ren hlp hlb (fun r i x hr hx=>?_) (fun r i x hr hx=>?_) F2 (g4 i d0 hd0) hs
   ·simp only [M',Mq hfamp hnp (Zt hfamp hr)] at hx; exact hx
   rw [hβ]; simp only [Ji,hr]; exact hx
 ·simp only [PS.after,PS.b,Do] at hx;rcases Lh (k:=bids) (i:=bk) (x:=b1.map fun cs=>cs.map (renS (sgm bk bids) (sgm rk pids))) (r:=x) hlb2 (by simpa using hl2) with ⟨e1,e2⟩ | ⟨y,j,e1,e2,e3⟩
  ·rw [e1] at hx; exact h.boxn x hx
  rw [e1] at hx; cases hx
 ·rw [aall] at hr
  cases hm:mpI pids rk r with
  | none=>
   rw [hm] at hr;by_cases hin:Qx rids r=true
   ·simp only [hin,if_true] at hr; cases hr
   have hin':Qx rids r=false:=by simpa using hin
   simp only [hin',if_false,Bool.false_eq_true] at hr;have hM:M'.γ r=M.γ r:=by simp [M',hm,hin']
   rcases h.row r e q hr with ⟨g1,g2⟩ | ⟨g,cap,cur,g1,g2,g3,g4,g5,g6⟩
   ·exact .inl ⟨hM.trans g1,g2⟩
   exact .inr ⟨g,cap,cur,hM.trans g1,(hother g (.inr ⟨r,_,_,g1⟩) (hNrow hin' g1)).trans g2,g3,g4,g5,fun i j d hi hd=>hkeep hr hin' hd (g6 i j d hi hd)⟩
  | some j=>
   rw [hm] at hr;simp only at hr;have hM:M'.γ r=N'.γ j:=by simp [M',hm]
   have hq:∀ F,q.refF=some F→He rk (FK+F % 4294967296)=true:=fun F hF=>by
    cases hb:Nat.ble BIG j with
    | true=>
     rw [PS.r_hi _ hb] at hr;have:=Yy hr;cases q <;> simp [Sq.refF,Sq.isRefs] at hF this
    | false=>
     rw [PS.r_lo _ hb] at hr;split at hr
     ·rename_i x hx;subst hr;have:=(List.all_eq_true.1 hcr) _ (Lm hx);simp only [hF] at this;exact this
     cases hr
   rcases post.row j e q hr with ⟨g1,g2⟩ | ⟨g,cap,cur,g1,g2,g3,g4,g5,g6⟩
   ·exact .inl ⟨hM.trans g1,g2⟩
   exact .inr ⟨g,cap,cur,hM.trans g1,g2,g3,g4,g5,fun i j d hi hd=>(g6 i j d hi hd).relem_any2 hd F2 fun F hF=>hNbig F (hq F hF)⟩
 ·rw [aall] at hr
  cases hm:mpI pids rk r with
  | none=>
   rw [hm] at hr;simp only [M',hm];split
   ·rfl
   rename_i hin;have hin':Qx rids r=false:=by simpa using hin
   simp only [hin',if_false,Bool.false_eq_true] at hr;exact h.rown r hr
  | some j=>
   rw [hm] at hr;simp only [M',hm];exact post.rown j hr
 ·rcases F1 k hk with h1 | h1
  ·exact h.low k h1
  exact .inl (Nat.le_trans h.fr.size h1)
 ·simp only [M'] at h1 h2
  have mix:∀ {r' k j:Nat} {c z c' z':Nat},N'.γ j=some (some (k,c,z))→mpI pids rk r'=none→Qx rids r'=false→M.γ r'=some (some (k,c',z'))→False:=by
   intro r' k j c z c' z' a1 a2 a3 a4;rcases hown k (.inr ⟨j,_,_,a1⟩) with b1 | b1
   ·exact hNrow a3 a4 b1
   have:=h.lt k (.inr ⟨r',_,_,a4⟩); omega
  cases e1:mpI pids rk r with
  | none=>
   simp only [e1] at h1;split at h1
   ·cases h1
   rename_i i1
   cases e2:mpI pids rk r' with
   | none=>
    simp only [e2] at h2;split at h2
    ·cases h2
    exact h.inj2 _ _ _ _ _ _ _ h1 h2
   | some j'=>
    simp only [e2] at h2;exact (mix h2 e1 (by simpa using i1) h1).elim
  | some j=>
   simp only [e1] at h1
   cases e2:mpI pids rk r' with
   | none=>
    simp only [e2] at h2;split at h2
    ·cases h2
    rename_i i2;exact (mix h1 e2 (by simpa using i2) h2).elim
   | some j'=>
    simp only [e2] at h2;have:=post.inj2 _ _ _ _ _ _ _ h1 h2;subst this;have a1:=Mq hfamp' hnk e1;rw [Mq hfamp' hnk e2] at a1;cases a1; rfl
 ·simp only [M'] at h1 h2;split at h2
  ·rename_i j hj;rcases hown k (.inr ⟨j,_,_,h2⟩) with b1 | b1
   ·rcases Mf b1 with ⟨x,i,hx,hi⟩ | ⟨x,i,c',z',hx,hi⟩
    ·have:=h.inj1 _ _ _ h1 hi; subst this;exact post.inj3 x j k c z (by rw [hβ]; simp [Ji,hx,hi]) h2
    exact h.inj3 _ _ _ _ _ h1 hi
   have:=h.lt k (.inl ⟨b,h1⟩); omega
  split at h2
  ·cases h2
  exact h.inj3 _ _ _ _ _ h1 h2
 ·obtain ⟨h3,h3'⟩:=O0.lor r x h1;simp only [M'] at h2;split at h2
  ·rename_i j hj;obtain ⟨r',g1,g2,g3⟩:=hfx hj;rcases g3 with ⟨g4,g5,rfl⟩ | ⟨_,g4,_⟩ | ⟨g4,_,_⟩
   ·rw [hγ j g4 g5,hNγ g2] at h2; exact h.fxr _ _ _ h1 h2
   ·omega
   omega
  split at h2
  ·cases h2
  exact h.fxr _ _ _ h1 h2
 refine sc_renT hlp hlb (fun r i x hr hx=>?_) (fun r i x hr hx=>?_) F2 hv hd
 ·simp only [M',Mq hfamp hnp (Zt hfamp hr)] at hx; exact hx
 rw [hβ]; simp only [Ji,hr]; exact hx
def fitM1 (rk rids bk bids:List Nat) (c:D):D→Prop
 | .ro f q=>c=.ro f q∨(c=.ro true q∧f=false)∨(c=.nil∧q.len=0)
 | .agg _=>False
 | .tup _=>False
 | d=>c=renS (sgm bk bids) (sgm rk rids) d∧scS rk bk d=true
def fitML (rk rids bk bids:List Nat):List D→List D→Prop
 | [],[]=>True
 | a::l,b::m=>fitM1 rk rids bk bids a b∧fitML rk rids bk bids l m
 | _,_=>False
def fitMA (rk rids bk bids:List Nat):D→D→Prop
 | .agg l,.agg m=>fitML rk rids bk bids l m
 | c,d=>fitM1 rk rids bk bids c d
def fitsM (rk rids bk bids:List Nat) (s:PS):List Operand→List D→Prop
 | [],[]=>True
 | x::l,b::m=>fitMA rk rids bk bids (s.ev x) b∧fitsM rk rids bk bids s l m
 | _,_=>False
theorem VR.unflag {A A':Bool→Nat→Prop} (hA:∀ f f' k,A f k→f'=f∨f'=false→A' f' k) {M M':Mp} {w:World} {d:D} {v:Value} (h:VR M A w d v):∀ d',Kw d d'→(∀ f q f' q',d=.ro f q→d'=.ro f' q'→f'=f∨f'=false)→VR M' A' w d' v:=by
 induction h with
 | ro f q ao cap b o u hn hc hao hu hv ih=>
  intro d' hd hf;cases d' <;> simp only [Kw] at hd;rename_i f' q';subst hd;have hff:=hf f q f' q rfl rfl;refine .ro f' q ao cap b o u hn hc (fun h0=>⟨(hao h0).1,(hao h0).2.1,hA f f' b (hao h0).2.2 hff⟩) (fun i j d' hi hd'=>?_) (fun i j d' hi hd'=>?_)
  ·obtain ⟨d,h1,_⟩:=Lb f f' q i j d' hd'; exact hu i j d hi h1
  obtain ⟨d,h1,h2⟩:=Lb f f' q i j d' hd';refine ih i j d hi h1 d' h2 fun g p g' p' e1 e2=>?_;subst e1 e2;cases q <;> simp only [Sq.elem] at h1 hd' <;> rcases j with _ | _ | j <;> simp at h1 hd' <;> first | (obtain ⟨rfl,_⟩:=h1; obtain ⟨rfl,_⟩:=hd'; exact hff) | skip
 | int n=>intro d' hd _; cases d' <;> simp only [Kw] at hd; subst hd; exact .int _
 | bool b=>intro d' hd _; cases d' <;> simp only [Kw] at hd; subst hd; exact .bool _
 | val v h=>intro d' hd _; cases d' <;> simp only [Kw] at hd; subst hd; exact .val _ h
 | any v h=>intro d' hd _; cases d' <;> simp only [Kw] at hd; exact .any _ h
 | _=>intro d' hd; simp [Kw] at hd
theorem fitM1_ok {A:Bool→Nat→Prop} (hm:∀ k,A true k→A false k) (hl:rk.length=rids.length) (hb:bk.length=bids.length) (hfam:Ws rk rids=true) {c d:D} {v:Value} (hv:VR M A w c v) (hf:fitM1 rk rids bk bids c d):VR (Ji M rk rids bk bids) A w d v:=by
 have hA:∀ f b,b<w.heap.size→A f b→A f b∧b<w.heap.size∧w.heap[b]? = w.heap[b]?:=fun f b h1 h2=>⟨h2,h1,rfl⟩
 have go:c=renS (sgm bk bids) (sgm rk rids) d∧scS rk bk d=true→VR (Ji M rk rids bk bids) A w d v:=by
  rintro ⟨rfl,hs⟩;exact sc_un hl hb (fun r i x h1 h2=>by simpa [Ji,Zt hfam h1] using h2) (fun r i x h1 h2=>by simpa [Ji,h1] using h2) hA hv hs
 cases d with
 | ro f q=>
  rcases hf with rfl | ⟨rfl,rfl⟩ | ⟨rfl,h0⟩
  ·exact hv.ro_any hA
  ·refine hv.unflag (M':=Ji M rk rids bk bids) (A':=A) (fun f f' k h1 h2=>?_) (.ro false q) O (fun f q' f' q'' e1 e2=>by cases e1; cases e2; exact .inr O);rcases h2 with rfl | rfl
   ·exact h1
   cases f
   ·exact h1
   exact hm k h1
  obtain ⟨ao0,hao0⟩:=hv.nil_inv;rw [hao0];have:=VR.ro (M:=Ji M rk rids bk bids) (A:=A) (w:=w) f q ao0 0 0 0 (fun _ _=>undef) (by omega) (by omega) (by omega) (by intro i j d hi; omega) (by intro i j d hi; omega)
  rwa [h0] at this
 | agg l=>exact hf.elim
 | tup l=>exact hf.elim
 | _=>exact go hf
theorem fitML_ok {A:Bool→Nat→Prop} (hm:∀ k,A true k→A false k) (hl:rk.length=rids.length) (hb:bk.length=bids.length) (hfam:Ws rk rids=true):∀ {l m:List D},fitML rk rids bk bids l m→l.length=m.length∧∀ (i:Nat) (d':D),m[i]? = some d'→∃ d,l[i]? = some d∧∀ v,VR M A w d v→VR (Ji M rk rids bk bids) A w d' v
 | [],[],_=>⟨rfl,by simp⟩
 | a::l,b::m,h=>by
  obtain ⟨h1,h2⟩:=fitML_ok hm hl hb hfam h.2;refine ⟨by simp [h1],fun i d' hd=>?_⟩
  cases i with
  | zero=>simp at hd; subst hd; exact ⟨a,rfl,fun v hv=>fitM1_ok hm hl hb hfam hv h.1⟩
  | succ i=>exact h2 i d' (by simpa using hd)
 | [],_::_,h=>h.elim
 | _::_,[],h=>h.elim
theorem fitMA_ok {A:Bool→Nat→Prop} (hm:∀ k,A true k→A false k) (hl:rk.length=rids.length) (hb:bk.length=bids.length) (hfam:Ws rk rids=true) {c d:D} {v:Value} (hv:VR M A w c v) (hf:fitMA rk rids bk bids c d):VR (Ji M rk rids bk bids) A w d v:=by
 cases d with
 | agg m=>
  cases c with
  | agg l=>
   obtain ⟨us,rfl,h1,h2⟩:=hv.agg_inv;obtain ⟨g1,g2⟩:=fitML_ok (M:=M) (w:=w) hm hl hb hfam hf;refine .agg _ us (by omega) fun i d' hd=>?_;obtain ⟨d,h3,h4⟩:=g2 i d' hd;exact h4 _ (h2 i d h3)
  | _=>exact hf.elim
 | _=>cases c <;> exact fitM1_ok hm hl hb hfam hv hf
theorem fitsM_ok {A:Bool→Nat→Prop} (hm:∀ k,A true k→A false k) (hl:rk.length=rids.length) (hb:bk.length=bids.length) (hfam:Ws rk rids=true) (hev:∀ x,VR M A w (s.ev x) (a.eval x)):∀ {xs:List Operand} {ds:List D},fitsM rk rids bk bids s xs ds→xs.length=ds.length ∧
  ∀ (i:Nat) (d:D),ds[i]? = some d→∃ x,xs[i]? = some x∧VR (Ji M rk rids bk bids) A w d (a.eval x)
 | [],[],_=>⟨rfl,by simp⟩
 | x::l,b::m,h=>by
  obtain ⟨h1,h2⟩:=fitsM_ok hm hl hb hfam hev h.2;refine ⟨by simp [h1],fun i d' hd=>?_⟩
  cases i with
  | zero=>simp at hd; subst hd; exact ⟨x,rfl,fitMA_ok hm hl hb hfam (hev x) h.1⟩
  | succ i=>exact h2 i d' (by simpa using hd)
 | [],_::_,h=>h.elim
 | _::_,[],h=>h.elim
end
section
variable {C:Cx} {ops:Array Oper} {K:PS→Prop} {o:Oper} {rest:List Oper} {s s':PS} {rk rids bk bids pids:List Nat}
def mchk (rk rids bk bids pids:List Nat):Bool:=Nat.beq rk.length rids.length&&Nat.beq rk.length pids.length&&Nat.beq bk.length bids.length&&Ej rids&&Ej bids&&Ej pids&&fixB rk rids pids rids&&Ws rk rids&&Ws rk pids
theorem sMCallAny {f:FuncId} {ds:List D} {r0 r1:List (TypeId×Sq)} {b0 b1:List (List D)} {d:D} (hp:MCall C.P f ds rk bk r0 r1 b0 b1 d) (hds:Jk C.n o.dst=true)
  (hrun:∀ M a w,Rel C.w0 C.O0 C.n M s a w→∃ args,(execOp a.eval o).run C.P w=.ok (.enter f args) w∧ArgsM (Ow (Fs C.w0 C.O0) M) (Ji M rk rids bk bids) w ds args)
  (hchk:mchk rk rids bk bids pids=true) (hrf:rfB s rids=true) (hf:Fresh s noB (newP rids pids)) (hr:Ff s.r rids r0) (hb:Ff s.b bids (b0.map fun cs=>cs.map (renS (sgm bk bids) (sgm rk rids))))
  (h:K ((s.after rids pids r1 bids (b1.map fun cs=>cs.map (renS (sgm bk bids) (sgm rk pids)))).put o.dst (ren (sgm bk bids) (sgm rk pids) d))):Step C o s K:=⟨fun M a w Q K' hrl hk=>by
 simp only [mchk,Bool.and_eq_true] at hchk;obtain ⟨⟨⟨⟨⟨⟨⟨⟨c1,c2⟩,c3⟩,c4⟩,c5⟩,c6⟩,c7⟩,c8⟩,c9⟩:=hchk;have l1:=Nat.eq_of_beq_eq_true c1;have l2:=Nat.eq_of_beq_eq_true c2;have l3:=Nat.eq_of_beq_eq_true c3;obtain ⟨args,hex,hargs⟩:=hrun M a w hrl;unfold Oper.wp;rw [hex];refine (hp.run w (Ji M rk rids bk bids) args (Ow (Fs C.w0 C.O0) M) (fun f k ha ho=>ha.1 (Mw ho)) (fun k ha=>⟨ha.1,ha.2.imp_right (C.O0.mon k)⟩) (hrl.sub (fun _ _ _ h=>h) l1 l3 hr hb hp.con0 c4 c5 c8) hargs).mono ?_;rintro e w' ⟨v,rfl,N',p1,p2,p3,p4,p5,p6,p7,p8,p9,p10⟩;obtain ⟨M',g1,g2⟩:=hrl.after l1 l2 l3 hp.len.2.1 hp.len.2.2.2 hp.ndk.1 hp.ndk.2 c4 c5 c6 c7 hf hp.con1 hp.conr c8 c9 hrf p1 p2 p3 p4 p5 p6 p7 p8 p9
 exact hk M' _ _ _ h (g1.put hds (g2 d v hp.nd p10))⟩
theorem Rel.mon {w0:World} {O0:Hd} {M:Mp}:∀ k,Ow (Fs w0 O0) M true k→Ow (Fs w0 O0) M false k:=fun k ha=>⟨ha.1,ha.2.imp_right (O0.mon k)⟩
theorem sMCall {f:FuncId} {args:Array Operand} {ts:Array TypeId} {ds:List D} {r0 r1:List (TypeId×Sq)} {b0 b1:List (List D)} {d:D} (hop:o.op=.call { callee:=.value (.func f),args:=args,argTypes:=ts }) (hp:MCall C.P f ds rk bk r0 r1 b0 b1 d) (hds:Jk C.n o.dst=true)
  (hchk:mchk rk rids bk bids pids=true) (hrf:rfB s rids=true) (hf:Fresh s noB (newP rids pids)) (hr:Ff s.r rids r0) (hb:Ff s.b bids (b0.map fun cs=>cs.map (renS (sgm bk bids) (sgm rk rids)))) (hfit:fitsM rk rids bk bids s args.toList ds)
  (h:K ((s.after rids pids r1 bids (b1.map fun cs=>cs.map (renS (sgm bk bids) (sgm rk pids)))).put o.dst (ren (sgm bk bids) (sgm rk pids) d))):Step C o s K:=by
 refine sMCallAny hp hds (fun M a w hr=>?_) hchk hrf hf hr hb h;refine ⟨args.map a.eval,?_,?_⟩
 ·have:=hp.enter (args.map a.eval) w;unfold execOp;rw [hop];show ((do let d ←resolve a.eval _ o.type; invoke d.target d.args:Sem Next)).run C.P w=_;simp only [resolve];show ((callFunc f ((#[]++args.map a.eval)++#[])):Sem Next).run C.P w=_;rw [show (#[]++args.map a.eval)++#[]=args.map a.eval by simp];exact this
 simp only [mchk,Bool.and_eq_true] at hchk;obtain ⟨g1,g2⟩:=fitsM_ok (M:=M) (w:=w) (a:=a) Rel.mon (Nat.eq_of_beq_eq_true hchk.1.1.1.1.1.1.1.1) (Nat.eq_of_beq_eq_true hchk.1.1.1.1.1.1.2) hchk.1.2 hr.ev hfit;refine ⟨by simpa using g1,fun i d hd=>?_⟩;obtain ⟨x,h1,h2⟩:=g2 i d hd;rw [Array.getElem?_toList] at h1;have:(args.map a.eval).getD i undef=a.eval x:=by simp [h1]
 rw [this]; exact h2
end
end
section
open Go.RowKit Go.Deep
section
variable {C:Cx} {ops:Array Oper} {K:PS→Prop} {o:Oper} {rest:List Oper} {s s':PS} {rk rids bk bids pids:List Nat} {tm:List (Nat×D)} {rw':List (Nat×Option (TypeId×Sq))} {bx:List (Nat×Option (List D))}
theorem Bs {f:FuncId} {args:Array Operand} {ts:Array TypeId} {ds:List D} {r0 r1:List (TypeId×Sq)} {b0 b1:List (List D)} {d:D} (hp:MCall C.P f ds rk bk r0 r1 b0 b1 d) (rids bids pids:List Nat) (hg:o.guard=none) (hop:o.op=.call { callee:=.value (.func f),args:=args,argTypes:=ts }) (hn:Jk C.n o.dst=true)
  (hchk:mchk rk rids bk bids pids=true) (hf:frB ⟨tm,rw',bx⟩ noB (newP rids pids)=true)
  (hnf:nf ((PS.after ⟨tm,rw',bx⟩ rids pids r1 bids (b1.map fun cs=>cs.map (renS (sgm bk bids) (sgm rk pids)))).put o.dst (ren (sgm bk bids) (sgm rk pids) d))=some s')
  (hr:Ff (PS.r ⟨tm,rw',bx⟩) rids r0) (hb:Ff (PS.b ⟨tm,rw',bx⟩) bids (b0.map fun cs=>cs.map (renS (sgm bk bids) (sgm rk rids)))) (hfit:fitsM rk rids bk bids ⟨tm,rw',bx⟩ args.toList ds) (h:VO C ops K rest s') (hrf:rfB ⟨tm,rw',bx⟩ rids=true:=by rfl):VO C ops K (o::rest) ⟨tm,rw',bx⟩:=
 vOp hg (sMCall hop hp hn hchk hrf (Ke hf) hr hb hfit (vNf hnf h))
theorem Zy {β:Nat→Option Nat}:∀ {bs:List Nat},(∀ b∈bs,∃ k,β b=some k)→∃ ks,Jl β bs=some ks∧ks.length=bs.length∧∀ (i b:Nat),bs[i]? = some b→β b=ks[i]?
 | [],_=>⟨[],rfl,rfl,by simp⟩
 | b::bs,h=>by
  obtain ⟨k,hk⟩:=h b (by simp);obtain ⟨ks,h1,h2,h3⟩:=Zy (bs:=bs) fun x hx=>h x (by simp [hx]);refine ⟨k::ks,by simp [Jl,hk,h1],by simp [h2],fun i x hx=>?_⟩
  cases i with
  | zero=>simp at hx; subst hx; simpa using hk
  | succ i=>simpa using h3 i x (by simpa using hx)
theorem sMClo {f:FuncId} {x:Operand} {args:Array Operand} {ts:Array TypeId} {bs cs:List Nat} {ds:List D} {r0 r1:List (TypeId×Sq)} {b0 b1:List (List D)} {d:D} (hop:o.op=.call { callee:=.value x,args:=args,argTypes:=ts }) (hx:s.ev x=.clo f bs)
  (hp:MCall C.P f (ds++cs.map fun b=>.ptr b 0) rk bk r0 r1 b0 b1 d) (hcs:cs.map (sgm bk bids)=bs) (hin:cs.all (He bk)=true) (hds:Jk C.n o.dst=true)
  (hchk:mchk rk rids bk bids pids=true) (hrf:rfB s rids=true) (hf:Fresh s noB (newP rids pids)) (hr:Ff s.r rids r0) (hb:Ff s.b bids (b0.map fun cs=>cs.map (renS (sgm bk bids) (sgm rk rids)))) (hfit:fitsM rk rids bk bids s args.toList ds)
  (h:K ((s.after rids pids r1 bids (b1.map fun cs=>cs.map (renS (sgm bk bids) (sgm rk pids)))).put o.dst (ren (sgm bk bids) (sgm rk pids) d))):Step C o s K:=by
 refine sMCallAny hp hds (fun M a w hr'=>?_) hchk hrf hf hr hb h;simp only [mchk,Bool.and_eq_true] at hchk;have lb:=Nat.eq_of_beq_eq_true hchk.1.1.1.1.1.1.2;have hev:=hr'.ev x;rw [hx] at hev
 have hbox:∀ {l:List Nat} {m:List (List D)},Ff s.b l m→∀ b∈l,∃ k,M.β b=some k:=by
  intro l
  induction l with
  | nil=>intro m _ b hb; simp at hb
  | cons i l ih=>
   intro m hm b hb
   cases m with
   | nil=>exact hm.elim
   | cons y m=>
    rcases List.mem_cons.1 hb with rfl | hb
    ·obtain ⟨k,cur,e,g,_⟩:=hr'.box b y hm.1;exact ⟨k,g⟩
    exact ih hm.2 b hb
 have hmem:∀ c∈cs,∃ i,mp bk bids c=some i∧i∈bids:=fun c hc=>by
  simp only [List.all_eq_true] at hin;obtain ⟨i,hi⟩:=Kj lb (Kv (hin c hc));exact ⟨i,hi,(Ko hi).2⟩
 obtain ⟨ks,k1,k2,k3⟩:=Zy (β:=M.β) (bs:=bs) fun b hb'=>by
  rw [←hcs,List.mem_map] at hb';obtain ⟨c,hc,rfl⟩:=hb';obtain ⟨i,hi,hi'⟩:=hmem c hc;simp only [sgm,hi];exact hbox hb i hi'
 have hv:a.eval x=cloV f ks:=by cases hev with | clo _ _ _ h1 h2=>exact h2 ks k1
 refine ⟨args.map a.eval++(ks.map fun k=>Value.pointer (some ⟨k,0,none⟩)).toArray,?_,?_⟩
 ·have:=hp.enter (args.map a.eval++(ks.map fun k=>Value.pointer (some ⟨k,0,none⟩)).toArray) w;unfold execOp;rw [hop];show ((do let d ←resolve a.eval _ o.type; invoke d.target d.args:Sem Next)).run C.P w=_;simp only [resolve,hv,cloV,Deferred.ofValue];show ((callFunc f ((#[]++args.map a.eval)++(ks.map fun k=>Value.pointer (some ⟨k,0,none⟩)).toArray)):Sem Next).run C.P w=_;rw [show (#[]++args.map a.eval)=args.map a.eval by simp];exact this
 obtain ⟨g1,g2⟩:=fitsM_ok (M:=M) (w:=w) (a:=a) Rel.mon (Nat.eq_of_beq_eq_true hchk.1.1.1.1.1.1.1.1) lb hchk.1.2 hr'.ev hfit;have hk:ks.length=cs.length:=by rw [k2,←hcs]; simp
 refine ⟨by simp at g1; simp [g1,hk],fun i d hd=>?_⟩;by_cases hi:i<ds.length
 ·rw [List.getElem?_append_left hi] at hd;obtain ⟨x,h1,h2⟩:=g2 i d hd;rw [Array.getElem?_toList] at h1;have hi2:i<args.size:=(Array.getElem?_eq_some_iff.1 h1).1
  have:(args.map a.eval++(ks.map fun k=>Value.pointer (some ⟨k,0,none⟩)).toArray).getD i undef=a.eval x:=by
   have e1:(args.map a.eval++(ks.map fun k=>Value.pointer (some ⟨k,0,none⟩)).toArray)[i]? = some (a.eval x):=by
    rw [Array.getElem?_append_left (by simpa using hi2)]; simp [h1]
   simp [e1]
  rw [this]; exact h2
 rw [List.getElem?_append_right (by omega)] at hd;rw [List.getElem?_map] at hd;obtain ⟨c,hc,rfl⟩:=Option.map_eq_some_iff.1 hd;obtain ⟨i',hi',_⟩:=hmem c (List.mem_of_getElem? hc);have h5:bs[i-ds.length]? = some i':=by rw [←hcs]; simp [hc,sgm,hi']
 have h6:=k3 _ _ h5;have hlt:i-ds.length<cs.length:=(List.getElem?_eq_some_iff.1 hc).1;have hlen:args.size=ds.length:=by simpa using g1
 have e1:(args.map a.eval++(ks.map fun k=>Value.pointer (some ⟨k,0,none⟩)).toArray)[i]? = some (.pointer (some ⟨ks[i-ds.length]'(by omega),0,none⟩)):=by
  rw [Array.getElem?_append_right (by simp; omega)];simp [hlen,show i-ds.length<ks.length from by omega]
 have:(args.map a.eval++(ks.map fun k=>Value.pointer (some ⟨k,0,none⟩)).toArray).getD i undef=.pointer (some ⟨ks[i-ds.length]'(by omega),0,none⟩):=by simp [e1]
 rw [this];refine .ptr _ _ _ O fun k hk'=>?_;simp only [Ji,hi'] at hk';rw [h6,List.getElem?_eq_getElem (by omega)] at hk';cases hk'; rfl
theorem sMakeFunc {fn:FuncId} {caps:Array Operand} {bs:List Nat} {cd:List D} {b:Nat} (hop:o.op=.makeFunc (.func fn) #[] caps) (hd:o.dst=some b) (hc:caps.toList.map s.ev=cd) (hcd:cd=bs.map fun b=>.ptr b 0) (hn:Nat.blt b C.n=true) (h:K (s.put (some b) (.clo fn bs))):Step C o s K:=by
 refine sRun (fun M a w hr=>?_) (by rw [hd]; exact hn) (by rw [hd]; exact h);refine ⟨.func (.func fn) #[] (caps.map a.eval),?_,?_⟩
 ·unfold execOp;rw [hop];show ((do pure (Next.value (←Instr.makeFunc (.func fn) ((#[]:Array Operand).map a.eval) (caps.map a.eval)))):Sem Next).run C.P w=_;rw [show (#[]:Array Operand).map a.eval=#[] from by simp];rfl
 refine .clo _ _ _ O fun ks hk=>?_;subst hcd;unfold cloV;congr 1
 have key:∀ (l:List Operand) (bs:List Nat) (ks:List Nat),l.map s.ev=bs.map (fun b=>D.ptr b 0)→Jl M.β bs=some ks→l.map a.eval=ks.map fun k=>Value.pointer (some ⟨k,0,none⟩):=by
  intro l
  induction l with
  | nil=>intro bs ks h1 h2; cases bs <;> simp at h1; simp [Jl] at h2; subst h2; rfl
  | cons x l ih=>
   intro bs ks h1 h2
   cases bs with
   | nil=>simp at h1
   | cons b bs=>
    simp only [List.map_cons,List.cons.injEq] at h1;simp only [Jl] at h2;split at h2
    ·rename_i k ks' e1 e2;cases h2;have hv:=hr.ev x;rw [h1.1] at hv
     cases hv with
     | ptr _ _ _ g1 g2=>simp only [List.map_cons]; rw [g2 k e1,ih bs ks' h1.2 e2]
    cases h2
 apply Array.ext';rw [Array.toList_map];exact key caps.toList bs ks hc hk
theorem oMakeFunc (hg:o.guard=none) {fn:FuncId} {caps:Array Operand} (bs:List Nat) {b:Nat} (hop:o.op=.makeFunc (.func fn) #[] caps) (hd:o.dst=some b) (hc:caps.toList.map (PS.ev ⟨tm,rw',bx⟩)=bs.map fun b=>.ptr b 0) (hn:Nat.blt b C.n=true) (h:VO C ops K rest ⟨(b,.clo fn bs)::tm,rw',bx⟩):VO C ops K (o::rest) ⟨tm,rw',bx⟩:=
 vOp hg (sMakeFunc hop hd hc rfl hn h)
end
theorem sc_unA {rk rids bk bids:List Nat} (hl:rk.length=rids.length) (hb:bk.length=bids.length) {N M:Mp} {A A':Bool→Nat→Prop} {w w':World}
  (hγ:∀ r i x,mp rk rids r=some i→N.γ r=some x→M.γ i=some x) (hβ:∀ r i x,mp bk bids r=some i→N.β r=some x→M.β i=some x)
  (hA:∀ f b,b<w.heap.size→A f b→A' f b∧b<w'.heap.size∧w'.heap[b]? = w.heap[b]?) {d:D} {v:Value} (h:VR M A w (renA (sgm bk bids) (sgm rk rids) d) v) (hs:scA rk bk d=true):VR N A' w' d v:=by
 cases d with
 | agg l=>
  cases h with | agg _ us hl' h=>
  refine .agg _ us (by simpa using hl') fun i d hd=>?_;simp only [scA,List.all_eq_true] at hs;exact sc_un hl hb hγ hβ hA (h i (renS (sgm bk bids) (sgm rk rids) d) (by rw [List.getElem?_map,hd]; rfl)) (hs d (List.mem_of_getElem? hd))
 | _=>exact sc_un hl hb hγ hβ hA h hs
theorem sc_unT {rk rids bk bids:List Nat} (hl:rk.length=rids.length) (hb:bk.length=bids.length) {N M:Mp} {A A':Bool→Nat→Prop} {w w':World}
  (hγ:∀ r i x,mp rk rids r=some i→N.γ r=some x→M.γ i=some x) (hβ:∀ r i x,mp bk bids r=some i→N.β r=some x→M.β i=some x)
  (hA:∀ f b,b<w.heap.size→A f b→A' f b∧b<w'.heap.size∧w'.heap[b]? = w.heap[b]?) {d:D} {v:Value} (h:VR M A w (ren (sgm bk bids) (sgm rk rids) d) v) (hs:scT rk bk d=true):VR N A' w' d v:=by
 cases d with
 | tup l=>
  cases h with | tup _ us hl' h=>
  refine .tup _ us (by simpa using hl') fun i d hd=>?_;simp only [scT,List.all_eq_true] at hs;exact sc_unA hl hb hγ hβ hA (h i (renA (sgm bk bids) (sgm rk rids) d) (by rw [List.getElem?_map,hd]; rfl)) (hs d (List.mem_of_getElem? hd))
 | _=>exact sc_unA hl hb hγ hβ hA h hs
def fixI:List Nat→List Nat→Bool
 | k::rk,i::ids=>(Nat.blt k 1000000 || Nat.beq k i)&&fixI rk ids
 | _,_=>true
theorem fixI_ok:∀ {rk ids:List Nat} {k i:Nat},fixI rk ids=true→mp rk ids k=some i→1000000≤k→i=k
 | [],ids,k,i,_,h,_=>by simp [mp] at h
 | k'::rk,[],k,i,_,h,_=>by simp [mp] at h
 | k'::rk,i'::ids,k,i,hf,h,hk=>by
  simp only [fixI,Bool.and_eq_true,Bool.or_eq_true] at hf;by_cases he:k'=k
  ·subst he;rw [Cm] at h;cases h;rcases hf.1 with h1 | h1
   ·rw [Nat.blt_eq] at h1; omega
   exact (Nat.eq_of_beq_eq_true h1).symm
  rw [Ee he] at h;exact fixI_ok hf.2 h hk
def RetM (TT:List (Nat×Ty)) (res:List ResultVar) (rk bk:List Nat) (r1:List (TypeId×Sq)) (b1:List (List D)) (d:D):Exit→PS→Prop:=fun e s=>match e with
 | .normal | .ret=>∃ ids,retD TT s res=some (ren (sgm bk bk) (sgm rk ids) d)∧Ff s.r ids r1∧Ff s.b bk (b1.map fun cs=>cs.map (renS (sgm bk bk) (sgm rk ids)))∧(Nat.beq rk.length ids.length&&Ej ids&&fixI rk ids&&Ws rk ids)=true
 | _=>False
theorem Xz {α:Type} {f:Nat→Option α}:∀ {l:List Nat} {m:List α},Ff f l m→∀ x∈l,∃ y,f x=some y
 | [],_,_,x,h=>by simp at h
 | i::l,[],h,_,_=>h.elim
 | i::l,y::m,h,x,hx=>by
  rcases List.mem_cons.1 hx with rfl | hx
  ·exact ⟨y,h.1⟩
  exact Xz h.2 x hx
theorem Cy {P:Program} {f:FuncId} {fn:Func} {c:Code} {TT:List (Nat×Ty)} {ds:List D} {rk bk:List Nat} {r0 r1:List (TypeId×Sq)} {b0 b1:List (List D)} {d:D} {n:Nat} {res:List ResultVar} (hT:Ki P TT) (hf:P.funcs[f]? = some fn) (hb:fn.body=some c)
  (hname : (fn.name == "runtime.NumGoroutine") = false) (hn : fn.ntmps = n) (hres : fn.results.toList = res) (hds : Nat.ble ds.length n = true)
  (hlen:(Nat.beq rk.length r0.length&&Nat.beq rk.length r1.length&&Nat.beq bk.length b0.length&&Nat.beq bk.length b1.length&&Ej rk&&Ej bk&&bk.all (Nat.ble 1000000)&&conR rk r1)=true) (hc0:conB rk bk b0=true) (hc1:conB rk bk b1=true) (hd:scT rk bk d=true)
  (h:∀ w0 O0,VC ⟨P,w0,O0,n⟩ c (RetM TT res rk bk r1 b1 d) ⟨entL 0 ds,asL rk r0,asL bk b0⟩) (hn1000:Nat.ble n 1000=true:=by rfl):MCall P f ds rk bk r0 r1 b0 b1 d:=by
 subst hn hres;simp only [Bool.and_eq_true] at hlen;obtain ⟨⟨⟨⟨⟨⟨⟨l1,l2⟩,l3⟩,l4⟩,l5⟩,l6⟩,l7⟩,l8⟩:=hlen;have m1:=Nat.eq_of_beq_eq_true l1;have m2:=Nat.eq_of_beq_eq_true l2;have m3:=Nat.eq_of_beq_eq_true l3;have m4:=Nat.eq_of_beq_eq_true l4;refine ⟨Mt hf hname (by simp [hb]),⟨m1,m2,m3,m4⟩,hc0,hc1,l8,hd,⟨l5,l6⟩,fun w0 N args A hAN hmon pre ⟨hsz,hargs⟩=>?_⟩;have hle:=Nat.le_of_ble_eq_true hds
 let O0:Hd:=⟨N.owned,fun f k=>A f k∨N.owned k,fun _ _ h=>.inr h,fun k h=>h.imp_left (hmon k),fun b=>if 1000000≤b then N.β b else none,fun r=>if 1000000≤r∧r<BIG then N.γ r else none,
  (fun b k hk=>by split at hk <;> first | assumption | cases hk),(fun r x hx=>by split at hx <;> first | assumption | cases hx)⟩
 have hA:∀ f b,b<w0.heap.size→A f b→Ow (Fs w0 O0) N f b∧b<w0.heap.size∧w0.heap[b]? = w0.heap[b]?:=fun f b h1 h2=>⟨⟨hAN f b h2,.inr (.inl h2)⟩,h1,rfl⟩
 have hent:Rel w0 O0 fn.ntmps N ⟨entL 0 ds,asL rk r0,asL bk b0⟩ { tmps:=args++Array.replicate (fn.ntmps-args.size) undef,defers:=[] } w0:=by
  refine ⟨⟨O,O,O,Nat.le_refl _,fun _ _ _=>O⟩,O,by simp; omega,fun t=>?_,fun b cs hb=>?_,pre.boxn,fun r e q hr=>?_,pre.rown,fun k hk=>.inr hk,pre.inj1,pre.inj2,pre.inj3,Nat.le_of_ble_eq_true hn1000,fun b k k' h1 h2=>?_,fun r x x' h1 h2=>?_⟩
  ·simp only [PS.t,Pk,Nat.zero_le,if_true,Nat.sub_zero]
   cases hd:ds[t]? with
   | none=>exact .dead _
   | some d0=>
    have hlt:t<args.size:=by rw [hsz]; exact (List.getElem?_eq_some_iff.1 hd).1
    have h1:=hargs t d0 hd
    have h2:(args++Array.replicate (fn.ntmps-args.size) undef).getD t undef=args.getD t undef:=by
     simp [Array.getElem?_append_left hlt]
    rw [h2];exact h1.mono hA (fun _ _ h=>h) (fun _ _ h=>h)
  ·obtain ⟨k,cur,e,g1,g2,g3,g4⟩:=pre.box b cs hb;exact ⟨k,cur,e,g1,g2,g3,fun j d hj=>(g4 j d hj).mono hA (fun _ _ h=>h) (fun _ _ h=>h)⟩
  ·rcases pre.row r e q hr with ⟨g1,g2⟩ | ⟨g,cap,cur,g1,g2,g3,g4,g5,g6⟩
   ·exact .inl ⟨g1,g2⟩
   exact .inr ⟨g,cap,cur,g1,g2,g3,g4,g5,fun i j d hi hj=>(g6 i j d hi hj).mono hA (fun _ _ h=>h) (fun _ _ h=>h)⟩
  ·simp only [O0] at h1;split at h1
   ·rw [h1] at h2; cases h2; rfl
   cases h1
  simp only [O0] at h1;split at h1
  ·rw [h1] at h2; cases h2; rfl
  cases h1
 refine calls_of_wp hf hb (Code.wp_mono ?_ ((h w0 O0).out N _ w0 hent));rintro e a' w' ⟨s',M',hq,hr⟩
 have fin:∀ (hq:∃ ids,retD TT s' fn.results.toList=some (ren (sgm bk bk) (sgm rk ids) d)∧Ff s'.r ids r1∧Ff s'.b bk (b1.map fun cs=>cs.map (renS (sgm bk bk) (sgm rk ids)))∧(Nat.beq rk.length ids.length&&Ej ids&&fixI rk ids&&Ws rk ids)=true),
   a'.defers=[]∧∃ v,(results fn a'.tmps).run P w'=.ok v w'∧∃ v',Ending.returned v=.returned v'∧∃ N',HasM (A2 A w0 N N') N' ⟨[],asL rk r1,asL bk b1⟩ w'∧(∀ b,N'.β b=N.β b)∧(∀ r,1000000≤r→r<BIG→N'.γ r=N.γ r) ∧
    (∀ k,N'.owned k→N.owned k∨w0.heap.size≤k)∧w'.os=w0.os∧w'.tape=w0.tape∧w'.output=w0.output∧w0.heap.size≤w'.heap.size∧(∀ k,k<w0.heap.size→¬ N.owned k→w'.heap[k]? = w0.heap[k]?)∧VR N' (A2 A w0 N N') w' d v':=by
  rintro ⟨ids,h1,h2,h3,h4⟩;obtain ⟨v,h6,h7⟩:=ret_ok hT hr h1;simp only [Bool.and_eq_true] at h4;have k1:=Nat.eq_of_beq_eq_true h4.1.1.1
  have hAA:∀ f k,k<w'.heap.size→Ow (Fs w0 O0) M' f k→A2 A w0 N (Ji M' rk ids bk bk) f k:=fun f k _ ho=>by
   refine ⟨?_,fun h=>ho.1 (Mw h)⟩;rcases ho.2 with g | g | g
   ·exact .inr (.inl g)
   ·exact .inl g
   exact .inr (.inr g)
  have hs:=hr.sub (A':=A2 A w0 N (Ji M' rk ids bk bk)) hAA k1 rfl h2 h3 hc1 h4.1.1.2 l6 h4.2
  have hself:∀ {l:List Nat} {x:Nat},x∈l→mp l l x=some x:=by
   intro l
   induction l with
   | nil=>intro x hx; simp at hx
   | cons y l ih=>
    intro x hx;by_cases hy:y=x
    ·subst hy; exact Cm _ _ _ _
    rw [Ee hy]; exact ih (by simpa [Ne.symm hy] using hx)
  refine ⟨hr.dfr,v,h6,v,O,Ji M' rk ids bk bk,hs,fun b=>?_,fun r hr1 hr2=>?_,fun k hk=>?_,hr.fr.os,hr.fr.tape,hr.fr.output,hr.fr.size,fun k g1 g2=>hr.fr.block k g1 g2,?_⟩
  ·by_cases hb':b∈bk
   ·simp only [Ji,hself hb'];obtain ⟨y,hy⟩:=Xz h3 b hb';obtain ⟨k,cur,e,g1,_⟩:=hr.box b y hy
    have hge:1000000≤b:=by
     have:=(List.all_eq_true.1 l7) b hb';exact Nat.le_of_ble_eq_true this
    obtain ⟨z,hz⟩:∃ z,(PS.b ⟨entL 0 ds,asL rk r0,asL bk b0⟩ b)=some z:=by
     rcases Lh (k:=bk) (i:=bk) (x:=b0) (r:=b) rfl m3 with ⟨_,e2⟩ | ⟨y,j,e1,_,_⟩
     ·rw [hself hb'] at e2; cases e2
     exact ⟨y,by simp [PS.b,e1]⟩
    obtain ⟨k',cur',e',g1',_⟩:=pre.box b z hz;have:=hr.fxb b k' k (by simp [O0,hge,g1']) g1;rw [g1,g1',this]
   have e1:mp bk bk b=none:=by
    cases hm:mp bk bk b with
    | none=>rfl
    | some i=>exact absurd (Ko hm).1 hb'
   simp only [Ji,e1];refine (pre.boxn b ?_).symm;simp [PS.b,asL_none m3 hb']
  ·have hb0:Nat.ble BIG r=false:=by
    cases hb:Nat.ble BIG r with
    | false=>rfl
    | true=>have:=Nat.le_of_ble_eq_true hb; omega
   by_cases hrk:r∈rk
   ·obtain ⟨i,hi⟩:=Kj k1 hrk;have:=fixI_ok h4.1.2 hi hr1;subst this;simp only [Ji,Zt h4.2 hi]
    obtain ⟨⟨e0,q0⟩,hq0⟩:∃ z,(PS.r ⟨entL 0 ds,asL rk r0,asL bk b0⟩ i)=some z:=by
     rcases Lh (k:=rk) (i:=rk) (x:=r0) (r:=i) rfl m1 with ⟨_,e2⟩ | ⟨y,j,e1,_,_⟩
     ·rw [hself hrk] at e2; cases e2
     exact ⟨y,by rw [PS.r_lo _ hb0]; simp [e1]⟩
    obtain ⟨x,hx⟩:∃ x,N.γ i=some x:=by
     rcases pre.row i e0 q0 hq0 with ⟨g1,_⟩ | ⟨g,cap,cur,g1,_⟩
     ·exact ⟨_,g1⟩
     exact ⟨_,g1⟩
    obtain ⟨⟨e1,q1⟩,hq1⟩:=Xz h2 i (Ko hi).2
    obtain ⟨x',hx'⟩:∃ x,M'.γ i=some x:=by
     rcases hr.row i e1 q1 hq1 with ⟨g1,_⟩ | ⟨g,cap,cur,g1,_⟩
     ·exact ⟨_,g1⟩
     exact ⟨_,g1⟩
    have:=hr.fxr i x x' (by simp [O0,hr1,hr2,hx]) hx';rw [hx,hx',this]
   have e1:mp rk ids r=none:=by
    cases hm:mp rk ids r with
    | none=>rfl
    | some i=>exact absurd (Ko hm).1 hrk
   simp only [Ji,Td hb0,e1];refine (pre.rown r ?_).symm;rw [PS.r_lo _ hb0];simp [asL_none m1 hrk]
  ·exact (hr.low k (Mw hk)).symm
  refine sc_unT (rk:=rk) (rids:=ids) (bk:=bk) (bids:=bk) k1 O (fun r i x g1 g2=>?_) (fun r i x g1 g2=>?_) (fun f k g1 g2=>⟨hAA f k g1 g2,g1,O⟩) h7 hd
  ·simp only [Ji,Zt h4.2 g1] at g2; exact g2
  simp only [Ji,g1] at g2; exact g2
 cases e with
 | normal=>exact fin hq
 | ret=>exact fin hq
 | _=>exact hq.elim
def sgI (l m:List Nat) (r:Nat):Nat:=match mp l m r with | some i=>i | none=>r
def eqT (s:PS) (τ:Nat→Nat):List (Nat×D)→Prop
 | []=>True
 | (t,d)::l=>(d=.dead∨s.t t=ren id τ d)∧eqT s τ l
def eqR (s:PS) (τ:Nat→Nat):List (Nat×Option (TypeId×Sq))→Prop
 | []=>True
 | (r,x)::l=>(x=none∨s.r (τ r)=x)∧eqR s τ l
def eqC (τ:Nat→Nat):List D→List D→Prop
 | [],[]=>True
 | a::l,b::m=>(b=.dead∨a=renS id τ b)∧eqC τ l m
 | _,_=>False
theorem eqC_ok {τ:Nat→Nat}:∀ {l m:List D},eqC τ l m→l.length=m.length∧∀ (j:Nat) d,m[j]? = some d→d=.dead∨l[j]? = some (renS id τ d)
 | [],[],_=>⟨rfl,by simp⟩
 | a::l,b::m,h=>by
  obtain ⟨h1,h2⟩:=eqC_ok h.2;refine ⟨by simp [h1],fun j d hd=>?_⟩
  cases j with
  | zero=>simp at hd; subst hd; simpa using h.1
  | succ j=>simpa using h2 j d (by simpa using hd)
 | [],_::_,h=>h.elim
 | _::_,[],h=>h.elim
def eqB (s:PS) (τ:Nat→Nat):List (Nat×Option (List D))→Prop
 | []=>True
 | (b,x)::l=>(x=none∨∃ cs0 cs,x=some cs∧s.b b=some cs0∧eqC τ cs0 cs)∧eqB s τ l
def tidy (s:PS):Bool:=s.tmp.all (fun p=>!Gm noB noB p.2)&&s.box.all (fun p=>match p.2 with | some cs=>cs.all (fun d=>!Cc noB noB d) | none=>true)
theorem eqT_ok {s:PS} {τ:Nat→Nat}:∀ {l:List (Nat×D)},eqT s τ l→∀ t d,Bf l t=some d→d=.dead∨s.t t=ren id τ d
 | [],_,t,d,h=>by simp [Bf] at h
 | (k,x)::l,h,t,d,hl=>by
  by_cases hk:k=t
  ·subst hk; rw [Ao] at hl; cases hl; exact h.1
  rw [Ap hk] at hl; exact eqT_ok h.2 t d hl
theorem eqR_ok {s:PS} {τ:Nat→Nat}:∀ {l:List (Nat×Option (TypeId×Sq))},eqR s τ l→∀ r x,Bf l r=some (some x)→s.r (τ r)=some x
 | [],_,t,d,h=>by simp [Bf] at h
 | (k,y)::l,h,r,x,hl=>by
  by_cases hk:k=r
  ·subst hk; rw [Ao] at hl; cases hl; exact h.1.resolve_left (by simp)
  rw [Ap hk] at hl; exact eqR_ok h.2 r x hl
theorem eqB_ok' {s:PS} {τ:Nat→Nat}:∀ {l:List (Nat×Option (List D))},eqB s τ l→∀ b cs,Bf l b=some (some cs)→∃ cs0,s.b b=some cs0∧eqC τ cs0 cs
 | [],_,t,d,h=>by simp [Bf] at h
 | (k,y)::l,h,b,cs,hl=>by
  by_cases hk:k=b
  ·subst hk; rw [Ao] at hl; cases hl;rcases h.1 with h1 | ⟨cs0,cs',h1,h2,h3⟩
   ·cases h1
   cases h1; exact ⟨cs0,h2,h3⟩
  rw [Ap hk] at hl; exact eqB_ok' h.2 b cs hl
def renOk (l m:List Nat) (s':PS):Bool:=tidy s'&&Ej (s'.row.map fun p=>sgI l m p.1)&&(s'.row.all fun p=>(Nat.blt p.1 1000000 || Nat.beq (sgI l m p.1) p.1))&&l.all Fe&&m.all Fe
theorem En.ren {C:Cx} {s s':PS} (l m:List Nat) (hc:renOk l m s'=true) (h1:eqT s (sgI l m) s'.tmp) (h2:eqR s (sgI l m) s'.row) (h3:eqB s (sgI l m) s'.box):En C s s':=⟨fun M a w h=>by
 simp only [renOk,tidy,Bool.and_eq_true,List.all_eq_true] at hc;obtain ⟨⟨⟨⟨⟨c1,c2⟩,c3⟩,c4⟩,c5⟩,c6⟩:=hc
 have hsb:∀ x,Nat.ble BIG x=true→sgI l m x=x:=fun x hb=>by
  unfold sgI
  cases hm:mp l m x with
  | none=>rfl
  | some i=>
   have:=Cq (c5 x (Ko hm).1);rw [hb] at this; cases this
 have hsl:∀ x,Nat.ble BIG x=false→Nat.ble BIG (sgI l m x)=false:=fun x hb=>by
  unfold sgI
  cases hm:mp l m x with
  | none=>exact hb
  | some i=>exact Cq (c6 i (Ko hm).2)
 let M':Mp:=⟨fun b=>if (s'.b b).isSome then M.β b else none,fun r=>if (s'.r r).isSome then M.γ (sgI l m r) else none⟩
 have hβ:∀ b k,M'.β b=some k→M.β (id b)=some k:=fun b k hk=>by simp only [M'] at hk; split at hk; exact hk; cases hk
 have hγ:∀ r x,M'.γ r=some x→M.γ (sgI l m r)=some x:=fun r x hx=>by simp only [M'] at hx; split at hx; exact hx; cases hx
 have hown:∀ k,M'.owned k→M.owned k:=by
  rintro k (⟨b,hb⟩ | ⟨r,c,z,hr⟩)
  ·exact .inl ⟨b,hβ b k hb⟩
  exact .inr ⟨_,c,z,hγ r _ hr⟩
 have hA:∀ f b,b<w.heap.size→Ow (Fs C.w0 C.O0) M f b→Ow (Fs C.w0 C.O0) M' f b:=fun f b _ h1=>⟨fun h=>h1.1 (hown b h),h1.2⟩;have hA':∀ f b,b<w.heap.size→Ow (Fs C.w0 C.O0) M f b→Ow (Fs C.w0 C.O0) M' f b∧b<w.heap.size∧w.heap[b]? = w.heap[b]?:=fun f b h1 h2=>⟨hA f b h1 h2,h1,rfl⟩
 have hrow:∀ r x,Nat.ble BIG r=false→s'.r r=some x→Bf s'.row r=some (some x):=fun r x hb hx=>by
  rw [PS.r_lo _ hb] at hx
  cases hl:Bf s'.row r with
  | none=>rw [hl] at hx; cases hx
  | some y=>rw [hl] at hx; simp only at hx; rw [hx]
 have hsr:∀ r x,s'.r r=some x→s.r (sgI l m r)=some x:=fun r x hx=>by
  cases hb:Nat.ble BIG r with
  | false=>exact eqR_ok h2 r x (hrow r x hb hx)
  | true=>
   rw [hsb r hb];rw [PS.r_hi _ hb,PS.inn_r] at hx ⊢
   cases h3:s'.r (FK+unF r) with
   | none=>rw [h3] at hx; cases hx
   | some z=>
    have g:=hrow _ z (Yc r) h3;have g2:=eqR_ok h2 _ z g;have g3:=c4 _ (Fm g);simp only [Bool.or_eq_true,Nat.blt_eq] at g3
    have g4:sgI l m (FK+unF r)=FK+unF r:=by
     rcases g3 with g3 | g3
     ·have:FK≤FK+unF r:=Nat.le_add_right _ _;have h5:FK<1000000:=by omega
      exact absurd h5 (by decide)
     exact Nat.eq_of_beq_eq_true g3
    rw [g4] at g2;rw [g2,←h3]; exact hx
 have inj:∀ r r',(s'.r r).isSome=true→(s'.r r').isSome=true→sgI l m r=sgI l m r'→r=r':=by
  intro r r' e1 e2 e3;obtain ⟨x,hx⟩:=Option.isSome_iff_exists.1 e1;obtain ⟨y,hy⟩:=Option.isSome_iff_exists.1 e2
  cases hb:Nat.ble BIG r with
  | true=>
   cases hb':Nat.ble BIG r' with
   | true=>rw [hsb r hb,hsb r' hb'] at e3; exact e3
   | false=>have:=hsl r' hb'; rw [←e3,hsb r hb,hb] at this; cases this
  | false=>
  cases hb':Nat.ble BIG r' with
  | true=>have:=hsl r hb; rw [e3,hsb r' hb',hb'] at this; cases this
  | false=>
  have i1:=Fm (hrow r x hb hx);have i2:=Fm (hrow r' y hb' hy);obtain ⟨a1,b1,g1⟩:=List.getElem_of_mem i1;obtain ⟨a2,b2,g2⟩:=List.getElem_of_mem i2;have:=Xg c3 a1 a2 (by simpa using b1) (by simpa using b2) (by simp [List.getD,b1,b2,g1,g2,e3]);subst this;rw [g1] at g2;exact (Prod.mk.inj g2).1
 have hbig:∀ x y,BIG≤x→M'.γ x=some y→M.γ x=some y:=fun x y hx hy=>by
  have:=hγ x y hy
  rwa [hsb x (Nat.ble_eq_true_of_le hx)] at this
 refine ⟨M',h.fr,h.dfr,h.sz,fun t=>?_,fun b cs hb=>?_,fun b hb=>?_,fun r e q hr=>?_,fun r hr=>?_,fun k hk=>h.low k (hown k hk),fun b b' k h1 h2=>h.inj1 b b' k (hβ _ _ h1) (hβ _ _ h2),
  fun r r' k c z c' z' g1 g2=>?_,fun b r k c z h1 h2=>h.inj3 b _ k c z (hβ _ _ h1) (hγ _ _ h2),h.nle,fun b k k' h1 h2=>h.fxb b k k' h1 (hβ _ _ h2),fun r x x' g1 g2=>?_⟩
 ·simp only [PS.t]
  cases hl:Bf s'.tmp t with
  | none=>exact .dead _
  | some d=>
   rcases eqT_ok h1 t d hl with hd | hd
   ·rw [hd]; exact .dead _
   have hv:=h.tmp t;rw [hd] at hv;have hm:=c1 _ (Fm hl);exact VR.unren (M:=M') (M':=M) hγ hβ hA (by simpa using hm) hv hbig
 ·have hl:Bf s'.box b=some (some cs):=by
   simp only [PS.b] at hb
   cases hl:Bf s'.box b with
   | none=>rw [hl] at hb; cases hb
   | some y=>rw [hl] at hb; simp only at hb; rw [hb]
  obtain ⟨cs0,d1,d2⟩:=eqB_ok' h3 b cs hl;obtain ⟨k,cur,e,a1,a2,a3,a4⟩:=h.box b _ d1;obtain ⟨d3,d4⟩:=eqC_ok d2;refine ⟨k,cur,e,by simp [M',hb,a1],a2,by omega,fun j d hd=>?_⟩;have hm:=c2 _ (Fm hl);simp only [List.all_eq_true] at hm;rcases d4 j d hd with d5 | d5
  ·rw [d5]; exact .dead _
  exact VR.unrenS (M:=M') (M':=M) hγ hβ hA (by simpa using hm d (List.mem_of_getElem? hd)) (a4 j (renS id (sgI l m) d) d5) hbig
 ·simp [M',hb]
 ·have g:=hsr r (e,q) hr;rcases h.row _ e q g with ⟨a1,a2⟩ | ⟨gg,cap,cur,a1,a2,a3,a4,a5,a6⟩
  ·exact .inl ⟨by simp [M',hr,a1],a2⟩
  exact .inr ⟨gg,cap,cur,by simp [M',hr,a1],a2,a3,a4,a5,fun i j d hi hd=>(a6 i j d hi hd).relem_any hd hA' hbig⟩
 ·simp [M',hr]
 ·have e1:(s'.r r).isSome=true:=by simp only [M'] at g1; split at g1; assumption; cases g1
  have e2:(s'.r r').isSome=true:=by simp only [M'] at g2; split at g2; assumption; cases g2
  exact inj r r' e1 e2 (h.inj2 _ _ _ _ _ _ _ (hγ _ _ g1) (hγ _ _ g2))
 obtain ⟨h5,h5'⟩:=C.O0.lor r x g1
 have hb:Nat.ble BIG r=false:=by
  cases hb:Nat.ble BIG r with
  | false=>rfl
  | true=>have:=Nat.le_of_ble_eq_true hb; omega
 have e1:(s'.r r).isSome=true:=by simp only [M'] at g2; split at g2; assumption; cases g2
 obtain ⟨y,hy⟩:=Option.isSome_iff_exists.1 e1;have h6:=c4 _ (Fm (hrow r y hb hy));simp only [Bool.or_eq_true,Nat.blt_eq] at h6;rcases h6 with h6 | h6
 ·omega
 have h7:=hγ _ _ g2;rw [Nat.eq_of_beq_eq_true h6] at h7
 exact h.fxr r x x' g1 h7⟩
theorem En.freeze {C:Cx} {tm:List (Nat×D)} {rw':List (Nat×Option (TypeId×Sq))} {bx:List (Nat×Option (List D))} {s':PS} (t:Nat) {r m:Nat} {e:TypeId} {q:Sq} (ht:(PS.t ⟨tm,rw',bx⟩ t)=.row r 0 m) (hr:(PS.r ⟨tm,rw',bx⟩ r)=some (e,q)) (hnf:nf ⟨(t,.ro true q)::(PS.kill ⟨tm,rw',bx⟩ r).tmp,(r,none)::rw',(PS.kill ⟨tm,rw',bx⟩ r).box⟩=some s') (hm:m=q.len) (hF:Fe r=true:=by rfl):En C ⟨tm,rw',bx⟩ s':=⟨fun M a w hrl=>by
 obtain ⟨M',h'⟩:=hrl.freeze ht hr hm hF;rw [nf_ok hnf]
 exact ⟨M',h'⟩⟩
end
section
open Go.RowKit Go.Deep
section
variable {C:Cx} {ops:Array Oper} {K:PS→Prop} {o:Oper} {rest:List Oper} {s s':PS} {TT:List (Nat×Ty)} {tm:List (Nat×D)} {rw':List (Nat×Option (TypeId×Sq))} {bx:List (Nat×Option (List D))} {cr B:List Nat} {j:Nat}
theorem sEmpty (hT:Ki C.P TT) {t e:TypeId} {k:Sq} {by' b:Nat} (hop:o.op=.buildSlice t 0 #[]) (hd:o.dst=some b) (hy:Bf TT t=some (.sl e k by')) (hn:Nat.blt b C.n=true) (h:K (s.put (some b) .nil)):Step C o s K:=⟨fun M a w Q K' hr hk=>by
 have hrun:(execOp a.eval o).run C.P w=.ok (.value (.slice (some ⟨w.heap.size,0,none⟩) 0 0)) (w.alloc (.cells #[] e)):=by
  have:=Lv (hT t _ hy) w 0 #[] #[] (by omega) (fun cells hc=>by
   have:cells=#[]:=by apply Array.eq_empty_of_size_eq_zero; simpa using hc
   subst this; rfl)
  unfold execOp;rw [hop];show ((do pure (Next.value (←Instr.buildSlice t 0 ((#[]:Array (Nat×Operand)).map fun (p:Nat×Operand)=>(p.1,a.eval p.2)))):Sem Next)).run C.P w=_;rw [show (#[]:Array (Nat×Operand)).map (fun (p:Nat×Operand)=>(p.1,a.eval p.2))=#[] from by simp,Sem.run_bind,this];rfl
 unfold Oper.wp;rw [hrun];have h1:Rel C.w0 C.O0 C.n M s a (w.alloc (.cells #[] e)):=hr.later rfl rfl rfl (by simp) fun k h1=>Below.heap_alloc w _ k h1
 exact hk M _ _ _ h (by rw [hd]; exact h1.put hn (.nil _))⟩
theorem klS_id {r:Nat} {d:D} (h:Cc noB (isR r) d=false) (hF:Fe r=true):klS r d=d:=by
 have hb:∀ x,isR r x=false→Nat.beq x r=false:=fun x hx=>by
  cases hh:Nat.beq x r with
  | false=>rfl
  | true=>rw [Nat.eq_of_beq_eq_true hh] at hx; simp [isR,Nat.beq_refl] at hx
 cases d <;> simp only [Cc] at h <;> try rfl
 ·simp [klS,hb _ h]
 ·simp [klS,hb _ h]
 ·cases h
 ·cases h
 ·simp only [klS,Cq hF]
 simp only [klS,Cq hF]
theorem klA_id {r:Nat} {d:D} (h:Ed noB (isR r) d=false) (hF:Fe r=true):klA r d=d:=by
 cases d with
 | agg l=>
  simp only [Ed,List.any_eq_false] at h;simp only [klA];congr 1
  conv=>rhs; rw [←List.map_id l]
  exact List.map_congr_left fun x hx=>klS_id (by simpa using h x hx) hF
 | _=>exact klS_id (by simpa only [Ed] using h) hF
theorem kl_id {r:Nat} {d:D} (h:Gm noB (isR r) d=false) (hF:Fe r=true):kl r d=d:=by
 cases d with
 | tup l=>
  simp only [Gm,List.any_eq_false] at h;simp only [kl];congr 1
  conv=>rhs; rw [←List.map_id l]
  exact List.map_congr_left fun x hx=>klA_id (by simpa using h x hx) hF
 | _=>exact klA_id (by simpa only [Gm] using h) hF
theorem sAppNil (hT:Ki C.P TT) {t e:TypeId} {k q2 q':Sq} {by' b:Nat} {x y:Operand} {f:Bool} (hop:o.op=.call { callee:=.builtin .append,args:=#[x,y],argTypes:=#[t,t] }) (hd:o.dst=some b) (hy:Bf TT t=some (.sl e k by'))
  (hx:s.ev x=.nil) (hk0:Nat.beq k.len 0=true) (hf:Fresh s noB (isR b)) (hyy:s.ev y=.ro f q2) (hs:∀ s,Rq s (.ro f q2)=some (True,q2)) (happ:k.app q2=some q') (hb:Nat.ble by' 32=true) (hn:Nat.blt b C.n=true)
  (hbd:q2.len≤4294967296) (h:K ((s.setR b (some (e,q'))).put (some b) (.row b 0 q'.len))):Step C o s K:=⟨fun M a w Q K' hrl hkk=>by
 have e1:=hrl.ev x;rw [hx] at e1;have hkl:=Nat.eq_of_beq_eq_true hk0;have hb1000:b<1000000:=by have h1000:=hrl.nle; rw [Nat.blt_eq] at hn; omega
 obtain ⟨ao1,hao1⟩:=e1.nil_inv;obtain ⟨M1,hr1,hv1'⟩:=hrl.nilRow (r:=b) (e:=e) (q:=k) hkl hf hb1000;have e2:=hr1.ev y;have hyy':(s.setR b (some (e,k))).ev y=.ro f q2:=by rw [←hyy]; cases y <;> rfl
 rw [hyy'] at e2;obtain ⟨news,hsrc⟩:=src_ok hr1 e2 (hs _) trivial;have hb':=Nat.le_of_ble_eq_true hb;have hbd':k.len+q2.len≤4294967296:=by omega
 obtain ⟨v',w',M',h1,h2,h3,_⟩:=Sc (P:=C.P) (ty:=o.type) hr1 (hT t _ hy) rfl (r:=b) (q:=k) (by rw [PS.r_setR _ _ _ _ (Dt hb1000),if_pos rfl]) (hv1' ao1) (Nat.zero_le _) hsrc (q':=q') (by rw [←hkl,Sq.take_len]; exact happ) (by rw [Nat.zero_add]; have:=Nat.mul_le_mul hbd hb'; omega) (by unfold maxLen; omega) hb1000;rw [←hao1] at h1;unfold Oper.wp;rw [run_app hop h1];refine hkk M' _ _ _ h ?_;rw [hd];have hl:=(Sq.app_ok happ).1;rw [hkl] at hl;rw [←hl] at h3;have h4:=h2.put (o:=some b) hn h3;refine h4.same (fun x=>?_) (fun r=>?_) (fun c=>?_)
 ·rw [PS.t_put,PS.t_put];split
  ·rfl
  have:(((s.setR b (some (e,k))).kill b).setR b (some (e,q'))).t x=kl b (s.t x):=PS.t_kill (s.setR b (some (e,k))) b x;rw [this,kl_id (hf.t x) (Dt hb1000)]; rfl
 ·rw [PS.r_put,PS.r_put,PS.r_setR _ _ _ _ (Dt hb1000),PS.r_setR _ _ _ _ (Dt hb1000)];split
  ·rfl
  rename_i hne;have:((s.setR b (some (e,k))).kill b).r r=(s.setR b (some (e,k))).r r:=rfl;rw [this,PS.r_setR _ _ _ _ (Dt hb1000),if_neg hne]
 rw [PS.b_put,PS.b_put];have:(((s.setR b (some (e,k))).kill b).setR b (some (e,q'))).b c=(s.b c).map fun cs=>cs.map (klS b):=PS.b_kill (s.setR b (some (e,k))) b c;rw [this];have hsb:(s.setR b (some (e,q'))).b c=s.b c:=rfl;rw [hsb]
 cases hc:s.b c with
 | none=>rfl
 | some cs=>
  simp only [Option.map_some];congr 1
  conv=>lhs; rw [←List.map_id cs]
  exact (List.map_congr_left fun d hd'=>klS_id (hf.b c cs hc d hd') (Dt hb1000)).symm⟩
theorem oStepW (hw:Wanted C ops o s) (h:Step C o s (VO C ops K rest)):VO C ops K (o::rest) s:=by
 rcases hw with hg | ⟨j,want,t,b,hg,hd,ht,hs,hb⟩
 ·exact vOp hg h
 exact vOpG hg hd ht hs hb h
theorem Cj (hT:Ki C.P TT) (hw:Wanted C ops o ⟨tm,rw',bx⟩) {t e:TypeId} {k:Sq} {by' b:Nat} (hop:o.op=.buildSlice t 0 #[]) (hd:o.dst=some b) (hy:Bf TT t=some (.sl e k by')) (hn:Nat.blt b C.n=true) (h:VO C ops K rest ⟨(b,.nil)::tm,rw',bx⟩):VO C ops K (o::rest) ⟨tm,rw',bx⟩:=
 oStepW hw (sEmpty hT hop hd hy hn h)
theorem nEmpty (hT:Ki C.P TT) (hw:Wanted C ops o ⟨tm,rw',bx⟩) {t e:TypeId} {k:Sq} {by' b:Nat} (hop:o.op=.buildSlice t 0 #[]) (hd:o.dst=some b) (hy:Bf TT t=some (.sl e k by')) (hn:Nat.blt b C.n=true)
  (hck:Lt ops cr B j ⟨.nil,[],[]⟩=true) (h:QN C ops cr B K (j+1) rest ⟨(b,.nil)::tm,rw',bx⟩):QN C ops cr B K j (o::rest) ⟨tm,rw',bx⟩:=
 Ts (e:=⟨.nil,[],[]⟩) hw hck (fun s1 hag=>sEmpty hT hop hd hy hn (by rw [hd]; rfl)) (by rw [hd]; exact h)
theorem oAppNil (hT:Ki C.P TT) (hw:Wanted C ops o ⟨tm,rw',bx⟩) {t e:TypeId} {k q2 q' q'':Sq} {by' b m':Nat} {x y:Operand} {f:Bool} (hop:o.op=.call { callee:=.builtin .append,args:=#[x,y],argTypes:=#[t,t] }) (hd:o.dst=some b) (hy:Bf TT t=some (.sl e k by'))
  (hx:(PS.ev ⟨tm,rw',bx⟩ x)=.nil) (hk0:Nat.beq k.len 0=true) (hf:frB ⟨tm,rw',bx⟩ noB (isR b)=true) (hyy:(PS.ev ⟨tm,rw',bx⟩ y)=.ro f q2) (hs:∀ s,Rq s (.ro f q2)=some (True,q2)) (happ:k.app q2=some q') (hb:Nat.ble by' 32=true) (hn:Nat.blt b C.n=true)
  (hq':fcQ q' some=some q'') (hm':lenK q' some=some m') (hbd:q2.len≤4294967296) (h:VO C ops K rest ⟨(b,.row b 0 m')::tm,(b,some (e,q''))::rw',bx⟩):VO C ops K (o::rest) ⟨tm,rw',bx⟩:=by
 rw [Rb] at hq';rw [Rt] at hm';cases hq';cases hm';exact oStepW hw (sAppNil hT hop hd hy hx hk0 (Ke hf) hyy hs happ hb hn hbd h)
theorem nAppNil (hT:Ki C.P TT) (hw:Wanted C ops o ⟨tm,rw',bx⟩) {t e:TypeId} {k q2 q' q'':Sq} {by' b m':Nat} {x y:Operand} {f:Bool} (hop:o.op=.call { callee:=.builtin .append,args:=#[x,y],argTypes:=#[t,t] }) (hd:o.dst=some b) (hy:Bf TT t=some (.sl e k by'))
  (hx:(PS.ev ⟨tm,rw',bx⟩ x)=.nil) (hk0:Nat.beq k.len 0=true) (hcr:cr.contains j=true) (hnm:nm ops j b=true) (hyy:(PS.ev ⟨tm,rw',bx⟩ y)=.ro f q2) (hs:∀ s,Rq s (.ro f q2)=some (True,q2)) (happ:k.app q2=some q') (hb:Nat.ble by' 32=true) (hn:Nat.blt b C.n=true)
  (hq':fcQ q' some=some q'') (hm':lenK q' some=some m') (hck:Lt ops cr B j ⟨.row b 0 m',[(b,some (e,q''))],[]⟩=true) (hbd:q2.len≤4294967296) (h:QN C ops cr B K (j+1) rest ⟨(b,.row b 0 m')::tm,(b,some (e,q''))::rw',bx⟩) (hF:Fe b=true:=by rfl):QN C ops cr B K j (o::rest) ⟨tm,rw',bx⟩:=by
 rw [Rb] at hq';rw [Rt] at hm';cases hq';cases hm';refine Ts (e:=⟨.row b 0 _,[(b,some (e,_))],[]⟩) hw hck (fun s1 hag=>?_) (by rw [hd,PS.ap_eq _ _ _ _ _ (Ps hF)]; exact h);have e1:=hag.ev x (by rw [hop]; simp [Op.operands,Call.operands]);have e2:=hag.ev y (by rw [hop]; simp [Op.operands,Call.operands]);exact sAppNil hT hop hd hy (e1.trans hx) hk0 (Lz (hag.fr hcr) (fun x hx=>by cases hx) (fun x hx=>by rw [←Nat.eq_of_beq_eq_true hx]; exact hnm)) (e2.trans hyy) hs happ hb hn hbd (by rw [hd,PS.ap_eq _ _ _ _ _ (Ps hF)]; rfl)
theorem Step.same (h:Step C o s (fun s'=>∃ s'',K s''∧(∀ x,s''.t x=s'.t x)∧(∀ r,s''.r r=s'.r r)∧∀ b,s''.b b=s'.b b)):Step C o s K:=⟨fun M a w Q K' hr hk=>
 h.out M a w Q K' hr fun M' s' a' w' ⟨s'',h1,h2,h3,h4⟩ hr'=>hk M' s'' a' w' h1 (hr'.same h2 h3 h4)⟩
theorem Step.weak {K2:PS→Prop} (h:Step C o s K2) (hk:∀ s',K2 s'→K s'):Step C o s K:=⟨fun M a w Q K' hr hK=>h.out M a w Q K' hr fun M' s' a' w' h1 hr'=>hK M' s' a' w' (hk s' h1) hr'⟩
theorem sAppMove (hT:Ki C.P TT) {t e:TypeId} {k q q2 q':Sq} {by' b r m:Nat} {x y:Operand} {dy:D} {ob:Prop} (hop:o.op=.call { callee:=.builtin .append,args:=#[x,y],argTypes:=#[t,t] }) (hd:o.dst=some b) (hy:Bf TT t=some (.sl e k by'))
  (hx:s.ev x=.row r 0 m) (hr:s.r r=some (e,q)) (hk:Nat.beq k.sz q.sz=true) (hyy:s.ev y=dy) (hs:Rq s dy=some (ob,q2)) (happ:q.app q2=some q') (hb:Nat.ble by' 32=true) (hn:Nat.blt b C.n=true) (hf:Fresh s noB (isR b)) (hbr:Nat.beq b r=false)
  (hm:m=q.len) (hob:ob) (hbd:q.len+q2.len≤4294967296) (hlo:Nat.ble r 999999=true):Step C o s (fun s'=>s'=s.ap (some b) ⟨.row b 0 q'.len,[(b,some (e,q')),(r,none)],[]⟩):=⟨fun M a w Q K' hrl hkk=>by
 have e1:=hrl.ev x;have e2:=hrl.ev y;rw [hx] at e1;rw [hyy] at e2;obtain ⟨news,hsrc⟩:=src_ok hrl e2 hs hob;subst hm;have hb':=Nat.le_of_ble_eq_true hb;have hne:b≠r:=fun e=>by subst e; rw [Nat.beq_refl] at hbr; cases hbr
 have hb1000:b<1000000:=by have h1000:=hrl.nle; rw [Nat.blt_eq] at hn; omega
 have hr1000:r<1000000:=by have:=Nat.le_of_ble_eq_true hlo; omega
 obtain ⟨v',w',M',h1,h2,h3,h4⟩:=Sc (P:=C.P) (ty:=o.type) hrl (hT t _ hy) (Nat.eq_of_beq_eq_true hk) hr e1 (Nat.le_refl _) hsrc (by rw [Sq.take_len]; exact happ) (by have:=Nat.mul_le_mul hbd hb'; omega) (by unfold maxLen; omega) hr1000;unfold Oper.wp;rw [run_app hop h1]
 let M2:Mp:=⟨M.β,fun y=>if y=b then M'.γ r else if y=r then none else M.γ y⟩
 have o1:∀ k,M2.owned k→M'.owned k:=by
  rintro k (⟨c,hc⟩ | ⟨y,c,z,hy'⟩)
  ·exact .inl ⟨c,by rw [h4.β]; exact hc⟩
  simp only [M2] at hy';split at hy'
  ·exact .inr ⟨r,c,z,hy'⟩
  split at hy'
  ·cases hy'
  rename_i _ hyr; exact .inr ⟨y,c,z,by rw [h4.γ y hyr]; exact hy'⟩
 have hA:∀ f k,k<w.heap.size→Ow (Fs C.w0 C.O0) M f k→Ow (Fs C.w0 C.O0) M2 f k∧k<w'.heap.size∧w'.heap[k]? = w.heap[k]?:=fun f k g1 g2=>by
  obtain ⟨g3,g4,g5⟩:=h4.old f k g1 g2;exact ⟨⟨fun ho=>g3.1 (o1 k ho),g3.2⟩,g4,g5⟩
 have hA':∀ f k,k<w'.heap.size→Ow (Fs C.w0 C.O0) M' f k→Ow (Fs C.w0 C.O0) M2 f k∧k<w'.heap.size∧w'.heap[k]? = w'.heap[k]?:=fun f k g1 g2=>⟨⟨fun ho=>g2.1 (o1 k ho),g2.2⟩,g1,rfl⟩
 have hγ:∀ y z,isR b y=false→M2.γ y=some z→M.γ y=some z:=fun y z g1 g2=>by
  simp only [M2] at g2;split at g2
  ·rename_i hyb; subst hyb; simp [isR,Nat.beq_refl] at g1
  split at g2
  ·cases g2
  exact g2
 have hrow:∀ y,y≠b→y≠r→M2.γ y=M.γ y:=fun y g1 g2=>by simp [M2,g1,g2]
 have hoth:∀ y c z k,y≠r→M.γ y=some (some (k,c,z))→w'.heap[k]? = w.heap[k]?:=fun y c z k g1 g2=>h4.oth k (.inr ⟨y,c,z,g2⟩) fun c' z' g3=>g1 (hrl.inj2 _ _ _ _ _ _ _ g2 g3)
 have hPS:∀ y,PS.r ⟨s.tmp,(b,some (e,q'))::(r,none)::s.row,s.box⟩ y=if b=y then some (e,q') else if r=y then none else s.r y:=fun y=>by
  have:=PS.r_setR (s.setR r none) b (some (e,q')) y (Dt hb1000);rw [PS.r_setR _ _ _ _ (Dt hr1000)] at this;exact this
 have hbg:∀ {y},BIG≤y→y≠b∧y≠r:=fun {y} hy=>by
  have h1:(1000000:Nat)<BIG:=by decide
  constructor <;> omega
 have hbig1:∀ y u,BIG≤y→M2.γ y=some u→M'.γ y=some u:=fun y u g1 g2=>by
  rw [hrow y (hbg g1).1 (hbg g1).2] at g2;rw [h4.γ y (hbg g1).2]; exact g2
 have hbig2:∀ y u,BIG≤y→M2.γ y=some u→M.γ y=some u:=fun y u g1 g2=>by
  rw [hrow y (hbg g1).1 (hbg g1).2] at g2; exact g2
 have hR:Rel C.w0 C.O0 C.n M2 ⟨s.tmp,(b,some (e,q'))::(r,none)::s.row,s.box⟩ a w':=by
  refine ⟨h2.fr,hrl.dfr,hrl.sz,fun x=>?_,fun c cs hc=>?_,fun c hc=>hrl.boxn c hc,fun y e' p hy'=>?_,fun y hy'=>?_,fun k hk'=>h2.low k (o1 k hk'),hrl.inj1,fun y y' k c z c' z' g1 g2=>?_,fun c y k c' z g1 g2=>?_,hrl.nle,hrl.fxb,fun y u u' g1 g2=>?_⟩
  ·exact VR.new (b:=noB) (r:=isR b) hA hγ (fun _ _ _ h=>h) (hf.t x) (hrl.tmp x) (hi:=fun _=>hbig2)
  ·obtain ⟨k,cur,e',g1,g2,g3,g4⟩:=hrl.box c cs hc;refine ⟨k,cur,e',g1,(h4.oth k (.inl ⟨c,g1⟩) fun c' z' g5=>hrl.inj3 _ _ _ _ _ g1 g5).trans g2,g3,fun i d hi=>?_⟩;have hm':=hf.b c cs hc d (List.mem_of_getElem? hi);exact VR.newS (b:=noB) (r:=isR b) hA hγ (fun _ _ _ h=>h) hm' (g4 i d hi) (hi:=fun _=>hbig2)
  ·rw [hPS] at hy';by_cases hyb:b=y
   ·subst hyb;rw [if_pos rfl] at hy';cases hy';have hM:M2.γ b=M'.γ r:=by simp [M2]
    rcases h2.row r e q' (by rw [PS.r_setR _ _ _ _ (Dt hr1000),if_pos rfl]) with ⟨g1,g2⟩ | ⟨g,cap,cur,g1,g2,g3,g4,g5,g6⟩
    ·exact .inl ⟨hM.trans g1,g2⟩
    exact .inr ⟨g,cap,cur,hM.trans g1,g2,g3,g4,g5,fun i j d hi hd'=>(g6 i j d hi hd').relem_any hd' hA' hbig1⟩
   rw [if_neg hyb] at hy';by_cases hyr:r=y
   ·rw [if_pos hyr] at hy'; cases hy'
   rw [if_neg hyr] at hy';rcases hrl.row y e' p hy' with ⟨g1,g2⟩ | ⟨g,cap,cur,g1,g2,g3,g4,g5,g6⟩
   ·exact .inl ⟨(hrow y (Ne.symm hyb) (Ne.symm hyr)).trans g1,g2⟩
   exact .inr ⟨g,cap,cur,(hrow y (Ne.symm hyb) (Ne.symm hyr)).trans g1,(hoth y _ _ g (Ne.symm hyr) g1).trans g2,g3,g4,g5,fun i j d hi hd'=>(g6 i j d hi hd').relem_any hd' hA hbig2⟩
  ·rw [hPS] at hy';by_cases hyb:b=y
   ·rw [if_pos hyb] at hy'; cases hy'
   rw [if_neg hyb] at hy';by_cases hyr:r=y
   ·simp [M2,hyr,Ne.symm hyb]
   rw [if_neg hyr] at hy';rw [hrow y (Ne.symm hyb) (Ne.symm hyr)]; exact hrl.rown y hy'
  ·have case:∀ y k c z,M2.γ y=some (some (k,c,z))→(y=b∧M'.γ r=some (some (k,c,z)))∨(y≠b∧y≠r∧M'.γ y=some (some (k,c,z))):=fun y k c z g=>by
    simp only [M2] at g;split at g
    ·exact .inl ⟨by assumption,g⟩
    split at g
    ·cases g
    rename_i h5 h6; exact .inr ⟨h5,h6,by rw [h4.γ y h6]; exact g⟩
   rcases case _ _ _ _ g1 with ⟨rfl,g3⟩ | ⟨g3,g4,g5⟩
   ·rcases case _ _ _ _ g2 with ⟨rfl,_⟩ | ⟨_,g7,g8⟩
    ·rfl
    exact absurd (h2.inj2 _ _ _ _ _ _ _ g3 g8).symm g7
   rcases case _ _ _ _ g2 with ⟨rfl,g6⟩ | ⟨_,_,g8⟩
   ·exact absurd (h2.inj2 _ _ _ _ _ _ _ g5 g6) g4
   exact h2.inj2 _ _ _ _ _ _ _ g5 g8
  ·have g1':M'.β c=some k:=by rw [h4.β]; exact g1
   simp only [M2] at g2;split at g2
   ·exact h2.inj3 _ _ _ _ _ g1' g2
   split at g2
   ·cases g2
   rename_i _ h6; exact h2.inj3 c y k c' z g1' (by rw [h4.γ y h6]; exact g2)
  have g3:=(C.O0.lor y u g1).1;rw [hrow y (by omega) (by omega)] at g2;exact hrl.fxr y u u' g1 g2
 refine hkk M2 _ _ _ O ?_;rw [hd,PS.ap_eq _ _ _ _ _ (rowsN_two (Dt hb1000) (Dt hr1000))];have hl:=(Sq.app_ok happ).1;rw [←hl] at h3
 have hv:VR M2 (Ow (Fs C.w0 C.O0) M2) w' (.row b 0 q'.len) v':=by
  cases h3 with
  | row _ _ _ _ g1 g2=>exact .row _ _ _ _ g1 fun x hx=>g2 x (by simpa [M2] using hx)
 exact hR.put (o:=some b) hn hv⟩
theorem nAppMove (hT:Ki C.P TT) (hw:Wanted C ops o ⟨tm,rw',bx⟩) {t e:TypeId} {k q q2 q' q'':Sq} {by' b r m m':Nat} {x y:Operand} {dy:D} {ob:Prop} (hop:o.op=.call { callee:=.builtin .append,args:=#[x,y],argTypes:=#[t,t] }) (hd:o.dst=some b) (hy:Bf TT t=some (.sl e k by'))
  (hx:(PS.ev ⟨tm,rw',bx⟩ x)=.row r 0 m) (hr:(PS.r ⟨tm,rw',bx⟩ r)=some (e,q)) (hk:Nat.beq k.sz q.sz=true) (hyy:(PS.ev ⟨tm,rw',bx⟩ y)=dy) (hs:Rq ⟨tm,rw',bx⟩ dy=some (ob,q2)) (happ:q.app q2=some q') (hb:Nat.ble by' 32=true) (hn:Nat.blt b C.n=true) (hcr:cr.contains j=true) (hnm:nm ops j b=true) (hbr:Nat.beq b r=false)
  (hlo:Nat.ble r 999999=true) (hq':fcQ q' some=some q'') (hm':lenK q' some=some m') (hvis:visB ops cr B j ⟨tm,rw',bx⟩ [x,y]=true) (hck:Lt ops cr B j ⟨.row b 0 m',[(b,some (e,q'')),(r,none)],[]⟩=true) (hm:m=q.len) (hob:ob) (hbd:q.len+q2.len≤4294967296)
  (h:QN C ops cr B K (j+1) rest ⟨(b,.row b 0 m')::tm,(b,some (e,q''))::(r,none)::rw',bx⟩) (hF:Fe b=true:=by rfl):QN C ops cr B K j (o::rest) ⟨tm,rw',bx⟩:=by
 rw [Rb] at hq';rw [Rt] at hm';cases hq';cases hm';have hFr:Fe r=true:=Dt (by have:=Nat.le_of_ble_eq_true hlo; omega);refine Ts (e:=⟨.row b 0 _,[(b,some (e,_)),(r,none)],[]⟩) hw hck (fun s1 hag=>?_) (by rw [hd,PS.ap_eq _ _ _ _ _ (rowsN_two hF hFr)]; exact h);have e1:=hag.ev x (by rw [hop]; simp [Op.operands,Call.operands]);have e2:=hag.ev y (by rw [hop]; simp [Op.operands,Call.operands]);have s1x:=hag.same hvis x (by simp);have s1y:=hag.same hvis y (by simp);rw [hx] at s1x;rw [hyy] at s1y;rw [hd];refine sAppMove hT hop hd hy (e1.trans hx) (by rw [s1x.row]; exact hr) hk (e2.trans hyy) ?_ happ hb hn (Lz (hag.fr hcr) (fun x hx=>by cases hx) (fun x hx=>by rw [←Nat.eq_of_beq_eq_true hx]; exact hnm)) hbr hm hob hbd hlo;cases dy <;> first | exact hs | (simp only [Rq,s1y.row] at hs ⊢; exact hs)
theorem nMCall (hw:Wanted C ops o ⟨tm,rw',bx⟩) {rk rids bk bids pids:List Nat} {f:FuncId} {args:Array Operand} {ts:Array TypeId} {ds:List D} {r0 r1:List (TypeId×Sq)} {b0 b1:List (List D)} {d:D} (hp:MCall C.P f ds rk bk r0 r1 b0 b1 d) (rids bids pids:List Nat) {er:List (Nat×Option (TypeId×Sq))} {eb:List (Nat×Option (List D))} {b:Nat}
  (hop:o.op=.call { callee:=.value (.func f),args:=args,argTypes:=ts }) (hd:o.dst=some b) (hn:Nat.blt b C.n=true) (hcr:cr.contains j=true)
  (hchk:mchk rk rids bk bids pids=true) (hown:(pids.all fun p=>He rids p || nm ops j p)=true) (hvr:(rids.all fun r=>!hidV ops cr B j r)=true) (hvb:(bids.all fun r=>!hidV ops cr B j r)=true)
  (her:nfR (asL pids r1++rids.map fun r=>(r,none))=some er) (heb:nfB (asL bids (b1.map fun cs=>cs.map (renS (sgm bk bids) (sgm rk pids))))=some eb) {d':D} (hd':fcD (ren (sgm bk bids) (sgm rk pids) d) some=some d') (hck:Lt ops cr B j ⟨d',er,eb⟩=true)
  (hr:Ff (PS.r ⟨tm,rw',bx⟩) rids r0) (hb:Ff (PS.b ⟨tm,rw',bx⟩) bids (b0.map fun cs=>cs.map (renS (sgm bk bids) (sgm rk rids)))) (hfit:fitsM rk rids bk bids ⟨tm,rw',bx⟩ args.toList ds) (h:QN C ops cr B K (j+1) rest ⟨(b,d')::tm,er++rw',eb++bx⟩) (hfa:Wy rids=false:=by rfl) (hF:Wh er=er:=by rfl):QN C ops cr B K j (o::rest) ⟨tm,rw',bx⟩:=by
 have her':=nfR_ok her;have heb':=nfB_ok heb;rw [Ho] at hd';cases hd';subst her' heb';refine Ts (e:=⟨ren (sgm bk bids) (sgm rk pids) d,_,_⟩) hw hck (fun s1 hag=>?_) (by rw [hd,PS.ap_eq _ _ _ _ _ hF]; exact h)
 have hpr:∀ {α:Type} {f g:Nat→Option α} {l:List Nat} {m:List α},(∀ x∈l,g x=f x)→Ff f l m→Ff g l m:=by
  intro α f g l
  induction l with
  | nil=>intro m _ h; cases m; trivial; exact h.elim
  | cons x l ih=>
   intro m hx h
   cases m with
   | nil=>exact h.elim
   | cons y m=>exact ⟨(hx x (by simp)).trans h.1,ih (fun z hz=>hx z (by simp [hz])) h.2⟩
 have hfm:∀ {xs:List Operand} {ds:List D},(∀ x∈xs,s1.ev x=PS.ev ⟨tm,rw',bx⟩ x)→fitsM rk rids bk bids ⟨tm,rw',bx⟩ xs ds→fitsM rk rids bk bids s1 xs ds:=by
  intro xs
  induction xs with
  | nil=>intro ds _ h; cases ds; trivial; exact h.elim
  | cons x l ih=>
   intro ds hx h
   cases ds with
   | nil=>exact h.elim
   | cons y m=>exact ⟨by rw [hx x (by simp)]; exact h.1,ih (fun z hz=>hx z (by simp [hz])) h.2⟩
 simp only [List.all_eq_true] at hvr hvb hown;rw [hd];refine Step.weak (sMCall (K:=fun s'=>s'=(s1.after rids pids r1 bids (b1.map fun cs=>cs.map (renS (sgm bk bids) (sgm rk pids)))).put (some b) (ren (sgm bk bids) (sgm rk pids) d)) hop hp (by rw [hd]; exact hn) hchk (by unfold rfB; rw [hfa]) ?_ (hpr (fun x hx=>hag.r x (by simpa using hvr x hx)) hr) (hpr (fun x hx=>hag.b x (by simpa using hvb x hx)) hb) (hfm (fun x hx=>hag.ev x (by rw [hop]; simp only [Op.operands,Call.operands]; exact Array.mem_append.2 (.inr (by simpa using hx)))) hfit) (by rw [hd])) fun s' hs'=>?_
 ·refine Lz (hag.fr hcr) (fun x hx=>by cases hx) fun x hx=>?_;unfold newP at hx;rw [hfa] at hx;split at hx
  ·cases hx
  cases hm:mp pids rids x with
  | none=>rw [hm] at hx; cases hx
  | some i=>
   rw [hm] at hx;have:=hown x (Ko hm).1;rcases Bool.or_eq_true_iff.1 this with h1 | h1
   ·exfalso;simp only [mchk,Bool.and_eq_true] at hchk;obtain ⟨⟨hchk,_⟩,_⟩:=hchk;obtain ⟨k,hk⟩:=Kj (l:=pids) (m:=rk) (by rw [←Nat.eq_of_beq_eq_true hchk.1.1.1.1.1.2]) (Ko hm).1;obtain ⟨r',g1,_,g3⟩:=fixB_ok hchk.2 (Nat.eq_of_beq_eq_true hchk.1.1.1.1.1.1) (Nat.eq_of_beq_eq_true hchk.1.1.1.1.1.2) hchk.1.1.1.2 hk;rw [hm] at g1;cases g1;rcases g3 with ⟨_,rfl⟩ | ⟨_,_,g4⟩
    ·simp [Nat.beq_refl] at hx
    rw [h1] at g4; cases g4
   exact h1
 rw [hs',PS.ap_eq _ _ _ _ _ hF];simp [PS.after,PS.put,List.append_assoc]
def updB (off:Nat):List D→Nat→List D→Option (List D)
 | cs,_,[]=>some cs
 | cs,k,d::l=>match d.one,Nat.blt (off+k) cs.length with | true,true=>updB off (cs.set (off+k) d) (k+1) l | _,_=>none
theorem updB_ok {b off:Nat}:∀ {l:List D} {cs cs':List D} {k:Nat} {s:PS},s.b b=some cs→updB off cs k l=some cs'→∃ (ob:Prop) (s':PS),ob∧wrL s (.ptr b off) k l=some (ob,s')∧(∀ x,s'.t x=s.t x)∧(∀ r,s'.r r=s.r r)∧∀ x,s'.b x=if b=x then some cs' else s.b x
 | [],cs,cs',k,s,hb,h=>by
  simp only [updB,Option.some.injEq] at h;subst h;refine ⟨True,s,Y,O,fun _=>O,fun _=>O,fun x=>?_⟩;split
  ·rename_i he; subst he; exact hb
  rfl
 | d::l,cs,cs',k,s,hb,h=>by
  simp only [updB] at h;split at h
  ·rename_i h1 h2;obtain ⟨ob,s',g1,g2,g3,g4,g5⟩:=updB_ok (s:=s.setB b (cs.set (off+k) d)) (b:=b) (by rw [PS.b_setB,if_pos rfl]) h;refine ⟨True∧ob,s',⟨Y,g1⟩,?_,g3,g4,fun x=>?_⟩
   ·simp only [wrL,wr,h1,hb,h2,g2]
   rw [g5 x,PS.b_setB];split <;> rfl
  cases h
theorem nStoreB (hT:Ki C.P TT) (hw:Wanted C ops o ⟨tm,rw',bx⟩) {t:TypeId} {p x:Operand} {y:Ty} {b off:Nat} {d:D} {cs cs1 cs':List D} (hop:o.op=.store t p x) (hd:o.dst=none) (hy:Bf TT t=some y) (hp:(PS.ev ⟨tm,rw',bx⟩ p)=.ptr b off) (hx:(fcD (PS.ev ⟨tm,rw',bx⟩ x) some)=some d) (hfl:d.flat=true) (hsz:Nat.beq d.cells.length (So y)=true)
  (hb:(PS.b ⟨tm,rw',bx⟩ b)=some cs) (hu:updB off cs 0 d.cells=some cs1) (hcs:fcL cs1 some=some cs') (hvis:visB ops cr B j ⟨tm,rw',bx⟩ [p]=true) (hck:Lt ops cr B j ⟨.tup [],[],[(b,some cs')]⟩=true)
  (h:QN C ops cr B K (j+1) rest ⟨tm,rw',(b,some cs')::bx⟩):QN C ops cr B K j (o::rest) ⟨tm,rw',bx⟩:=by
 rw [Ho] at hx;rw [Tm] at hcs;cases hx;cases hcs;refine Ts (e:=⟨.tup [],[],[(b,some _)]⟩) hw hck (fun s1 hag=>?_) (by rw [hd]; exact h);have e1:=hag.ev p (by rw [hop]; simp [Op.operands]);have e2:=hag.ev x (by rw [hop]; simp [Op.operands]);have s1p:=hag.same hvis p (by simp);rw [hp] at s1p;have hb1:s1.b b=some cs:=by rw [s1p.ptr]; exact hb
 obtain ⟨ob,s',g1,g2,g3,g4,g5⟩:=updB_ok (s:=s1) (off:=off) hb1 hu;refine Step.same (sStore hT hop hd hy (e1.trans hp) e2 hfl hsz g2 (by simp [Live,hb1]) g1 ⟨_,O,fun x=>?_,fun r=>?_,fun c=>?_⟩)
 ·rw [PS.t_ap,hd]; exact (g3 x).symm
 ·rw [PS.r_ap,g4]; rfl
 rw [PS.b_ap,g5];by_cases hc:b=c
 ·subst hc; simp [Ao]
 simp [Ap hc,hc];rfl
section
variable {M:Mp} {A:Bool→Nat→Prop} {w:World} {b clock:Nat} {es:Array MapEntry} {ob:Obj}
end
end
end
section
open Go.RowKit Go.Deep
section
variable {P:Program} {w0:World} {O0:Hd} {n:Nat} {M:Mp} {s s':PS} {a:Act} {w w':World}
end
section
variable {C:Cx} {ops:Array Oper} {K:PS→Prop} {o:Oper} {rest:List Oper} {s s':PS} {TT:List (Nat×Ty)} {tm:List (Nat×D)} {rw':List (Nat×Option (TypeId×Sq))} {bx:List (Nat×Option (List D))}
end
end
section
open Go.RowKit
def TT:List (Nat×Ty):=[(1,.sc .nilFunc),(3,.sc (.int .i64 0)),(4,.sc (.bool false)),(5,.sc (.int .u8 0)),(9,.sc (.string ByteArray.empty)),(22,.sl 5 (.bytes []) 1),(23,.sc .nilFunc),(24,.sl 42 (.pairs []) 16),(26,.st [(0,1),(1,1)] [.int .i64 0,.slice none 0 0]),(27,.sl 3 (.ints []) 8),(29,.sc .nilFunc),(30,.sc .nilFunc),(31,.sc .nilFunc),(32,.sc .nilFunc),(33,.sc .nilFunc),(35,.sc .nilFunc),(36,.sc .nilFunc),(37,.sc .nilFunc),(38,.sl 27 (.intss []) 24),(39,.sc .nilFunc),(40,.sc .nilFunc),(42,.st [(0,1),(1,1)] [.int .i64 0,.int .i64 0]),(44,.sc .nilFunc),(45,.sl 95 (.pairs []) 16),(47,.st [(0,2),(2,1)] [.int .i64 0,.slice none 0 0,.slice none 0 0]),(49,.st [(0,3),(3,1)] [.int .i64 0,.slice none 0 0,.slice none 0 0,.slice none 0 0]),(50,.sc .nilFunc),(52,.sc .nilFunc),(53,.sc .nilFunc),(54,.sc .nilFunc),(55,.sl 45 (.pairss []) 24),(57,.sc .nilFunc),(59,.sc .nilFunc),(61,.sc .nilFunc),(62,.sc .nilFunc),(64,.sc .nilFunc),(66,.sc .nilFunc),(67,.sc .nilFunc),(68,.sc .nilFunc),(69,.sc .nilFunc),(70,.sl 4 (.bools []) 1),(71,.sc .nilFunc),(72,.sc .nilFunc),(73,.sc .nilFunc),(74,.sc .nilFunc),(75,.sc .nilFunc),(76,.sc .nilFunc),(77,.sc .nilFunc),(78,.sc .nilFunc),(79,.sc .nilFunc),(80,.sc .nilFunc),(81,.sc .nilFunc),(83,.sc .nilFunc),(84,.sc .nilFunc),(85,.sc .nilFunc),(86,.sc .nilFunc),(87,.sc .nilFunc),(88,.sc .nilFunc),(89,.sc .nilFunc),(91,.sc .nilFunc),(92,.sc .nilFunc),(93,.sc .nilFunc),(95,.st [(0,1),(1,1)] [.int .i64 0,.int .i64 0]),(96,.sc .nilFunc),(97,.sc .nilFunc),(98,.sc .nilFunc),(99,.sc .nilFunc),(100,.sc .nilFunc),(101,.sc .nilFunc),(102,.sc .nilFunc),(103,.sc .nilFunc),(104,.sc .nilFunc),(105,.sc .nilFunc),(106,.sc .nilFunc),(107,.sc .nilFunc),(108,.sc .nilFunc),(109,.sc .nilFunc),(110,.sc .nilFunc),(112,.st [(0,1),(1,1),(2,1)] [.slice none 0 0,.int .i64 0,.int .i64 0]),(113,.sc .nilFunc),(114,.sc .nilFunc),(115,.sc .nilFunc),(116,.sc .nilFunc),(118,.sc .nilFunc),(119,.sc .nilFunc),(120,.sc .nilFunc),(121,.sc .nilFunc),(122,.sc .nilFunc),(123,.sc .nilFunc),(124,.sc .nilFunc),(125,.sc .nilFunc),(126,.sc .nilFunc),(127,.sc .nilFunc),(128,.sc .nilFunc),(129,.sc .nilFunc),(130,.sc .nilFunc),(131,.sc .nilFunc),(134,.sc .nilFunc),(135,.sc .nilFunc),(136,.sc .nilFunc),(137,.sc .nilFunc),(139,.sc .nilFunc),(140,.sc .nilFunc),(142,.sc .nilFunc),(144,.sc .nilFunc),(145,.sc .nilFunc),(146,.sc .nilFunc),(147,.sc .nilFunc),(148,.sc .nilFunc),(149,.sc .nilFunc),(150,.sc .nilFunc),(151,.sc .nilFunc),(152,.sc .nilFunc),(153,.sc .nilFunc),(154,.sc .nilFunc),(155,.sc .nilFunc),(156,.sc .nilFunc),(157,.sc .nilFunc),(158,.sc .nilFunc),(160,.sc .nilFunc),(161,.sc .nilFunc),(162,.sc .nilFunc),(164,.sc .nilFunc),(165,.sc .nilFunc),(166,.sc .nilFunc),(167,.sc .nilFunc),(168,.sc .nilFunc),(169,.sc .nilFunc),(172,.sc .nilFunc),(173,.sc .nilFunc),(175,.st [(0,1),(1,1),(2,1)] [.slice none 0 0,.slice none 0 0,.slice none 0 0]),(177,.sc .nilFunc),(178,.sc .nilFunc),(179,.sc .nilFunc),(180,.sc .nilFunc),(181,.sc .nilFunc),(182,.sc .nilFunc),(183,.sc .nilFunc),(184,.sc .nilFunc),(185,.sc .nilFunc),(186,.sc .nilFunc),(188,.sc .nilFunc),(189,.sc .nilFunc),(190,.sc .nilFunc),(191,.sc .nilFunc),(192,.sc .nilFunc),(193,.sc .nilFunc),(194,.mp),(195,.sc .nilFunc),(201,.sc .nilFunc),(204,.sc .nilFunc)]
theorem tt:Ki Tryz.prog TT:=tt_ok (by kernel_rfl)
theorem Aa {w0:World} {O0:Hd} {n:Nat} {ops:Array Oper} {K:PS→Prop} {o:Oper} {rest:List Oper} {tm:List (Nat×D)} {rw':List (Nat×Option (TypeId×Sq))} {bx:List (Nat×Option (List D))} {t:Nat} {d:D} (hh:(isV o.op,o.guard,o.dst,Nat.blt t n,evalF TT ⟨tm,rw',bx⟩ o.op)=(true,none,some t,true,some (True,d))) (h:VO ⟨Tryz.prog,w0,O0,n⟩ ops K rest ⟨(t,d)::tm,rw',bx⟩):VO ⟨Tryz.prog,w0,O0,n⟩ ops K (o::rest) ⟨tm,rw',bx⟩:=Ae tt hh trivial h
end
section
open Go.RowKit Go.Deep
def w64 (x:Int):Int:=IntKind.i64.wrap x
theorem w64_id {x:Int} (h1:-9223372036854775808≤x) (h2:x≤9223372036854775807):w64 x=x:=Pc ⟨h1,h2⟩
theorem arW_out {C:Cx} {o:Oper} {s:PS} {op:BinOp} {t u:TypeId} {x y:Operand} {a b r:Int} (hop:o.op=.binOp op t x y u) (hx:s.ev x=.int a) (hy:s.ev y=.int b) (hr:(op=.add∧r=w64 (a+b))∨(op=.sub∧r=w64 (a-b))∨(op=.mul∧r=w64 (a*b))):Pur C o s (.int r):=
 ⟨fun s1 hs M ac w hr'=>by
  have h1:=hr'.ev x;have h2:=hr'.ev y;rw [hs x (by rw [hop]; simp [Op.operands]),hx] at h1;rw [hs y (by rw [hop]; simp [Op.operands]),hy] at h2;have e1:=h1.int_inv;have e2:=h2.int_inv;rcases hr with ⟨rfl,rfl⟩ | ⟨rfl,rfl⟩ | ⟨rfl,rfl⟩
  ·refine ⟨_,?_,.int _⟩;simp only [execOp,hop,e1,e2]; simp [eqGuard,binOp,Op.intArith,go_sem] <;> rfl
  ·refine ⟨_,?_,.int _⟩;simp only [execOp,hop,e1,e2]; simp [eqGuard,binOp,Op.intArith,go_sem] <;> rfl
  refine ⟨_,?_,.int _⟩
  simp only [execOp,hop,e1,e2]; simp [eqGuard,binOp,Op.intArith,go_sem] <;> rfl⟩
theorem pAddW {C:Cx} {o:Oper} {s:PS} {t u:TypeId} {x y:Operand} {a b:Int} (hop:o.op=.binOp .add t x y u) (hx:s.ev x=.int a) (hy:s.ev y=.int b):Pur C o s (.int (w64 (a+b))):=arW_out hop hx hy (.inl ⟨rfl,rfl⟩)
theorem pSubW {C:Cx} {o:Oper} {s:PS} {t u:TypeId} {x y:Operand} {a b:Int} (hop:o.op=.binOp .sub t x y u) (hx:s.ev x=.int a) (hy:s.ev y=.int b):Pur C o s (.int (w64 (a-b))):=arW_out hop hx hy (.inr (.inl ⟨rfl,rfl⟩))
theorem pMulW {C:Cx} {o:Oper} {s:PS} {t u:TypeId} {x y:Operand} {a b:Int} (hop:o.op=.binOp .mul t x y u) (hx:s.ev x=.int a) (hy:s.ev y=.int b):Pur C o s (.int (w64 (a*b))):=arW_out hop hx hy (.inr (.inr ⟨rfl,rfl⟩))
end
section
open Go.RowKit
theorem Cd:EqP Tryz.prog 95:=by
 refine ⟨fun x y u v w=>?_,fun x y u v w=>?_,by kernel_rfl⟩
 all_goals
  cases hx:x==u
  all_goals
   cases hy:y==v;all_goals simp [go_sem,hx,hy]
theorem Lp:EqP Tryz.prog 42:=by
 refine ⟨fun x y u v w=>?_,fun x y u v w=>?_,by kernel_rfl⟩
 all_goals
  cases hx:x==u
  all_goals
   cases hy:y==v;all_goals simp [go_sem,hx,hy]
theorem bld {t:TypeId} {places:List (Nat×Nat)} {zs:List Value} (h1:(Tryz.prog.info? t).map (·.zero)=some (some (.agg zs.toArray)))
  (h2:(match Tryz.prog.underlying t with | some (.struct fs)=>fs.toList.mapM (fun f=>(Tryz.prog.info? f.type).map fun i=>(f.offset,i.size)) | _=>none)=some places):BuildOK Tryz.prog t places zs:=by
 obtain ⟨it,hit,hz⟩:=Option.map_eq_some_iff.1 h1;split at h2
 ·rename_i fs hu; exact ⟨it,fs,hit,hu,hz,h2⟩
 cases h2
theorem Eu:BuildOK Tryz.prog 26 [(0,1),(1,1)] [.int .i64 0,.slice none 0 0]:=bld (by kernel_rfl) (by kernel_rfl)
theorem Em:BuildOK Tryz.prog 47 [(0,2),(2,1)] [.int .i64 0,.slice none 0 0,.slice none 0 0]:=bld (by kernel_rfl) (by kernel_rfl)
theorem Db:BuildOK Tryz.prog 42 [(0,1),(1,1)] [.int .i64 0,.int .i64 0]:=bld (by kernel_rfl) (by kernel_rfl)
theorem Fz:BuildOK Tryz.prog 95 [(0,1),(1,1)] [.int .i64 0,.int .i64 0]:=bld (by kernel_rfl) (by kernel_rfl)
end
section
section
variable {α β:Type}
theorem Ci {x:Int} (h1:-9223372036854775808≤x) (h2:x≤9223372036854775807) (y:Option α):grd (Bg x) y=y:=Am ⟨h1,h2⟩ y
theorem grd_T [inst:Decidable True] (x:Option α):grd True x=x:=Am trivial x
theorem Av {p:Prop} [Decidable p] (h:p) (x y:α):cnd (decide p) x y=x:=by rw [decide_eq_true h]; rfl
theorem Au {p:Prop} [Decidable p] (h:¬ p) (x y:α):cnd (decide p) x y=y:=by rw [decide_eq_false h]; rfl
theorem cnd_eqt {a b:Int} (h:a=b) (x y:α):cnd (a==b) x y=x:=by simp [h]
theorem cnd_eqf {a b:Int} (h:¬ a=b) (x y:α):cnd (a==b) x y=y:=by rw [show (a==b)=false by simpa using h]; rfl
theorem Kl {a b:Int} (h:¬ a=b) (x y:α):cnd (a != b) x y=x:=by rw [show (a != b)=true by simpa using h]; rfl
theorem Ev {a b:Int} (h:a=b) (x y:α):cnd (a != b) x y=y:=by simp [h]
theorem Gy (b:Bool) (x y:α):cnd (!b) x y=cnd b y x:=by cases b <;> rfl
theorem Lx (a b:Bool) (x y:α):cnd a x (cnd b x y)=cnd (a || b) x y:=by cases a <;> rfl
theorem Yl (a b:Bool) (x y:α):cnd a (cnd b x y) y=cnd (a&&b) x y:=by cases a <;> rfl
theorem cnd_same (b:Bool) (x:α):cnd b x x=x:=by cases b <;> rfl
theorem Dd (b:Bool) (x y:α):cnd b (some x) (some y)=some (cnd b x y):=by cases b <;> rfl
theorem Jv (b:Bool):cnd b true false=b:=by cases b <;> rfl
theorem tk0 (l:List α):(l.take (0+l.length)).drop 0=l:=by simp
theorem pst:(∀ (n:Nat),((n:Int)).toNat=n)∧(∀ {α:Type} (l:List α),(l.take (0+l.length)).drop 0=l)∧(∀ {α:Type} {a:α} {u:List α},(a::u).length=u.length+1)∧(∀ {α:Type},([]:List α).length=0)∧(∀ {α:Type} {p:Prop} [Decidable p] (_:p) (x:Option α),grd p x=x)∧(∀ {α:Type} [Decidable True] (x:Option α),grd True x=x)∧(∀ {α:Type} {x:Int} (_:-9223372036854775808≤x) (_:x≤9223372036854775807) (y:Option α),grd (Bg x) y=y)∧(∀ {α:Type} {p:Prop} [Decidable p] (_:p) (x y:α),cnd (decide p) x y=x)∧(∀ {α:Type} {p:Prop} [Decidable p] (_:¬ p) (x y:α),cnd (decide p) x y=y)∧(∀ {α:Type} (x y:α),cnd true x y=x)∧(∀ {α:Type} (x y:α),cnd false x y=y)∧(∀ {α:Type} {β:Type} (a:α) (f:α→Option β),(some a).bind f=f a):=⟨Int.toNat_natCast,tk0,List.length_cons,List.length_nil,Am,grd_T,Ci,Av,Au,cnd_true,cnd_false,Option.bind_some⟩
theorem jn_def (k:α) (f:α→β):jn k f=f k:=rfl
end
theorem set_pair (l:List (Int×Int)) (i:Nat) (x y:Int) (h:i<l.length):(l.set i (x,(l.getD i (0,0)).2)).set i (((l.set i (x,(l.getD i (0,0)).2)).getD i (0,0)).1,y)=l.set i (x,y):=by
 rw [List.set_set];congr 2;simp [List.getD_eq_getElem?_getD,h]
end
section
variable {R σ:Type}
theorem srchA {F:Nat→Int→Option R} {len:Nat} {ok:Nat→Bool} {bad fin:Option R}
  (hs:∀ n i:Nat,i<len→(∀ j,j<i→ok j=true)→F (n+1) (i:Int)=cnd (ok i) (F n ((i+1:Nat):Int)) bad) (hf:∀ n:Nat,(∀ j,j<len→ok j=true)→F (n+1) (len:Int)=fin) :
  ∀ n i:Nat,i≤len→len<n+i→(∀ j,j<i→ok j=true)→F n (i:Int)=cnd ((List.range len).all ok) fin bad:=by
 intro n
 induction n with
 | zero=>intro i h1 h2; omega
 | succ n ih=>
  intro i h1 h2 h3;by_cases hi:i<len
  ·rw [hs n i hi h3]
   cases ho:ok i with
   | true=>
    exact ih (i+1) (by omega) (by omega) fun j hj=>by
     rcases Nat.lt_or_ge j i with h | h
     ·exact h3 j h
     rw [show j=i by omega]; exact ho
   | false=>
    have:(List.range len).all ok=false:=by
     rw [List.all_eq_false]; exact ⟨i,by simpa using hi,by simp [ho]⟩
    rw [this]; rfl
  obtain rfl:i=len:=by omega
  rw [hf n h3]
  have:(List.range i).all ok=true:=by
   rw [List.all_eq_true]; intro j hj; exact h3 j (by simpa using hj)
  rw [this]; rfl
theorem srch {F:Nat→Int→Option R} {N len:Nat} {ok:Nat→Bool} {bad fin:Option R} (hN:len<N)
  (hs:∀ n i:Nat,i<len→(∀ j,j<i→ok j=true)→F (n+1) (i:Int)=cnd (ok i) (F n ((i+1:Nat):Int)) bad) (hf:∀ n:Nat,(∀ j,j<len→ok j=true)→F (n+1) (len:Int)=fin) :
  F N (0:Int)=cnd ((List.range len).all ok) fin bad:=
 srchA hs hf N 0 (by omega) (by omega) (by omega)
theorem foldA {F:Nat→σ×Int→Option R} {len:Nat} {st:Nat→σ} {fin:Option R} (hs:∀ n i:Nat,i<len→F (n+1) (st i,(i:Int))=F n (st (i+1),((i+1:Nat):Int))) (hf:∀ n:Nat,F (n+1) (st len,(len:Int))=fin) :
  ∀ n i:Nat,i≤len→len<n+i→F n (st i,(i:Int))=fin:=by
 intro n
 induction n with
 | zero=>intro i h1 h2; omega
 | succ n ih=>
  intro i h1 h2;by_cases hi:i<len
  ·rw [hs n i hi]; exact ih (i+1) (by omega) (by omega)
  obtain rfl:i=len:=by omega
  exact hf n
theorem fold {F:Nat→σ×Int→Option R} {N len:Nat} {st:Nat→σ} {fin:Option R} (hN:len<N) (hs:∀ n i:Nat,i<len→F (n+1) (st i,(i:Int))=F n (st (i+1),((i+1:Nat):Int))) (hf:∀ n:Nat,F (n+1) (st len,(len:Int))=fin) :
  F N (st 0,(0:Int))=fin:=foldA hs hf N 0 (by omega) (by omega)
theorem cnd_congr {α:Type} {a b:Bool} (h:a=b) (x y:α):cnd a x y=cnd b x y:=by rw [h]
theorem Cz {α:Type} {a b:Bool} (h:a=!b) (x y:α):cnd a x y=cnd b y x:=by subst h; cases b <;> rfl
theorem Al (i:Nat):((i:Int)+1)=((i+1:Nat):Int):=rfl
theorem Ph (l:List Int) (x:Int):((List.range l.length).all fun i=>!(l.getD i 0==x))=!l.contains x:=by
 rw [Bool.eq_iff_iff,List.all_eq_true];simp only [List.mem_range,Bool.not_eq_true',beq_eq_false_iff_ne,List.contains_eq_mem,decide_eq_false_iff_not];constructor
 ·intro h hx;obtain ⟨i,hi,he⟩:=List.mem_iff_getElem.1 hx;exact h i hi (by simp [List.getD_eq_getElem?_getD,hi,he])
 intro h i hi he;exact h (List.mem_iff_getElem.2 ⟨i,hi,by simpa [List.getD_eq_getElem?_getD,hi] using he⟩)
end
section
open Go.RowKit
def Pg (N:Nat) (x_0:Int) (low_1:Int) (high_2:Int):Option (Bool):=
 cnd (decide (x_0≥low_1)) (
  some (decide (x_0≤high_2))) (
  some false)
theorem Ln (N:Nat) (x_0:Int) (low_1:Int) (high_2:Int) (r:Bool) (h:Pg N x_0 low_1 high_2=some r):PCall Tryz.prog 107 [.int x_0,.int low_1,.int high_2] [] (.bool r):=by
 unfold Pg at h;refine Ak (TT:=TT) tt Tryz.func107 O O Tryz.ntmps107 (congrArg Array.toList Tryz.results107) O O fun w0=>(Ah (Ab (Aa O (Af (Ah (Ab ?_))))));iterate 4 refine Aa O ?_
 refine Bi O O O (fun hb1=>?_) (fun hb1=>?_)
 ·replace h:=Ai hb1 h;iterate 3 refine Bj tt O O O O O hb1 O O O Y ?_
  refine Bd O O O O O hb1 O (Aa O (Af (Ay ?_)));show ∃ _,_;cases h;exact ⟨[],_,O,Y,O,.eq O,O⟩
 replace h:=Aj hb1 h;iterate 3 refine Qv O O O O hb1 O O ?_
 refine Az O O O O O hb1 O (Aa O (Af (Ay ?_)));show ∃ _,_;cases h;exact ⟨[],_,O,Y,O,.eq O,O⟩
def Gt (N:Nat) (x_0:Int) (lo_1:Int) (hi_2:Int):Option (Bool):=
 cnd (decide (x_0≥lo_1)) (
  some (decide (x_0≤hi_2))) (
  some false)
theorem Hq (N:Nat) (x_0:Int) (lo_1:Int) (hi_2:Int) (r:Bool) (h:Gt N x_0 lo_1 hi_2=some r):PCall Tryz.prog 85 [.int x_0,.int lo_1,.int hi_2] [] (.bool r):=by
 unfold Gt at h;refine Ak (TT:=TT) tt Tryz.func85 O O Tryz.ntmps85 (congrArg Array.toList Tryz.results85) O O fun w0=>(Ah (Ab (Aa O (Af (Ah (Ab ?_))))));iterate 4 refine Aa O ?_
 refine Bi O O O (fun hb1=>?_) (fun hb1=>?_)
 ·replace h:=Ai hb1 h;iterate 3 refine Bj tt O O O O O hb1 O O O Y ?_
  refine Bd O O O O O hb1 O (Aa O (Af (Ay ?_)));show ∃ _,_;cases h;exact ⟨[],_,O,Y,O,.eq O,O⟩
 replace h:=Aj hb1 h;iterate 3 refine Qv O O O O hb1 O O ?_
 refine Az O O O O O hb1 O (Aa O (Af (Ay ?_)));show ∃ _,_;cases h;exact ⟨[],_,O,Y,O,.eq O,O⟩
end
section
open Go.RowKit
def Ml (N:Nat) (a_0:Int×Int) (b_1:Int×Int):Option (Bool):=
 cnd (decide (a_0.1<b_1.1)) (
  some true) (
  cnd (a_0.1==b_1.1) (
   some (decide (a_0.2≤b_1.2))) (
   some false))
theorem Yv (N:Nat) (a_0:Int×Int) (b_1:Int×Int) (r:Bool) (h:Ml N a_0 b_1=some r):PCall Tryz.prog 106 [.agg [.int a_0.1,.int a_0.2],.agg [.int b_1.1,.int b_1.2]] [] (.bool r):=by
 unfold Ml at h;refine Ak (TT:=TT) tt Tryz.func106 O O Tryz.ntmps106 (congrArg Array.toList Tryz.results106) O O fun w0=>(Ah (Ab ?_));iterate 2 refine Lw O O O O O O O O O ?_
 refine Aa O (Af (Ah (Ab ?_)));iterate 6 refine Aa O ?_
 refine Bi O O O (fun hb1=>?_) (fun hb1=>?_)
 ·replace h:=Ai hb1 h;iterate 6 refine Fd O O O O hb1 O O ?_
  iterate 5 refine oNoU O O O O O ?_
  refine Fd O O O O hb1 O O (Bd O O O O O hb1 O (Aa O (Af (Ay ?_))));show ∃ _,_;cases h;exact ⟨[],_,O,Y,O,.eq O,O⟩
 replace h:=Aj hb1 h;iterate 6 refine Bj tt O O O O O hb1 O O O Y ?_
 refine Bi O O O (fun hb2=>?_) (fun hb2=>?_)
 ·replace h:=Ai hb2 h;iterate 5 refine Bj tt O O O O O hb2 O O O Y ?_
  refine oPickGT O O O O hb1 O O O O hb2 O (Az O O O O O hb1 O (Aa O (Af (Ay ?_))));show ∃ _,_;cases h;exact ⟨[],_,O,Y,O,.eq O,O⟩
 replace h:=Aj hb2 h;iterate 5 refine Qv O O O O hb2 O O ?_
 refine oPickGF O O O O hb1 O O O O hb2 O (Az O O O O O hb1 O (Aa O (Af (Ay ?_))));show ∃ _,_;cases h;exact ⟨[],_,O,Y,O,.eq O,O⟩
def Fg (N:Nat) (g_0:Grf) (k:Unit→Option (Bool)):Nat→Int→Option (Bool)
 | 0,_=>none
 | n+1,i8=>
  cnd (decide (i8<(g_0.bars.length:Int))) (
   grd (0≤i8∧i8<(g_0.bars.length:Int)) <|
   cnd (decide (((g_0.bars.getD ((i8).toNat) (0,0)).1)<(0:Int))) (
    some false) (
    cnd (decide (((g_0.bars.getD ((i8).toNat) (0,0)).1)≥((g_0.bars.getD ((i8).toNat) (0,0)).2))) (
     some false) (
     cnd (decide (((g_0.bars.getD ((i8).toNat) (0,0)).2)≥g_0.n)) (
      some false) (
      cnd (decide (i8 > (0:Int))) (
       grd (Bg (i8-(1:Int))) <|
       grd (0≤(i8-(1:Int))∧(i8-(1:Int))<(g_0.bars.length:Int)) <|
       (Ml N (g_0.bars.getD (((i8-(1:Int))).toNat) (0,0)) (g_0.bars.getD ((i8).toNat) (0,0))).bind fun v10=>
       cnd (!v10) (
        some false) (
        grd (Bg (i8+(1:Int))) <|
        Fg N g_0 k n (i8+(1:Int)))) (
       grd (Bg (i8+(1:Int))) <|
       Fg N g_0 k n (i8+(1:Int))))))) (
   k ())
def La (N:Nat) (g_0:Grf):Option (Bool):=
 (Pg N g_0.n (1:Int) (8:Int)).bind fun v1=>
 cnd (!v1) (
  some false) (
  cnd (decide ((g_0.bars.length:Int) > (24:Int))) (
   some false) (
   Fg N g_0 (fun (_ : Unit) =>
      some true) N (0:Int)))
theorem Rn (N:Nat) (g_0:Grf) (r:Bool) (h:La N g_0=some r):PCall Tryz.prog 64 [gD g_0] [] (.bool r):=by
 unfold La at h;refine Ak (TT:=TT) tt Tryz.func64 O O Tryz.ntmps64 (congrArg Array.toList Tryz.results64) O O fun w0=>(Ah (Ab (Lw O O O O O O O O O (Aa O (Af (Ah (Ah (Ab (Aa O ?_)))))))));refine Aa O ?_;obtain ⟨v1,hc1,h⟩:=Ad h;refine Bn (Ln N g_0.n (1:Int) (8:Int) v1 hc1) O O O O O O O O ⟨O,O,O,Y⟩ (Aa O (Aa O (Bi O O O (fun hb2=>?_) (fun hb2=>?_))))
 ·replace h:=Ai hb2 h;iterate 4 refine Fd O O O O hb2 O O ?_
  refine Bd O O O O O hb2 O (Af (Bo O O (Ah (Ab (Aa O (Af (Ay ?_)))))));show ∃ _,_;cases h;exact ⟨[],_,O,Y,O,.eq O,O⟩
 replace h:=Aj hb2 h;iterate 4 refine Bj tt O O O O O hb2 O O O Y ?_
 refine Az O O O O O hb2 O (Af (At O (fun hb3=>?_) (fun hb3=>?_)))
 ·replace h:=Ai hb3 h;refine Ah (Ab (Aa O (Af (Ay ?_))));show ∃ _,_;cases h;exact ⟨[],_,O,Y,O,.eq O,O⟩
 replace h:=Aj hb3 h;refine Ar (Ah (Ah (Ab (Aa O (Af (Cb (F:=fun k=>Fg N g_0 k) h (α:=Unit) (J:=fun (_:Unit)=>(⟨[],[],[]⟩:PS)) ?_ ?_))))))
 ·rintro ⟨⟩ h;show VC _ _ _ (⟨[],[],[]⟩:PS);refine Ah (Ab (Aa O (Af (Ay ?_))));show ∃ _,_;cases h;exact ⟨[],_,O,Y,O,.eq O,O⟩
 intro k h;refine Aq (Bh (α:=Int) (fun (i8:Int)=>(⟨[(1,.ptr 1 0),(3,.int i8)],[],[(1,some [.int g_0.n,.ro false (.pairs g_0.bars)])]⟩:PS)) (Fg N g_0 k) h (En.of ⟨O,O,Y⟩ trivial ⟨O,Y⟩) (fun _=>O) ?_);rintro n i8 h;rw [Fg] at h;show VC _ _ _ (⟨[(1,.ptr 1 0),(3,.int i8)],[],[(1,some [.int g_0.n,.ro false (.pairs g_0.bars)])]⟩:PS);refine Ah (Ah (Ab ?_));iterate 5 refine Aa O ?_
 refine Af (At O (fun hb4=>?_) (fun hb4=>?_))
 ·replace h:=Ai hb4 h;refine Ar (Ah (Aq (Ah (Ab (Aa O (Aa O (Aa O ?_)))))));obtain ⟨hg5,h⟩:=Ac h;refine Ae tt O hg5 (Aa O (Bq tt O O O O O O O O O (As tt O O O O O O O O O O O ⟨Y,Y,Y⟩ (Af (Ah (Bt (by kernel_rfl) (by kernel_rfl) ?_))))));iterate 4 refine Bb tt O (Ag O) O O O Y ?_
  refine Gg O O O (fun hb6=>?_) (fun hb6=>?_)
  ·replace h:=Ai hb6 h;iterate 5 refine Sy O O O O hb6 O O ?_
   refine Eh O (Ag O) O O O hb6 O (Bb tt O (Ag O) O O O Y ?_);iterate 5 refine Sy O O O O O O O ?_
   refine Eh O (Ag O) O O O O O (Bb tt O (Ag O) O O O Y ?_);iterate 3 refine Sy O O O O O O O ?_
   iterate 9 refine cNoU O O O O O ?_
   refine Sy O O O O O O O (Eh O (Ag O) O O O O O (Km (Bo O O (Ah (Ab (Aa O (Af (Ay ?_))))))));show ∃ _,_;cases h;exact ⟨[],_,O,Y,O,.eq O,O⟩
  replace h:=Aj hb6 h;iterate 5 refine Bb tt O (Aw O O O O hb6) O O O Y ?_
  refine Eo O (Ag O) O O O hb6 O (Bb tt O (Ag O) O O O Y (Gg O O O (fun hb7=>?_) (fun hb7=>?_)))
  ·replace h:=Ai hb7 h;iterate 5 refine Sy O O O O hb7 O O ?_
   refine Eh O (Ag O) O O O hb7 O (Bb tt O (Ag O) O O O Y ?_);iterate 3 refine Sy O O O O O O O ?_
   iterate 9 refine cNoU O O O O O ?_
   refine Sy O O O O O O O (Eh O (Ag O) O O O O O (Km (Bo O O (Ah (Ab (Aa O (Af (Ay ?_))))))));show ∃ _,_;cases h;exact ⟨[],_,O,Y,O,.eq O,O⟩
  replace h:=Aj hb7 h;iterate 5 refine Bb tt O (Aw O O O O hb7) O O O Y ?_
  refine Eo O (Ag O) O O O hb7 O (Bb tt O (Ag O) O O O Y (Gg O O O (fun hb8=>?_) (fun hb8=>?_)))
  ·replace h:=Ai hb8 h;iterate 3 refine Sy O O O O hb8 O O ?_
   iterate 9 refine cNoU O O O O O ?_
   refine Sy O O O O hb8 O O (Eh O (Ag O) O O O hb8 O (Km (Bo O O (Ah (Ab (Aa O (Af (Ay ?_))))))));show ∃ _,_;cases h;exact ⟨[],_,O,Y,O,.eq O,O⟩
  replace h:=Aj hb8 h;iterate 3 refine Bb tt O (Aw O O O O hb8) O O O Y ?_
  refine Gg O O O (fun hb9=>?_) (fun hb9=>?_)
  ·replace h:=Ai hb9 h;iterate 3 refine Bb tt O (Aw O O O O hb9) O O O Y ?_
   obtain ⟨hg10,h⟩:=Ac h;refine Bb tt O (Aw O O O O hb9) O O O hg10 ?_;obtain ⟨hg11,h⟩:=Ac h;refine Bb tt O (Aw O O O O hb9) O O O hg11 ?_;iterate 2 refine Bb tt O (Aw O O O O hb9) O O O Y ?_
   obtain ⟨v10,hc12,h⟩:=Ad h;refine Ta (Yv N (g_0.bars.getD (((i8-(1:Int))).toNat) (0,0)) (g_0.bars.getD ((i8).toNat) (0,0)) v10 hc12) O (Aw O O O O hb9) O O O O O O ⟨⟨O,O,Y⟩,⟨O,O,Y⟩,Y⟩ (Bb tt O (Aw O O O O hb9) O O O Y (Eh O (Aw O O O O hb8) O O O hb9 O (Eo O (Ag O) O O O hb8 O (Km (At O (fun hb13=>?_) (fun hb13=>?_))))))
   ·replace h:=Ai hb13 h;refine Ah (Ab (Aa O (Af (Ay ?_))));show ∃ _,_;cases h;exact ⟨[],_,O,Y,O,.eq O,O⟩
   replace h:=Aj hb13 h;refine Ar (Ab (Aa O ?_));obtain ⟨hg14,h⟩:=Ac h;refine Ae tt O hg14 (Aa O (Af ?_));show ∃ _,_;exact ⟨(i8+(1:Int)),(En.of ⟨O,O,Y⟩ trivial ⟨O,Y⟩),h⟩
  replace h:=Aj hb9 h;iterate 9 refine cNoT O O O O hb9 O O ?_
  refine Eo O (Aw O O O O hb8) O O O hb9 O (Eo O (Ag O) O O O hb8 O (Km (Gx O O (Ar (Ab (Aa O ?_))))));obtain ⟨hg15,h⟩:=Ac h;refine Ae tt O hg15 (Aa O (Af ?_));show ∃ _,_;exact ⟨(i8+(1:Int)),(En.of ⟨O,O,Y⟩ trivial ⟨O,Y⟩),h⟩
 replace h:=Aj hb4 h;refine Br ?_;show ∃ _,_;exact ⟨(),(En.of trivial trivial trivial),h⟩
end
section
open Go.RowKit
def Jr (N:Nat) (l_0:List Int) (x_1:Int) (k:Unit→Option (Bool)):Nat→Int→Option (Bool)
 | 0,_=>none
 | n+1,i3=>
  cnd (decide (i3<(l_0.length:Int))) (
   grd (0≤i3∧i3<(l_0.length:Int)) <|
   cnd ((l_0.getD ((i3).toNat) 0)==x_1) (
    some true) (
    grd (Bg (i3+(1:Int))) <|
    Jr N l_0 x_1 k n (i3+(1:Int)))) (
   k ())
def Pa (N:Nat) (l_0:List Int) (x_1:Int):Option (Bool):=
 Jr N l_0 x_1 (fun (_ : Unit) =>
    some false) N (0:Int)
theorem Te (N:Nat) (l_0:List Int) (x_1:Int) (r:Bool) (h:Pa N l_0 x_1=some r):PCall Tryz.prog 50 [.ro false (.ints l_0),.int x_1] [] (.bool r):=by
 unfold Pa at h;refine Ak (TT:=TT) tt Tryz.func50 O O Tryz.ntmps50 (congrArg Array.toList Tryz.results50) O O fun w0=>(Ah (Ab (Aa O (Af (Ah (Ah (Ab (Aa O (Af ?_)))))))));refine Cb (F:=fun k=>Jr N l_0 x_1 k) h (α:=Unit) (J:=fun (_:Unit)=>(⟨[],[],[]⟩:PS)) ?_ ?_
 ·rintro ⟨⟩ h;show VC _ _ _ (⟨[],[],[]⟩:PS);refine Ah (Ab (Aa O (Af (Ay ?_))));show ∃ _,_;cases h;exact ⟨[],_,O,Y,O,.eq O,O⟩
 intro k h;refine Aq (Bh (α:=Int) (fun (i3:Int)=>(⟨[(0,.ro false (.ints l_0)),(1,.int x_1),(5,.int i3)],[],[]⟩:PS)) (Jr N l_0 x_1 k) h (En.of ⟨O,O,O,Y⟩ trivial trivial) (fun _=>O) ?_);rintro n i3 h;rw [Jr] at h;show VC _ _ _ (⟨[(0,.ro false (.ints l_0)),(1,.int x_1),(5,.int i3)],[],[]⟩:PS);refine Ah (Ah (Ab ?_));iterate 4 refine Aa O ?_
 refine Af (At O (fun hb1=>?_) (fun hb1=>?_))
 ·replace h:=Ai hb1 h;refine Ar (Ah (Aq (Ah (Ab (Aa O (Aa O ?_))))));obtain ⟨hg2,h⟩:=Ac h;refine Ae tt O hg2 (Aa O (Aa O (Aa O (Af (At O (fun hb3=>?_) (fun hb3=>?_))))))
  ·replace h:=Ai hb3 h;refine Ah (Ab (Aa O (Af (Ay ?_))));show ∃ _,_;cases h;exact ⟨[],_,O,Y,O,.eq O,O⟩
  replace h:=Aj hb3 h;refine Ar (Ab (Aa O ?_));obtain ⟨hg4,h⟩:=Ac h;refine Ae tt O hg4 (Aa O (Af ?_));show ∃ _,_;exact ⟨(i3+(1:Int)),(En.of ⟨O,O,O,Y⟩ trivial trivial),h⟩
 replace h:=Aj hb1 h;refine Br ?_;show ∃ _,_;exact ⟨(),(En.of trivial trivial trivial),h⟩
end
section
open Go.RowKit
def Gd (N:Nat) (g_0:Grf) (v_1:Int):Option (Bool):=
 (Gt N v_1 (0:Int) (w64 (g_0.n-(1:Int)))).bind fun v1=>
 some v1
theorem Sp (N:Nat) (g_0:Grf) (v_1:Int) (r:Bool) (h:Gd N g_0 v_1=some r):PCall Tryz.prog 90 [gD g_0,.int v_1] [] (.bool r):=by
 unfold Gd at h;refine Ak (TT:=TT) tt Tryz.func90 O O Tryz.ntmps90 (congrArg Array.toList Tryz.results90) O O fun w0=>(Ah (Ab (Lw O O O O O O O O O (Aa O (Af (Ah (Ab (Aa O (Aa O ?_)))))))));refine Aa O (Gb (Ag O) (pSubW O O O) O O ?_);obtain ⟨v1,hc1,h⟩:=Ad h;refine Bn (Hq N v_1 (0:Int) (w64 (g_0.n-(1:Int))) v1 hc1) O O O O O O O O ⟨O,O,O,Y⟩ (Aa O (Af (Ay ?_)));show ∃ _,_;cases h;exact ⟨[],_,O,Y,O,.eq O,O⟩
def Gu (N:Nat) (a_0:Int) (b_1:Int):Option (Int):=
 cnd (decide (a_0<b_1)) (
  some (-1:Int)) (
  cnd (decide (a_0 > b_1)) (
   some (1:Int)) (
   some (0:Int)))
theorem Pr (N:Nat) (a_0:Int) (b_1:Int) (r:Int) (h:Gu N a_0 b_1=some r):PCall Tryz.prog 94 [.int a_0,.int b_1] [] (.int r):=by
 unfold Gu at h;refine Ak (TT:=TT) tt Tryz.func94 O O Tryz.ntmps94 (congrArg Array.toList Tryz.results94) O O fun w0=>(Ah (Ab (Aa O (Af (Ah (Aq (Ah (Ab ?_))))))));iterate 4 refine Aa O ?_
 refine Af (At O (fun hb1=>?_) (fun hb1=>?_))
 ·replace h:=Ai hb1 h;refine Ah (Ab (Aa O (Af (Ay ?_))));show ∃ _,_;cases h;exact ⟨[],_,O,Y,O,.eq O,O⟩
 replace h:=Aj hb1 h;refine Ah (Ab ?_);iterate 4 refine Aa O ?_
 refine Af (At O (fun hb2=>?_) (fun hb2=>?_))
 ·replace h:=Ai hb2 h;refine Ah (Ab (Aa O (Af (Ay ?_))));show ∃ _,_;cases h;exact ⟨[],_,O,Y,O,.eq O,O⟩
 replace h:=Aj hb2 h;refine Ar (Ah (Ab (Aa O (Af (Ay ?_)))));show ∃ _,_;cases h;exact ⟨[],_,O,Y,O,.eq O,O⟩
def Hw (N:Nat) (x_0:Int×Int) (y_1:Int×Int):Option (Int):=
 (Gu N x_0.1 y_1.1).bind fun v1=>
 cnd (v1 != (0:Int)) (
  some v1) (
  (Gu N x_0.2 y_1.2).bind fun v2=>
  some v2)
theorem Xh (N:Nat) (x_0:Int×Int) (y_1:Int×Int) (r:Int) (h:Hw N x_0 y_1=some r):PCall Tryz.prog 105 [.agg [.int x_0.1,.int x_0.2],.agg [.int y_1.1,.int y_1.2]] [] (.int r):=by
 unfold Hw at h;refine Ak (TT:=TT) tt Tryz.func105 O O Tryz.ntmps105 (congrArg Array.toList Tryz.results105) O O fun w0=>(Ah (Ab ?_));iterate 2 refine Lw O O O O O O O O O ?_
 refine Aa O (Af (Ah (Ah (Ab ?_))));iterate 4 refine Aa O ?_
 obtain ⟨v1,hc1,h⟩:=Ad h;refine Bn (Pr N x_0.1 y_1.1 v1 hc1) O O O O O O O O ⟨O,O,Y⟩ (Aa O (Af (Ah (Ab (Aa O (Aa O (Af (At O (fun hb2=>?_) (fun hb2=>?_)))))))))
 ·replace h:=Ai hb2 h;refine Ah (Ab (Aa O (Aa O (Af (Ay ?_)))));show ∃ _,_;cases h;exact ⟨[],_,O,Y,O,.eq O,O⟩
 replace h:=Aj hb2 h;refine Ar (Ah (Ab ?_));iterate 4 refine Aa O ?_
 obtain ⟨v2,hc3,h⟩:=Ad h;refine Bn (Pr N x_0.2 y_1.2 v2 hc3) O O O O O O O O ⟨O,O,Y⟩ (Aa O (Af (Ay ?_)));show ∃ _,_;cases h;exact ⟨[],_,O,Y,O,.eq O,O⟩
end
section
open Go.RowKit
def Fi (N:Nat) (g_0:Grf) (k:Unit→Option (Bool)):Nat→Int→Option (Bool)
 | 0,_=>none
 | n+1,x8=>
  cnd (decide (x8<(g_0.bars.length:Int))) (
   grd (0≤x8∧x8<(g_0.bars.length:Int)) <|
   cnd (decide (((g_0.bars.getD ((x8).toNat) (0,0)).1)<(0:Int))) (
    some false) (
    cnd (decide (((g_0.bars.getD ((x8).toNat) (0,0)).1)≥((g_0.bars.getD ((x8).toNat) (0,0)).2))) (
     some false) (
     cnd (decide (((g_0.bars.getD ((x8).toNat) (0,0)).2)≥g_0.n)) (
      some false) (
      cnd (decide (x8 > (0:Int))) (
       grd (Bg (x8-(1:Int))) <|
       grd (0≤(x8-(1:Int))∧(x8-(1:Int))<(g_0.bars.length:Int)) <|
       (Hw N (g_0.bars.getD (((x8-(1:Int))).toNat) (0,0)) (g_0.bars.getD ((x8).toNat) (0,0))).bind fun v10=>
       cnd (decide (v10 > (0:Int))) (
        some false) (
        grd (Bg (x8+(1:Int))) <|
        Fi N g_0 k n (x8+(1:Int)))) (
       grd (Bg (x8+(1:Int))) <|
       Fi N g_0 k n (x8+(1:Int))))))) (
   k ())
def Pm (N:Nat) (g_0:Grf):Option (Bool):=
 (Gt N g_0.n (1:Int) (8:Int)).bind fun v1=>
 cnd (!v1) (
  some false) (
  cnd (decide ((g_0.bars.length:Int) > (24:Int))) (
   some false) (
   Fi N g_0 (fun (_ : Unit) =>
      some true) N (0:Int)))
theorem I_IsGraph_w (N:Nat) (g_0:Grf) (r:Bool) (h:Pm N g_0=some r):PCall Tryz.prog 60 [gD g_0] [] (.bool r):=by
 unfold Pm at h;refine Ak (TT:=TT) tt Tryz.func60 O O Tryz.ntmps60 (congrArg Array.toList Tryz.results60) O O fun w0=>(Ah (Ab (Lw O O O O O O O O O (Aa O (Af (Ah (Ah (Ab (Aa O ?_)))))))));refine Aa O ?_;obtain ⟨v1,hc1,h⟩:=Ad h;refine Bn (Hq N g_0.n (1:Int) (8:Int) v1 hc1) O O O O O O O O ⟨O,O,O,Y⟩ (Aa O (Aa O (Bi O O O (fun hb2=>?_) (fun hb2=>?_))))
 ·replace h:=Ai hb2 h;iterate 4 refine Fd O O O O hb2 O O ?_
  refine Bd O O O O O hb2 O (Af (Bo O O (Ah (Ab (Aa O (Af (Ay ?_)))))));show ∃ _,_;cases h;exact ⟨[],_,O,Y,O,.eq O,O⟩
 replace h:=Aj hb2 h;iterate 4 refine Bj tt O O O O O hb2 O O O Y ?_
 refine Az O O O O O hb2 O (Af (At O (fun hb3=>?_) (fun hb3=>?_)))
 ·replace h:=Ai hb3 h;refine Ah (Ab (Aa O (Af (Ay ?_))));show ∃ _,_;cases h;exact ⟨[],_,O,Y,O,.eq O,O⟩
 replace h:=Aj hb3 h;refine Ar (Ah (Ah (Ab ?_)));iterate 4 refine Aa O ?_
 refine Af (Cb (F:=fun k=>Fi N g_0 k) h (α:=Unit) (J:=fun (_:Unit)=>(⟨[],[],[]⟩:PS)) ?_ ?_)
 ·rintro ⟨⟩ h;show VC _ _ _ (⟨[],[],[]⟩:PS);refine Ah (Ab (Aa O (Af (Ay ?_))));show ∃ _,_;cases h;exact ⟨[],_,O,Y,O,.eq O,O⟩
 intro k h;refine Aq (Bh (α:=Int) (fun (x8:Int)=>(⟨[(1,.ptr 1 0),(16,.ro false (.pairs g_0.bars)),(17,.int (g_0.bars.length:Int)),(18,.int x8)],[],[(1,some [.int g_0.n,.ro false (.pairs g_0.bars)])]⟩:PS)) (Fi N g_0 k) h (En.of ⟨O,O,O,O,Y⟩ trivial ⟨O,Y⟩) (fun _=>O) ?_);rintro n x8 h;rw [Fi] at h;show VC _ _ _ (⟨[(1,.ptr 1 0),(16,.ro false (.pairs g_0.bars)),(17,.int (g_0.bars.length:Int)),(18,.int x8)],[],[(1,some [.int g_0.n,.ro false (.pairs g_0.bars)])]⟩:PS);refine Ah (Ab (Aa O (Af (Ah (At O (fun hb4=>?_) (fun hb4=>?_))))))
 ·replace h:=Ai hb4 h;refine Ar (Ah (Aq (Ah (Ab (Aa O ?_)))));obtain ⟨hg5,h⟩:=Ac h;refine Ae tt O hg5 (Aa O (Bq tt O O O O O O O O O (Aa O (As tt O O O O O O O O O O O ⟨Y,Y,Y⟩ (Af (Ah (Bt (by kernel_rfl) (by kernel_rfl) ?_)))))));iterate 4 refine Bb tt O (Ag O) O O O Y ?_
  refine Gg O O O (fun hb6=>?_) (fun hb6=>?_)
  ·replace h:=Ai hb6 h;iterate 5 refine Sy O O O O hb6 O O ?_
   refine Eh O (Ag O) O O O hb6 O (Bb tt O (Ag O) O O O Y ?_);iterate 5 refine Sy O O O O O O O ?_
   refine Eh O (Ag O) O O O O O (Bb tt O (Ag O) O O O Y ?_);iterate 3 refine Sy O O O O O O O ?_
   iterate 9 refine cNoU O O O O O ?_
   refine Sy O O O O O O O (Eh O (Ag O) O O O O O (Km (Bo O O (Ah (Ab (Aa O (Af (Ay ?_))))))));show ∃ _,_;cases h;exact ⟨[],_,O,Y,O,.eq O,O⟩
  replace h:=Aj hb6 h;iterate 5 refine Bb tt O (Aw O O O O hb6) O O O Y ?_
  refine Eo O (Ag O) O O O hb6 O (Bb tt O (Ag O) O O O Y (Gg O O O (fun hb7=>?_) (fun hb7=>?_)))
  ·replace h:=Ai hb7 h;iterate 5 refine Sy O O O O hb7 O O ?_
   refine Eh O (Ag O) O O O hb7 O (Bb tt O (Ag O) O O O Y ?_);iterate 3 refine Sy O O O O O O O ?_
   iterate 9 refine cNoU O O O O O ?_
   refine Sy O O O O O O O (Eh O (Ag O) O O O O O (Km (Bo O O (Ah (Ab (Aa O (Af (Ay ?_))))))));show ∃ _,_;cases h;exact ⟨[],_,O,Y,O,.eq O,O⟩
  replace h:=Aj hb7 h;iterate 5 refine Bb tt O (Aw O O O O hb7) O O O Y ?_
  refine Eo O (Ag O) O O O hb7 O (Bb tt O (Ag O) O O O Y (Gg O O O (fun hb8=>?_) (fun hb8=>?_)))
  ·replace h:=Ai hb8 h;iterate 3 refine Sy O O O O hb8 O O ?_
   iterate 9 refine cNoU O O O O O ?_
   refine Sy O O O O hb8 O O (Eh O (Ag O) O O O hb8 O (Km (Bo O O (Ah (Ab (Aa O (Af (Ay ?_))))))));show ∃ _,_;cases h;exact ⟨[],_,O,Y,O,.eq O,O⟩
  replace h:=Aj hb8 h;iterate 3 refine Bb tt O (Aw O O O O hb8) O O O Y ?_
  refine Gg O O O (fun hb9=>?_) (fun hb9=>?_)
  ·replace h:=Ai hb9 h;iterate 3 refine Bb tt O (Aw O O O O hb9) O O O Y ?_
   obtain ⟨hg10,h⟩:=Ac h;refine Bb tt O (Aw O O O O hb9) O O O hg10 ?_;obtain ⟨hg11,h⟩:=Ac h;refine Bb tt O (Aw O O O O hb9) O O O hg11 ?_;iterate 2 refine Bb tt O (Aw O O O O hb9) O O O Y ?_
   obtain ⟨v10,hc12,h⟩:=Ad h;refine Ta (Xh N (g_0.bars.getD (((x8-(1:Int))).toNat) (0,0)) (g_0.bars.getD ((x8).toNat) (0,0)) v10 hc12) O (Aw O O O O hb9) O O O O O O ⟨⟨O,O,Y⟩,⟨O,O,Y⟩,Y⟩ (Bb tt O (Aw O O O O hb9) O O O Y (Eh O (Aw O O O O hb8) O O O hb9 O (Eo O (Ag O) O O O hb8 O (Km (At O (fun hb13=>?_) (fun hb13=>?_))))))
   ·replace h:=Ai hb13 h;refine Ah (Ab (Aa O (Af (Ay ?_))));show ∃ _,_;cases h;exact ⟨[],_,O,Y,O,.eq O,O⟩
   replace h:=Aj hb13 h;refine Ar (Ab ?_);obtain ⟨hg14,h⟩:=Ac h;refine Ae tt O hg14 (Aa O (Af ?_));show ∃ _,_;exact ⟨(x8+(1:Int)),(En.of ⟨O,O,O,O,Y⟩ trivial ⟨O,Y⟩),h⟩
  replace h:=Aj hb9 h;iterate 9 refine cNoT O O O O hb9 O O ?_
  refine Eo O (Aw O O O O hb8) O O O hb9 O (Eo O (Ag O) O O O hb8 O (Km (Gx O O (Ar (Ab ?_)))));obtain ⟨hg15,h⟩:=Ac h;refine Ae tt O hg15 (Aa O (Af ?_));show ∃ _,_;exact ⟨(x8+(1:Int)),(En.of ⟨O,O,O,O,Y⟩ trivial ⟨O,Y⟩),h⟩
 replace h:=Aj hb4 h;refine Br ?_;show ∃ _,_;exact ⟨(),(En.of trivial trivial trivial),h⟩
end
section
open Go.RowKit
end
section
open Go.RowKit
end
section
open Go.RowKit
def Ew (N:Nat) (s_0:List Int) (v_1:Int) (k:Unit→Option (Int)):Nat→Int→Option (Int)
 | 0,_=>none
 | n+1,x3=>
  cnd (decide (x3<(s_0.length:Int))) (
   grd (0≤x3∧x3<(s_0.length:Int)) <|
   cnd (v_1==(s_0.getD ((x3).toNat) 0)) (
    some x3) (
    grd (Bg (x3+(1:Int))) <|
    Ew N s_0 v_1 k n (x3+(1:Int)))) (
   k ())
def Mu (N:Nat) (s_0:List Int) (v_1:Int):Option (Int):=
 Ew N s_0 v_1 (fun (_ : Unit) =>
    some (-1:Int)) N (0:Int)
theorem G_Index_int_w (N:Nat) (s_0:List Int) (v_1:Int) (r:Int) (h:Mu N s_0 v_1=some r):PCall Tryz.prog 117 [.ro false (.ints s_0),.int v_1] [] (.int r):=by
 unfold Mu at h;refine Ak (TT:=TT) tt Tryz.func117 O O Tryz.ntmps117 (congrArg Array.toList Tryz.results117) O O fun w0=>(Ah (Ab (Aa O (Af (Ah (Ah (Ab (Aa O (Aa O ?_)))))))));refine Aa O (Af (Cb (F:=fun k=>Ew N s_0 v_1 k) h (α:=Unit) (J:=fun (_:Unit)=>(⟨[],[],[]⟩:PS)) ?_ ?_))
 ·rintro ⟨⟩ h;show VC _ _ _ (⟨[],[],[]⟩:PS);refine Ah (Ab (Aa O (Af (Ay ?_))));show ∃ _,_;cases h;exact ⟨[],_,O,Y,O,.eq O,O⟩
 intro k h;refine Aq (Bh (α:=Int) (fun (x3:Int)=>(⟨[(0,.ro false (.ints s_0)),(1,.int v_1),(7,.int (s_0.length:Int)),(8,.int x3)],[],[]⟩:PS)) (Ew N s_0 v_1 k) h (En.of ⟨O,O,O,O,Y⟩ trivial trivial) (fun _=>O) ?_);rintro n x3 h;rw [Ew] at h;show VC _ _ _ (⟨[(0,.ro false (.ints s_0)),(1,.int v_1),(7,.int (s_0.length:Int)),(8,.int x3)],[],[]⟩:PS);refine Ah (Ab (Aa O (Af (Ah (At O (fun hb1=>?_) (fun hb1=>?_))))))
 ·replace h:=Ai hb1 h;refine Ar (Ah (Aq (Ah (Ab (Aa O (Aa O (Af (Ah (Ab ?_)))))))));refine Aa O (Aa O (Aa O ?_));obtain ⟨hg2,h⟩:=Ac h;refine Ae tt O hg2 (Aa O (Aa O (Af (At O (fun hb3=>?_) (fun hb3=>?_)))))
  ·replace h:=Ai hb3 h;refine Ah (Ab (Aa O (Aa O (Af (Ay ?_)))));show ∃ _,_;cases h;exact ⟨[],_,O,Y,O,.eq O,O⟩
  replace h:=Aj hb3 h;refine Ar (Ab ?_);obtain ⟨hg4,h⟩:=Ac h;refine Ae tt O hg4 (Aa O (Af ?_));show ∃ _,_;exact ⟨(x3+(1:Int)),(En.of ⟨O,O,O,O,Y⟩ trivial trivial),h⟩
 replace h:=Aj hb1 h;refine Br ?_;show ∃ _,_;exact ⟨(),(En.of trivial trivial trivial),h⟩
end
section
open Go.RowKit
def Dy (N:Nat) (s_0:List Int) (v_1:Int):Option (Bool):=
 (Mu N s_0 v_1).bind fun v1=>
 some (decide (v1≥(0:Int)))
theorem Kg (N:Nat) (s_0:List Int) (v_1:Int) (r:Bool) (h:Dy N s_0 v_1=some r):PCall Tryz.prog 79 [.ro false (.ints s_0),.int v_1] [] (.bool r):=by
 unfold Dy at h;refine Ak (TT:=TT) tt Tryz.func79 O O Tryz.ntmps79 (congrArg Array.toList Tryz.results79) O O fun w0=>(Ah (Ab (Aa O (Af (Ah (Ab (Aa O (Aa O ?_))))))));obtain ⟨v1,hc1,h⟩:=Ad h;refine Bn (G_Index_int_w N s_0 v_1 v1 hc1) O O O O O O O O ⟨O,O,Y⟩ (Aa O (Aa O (Af (Ay ?_))));show ∃ _,_;cases h;exact ⟨[],_,O,Y,O,.eq O,O⟩
end
section
variable (N:Nat)
theorem Yk (x lo hi:Int):Pg N x lo hi=some (inB x lo hi):=by
 unfold Pg inB;rw [Dd];show some (cnd (decide (lo≤x)) _ _)=_;cases decide (lo≤x) <;> rfl
theorem Lo (x lo hi:Int):Gt N x lo hi=some (inB x lo hi):=by
 unfold Gt inB;rw [Dd];show some (cnd (decide (lo≤x)) _ _)=_;cases decide (lo≤x) <;> rfl
theorem l2Has_s (hN:4000000≤N) {l:List Int} (hl:l.length≤3000000) (x:Int):Pa N l x=some (l.contains x):=by
 unfold Pa;refine (srch (len:=l.length) (ok:=fun i=>!(l.getD i 0==x)) (bad:=some true) (fin:=some false) (by omega) ?_ ?_).trans ?_
 ·intro n i hi _;rw [Jr];simp (disch:=omega) only [pst,Gy,Al]
 ·intro n _;rw [Jr];simp (disch:=omega) only [pst]
 rw [Ph,Dd]; cases l.contains x <;> rfl
theorem indexInt_l (hN:4000000≤N) {l:List Int} (hl:l.length≤3000000) (x:Int):∀ n i:Nat,i≤l.length→l.length<n+i→∃ r:Int,Ew N l x (fun _=>some (-1)) n (i:Int)=some r∧(decide (r≥0)=(l.drop i).contains x):=by
 intro n
 induction n with
 | zero=>intro i h1 h2; omega
 | succ n ih=>
  intro i h1 h2;rw [Ew];by_cases hi:i<l.length
  ·simp (disch:=omega) only [pst];rw [List.drop_eq_getElem_cons hi,List.contains_cons];have e:l.getD i 0=l[i]:=by simp [List.getD_eq_getElem?_getD,hi]
   rw [e]
   cases h:x==l[i] with
   | true=>exact ⟨i,rfl,by simp⟩
   | false=>
    obtain ⟨r,h1,h2⟩:=ih (i+1) (by omega) (by omega);exact ⟨r,h1,by rw [h2]; rfl⟩
  simp (disch:=omega) only [pst];exact ⟨-1,O,by rw [List.drop_eq_nil_of_le (by omega)]; rfl⟩
theorem Vy (hN:4000000≤N) {l:List Int} (hl:l.length≤3000000) (x:Int):Dy N l x=some (l.contains x):=by
 unfold Dy Mu;obtain ⟨r,h1,h2⟩:=indexInt_l N hN hl x N 0 (by omega) (by omega);rw [show (0:Int)=((0:Nat):Int) from rfl,h1];show some (decide (r≥0))=_;rw [h2]; rfl
theorem Tf (a b:Int×Int):Ml N a b=some (Rf a b):=by
 unfold Ml Rf;simp only [Dd];cases decide (a.1<b.1) <;> cases a.1==b.1 <;> rfl
theorem compareInts_s (a b:Int):Gu N a b=some (cmpI a b):=by
 unfold Gu cmpI;by_cases h:a<b
 ·simp (disch:=omega) only [pst,if_pos h]
 by_cases h':b<a
 ·simp (disch:=omega) only [pst,if_neg h,if_pos h',gt_iff_lt]
 simp (disch:=omega) only [pst,if_neg h,if_neg h',gt_iff_lt]
theorem Sz (a b:Int×Int):Hw N a b=some (cmpBar a b):=by
 unfold Hw cmpBar;simp only [compareInts_s,Option.bind_some];by_cases h:cmpI a.1 b.1=0
 ·rw [if_pos h,Ev h]
 rw [if_neg h,Kl h]
theorem cmpBar_gt (a b:Int×Int):decide (cmpBar a b > 0)=!Rf a b:=by
 have:=cmpBar_pos a b
 cases h:Rf a b with
 | true=>rw [h] at this; simp at this; simp; omega
 | false=>rw [h] at this; simp at this; simp; omega
theorem Tz (hN:4000000≤N) {g:Grf}:La N g=some (Ju g):=by
 unfold La Ju;rw [Yk,Option.bind_some,Gy]
 cases h1:inB g.n 1 8 with
 | false=>rfl
 | true=>
  by_cases h2:g.bars.length≤24
  ·simp (disch:=omega) only [pst];refine (srch (len:=g.bars.length) (ok:=barAt g.n g.bars) (bad:=some false) (fin:=some true) (by omega) ?_ ?_).trans ?_
   ·intro n i hi _;rw [Fg];by_cases h0:i=0
    ·subst h0;simp (disch:=omega) only [pst,Tf,Lx,Yl,Al];refine Cz ?_ _ _;simp only [barAt,Zz];rw [Bool.eq_iff_iff]; simp; omega
    simp (disch:=omega) only [pst,Tf,Lx,Yl,Al,show ((i:Int)-1).toNat=i-1 from by omega];refine Cz ?_ _ _;simp only [barAt,Zz,decide_eq_false h0,Bool.false_or];cases Rf (g.bars.getD (i-1) (0,0)) (g.bars.getD i (0,0)) <;> (rw [Bool.eq_iff_iff]; simp; try omega)
   ·intro n _;rw [Fg];simp (disch:=omega) only [pst]
   rw [Dd,Jv]; simp [h2]
  simp (disch:=omega) only [pst];simp [h2]
theorem isGraphI_s (hN:4000000≤N) {g:Grf}:Pm N g=some (Ju g):=by
 unfold Pm Ju;rw [Lo,Option.bind_some,Gy]
 cases h1:inB g.n 1 8 with
 | false=>rfl
 | true=>
  by_cases h2:g.bars.length≤24
  ·simp (disch:=omega) only [pst];refine (srch (len:=g.bars.length) (ok:=barAt g.n g.bars) (bad:=some false) (fin:=some true) (by omega) ?_ ?_).trans ?_
   ·intro n i hi _;rw [Fi];by_cases h0:i=0
    ·subst h0;simp (disch:=omega) only [pst,Sz,cmpBar_gt,Lx,Yl,Al];refine Cz ?_ _ _;simp only [barAt,Zz];rw [Bool.eq_iff_iff]; simp; omega
    simp (disch:=omega) only [pst,Sz,cmpBar_gt,Lx,Yl,Al,show ((i:Int)-1).toNat=i-1 from by omega];refine Cz ?_ _ _;simp only [barAt,Zz,decide_eq_false h0,Bool.false_or];cases Rf (g.bars.getD (i-1) (0,0)) (g.bars.getD i (0,0)) <;> (rw [Bool.eq_iff_iff]; simp; try omega)
   ·intro n _;rw [Fi];simp (disch:=omega) only [pst]
   rw [Dd,Jv]; simp [h2]
  simp (disch:=omega) only [pst];simp [h2]
end
section
variable (N:Nat)
theorem Pw (a b:Int×Int):((a.1==b.1)&&(a.2==b.2))=(a==b):=by
 obtain ⟨x,y⟩:=a; obtain ⟨u,v⟩:=b; rfl
theorem ghasW_s (g:Grf) (x:Int):Gd N g x=some (inB x 0 (w64 (g.n-1))):=by
 unfold Gd;simp (disch:=omega) only [pst,Lo]
theorem ghas_s {g:Grf} (h:0≤g.n) (h':g.n≤1048576) (x:Int):Gd N g x=some (inB x 0 (g.n-1)):=by
 unfold Gd;rw [w64_id (by omega) (by omega)];simp (disch:=omega) only [pst,Lo]
end
section
variable (N:Nat)
def Ex (ground:List Int) (n:Nat):List Int:=((List.range n).map Int.ofNat).filter fun i=>!ground.contains i
theorem Hp (g:List Int) (n:Nat):Ex g (n+1)=cnd (g.contains (n:Int)) (Ex g n) (Ex g n++[(n:Int)]):=by
 unfold Ex;rw [List.range_succ,List.map_append,List.filter_append];simp only [List.map_cons,List.map_nil,List.filter_cons,List.filter_nil];cases h:g.contains (n:Int) <;> simp_all
theorem Xd (g:List Int) (n:Nat):(Ex g n).length≤n:=by
 unfold Ex;exact Nat.le_trans (List.length_filter_le _ _) (by simp)
theorem outside_mem (g:List Int) (n:Nat) (x:Int):(Ex g n).contains x=(inB x 0 ((n:Int)-1)&&!g.contains x):=by
 rw [Bool.eq_iff_iff];simp only [List.contains_eq_mem,decide_eq_true_eq,Ex,List.mem_filter,List.mem_map,List.mem_range,inB,Bool.and_eq_true];constructor
 ·rintro ⟨⟨i,hi,rfl⟩,h⟩;refine ⟨⟨?_,?_⟩,h⟩
  ·show (0:Int)≤(i:Int); omega
  show (i:Int)≤_; omega
 rintro ⟨⟨h1,h2⟩,h⟩;exact ⟨⟨x.toNat,by omega,by show ((x.toNat:Nat):Int)=x; omega⟩,h⟩
end
section
variable (N:Nat)
end
section
open Go.RowKit
def Cs (N:Nat) (f_0:Frm) (k:Unit→Option (Bool)):Nat→Int→Option (Bool)
 | 0,_=>none
 | n+1,i11=>
  cnd (decide (i11<(f_0.g.bars.length:Int))) (
   grd (0≤i11∧i11<(f_0.g.bars.length:Int)) <|
   grd (0≤((f_0.g.bars.getD ((i11).toNat) (0,0)).1)∧((f_0.g.bars.getD ((i11).toNat) (0,0)).1)<(f_0.places.length:Int)) <|
   grd (0≤((f_0.g.bars.getD ((i11).toNat) (0,0)).2)∧((f_0.g.bars.getD ((i11).toNat) (0,0)).2)<(f_0.places.length:Int)) <|
   cnd (((f_0.places.getD (((f_0.g.bars.getD ((i11).toNat) (0,0)).1).toNat) (0,0)).1==(f_0.places.getD (((f_0.g.bars.getD ((i11).toNat) (0,0)).2).toNat) (0,0)).1)&&((f_0.places.getD (((f_0.g.bars.getD ((i11).toNat) (0,0)).1).toNat) (0,0)).2==(f_0.places.getD (((f_0.g.bars.getD ((i11).toNat) (0,0)).2).toNat) (0,0)).2)) (
    some false) (
    cnd (decide (i11 > (0:Int))) (
     grd (Bg (i11-(1:Int))) <|
     grd (0≤(i11-(1:Int))∧(i11-(1:Int))<(f_0.g.bars.length:Int)) <|
     cnd (((f_0.g.bars.getD (((i11-(1:Int))).toNat) (0,0)).1==(f_0.g.bars.getD ((i11).toNat) (0,0)).1)&&((f_0.g.bars.getD (((i11-(1:Int))).toNat) (0,0)).2==(f_0.g.bars.getD ((i11).toNat) (0,0)).2)) (
      some false) (
      grd (Bg (i11+(1:Int))) <|
      Cs N f_0 k n (i11+(1:Int)))) (
     grd (Bg (i11+(1:Int))) <|
     Cs N f_0 k n (i11+(1:Int))))) (
   k ())
def Dm (N:Nat) (f_0:Frm) (k:Unit→Option (Bool)):Nat→Int→Option (Bool)
 | 0,_=>none
 | n+1,i15=>
  cnd (decide (i15<(f_0.places.length:Int))) (
   grd (0≤i15∧i15<(f_0.places.length:Int)) <|
   (Pg N ((f_0.places.getD ((i15).toNat) (0,0)).1) (0:Int) (4:Int)).bind fun v18=>
   cnd (!v18) (
    some false) (
    (Pg N ((f_0.places.getD ((i15).toNat) (0,0)).2) (0:Int) (4:Int)).bind fun v19=>
    cnd (!v19) (
     some false) (
     grd (Bg (i15+(1:Int))) <|
     Dm N f_0 k n (i15+(1:Int))))) (
   k ())
def Es (N:Nat) (f_0:Frm):Option (Bool):=
 (La N f_0.g).bind fun v1=>
 cnd (!v1) (
  some false) (
  cnd (decide (f_0.g.n > (6:Int))) (
   some false) (
   cnd ((f_0.places.length:Int) != f_0.g.n) (
    some false) (
    cnd (decide ((f_0.g.bars.length:Int) > (15:Int))) (
     some false) (
     Dm N f_0 (fun (_ : Unit) =>
        Cs N f_0 (fun (_ : Unit) =>
           some true) N (0:Int)) N (0:Int)))))
theorem Ja (N:Nat) (f_0:Frm) (r:Bool) (h:Es N f_0=some r):PCall Tryz.prog 118 [fD f_0] [] (.bool r):=by
 unfold Es at h;refine Ak (TT:=TT) tt Tryz.func118 O O Tryz.ntmps118 (congrArg Array.toList Tryz.results118) O O fun w0=>(Ah (Ab (Lw O O O O O O O O O (Aa O (Af (Ah (Ah (Ab (Aa O ?_)))))))));refine Aa O ?_;obtain ⟨v1,hc1,h⟩:=Ad h;refine Bn (Rn N f_0.g v1 hc1) O O O O O O O O ⟨⟨O,O,Y⟩,Y⟩ (Aa O (Aa O (Bi O O O (fun hb2=>?_) (fun hb2=>?_))))
 ·replace h:=Ai hb2 h;iterate 4 refine Fd O O O O hb2 O O ?_
  refine Bd O O O O O hb2 O (Aa O ?_);iterate 7 refine Fd O O O O O O O ?_
  refine Bd O O O O O O O (Aa O ?_);iterate 5 refine Fd O O O O O O O ?_
  refine Bd O O O O O O O (Af (Bo O O (Ah (Ab (Aa O (Af (Ay ?_)))))));show ∃ _,_;cases h;exact ⟨[],_,O,Y,O,.eq O,O⟩
 replace h:=Aj hb2 h;iterate 4 refine Bj tt O O O O O hb2 O O O Y ?_
 refine Az O O O O O hb2 O (Aa O (Bi O O O (fun hb3=>?_) (fun hb3=>?_)))
 ·replace h:=Ai hb3 h;iterate 7 refine Fd O O O O hb3 O O ?_
  refine Bd O O O O O hb3 O (Aa O ?_);iterate 5 refine Fd O O O O O O O ?_
  refine Bd O O O O O O O (Af (Bo O O (Ah (Ab (Aa O (Af (Ay ?_)))))));show ∃ _,_;cases h;exact ⟨[],_,O,Y,O,.eq O,O⟩
 replace h:=Aj hb3 h;iterate 7 refine Bj tt O O O O O hb3 O O O Y ?_
 refine Az O O O O O hb3 O (Aa O (Bi O O O (fun hb4=>?_) (fun hb4=>?_)))
 ·replace h:=Ai hb4 h;iterate 5 refine Fd O O O O hb4 O O ?_
  refine Bd O O O O O hb4 O (Af (Bo O O (Ah (Ab (Aa O (Af (Ay ?_)))))));show ∃ _,_;cases h;exact ⟨[],_,O,Y,O,.eq O,O⟩
 replace h:=Aj hb4 h;iterate 5 refine Bj tt O O O O O hb4 O O O Y ?_
 refine Az O O O O O hb4 O (Af (At O (fun hb5=>?_) (fun hb5=>?_)))
 ·replace h:=Ai hb5 h;refine Ah (Ab (Aa O (Af (Ay ?_))));show ∃ _,_;cases h;exact ⟨[],_,O,Y,O,.eq O,O⟩
 replace h:=Aj hb5 h;refine Ar (Ah (Ah (Ab (Aa O (Af (Cb (F:=fun k=>Dm N f_0 k) h (α:=Unit) (J:=fun (_:Unit)=>(⟨[(1,.ptr 1 0)],[],[(1,some [.int f_0.g.n,.ro false (.pairs f_0.g.bars),.ro false (.pairs f_0.places)])]⟩:PS)) ?_ ?_))))))
 ·rintro ⟨⟩ h;show VC _ _ _ (⟨[(1,.ptr 1 0)],[],[(1,some [.int f_0.g.n,.ro false (.pairs f_0.g.bars),.ro false (.pairs f_0.places)])]⟩:PS);refine Ah (Ah (Ab (Aa O (Af (Cb (F:=fun k=>Cs N f_0 k) h (α:=Unit) (J:=fun (_:Unit)=>(⟨[],[],[]⟩:PS)) ?_ ?_)))))
  ·rintro ⟨⟩ h;show VC _ _ _ (⟨[],[],[]⟩:PS);refine Ah (Ab (Aa O (Af (Ay ?_))));show ∃ _,_;cases h;exact ⟨[],_,O,Y,O,.eq O,O⟩
  intro k h;refine Aq (Bh (α:=Int) (fun (i11:Int)=>(⟨[(1,.ptr 1 0),(4,.int i11)],[],[(1,some [.int f_0.g.n,.ro false (.pairs f_0.g.bars),.ro false (.pairs f_0.places)])]⟩:PS)) (Cs N f_0 k) h (En.of ⟨O,O,Y⟩ trivial ⟨O,Y⟩) (fun _=>O) ?_);rintro n i11 h;rw [Cs] at h;show VC _ _ _ (⟨[(1,.ptr 1 0),(4,.int i11)],[],[(1,some [.int f_0.g.n,.ro false (.pairs f_0.g.bars),.ro false (.pairs f_0.places)])]⟩:PS);refine Ah (Ah (Ab ?_));iterate 6 refine Aa O ?_
  refine Af (At O (fun hb6=>?_) (fun hb6=>?_))
  ·replace h:=Ai hb6 h;refine Ar (Ah (Aq (Ah (Ab ?_))));iterate 4 refine Aa O ?_
   obtain ⟨hg7,h⟩:=Ac h;refine Ae tt O hg7 (Aa O (Bq tt O O O O O O O O O (As tt O O O O O O O O O O O ⟨Y,Y,Y⟩ (Af (Ah (Bt (by kernel_rfl) (by kernel_rfl) ?_))))));iterate 4 refine Bb tt O (Ag O) O O O Y ?_
   obtain ⟨hg8,h⟩:=Ac h;refine Bb tt O (Ag O) O O O hg8 ?_;iterate 5 refine Bb tt O (Ag O) O O O Y ?_
   obtain ⟨hg9,h⟩:=Ac h;refine Bb tt O (Ag O) O O O hg9 (Bb tt O (Ag O) O O O Y (Pb (Ag O) (pEqP Cd O O O) O O (Bb tt O (Ag O) O O O Y (Gg O O O (fun hb10=>?_) (fun hb10=>?_)))))
   ·replace h:=Ai hb10 h;iterate 3 refine Sy O O O O hb10 O O ?_
    iterate 9 refine cNoU O O O O O ?_
    refine Sy O O O O hb10 O O (Eh O (Ag O) O O O hb10 O (Km (Bo O O (Ah (Ab (Aa O (Af (Ay ?_))))))));show ∃ _,_;cases h;exact ⟨[],_,O,Y,O,.eq O,O⟩
   replace h:=Aj hb10 h;iterate 3 refine Bb tt O (Aw O O O O hb10) O O O Y ?_
   refine Gg O O O (fun hb11=>?_) (fun hb11=>?_)
   ·replace h:=Ai hb11 h;iterate 4 refine Bb tt O (Aw O O O O hb11) O O O Y ?_
    obtain ⟨hg12,h⟩:=Ac h;refine Bb tt O (Aw O O O O hb11) O O O hg12 ?_;obtain ⟨hg13,h⟩:=Ac h;refine Bb tt O (Aw O O O O hb11) O O O hg13 ?_;iterate 2 refine Bb tt O (Aw O O O O hb11) O O O Y ?_
    refine Pb (Aw O O O O hb11) (pEqP Lp O O O) O O (Eh O (Aw O O O O hb10) O O O hb11 O (Eo O (Ag O) O O O hb10 O (Km (At O (fun hb14=>?_) (fun hb14=>?_)))))
    ·replace h:=Ai hb14 h;refine Ah (Ab (Aa O (Af (Ay ?_))));show ∃ _,_;cases h;exact ⟨[],_,O,Y,O,.eq O,O⟩
    replace h:=Aj hb14 h;refine Ar (Ab (Aa O ?_));obtain ⟨hg15,h⟩:=Ac h;refine Ae tt O hg15 (Aa O (Af ?_));show ∃ _,_;exact ⟨(i11+(1:Int)),(En.of ⟨O,O,Y⟩ trivial ⟨O,Y⟩),h⟩
   replace h:=Aj hb11 h;iterate 9 refine cNoT O O O O hb11 O O ?_
   refine Eo O (Aw O O O O hb10) O O O hb11 O (Eo O (Ag O) O O O hb10 O (Km (Gx O O (Ar (Ab (Aa O ?_))))));obtain ⟨hg16,h⟩:=Ac h;refine Ae tt O hg16 (Aa O (Af ?_));show ∃ _,_;exact ⟨(i11+(1:Int)),(En.of ⟨O,O,Y⟩ trivial ⟨O,Y⟩),h⟩
  replace h:=Aj hb6 h;refine Br ?_;show ∃ _,_;exact ⟨(),(En.of trivial trivial trivial),h⟩
 intro k h;refine Aq (Bh (α:=Int) (fun (i15:Int)=>(⟨[(1,.ptr 1 0),(3,.int i15)],[],[(1,some [.int f_0.g.n,.ro false (.pairs f_0.g.bars),.ro false (.pairs f_0.places)])]⟩:PS)) (Dm N f_0 k) h (En.of ⟨O,O,Y⟩ trivial ⟨O,Y⟩) (fun _=>O) ?_);rintro n i15 h;rw [Dm] at h;show VC _ _ _ (⟨[(1,.ptr 1 0),(3,.int i15)],[],[(1,some [.int f_0.g.n,.ro false (.pairs f_0.g.bars),.ro false (.pairs f_0.places)])]⟩:PS);refine Ah (Ah (Ab ?_));iterate 5 refine Aa O ?_
 refine Af (At O (fun hb17=>?_) (fun hb17=>?_))
 ·replace h:=Ai hb17 h;refine Ar (Ah (Aq (Ah (Ab (Aa O (Aa O (Aa O ?_)))))));obtain ⟨hg18,h⟩:=Ac h;refine Ae tt O hg18 (Aa O (Aa O ?_));obtain ⟨v18,hc19,h⟩:=Ad h;refine Bn (Ln N ((f_0.places.getD ((i15).toNat) (0,0)).1) (0:Int) (4:Int) v18 hc19) O O O O O O O O ⟨O,O,O,Y⟩ (Aa O (Aa O (Bi O O O (fun hb20=>?_) (fun hb20=>?_))))
  ·replace h:=Ai hb20 h;iterate 8 refine Fd O O O O hb20 O O ?_
   refine Bd O O O O O hb20 O (Af (Bo O O (Ah (Ab (Aa O (Af (Ay ?_)))))));show ∃ _,_;cases h;exact ⟨[],_,O,Y,O,.eq O,O⟩
  replace h:=Aj hb20 h;iterate 3 refine Bj tt O O O O O hb20 O O O Y ?_
  refine Bj tt O O O O O hb20 O O O hg18 ?_;iterate 2 refine Bj tt O O O O O hb20 O O O Y ?_
  obtain ⟨v19,hc21,h⟩:=Ad h;refine Hx (Ln N ((f_0.places.getD ((i15).toNat) (0,0)).2) (0:Int) (4:Int) v19 hc21) O O O O hb20 O O O O O O O ⟨O,O,O,Y⟩ (Bj tt O O O O O hb20 O O O Y (Az O O O O O hb20 O (Af (At O (fun hb22=>?_) (fun hb22=>?_)))))
  ·replace h:=Ai hb22 h;refine Ah (Ab (Aa O (Af (Ay ?_))));show ∃ _,_;cases h;exact ⟨[],_,O,Y,O,.eq O,O⟩
  replace h:=Aj hb22 h;refine Ar (Ab (Aa O ?_));obtain ⟨hg23,h⟩:=Ac h;refine Ae tt O hg23 (Aa O (Af ?_));show ∃ _,_;exact ⟨(i15+(1:Int)),(En.of ⟨O,O,Y⟩ trivial ⟨O,Y⟩),h⟩
 replace h:=Aj hb17 h;refine Br ?_;show ∃ _,_;exact ⟨(),(En.of ⟨O,Y⟩ trivial ⟨O,Y⟩),h⟩
def Ea (N:Nat) (l_0:Lnk) (k:Unit→Option (Bool)):Nat→Int→Option (Bool)
 | 0,_=>none
 | n+1,i5=>
  cnd (decide (i5<(l_0.ground.length:Int))) (
   grd (0≤i5∧i5<(l_0.ground.length:Int)) <|
   cnd (decide ((l_0.ground.getD ((i5).toNat) 0)<(0:Int))) (
    some false) (
    cnd (decide ((l_0.ground.getD ((i5).toNat) 0)≥(l_0.f.places.length:Int))) (
     some false) (
     cnd (decide (i5 > (0:Int))) (
      grd (Bg (i5-(1:Int))) <|
      grd (0≤(i5-(1:Int))∧(i5-(1:Int))<(l_0.ground.length:Int)) <|
      cnd (decide ((l_0.ground.getD (((i5-(1:Int))).toNat) 0)≥(l_0.ground.getD ((i5).toNat) 0))) (
       some false) (
       grd (Bg (i5+(1:Int))) <|
       Ea N l_0 k n (i5+(1:Int)))) (
      grd (Bg (i5+(1:Int))) <|
      Ea N l_0 k n (i5+(1:Int)))))) (
   k ())
def Hk (N:Nat) (l_0:Lnk):Option (Bool):=
 grd (Bg ((l_0.f.places.length:Int)-(l_0.ground.length:Int))) <|
 Ea N l_0 (fun (_ : Unit) =>
    (Es N l_0.f).bind fun v2=>
    cnd v2 (
     (Pg N ((l_0.f.places.length:Int)-(l_0.ground.length:Int)) (0:Int) (2:Int)).bind fun v3=>
     cnd v3 (
      some (decide ((l_0.ground.length:Int) > (0:Int)))) (
      some false)) (
     some false)) N (0:Int)
theorem Mr (N:Nat) (l_0:Lnk) (r:Bool) (h:Hk N l_0=some r):PCall Tryz.prog 82 [lD l_0] [] (.bool r):=by
 unfold Hk at h;refine Ak (TT:=TT) tt Tryz.func82 O O Tryz.ntmps82 (congrArg Array.toList Tryz.results82) O O fun w0=>(Ah (Ab (Lw O O O O O O O O O (Aa O (Af (Ah (Ab ?_)))))));iterate 7 refine Aa O ?_
 obtain ⟨hg1,h⟩:=Ac h;refine Ae tt O hg1 (Aa O (Af (Ah (Ah (Ab (Aa O (Af (Cb (F:=fun k=>Ea N l_0 k) h (α:=Unit) (J:=fun (_:Unit)=>(⟨[(1,.ptr 1 0),(3,.int ((l_0.f.places.length:Int)-(l_0.ground.length:Int)))],[],[(1,some [.int l_0.f.g.n,.ro false (.pairs l_0.f.g.bars),.ro false (.pairs l_0.f.places),.ro false (.ints l_0.ground)])]⟩:PS)) ?_ ?_))))))))
 ·rintro ⟨⟩ h;show VC _ _ _ (⟨[(1,.ptr 1 0),(3,.int ((l_0.f.places.length:Int)-(l_0.ground.length:Int)))],[],[(1,some [.int l_0.f.g.n,.ro false (.pairs l_0.f.g.bars),.ro false (.pairs l_0.f.places),.ro false (.ints l_0.ground)])]⟩:PS);refine Ah (Ab (Aa O (Aa O ?_)));obtain ⟨v2,hc2,h⟩:=Ad h;refine Bn (Ja N l_0.f v2 hc2) O O O O O O O O ⟨⟨O,O,O,Y⟩,Y⟩ (Aa O (Bi O O O (fun hb3=>?_) (fun hb3=>?_)))
  ·replace h:=Ai hb3 h;refine Bj tt O O O O O hb3 O O O Y ?_;obtain ⟨v3,hc4,h⟩:=Ad h;refine Hx (Ln N ((l_0.f.places.length:Int)-(l_0.ground.length:Int)) (0:Int) (2:Int) v3 hc4) O O O O hb3 O O O O O O O ⟨O,O,O,Y⟩ (Bd O O O O O hb3 O (Aa O (Bi O O O (fun hb5=>?_) (fun hb5=>?_))))
   ·replace h:=Ai hb5 h;iterate 4 refine Bj tt O O O O O hb5 O O O Y ?_
    refine Bd O O O O O hb5 O (Aa O (Af (Ay ?_)));show ∃ _,_;cases h;exact ⟨[],_,O,Y,O,.eq O,O⟩
   replace h:=Aj hb5 h;iterate 4 refine Qv O O O O hb5 O O ?_
   refine Az O O O O O hb5 O (Aa O (Af (Ay ?_)));show ∃ _,_;cases h;exact ⟨[],_,O,Y,O,.eq O,O⟩
  replace h:=Aj hb3 h;iterate 2 refine Qv O O O O hb3 O O ?_
  refine Az O O O O O hb3 O (Aa O ?_);iterate 4 refine Qv O O O O O O O ?_
  refine Az O O O O O O O (Aa O (Af (Ay ?_)));show ∃ _,_;cases h;exact ⟨[],_,O,Y,O,.eq O,O⟩
 intro k h;refine Aq (Bh (α:=Int) (fun (i5:Int)=>(⟨[(1,.ptr 1 0),(3,.int ((l_0.f.places.length:Int)-(l_0.ground.length:Int))),(4,.int i5)],[],[(1,some [.int l_0.f.g.n,.ro false (.pairs l_0.f.g.bars),.ro false (.pairs l_0.f.places),.ro false (.ints l_0.ground)])]⟩:PS)) (Ea N l_0 k) h (En.of ⟨O,O,O,Y⟩ trivial ⟨O,Y⟩) (fun _=>O) ?_);rintro n i5 h;rw [Ea] at h;show VC _ _ _ (⟨[(1,.ptr 1 0),(3,.int ((l_0.f.places.length:Int)-(l_0.ground.length:Int))),(4,.int i5)],[],[(1,some [.int l_0.f.g.n,.ro false (.pairs l_0.f.g.bars),.ro false (.pairs l_0.f.places),.ro false (.ints l_0.ground)])]⟩:PS);refine Ah (Ah (Ab ?_));iterate 5 refine Aa O ?_
 refine Af (At O (fun hb6=>?_) (fun hb6=>?_))
 ·replace h:=Ai hb6 h;refine Ar (Ah (Aq (Ah (Bt (by kernel_rfl) (by kernel_rfl) ?_))));iterate 3 refine Bb tt O (Ag O) O O O Y ?_
  obtain ⟨hg7,h⟩:=Ac h;refine Bb tt O (Ag O) O O O hg7 ?_;iterate 3 refine Bb tt O (Ag O) O O O Y ?_
  refine Gg O O O (fun hb8=>?_) (fun hb8=>?_)
  ·replace h:=Ai hb8 h;iterate 10 refine Sy O O O O hb8 O O ?_
   refine Eh O (Ag O) O O O hb8 O (Bb tt O (Ag O) O O O Y ?_);iterate 3 refine Sy O O O O O O O ?_
   iterate 12 refine cNoU O O O O O ?_
   refine Sy O O O O O O O (Eh O (Ag O) O O O O O (Km (Bo O O (Ah (Ab (Aa O (Af (Ay ?_))))))));show ∃ _,_;cases h;exact ⟨[],_,O,Y,O,.eq O,O⟩
  replace h:=Aj hb8 h;iterate 3 refine Bb tt O (Aw O O O O hb8) O O O Y ?_
  refine Bb tt O (Aw O O O O hb8) O O O hg7 ?_;iterate 6 refine Bb tt O (Aw O O O O hb8) O O O Y ?_
  refine Eo O (Ag O) O O O hb8 O (Bb tt O (Ag O) O O O Y (Gg O O O (fun hb9=>?_) (fun hb9=>?_)))
  ·replace h:=Ai hb9 h;iterate 3 refine Sy O O O O hb9 O O ?_
   iterate 12 refine cNoU O O O O O ?_
   refine Sy O O O O hb9 O O (Eh O (Ag O) O O O hb9 O (Km (Bo O O (Ah (Ab (Aa O (Af (Ay ?_))))))));show ∃ _,_;cases h;exact ⟨[],_,O,Y,O,.eq O,O⟩
  replace h:=Aj hb9 h;iterate 3 refine Bb tt O (Aw O O O O hb9) O O O Y ?_
  refine Gg O O O (fun hb10=>?_) (fun hb10=>?_)
  ·replace h:=Ai hb10 h;iterate 3 refine Bb tt O (Aw O O O O hb10) O O O Y ?_
   obtain ⟨hg11,h⟩:=Ac h;refine Bb tt O (Aw O O O O hb10) O O O hg11 ?_;obtain ⟨hg12,h⟩:=Ac h;refine Bb tt O (Aw O O O O hb10) O O O hg12 ?_;iterate 4 refine Bb tt O (Aw O O O O hb10) O O O Y ?_
   refine Bb tt O (Aw O O O O hb10) O O O hg7 ?_;iterate 2 refine Bb tt O (Aw O O O O hb10) O O O Y ?_
   refine Eh O (Aw O O O O hb9) O O O hb10 O (Eo O (Ag O) O O O hb9 O (Km (At O (fun hb13=>?_) (fun hb13=>?_))))
   ·replace h:=Ai hb13 h;refine Ah (Ab (Aa O (Af (Ay ?_))));show ∃ _,_;cases h;exact ⟨[],_,O,Y,O,.eq O,O⟩
   replace h:=Aj hb13 h;refine Ar (Ab (Aa O ?_));obtain ⟨hg14,h⟩:=Ac h;refine Ae tt O hg14 (Aa O (Af ?_));show ∃ _,_;exact ⟨(i5+(1:Int)),(En.of ⟨O,O,O,Y⟩ trivial ⟨O,Y⟩),h⟩
  replace h:=Aj hb10 h;iterate 12 refine cNoT O O O O hb10 O O ?_
  refine Eo O (Aw O O O O hb9) O O O hb10 O (Eo O (Ag O) O O O hb9 O (Km (Gx O O (Ar (Ab (Aa O ?_))))));obtain ⟨hg15,h⟩:=Ac h;refine Ae tt O hg15 (Aa O (Af ?_));show ∃ _,_;exact ⟨(i5+(1:Int)),(En.of ⟨O,O,O,Y⟩ trivial ⟨O,Y⟩),h⟩
 replace h:=Aj hb6 h;refine Br ?_;show ∃ _,_;exact ⟨(),(En.of ⟨O,O,Y⟩ trivial ⟨O,Y⟩),h⟩
end
end Go.Proofs.YtaipbhnpandbkaaGreat
