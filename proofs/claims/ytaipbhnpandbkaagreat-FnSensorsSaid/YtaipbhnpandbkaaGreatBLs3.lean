/- Texts that the proof needs, put together: M3 M4 M5 M6 Vt Wr Shb Pa Pm Pc G1 G2 G4. -/
import Derived.MapKept
import Derived.Laws.CopyRow
import Derived.Test.YtaipbhnpandbkaaGreatChecked
import Derived.Laws.StructEq
import Derived.Test.YtaipbhnpandbkaaGreatBLs2
set_option maxRecDepth 20000
set_option maxHeartbeats 1600000
set_option linter.unusedVariables false
set_option linter.unusedSimpArgs false
namespace Go.Proofs.YtaipbhnpandbkaaGreat
section
open Go.RowKit Go.Deep
def mp:List Nat→List Nat→Nat→Option Nat
 | k::l,i::m,r=>match Nat.beq k r with | true=>some i | false=>mp l m r
 | _,_,_=>none
def asL {α:Type}:List Nat→List α→List (Nat×Option α)
 | k::l,x::m=>(k,some x)::asL l m
 | _,_=>[]
theorem Ei (k i:Nat) (l m:List Nat):mp (k::l) (i::m) k=some i:=by simp [mp,Nat.beq_refl]
theorem Gh {k r:Nat} (h:k≠r) (i:Nat) (l m:List Nat):mp (k::l) (i::m) r=mp l m r:=by
 have:Nat.beq k r=false:=by
  cases hb:Nat.beq k r
  ·rfl
  exact absurd (Nat.eq_of_beq_eq_true hb) h
 simp [mp,this]
theorem Pf:∀ {l m:List Nat} {r i:Nat},mp l m r=some i→r∈l∧i∈m
 | [],m,r,i,h=>by simp [mp] at h
 | k::l,[],r,i,h=>by simp [mp] at h
 | k::l,j::m,r,i,h=>by
  by_cases hk:k=r
  ·subst hk; rw [Ei] at h; cases h; exact ⟨by simp,by simp⟩
  rw [Gh hk] at h; have:=Pf h; exact ⟨by simp [this.1],by simp [this.2]⟩
theorem Wo {x:Nat} {l:List Nat} (h:Gq (x::l)=true):x∉l∧Gq l=true:=by
 simp only [Gq,Bool.and_eq_true,List.all_eq_true] at h;refine ⟨fun hx=>?_,h.2⟩;have:=h.1 x hx;simp [Nat.beq_refl] at this
theorem Ab8:∀ {l m:List Nat} {r i:Nat},Gq m=true→mp l m r=some i→mp m l i=some r
 | [],m,r,i,hn,h=>by simp [mp] at h
 | k::l,[],r,i,hn,h=>by simp [mp] at h
 | k::l,j::m,r,i,hn,h=>by
  obtain ⟨hn1,hn2⟩:=Wo hn;by_cases hk:k=r
  ·subst hk; rw [Ei] at h; cases h; rw [Ei]
  rw [Gh hk] at h;have h1:=Pf h;rw [Gh (fun e=>hn1 (by subst e; exact h1.2))];exact Ab8 hn2 h
theorem Pd:∀ {l m:List Nat} {r:Nat},l.length=m.length→r∈l→∃ i,mp l m r=some i
 | [],m,r,hl,h=>by simp at h
 | k::l,[],r,hl,h=>by simp at hl
 | k::l,j::m,r,hl,h=>by
  by_cases hk:k=r
  ·subst hk; exact ⟨j,Ei _ _ _ _⟩
  rw [Gh hk]; exact Pd (by simpa using hl) (by simpa [Ne.symm hk] using h)
def Ho {α:Type} (f:Nat→Option α):List Nat→List α→Prop
 | [],[]=>True
 | i::l,x::m=>f i=some x∧Ho f l m
 | _,_=>False
theorem Ac6 {α:Type} {f:Nat→Option α}:∀ {l:List Nat} {m:List α},Ho f l m→l.length=m.length
 | [],[],_=>rfl
 | _::l,_::m,h=>by simp [Ac6 h.2]
 | [],_::_,h=>h.elim
 | _::_,[],h=>h.elim
theorem asL_none {α:Type}:∀ {k:List Nat} {x:List α} {r:Nat},k.length=x.length→r∉k→Bw (asL k x) r=none
 | [],x,r,_,_=>by simp [asL,Bw]
 | k::l,[],r,hl,_=>by simp at hl
 | k::l,x::m,r,hl,h=>by
  rw [asL,Au (fun e=>h (by simp [e]))];exact asL_none (by simpa using hl) (fun hh=>h (by simp [hh]))
theorem Aai {α:Type} {f:Nat→Option α}:∀ {k i:List Nat} {x:List α} {r:Nat},k.length=i.length→Ho f i x→(Bw (asL k x) r=none∧mp k i r=none)∨∃ y j,Bw (asL k x) r=some (some y)∧mp k i r=some j∧f j=some y
 | [],[],[],r,_,_=>.inl ⟨rfl,rfl⟩
 | k::l,j::i,y::x,r,hl,h=>by
  by_cases hk:k=r
  ·subst hk; exact .inr ⟨y,j,by rw [asL,At],Ei _ _ _ _,h.1⟩
  rw [asL,Au hk,Gh hk];exact Aai (by simpa using hl) h.2
 | [],_::_,_,_,hl,_=>by simp at hl
 | _::_,[],_,_,hl,_=>by simp at hl
 | [],[],_::_,_,_,h=>h.elim
 | _::_,_::_,[],_,_,h=>h.elim
theorem Qw {α:Type}:∀ {k i:List Nat} {x:List α} {r:Nat},k.length=i.length→i.length=x.length→(Bw (asL k x) r=none∧mp k i r=none)∨∃ y j,Bw (asL k x) r=some (some y)∧mp k i r=some j∧((Gq i=true→Bw (asL i x) j=some (some y)))
 | [],[],[],r,_,_=>.inl ⟨rfl,rfl⟩
 | k::l,j::i,y::x,r,hl,h=>by
  by_cases hk:k=r
  ·subst hk; exact .inr ⟨y,j,by rw [asL,At],Ei _ _ _ _,fun _=>by rw [asL,At]⟩
  rw [asL,Au hk,Gh hk];rcases Qw (r:=r) (show l.length=i.length by simpa using hl) (show i.length=x.length by simpa using h) with h1 | ⟨y',j',h1,h2,h3⟩
  ·exact .inl h1
  refine .inr ⟨y',j',h1,h2,fun hn=>?_⟩;obtain ⟨n1,n2⟩:=Wo hn;rw [asL,Au (fun e=>n1 (by subst e; exact (Pf h2).2))];exact h3 n2
 | [],_::_,_,_,hl,_=>by simp at hl
 | _::_,[],_,_,hl,_=>by simp at hl
 | [],[],_::_,_,_,h=>by simp at h
 | _::_,_::_,[],_,_,h=>by simp at h
def Aal:List Nat→List Nat→Bool
 | k::l,i::m=>(match Kg k,Kg i with | true,true=>true | _,_=>Nat.beq k i&&Nat.blt k BIG)&&Aal l m
 | _,_=>true
theorem famB_ok:∀ {l m:List Nat} {r i:Nat},Aal l m=true→mp l m r=some i→(Kg r=true∧Kg i=true)∨(r=i∧Kg r=false∧r<BIG)
 | [],m,r,i,_,h=>by simp [mp] at h
 | k::l,[],r,i,_,h=>by simp [mp] at h
 | k::l,j::m,r,i,hf,h=>by
  unfold Aal at hf;rw [Bool.and_eq_true] at hf;by_cases hk:k=r
  ·subst hk;rw [Ei] at h;cases h;have h1:=hf.1;split at h1
   ·rename_i a1 a2; exact .inl ⟨a1,a2⟩
   rename_i hno;rw [Bool.and_eq_true,Nat.blt_eq] at h1;have e:=Nat.eq_of_beq_eq_true h1.1;subst e;refine .inr ⟨O,?_,h1.2⟩
   cases hn:Kg k with
   | false=>rfl
   | true=>exact (hno hn hn).elim
  rw [Gh hk] at h;exact famB_ok hf.2 h
theorem famB_lt {l m:List Nat} {r i:Nat} (hf:Aal l m=true) (h:mp l m r=some i):Nat.ble BIG r=false∧Nat.ble BIG i=false:=by
 rcases famB_ok hf h with ⟨h1,h2⟩ | ⟨rfl,h1,h2⟩
 ·exact ⟨Ew h1,Ew h2⟩
 have:Nat.ble BIG r=false:=by
  cases hb:Nat.ble BIG r with
  | false=>rfl
  | true=>have:=Nat.le_of_ble_eq_true hb; omega
 exact ⟨this,this⟩
theorem Tj (u:Nat):Kg (FK+unF u)=false:=by
 cases h:Kg (FK+unF u) with
 | false=>rfl
 | true=>exact absurd rfl (notF_ne h (u-BIG))
theorem famB_fk {l m:List Nat} {u i:Nat} (hf:Aal l m=true) (h:mp l m (FK+unF u)=some i):i=FK+unF u:=by
 rcases famB_ok hf h with ⟨h1,_⟩ | ⟨h1,_⟩
 ·rw [Tj] at h1; cases h1
 exact h1.symm
theorem Aay:∀ {l m:List Nat},Aal l m=true→Aal m l=true
 | [],m,_=>by cases m <;> rfl
 | k::l,[],_=>rfl
 | k::l,j::m,h=>by
  unfold Aal at h ⊢;rw [Bool.and_eq_true] at h ⊢;refine ⟨?_,Aay h.2⟩;have h1:=h.1;split at h1
  ·rename_i a1 a2; rw [a1,a2]
  rename_i hno;rw [Bool.and_eq_true] at h1;have e:=Nat.eq_of_beq_eq_true h1.1;subst e;split
  ·rename_i a1 _; exact (hno a1 a1).elim
  rw [Bool.and_eq_true]; exact ⟨Nat.beq_refl _,h1.2⟩
def mpI (l m:List Nat) (r:Nat):Option Nat:=match Nat.ble BIG r with | true=>(match mp l m (FK+unF r) with | some _=>some r | none=>none) | false=>mp l m r
theorem Ye {l m:List Nat} {r:Nat} (h:Nat.ble BIG r=false):mpI l m r=mp l m r:=by unfold mpI; rw [h]
theorem Ab5 {l m:List Nat} {r:Nat} (h:Nat.ble BIG r=true):mpI l m r=match mp l m (FK+unF r) with | some _=>some r | none=>none:=by unfold mpI; rw [h]
theorem Adn {l m:List Nat} {r i:Nat} (hf:Aal l m=true) (h:mp l m r=some i):mpI l m r=some i:=by rw [Ye (famB_lt hf h).1]; exact h
theorem Ti {l m:List Nat} {r i:Nat} (hf:Aal l m=true) (h:mpI l m r=some i):(Nat.ble BIG r=false∧Nat.ble BIG i=false∧mp l m r=some i)∨(Nat.ble BIG r=true∧i=r∧mp l m (FK+unF r)=some (FK+unF r)):=by
 cases hb:Nat.ble BIG r with
 | false=>rw [Ye hb] at h; exact .inl ⟨rfl,(famB_lt hf h).2,h⟩
 | true=>
  rw [Ab5 hb] at h;split at h
  ·rename_i j hj;cases h;rw [famB_fk hf hj] at hj;exact .inr ⟨O,O,hj⟩
  cases h
theorem Sj {l m:List Nat} {r i:Nat} (hf:Aal l m=true) (hn:Gq m=true) (h:mpI l m r=some i):mpI m l i=some r:=by
 rcases Ti hf h with ⟨h1,h2,h3⟩ | ⟨h1,rfl,h3⟩
 ·rw [Ye h2]; exact Ab8 hn h3
 rw [Ab5 h1,Ab8 hn h3]
def Lc (l:List Nat) (x:Nat):Bool:=l.any fun k=>Nat.beq k x
theorem Pj {l:List Nat} {x:Nat} (h:Lc l x=true):x∈l:=by
 simp only [Lc,List.any_eq_true] at h;obtain ⟨k,hk,hx⟩:=h;rw [←Nat.eq_of_beq_eq_true hx]; exact hk
theorem mem_isIn {l:List Nat} {x:Nat} (h:x∈l):Lc l x=true:=by
 simp only [Lc,List.any_eq_true];exact ⟨x,h,Nat.beq_refl x⟩
def scS (rk bk:List Nat):D→Bool
 | .int _ | .bool _ | .val _ | .nil | .ro _ _ | .dead=>true
 | .row x _ _=>Lc rk x
 | .ptr x _=>Lc bk x
 | .clo _ bs=>bs.all (Lc bk)
 | _=>false
def scA (rk bk:List Nat):D→Bool
 | .agg l=>l.all (scS rk bk)
 | d=>scS rk bk d
def scT (rk bk:List Nat):D→Bool
 | .tup l=>l.all (scA rk bk)
 | d=>scA rk bk d
def sgm (l m:List Nat) (r:Nat):Nat:=match mp l m r with | some i=>i | none=>0
theorem sc_un {rk rids bk bids:List Nat} (hl:rk.length=rids.length) (hb:bk.length=bids.length) {N M:Mp} {A A':Bool→Nat→Prop} {w w':World}
  (hγ:∀ r i x,mp rk rids r=some i→N.γ r=some x→M.γ i=some x) (hβ:∀ r i x,mp bk bids r=some i→N.β r=some x→M.β i=some x)
  (hA:∀ f b,b<w.heap.size→A f b→A' f b∧b<w'.heap.size∧w'.heap[b]? = w.heap[b]?) {d:D} {v:Value} (h:VR M A w (renS (sgm bk bids) (sgm rk rids) d) v) (hs:scS rk bk d=true):VR N A' w' d v:=by
 cases d <;> simp only [scS,Bool.false_eq_true] at hs <;> simp only [renS] at h
 case int=>cases h; exact .int _
 case bool=>cases h; exact .bool _
 case val=>cases h with | val _ h=>exact .val _ h
 case nil=>cases h with | nil ao=>exact .nil ao
 case dead=>exact .dead _
 case ro f q=>exact h.ro_any hA
 case row r off n=>
  obtain ⟨i,hi⟩:=Pd hl (Pj hs)
  cases h with
  | row _ _ _ _ h1 h=>
   refine .row _ _ _ _ h1 fun x hx=>h x ?_;simp only [sgm,hi];exact hγ r i x hi hx
 case ptr b off=>
  obtain ⟨i,hi⟩:=Pd hb (Pj hs)
  cases h with
  | ptr _ _ _ h1 h=>
   refine .ptr _ _ _ h1 fun x hx=>h x ?_;simp only [sgm,hi];exact hβ b i x hi hx
 case clo f bs=>
  cases h with
  | clo _ _ _ h1 h=>
   refine .clo _ _ _ h1 fun ks hk=>h ks ?_
   have key:∀ (bs:List Nat) (ks:List Nat),bs.all (Lc bk)=true→Ly N.β bs=some ks→Ly M.β (bs.map (sgm bk bids))=some ks:=by
    intro bs
    induction bs with
    | nil=>intro ks _ h; exact h
    | cons b bs ih=>
     intro ks hs hk;simp only [List.all_cons,Bool.and_eq_true] at hs;simp only [List.map_cons,Ly] at hk ⊢;split at hk
     ·rename_i k ks' h1 h2;cases hk;obtain ⟨i,hi⟩:=Pd hb (Pj hs.1);have e1:sgm bk bids b=i:=by simp [sgm,hi]
      rw [e1,hβ b i k hi h1,ih ks' hs.2 h2]
     cases hk
   exact key bs ks hs hk
theorem sc_ren {rk pids bk bids:List Nat} (hl:rk.length=pids.length) (hb:bk.length=bids.length) {N M':Mp} {A A':Bool→Nat→Prop} {w w':World}
  (hγ:∀ r i x,mp rk pids r=some i→M'.γ i=some x→N.γ r=some x) (hβ:∀ r i x,mp bk bids r=some i→M'.β i=some x→N.β r=some x)
  (hA:∀ f b,b<w.heap.size→A f b→A' f b∧b<w'.heap.size∧w'.heap[b]? = w.heap[b]?) {d:D} {v:Value} (h:VR N A w d v) (hs:scS rk bk d=true):VR M' A' w' (renS (sgm bk bids) (sgm rk pids) d) v:=by
 cases h <;> simp only [scS,Bool.false_eq_true] at hs
 case int=>exact .int _
 case bool=>exact .bool _
 case val h=>exact .val _ h
 case nil ao=>exact .nil ao
 case dead=>exact .dead _
 case ro f q ao cap b o u hn hc hao hu hv=>exact VR.ro_any (.ro f q ao cap b o u hn hc hao hu hv) hA
 case row r off n h1 h=>
  obtain ⟨i,hi⟩:=Pd hl (Pj hs);have e:renS (sgm bk bids) (sgm rk pids) (.row r off n)=.row i off n:=by simp [renS,sgm,hi]
  rw [e];exact .row _ off n _ h1 fun x hx=>h x (hγ r i x hi hx)
 case ptr b off h1 h=>
  obtain ⟨i,hi⟩:=Pd hb (Pj hs);have e:renS (sgm bk bids) (sgm rk pids) (.ptr b off)=.ptr i off:=by simp [renS,sgm,hi]
  rw [e];exact .ptr _ off _ h1 fun x hx=>h x (hβ b i x hi hx)
 case clo f bs h1 h=>
  have e:renS (sgm bk bids) (sgm rk pids) (.clo f bs)=.clo f (bs.map (sgm bk bids)):=rfl;rw [e];refine .clo _ _ _ h1 fun ks hk=>h ks (Sp (τ:=sgm bk bids) (fun b hb' k hk'=>?_) hk);simp only [List.all_eq_true] at hs;obtain ⟨i,hi⟩:=Pd hb (Pj (hs b hb'));simp only [sgm,hi] at hk';exact hβ b i k hi hk'
theorem sc_renA {rk pids bk bids:List Nat} (hl:rk.length=pids.length) (hb:bk.length=bids.length) {N M':Mp} {A A':Bool→Nat→Prop} {w w':World}
  (hγ:∀ r i x,mp rk pids r=some i→M'.γ i=some x→N.γ r=some x) (hβ:∀ r i x,mp bk bids r=some i→M'.β i=some x→N.β r=some x)
  (hA:∀ f b,b<w.heap.size→A f b→A' f b∧b<w'.heap.size∧w'.heap[b]? = w.heap[b]?) {d:D} {v:Value} (h:VR N A w d v) (hs:scA rk bk d=true):VR M' A' w' (renA (sgm bk bids) (sgm rk pids) d) v:=by
 cases d with
 | agg l=>
  cases h with | agg _ us hl' h=>
  refine .agg _ us (by simpa using hl') fun i d hd=>?_;rw [List.getElem?_map] at hd;obtain ⟨d0,h0,rfl⟩:=Option.map_eq_some_iff.1 hd;simp only [scA,List.all_eq_true] at hs;exact sc_ren hl hb hγ hβ hA (h i d0 h0) (hs d0 (List.mem_of_getElem? h0))
 | _=>exact sc_ren hl hb hγ hβ hA h hs
theorem sc_renT {rk pids bk bids:List Nat} (hl:rk.length=pids.length) (hb:bk.length=bids.length) {N M':Mp} {A A':Bool→Nat→Prop} {w w':World}
  (hγ:∀ r i x,mp rk pids r=some i→M'.γ i=some x→N.γ r=some x) (hβ:∀ r i x,mp bk bids r=some i→M'.β i=some x→N.β r=some x)
  (hA:∀ f b,b<w.heap.size→A f b→A' f b∧b<w'.heap.size∧w'.heap[b]? = w.heap[b]?) {d:D} {v:Value} (h:VR N A w d v) (hs:scT rk bk d=true):VR M' A' w' (ren (sgm bk bids) (sgm rk pids) d) v:=by
 cases d with
 | tup l=>
  cases h with | tup _ us hl' h=>
  refine .tup _ us (by simpa using hl') fun i d hd=>?_;rw [List.getElem?_map] at hd;obtain ⟨d0,h0,rfl⟩:=Option.map_eq_some_iff.1 hd;simp only [scT,List.all_eq_true] at hs;exact sc_renA hl hb hγ hβ hA (h i d0 h0) (hs d0 (List.mem_of_getElem? h0))
 | _=>exact sc_renA hl hb hγ hβ hA h hs
def BoxA (A:Bool→Nat→Prop) (M:Mp) (w:World) (b:Nat) (cs:List D):Prop:=
 ∃ k cur e,M.β b=some k∧w.heap[k]? = some (.cells cur e (0,0))∧cs.length=cur.size∧∀ j d,cs[j]? = some d→VR M A w d (cur.getD j undef)
def RowA (A:Bool→Nat→Prop) (M:Mp) (w:World) (r:Nat) (e:TypeId) (q:Sq):Prop:=
 (M.γ r=some none∧q.len=0)∨∃ g cap cur,M.γ r=some (some (g,cap,q.sz))∧w.heap[g]? = some (.cells cur e (0,0))∧q.len≤cap∧cap≤maxLen∧cur.size=cap*q.sz ∧
  ∀ i j d,i<q.len→(q.relem i)[j]? = some d→VR M A w d (cur.getD (i*q.sz+j) undef)
structure HasM (A:Bool→Nat→Prop) (N:Mp) (s:PS) (w:World):Prop where
 box:∀ b cs,s.b b=some cs→BoxA A N w b cs
 boxn:∀ b,s.b b=none→N.β b=none
 row:∀ r e q,s.r r=some (e,q)→RowA A N w r e q
 rown:∀ r,s.r r=none→N.γ r=none
 inj1:∀ b b' k,N.β b=some k→N.β b'=some k→b=b'
 inj2:∀ r r' k c z c' z',N.γ r=some (some (k,c,z))→N.γ r'=some (some (k,c',z'))→r=r'
 inj3:∀ b r k c z,N.β b=some k→N.γ r=some (some (k,c,z))→False
def ArgsM (A:Bool→Nat→Prop) (N:Mp) (w:World) (ds:List D) (args:Array Value):Prop:=
 args.size=ds.length∧∀ i d,ds[i]? = some d→VR N A w d (args.getD i undef)
def Lv (M:Mp) (rk rids bk bids:List Nat):Mp:=⟨fun b=>match mp bk bids b with | some i=>M.β i | none=>none,fun r=>match mpI rk rids r with | some i=>M.γ i | none=>none⟩
def A2 (A:Bool→Nat→Prop) (w:World) (N N':Mp):Bool→Nat→Prop:=fun f k=>(A f k∨w.heap.size≤k∨N.owned k)∧¬ N'.owned k
def conB (rk bk:List Nat) (b:List (List D)):Bool:=b.all fun cs=>cs.all (scS rk bk)
def Sq.refF:Sq→Option Nat
 | .irefs F _ | .rrefs F _=>some F
 | _=>none
theorem VR.relem_any2 {M M':Mp} {A A':Bool→Nat→Prop} {w w':World} {q:Sq} {i j:Nat} {d:D} {v:Value} (hd:(q.relem i)[j]? = some d) (h:VR M A w d v) (hA:∀ f b,b<w.heap.size→A f b→A' f b∧b<w'.heap.size∧w'.heap[b]? = w.heap[b]?)
  (hi:∀ F,q.refF=some F→∀ k x,M'.γ (inn F k)=some x→M.γ (inn F k)=some x):VR M' A' w' d v:=by
 cases q
 case irefs F l=>
  rcases j with _ | j <;> simp [Sq.relem] at hd;subst hd;cases h with | irow _ _ _ _ h1 h=>exact .irow _ _ _ v h1 fun x hx=>h x (hi F rfl _ x hx)
 case rrefs F l=>
  rcases j with _ | _ | j <;> simp [Sq.relem] at hd
  ·subst hd; cases h; exact .int _
  subst hd;cases h with | irow _ _ _ _ h1 h=>exact .irow _ _ _ v h1 fun x hx=>h x (hi F rfl _ x hx)
 all_goals (rw [Sq.relem_eq rfl] at hd; exact h.elem_any (f:=true) hd hA)
def conR (rk:List Nat) (r:List (TypeId×Sq)):Bool:=r.all fun x=>match x.2.refF with | some F=>Lc rk (FK+F % 4294967296) | none=>true
structure MCall (P:Program) (f:FuncId) (ds:List D) (rk bk:List Nat) (r0 r1:List (TypeId×Sq)) (b0 b1:List (List D)) (d:D):Prop where
 enter:∀ args w,(callFunc f args).run P w=.ok (.enter f args) w
 len:rk.length=r0.length∧rk.length=r1.length∧bk.length=b0.length∧bk.length=b1.length
 con0:conB rk bk b0=true
 con1:conB rk bk b1=true
 conr:conR rk r1=true
 nd:scT rk bk d=true
 ndk:Gq rk=true∧Gq bk=true
 run:∀ w N args (A:Bool→Nat→Prop),(∀ f k,A f k→¬ N.owned k)→(∀ k,A true k→A false k)→HasM A N ⟨[],asL rk r0,asL bk b0⟩ w→ArgsM A N w ds args→Calls P f args w fun e w'=>∃ v,e=.returned v ∧
  ∃ N',HasM (A2 A w N N') N' ⟨[],asL rk r1,asL bk b1⟩ w'∧(∀ b,N'.β b=N.β b)∧(∀ r,1000000≤r→r<BIG→N'.γ r=N.γ r) ∧
  (∀ k,N'.owned k→N.owned k∨w.heap.size≤k)∧w'.os=w.os∧w'.tape=w.tape∧w'.output=w.output∧w.heap.size≤w'.heap.size∧(∀ k,k<w.heap.size→¬ N.owned k→w'.heap[k]? = w.heap[k]?)∧VR N' (A2 A w N N') w' d v
section
variable {w0:World} {O0:Hd} {n:Nat} {M:Mp} {s:PS} {a:Act} {w:World} {rk rids bk bids:List Nat}
theorem Rt {k:Nat} (h:(Lv M rk rids bk bids).owned k):(∃ b i,mp bk bids b=some i∧M.β i=some k)∨∃ r i c z,mpI rk rids r=some i∧M.γ i=some (some (k,c,z)):=by
 rcases h with ⟨b,hb⟩ | ⟨r,c,z,hr⟩
 ·simp only [Lv] at hb;split at hb
  ·rename_i i hi; exact .inl ⟨b,i,hi,hb⟩
  cases hb
 simp only [Lv] at hr;split at hr
 ·rename_i i hi; exact .inr ⟨r,i,c,z,hi,hr⟩
 cases hr
theorem Sg {k:Nat} (h:(Lv M rk rids bk bids).owned k):M.owned k:=by
 rcases Rt h with ⟨b,i,_,h⟩ | ⟨r,i,c,z,_,h⟩
 ·exact .inl ⟨i,h⟩
 exact .inr ⟨i,c,z,h⟩
theorem Qz {α:Type}:∀ {l:List Nat} {b:List α} {x:Nat} {y:α},Bw (asL l b) x=some (some y)→y∈b
 | [],b,x,y,h=>by simp [asL,Bw] at h
 | k::l,[],x,y,h=>by simp [asL,Bw] at h
 | k::l,z::b,x,y,h=>by
  by_cases hk:k=x
  ·subst hk; rw [asL,At] at h; cases h; simp
  rw [asL,Au hk] at h; simp [Qz h]
theorem pair_box {f:Nat→Option (List D)} {g:D→D} {x:Nat}:∀ {l i:List Nat} {b:List (List D)},l.length=i.length→Ho f i (b.map fun cs=>cs.map g)→∀ y,Bw (asL l b) x=some (some y)→∃ j,mp l i x=some j∧f j=some (y.map g)
 | [],i,b,_,_,y,h=>by simp [asL,Bw] at h
 | k::l,i,[],_,_,y,h=>by simp [asL,Bw] at h
 | k::l,[],z::b,hl,_,y,h=>by simp at hl
 | k::l,j::i,z::b,hl,hp,y,h=>by
  by_cases hk:k=x
  ·subst hk; rw [asL,At] at h; cases h; exact ⟨j,Ei _ _ _ _,hp.1⟩
  rw [asL,Au hk] at h; rw [Gh hk]; exact pair_box (by simpa using hl) hp.2 y h
theorem Rel.sub {A':Bool→Nat→Prop} (h:Rel w0 O0 n M s a w) {r:List (TypeId×Sq)} {b:List (List D)} (hA:∀ f k,k<w.heap.size→Ow (Fs w0 O0) M f k→A' f k) (hlr:rk.length=rids.length) (hlb:bk.length=bids.length) (hr:Ho s.r rids r) (hb:Ho s.b bids (b.map fun cs=>cs.map (renS (sgm bk bids) (sgm rk rids)))) (hc:conB rk bk b=true)
  (hnr:Gq rids=true) (hnb:Gq bids=true) (hfam:Aal rk rids=true):HasM A' (Lv M rk rids bk bids) ⟨[],asL rk r,asL bk b⟩ w:=by
 have hbig:∀ x y,BIG≤x→(Lv M rk rids bk bids).γ x=some y→M.γ x=some y:=fun x y hx h=>by
  simp only [Lv] at h;split at h
  ·rename_i i hi;rcases Ti hfam hi with ⟨h1,_⟩ | ⟨_,rfl,_⟩
   ·rw [Nat.ble_eq_true_of_le hx] at h1; cases h1
   exact h
  cases h
 have hsr:∀ {x y},Nat.ble BIG x=false→PS.r ⟨[],asL rk r,asL bk b⟩ x=some y→∃ j,mp rk rids x=some j∧s.r j=some y:=fun {x y} hb hx=>by
  rw [PS.r_lo _ hb] at hx;rcases Aai (k:=rk) (i:=rids) (x:=r) (r:=x) (f:=s.r) hlr hr with ⟨h1,_⟩ | ⟨y',j,h1,h2,h3⟩
  ·simp [h1] at hx
  simp only [h1] at hx;cases hx;exact ⟨j,h2,h3⟩
 have hsr2:∀ {x y},PS.r ⟨[],asL rk r,asL bk b⟩ x=some y→∃ j,mpI rk rids x=some j∧s.r j=some y:=fun {x y} hx=>by
  cases hb:Nat.ble BIG x with
  | false=>obtain ⟨j,h1,h2⟩:=hsr hb hx; exact ⟨j,by rw [Ye hb]; exact h1,h2⟩
  | true=>
   rw [PS.r_hi _ hb,PS.inn_r] at hx
   cases h3:PS.r ⟨[],asL rk r,asL bk b⟩ (FK+unF x) with
   | none=>rw [h3] at hx; cases hx
   | some z=>
    obtain ⟨j,h1,h2⟩:=hsr (Abe x) h3;have e:=famB_fk hfam h1;rw [e] at h2;refine ⟨x,by rw [Ab5 hb,h1],?_⟩;rw [PS.r_hi _ hb,PS.inn_r,h2,←h3]; exact hx
 have hsn:∀ {x},PS.r ⟨[],asL rk r,asL bk b⟩ x=none→(Lv M rk rids bk bids).γ x=none:=fun {x} hx=>by
  cases hm:mpI rk rids x with
  | none=>simp [Lv,hm]
  | some i=>
   rcases Ti hfam hm with ⟨h1,_,h2⟩ | ⟨h1,rfl,h2⟩
   ·rw [PS.r_lo _ h1] at hx;rcases Aai (k:=rk) (i:=rids) (x:=r) (r:=x) (f:=s.r) hlr hr with ⟨_,h3⟩ | ⟨y',j,h3,_⟩
    ·rw [h3] at h2; cases h2
    simp [h3] at hx
   simp only [Lv,hm];refine h.rown i ?_;rw [PS.r_hi _ h1,PS.inn_r] at hx ⊢;rcases Aai (k:=rk) (i:=rids) (x:=r) (r:=FK+unF i) (f:=s.r) hlr hr with ⟨_,h3⟩ | ⟨y',j,h3,h4,h5⟩
   ·rw [h3] at h2; cases h2
   rw [h2] at h4;rw [←Option.some.inj h4] at h5;rw [h5];rw [PS.r_lo _ (Abe i)] at hx;simpa [h3] using hx
 simp only [conB,List.all_eq_true] at hc;have hlb':bids.length=b.length:=by have:=Ac6 hb; simpa using this
 have hA':∀ f k,k<w.heap.size→Ow (Fs w0 O0) M f k→A' f k∧k<w.heap.size∧w.heap[k]? = w.heap[k]?:=fun f k h1 h2=>⟨hA f k h1 h2,h1,rfl⟩;refine ⟨fun x cs hx=>?_,fun x hx=>?_,fun x e q hx=>?_,fun x hx=>?_,fun x x' k h1 h2=>?_,fun x x' k c z c' z' h1 h2=>?_,fun x y k c z h1 h2=>?_⟩
 ·simp only [PS.b] at hx
  cases hl:Bw (asL bk b) x with
  | none=>rw [hl] at hx; cases hx
  | some y=>
   rw [hl] at hx;simp only at hx;subst hx;obtain ⟨j,hj1,hj2⟩:=pair_box hlb hb cs hl;obtain ⟨k,cur,e,g1,g2,g3,g4⟩:=h.box j _ hj2;refine ⟨k,cur,e,by simp [Lv,hj1,g1],g2,by simpa using g3,fun i d hd=>?_⟩;have hcs:=hc cs (Qz hl);refine sc_un hlr hlb (M:=M) (fun r i x h1 h2=>by simpa [Lv,Adn hfam h1] using h2) (fun r i x h1 h2=>by simpa [Lv,h1] using h2) hA' (g4 i (renS (sgm bk bids) (sgm rk rids) d) (by simp [hd])) (hcs d (List.mem_of_getElem? hd))
 ·rcases Qw (k:=bk) (i:=bids) (x:=b) (r:=x) hlb hlb' with ⟨_,h2⟩ | ⟨y,j,h1,_⟩
  ·simp [Lv,h2]
  simp [PS.b,h1] at hx
 ·obtain ⟨j,h2,h3⟩:=hsr2 hx;rcases h.row j e q h3 with ⟨g1,g2⟩ | ⟨g,cap,cur,g1,g2,g3,g4,g5,g6⟩
  ·exact .inl ⟨by simp [Lv,h2,g1],g2⟩
  exact .inr ⟨g,cap,cur,by simp [Lv,h2,g1],g2,g3,g4,g5,fun i j d hi hd=>(g6 i j d hi hd).relem_any hd hA' hbig⟩
 ·exact hsn hx
 ·simp only [Lv] at h1 h2
  cases e1:mp bk bids x with
  | none=>simp [e1] at h1
  | some i=>
   cases e2:mp bk bids x' with
   | none=>simp [e2] at h2
   | some i'=>
    simp only [e1] at h1;simp only [e2] at h2;have:=h.inj1 i i' k h1 h2;subst this;have a1:=Ab8 hnb e1;rw [Ab8 hnb e2] at a1;cases a1; rfl
 ·simp only [Lv] at h1 h2
  cases e1:mpI rk rids x with
  | none=>simp [e1] at h1
  | some i=>
   cases e2:mpI rk rids x' with
   | none=>simp [e2] at h2
   | some i'=>
    simp only [e1] at h1;simp only [e2] at h2;have:=h.inj2 i i' k _ _ _ _ h1 h2;subst this;have a1:=Sj hfam hnr e1;rw [Sj hfam hnr e2] at a1;cases a1; rfl
 simp only [Lv] at h1 h2;split at h1
 ·split at h2
  ·exact h.inj3 _ _ _ _ _ h1 h2
  cases h2
 cases h1
def Aby (l:List Nat):Bool:=l.any fun k=>!Kg k
theorem anyFam_not {l:List Nat} (h:Aby l=false) {u:Nat} (hm:FK+unF u∈l):False:=by
 simp only [Aby,List.any_eq_false] at h;have:=h _ hm;rw [Tj] at this;exact this O
def newP (rids pids:List Nat) (x:Nat):Bool:=match Nat.ble BIG x with | true=>Aby rids | false=>match mp pids rids x with | some i=>!Nat.beq i x | none=>false
theorem newP_big {rids pids:List Nat} (h:newP rids pids BIG=false) {x:Nat} (hx:BIG≤x):newP rids pids x=false:=by
 unfold newP at h ⊢;rw [Nat.ble_eq_true_of_le hx];rw [Nat.ble_eq_true_of_le (Nat.le_refl BIG)] at h;exact h
def Wb (l:List Nat) (r:Nat):Bool:=match Nat.ble BIG r with | true=>Lc l (FK+unF r) | false=>Lc l r
theorem Aab {l:List Nat} {r:Nat} (h:Nat.ble BIG r=false):Wb l r=Lc l r:=by unfold Wb; rw [h]
theorem Xq {l:List Nat} {r:Nat} (h:Nat.ble BIG r=true):Wb l r=Lc l (FK+unF r):=by unfold Wb; rw [h]
theorem mpI_in {l m:List Nat} {r i:Nat} (hf:Aal l m=true) (h:mpI l m r=some i):Wb m i=true:=by
 rcases Ti hf h with ⟨h1,h2,h3⟩ | ⟨h1,rfl,h3⟩
 ·rw [Aab h2]; exact mem_isIn (Pf h3).2
 rw [Xq h1]; exact mem_isIn (Pf h3).2
theorem mpI_own {l m:List Nat} (hl:l.length=m.length) (hf:Aal l m=true) (hn:Gq m=true) {F x:Nat} (hF:Lc l (FK+F % 4294967296)=true) (hx:unF x=F % 4294967296) (hb:Nat.ble BIG x=true):mpI m l x=some x:=by
 rw [←hx] at hF;obtain ⟨j,hj⟩:=Pd hl (Pj hF);have e2:=famB_fk hf hj;rw [e2] at hj;rw [Ab5 hb,Ab8 hn hj]
def rfB (s:PS) (rids:List Nat):Bool:=match Aby rids with
 | false=>true
 | true=>s.row.all fun p=>Lc rids p.1 || (match p.2 with | some (_,q)=>(match q.refF with | some G=>Nat.blt G 4294967296&&!Lc rids (FK+G) | none=>!q.isRefs) | none=>true)
theorem Aau {x:Option (Option (TypeId×Sq))} {k:Nat} {e:TypeId} {q:Sq} (h:famr x k=some (e,q)):q.isRefs=false:=by
 unfold famr at h;split at h
 ·split at h
  ·rename_i q0 _ c hc;have e:q=c:=by cases h; rfl
   rw [e];cases q0 <;> simp only [Fq.get] at hc <;> split at hc <;> first | (cases hc; done) | (rw [←Option.some.inj hc]; rfl)
  cases h
 cases h
theorem rfB_ok {s:PS} {rids:List Nat} (h:rfB s rids=true) (ha:Aby rids=true) {r:Nat} {e:TypeId} {q:Sq} (hr:s.r r=some (e,q)) (hin:Wb rids r=false):q.isRefs=false∨∃ G,q.refF=some G∧G<4294967296∧Lc rids (FK+G)=false:=by
 unfold rfB at h;rw [ha] at h;simp only [List.all_eq_true] at h
 cases hb:Nat.ble BIG r with
 | true=>rw [PS.r_hi _ hb] at hr; exact .inl (Aau hr)
 | false=>
  rw [PS.r_lo _ hb] at hr;rw [Aab hb] at hin;split at hr
  ·rename_i x hx;subst hr;have:=h _ (Hp hx);simp only [hin,Bool.false_or] at this;split at this
   ·rename_i G hG;rw [Bool.and_eq_true,Nat.blt_eq] at this;exact .inr ⟨G,hG,this.1,by simpa using this.2⟩
   exact .inl (by simpa using this)
  cases hr
def fixB:List Nat→List Nat→List Nat→List Nat→Bool
 | k::rk,r::rids,p::pids,all=>(match Nat.ble 1000000 k with | true=>Nat.beq r p | false=>Nat.blt r 1000000&&Nat.blt p 1000000&&!Lc all p)&&fixB rk rids pids all
 | _,_,_,_=>true
theorem fixB_ok {all:List Nat}:∀ {rk rids pids:List Nat},fixB rk rids pids all=true→rk.length=rids.length→rk.length=pids.length→Gq rids=true→∀ {k p},mp pids rk p=some k →
  ∃ r,mp pids rids p=some r∧mp rids rk r=some k∧((1000000≤k∧r=p)∨(r<1000000∧p<1000000∧Lc all p=false))
 | [],[],[],_,_,_,_,k,p,h=>by simp [mp] at h
 | k'::rk,r::rids,p'::pids,h,hl,hl',hn,k,p,hm=>by
  simp only [fixB,Bool.and_eq_true] at h;obtain ⟨n1,n2⟩:=Wo hn;by_cases hp:p'=p
  ·subst hp;rw [Ei] at hm;cases hm;refine ⟨r,Ei _ _ _ _,Ei _ _ _ _,?_⟩;have h1:=h.1;split at h1
   ·rename_i hb; exact .inl ⟨Nat.le_of_ble_eq_true hb,Nat.eq_of_beq_eq_true h1⟩
   simp only [Bool.and_eq_true,Nat.blt_eq,Bool.not_eq_true'] at h1;exact .inr ⟨h1.1.1,h1.1.2,h1.2⟩
  rw [Gh hp] at hm;obtain ⟨r',h5,h6,h7⟩:=fixB_ok h.2 (by simpa using hl) (by simpa using hl') n2 hm;exact ⟨r',by rw [Gh hp]; exact h5,by rw [Gh (fun e=>n1 (by subst e; exact (Pf h6).1))]; exact h6,h7⟩
 | [],_::_,_,_,hl,_,_,_,_,_=>by simp at hl
 | [],[],_::_,_,_,hl,_,_,_,_=>by simp at hl
 | _::_,[],_,_,hl,_,_,_,_,_=>by simp at hl
 | _::_,_::_,[],_,_,hl,_,_,_,_=>by simp at hl
theorem asL_map {α β:Type} (g:α→β) (x:Nat):∀ (l:List Nat) (b:List α),Bw (asL l (b.map g)) x=(Bw (asL l b) x).map (Option.map g)
 | [],b=>by cases b <;> rfl
 | k::l,[]=>rfl
 | k::l,y::b=>by
  by_cases hk:k=x
  ·subst hk; simp [asL,At]
  simp only [List.map_cons,asL,Au hk]; exact asL_map g x l b
theorem Adm {α:Type} (x:Nat):∀ (l:List Nat),Bw (l.map fun r=>(r,(none:Option α))) x=if Lc l x then some none else none
 | []=>rfl
 | k::l=>by
  by_cases hk:k=x
  ·subst hk; simp [At,Lc,Nat.beq_refl]
  have:Nat.beq k x=false:=by
   cases hb:Nat.beq k x
   ·rfl
   exact absurd (Nat.eq_of_beq_eq_true hb) hk
  rw [List.map_cons,Au hk,Adm x l];simp [Lc,this]
def PS.after (s:PS) (rids pids:List Nat) (r1:List (TypeId×Sq)) (bids:List Nat) (cells:List (List D)):PS:=
 ⟨s.tmp,asL pids r1++((rids.map fun r=>(r,none))++s.row),asL bids cells++s.box⟩
theorem Rel.after {pids:List Nat} (h:Rel w0 O0 n M s a w) {N':Mp} {w':World} {r1:List (TypeId×Sq)} {b1:List (List D)}
  (hlr:rk.length=rids.length) (hlp:rk.length=pids.length) (hlb:bk.length=bids.length) (hl1:rk.length=r1.length) (hl2:bk.length=b1.length)
  (hnk:Gq rk=true) (hnbk:Gq bk=true) (hnr:Gq rids=true) (hnb:Gq bids=true) (hnp:Gq pids=true) (hfix:fixB rk rids pids rids=true) (hf:Fresh s noB (newP rids pids)) (hc1:conB rk bk b1=true) (hcr:conR rk r1=true) (hfam:Aal rk rids=true) (hfamp:Aal rk pids=true) (hrf:rfB s rids=true)
  (post:HasM (A2 (Ow (Fs w0 O0) M) w (Lv M rk rids bk bids) N') N' ⟨[],asL rk r1,asL bk b1⟩ w') (hβ:∀ b,N'.β b=(Lv M rk rids bk bids).β b) (hγ:∀ r,1000000≤r→r<BIG→N'.γ r=(Lv M rk rids bk bids).γ r)
  (hown:∀ k,N'.owned k→(Lv M rk rids bk bids).owned k∨w.heap.size≤k) (hos:w'.os=w.os) (htp:w'.tape=w.tape) (hout:w'.output=w.output) (hsz:w.heap.size≤w'.heap.size)
  (hfr:∀ k,k<w.heap.size→¬ (Lv M rk rids bk bids).owned k→w'.heap[k]? = w.heap[k]?) :
  ∃ M',Rel w0 O0 n M' (s.after rids pids r1 bids (b1.map fun cs=>cs.map (renS (sgm bk bids) (sgm rk pids)))) a w'∧∀ d v,scT rk bk d=true→VR N' (A2 (Ow (Fs w0 O0) M) w (Lv M rk rids bk bids) N') w' d v→VR M' (Ow (Fs w0 O0) M') w' (ren (sgm bk bids) (sgm rk pids) d) v:=by
 let M':Mp:=⟨M.β,fun r=>match mpI pids rk r with | some k=>N'.γ k | none=>if Wb rids r then none else M.γ r⟩
 have hfam':=Aay hfam;have hfamp':=Aay hfamp
 have F1:∀ k,M'.owned k→M.owned k∨w.heap.size≤k:=by
  rintro k (⟨b,hb⟩ | ⟨r,c,z,hr⟩)
  ·exact .inl (.inl ⟨b,hb⟩)
  simp only [M'] at hr;split at hr
  ·exact (hown k (.inr ⟨_,c,z,hr⟩)).imp_left Sg
  split at hr
  ·cases hr
  exact .inl (.inr ⟨r,c,z,hr⟩)
 have F0:∀ k,(Lv M rk rids bk bids).owned k→¬ N'.owned k→¬ M'.owned k:=by
  intro k hk hk' ho
  have hNb:∀ b,M.β b=some k→(∃ x,mp bk bids x=some b)→False:=by
   rintro b hb ⟨x,hx⟩;exact hk' (.inl ⟨x,by rw [hβ]; simp [Lv,hx,hb]⟩)
  have hcase:=Rt hk;rcases ho with ⟨b,hb⟩ | ⟨r,c,z,hr⟩
  ·rcases hcase with ⟨x,i,hx,hi⟩ | ⟨x,i,c',z',hx,hi⟩
   ·have:=h.inj1 _ _ _ hb hi; subst this; exact hNb b hb ⟨x,hx⟩
   exact h.inj3 _ _ _ _ _ hb hi
  simp only [M'] at hr;split at hr
  ·exact hk' (.inr ⟨_,c,z,hr⟩)
  split at hr
  ·cases hr
  rename_i hin;rcases hcase with ⟨x,i,hx,hi⟩ | ⟨x,i,c',z',hx,hi⟩
  ·exact h.inj3 _ _ _ _ _ hi hr
  have:=h.inj2 _ _ _ _ _ _ _ hr hi; subst this; exact hin (mpI_in hfam hx)
 have F2:∀ f k,k<w'.heap.size→A2 (Ow (Fs w0 O0) M) w (Lv M rk rids bk bids) N' f k→Ow (Fs w0 O0) M' f k∧k<w'.heap.size∧w'.heap[k]? = w'.heap[k]?:=by
  rintro f k hk ⟨h1,h2⟩;refine ⟨?_,hk,O⟩;rcases h1 with h1 | h1 | h1
  ·refine ⟨fun ho=>?_,h1.2⟩;rcases ho with ⟨b,hb⟩ | ⟨r,c,z,hr⟩
   ·exact h1.1 (.inl ⟨b,hb⟩)
   simp only [M'] at hr;split at hr
   ·exact h2 (.inr ⟨_,c,z,hr⟩)
   split at hr
   ·cases hr
   exact h1.1 (.inr ⟨r,c,z,hr⟩)
  ·refine ⟨fun ho=>?_,.inl (Nat.le_trans h.fr.size h1)⟩;rcases ho with ⟨b,hb⟩ | ⟨r,c,z,hr⟩
   ·have:=h.lt k (.inl ⟨b,hb⟩); omega
   simp only [M'] at hr;split at hr
   ·exact h2 (.inr ⟨_,c,z,hr⟩)
   split at hr
   ·cases hr
   have:=h.lt k (.inr ⟨r,c,z,hr⟩); omega
  exact ⟨F0 k h1 h2,(h.low k (Sg h1)).imp_right (O0.sub f k)⟩
 have F3:∀ f k,k<w.heap.size→Ow (Fs w0 O0) M f k→Ow (Fs w0 O0) M' f k∧k<w'.heap.size∧w'.heap[k]? = w.heap[k]?:=fun f k hk ho=>
  ⟨⟨fun h1=>(F1 k h1).elim ho.1 (fun h2=>by omega),ho.2⟩,by omega,hfr k hk fun h1=>ho.1 (Sg h1)⟩
 have hfx:∀ {p k},mpI pids rk p=some k→∃ r,mpI pids rids p=some r∧mpI rids rk r=some k∧((1000000≤k∧k<BIG∧r=p)∨(r<1000000∧p<1000000∧Lc rids p=false)∨(BIG≤p∧r=p∧Wb rids p=true)):=fun {p k} hm=>by
  rcases Ti hfamp' hm with ⟨a1,a2,a3⟩ | ⟨a1,rfl,a3⟩
  ·obtain ⟨r,b1,b2,b3⟩:=fixB_ok hfix hlr hlp hnr a3;have hr0:=(famB_lt hfam' b2).1;refine ⟨r,by rw [Ye a1]; exact b1,by rw [Ye hr0]; exact b2,?_⟩;rcases b3 with ⟨b4,b5⟩ | b4
   ·refine .inl ⟨b4,?_,b5⟩;rcases Nat.lt_or_ge k BIG with h | h
    ·exact h
    rw [Nat.ble_eq_true_of_le h] at a2; cases a2
   exact .inr (.inl b4)
  obtain ⟨r,b1,b2,b3⟩:=fixB_ok hfix hlr hlp hnr a3
  have e:FK+unF k=r:=by
   rcases famB_ok hfam' b2 with ⟨_,c2⟩ | ⟨c1,_⟩
   ·rw [Tj] at c2; cases c2
   exact c1.symm
  subst e;exact ⟨k,by rw [Ab5 a1,b1],by rw [Ab5 a1,b2],.inr (.inr ⟨Nat.le_of_ble_eq_true a1,O,by rw [Xq a1]; exact mem_isIn (Pf b2).1⟩)⟩
 have hNγ:∀ {r k},mpI rids rk r=some k→(Lv M rk rids bk bids).γ k=M.γ r:=fun hm=>by simp [Lv,Sj hfam' hnk hm]
 have F4:∀ x y,newP rids pids x=false→M'.γ x=some y→M.γ x=some y:=by
  intro x y hx hy;simp only [M'] at hy;split at hy
  ·rename_i k hk;obtain ⟨r,h1,h2,h3⟩:=hfx hk;rcases h3 with ⟨h4,h5,rfl⟩ | ⟨_,h4',h4⟩ | ⟨h4,rfl,h5⟩
   ·rw [hγ k h4 h5,hNγ h2] at hy; exact hy
   ·have hb:Nat.ble BIG x=false:=by
     cases hb:Nat.ble BIG x with
     | false=>rfl
     | true=>
      have:=Nat.le_of_ble_eq_true hb;have h6:BIG≤1000000:=by omega
      exact absurd h6 (by decide)
    unfold newP at hx;rw [hb] at hx;rw [Ye hb] at h1;simp only [h1] at hx;have hrx:r=x:=Nat.eq_of_beq_eq_true (by simpa using hx);subst hrx;have hin:=mpI_in hfam (Sj hfam' hnk h2);rw [Aab hb,h4] at hin; cases hin
   have hb:=Nat.ble_eq_true_of_le h4;unfold newP at hx;rw [hb] at hx;rw [Xq hb] at h5;exact (anyFam_not hx (Pj h5)).elim
  split at hy
  ·cases hy
  exact hy
 have F5:∀ x,Nat.ble BIG x=true→Wb rids x=false→∀ y,M'.γ x=some y→M.γ x=some y:=by
  intro x hb hin y hy;simp only [M'] at hy;split at hy
  ·rename_i k hk;obtain ⟨r,h1,h2,h3⟩:=hfx hk;have h4:=mpI_in hfam (Sj hfam' hnk h2);rcases h3 with ⟨_,_,h5⟩ | ⟨_,h5,_⟩ | ⟨_,_,h5⟩
   ·rw [h5,hin] at h4; cases h4
   ·have:=Nat.le_of_ble_eq_true hb;have h6:BIG≤1000000:=by omega
    exact absurd h6 (by decide)
   rw [hin] at h5; cases h5
  split at hy
  ·cases hy
  exact hy
 have hother:∀ k,M.owned k→¬ (Lv M rk rids bk bids).owned k→w'.heap[k]? = w.heap[k]?:=fun k h1 h2=>hfr k (h.lt k h1) h2;have hβM:∀ {x j},mp bids bk x=some j→N'.β j=M.β x:=fun hm=>by rw [hβ]; simp [Lv,Ab8 hnbk hm]
 have hlb2:bids.length=bk.length:=hlb.symm
 have hNrow:∀ {r k c z},Wb rids r=false→M.γ r=some (some (k,c,z))→¬ (Lv M rk rids bk bids).owned k:=by
  intro r k c z hr hk ho;rcases Rt ho with ⟨x,i,hx,hi⟩ | ⟨x,i,c',z',hx,hi⟩
  ·exact h.inj3 _ _ _ _ _ hi hk
  have:=h.inj2 _ _ _ _ _ _ _ hk hi; subst this; rw [mpI_in hfam hx] at hr; cases hr
 have hNbox:∀ {b k},mp bids bk b=none→M.β b=some k→¬ (Lv M rk rids bk bids).owned k:=by
  intro b k hb hk ho;rcases Rt ho with ⟨x,i,hx,hi⟩ | ⟨x,i,c',z',hx,hi⟩
  ·have:=h.inj1 _ _ _ hk hi; subst this;obtain ⟨y,hy⟩:=Pd hlb2 (Pf hx).2;rw [hb] at hy; cases hy
  exact h.inj3 _ _ _ _ _ hk hi
 have alo:∀ x,Nat.ble BIG x=false→(s.after rids pids r1 bids (b1.map fun cs=>cs.map (renS (sgm bk bids) (sgm rk pids)))).r x=match mp pids rk x with | some j=>PS.r ⟨[],asL rk r1,asL bk b1⟩ j | none=>if Lc rids x then none else s.r x:=fun x hb=>by
  rw [PS.r_lo _ hb,show (s.after rids pids r1 bids (b1.map fun cs=>cs.map (renS (sgm bk bids) (sgm rk pids)))).row=asL pids r1++((rids.map fun r=>(r,none))++s.row) from rfl,Fw,Fw,Adm];rcases Qw (k:=pids) (i:=rk) (x:=r1) (r:=x) hlp.symm hl1 with ⟨e1,e2⟩ | ⟨y,j,e1,e2,e3⟩
  ·rw [e1,e2];by_cases hin:Lc rids x=true
   ·simp [hin]
   simp only [hin,if_false,Bool.false_eq_true];rw [PS.r_lo _ hb]
  rw [e1,e2];simp only;rw [PS.r_lo _ (famB_lt hfamp' e2).2];simp only [e3 hnk]
 have aall:∀ x,(s.after rids pids r1 bids (b1.map fun cs=>cs.map (renS (sgm bk bids) (sgm rk pids)))).r x=match mpI pids rk x with | some j=>PS.r ⟨[],asL rk r1,asL bk b1⟩ j | none=>if Wb rids x then none else s.r x:=fun x=>by
  cases hb:Nat.ble BIG x with
  | false=>rw [alo x hb,Ye hb,Aab hb]
  | true=>
   rw [PS.r_hi _ hb,PS.inn_r,alo _ (Abe x),Ab5 hb,Xq hb]
   cases hm:mp pids rk (FK+unF x) with
   | some j=>
    have e:=famB_fk hfamp' hm;simp only [e];rw [PS.r_hi _ hb,PS.inn_r]
   | none=>
    simp only;by_cases hin:Lc rids (FK+unF x)=true
    ·simp only [hin,if_true]; rfl
    simp only [hin,if_false,Bool.false_eq_true];rw [PS.r_hi _ hb,PS.inn_r]
 have hMN:∀ y,mpI pids rk y=some y→M'.γ y=N'.γ y:=fun y hy=>by simp only [M',hy]
 have hNbig:∀ F,Lc rk (FK+F % 4294967296)=true→∀ k x,M'.γ (inn F k)=some x→N'.γ (inn F k)=some x:=fun F hF k x hx=>by
  have:=mpI_own hlp hfamp hnp hF (Px F k) (Nat.ble_eq_true_of_le (Pe F k));rw [hMN _ this] at hx;exact hx
 have hkeep:∀ {r e q i j d v},s.r r=some (e,q)→Wb rids r=false→(q.relem i)[j]? = some d→VR M (Ow (Fs w0 O0) M) w d v→VR M' (Ow (Fs w0 O0) M') w' d v:=fun {r e q i j d v} h1 h2 h3 h4=>by
  cases ha:Aby rids with
  | false=>
   refine h4.relem_any h3 F3 fun x y hx hy=>F4 x y ?_ hy;unfold newP; rw [Nat.ble_eq_true_of_le hx]; exact ha
  | true=>
   rcases rfB_ok hrf ha h1 h2 with h5 | ⟨G,h5,h6,h7⟩
   ·rw [Sq.relem_eq h5] at h3;exact h4.elem_any h3 F3
   refine h4.relem_any2 h3 F3 fun G' hG' k y hy=>F5 _ (Lz G' k) ?_ y hy;rw [h5] at hG';cases hG';rw [Xq (Lz G k),Px,Nat.mod_eq_of_lt h6];exact h7
 refine ⟨M',⟨?_,h.dfr,h.sz,fun t=>?_,fun x cs hx=>?_,fun x hx=>?_,fun r e q hr=>?_,fun r hr=>?_,fun k hk=>?_,h.inj1,fun r r' k c z c' z' h1 h2=>?_,fun b r k c z h1 h2=>?_,h.nle,h.fxb,fun r x x' h1 h2=>?_⟩,fun d v hd hv=>?_⟩
 ·refine h.fr.step hos htp hout hsz fun k hk h1=>hfr k (Nat.lt_of_lt_of_le hk h.fr.size) fun ho=>?_;rcases h.low k (Sg ho) with h2 | h2
  ·omega
  exact h1 h2
 ·exact VR.new (b:=noB) (r:=newP rids pids) F3 F4 (fun x k _ hx=>hx) (hf.t t) (h.tmp t) (hi:=fun h0 x y hx hy=>F4 x y (newP_big h0 hx) hy)
 ·simp only [PS.after,PS.b,Fw] at hx;rcases Qw (k:=bids) (i:=bk) (x:=b1.map fun cs=>cs.map (renS (sgm bk bids) (sgm rk pids))) (r:=x) hlb2 (by simpa using hl2) with ⟨e1,e2⟩ | ⟨y,j,e1,e2,e3⟩
  ·rw [e1] at hx;have hx':s.b x=some cs:=hx;obtain ⟨k,cur,e,g1,g2,g3,g4⟩:=h.box x cs hx';refine ⟨k,cur,e,g1,(hother k (.inl ⟨x,g1⟩) (hNbox e2 g1)).trans g2,g3,fun i d hd=>?_⟩
   have hm:Jp noB (newP rids pids) d=false:=by
    have:=hf.b x cs hx' d (List.mem_of_getElem? hd);cases d <;> first | exact this | (simp [Dh] at this)
   exact VR.new (b:=noB) (r:=newP rids pids) F3 F4 (fun x k _ hx=>hx) hm (g4 i d hd) (hi:=fun h0 x y hx hy=>F4 x y (newP_big h0 hx) hy)
  rw [e1] at hx;simp only [Option.some.injEq] at hx;subst hx;have e4:=e3 hnbk;rw [asL_map] at e4;obtain ⟨y0,e5,e6⟩:=Option.map_eq_some_iff.1 e4
  cases y0 with
  | none=>cases e6
  | some y0=>
   simp only [Option.map_some,Option.some.injEq] at e6;subst e6;obtain ⟨k,cur,e,g1,g2,g3,g4⟩:=post.box j y0 (by simp [PS.b,e5]);refine ⟨k,cur,e,by rw [←hβM e2]; exact g1,g2,by simpa using g3,fun i d hd=>?_⟩;rw [List.getElem?_map] at hd;obtain ⟨d0,hd0,rfl⟩:=Option.map_eq_some_iff.1 hd
   have hs:scS rk bk d0=true:=by
    simp only [conB,List.all_eq_true] at hc1;exact hc1 y0 (Qz e5) d0 (List.mem_of_getElem? hd0)
   refine sc_ren hlp hlb (fun r i x hr hx=>?_) (fun r i x hr hx=>?_) F2 (g4 i d0 hd0) hs
   ·simp only [M',Sj hfamp hnp (Adn hfamp hr)] at hx; exact hx
   rw [hβ]; simp only [Lv,hr]; exact hx
 ·simp only [PS.after,PS.b,Fw] at hx;rcases Qw (k:=bids) (i:=bk) (x:=b1.map fun cs=>cs.map (renS (sgm bk bids) (sgm rk pids))) (r:=x) hlb2 (by simpa using hl2) with ⟨e1,e2⟩ | ⟨y,j,e1,e2,e3⟩
  ·rw [e1] at hx; exact h.boxn x hx
  rw [e1] at hx; cases hx
 ·rw [aall] at hr
  cases hm:mpI pids rk r with
  | none=>
   rw [hm] at hr;by_cases hin:Wb rids r=true
   ·simp only [hin,if_true] at hr; cases hr
   have hin':Wb rids r=false:=by simpa using hin
   simp only [hin',if_false,Bool.false_eq_true] at hr;have hM:M'.γ r=M.γ r:=by simp [M',hm,hin']
   rcases h.row r e q hr with ⟨g1,g2⟩ | ⟨g,cap,cur,g1,g2,g3,g4,g5,g6⟩
   ·exact .inl ⟨hM.trans g1,g2⟩
   exact .inr ⟨g,cap,cur,hM.trans g1,(hother g (.inr ⟨r,_,_,g1⟩) (hNrow hin' g1)).trans g2,g3,g4,g5,fun i j d hi hd=>hkeep hr hin' hd (g6 i j d hi hd)⟩
  | some j=>
   rw [hm] at hr;simp only at hr;have hM:M'.γ r=N'.γ j:=by simp [M',hm]
   have hq:∀ F,q.refF=some F→Lc rk (FK+F % 4294967296)=true:=fun F hF=>by
    cases hb:Nat.ble BIG j with
    | true=>
     rw [PS.r_hi _ hb] at hr;have:=Aau hr;cases q <;> simp [Sq.refF,Sq.isRefs] at hF this
    | false=>
     rw [PS.r_lo _ hb] at hr;split at hr
     ·rename_i x hx;subst hr;have:=(List.all_eq_true.1 hcr) _ (Qz hx);simp only [hF] at this;exact this
     cases hr
   rcases post.row j e q hr with ⟨g1,g2⟩ | ⟨g,cap,cur,g1,g2,g3,g4,g5,g6⟩
   ·exact .inl ⟨hM.trans g1,g2⟩
   exact .inr ⟨g,cap,cur,hM.trans g1,g2,g3,g4,g5,fun i j d hi hd=>(g6 i j d hi hd).relem_any2 hd F2 fun F hF=>hNbig F (hq F hF)⟩
 ·rw [aall] at hr
  cases hm:mpI pids rk r with
  | none=>
   rw [hm] at hr;simp only [M',hm];split
   ·rfl
   rename_i hin;have hin':Wb rids r=false:=by simpa using hin
   simp only [hin',if_false,Bool.false_eq_true] at hr;exact h.rown r hr
  | some j=>
   rw [hm] at hr;simp only [M',hm];exact post.rown j hr
 ·rcases F1 k hk with h1 | h1
  ·exact h.low k h1
  exact .inl (Nat.le_trans h.fr.size h1)
 ·simp only [M'] at h1 h2
  have mix:∀ {r' k j:Nat} {c z c' z':Nat},N'.γ j=some (some (k,c,z))→mpI pids rk r'=none→Wb rids r'=false→M.γ r'=some (some (k,c',z'))→False:=by
   intro r' k j c z c' z' a1 a2 a3 a4;rcases hown k (.inr ⟨j,_,_,a1⟩) with b1 | b1
   ·exact hNrow a3 a4 b1
   have:=h.lt k (.inr ⟨r',_,_,a4⟩); omega
  cases e1:mpI pids rk r with
  | none=>
   simp only [e1] at h1;split at h1
   ·cases h1
   rename_i i1
   cases e2:mpI pids rk r' with
   | none=>
    simp only [e2] at h2;split at h2
    ·cases h2
    exact h.inj2 _ _ _ _ _ _ _ h1 h2
   | some j'=>
    simp only [e2] at h2;exact (mix h2 e1 (by simpa using i1) h1).elim
  | some j=>
   simp only [e1] at h1
   cases e2:mpI pids rk r' with
   | none=>
    simp only [e2] at h2;split at h2
    ·cases h2
    rename_i i2;exact (mix h1 e2 (by simpa using i2) h2).elim
   | some j'=>
    simp only [e2] at h2;have:=post.inj2 _ _ _ _ _ _ _ h1 h2;subst this;have a1:=Sj hfamp' hnk e1;rw [Sj hfamp' hnk e2] at a1;cases a1; rfl
 ·simp only [M'] at h1 h2;split at h2
  ·rename_i j hj;rcases hown k (.inr ⟨j,_,_,h2⟩) with b1 | b1
   ·rcases Rt b1 with ⟨x,i,hx,hi⟩ | ⟨x,i,c',z',hx,hi⟩
    ·have:=h.inj1 _ _ _ h1 hi; subst this;exact post.inj3 x j k c z (by rw [hβ]; simp [Lv,hx,hi]) h2
    exact h.inj3 _ _ _ _ _ h1 hi
   have:=h.lt k (.inl ⟨b,h1⟩); omega
  split at h2
  ·cases h2
  exact h.inj3 _ _ _ _ _ h1 h2
 ·obtain ⟨h3,h3'⟩:=O0.lor r x h1;simp only [M'] at h2;split at h2
  ·rename_i j hj;obtain ⟨r',g1,g2,g3⟩:=hfx hj;rcases g3 with ⟨g4,g5,rfl⟩ | ⟨_,g4,_⟩ | ⟨g4,_,_⟩
   ·rw [hγ j g4 g5,hNγ g2] at h2; exact h.fxr _ _ _ h1 h2
   ·omega
   omega
  split at h2
  ·cases h2
  exact h.fxr _ _ _ h1 h2
 refine sc_renT hlp hlb (fun r i x hr hx=>?_) (fun r i x hr hx=>?_) F2 hv hd
 ·simp only [M',Sj hfamp hnp (Adn hfamp hr)] at hx; exact hx
 rw [hβ]; simp only [Lv,hr]; exact hx
def fitM1 (rk rids bk bids:List Nat) (c:D):D→Prop
 | .ro f q=>c=.ro f q∨(c=.ro true q∧f=false)∨(c=.nil∧q.len=0)
 | .agg _=>False
 | .tup _=>False
 | d=>c=renS (sgm bk bids) (sgm rk rids) d∧scS rk bk d=true
def fitML (rk rids bk bids:List Nat):List D→List D→Prop
 | [],[]=>True
 | a::l,b::m=>fitM1 rk rids bk bids a b∧fitML rk rids bk bids l m
 | _,_=>False
def fitMA (rk rids bk bids:List Nat):D→D→Prop
 | .agg l,.agg m=>fitML rk rids bk bids l m
 | c,d=>fitM1 rk rids bk bids c d
def Acu (rk rids bk bids:List Nat) (s:PS):List Operand→List D→Prop
 | [],[]=>True
 | x::l,b::m=>fitMA rk rids bk bids (s.ev x) b∧Acu rk rids bk bids s l m
 | _,_=>False
theorem VR.unflag {A A':Bool→Nat→Prop} (hA:∀ f f' k,A f k→f'=f∨f'=false→A' f' k) {M M':Mp} {w:World} {d:D} {v:Value} (h:VR M A w d v):∀ d',Pq d d'→(∀ f q f' q',d=.ro f q→d'=.ro f' q'→f'=f∨f'=false)→VR M' A' w d' v:=by
 induction h with
 | ro f q ao cap b o u hn hc hao hu hv ih=>
  intro d' hd hf;cases d' <;> simp only [Pq] at hd;rename_i f' q';subst hd;have hff:=hf f q f' q rfl rfl;refine .ro f' q ao cap b o u hn hc (fun h0=>⟨(hao h0).1,(hao h0).2.1,hA f f' b (hao h0).2.2 hff⟩) (fun i j d' hi hd'=>?_) (fun i j d' hi hd'=>?_)
  ·obtain ⟨d,h1,_⟩:=Ql f f' q i j d' hd'; exact hu i j d hi h1
  obtain ⟨d,h1,h2⟩:=Ql f f' q i j d' hd';refine ih i j d hi h1 d' h2 fun g p g' p' e1 e2=>?_;subst e1 e2;cases q <;> simp only [Sq.elem] at h1 hd' <;> rcases j with _ | _ | j <;> simp at h1 hd' <;> first | (obtain ⟨rfl,_⟩:=h1; obtain ⟨rfl,_⟩:=hd'; exact hff) | skip
 | int n=>intro d' hd _; cases d' <;> simp only [Pq] at hd; subst hd; exact .int _
 | bool b=>intro d' hd _; cases d' <;> simp only [Pq] at hd; subst hd; exact .bool _
 | val v h=>intro d' hd _; cases d' <;> simp only [Pq] at hd; subst hd; exact .val _ h
 | any v h=>intro d' hd _; cases d' <;> simp only [Pq] at hd; exact .any _ h
 | _=>intro d' hd; simp [Pq] at hd
theorem fitM1_ok {A:Bool→Nat→Prop} (hm:∀ k,A true k→A false k) (hl:rk.length=rids.length) (hb:bk.length=bids.length) (hfam:Aal rk rids=true) {c d:D} {v:Value} (hv:VR M A w c v) (hf:fitM1 rk rids bk bids c d):VR (Lv M rk rids bk bids) A w d v:=by
 have hA:∀ f b,b<w.heap.size→A f b→A f b∧b<w.heap.size∧w.heap[b]? = w.heap[b]?:=fun f b h1 h2=>⟨h2,h1,rfl⟩
 have go:c=renS (sgm bk bids) (sgm rk rids) d∧scS rk bk d=true→VR (Lv M rk rids bk bids) A w d v:=by
  rintro ⟨rfl,hs⟩;exact sc_un hl hb (fun r i x h1 h2=>by simpa [Lv,Adn hfam h1] using h2) (fun r i x h1 h2=>by simpa [Lv,h1] using h2) hA hv hs
 cases d with
 | ro f q=>
  rcases hf with rfl | ⟨rfl,rfl⟩ | ⟨rfl,h0⟩
  ·exact hv.ro_any hA
  ·refine hv.unflag (M':=Lv M rk rids bk bids) (A':=A) (fun f f' k h1 h2=>?_) (.ro false q) O (fun f q' f' q'' e1 e2=>by cases e1; cases e2; exact .inr O);rcases h2 with rfl | rfl
   ·exact h1
   cases f
   ·exact h1
   exact hm k h1
  obtain ⟨ao0,hao0⟩:=hv.nil_inv;rw [hao0];have:=VR.ro (M:=Lv M rk rids bk bids) (A:=A) (w:=w) f q ao0 0 0 0 (fun _ _=>undef) (by omega) (by omega) (by omega) (by intro i j d hi; omega) (by intro i j d hi; omega)
  rwa [h0] at this
 | agg l=>exact hf.elim
 | tup l=>exact hf.elim
 | _=>exact go hf
theorem fitML_ok {A:Bool→Nat→Prop} (hm:∀ k,A true k→A false k) (hl:rk.length=rids.length) (hb:bk.length=bids.length) (hfam:Aal rk rids=true):∀ {l m:List D},fitML rk rids bk bids l m→l.length=m.length∧∀ (i:Nat) (d':D),m[i]? = some d'→∃ d,l[i]? = some d∧∀ v,VR M A w d v→VR (Lv M rk rids bk bids) A w d' v
 | [],[],_=>⟨rfl,by simp⟩
 | a::l,b::m,h=>by
  obtain ⟨h1,h2⟩:=fitML_ok hm hl hb hfam h.2;refine ⟨by simp [h1],fun i d' hd=>?_⟩
  cases i with
  | zero=>simp at hd; subst hd; exact ⟨a,rfl,fun v hv=>fitM1_ok hm hl hb hfam hv h.1⟩
  | succ i=>exact h2 i d' (by simpa using hd)
 | [],_::_,h=>h.elim
 | _::_,[],h=>h.elim
theorem fitMA_ok {A:Bool→Nat→Prop} (hm:∀ k,A true k→A false k) (hl:rk.length=rids.length) (hb:bk.length=bids.length) (hfam:Aal rk rids=true) {c d:D} {v:Value} (hv:VR M A w c v) (hf:fitMA rk rids bk bids c d):VR (Lv M rk rids bk bids) A w d v:=by
 cases d with
 | agg m=>
  cases c with
  | agg l=>
   obtain ⟨us,rfl,h1,h2⟩:=hv.agg_inv;obtain ⟨g1,g2⟩:=fitML_ok (M:=M) (w:=w) hm hl hb hfam hf;refine .agg _ us (by omega) fun i d' hd=>?_;obtain ⟨d,h3,h4⟩:=g2 i d' hd;exact h4 _ (h2 i d h3)
  | _=>exact hf.elim
 | _=>cases c <;> exact fitM1_ok hm hl hb hfam hv hf
theorem fitsM_ok {A:Bool→Nat→Prop} (hm:∀ k,A true k→A false k) (hl:rk.length=rids.length) (hb:bk.length=bids.length) (hfam:Aal rk rids=true) (hev:∀ x,VR M A w (s.ev x) (a.eval x)):∀ {xs:List Operand} {ds:List D},Acu rk rids bk bids s xs ds→xs.length=ds.length ∧
  ∀ (i:Nat) (d:D),ds[i]? = some d→∃ x,xs[i]? = some x∧VR (Lv M rk rids bk bids) A w d (a.eval x)
 | [],[],_=>⟨rfl,by simp⟩
 | x::l,b::m,h=>by
  obtain ⟨h1,h2⟩:=fitsM_ok hm hl hb hfam hev h.2;refine ⟨by simp [h1],fun i d' hd=>?_⟩
  cases i with
  | zero=>simp at hd; subst hd; exact ⟨x,rfl,fitMA_ok hm hl hb hfam (hev x) h.1⟩
  | succ i=>exact h2 i d' (by simpa using hd)
 | [],_::_,h=>h.elim
 | _::_,[],h=>h.elim
end
section
variable {C:Cx} {ops:Array Oper} {K:PS→Prop} {o:Oper} {rest:List Oper} {s s':PS} {rk rids bk bids pids:List Nat}
def mchk (rk rids bk bids pids:List Nat):Bool:=Nat.beq rk.length rids.length&&Nat.beq rk.length pids.length&&Nat.beq bk.length bids.length&&Gq rids&&Gq bids&&Gq pids&&fixB rk rids pids rids&&Aal rk rids&&Aal rk pids
theorem sMCallAny {f:FuncId} {ds:List D} {r0 r1:List (TypeId×Sq)} {b0 b1:List (List D)} {d:D} (hp:MCall C.P f ds rk bk r0 r1 b0 b1 d) (hds:Me C.n o.dst=true)
  (hrun:∀ M a w,Rel C.w0 C.O0 C.n M s a w→∃ args,(execOp a.eval o).run C.P w=.ok (.enter f args) w∧ArgsM (Ow (Fs C.w0 C.O0) M) (Lv M rk rids bk bids) w ds args)
  (hchk:mchk rk rids bk bids pids=true) (hrf:rfB s rids=true) (hf:Fresh s noB (newP rids pids)) (hr:Ho s.r rids r0) (hb:Ho s.b bids (b0.map fun cs=>cs.map (renS (sgm bk bids) (sgm rk rids))))
  (h:K ((s.after rids pids r1 bids (b1.map fun cs=>cs.map (renS (sgm bk bids) (sgm rk pids)))).put o.dst (ren (sgm bk bids) (sgm rk pids) d))):Step C o s K:=⟨fun M a w Q K' hrl hk=>by
 simp only [mchk,Bool.and_eq_true] at hchk;obtain ⟨⟨⟨⟨⟨⟨⟨⟨c1,c2⟩,c3⟩,c4⟩,c5⟩,c6⟩,c7⟩,c8⟩,c9⟩:=hchk;have l1:=Nat.eq_of_beq_eq_true c1;have l2:=Nat.eq_of_beq_eq_true c2;have l3:=Nat.eq_of_beq_eq_true c3;obtain ⟨args,hex,hargs⟩:=hrun M a w hrl;unfold Oper.wp;rw [hex];refine (hp.run w (Lv M rk rids bk bids) args (Ow (Fs C.w0 C.O0) M) (fun f k ha ho=>ha.1 (Sg ho)) (fun k ha=>⟨ha.1,ha.2.imp_right (C.O0.mon k)⟩) (hrl.sub (fun _ _ _ h=>h) l1 l3 hr hb hp.con0 c4 c5 c8) hargs).mono ?_;rintro e w' ⟨v,rfl,N',p1,p2,p3,p4,p5,p6,p7,p8,p9,p10⟩;obtain ⟨M',g1,g2⟩:=hrl.after l1 l2 l3 hp.len.2.1 hp.len.2.2.2 hp.ndk.1 hp.ndk.2 c4 c5 c6 c7 hf hp.con1 hp.conr c8 c9 hrf p1 p2 p3 p4 p5 p6 p7 p8 p9
 exact hk M' _ _ _ h (g1.put hds (g2 d v hp.nd p10))⟩
theorem Rel.mon {w0:World} {O0:Hd} {M:Mp}:∀ k,Ow (Fs w0 O0) M true k→Ow (Fs w0 O0) M false k:=fun k ha=>⟨ha.1,ha.2.imp_right (O0.mon k)⟩
theorem sMCall {f:FuncId} {args:Array Operand} {ts:Array TypeId} {ds:List D} {r0 r1:List (TypeId×Sq)} {b0 b1:List (List D)} {d:D} (hop:o.op=.call { callee:=.value (.func f),args:=args,argTypes:=ts }) (hp:MCall C.P f ds rk bk r0 r1 b0 b1 d) (hds:Me C.n o.dst=true)
  (hchk:mchk rk rids bk bids pids=true) (hrf:rfB s rids=true) (hf:Fresh s noB (newP rids pids)) (hr:Ho s.r rids r0) (hb:Ho s.b bids (b0.map fun cs=>cs.map (renS (sgm bk bids) (sgm rk rids)))) (hfit:Acu rk rids bk bids s args.toList ds)
  (h:K ((s.after rids pids r1 bids (b1.map fun cs=>cs.map (renS (sgm bk bids) (sgm rk pids)))).put o.dst (ren (sgm bk bids) (sgm rk pids) d))):Step C o s K:=by
 refine sMCallAny hp hds (fun M a w hr=>?_) hchk hrf hf hr hb h;refine ⟨args.map a.eval,?_,?_⟩
 ·have:=hp.enter (args.map a.eval) w;unfold execOp;rw [hop];show ((do let d ←resolve a.eval _ o.type; invoke d.target d.args:Sem Next)).run C.P w=_;simp only [resolve];show ((callFunc f ((#[]++args.map a.eval)++#[])):Sem Next).run C.P w=_;rw [show (#[]++args.map a.eval)++#[]=args.map a.eval by simp];exact this
 simp only [mchk,Bool.and_eq_true] at hchk;obtain ⟨g1,g2⟩:=fitsM_ok (M:=M) (w:=w) (a:=a) Rel.mon (Nat.eq_of_beq_eq_true hchk.1.1.1.1.1.1.1.1) (Nat.eq_of_beq_eq_true hchk.1.1.1.1.1.1.2) hchk.1.2 hr.ev hfit;refine ⟨by simpa using g1,fun i d hd=>?_⟩;obtain ⟨x,h1,h2⟩:=g2 i d hd;rw [Array.getElem?_toList] at h1;have:(args.map a.eval).getD i undef=a.eval x:=by simp [h1]
 rw [this]; exact h2
end
end
section
open Go.RowKit Go.Deep
section
variable {C:Cx} {ops:Array Oper} {K:PS→Prop} {o:Oper} {rest:List Oper} {s s':PS} {rk rids bk bids pids:List Nat} {tm:List (Nat×D)} {rw':List (Nat×Option (TypeId×Sq))} {bx:List (Nat×Option (List D))}
theorem Co {f:FuncId} {args:Array Operand} {ts:Array TypeId} {ds:List D} {r0 r1:List (TypeId×Sq)} {b0 b1:List (List D)} {d:D} (hp:MCall C.P f ds rk bk r0 r1 b0 b1 d) (rids bids pids:List Nat) (hg:o.guard=none) (hop:o.op=.call { callee:=.value (.func f),args:=args,argTypes:=ts }) (hn:Me C.n o.dst=true)
  (hchk:mchk rk rids bk bids pids=true) (hf:frB ⟨tm,rw',bx⟩ noB (newP rids pids)=true)
  (hnf:nf ((PS.after ⟨tm,rw',bx⟩ rids pids r1 bids (b1.map fun cs=>cs.map (renS (sgm bk bids) (sgm rk pids)))).put o.dst (ren (sgm bk bids) (sgm rk pids) d))=some s')
  (hr:Ho (PS.r ⟨tm,rw',bx⟩) rids r0) (hb:Ho (PS.b ⟨tm,rw',bx⟩) bids (b0.map fun cs=>cs.map (renS (sgm bk bids) (sgm rk rids)))) (hfit:Acu rk rids bk bids ⟨tm,rw',bx⟩ args.toList ds) (h:VO C ops K rest s') (hrf:rfB ⟨tm,rw',bx⟩ rids=true:=by rfl):VO C ops K (o::rest) ⟨tm,rw',bx⟩:=
 vOp hg (sMCall hop hp hn hchk hrf (Mz hf) hr hb hfit (vNf hnf h))
theorem oMCallG {f:FuncId} {args:Array Operand} {ts:Array TypeId} {ds:List D} {r0 r1:List (TypeId×Sq)} {b0 b1:List (List D)} {d:D} (hp:MCall C.P f ds rk bk r0 r1 b0 b1 d) (rids bids pids:List Nat) {j y:Nat} {want b':Bool} (hg:o.guard=some (j,want)) (hgd:Hy ops j=some y) (hy:Nat.blt y C.n=true) (hs:(PS.t ⟨tm,rw',bx⟩ y)=.bool b') (hbb:b'=want)
  (hop:o.op=.call { callee:=.value (.func f),args:=args,argTypes:=ts }) (hn:Me C.n o.dst=true)
  (hchk:mchk rk rids bk bids pids=true) (hf:frB ⟨tm,rw',bx⟩ noB (newP rids pids)=true)
  (hnf:nf ((PS.after ⟨tm,rw',bx⟩ rids pids r1 bids (b1.map fun cs=>cs.map (renS (sgm bk bids) (sgm rk pids)))).put o.dst (ren (sgm bk bids) (sgm rk pids) d))=some s')
  (hr:Ho (PS.r ⟨tm,rw',bx⟩) rids r0) (hb:Ho (PS.b ⟨tm,rw',bx⟩) bids (b0.map fun cs=>cs.map (renS (sgm bk bids) (sgm rk rids)))) (hfit:Acu rk rids bk bids ⟨tm,rw',bx⟩ args.toList ds) (h:VO C ops K rest s') (hrf:rfB ⟨tm,rw',bx⟩ rids=true:=by rfl):VO C ops K (o::rest) ⟨tm,rw',bx⟩:=
 vOpG hg hgd hy hs hbb (sMCall hop hp hn hchk hrf (Mz hf) hr hb hfit (vNf hnf h))
theorem Ac2 {β:Nat→Option Nat}:∀ {bs:List Nat},(∀ b∈bs,∃ k,β b=some k)→∃ ks,Ly β bs=some ks∧ks.length=bs.length∧∀ (i b:Nat),bs[i]? = some b→β b=ks[i]?
 | [],_=>⟨[],rfl,rfl,by simp⟩
 | b::bs,h=>by
  obtain ⟨k,hk⟩:=h b (by simp);obtain ⟨ks,h1,h2,h3⟩:=Ac2 (bs:=bs) fun x hx=>h x (by simp [hx]);refine ⟨k::ks,by simp [Ly,hk,h1],by simp [h2],fun i x hx=>?_⟩
  cases i with
  | zero=>simp at hx; subst hx; simpa using hk
  | succ i=>simpa using h3 i x (by simpa using hx)
theorem sMClo {f:FuncId} {x:Operand} {args:Array Operand} {ts:Array TypeId} {bs cs:List Nat} {ds:List D} {r0 r1:List (TypeId×Sq)} {b0 b1:List (List D)} {d:D} (hop:o.op=.call { callee:=.value x,args:=args,argTypes:=ts }) (hx:s.ev x=.clo f bs)
  (hp:MCall C.P f (ds++cs.map fun b=>.ptr b 0) rk bk r0 r1 b0 b1 d) (hcs:cs.map (sgm bk bids)=bs) (hin:cs.all (Lc bk)=true) (hds:Me C.n o.dst=true)
  (hchk:mchk rk rids bk bids pids=true) (hrf:rfB s rids=true) (hf:Fresh s noB (newP rids pids)) (hr:Ho s.r rids r0) (hb:Ho s.b bids (b0.map fun cs=>cs.map (renS (sgm bk bids) (sgm rk rids)))) (hfit:Acu rk rids bk bids s args.toList ds)
  (h:K ((s.after rids pids r1 bids (b1.map fun cs=>cs.map (renS (sgm bk bids) (sgm rk pids)))).put o.dst (ren (sgm bk bids) (sgm rk pids) d))):Step C o s K:=by
 refine sMCallAny hp hds (fun M a w hr'=>?_) hchk hrf hf hr hb h;simp only [mchk,Bool.and_eq_true] at hchk;have lb:=Nat.eq_of_beq_eq_true hchk.1.1.1.1.1.1.2;have hev:=hr'.ev x;rw [hx] at hev
 have hbox:∀ {l:List Nat} {m:List (List D)},Ho s.b l m→∀ b∈l,∃ k,M.β b=some k:=by
  intro l
  induction l with
  | nil=>intro m _ b hb; simp at hb
  | cons i l ih=>
   intro m hm b hb
   cases m with
   | nil=>exact hm.elim
   | cons y m=>
    rcases List.mem_cons.1 hb with rfl | hb
    ·obtain ⟨k,cur,e,g,_⟩:=hr'.box b y hm.1;exact ⟨k,g⟩
    exact ih hm.2 b hb
 have hmem:∀ c∈cs,∃ i,mp bk bids c=some i∧i∈bids:=fun c hc=>by
  simp only [List.all_eq_true] at hin;obtain ⟨i,hi⟩:=Pd lb (Pj (hin c hc));exact ⟨i,hi,(Pf hi).2⟩
 obtain ⟨ks,k1,k2,k3⟩:=Ac2 (β:=M.β) (bs:=bs) fun b hb'=>by
  rw [←hcs,List.mem_map] at hb';obtain ⟨c,hc,rfl⟩:=hb';obtain ⟨i,hi,hi'⟩:=hmem c hc;simp only [sgm,hi];exact hbox hb i hi'
 have hv:a.eval x=cloV f ks:=by cases hev with | clo _ _ _ h1 h2=>exact h2 ks k1
 refine ⟨args.map a.eval++(ks.map fun k=>Value.pointer (some ⟨k,0,none⟩)).toArray,?_,?_⟩
 ·have:=hp.enter (args.map a.eval++(ks.map fun k=>Value.pointer (some ⟨k,0,none⟩)).toArray) w;unfold execOp;rw [hop];show ((do let d ←resolve a.eval _ o.type; invoke d.target d.args:Sem Next)).run C.P w=_;simp only [resolve,hv,cloV,Deferred.ofValue];show ((callFunc f ((#[]++args.map a.eval)++(ks.map fun k=>Value.pointer (some ⟨k,0,none⟩)).toArray)):Sem Next).run C.P w=_;rw [show (#[]++args.map a.eval)=args.map a.eval by simp];exact this
 obtain ⟨g1,g2⟩:=fitsM_ok (M:=M) (w:=w) (a:=a) Rel.mon (Nat.eq_of_beq_eq_true hchk.1.1.1.1.1.1.1.1) lb hchk.1.2 hr'.ev hfit;have hk:ks.length=cs.length:=by rw [k2,←hcs]; simp
 refine ⟨by simp at g1; simp [g1,hk],fun i d hd=>?_⟩;by_cases hi:i<ds.length
 ·rw [List.getElem?_append_left hi] at hd;obtain ⟨x,h1,h2⟩:=g2 i d hd;rw [Array.getElem?_toList] at h1;have hi2:i<args.size:=(Array.getElem?_eq_some_iff.1 h1).1
  have:(args.map a.eval++(ks.map fun k=>Value.pointer (some ⟨k,0,none⟩)).toArray).getD i undef=a.eval x:=by
   have e1:(args.map a.eval++(ks.map fun k=>Value.pointer (some ⟨k,0,none⟩)).toArray)[i]? = some (a.eval x):=by
    rw [Array.getElem?_append_left (by simpa using hi2)]; simp [h1]
   simp [e1]
  rw [this]; exact h2
 rw [List.getElem?_append_right (by omega)] at hd;rw [List.getElem?_map] at hd;obtain ⟨c,hc,rfl⟩:=Option.map_eq_some_iff.1 hd;obtain ⟨i',hi',_⟩:=hmem c (List.mem_of_getElem? hc);have h5:bs[i-ds.length]? = some i':=by rw [←hcs]; simp [hc,sgm,hi']
 have h6:=k3 _ _ h5;have hlt:i-ds.length<cs.length:=(List.getElem?_eq_some_iff.1 hc).1;have hlen:args.size=ds.length:=by simpa using g1
 have e1:(args.map a.eval++(ks.map fun k=>Value.pointer (some ⟨k,0,none⟩)).toArray)[i]? = some (.pointer (some ⟨ks[i-ds.length]'(by omega),0,none⟩)):=by
  rw [Array.getElem?_append_right (by simp; omega)];simp [hlen,show i-ds.length<ks.length from by omega]
 have:(args.map a.eval++(ks.map fun k=>Value.pointer (some ⟨k,0,none⟩)).toArray).getD i undef=.pointer (some ⟨ks[i-ds.length]'(by omega),0,none⟩):=by simp [e1]
 rw [this];refine .ptr _ _ _ O fun k hk'=>?_;simp only [Lv,hi'] at hk';rw [h6,List.getElem?_eq_getElem (by omega)] at hk';cases hk'; rfl
theorem sMakeFunc {fn:FuncId} {caps:Array Operand} {bs:List Nat} {cd:List D} {b:Nat} (hop:o.op=.makeFunc (.func fn) #[] caps) (hd:o.dst=some b) (hc:caps.toList.map s.ev=cd) (hcd:cd=bs.map fun b=>.ptr b 0) (hn:Nat.blt b C.n=true) (h:K (s.put (some b) (.clo fn bs))):Step C o s K:=by
 refine sRun (fun M a w hr=>?_) (by rw [hd]; exact hn) (by rw [hd]; exact h);refine ⟨.func (.func fn) #[] (caps.map a.eval),?_,?_⟩
 ·unfold execOp;rw [hop];show ((do pure (Next.value (←Instr.makeFunc (.func fn) ((#[]:Array Operand).map a.eval) (caps.map a.eval)))):Sem Next).run C.P w=_;rw [show (#[]:Array Operand).map a.eval=#[] from by simp];rfl
 refine .clo _ _ _ O fun ks hk=>?_;subst hcd;unfold cloV;congr 1
 have key:∀ (l:List Operand) (bs:List Nat) (ks:List Nat),l.map s.ev=bs.map (fun b=>D.ptr b 0)→Ly M.β bs=some ks→l.map a.eval=ks.map fun k=>Value.pointer (some ⟨k,0,none⟩):=by
  intro l
  induction l with
  | nil=>intro bs ks h1 h2; cases bs <;> simp at h1; simp [Ly] at h2; subst h2; rfl
  | cons x l ih=>
   intro bs ks h1 h2
   cases bs with
   | nil=>simp at h1
   | cons b bs=>
    simp only [List.map_cons,List.cons.injEq] at h1;simp only [Ly] at h2;split at h2
    ·rename_i k ks' e1 e2;cases h2;have hv:=hr.ev x;rw [h1.1] at hv
     cases hv with
     | ptr _ _ _ g1 g2=>simp only [List.map_cons]; rw [g2 k e1,ih bs ks' h1.2 e2]
    cases h2
 apply Array.ext';rw [Array.toList_map];exact key caps.toList bs ks hc hk
theorem oMakeFunc (hg:o.guard=none) {fn:FuncId} {caps:Array Operand} (bs:List Nat) {b:Nat} (hop:o.op=.makeFunc (.func fn) #[] caps) (hd:o.dst=some b) (hc:caps.toList.map (PS.ev ⟨tm,rw',bx⟩)=bs.map fun b=>.ptr b 0) (hn:Nat.blt b C.n=true) (h:VO C ops K rest ⟨(b,.clo fn bs)::tm,rw',bx⟩):VO C ops K (o::rest) ⟨tm,rw',bx⟩:=
 vOp hg (sMakeFunc hop hd hc rfl hn h)
end
theorem sc_unA {rk rids bk bids:List Nat} (hl:rk.length=rids.length) (hb:bk.length=bids.length) {N M:Mp} {A A':Bool→Nat→Prop} {w w':World}
  (hγ:∀ r i x,mp rk rids r=some i→N.γ r=some x→M.γ i=some x) (hβ:∀ r i x,mp bk bids r=some i→N.β r=some x→M.β i=some x)
  (hA:∀ f b,b<w.heap.size→A f b→A' f b∧b<w'.heap.size∧w'.heap[b]? = w.heap[b]?) {d:D} {v:Value} (h:VR M A w (renA (sgm bk bids) (sgm rk rids) d) v) (hs:scA rk bk d=true):VR N A' w' d v:=by
 cases d with
 | agg l=>
  cases h with | agg _ us hl' h=>
  refine .agg _ us (by simpa using hl') fun i d hd=>?_;simp only [scA,List.all_eq_true] at hs;exact sc_un hl hb hγ hβ hA (h i (renS (sgm bk bids) (sgm rk rids) d) (by rw [List.getElem?_map,hd]; rfl)) (hs d (List.mem_of_getElem? hd))
 | _=>exact sc_un hl hb hγ hβ hA h hs
theorem sc_unT {rk rids bk bids:List Nat} (hl:rk.length=rids.length) (hb:bk.length=bids.length) {N M:Mp} {A A':Bool→Nat→Prop} {w w':World}
  (hγ:∀ r i x,mp rk rids r=some i→N.γ r=some x→M.γ i=some x) (hβ:∀ r i x,mp bk bids r=some i→N.β r=some x→M.β i=some x)
  (hA:∀ f b,b<w.heap.size→A f b→A' f b∧b<w'.heap.size∧w'.heap[b]? = w.heap[b]?) {d:D} {v:Value} (h:VR M A w (ren (sgm bk bids) (sgm rk rids) d) v) (hs:scT rk bk d=true):VR N A' w' d v:=by
 cases d with
 | tup l=>
  cases h with | tup _ us hl' h=>
  refine .tup _ us (by simpa using hl') fun i d hd=>?_;simp only [scT,List.all_eq_true] at hs;exact sc_unA hl hb hγ hβ hA (h i (renA (sgm bk bids) (sgm rk rids) d) (by rw [List.getElem?_map,hd]; rfl)) (hs d (List.mem_of_getElem? hd))
 | _=>exact sc_unA hl hb hγ hβ hA h hs
def fixI:List Nat→List Nat→Bool
 | k::rk,i::ids=>(Nat.blt k 1000000 || Nat.beq k i)&&fixI rk ids
 | _,_=>true
theorem fixI_ok:∀ {rk ids:List Nat} {k i:Nat},fixI rk ids=true→mp rk ids k=some i→1000000≤k→i=k
 | [],ids,k,i,_,h,_=>by simp [mp] at h
 | k'::rk,[],k,i,_,h,_=>by simp [mp] at h
 | k'::rk,i'::ids,k,i,hf,h,hk=>by
  simp only [fixI,Bool.and_eq_true,Bool.or_eq_true] at hf;by_cases he:k'=k
  ·subst he;rw [Ei] at h;cases h;rcases hf.1 with h1 | h1
   ·rw [Nat.blt_eq] at h1; omega
   exact (Nat.eq_of_beq_eq_true h1).symm
  rw [Gh he] at h;exact fixI_ok hf.2 h hk
def RetM (TT:List (Nat×Ty)) (res:List ResultVar) (rk bk:List Nat) (r1:List (TypeId×Sq)) (b1:List (List D)) (d:D):Exit→PS→Prop:=fun e s=>match e with
 | .normal | .ret=>∃ ids,retD TT s res=some (ren (sgm bk bk) (sgm rk ids) d)∧Ho s.r ids r1∧Ho s.b bk (b1.map fun cs=>cs.map (renS (sgm bk bk) (sgm rk ids)))∧(Nat.beq rk.length ids.length&&Gq ids&&fixI rk ids&&Aal rk ids)=true
 | _=>False
theorem Acc {α:Type} {f:Nat→Option α}:∀ {l:List Nat} {m:List α},Ho f l m→∀ x∈l,∃ y,f x=some y
 | [],_,_,x,h=>by simp at h
 | i::l,[],h,_,_=>h.elim
 | i::l,y::m,h,x,hx=>by
  rcases List.mem_cons.1 hx with rfl | hx
  ·exact ⟨y,h.1⟩
  exact Acc h.2 x hx
theorem Db {P:Program} {f:FuncId} {fn:Func} {c:Code} {TT:List (Nat×Ty)} {ds:List D} {rk bk:List Nat} {r0 r1:List (TypeId×Sq)} {b0 b1:List (List D)} {d:D} {n:Nat} {res:List ResultVar} (hT:Qg P TT) (hf:P.funcs[f]? = some fn) (hb:fn.body=some c)
  (hname : (fn.name == "runtime.NumGoroutine") = false) (hn : fn.ntmps = n) (hres : fn.results.toList = res) (hds : Nat.ble ds.length n = true)
  (hlen:(Nat.beq rk.length r0.length&&Nat.beq rk.length r1.length&&Nat.beq bk.length b0.length&&Nat.beq bk.length b1.length&&Gq rk&&Gq bk&&bk.all (Nat.ble 1000000)&&conR rk r1)=true) (hc0:conB rk bk b0=true) (hc1:conB rk bk b1=true) (hd:scT rk bk d=true)
  (h:∀ w0 O0,VC ⟨P,w0,O0,n⟩ c (RetM TT res rk bk r1 b1 d) ⟨entL 0 ds,asL rk r0,asL bk b0⟩) (hn1000:Nat.ble n 1000=true:=by rfl):MCall P f ds rk bk r0 r1 b0 b1 d:=by
 subst hn hres;simp only [Bool.and_eq_true] at hlen;obtain ⟨⟨⟨⟨⟨⟨⟨l1,l2⟩,l3⟩,l4⟩,l5⟩,l6⟩,l7⟩,l8⟩:=hlen;have m1:=Nat.eq_of_beq_eq_true l1;have m2:=Nat.eq_of_beq_eq_true l2;have m3:=Nat.eq_of_beq_eq_true l3;have m4:=Nat.eq_of_beq_eq_true l4;refine ⟨Sd hf hname (by simp [hb]),⟨m1,m2,m3,m4⟩,hc0,hc1,l8,hd,⟨l5,l6⟩,fun w0 N args A hAN hmon pre ⟨hsz,hargs⟩=>?_⟩;have hle:=Nat.le_of_ble_eq_true hds
 let O0:Hd:=⟨N.owned,fun f k=>A f k∨N.owned k,fun _ _ h=>.inr h,fun k h=>h.imp_left (hmon k),fun b=>if 1000000≤b then N.β b else none,fun r=>if 1000000≤r∧r<BIG then N.γ r else none,
  (fun b k hk=>by split at hk <;> first | assumption | cases hk),(fun r x hx=>by split at hx <;> first | assumption | cases hx)⟩
 have hA:∀ f b,b<w0.heap.size→A f b→Ow (Fs w0 O0) N f b∧b<w0.heap.size∧w0.heap[b]? = w0.heap[b]?:=fun f b h1 h2=>⟨⟨hAN f b h2,.inr (.inl h2)⟩,h1,rfl⟩
 have hent:Rel w0 O0 fn.ntmps N ⟨entL 0 ds,asL rk r0,asL bk b0⟩ { tmps:=args++Array.replicate (fn.ntmps-args.size) undef,defers:=[] } w0:=by
  refine ⟨⟨O,O,O,Nat.le_refl _,fun _ _ _=>O⟩,O,by simp; omega,fun t=>?_,fun b cs hb=>?_,pre.boxn,fun r e q hr=>?_,pre.rown,fun k hk=>.inr hk,pre.inj1,pre.inj2,pre.inj3,Nat.le_of_ble_eq_true hn1000,fun b k k' h1 h2=>?_,fun r x x' h1 h2=>?_⟩
  ·simp only [PS.t,Tf,Nat.zero_le,if_true,Nat.sub_zero]
   cases hd:ds[t]? with
   | none=>exact .dead _
   | some d0=>
    have hlt:t<args.size:=by rw [hsz]; exact (List.getElem?_eq_some_iff.1 hd).1
    have h1:=hargs t d0 hd
    have h2:(args++Array.replicate (fn.ntmps-args.size) undef).getD t undef=args.getD t undef:=by
     simp [Array.getElem?_append_left hlt]
    rw [h2];exact h1.mono hA (fun _ _ h=>h) (fun _ _ h=>h)
  ·obtain ⟨k,cur,e,g1,g2,g3,g4⟩:=pre.box b cs hb;exact ⟨k,cur,e,g1,g2,g3,fun j d hj=>(g4 j d hj).mono hA (fun _ _ h=>h) (fun _ _ h=>h)⟩
  ·rcases pre.row r e q hr with ⟨g1,g2⟩ | ⟨g,cap,cur,g1,g2,g3,g4,g5,g6⟩
   ·exact .inl ⟨g1,g2⟩
   exact .inr ⟨g,cap,cur,g1,g2,g3,g4,g5,fun i j d hi hj=>(g6 i j d hi hj).mono hA (fun _ _ h=>h) (fun _ _ h=>h)⟩
  ·simp only [O0] at h1;split at h1
   ·rw [h1] at h2; cases h2; rfl
   cases h1
  simp only [O0] at h1;split at h1
  ·rw [h1] at h2; cases h2; rfl
  cases h1
 refine calls_of_wp hf hb (Code.wp_mono ?_ ((h w0 O0).out N _ w0 hent));rintro e a' w' ⟨s',M',hq,hr⟩
 have fin:∀ (hq:∃ ids,retD TT s' fn.results.toList=some (ren (sgm bk bk) (sgm rk ids) d)∧Ho s'.r ids r1∧Ho s'.b bk (b1.map fun cs=>cs.map (renS (sgm bk bk) (sgm rk ids)))∧(Nat.beq rk.length ids.length&&Gq ids&&fixI rk ids&&Aal rk ids)=true),
   a'.defers=[]∧∃ v,(results fn a'.tmps).run P w'=.ok v w'∧∃ v',Ending.returned v=.returned v'∧∃ N',HasM (A2 A w0 N N') N' ⟨[],asL rk r1,asL bk b1⟩ w'∧(∀ b,N'.β b=N.β b)∧(∀ r,1000000≤r→r<BIG→N'.γ r=N.γ r) ∧
    (∀ k,N'.owned k→N.owned k∨w0.heap.size≤k)∧w'.os=w0.os∧w'.tape=w0.tape∧w'.output=w0.output∧w0.heap.size≤w'.heap.size∧(∀ k,k<w0.heap.size→¬ N.owned k→w'.heap[k]? = w0.heap[k]?)∧VR N' (A2 A w0 N N') w' d v':=by
  rintro ⟨ids,h1,h2,h3,h4⟩;obtain ⟨v,h6,h7⟩:=ret_ok hT hr h1;simp only [Bool.and_eq_true] at h4;have k1:=Nat.eq_of_beq_eq_true h4.1.1.1
  have hAA:∀ f k,k<w'.heap.size→Ow (Fs w0 O0) M' f k→A2 A w0 N (Lv M' rk ids bk bk) f k:=fun f k _ ho=>by
   refine ⟨?_,fun h=>ho.1 (Sg h)⟩;rcases ho.2 with g | g | g
   ·exact .inr (.inl g)
   ·exact .inl g
   exact .inr (.inr g)
  have hs:=hr.sub (A':=A2 A w0 N (Lv M' rk ids bk bk)) hAA k1 rfl h2 h3 hc1 h4.1.1.2 l6 h4.2
  have hself:∀ {l:List Nat} {x:Nat},x∈l→mp l l x=some x:=by
   intro l
   induction l with
   | nil=>intro x hx; simp at hx
   | cons y l ih=>
    intro x hx;by_cases hy:y=x
    ·subst hy; exact Ei _ _ _ _
    rw [Gh hy]; exact ih (by simpa [Ne.symm hy] using hx)
  refine ⟨hr.dfr,v,h6,v,O,Lv M' rk ids bk bk,hs,fun b=>?_,fun r hr1 hr2=>?_,fun k hk=>?_,hr.fr.os,hr.fr.tape,hr.fr.output,hr.fr.size,fun k g1 g2=>hr.fr.block k g1 g2,?_⟩
  ·by_cases hb':b∈bk
   ·simp only [Lv,hself hb'];obtain ⟨y,hy⟩:=Acc h3 b hb';obtain ⟨k,cur,e,g1,_⟩:=hr.box b y hy
    have hge:1000000≤b:=by
     have:=(List.all_eq_true.1 l7) b hb';exact Nat.le_of_ble_eq_true this
    obtain ⟨z,hz⟩:∃ z,(PS.b ⟨entL 0 ds,asL rk r0,asL bk b0⟩ b)=some z:=by
     rcases Qw (k:=bk) (i:=bk) (x:=b0) (r:=b) rfl m3 with ⟨_,e2⟩ | ⟨y,j,e1,_,_⟩
     ·rw [hself hb'] at e2; cases e2
     exact ⟨y,by simp [PS.b,e1]⟩
    obtain ⟨k',cur',e',g1',_⟩:=pre.box b z hz;have:=hr.fxb b k' k (by simp [O0,hge,g1']) g1;rw [g1,g1',this]
   have e1:mp bk bk b=none:=by
    cases hm:mp bk bk b with
    | none=>rfl
    | some i=>exact absurd (Pf hm).1 hb'
   simp only [Lv,e1];refine (pre.boxn b ?_).symm;simp [PS.b,asL_none m3 hb']
  ·have hb0:Nat.ble BIG r=false:=by
    cases hb:Nat.ble BIG r with
    | false=>rfl
    | true=>have:=Nat.le_of_ble_eq_true hb; omega
   by_cases hrk:r∈rk
   ·obtain ⟨i,hi⟩:=Pd k1 hrk;have:=fixI_ok h4.1.2 hi hr1;subst this;simp only [Lv,Adn h4.2 hi]
    obtain ⟨⟨e0,q0⟩,hq0⟩:∃ z,(PS.r ⟨entL 0 ds,asL rk r0,asL bk b0⟩ i)=some z:=by
     rcases Qw (k:=rk) (i:=rk) (x:=r0) (r:=i) rfl m1 with ⟨_,e2⟩ | ⟨y,j,e1,_,_⟩
     ·rw [hself hrk] at e2; cases e2
     exact ⟨y,by rw [PS.r_lo _ hb0]; simp [e1]⟩
    obtain ⟨x,hx⟩:∃ x,N.γ i=some x:=by
     rcases pre.row i e0 q0 hq0 with ⟨g1,_⟩ | ⟨g,cap,cur,g1,_⟩
     ·exact ⟨_,g1⟩
     exact ⟨_,g1⟩
    obtain ⟨⟨e1,q1⟩,hq1⟩:=Acc h2 i (Pf hi).2
    obtain ⟨x',hx'⟩:∃ x,M'.γ i=some x:=by
     rcases hr.row i e1 q1 hq1 with ⟨g1,_⟩ | ⟨g,cap,cur,g1,_⟩
     ·exact ⟨_,g1⟩
     exact ⟨_,g1⟩
    have:=hr.fxr i x x' (by simp [O0,hr1,hr2,hx]) hx';rw [hx,hx',this]
   have e1:mp rk ids r=none:=by
    cases hm:mp rk ids r with
    | none=>rfl
    | some i=>exact absurd (Pf hm).1 hrk
   simp only [Lv,Ye hb0,e1];refine (pre.rown r ?_).symm;rw [PS.r_lo _ hb0];simp [asL_none m1 hrk]
  ·exact (hr.low k (Sg hk)).symm
  refine sc_unT (rk:=rk) (rids:=ids) (bk:=bk) (bids:=bk) k1 O (fun r i x g1 g2=>?_) (fun r i x g1 g2=>?_) (fun f k g1 g2=>⟨hAA f k g1 g2,g1,O⟩) h7 hd
  ·simp only [Lv,Adn h4.2 g1] at g2; exact g2
  simp only [Lv,g1] at g2; exact g2
 cases e with
 | normal=>exact fin hq
 | ret=>exact fin hq
 | _=>exact hq.elim
def sgI (l m:List Nat) (r:Nat):Nat:=match mp l m r with | some i=>i | none=>r
def eqT (s:PS) (τ:Nat→Nat):List (Nat×D)→Prop
 | []=>True
 | (t,d)::l=>(d=.dead∨s.t t=ren id τ d)∧eqT s τ l
def eqR (s:PS) (τ:Nat→Nat):List (Nat×Option (TypeId×Sq))→Prop
 | []=>True
 | (r,x)::l=>(x=none∨s.r (τ r)=x)∧eqR s τ l
def eqC (τ:Nat→Nat):List D→List D→Prop
 | [],[]=>True
 | a::l,b::m=>(b=.dead∨a=renS id τ b)∧eqC τ l m
 | _,_=>False
theorem eqC_ok {τ:Nat→Nat}:∀ {l m:List D},eqC τ l m→l.length=m.length∧∀ (j:Nat) d,m[j]? = some d→d=.dead∨l[j]? = some (renS id τ d)
 | [],[],_=>⟨rfl,by simp⟩
 | a::l,b::m,h=>by
  obtain ⟨h1,h2⟩:=eqC_ok h.2;refine ⟨by simp [h1],fun j d hd=>?_⟩
  cases j with
  | zero=>simp at hd; subst hd; simpa using h.1
  | succ j=>simpa using h2 j d (by simpa using hd)
 | [],_::_,h=>h.elim
 | _::_,[],h=>h.elim
def eqB (s:PS) (τ:Nat→Nat):List (Nat×Option (List D))→Prop
 | []=>True
 | (b,x)::l=>(x=none∨∃ cs0 cs,x=some cs∧s.b b=some cs0∧eqC τ cs0 cs)∧eqB s τ l
def tidy (s:PS):Bool:=s.tmp.all (fun p=>!Jp noB noB p.2)&&s.box.all (fun p=>match p.2 with | some cs=>cs.all (fun d=>!Dh noB noB d) | none=>true)
theorem eqT_ok {s:PS} {τ:Nat→Nat}:∀ {l:List (Nat×D)},eqT s τ l→∀ t d,Bw l t=some d→d=.dead∨s.t t=ren id τ d
 | [],_,t,d,h=>by simp [Bw] at h
 | (k,x)::l,h,t,d,hl=>by
  by_cases hk:k=t
  ·subst hk; rw [At] at hl; cases hl; exact h.1
  rw [Au hk] at hl; exact eqT_ok h.2 t d hl
theorem eqR_ok {s:PS} {τ:Nat→Nat}:∀ {l:List (Nat×Option (TypeId×Sq))},eqR s τ l→∀ r x,Bw l r=some (some x)→s.r (τ r)=some x
 | [],_,t,d,h=>by simp [Bw] at h
 | (k,y)::l,h,r,x,hl=>by
  by_cases hk:k=r
  ·subst hk; rw [At] at hl; cases hl; exact h.1.resolve_left (by simp)
  rw [Au hk] at hl; exact eqR_ok h.2 r x hl
theorem eqB_ok' {s:PS} {τ:Nat→Nat}:∀ {l:List (Nat×Option (List D))},eqB s τ l→∀ b cs,Bw l b=some (some cs)→∃ cs0,s.b b=some cs0∧eqC τ cs0 cs
 | [],_,t,d,h=>by simp [Bw] at h
 | (k,y)::l,h,b,cs,hl=>by
  by_cases hk:k=b
  ·subst hk; rw [At] at hl; cases hl;rcases h.1 with h1 | ⟨cs0,cs',h1,h2,h3⟩
   ·cases h1
   cases h1; exact ⟨cs0,h2,h3⟩
  rw [Au hk] at hl; exact eqB_ok' h.2 b cs hl
def renOk (l m:List Nat) (s':PS):Bool:=tidy s'&&Gq (s'.row.map fun p=>sgI l m p.1)&&(s'.row.all fun p=>(Nat.blt p.1 1000000 || Nat.beq (sgI l m p.1) p.1))&&l.all Kg&&m.all Kg
theorem En.ren {C:Cx} {s s':PS} (l m:List Nat) (hc:renOk l m s'=true) (h1:eqT s (sgI l m) s'.tmp) (h2:eqR s (sgI l m) s'.row) (h3:eqB s (sgI l m) s'.box):En C s s':=⟨fun M a w h=>by
 simp only [renOk,tidy,Bool.and_eq_true,List.all_eq_true] at hc;obtain ⟨⟨⟨⟨⟨c1,c2⟩,c3⟩,c4⟩,c5⟩,c6⟩:=hc
 have hsb:∀ x,Nat.ble BIG x=true→sgI l m x=x:=fun x hb=>by
  unfold sgI
  cases hm:mp l m x with
  | none=>rfl
  | some i=>
   have:=Ew (c5 x (Pf hm).1);rw [hb] at this; cases this
 have hsl:∀ x,Nat.ble BIG x=false→Nat.ble BIG (sgI l m x)=false:=fun x hb=>by
  unfold sgI
  cases hm:mp l m x with
  | none=>exact hb
  | some i=>exact Ew (c6 i (Pf hm).2)
 let M':Mp:=⟨fun b=>if (s'.b b).isSome then M.β b else none,fun r=>if (s'.r r).isSome then M.γ (sgI l m r) else none⟩
 have hβ:∀ b k,M'.β b=some k→M.β (id b)=some k:=fun b k hk=>by simp only [M'] at hk; split at hk; exact hk; cases hk
 have hγ:∀ r x,M'.γ r=some x→M.γ (sgI l m r)=some x:=fun r x hx=>by simp only [M'] at hx; split at hx; exact hx; cases hx
 have hown:∀ k,M'.owned k→M.owned k:=by
  rintro k (⟨b,hb⟩ | ⟨r,c,z,hr⟩)
  ·exact .inl ⟨b,hβ b k hb⟩
  exact .inr ⟨_,c,z,hγ r _ hr⟩
 have hA:∀ f b,b<w.heap.size→Ow (Fs C.w0 C.O0) M f b→Ow (Fs C.w0 C.O0) M' f b:=fun f b _ h1=>⟨fun h=>h1.1 (hown b h),h1.2⟩;have hA':∀ f b,b<w.heap.size→Ow (Fs C.w0 C.O0) M f b→Ow (Fs C.w0 C.O0) M' f b∧b<w.heap.size∧w.heap[b]? = w.heap[b]?:=fun f b h1 h2=>⟨hA f b h1 h2,h1,rfl⟩
 have hrow:∀ r x,Nat.ble BIG r=false→s'.r r=some x→Bw s'.row r=some (some x):=fun r x hb hx=>by
  rw [PS.r_lo _ hb] at hx
  cases hl:Bw s'.row r with
  | none=>rw [hl] at hx; cases hx
  | some y=>rw [hl] at hx; simp only at hx; rw [hx]
 have hsr:∀ r x,s'.r r=some x→s.r (sgI l m r)=some x:=fun r x hx=>by
  cases hb:Nat.ble BIG r with
  | false=>exact eqR_ok h2 r x (hrow r x hb hx)
  | true=>
   rw [hsb r hb];rw [PS.r_hi _ hb,PS.inn_r] at hx ⊢
   cases h3:s'.r (FK+unF r) with
   | none=>rw [h3] at hx; cases hx
   | some z=>
    have g:=hrow _ z (Abe r) h3;have g2:=eqR_ok h2 _ z g;have g3:=c4 _ (Hp g);simp only [Bool.or_eq_true,Nat.blt_eq] at g3
    have g4:sgI l m (FK+unF r)=FK+unF r:=by
     rcases g3 with g3 | g3
     ·have:FK≤FK+unF r:=Nat.le_add_right _ _;have h5:FK<1000000:=by omega
      exact absurd h5 (by decide)
     exact Nat.eq_of_beq_eq_true g3
    rw [g4] at g2;rw [g2,←h3]; exact hx
 have inj:∀ r r',(s'.r r).isSome=true→(s'.r r').isSome=true→sgI l m r=sgI l m r'→r=r':=by
  intro r r' e1 e2 e3;obtain ⟨x,hx⟩:=Option.isSome_iff_exists.1 e1;obtain ⟨y,hy⟩:=Option.isSome_iff_exists.1 e2
  cases hb:Nat.ble BIG r with
  | true=>
   cases hb':Nat.ble BIG r' with
   | true=>rw [hsb r hb,hsb r' hb'] at e3; exact e3
   | false=>have:=hsl r' hb'; rw [←e3,hsb r hb,hb] at this; cases this
  | false=>
  cases hb':Nat.ble BIG r' with
  | true=>have:=hsl r hb; rw [e3,hsb r' hb',hb'] at this; cases this
  | false=>
  have i1:=Hp (hrow r x hb hx);have i2:=Hp (hrow r' y hb' hy);obtain ⟨a1,b1,g1⟩:=List.getElem_of_mem i1;obtain ⟨a2,b2,g2⟩:=List.getElem_of_mem i2;have:=Abl c3 a1 a2 (by simpa using b1) (by simpa using b2) (by simp [List.getD,b1,b2,g1,g2,e3]);subst this;rw [g1] at g2;exact (Prod.mk.inj g2).1
 have hbig:∀ x y,BIG≤x→M'.γ x=some y→M.γ x=some y:=fun x y hx hy=>by
  have:=hγ x y hy
  rwa [hsb x (Nat.ble_eq_true_of_le hx)] at this
 refine ⟨M',h.fr,h.dfr,h.sz,fun t=>?_,fun b cs hb=>?_,fun b hb=>?_,fun r e q hr=>?_,fun r hr=>?_,fun k hk=>h.low k (hown k hk),fun b b' k h1 h2=>h.inj1 b b' k (hβ _ _ h1) (hβ _ _ h2),
  fun r r' k c z c' z' g1 g2=>?_,fun b r k c z h1 h2=>h.inj3 b _ k c z (hβ _ _ h1) (hγ _ _ h2),h.nle,fun b k k' h1 h2=>h.fxb b k k' h1 (hβ _ _ h2),fun r x x' g1 g2=>?_⟩
 ·simp only [PS.t]
  cases hl:Bw s'.tmp t with
  | none=>exact .dead _
  | some d=>
   rcases eqT_ok h1 t d hl with hd | hd
   ·rw [hd]; exact .dead _
   have hv:=h.tmp t;rw [hd] at hv;have hm:=c1 _ (Hp hl);exact VR.unren (M:=M') (M':=M) hγ hβ hA (by simpa using hm) hv hbig
 ·have hl:Bw s'.box b=some (some cs):=by
   simp only [PS.b] at hb
   cases hl:Bw s'.box b with
   | none=>rw [hl] at hb; cases hb
   | some y=>rw [hl] at hb; simp only at hb; rw [hb]
  obtain ⟨cs0,d1,d2⟩:=eqB_ok' h3 b cs hl;obtain ⟨k,cur,e,a1,a2,a3,a4⟩:=h.box b _ d1;obtain ⟨d3,d4⟩:=eqC_ok d2;refine ⟨k,cur,e,by simp [M',hb,a1],a2,by omega,fun j d hd=>?_⟩;have hm:=c2 _ (Hp hl);simp only [List.all_eq_true] at hm;rcases d4 j d hd with d5 | d5
  ·rw [d5]; exact .dead _
  exact VR.unrenS (M:=M') (M':=M) hγ hβ hA (by simpa using hm d (List.mem_of_getElem? hd)) (a4 j (renS id (sgI l m) d) d5) hbig
 ·simp [M',hb]
 ·have g:=hsr r (e,q) hr;rcases h.row _ e q g with ⟨a1,a2⟩ | ⟨gg,cap,cur,a1,a2,a3,a4,a5,a6⟩
  ·exact .inl ⟨by simp [M',hr,a1],a2⟩
  exact .inr ⟨gg,cap,cur,by simp [M',hr,a1],a2,a3,a4,a5,fun i j d hi hd=>(a6 i j d hi hd).relem_any hd hA' hbig⟩
 ·simp [M',hr]
 ·have e1:(s'.r r).isSome=true:=by simp only [M'] at g1; split at g1; assumption; cases g1
  have e2:(s'.r r').isSome=true:=by simp only [M'] at g2; split at g2; assumption; cases g2
  exact inj r r' e1 e2 (h.inj2 _ _ _ _ _ _ _ (hγ _ _ g1) (hγ _ _ g2))
 obtain ⟨h5,h5'⟩:=C.O0.lor r x g1
 have hb:Nat.ble BIG r=false:=by
  cases hb:Nat.ble BIG r with
  | false=>rfl
  | true=>have:=Nat.le_of_ble_eq_true hb; omega
 have e1:(s'.r r).isSome=true:=by simp only [M'] at g2; split at g2; assumption; cases g2
 obtain ⟨y,hy⟩:=Option.isSome_iff_exists.1 e1;have h6:=c4 _ (Hp (hrow r y hb hy));simp only [Bool.or_eq_true,Nat.blt_eq] at h6;rcases h6 with h6 | h6
 ·omega
 have h7:=hγ _ _ g2;rw [Nat.eq_of_beq_eq_true h6] at h7
 exact h.fxr r x x' g1 h7⟩
end
section
open Go.RowKit Go.Deep
section
variable {C:Cx} {ops:Array Oper} {K:PS→Prop} {o:Oper} {rest:List Oper} {s s':PS} {TT:List (Nat×Ty)} {tm:List (Nat×D)} {rw':List (Nat×Option (TypeId×Sq))} {bx:List (Nat×Option (List D))} {cr B:List Nat} {j:Nat}
theorem sEmpty (hT:Qg C.P TT) {t e:TypeId} {k:Sq} {by' b:Nat} (hop:o.op=.buildSlice t 0 #[]) (hd:o.dst=some b) (hy:Bw TT t=some (.sl e k by')) (hn:Nat.blt b C.n=true) (h:K (s.put (some b) .nil)):Step C o s K:=⟨fun M a w Q K' hr hk=>by
 have hrun:(execOp a.eval o).run C.P w=.ok (.value (.slice (some ⟨w.heap.size,0,none⟩) 0 0)) (w.alloc (.cells #[] e)):=by
  have:=Ri (hT t _ hy) w 0 #[] #[] (by omega) (fun cells hc=>by
   have:cells=#[]:=by apply Array.eq_empty_of_size_eq_zero; simpa using hc
   subst this; rfl)
  unfold execOp;rw [hop];show ((do pure (Next.value (←Instr.buildSlice t 0 ((#[]:Array (Nat×Operand)).map fun (p:Nat×Operand)=>(p.1,a.eval p.2)))):Sem Next)).run C.P w=_;rw [show (#[]:Array (Nat×Operand)).map (fun (p:Nat×Operand)=>(p.1,a.eval p.2))=#[] from by simp,Sem.run_bind,this];rfl
 unfold Oper.wp;rw [hrun];have h1:Rel C.w0 C.O0 C.n M s a (w.alloc (.cells #[] e)):=hr.later rfl rfl rfl (by simp) fun k h1=>Below.heap_alloc w _ k h1
 exact hk M _ _ _ h (by rw [hd]; exact h1.put hn (.nil _))⟩
theorem klS_id {r:Nat} {d:D} (h:Dh noB (isR r) d=false) (hF:Kg r=true):klS r d=d:=by
 have hb:∀ x,isR r x=false→Nat.beq x r=false:=fun x hx=>by
  cases hh:Nat.beq x r with
  | false=>rfl
  | true=>rw [Nat.eq_of_beq_eq_true hh] at hx; simp [isR,Nat.beq_refl] at hx
 cases d <;> simp only [Dh] at h <;> try rfl
 ·simp [klS,hb _ h]
 ·simp [klS,hb _ h]
 ·cases h
 ·cases h
 ·simp only [klS,Ew hF]
 simp only [klS,Ew hF]
theorem klA_id {r:Nat} {d:D} (h:Fb noB (isR r) d=false) (hF:Kg r=true):klA r d=d:=by
 cases d with
 | agg l=>
  simp only [Fb,List.any_eq_false] at h;simp only [klA];congr 1
  conv=>rhs; rw [←List.map_id l]
  exact List.map_congr_left fun x hx=>klS_id (by simpa using h x hx) hF
 | _=>exact klS_id (by simpa only [Fb] using h) hF
theorem kl_id {r:Nat} {d:D} (h:Jp noB (isR r) d=false) (hF:Kg r=true):kl r d=d:=by
 cases d with
 | tup l=>
  simp only [Jp,List.any_eq_false] at h;simp only [kl];congr 1
  conv=>rhs; rw [←List.map_id l]
  exact List.map_congr_left fun x hx=>klA_id (by simpa using h x hx) hF
 | _=>exact klA_id (by simpa only [Jp] using h) hF
theorem sAppNil (hT:Qg C.P TT) {t e:TypeId} {k q2 q':Sq} {by' b:Nat} {x y:Operand} {f:Bool} (hop:o.op=.call { callee:=.builtin .append,args:=#[x,y],argTypes:=#[t,t] }) (hd:o.dst=some b) (hy:Bw TT t=some (.sl e k by'))
  (hx:s.ev x=.nil) (hk0:Nat.beq k.len 0=true) (hf:Fresh s noB (isR b)) (hyy:s.ev y=.ro f q2) (hs:∀ s,Wt s (.ro f q2)=some (True,q2)) (happ:k.app q2=some q') (hb:Nat.ble by' 32=true) (hn:Nat.blt b C.n=true)
  (hbd:q2.len≤4294967296) (h:K ((s.setR b (some (e,q'))).put (some b) (.row b 0 q'.len))):Step C o s K:=⟨fun M a w Q K' hrl hkk=>by
 have e1:=hrl.ev x;rw [hx] at e1;have hkl:=Nat.eq_of_beq_eq_true hk0;have hb1000:b<1000000:=by have h1000:=hrl.nle; rw [Nat.blt_eq] at hn; omega
 obtain ⟨ao1,hao1⟩:=e1.nil_inv;obtain ⟨M1,hr1,hv1'⟩:=hrl.nilRow (r:=b) (e:=e) (q:=k) hkl hf hb1000;have e2:=hr1.ev y;have hyy':(s.setR b (some (e,k))).ev y=.ro f q2:=by rw [←hyy]; cases y <;> rfl
 rw [hyy'] at e2;obtain ⟨news,hsrc⟩:=src_ok hr1 e2 (hs _) trivial;have hb':=Nat.le_of_ble_eq_true hb;have hbd':k.len+q2.len≤4294967296:=by omega
 obtain ⟨v',w',M',h1,h2,h3,_⟩:=Xk (P:=C.P) (ty:=o.type) hr1 (hT t _ hy) rfl (r:=b) (q:=k) (by rw [PS.r_setR _ _ _ _ (Gs hb1000),if_pos rfl]) (hv1' ao1) (Nat.zero_le _) hsrc (q':=q') (by rw [←hkl,Sq.take_len]; exact happ) (by rw [Nat.zero_add]; have:=Nat.mul_le_mul hbd hb'; omega) (by unfold maxLen; omega) hb1000;rw [←hao1] at h1;unfold Oper.wp;rw [run_app hop h1];refine hkk M' _ _ _ h ?_;rw [hd];have hl:=(Sq.app_ok happ).1;rw [hkl] at hl;rw [←hl] at h3;have h4:=h2.put (o:=some b) hn h3;refine h4.same (fun x=>?_) (fun r=>?_) (fun c=>?_)
 ·rw [PS.t_put,PS.t_put];split
  ·rfl
  have:(((s.setR b (some (e,k))).kill b).setR b (some (e,q'))).t x=kl b (s.t x):=PS.t_kill (s.setR b (some (e,k))) b x;rw [this,kl_id (hf.t x) (Gs hb1000)]; rfl
 ·rw [PS.r_put,PS.r_put,PS.r_setR _ _ _ _ (Gs hb1000),PS.r_setR _ _ _ _ (Gs hb1000)];split
  ·rfl
  rename_i hne;have:((s.setR b (some (e,k))).kill b).r r=(s.setR b (some (e,k))).r r:=rfl;rw [this,PS.r_setR _ _ _ _ (Gs hb1000),if_neg hne]
 rw [PS.b_put,PS.b_put];have:(((s.setR b (some (e,k))).kill b).setR b (some (e,q'))).b c=(s.b c).map fun cs=>cs.map (klS b):=PS.b_kill (s.setR b (some (e,k))) b c;rw [this];have hsb:(s.setR b (some (e,q'))).b c=s.b c:=rfl;rw [hsb]
 cases hc:s.b c with
 | none=>rfl
 | some cs=>
  simp only [Option.map_some];congr 1
  conv=>lhs; rw [←List.map_id cs]
  exact (List.map_congr_left fun d hd'=>klS_id (hf.b c cs hc d hd') (Gs hb1000)).symm⟩
theorem oStepW (hw:Wanted C ops o s) (h:Step C o s (VO C ops K rest)):VO C ops K (o::rest) s:=by
 rcases hw with hg | ⟨j,want,t,b,hg,hd,ht,hs,hb⟩
 ·exact vOp hg h
 exact vOpG hg hd ht hs hb h
theorem Gr (hT:Qg C.P TT) (hw:Wanted C ops o ⟨tm,rw',bx⟩) {t e:TypeId} {k:Sq} {by' b:Nat} (hop:o.op=.buildSlice t 0 #[]) (hd:o.dst=some b) (hy:Bw TT t=some (.sl e k by')) (hn:Nat.blt b C.n=true) (h:VO C ops K rest ⟨(b,.nil)::tm,rw',bx⟩):VO C ops K (o::rest) ⟨tm,rw',bx⟩:=
 oStepW hw (sEmpty hT hop hd hy hn h)
theorem Adi (hT:Qg C.P TT) (hw:Wanted C ops o ⟨tm,rw',bx⟩) {t e:TypeId} {k:Sq} {by' b:Nat} (hop:o.op=.buildSlice t 0 #[]) (hd:o.dst=some b) (hy:Bw TT t=some (.sl e k by')) (hn:Nat.blt b C.n=true)
  (hck:Pr ops cr B j ⟨.nil,[],[]⟩=true) (h:QN C ops cr B K (j+1) rest ⟨(b,.nil)::tm,rw',bx⟩):QN C ops cr B K j (o::rest) ⟨tm,rw',bx⟩:=
 Yq (e:=⟨.nil,[],[]⟩) hw hck (fun s1 hag=>sEmpty hT hop hd hy hn (by rw [hd]; rfl)) (by rw [hd]; exact h)
theorem oAppNil (hT:Qg C.P TT) (hw:Wanted C ops o ⟨tm,rw',bx⟩) {t e:TypeId} {k q2 q' q'':Sq} {by' b m':Nat} {x y:Operand} {f:Bool} (hop:o.op=.call { callee:=.builtin .append,args:=#[x,y],argTypes:=#[t,t] }) (hd:o.dst=some b) (hy:Bw TT t=some (.sl e k by'))
  (hx:(PS.ev ⟨tm,rw',bx⟩ x)=.nil) (hk0:Nat.beq k.len 0=true) (hf:frB ⟨tm,rw',bx⟩ noB (isR b)=true) (hyy:(PS.ev ⟨tm,rw',bx⟩ y)=.ro f q2) (hs:∀ s,Wt s (.ro f q2)=some (True,q2)) (happ:k.app q2=some q') (hb:Nat.ble by' 32=true) (hn:Nat.blt b C.n=true)
  (hq':fcQ q' some=some q'') (hm':lenK q' some=some m') (hbd:q2.len≤4294967296) (h:VO C ops K rest ⟨(b,.row b 0 m')::tm,(b,some (e,q''))::rw',bx⟩):VO C ops K (o::rest) ⟨tm,rw',bx⟩:=by
 rw [Wj] at hq';rw [Ww] at hm';cases hq';cases hm';exact oStepW hw (sAppNil hT hop hd hy hx hk0 (Mz hf) hyy hs happ hb hn hbd h)
theorem Abc (hT:Qg C.P TT) (hw:Wanted C ops o ⟨tm,rw',bx⟩) {t e:TypeId} {k q2 q' q'':Sq} {by' b m':Nat} {x y:Operand} {f:Bool} (hop:o.op=.call { callee:=.builtin .append,args:=#[x,y],argTypes:=#[t,t] }) (hd:o.dst=some b) (hy:Bw TT t=some (.sl e k by'))
  (hx:(PS.ev ⟨tm,rw',bx⟩ x)=.nil) (hk0:Nat.beq k.len 0=true) (hcr:cr.contains j=true) (hnm:nm ops j b=true) (hyy:(PS.ev ⟨tm,rw',bx⟩ y)=.ro f q2) (hs:∀ s,Wt s (.ro f q2)=some (True,q2)) (happ:k.app q2=some q') (hb:Nat.ble by' 32=true) (hn:Nat.blt b C.n=true)
  (hq':fcQ q' some=some q'') (hm':lenK q' some=some m') (hck:Pr ops cr B j ⟨.row b 0 m',[(b,some (e,q''))],[]⟩=true) (hbd:q2.len≤4294967296) (h:QN C ops cr B K (j+1) rest ⟨(b,.row b 0 m')::tm,(b,some (e,q''))::rw',bx⟩) (hF:Kg b=true:=by rfl):QN C ops cr B K j (o::rest) ⟨tm,rw',bx⟩:=by
 rw [Wj] at hq';rw [Ww] at hm';cases hq';cases hm';refine Yq (e:=⟨.row b 0 _,[(b,some (e,_))],[]⟩) hw hck (fun s1 hag=>?_) (by rw [hd,PS.ap_eq _ _ _ _ _ (Tl hF)]; exact h);have e1:=hag.ev x (by rw [hop]; simp [Op.operands,Call.operands]);have e2:=hag.ev y (by rw [hop]; simp [Op.operands,Call.operands]);exact sAppNil hT hop hd hy (e1.trans hx) hk0 (Sa (hag.fr hcr) (fun x hx=>by cases hx) (fun x hx=>by rw [←Nat.eq_of_beq_eq_true hx]; exact hnm)) (e2.trans hyy) hs happ hb hn hbd (by rw [hd,PS.ap_eq _ _ _ _ _ (Tl hF)]; rfl)
theorem vRowB {C:Cx} {c:Code} {Q:Exit→PS→Prop} (b i r:Nat) {n n':Nat} {tm:List (Nat×D)} {rw':List (Nat×Option (TypeId×Sq))} {bx:List (Nat×Option (List D))} {cs cs':List D} (hb:(PS.b ⟨tm,rw',bx⟩ b)=some cs) (hi:cs[i]? = some (.row r 0 n)) (hn:n=n') (hcs:fcL (cs.set i (.row r 0 n')) some=some cs')
  (h:VC C c Q ⟨tm,rw',(b,some cs')::bx⟩):VC C c Q ⟨tm,rw',bx⟩:=by
 rw [Yi] at hcs;cases hcs;subst hn
 have e:cs.set i (.row r 0 n)=cs:=by
  apply List.ext_getElem?;intro j;rw [List.getElem?_set];split
  ·rename_i hij;subst hij;rw [hi];have:=(List.getElem?_eq_some_iff.1 hi).1;simp [this]
  rfl
 rw [e] at h;refine ⟨fun M a w hr=>h.out M a w (hr.same (fun _=>O) (fun _=>O) fun x=>?_)⟩;by_cases hx:b=x
 ·subst hx; simp only [PS.b,At]; exact hb.symm
 simp only [PS.b,Au hx]
theorem bsplit {p:Prop} (b:Bool) (h1:b=true→p) (h2:b=false→p):p:=by cases b; exact h2 rfl; exact h1 rfl
theorem Step.same (h:Step C o s (fun s'=>∃ s'',K s''∧(∀ x,s''.t x=s'.t x)∧(∀ r,s''.r r=s'.r r)∧∀ b,s''.b b=s'.b b)):Step C o s K:=⟨fun M a w Q K' hr hk=>
 h.out M a w Q K' hr fun M' s' a' w' ⟨s'',h1,h2,h3,h4⟩ hr'=>hk M' s'' a' w' h1 (hr'.same h2 h3 h4)⟩
theorem Step.weak {K2:PS→Prop} (h:Step C o s K2) (hk:∀ s',K2 s'→K s'):Step C o s K:=⟨fun M a w Q K' hr hK=>h.out M a w Q K' hr fun M' s' a' w' h1 hr'=>hK M' s' a' w' (hk s' h1) hr'⟩
theorem sAppMove (hT:Qg C.P TT) {t e:TypeId} {k q q2 q':Sq} {by' b r m:Nat} {x y:Operand} {dy:D} {ob:Prop} (hop:o.op=.call { callee:=.builtin .append,args:=#[x,y],argTypes:=#[t,t] }) (hd:o.dst=some b) (hy:Bw TT t=some (.sl e k by'))
  (hx:s.ev x=.row r 0 m) (hr:s.r r=some (e,q)) (hk:Nat.beq k.sz q.sz=true) (hyy:s.ev y=dy) (hs:Wt s dy=some (ob,q2)) (happ:q.app q2=some q') (hb:Nat.ble by' 32=true) (hn:Nat.blt b C.n=true) (hf:Fresh s noB (isR b)) (hbr:Nat.beq b r=false)
  (hm:m=q.len) (hob:ob) (hbd:q.len+q2.len≤4294967296) (hlo:Nat.ble r 999999=true):Step C o s (fun s'=>s'=s.ap (some b) ⟨.row b 0 q'.len,[(b,some (e,q')),(r,none)],[]⟩):=⟨fun M a w Q K' hrl hkk=>by
 have e1:=hrl.ev x;have e2:=hrl.ev y;rw [hx] at e1;rw [hyy] at e2;obtain ⟨news,hsrc⟩:=src_ok hrl e2 hs hob;subst hm;have hb':=Nat.le_of_ble_eq_true hb;have hne:b≠r:=fun e=>by subst e; rw [Nat.beq_refl] at hbr; cases hbr
 have hb1000:b<1000000:=by have h1000:=hrl.nle; rw [Nat.blt_eq] at hn; omega
 have hr1000:r<1000000:=by have:=Nat.le_of_ble_eq_true hlo; omega
 obtain ⟨v',w',M',h1,h2,h3,h4⟩:=Xk (P:=C.P) (ty:=o.type) hrl (hT t _ hy) (Nat.eq_of_beq_eq_true hk) hr e1 (Nat.le_refl _) hsrc (by rw [Sq.take_len]; exact happ) (by have:=Nat.mul_le_mul hbd hb'; omega) (by unfold maxLen; omega) hr1000;unfold Oper.wp;rw [run_app hop h1]
 let M2:Mp:=⟨M.β,fun y=>if y=b then M'.γ r else if y=r then none else M.γ y⟩
 have o1:∀ k,M2.owned k→M'.owned k:=by
  rintro k (⟨c,hc⟩ | ⟨y,c,z,hy'⟩)
  ·exact .inl ⟨c,by rw [h4.β]; exact hc⟩
  simp only [M2] at hy';split at hy'
  ·exact .inr ⟨r,c,z,hy'⟩
  split at hy'
  ·cases hy'
  rename_i _ hyr; exact .inr ⟨y,c,z,by rw [h4.γ y hyr]; exact hy'⟩
 have hA:∀ f k,k<w.heap.size→Ow (Fs C.w0 C.O0) M f k→Ow (Fs C.w0 C.O0) M2 f k∧k<w'.heap.size∧w'.heap[k]? = w.heap[k]?:=fun f k g1 g2=>by
  obtain ⟨g3,g4,g5⟩:=h4.old f k g1 g2;exact ⟨⟨fun ho=>g3.1 (o1 k ho),g3.2⟩,g4,g5⟩
 have hA':∀ f k,k<w'.heap.size→Ow (Fs C.w0 C.O0) M' f k→Ow (Fs C.w0 C.O0) M2 f k∧k<w'.heap.size∧w'.heap[k]? = w'.heap[k]?:=fun f k g1 g2=>⟨⟨fun ho=>g2.1 (o1 k ho),g2.2⟩,g1,rfl⟩
 have hγ:∀ y z,isR b y=false→M2.γ y=some z→M.γ y=some z:=fun y z g1 g2=>by
  simp only [M2] at g2;split at g2
  ·rename_i hyb; subst hyb; simp [isR,Nat.beq_refl] at g1
  split at g2
  ·cases g2
  exact g2
 have hrow:∀ y,y≠b→y≠r→M2.γ y=M.γ y:=fun y g1 g2=>by simp [M2,g1,g2]
 have hoth:∀ y c z k,y≠r→M.γ y=some (some (k,c,z))→w'.heap[k]? = w.heap[k]?:=fun y c z k g1 g2=>h4.oth k (.inr ⟨y,c,z,g2⟩) fun c' z' g3=>g1 (hrl.inj2 _ _ _ _ _ _ _ g2 g3)
 have hPS:∀ y,PS.r ⟨s.tmp,(b,some (e,q'))::(r,none)::s.row,s.box⟩ y=if b=y then some (e,q') else if r=y then none else s.r y:=fun y=>by
  have:=PS.r_setR (s.setR r none) b (some (e,q')) y (Gs hb1000);rw [PS.r_setR _ _ _ _ (Gs hr1000)] at this;exact this
 have hbg:∀ {y},BIG≤y→y≠b∧y≠r:=fun {y} hy=>by
  have h1:(1000000:Nat)<BIG:=by decide
  constructor <;> omega
 have hbig1:∀ y u,BIG≤y→M2.γ y=some u→M'.γ y=some u:=fun y u g1 g2=>by
  rw [hrow y (hbg g1).1 (hbg g1).2] at g2;rw [h4.γ y (hbg g1).2]; exact g2
 have hbig2:∀ y u,BIG≤y→M2.γ y=some u→M.γ y=some u:=fun y u g1 g2=>by
  rw [hrow y (hbg g1).1 (hbg g1).2] at g2; exact g2
 have hR:Rel C.w0 C.O0 C.n M2 ⟨s.tmp,(b,some (e,q'))::(r,none)::s.row,s.box⟩ a w':=by
  refine ⟨h2.fr,hrl.dfr,hrl.sz,fun x=>?_,fun c cs hc=>?_,fun c hc=>hrl.boxn c hc,fun y e' p hy'=>?_,fun y hy'=>?_,fun k hk'=>h2.low k (o1 k hk'),hrl.inj1,fun y y' k c z c' z' g1 g2=>?_,fun c y k c' z g1 g2=>?_,hrl.nle,hrl.fxb,fun y u u' g1 g2=>?_⟩
  ·exact VR.new (b:=noB) (r:=isR b) hA hγ (fun _ _ _ h=>h) (hf.t x) (hrl.tmp x) (hi:=fun _=>hbig2)
  ·obtain ⟨k,cur,e',g1,g2,g3,g4⟩:=hrl.box c cs hc;refine ⟨k,cur,e',g1,(h4.oth k (.inl ⟨c,g1⟩) fun c' z' g5=>hrl.inj3 _ _ _ _ _ g1 g5).trans g2,g3,fun i d hi=>?_⟩;have hm':=hf.b c cs hc d (List.mem_of_getElem? hi);exact VR.newS (b:=noB) (r:=isR b) hA hγ (fun _ _ _ h=>h) hm' (g4 i d hi) (hi:=fun _=>hbig2)
  ·rw [hPS] at hy';by_cases hyb:b=y
   ·subst hyb;rw [if_pos rfl] at hy';cases hy';have hM:M2.γ b=M'.γ r:=by simp [M2]
    rcases h2.row r e q' (by rw [PS.r_setR _ _ _ _ (Gs hr1000),if_pos rfl]) with ⟨g1,g2⟩ | ⟨g,cap,cur,g1,g2,g3,g4,g5,g6⟩
    ·exact .inl ⟨hM.trans g1,g2⟩
    exact .inr ⟨g,cap,cur,hM.trans g1,g2,g3,g4,g5,fun i j d hi hd'=>(g6 i j d hi hd').relem_any hd' hA' hbig1⟩
   rw [if_neg hyb] at hy';by_cases hyr:r=y
   ·rw [if_pos hyr] at hy'; cases hy'
   rw [if_neg hyr] at hy';rcases hrl.row y e' p hy' with ⟨g1,g2⟩ | ⟨g,cap,cur,g1,g2,g3,g4,g5,g6⟩
   ·exact .inl ⟨(hrow y (Ne.symm hyb) (Ne.symm hyr)).trans g1,g2⟩
   exact .inr ⟨g,cap,cur,(hrow y (Ne.symm hyb) (Ne.symm hyr)).trans g1,(hoth y _ _ g (Ne.symm hyr) g1).trans g2,g3,g4,g5,fun i j d hi hd'=>(g6 i j d hi hd').relem_any hd' hA hbig2⟩
  ·rw [hPS] at hy';by_cases hyb:b=y
   ·rw [if_pos hyb] at hy'; cases hy'
   rw [if_neg hyb] at hy';by_cases hyr:r=y
   ·simp [M2,hyr,Ne.symm hyb]
   rw [if_neg hyr] at hy';rw [hrow y (Ne.symm hyb) (Ne.symm hyr)]; exact hrl.rown y hy'
  ·have case:∀ y k c z,M2.γ y=some (some (k,c,z))→(y=b∧M'.γ r=some (some (k,c,z)))∨(y≠b∧y≠r∧M'.γ y=some (some (k,c,z))):=fun y k c z g=>by
    simp only [M2] at g;split at g
    ·exact .inl ⟨by assumption,g⟩
    split at g
    ·cases g
    rename_i h5 h6; exact .inr ⟨h5,h6,by rw [h4.γ y h6]; exact g⟩
   rcases case _ _ _ _ g1 with ⟨rfl,g3⟩ | ⟨g3,g4,g5⟩
   ·rcases case _ _ _ _ g2 with ⟨rfl,_⟩ | ⟨_,g7,g8⟩
    ·rfl
    exact absurd (h2.inj2 _ _ _ _ _ _ _ g3 g8).symm g7
   rcases case _ _ _ _ g2 with ⟨rfl,g6⟩ | ⟨_,_,g8⟩
   ·exact absurd (h2.inj2 _ _ _ _ _ _ _ g5 g6) g4
   exact h2.inj2 _ _ _ _ _ _ _ g5 g8
  ·have g1':M'.β c=some k:=by rw [h4.β]; exact g1
   simp only [M2] at g2;split at g2
   ·exact h2.inj3 _ _ _ _ _ g1' g2
   split at g2
   ·cases g2
   rename_i _ h6; exact h2.inj3 c y k c' z g1' (by rw [h4.γ y h6]; exact g2)
  have g3:=(C.O0.lor y u g1).1;rw [hrow y (by omega) (by omega)] at g2;exact hrl.fxr y u u' g1 g2
 refine hkk M2 _ _ _ O ?_;rw [hd,PS.ap_eq _ _ _ _ _ (rowsN_two (Gs hb1000) (Gs hr1000))];have hl:=(Sq.app_ok happ).1;rw [←hl] at h3
 have hv:VR M2 (Ow (Fs C.w0 C.O0) M2) w' (.row b 0 q'.len) v':=by
  cases h3 with
  | row _ _ _ _ g1 g2=>exact .row _ _ _ _ g1 fun x hx=>g2 x (by simpa [M2] using hx)
 exact hR.put (o:=some b) hn hv⟩
theorem nAppMove (hT:Qg C.P TT) (hw:Wanted C ops o ⟨tm,rw',bx⟩) {t e:TypeId} {k q q2 q' q'':Sq} {by' b r m m':Nat} {x y:Operand} {dy:D} {ob:Prop} (hop:o.op=.call { callee:=.builtin .append,args:=#[x,y],argTypes:=#[t,t] }) (hd:o.dst=some b) (hy:Bw TT t=some (.sl e k by'))
  (hx:(PS.ev ⟨tm,rw',bx⟩ x)=.row r 0 m) (hr:(PS.r ⟨tm,rw',bx⟩ r)=some (e,q)) (hk:Nat.beq k.sz q.sz=true) (hyy:(PS.ev ⟨tm,rw',bx⟩ y)=dy) (hs:Wt ⟨tm,rw',bx⟩ dy=some (ob,q2)) (happ:q.app q2=some q') (hb:Nat.ble by' 32=true) (hn:Nat.blt b C.n=true) (hcr:cr.contains j=true) (hnm:nm ops j b=true) (hbr:Nat.beq b r=false)
  (hlo:Nat.ble r 999999=true) (hq':fcQ q' some=some q'') (hm':lenK q' some=some m') (hvis:visB ops cr B j ⟨tm,rw',bx⟩ [x,y]=true) (hck:Pr ops cr B j ⟨.row b 0 m',[(b,some (e,q'')),(r,none)],[]⟩=true) (hm:m=q.len) (hob:ob) (hbd:q.len+q2.len≤4294967296)
  (h:QN C ops cr B K (j+1) rest ⟨(b,.row b 0 m')::tm,(b,some (e,q''))::(r,none)::rw',bx⟩) (hF:Kg b=true:=by rfl):QN C ops cr B K j (o::rest) ⟨tm,rw',bx⟩:=by
 rw [Wj] at hq';rw [Ww] at hm';cases hq';cases hm';have hFr:Kg r=true:=Gs (by have:=Nat.le_of_ble_eq_true hlo; omega);refine Yq (e:=⟨.row b 0 _,[(b,some (e,_)),(r,none)],[]⟩) hw hck (fun s1 hag=>?_) (by rw [hd,PS.ap_eq _ _ _ _ _ (rowsN_two hF hFr)]; exact h);have e1:=hag.ev x (by rw [hop]; simp [Op.operands,Call.operands]);have e2:=hag.ev y (by rw [hop]; simp [Op.operands,Call.operands]);have s1x:=hag.same hvis x (by simp);have s1y:=hag.same hvis y (by simp);rw [hx] at s1x;rw [hyy] at s1y;rw [hd];refine sAppMove hT hop hd hy (e1.trans hx) (by rw [s1x.row]; exact hr) hk (e2.trans hyy) ?_ happ hb hn (Sa (hag.fr hcr) (fun x hx=>by cases hx) (fun x hx=>by rw [←Nat.eq_of_beq_eq_true hx]; exact hnm)) hbr hm hob hbd hlo;cases dy <;> first | exact hs | (simp only [Wt,s1y.row] at hs ⊢; exact hs)
theorem nMCall (hw:Wanted C ops o ⟨tm,rw',bx⟩) {rk rids bk bids pids:List Nat} {f:FuncId} {args:Array Operand} {ts:Array TypeId} {ds:List D} {r0 r1:List (TypeId×Sq)} {b0 b1:List (List D)} {d:D} (hp:MCall C.P f ds rk bk r0 r1 b0 b1 d) (rids bids pids:List Nat) {er:List (Nat×Option (TypeId×Sq))} {eb:List (Nat×Option (List D))} {b:Nat}
  (hop:o.op=.call { callee:=.value (.func f),args:=args,argTypes:=ts }) (hd:o.dst=some b) (hn:Nat.blt b C.n=true) (hcr:cr.contains j=true)
  (hchk:mchk rk rids bk bids pids=true) (hown:(pids.all fun p=>Lc rids p || nm ops j p)=true) (hvr:(rids.all fun r=>!hidV ops cr B j r)=true) (hvb:(bids.all fun r=>!hidV ops cr B j r)=true)
  (her:nfR (asL pids r1++rids.map fun r=>(r,none))=some er) (heb:nfB (asL bids (b1.map fun cs=>cs.map (renS (sgm bk bids) (sgm rk pids))))=some eb) {d':D} (hd':fcD (ren (sgm bk bids) (sgm rk pids) d) some=some d') (hck:Pr ops cr B j ⟨d',er,eb⟩=true)
  (hr:Ho (PS.r ⟨tm,rw',bx⟩) rids r0) (hb:Ho (PS.b ⟨tm,rw',bx⟩) bids (b0.map fun cs=>cs.map (renS (sgm bk bids) (sgm rk rids)))) (hfit:Acu rk rids bk bids ⟨tm,rw',bx⟩ args.toList ds) (h:QN C ops cr B K (j+1) rest ⟨(b,d')::tm,er++rw',eb++bx⟩) (hfa:Aby rids=false:=by rfl) (hF:Zs er=er:=by rfl):QN C ops cr B K j (o::rest) ⟨tm,rw',bx⟩:=by
 have her':=nfR_ok her;have heb':=nfB_ok heb;rw [Li] at hd';cases hd';subst her' heb';refine Yq (e:=⟨ren (sgm bk bids) (sgm rk pids) d,_,_⟩) hw hck (fun s1 hag=>?_) (by rw [hd,PS.ap_eq _ _ _ _ _ hF]; exact h)
 have hpr:∀ {α:Type} {f g:Nat→Option α} {l:List Nat} {m:List α},(∀ x∈l,g x=f x)→Ho f l m→Ho g l m:=by
  intro α f g l
  induction l with
  | nil=>intro m _ h; cases m; trivial; exact h.elim
  | cons x l ih=>
   intro m hx h
   cases m with
   | nil=>exact h.elim
   | cons y m=>exact ⟨(hx x (by simp)).trans h.1,ih (fun z hz=>hx z (by simp [hz])) h.2⟩
 have hfm:∀ {xs:List Operand} {ds:List D},(∀ x∈xs,s1.ev x=PS.ev ⟨tm,rw',bx⟩ x)→Acu rk rids bk bids ⟨tm,rw',bx⟩ xs ds→Acu rk rids bk bids s1 xs ds:=by
  intro xs
  induction xs with
  | nil=>intro ds _ h; cases ds; trivial; exact h.elim
  | cons x l ih=>
   intro ds hx h
   cases ds with
   | nil=>exact h.elim
   | cons y m=>exact ⟨by rw [hx x (by simp)]; exact h.1,ih (fun z hz=>hx z (by simp [hz])) h.2⟩
 simp only [List.all_eq_true] at hvr hvb hown;rw [hd];refine Step.weak (sMCall (K:=fun s'=>s'=(s1.after rids pids r1 bids (b1.map fun cs=>cs.map (renS (sgm bk bids) (sgm rk pids)))).put (some b) (ren (sgm bk bids) (sgm rk pids) d)) hop hp (by rw [hd]; exact hn) hchk (by unfold rfB; rw [hfa]) ?_ (hpr (fun x hx=>hag.r x (by simpa using hvr x hx)) hr) (hpr (fun x hx=>hag.b x (by simpa using hvb x hx)) hb) (hfm (fun x hx=>hag.ev x (by rw [hop]; simp only [Op.operands,Call.operands]; exact Array.mem_append.2 (.inr (by simpa using hx)))) hfit) (by rw [hd])) fun s' hs'=>?_
 ·refine Sa (hag.fr hcr) (fun x hx=>by cases hx) fun x hx=>?_;unfold newP at hx;rw [hfa] at hx;split at hx
  ·cases hx
  cases hm:mp pids rids x with
  | none=>rw [hm] at hx; cases hx
  | some i=>
   rw [hm] at hx;have:=hown x (Pf hm).1;rcases Bool.or_eq_true_iff.1 this with h1 | h1
   ·exfalso;simp only [mchk,Bool.and_eq_true] at hchk;obtain ⟨⟨hchk,_⟩,_⟩:=hchk;obtain ⟨k,hk⟩:=Pd (l:=pids) (m:=rk) (by rw [←Nat.eq_of_beq_eq_true hchk.1.1.1.1.1.2]) (Pf hm).1;obtain ⟨r',g1,_,g3⟩:=fixB_ok hchk.2 (Nat.eq_of_beq_eq_true hchk.1.1.1.1.1.1) (Nat.eq_of_beq_eq_true hchk.1.1.1.1.1.2) hchk.1.1.1.2 hk;rw [hm] at g1;cases g1;rcases g3 with ⟨_,rfl⟩ | ⟨_,_,g4⟩
    ·simp [Nat.beq_refl] at hx
    rw [h1] at g4; cases g4
   exact h1
 rw [hs',PS.ap_eq _ _ _ _ _ hF];simp [PS.after,PS.put,List.append_assoc]
def updB (off:Nat):List D→Nat→List D→Option (List D)
 | cs,_,[]=>some cs
 | cs,k,d::l=>match d.one,Nat.blt (off+k) cs.length with | true,true=>updB off (cs.set (off+k) d) (k+1) l | _,_=>none
theorem updB_ok {b off:Nat}:∀ {l:List D} {cs cs':List D} {k:Nat} {s:PS},s.b b=some cs→updB off cs k l=some cs'→∃ (ob:Prop) (s':PS),ob∧wrL s (.ptr b off) k l=some (ob,s')∧(∀ x,s'.t x=s.t x)∧(∀ r,s'.r r=s.r r)∧∀ x,s'.b x=if b=x then some cs' else s.b x
 | [],cs,cs',k,s,hb,h=>by
  simp only [updB,Option.some.injEq] at h;subst h;refine ⟨True,s,Y,O,fun _=>O,fun _=>O,fun x=>?_⟩;split
  ·rename_i he; subst he; exact hb
  rfl
 | d::l,cs,cs',k,s,hb,h=>by
  simp only [updB] at h;split at h
  ·rename_i h1 h2;obtain ⟨ob,s',g1,g2,g3,g4,g5⟩:=updB_ok (s:=s.setB b (cs.set (off+k) d)) (b:=b) (by rw [PS.b_setB,if_pos rfl]) h;refine ⟨True∧ob,s',⟨Y,g1⟩,?_,g3,g4,fun x=>?_⟩
   ·simp only [wrL,wr,h1,hb,h2,g2]
   rw [g5 x,PS.b_setB];split <;> rfl
  cases h
theorem nStoreB (hT:Qg C.P TT) (hw:Wanted C ops o ⟨tm,rw',bx⟩) {t:TypeId} {p x:Operand} {y:Ty} {b off:Nat} {d:D} {cs cs1 cs':List D} (hop:o.op=.store t p x) (hd:o.dst=none) (hy:Bw TT t=some y) (hp:(PS.ev ⟨tm,rw',bx⟩ p)=.ptr b off) (hx:(fcD (PS.ev ⟨tm,rw',bx⟩ x) some)=some d) (hfl:d.flat=true) (hsz:Nat.beq d.cells.length (Yg y)=true)
  (hb:(PS.b ⟨tm,rw',bx⟩ b)=some cs) (hu:updB off cs 0 d.cells=some cs1) (hcs:fcL cs1 some=some cs') (hvis:visB ops cr B j ⟨tm,rw',bx⟩ [p]=true) (hck:Pr ops cr B j ⟨.tup [],[],[(b,some cs')]⟩=true)
  (h:QN C ops cr B K (j+1) rest ⟨tm,rw',(b,some cs')::bx⟩):QN C ops cr B K j (o::rest) ⟨tm,rw',bx⟩:=by
 rw [Li] at hx;rw [Yi] at hcs;cases hx;cases hcs;refine Yq (e:=⟨.tup [],[],[(b,some _)]⟩) hw hck (fun s1 hag=>?_) (by rw [hd]; exact h);have e1:=hag.ev p (by rw [hop]; simp [Op.operands]);have e2:=hag.ev x (by rw [hop]; simp [Op.operands]);have s1p:=hag.same hvis p (by simp);rw [hp] at s1p;have hb1:s1.b b=some cs:=by rw [s1p.ptr]; exact hb
 obtain ⟨ob,s',g1,g2,g3,g4,g5⟩:=updB_ok (s:=s1) (off:=off) hb1 hu;refine Step.same (sStore hT hop hd hy (e1.trans hp) e2 hfl hsz g2 (by simp [Live,hb1]) g1 ⟨_,O,fun x=>?_,fun r=>?_,fun c=>?_⟩)
 ·rw [PS.t_ap,hd]; exact (g3 x).symm
 ·rw [PS.r_ap,g4]; rfl
 rw [PS.b_ap,g5];by_cases hc:b=c
 ·subst hc; simp [At]
 simp [Au hc,hc];rfl
def Ado:D→Bool
 | .map _ _ | .agg _ | .tup _=>false
 | _=>true
def noMapA:D→Bool
 | .agg l=>l.all Ado
 | d=>Ado d
def noMap:D→Bool
 | .tup l=>l.all noMapA
 | d=>noMapA d
section
variable {M:Mp} {A:Bool→Nat→Prop} {w:World} {b clock:Nat} {es:Array MapEntry} {ob:Obj}
theorem cell_map {a:Addr} {u:Value} (h:w.cell? a=some u) (hb:w.heap[b]? = some (.map es clock)):a.block≠b:=by
 rintro rfl;simp [World.cell?,hb] at h
theorem Adg (k:Nat) (hk:k≠b):(w.heap.setIfInBounds b ob)[k]? = w.heap[k]?:=by simp [Ne.symm hk]
theorem VR.mapS (hb:w.heap[b]? = some (.map es clock)) {d:D} {v:Value} (h:VR M A w d v) (hd:Ado d=true):VR M A { w with heap:=w.heap.setIfInBounds b ob } d v:=by
 have cel:∀ {x:Addr} {u:Value},w.cell? x=some u→({ w with heap:=w.heap.setIfInBounds b ob }:World).cell? x=some u:=fun {x u} h=>by
  rw [World.cell?_of_block (w:=w) (Adg x.block (cell_map h hb))]; exact h
 have key:∀ d v,VR M A w d v→Ado d=true→VR M A { w with heap:=w.heap.setIfInBounds b ob } d v:=by
  intro d v h
  induction h with
  | dead v=>exact fun _=>.dead v
  | int n=>exact fun _=>.int n
  | bool b=>exact fun _=>.bool b
  | val v h=>exact fun _=>.val v h
  | nil ao=>exact fun _=>.nil ao
  | ro f q ao cap b' o u hn hc hao hu hv ih=>
   intro _;refine .ro f q ao cap b' o u hn hc (fun h0=>⟨(hao h0).1,by simpa using (hao h0).2.1,(hao h0).2.2⟩) (fun i j d hi hd=>cel (hu i j d hi hd)) (fun i j d hi hd=>ih i j d hi hd ?_);cases q <;> simp only [Sq.elem] at hd <;> rcases j with _ | _ | j <;> simp at hd <;> subst hd <;> rfl
  | row r off n v h1 h=>exact fun _=>.row r off n v h1 h
  | ptr b off v h1 h=>exact fun _=>.ptr b off v h1 h
  | eptr r i off v h=>exact fun _=>.eptr r i off v h
  | rptr f q i off b' o u hb' hA' hu hv ih=>
   intro _;refine .rptr f q i off b' o u (by simpa using hb') hA' (fun j d hd=>cel (hu j d hd)) (fun j d hd=>ih j d hd ?_);cases q <;> simp only [Sq.elem] at hd <;> rcases j with _ | _ | j <;> simp at hd <;> subst hd <;> rfl
  | agg l us hl h=>intro h; cases h
  | tup l us hl h=>intro h; cases h
  | clo f bs v h1 h=>exact fun _=>.clo f bs v h1 h
  | map k l es clock h hl hk=>intro h; cases h
  | any v h1=>exact fun _=>.any v h1
  | irow F k n v h1 h=>exact fun _=>.irow F k n v h1 h
  | iptr F k i off v h=>exact fun _=>.iptr F k i off v h
  | fam te q v=>exact fun _=>.fam te q v
 exact key d v h hd
theorem VR.mapA (hb:w.heap[b]? = some (.map es clock)) {d:D} {v:Value} (h:VR M A w d v) (hd:noMapA d=true):VR M A { w with heap:=w.heap.setIfInBounds b ob } d v:=by
 cases d with
 | agg l=>
  cases h with | agg _ us hl h=>
  simp only [noMapA,List.all_eq_true] at hd;exact .agg _ us hl fun i d hi=>(h i d hi).mapS hb (hd d (List.mem_of_getElem? hi))
 | _=>exact VR.mapS hb h (by simpa only [noMapA] using hd)
theorem VR.mapD (hb:w.heap[b]? = some (.map es clock)) {d:D} {v:Value} (h:VR M A w d v) (hd:noMap d=true):VR M A { w with heap:=w.heap.setIfInBounds b ob } d v:=by
 cases d with
 | tup l=>
  cases h with | tup _ us hl h=>
  simp only [noMap,List.all_eq_true] at hd;exact .tup _ us hl fun i d hi=>(h i d hi).mapA hb (hd d (List.mem_of_getElem? hi))
 | _=>exact VR.mapA hb h (by simpa only [noMap] using hd)
end
def mapTo (k:Nat) (l l':List (Int×Int)):List (Nat×D)→List (Nat×D)→Prop
 | [],[]=>True
 | (t,d)::L,(t',d')::L'=>(t=t'∧(d'=.dead∨(d'=d∧noMap d=true)∨(d=.map k l∧d'=.map k l')))∧mapTo k l l' L L'
 | _,_=>False
theorem mapTo_ok {k:Nat} {l l':List (Int×Int)}:∀ {L L':List (Nat×D)},mapTo k l l' L L'→∀ t,(Bw L' t=none)∨∃ d d',Bw L t=some d∧Bw L' t=some d'∧(d'=.dead∨(d'=d∧noMap d=true)∨(d=.map k l∧d'=.map k l'))
 | [],[],_,t=>.inl rfl
 | (x,d)::L,(x',d')::L',h,t=>by
  obtain ⟨⟨rfl,h1⟩,h2⟩:=h;by_cases hx:x=t
  ·subst hx; exact .inr ⟨d,d',At _ _ _,At _ _ _,h1⟩
  rw [Au hx,Au hx]; exact mapTo_ok h2 t
 | [],_::_,h,_=>h.elim
 | _::_,[],h,_=>h.elim
def mapC (k:Nat) (l l':List (Int×Int)) (L:List (Nat×D)) (P:List (Nat×D)→Prop):Prop:=∃ L',mapTo k l l' L L'∧P L'
theorem mapC_nil {k:Nat} {l l':List (Int×Int)} {P:List (Nat×D)→Prop} (h:P []):mapC k l l' [] P:=⟨[],Tvv,h⟩
theorem mapC_hit {k:Nat} {l l':List (Int×Int)} {t:Nat} {L:List (Nat×D)} {P:List (Nat×D)→Prop} (h:mapC k l l' L fun L'=>P ((t,.map k l')::L')):mapC k l l' ((t,.map k l)::L) P:=let ⟨L',h1,h2⟩:=h; ⟨(t,.map k l')::L',⟨⟨rfl,.inr (.inr ⟨rfl,rfl⟩)⟩,h1⟩,h2⟩
theorem mapC_same {k:Nat} {l l':List (Int×Int)} {t:Nat} {d:D} {L:List (Nat×D)} {P:List (Nat×D)→Prop} (hd:noMap d=true) (h:mapC k l l' L fun L'=>P ((t,d)::L')):mapC k l l' ((t,d)::L) P:=let ⟨L',h1,h2⟩:=h; ⟨(t,d)::L',⟨⟨rfl,.inr (.inl ⟨rfl,hd⟩)⟩,h1⟩,h2⟩
theorem mapC_dead {k:Nat} {l l':List (Int×Int)} {t:Nat} {d:D} {L:List (Nat×D)} {P:List (Nat×D)→Prop} (h:mapC k l l' L fun L'=>P ((t,.dead)::L')):mapC k l l' ((t,d)::L) P:=let ⟨L',h1,h2⟩:=h; ⟨(t,.dead)::L',⟨⟨rfl,.inl rfl⟩,h1⟩,h2⟩
theorem oMapSet (hT:Qg C.P TT) {k:Nat} (hk0:C.w0.heap.size≤k) (hg:o.guard=none) {t:TypeId} {x y z:Operand} {l:List (Int×Int)} {a b:Int} (hop:o.op=.mapUpdate t x y z∨o.op=.insert t x y z) (hd:o.dst=none) (hty:Bw TT t=some .mp)
  (hx:(PS.ev ⟨tm,rw',bx⟩ x)=.map k l) (hy:(PS.ev ⟨tm,rw',bx⟩ y)=.int a) (hz:(PS.ev ⟨tm,rw',bx⟩ z)=.int b) (hbx:(bx.all fun p=>match p.2 with | some cs=>cs.all Ado | none=>true)=true)
  (h:mapC k l (Xy l a b) tm fun tm'=>VO C ops K rest ⟨tm',rw',bx⟩):VO C ops K (o::rest) ⟨tm,rw',bx⟩:=by
 obtain ⟨tm',hm,h⟩:=h;refine vOp hg ⟨fun M ac w Q K' hr hk=>?_⟩;obtain ⟨⟨kt,et,hu,hkt,_⟩,_⟩:=hT t _ hty;have hvx:=hr.ev x;have hvy:=hr.ev y;have hvz:=hr.ev z;rw [hx] at hvx;rw [hy] at hvy;rw [hz] at hvz;have e2:=hvy.int_inv;have e3:=hvz.int_inv;generalize hgx:ac.eval x=vx at hvx
 cases hvx with
 | map _ _ es clock hh hl hkk=>
  obtain ⟨es',clock',hrun,hl'⟩:=run_mapSetI (P:=C.P) hu hkt hh hl a b
  have hex:(execOp ac.eval o).run C.P w=.ok .skip { w with heap:=w.heap.setIfInBounds k (.map es' clock') }:=by
   unfold execOp;rcases hop with hop | hop
   ·rw [hop];show ((do Instr.mapUpdate t (ac.eval x) (ac.eval y) (ac.eval z); pure Next.skip):Sem Next).run C.P w=_;rw [hgx,e2,e3,Sem.run_bind,hrun]; rfl
   rw [hop];show ((do Instr.mapUpdate t (ac.eval x) (ac.eval y) (ac.eval z); pure Next.skip):Sem Next).run C.P w=_;rw [hgx,e2,e3,Sem.run_bind,hrun]; rfl
  unfold Oper.wp;rw [hex];have hlt:=Th hh;have hoth:∀ x,x≠k→(w.heap.setIfInBounds k (.map es' clock'))[x]? = w.heap[x]?:=fun x hx=>Adg x hx;have hself:(w.heap.setIfInBounds k (Obj.map es' clock'))[k]? = some (.map es' clock'):=by simp [hlt]
  have hcells:∀ x c e fr,w.heap[x]? = some (.cells c e fr)→x≠k:=fun y c e fr hy' hyk=>by rw [hyk,hh] at hy'; cases hy'
  refine hk M _ _ _ h ?_;rw [hd];refine ⟨?_,hr.dfr,hr.sz,fun t=>?_,fun c cs hc=>?_,hr.boxn,fun r e q hrr=>?_,hr.rown,hr.low,hr.inj1,hr.inj2,hr.inj3,hr.nle,hr.fxb,hr.fxr⟩
  ·refine hr.fr.step O O O (by simp) fun x h1 h2=>hoth x fun e=>?_;subst e;omega
  ·show VR _ _ _ (PS.t ⟨tm',rw',bx⟩ t) _;simp only [PS.t];rcases mapTo_ok hm t with h1 | ⟨d,d',h1,h2,h3⟩
   ·rw [h1]; exact .dead _
   rw [h2];have hv:=hr.tmp t;simp only [PS.t,h1] at hv;rcases h3 with rfl | ⟨rfl,h4⟩ | ⟨rfl,rfl⟩
   ·exact .dead _
   ·exact hv.mapD hh h4
   show VR _ _ _ _ (ac.tmps.getD t undef);generalize ac.tmps.getD t undef=vt at hv
   cases hv with
   | map _ _ es2 clock2 hh2 hl2 hk2=>exact .map _ _ es' clock' hself hl' hk2
  ·obtain ⟨k',cur,e,g1,g2,g3,g4⟩:=hr.box c cs hc;refine ⟨k',cur,e,g1,(hoth k' (hcells _ _ _ _ g2)).trans g2,g3,fun j d hj=>?_⟩
   have hno:Ado d=true:=by
    rw [List.all_eq_true] at hbx
    have hl:Bw bx c=some (some cs):=by
     simp only [PS.b] at hc
     cases hl:Bw bx c with
     | none=>rw [hl] at hc; cases hc
     | some y=>rw [hl] at hc; simp only at hc; rw [hc]
    have:=hbx _ (Hp hl);simp only [List.all_eq_true] at this;exact this d (List.mem_of_getElem? hj)
   exact (g4 j d hj).mapS hh hno
  rcases hr.row r e q hrr with ⟨g1,g2⟩ | ⟨g,cap,cur,g1,g2,g3,g4,g5,g6⟩
  ·exact .inl ⟨g1,g2⟩
  refine .inr ⟨g,cap,cur,g1,(hoth g (hcells _ _ _ _ g2)).trans g2,g3,g4,g5,fun i j d hi hj=>(g6 i j d hi hj).mapS hh ?_⟩;cases q <;> simp only [Sq.relem,Sq.elem] at hj <;> rcases j with _ | _ | j <;> simp at hj <;> subst hj <;> rfl
theorem oMakeMap (hg:o.guard=none) {t:TypeId} {b:Nat} (hop:o.op=.makeMap t none) (hd:o.dst=some b) (hn:Nat.blt b C.n=true) (h:∀ k,C.w0.heap.size≤k→VO C ops K rest ⟨(b,.map k [])::tm,rw',bx⟩):VO C ops K (o::rest) ⟨tm,rw',bx⟩:=by
 refine vOp hg ⟨fun M ac w Q K' hr hk=>?_⟩
 have hex:(execOp ac.eval o).run C.P w=.ok (.value (.map (some w.heap.size))) (w.alloc (.map #[] 0)):=by
  unfold execOp;rw [hop];rfl
 unfold Oper.wp;rw [hex];have h1:Rel C.w0 C.O0 C.n M ⟨tm,rw',bx⟩ ac (w.alloc (.map #[] 0)):=hr.later rfl rfl rfl (by simp) fun k h1=>Below.heap_alloc w _ k h1;refine hk M _ _ _ (h w.heap.size hr.fr.size) ?_;rw [hd];exact h1.put (o:=some b) (d:=.map w.heap.size []) hn (.map _ [] #[] 0 (Array.getElem?_push_size (xs:=w.heap)) O ⟨fun ho=>Nat.lt_irrefl _ (hr.lt _ ho),.inl hr.fr.size⟩)
end
end
section
open Go.RowKit Go.Deep
section
variable {P:Program} {w0:World} {O0:Hd} {n:Nat} {M:Mp} {s s':PS} {a:Act} {w w':World}
end
section
variable {C:Cx} {ops:Array Oper} {K:PS→Prop} {o:Oper} {rest:List Oper} {s s':PS} {TT:List (Nat×Ty)} {tm:List (Nat×D)} {rw':List (Nat×Option (TypeId×Sq))} {bx:List (Nat×Option (List D))}
end
end
section
open Go.RowKit
def TT:List (Nat×Ty):=[(1,.sc .nilFunc),(3,.sc (.int .i64 0)),(4,.sc (.bool false)),(5,.sc (.int .u8 0)),(9,.sc (.string ByteArray.empty)),(22,.sl 5 (.bytes []) 1),(23,.sc .nilFunc),(24,.sl 42 (.pairs []) 16),(26,.st [(0,1),(1,1)] [.int .i64 0,.slice none 0 0]),(27,.sl 3 (.ints []) 8),(29,.sc .nilFunc),(30,.sc .nilFunc),(31,.sc .nilFunc),(32,.sc .nilFunc),(33,.sc .nilFunc),(35,.sc .nilFunc),(36,.sc .nilFunc),(37,.sc .nilFunc),(38,.sl 27 (.intss []) 24),(39,.sc .nilFunc),(40,.sc .nilFunc),(42,.st [(0,1),(1,1)] [.int .i64 0,.int .i64 0]),(44,.sc .nilFunc),(45,.sl 95 (.pairs []) 16),(47,.st [(0,2),(2,1)] [.int .i64 0,.slice none 0 0,.slice none 0 0]),(49,.st [(0,3),(3,1)] [.int .i64 0,.slice none 0 0,.slice none 0 0,.slice none 0 0]),(50,.sc .nilFunc),(52,.sc .nilFunc),(53,.sc .nilFunc),(54,.sc .nilFunc),(55,.sl 45 (.pairss []) 24),(57,.sc .nilFunc),(59,.sc .nilFunc),(61,.sc .nilFunc),(62,.sc .nilFunc),(64,.sc .nilFunc),(66,.sc .nilFunc),(67,.sc .nilFunc),(68,.sc .nilFunc),(69,.sc .nilFunc),(70,.sl 4 (.bools []) 1),(71,.sc .nilFunc),(72,.sc .nilFunc),(73,.sc .nilFunc),(74,.sc .nilFunc),(75,.sc .nilFunc),(76,.sc .nilFunc),(77,.sc .nilFunc),(78,.sc .nilFunc),(79,.sc .nilFunc),(80,.sc .nilFunc),(81,.sc .nilFunc),(83,.sc .nilFunc),(84,.sc .nilFunc),(85,.sc .nilFunc),(86,.sc .nilFunc),(87,.sc .nilFunc),(88,.sc .nilFunc),(89,.sc .nilFunc),(91,.sc .nilFunc),(92,.sc .nilFunc),(93,.sc .nilFunc),(95,.st [(0,1),(1,1)] [.int .i64 0,.int .i64 0]),(96,.sc .nilFunc),(97,.sc .nilFunc),(98,.sc .nilFunc),(99,.sc .nilFunc),(100,.sc .nilFunc),(101,.sc .nilFunc),(102,.sc .nilFunc),(103,.sc .nilFunc),(104,.sc .nilFunc),(105,.sc .nilFunc),(106,.sc .nilFunc),(107,.sc .nilFunc),(108,.sc .nilFunc),(109,.sc .nilFunc),(110,.sc .nilFunc),(112,.st [(0,1),(1,1),(2,1)] [.slice none 0 0,.int .i64 0,.int .i64 0]),(113,.sc .nilFunc),(114,.sc .nilFunc),(115,.sc .nilFunc),(116,.sc .nilFunc),(118,.sc .nilFunc),(119,.sc .nilFunc),(120,.sc .nilFunc),(121,.sc .nilFunc),(122,.sc .nilFunc),(123,.sc .nilFunc),(124,.sc .nilFunc),(125,.sc .nilFunc),(126,.sc .nilFunc),(127,.sc .nilFunc),(128,.sc .nilFunc),(129,.sc .nilFunc),(130,.sc .nilFunc),(131,.sc .nilFunc),(134,.sc .nilFunc),(135,.sc .nilFunc),(136,.sc .nilFunc),(137,.sc .nilFunc),(139,.sc .nilFunc),(140,.sc .nilFunc),(142,.sc .nilFunc),(144,.sc .nilFunc),(145,.sc .nilFunc),(146,.sc .nilFunc),(147,.sc .nilFunc),(148,.sc .nilFunc),(149,.sc .nilFunc),(150,.sc .nilFunc),(151,.sc .nilFunc),(152,.sc .nilFunc),(153,.sc .nilFunc),(154,.sc .nilFunc),(155,.sc .nilFunc),(156,.sc .nilFunc),(157,.sc .nilFunc),(158,.sc .nilFunc),(160,.sc .nilFunc),(161,.sc .nilFunc),(162,.sc .nilFunc),(164,.sc .nilFunc),(165,.sc .nilFunc),(166,.sc .nilFunc),(167,.sc .nilFunc),(168,.sc .nilFunc),(169,.sc .nilFunc),(172,.sc .nilFunc),(173,.sc .nilFunc),(175,.st [(0,1),(1,1),(2,1)] [.slice none 0 0,.slice none 0 0,.slice none 0 0]),(177,.sc .nilFunc),(178,.sc .nilFunc),(179,.sc .nilFunc),(180,.sc .nilFunc),(181,.sc .nilFunc),(182,.sc .nilFunc),(183,.sc .nilFunc),(184,.sc .nilFunc),(185,.sc .nilFunc),(186,.sc .nilFunc),(188,.sc .nilFunc),(189,.sc .nilFunc),(190,.sc .nilFunc),(191,.sc .nilFunc),(192,.sc .nilFunc),(193,.sc .nilFunc),(194,.mp),(195,.sc .nilFunc),(201,.sc .nilFunc),(204,.sc .nilFunc)]
theorem tt:Qg Tryz.prog TT:=tt_ok (by kernel_rfl)
theorem Aa {w0:World} {O0:Hd} {n:Nat} {ops:Array Oper} {K:PS→Prop} {o:Oper} {rest:List Oper} {tm:List (Nat×D)} {rw':List (Nat×Option (TypeId×Sq))} {bx:List (Nat×Option (List D))} {t:Nat} {d:D} (hh:(isV o.op,o.guard,o.dst,Nat.blt t n,evalF TT ⟨tm,rw',bx⟩ o.op)=(true,none,some t,true,some (True,d))) (h:VO ⟨Tryz.prog,w0,O0,n⟩ ops K rest ⟨(t,d)::tm,rw',bx⟩):VO ⟨Tryz.prog,w0,O0,n⟩ ops K (o::rest) ⟨tm,rw',bx⟩:=Ad tt hh trivial h
end
section
open Go.RowKit Go.Deep
def w64 (x:Int):Int:=IntKind.i64.wrap x
theorem Acz {x:Int} (h1:-9223372036854775808≤x) (h2:x≤9223372036854775807):w64 x=x:=Su ⟨h1,h2⟩
theorem arW_out {C:Cx} {o:Oper} {s:PS} {op:BinOp} {t u:TypeId} {x y:Operand} {a b r:Int} (hop:o.op=.binOp op t x y u) (hx:s.ev x=.int a) (hy:s.ev y=.int b) (hr:(op=.add∧r=w64 (a+b))∨(op=.sub∧r=w64 (a-b))∨(op=.mul∧r=w64 (a*b))):Pur C o s (.int r):=
 ⟨fun s1 hs M ac w hr'=>by
  have h1:=hr'.ev x;have h2:=hr'.ev y;rw [hs x (by rw [hop]; simp [Op.operands]),hx] at h1;rw [hs y (by rw [hop]; simp [Op.operands]),hy] at h2;have e1:=h1.int_inv;have e2:=h2.int_inv;rcases hr with ⟨rfl,rfl⟩ | ⟨rfl,rfl⟩ | ⟨rfl,rfl⟩
  ·refine ⟨_,?_,.int _⟩;simp only [execOp,hop,e1,e2]; simp [eqGuard,binOp,Op.intArith,go_sem] <;> rfl
  ·refine ⟨_,?_,.int _⟩;simp only [execOp,hop,e1,e2]; simp [eqGuard,binOp,Op.intArith,go_sem] <;> rfl
  refine ⟨_,?_,.int _⟩
  simp only [execOp,hop,e1,e2]; simp [eqGuard,binOp,Op.intArith,go_sem] <;> rfl⟩
theorem pAddW {C:Cx} {o:Oper} {s:PS} {t u:TypeId} {x y:Operand} {a b:Int} (hop:o.op=.binOp .add t x y u) (hx:s.ev x=.int a) (hy:s.ev y=.int b):Pur C o s (.int (w64 (a+b))):=arW_out hop hx hy (.inl ⟨rfl,rfl⟩)
theorem pSubW {C:Cx} {o:Oper} {s:PS} {t u:TypeId} {x y:Operand} {a b:Int} (hop:o.op=.binOp .sub t x y u) (hx:s.ev x=.int a) (hy:s.ev y=.int b):Pur C o s (.int (w64 (a-b))):=arW_out hop hx hy (.inr (.inl ⟨rfl,rfl⟩))
theorem pMulW {C:Cx} {o:Oper} {s:PS} {t u:TypeId} {x y:Operand} {a b:Int} (hop:o.op=.binOp .mul t x y u) (hx:s.ev x=.int a) (hy:s.ev y=.int b):Pur C o s (.int (w64 (a*b))):=arW_out hop hx hy (.inr (.inr ⟨rfl,rfl⟩))
end
section
open Go.RowKit
theorem Aco:EqP Tryz.prog 95:=by
 refine ⟨fun x y u v w=>?_,fun x y u v w=>?_,by kernel_rfl⟩
 all_goals
  cases hx:x==u
  all_goals
   cases hy:y==v;all_goals simp [go_sem,hx,hy]
theorem Pa:EqP Tryz.prog 42:=by
 refine ⟨fun x y u v w=>?_,fun x y u v w=>?_,by kernel_rfl⟩
 all_goals
  cases hx:x==u
  all_goals
   cases hy:y==v;all_goals simp [go_sem,hx,hy]
theorem bld {t:TypeId} {places:List (Nat×Nat)} {zs:List Value} (h1:(Tryz.prog.info? t).map (·.zero)=some (some (.agg zs.toArray)))
  (h2:(match Tryz.prog.underlying t with | some (.struct fs)=>fs.toList.mapM (fun f=>(Tryz.prog.info? f.type).map fun i=>(f.offset,i.size)) | _=>none)=some places):BuildOK Tryz.prog t places zs:=by
 obtain ⟨it,hit,hz⟩:=Option.map_eq_some_iff.1 h1;split at h2
 ·rename_i fs hu; exact ⟨it,fs,hit,hu,hz,h2⟩
 cases h2
theorem Cv:BuildOK Tryz.prog 26 [(0,1),(1,1)] [.int .i64 0,.slice none 0 0]:=bld (by kernel_rfl) (by kernel_rfl)
theorem Ym:BuildOK Tryz.prog 47 [(0,2),(2,1)] [.int .i64 0,.slice none 0 0,.slice none 0 0]:=bld (by kernel_rfl) (by kernel_rfl)
theorem Bx:BuildOK Tryz.prog 42 [(0,1),(1,1)] [.int .i64 0,.int .i64 0]:=bld (by kernel_rfl) (by kernel_rfl)
theorem Acw:BuildOK Tryz.prog 95 [(0,1),(1,1)] [.int .i64 0,.int .i64 0]:=bld (by kernel_rfl) (by kernel_rfl)
theorem Dj:BuildOK Tryz.prog 175 [(0,1),(1,1),(2,1)] [.slice none 0 0,.slice none 0 0,.slice none 0 0]:=bld (by kernel_rfl) (by kernel_rfl)
end
section
section
variable {α β:Type}
theorem Bf {x:Int} (h1:-9223372036854775808≤x) (h2:x≤9223372036854775807) (y:Option α):grd (Bc x) y=y:=Am ⟨h1,h2⟩ y
theorem grd_T [inst:Decidable True] (x:Option α):grd True x=x:=Am trivial x
theorem Bb {p:Prop} [Decidable p] (h:p) (x y:α):cnd (decide p) x y=x:=by rw [decide_eq_true h]; rfl
theorem Ay {p:Prop} [Decidable p] (h:¬ p) (x y:α):cnd (decide p) x y=y:=by rw [decide_eq_false h]; rfl
theorem Tt {a b:Int} (h:a=b) (x y:α):cnd (a==b) x y=x:=by simp [h]
theorem Rj {a b:Int} (h:¬ a=b) (x y:α):cnd (a==b) x y=y:=by rw [show (a==b)=false by simpa using h]; rfl
theorem Ws {a b:Int} (h:¬ a=b) (x y:α):cnd (a != b) x y=x:=by rw [show (a != b)=true by simpa using h]; rfl
theorem Jx {a b:Int} (h:a=b) (x y:α):cnd (a != b) x y=y:=by simp [h]
theorem Yp (b:Bool) (x y:α):cnd (!b) x y=cnd b y x:=by cases b <;> rfl
theorem Ab0 (a b:Bool) (x y:α):cnd a x (cnd b x y)=cnd (a || b) x y:=by cases a <;> rfl
theorem cnd_and (a b:Bool) (x y:α):cnd a (cnd b x y) y=cnd (a&&b) x y:=by cases a <;> rfl
theorem cnd_same (b:Bool) (x:α):cnd b x x=x:=by cases b <;> rfl
theorem La (b:Bool) (x y:α):cnd b (some x) (some y)=some (cnd b x y):=by cases b <;> rfl
theorem cnd_bool (b:Bool):cnd b true false=b:=by cases b <;> rfl
theorem tk0 (l:List α):(l.take (0+l.length)).drop 0=l:=by simp
theorem pst:(∀ (n:Nat),((n:Int)).toNat=n)∧(∀ {α:Type} (l:List α),(l.take (0+l.length)).drop 0=l)∧(∀ {α:Type} {a:α} {u:List α},(a::u).length=u.length+1)∧(∀ {α:Type},([]:List α).length=0)∧(∀ {α:Type} {p:Prop} [Decidable p] (_:p) (x:Option α),grd p x=x)∧(∀ {α:Type} [Decidable True] (x:Option α),grd True x=x)∧(∀ {α:Type} {x:Int} (_:-9223372036854775808≤x) (_:x≤9223372036854775807) (y:Option α),grd (Bc x) y=y)∧(∀ {α:Type} {p:Prop} [Decidable p] (_:p) (x y:α),cnd (decide p) x y=x)∧(∀ {α:Type} {p:Prop} [Decidable p] (_:¬ p) (x y:α),cnd (decide p) x y=y)∧(∀ {α:Type} (x y:α),cnd true x y=x)∧(∀ {α:Type} (x y:α),cnd false x y=y)∧(∀ {α:Type} {β:Type} (a:α) (f:α→Option β),(some a).bind f=f a):=⟨Int.toNat_natCast,tk0,List.length_cons,List.length_nil,Am,grd_T,Bf,Bb,Ay,cnd_true,cnd_false,Option.bind_some⟩
theorem jn_def (k:α) (f:α→β):jn k f=f k:=rfl
end
end
section
abbrev VS:=Int→Bool
def vsz (n:Nat) (X:VS):Nat:=(List.range n).countP fun (i:Nat)=>X (i:Int)
def inX (X:VS) (e:Int×Int):Bool:=X e.1&&X e.2
def spn (X:VS) (L:List (Int×Int)):Nat:=L.countP (inX X)
def vU (X Y:VS):VS:=fun v=>X v || Y v
def vI (X Y:VS):VS:=fun v=>X v&&Y v
def Spr (n:Nat) (L:List (Int×Int)):Prop:=∀ X,0<spn X L→spn X L+3≤2*vsz n X
def Bok (n:Nat) (e:Int×Int):Prop:=0≤e.1∧e.1<n∧0≤e.2∧e.2<n∧e.1≠e.2
def Tgt (n:Nat) (L:List (Int×Int)) (X:VS):Prop:=2≤vsz n X∧2*vsz n X≤spn X L+3
theorem Sr {α:Type} (p q:α→Bool):∀ l:List α,l.countP (fun x=>p x || q x)+l.countP (fun x=>p x&&q x)=l.countP p+l.countP q
 | []=>rfl
 | x::l=>by
  have ih:=Sr p q l;simp only [List.countP_cons];cases p x <;> cases q x <;> simp <;> omega
theorem vsz_UI (n:Nat) (X Y:VS):vsz n (vU X Y)+vsz n (vI X Y)=vsz n X+vsz n Y:=Sr (fun i:Nat=>X (i:Int)) (fun i:Nat=>Y (i:Int)) _
theorem Hq (X:VS) (e:Int×Int) (L:List (Int×Int)):spn X (e::L)=spn X L+if inX X e then 1 else 0:=by simp [spn,List.countP_cons]
theorem spn_UI (X Y:VS):∀ L,spn X L+spn Y L≤spn (vU X Y) L+spn (vI X Y) L
 | []=>Nat.le_refl _
 | e::L=>by
  have ih:=spn_UI X Y L;rw [Hq,Hq,Hq,Hq]
  revert ih
  generalize spn X L=a;generalize spn Y L=b;generalize spn (vU X Y) L=c;generalize spn (vI X Y) L=d;intro ih
  have key:∀ x y z w:Bool,(a+if (x&&y)=true then 1 else 0)+(b+if (z&&w)=true then 1 else 0)≤(c+if ((x || z)&&(y || w))=true then 1 else 0)+(d+if ((x&&z)&&(y&&w))=true then 1 else 0):=by
   intro x y z w;cases x <;> cases y <;> cases z <;> cases w <;> simp <;> omega
  exact key (X e.1) (X e.2) (Y e.1) (Y e.2)
theorem Yw (X:VS) (L L':List (Int×Int)):spn X (L++L')=spn X L+spn X L':=by simp [spn,List.countP_append]
theorem Tgt.eq {n:Nat} {L:List (Int×Int)} {X:VS} (hL:Spr n L) (h:Tgt n L X):spn X L+3=2*vsz n X:=by
 have h1:=h.1;have h2:=h.2;have:=hL X (by omega);omega
theorem Tgt.union {n:Nat} {L:List (Int×Int)} {X Y:VS} (hL:Spr n L) (hX:Tgt n L X) (hY:Tgt n L Y) (h:2≤vsz n (vI X Y)):Tgt n L (vU X Y):=by
 have a1:=vsz_UI n X Y;have a2:=spn_UI X Y L;have a3:=hX.eq hL;have a4:=hY.eq hL
 have a5:spn (vI X Y) L+3≤2*vsz n (vI X Y):=by
  by_cases h0:0<spn (vI X Y) L
  ·exact hL _ h0
  omega
 have a6:=hX.1;have a7:=hY.1;refine ⟨?_,by omega⟩;have:vsz n (vI X Y)≤vsz n X:=List.countP_mono_left fun i _ h=>by simp only [vI,Bool.and_eq_true] at h; exact h.1
 omega
theorem Tgt.grow {n:Nat} {L L':List (Int×Int)} {X:VS} (h:Tgt n L X) (hs:spn X L≤spn X L'):Tgt n L' X:=⟨h.1,by have:=h.2; omega⟩
theorem Lg {n:Nat} {X:VS} {a b:Int} (ha:0≤a∧a<n) (hb:0≤b∧b<n) (hab:a≠b) (hXa:X a=true) (hXb:X b=true):2≤vsz n X:=by
 have key:∀ (a b:Nat),a<b→b<n→X a=true→X b=true→2≤vsz n X:=by
  intro a b h1 h2 h3 h4
  have e:List.range n=List.range b++b::(List.range (n-b-1)).map (·+(b+1)):=by
   have:=List.range_add (n:=b+1) (m:=n-b-1);rw [show b+1+(n-b-1)=n from by omega,List.range_succ,List.append_assoc] at this;rw [this];simp [Nat.add_comm]
  unfold vsz;rw [e,List.countP_append,List.countP_cons];have:0<(List.range b).countP fun i:Nat=>X (i:Int):=List.countP_pos_iff.2 ⟨a,by simpa using h1,h3⟩;simp [h4]; omega
 obtain ⟨a',rfl⟩:=Int.eq_ofNat_of_zero_le ha.1;obtain ⟨b',rfl⟩:=Int.eq_ofNat_of_zero_le hb.1;rcases Nat.lt_or_gt_of_ne (fun h:a'=b'=>hab (by rw [h])) with h | h
 ·exact key a' b' h (by omega) hXa hXb
 exact key b' a' h (by omega) hXb hXa
def v2 (a b:Int):VS:=fun v=>v==a || v==b
theorem vsz_v2 {n:Nat} {a b:Int} (ha:0≤a∧a<n) (hb:0≤b∧b<n) (hab:a≠b):vsz n (v2 a b)=2:=by
 have h1:2≤vsz n (v2 a b):=Lg ha hb hab (by simp [v2]) (by simp [v2])
 have one:∀ (a:Int) (m:Nat),(List.range m).countP (fun i:Nat=>((i:Int)==a))≤1:=by
  intro a m
  have:(List.range m).countP (fun i:Nat=>((i:Int)==a))≤(List.range m).count a.toNat:=by
   rw [List.count];refine List.countP_mono_left fun i _ h=>?_;have:(i:Int)=a:=by simpa using h
   simp [←this]
  have h2:=List.nodup_range.count (a:=a.toNat) (l:=List.range m);rw [h2] at this;split at this <;> omega
 have h2:=Sr (fun i:Nat=>((i:Int)==a)) (fun i:Nat=>((i:Int)==b)) (List.range n);have h3:=one a n;have h4:=one b n;simp only [vsz,v2] at h1 ⊢;omega
theorem tgt_bar {n:Nat} {L:List (Int×Int)} {e:Int×Int} (he:e∈L) (hb:Bok n e):Tgt n L (v2 e.1 e.2):=by
 obtain ⟨h1,h2,h3,h4,h5⟩:=hb;have:=vsz_v2 (n:=n) ⟨h1,h2⟩ ⟨h3,h4⟩ h5;refine ⟨by omega,?_⟩;have:0<spn (v2 e.1 e.2) L:=List.countP_pos_iff.2 ⟨e,he,by simp [inX,v2]⟩;omega
def Zz (n:Nat) (X Y:VS):Prop:=vsz n (vI X Y)≤1
theorem spn_two {n:Nat} {X Y:VS} (h:Zz n X Y) {e:Int×Int} (hb:Bok n e):(inX X e&&inX Y e)=false:=by
 cases h1:inX X e <;> cases h2:inX Y e <;> try rfl
 exfalso;simp only [inX,Bool.and_eq_true] at h1 h2;obtain ⟨g1,g2,g3,g4,g5⟩:=hb;have:=Lg (n:=n) (X:=vI X Y) ⟨g1,g2⟩ ⟨g3,g4⟩ g5 (by simp [vI,h1.1,h2.1]) (by simp [vI,h1.2,h2.2]);unfold Zz at h; omega
structure Fam (n:Nat) (L:List (Int×Int)) (F:List VS):Prop where
 tgt:∀ X∈F,Tgt n L X
 sml:F.Pairwise (Zz n)
theorem fam_add {n:Nat} {L:List (Int×Int)} (hL:Spr n L):∀ (k:Nat) (F:List VS) (X:VS),F.length=k→Fam n L F→Tgt n L X →
  ∃ F',Fam n L F'∧(∃ Y∈F',∀ e,inX X e=true→inX Y e=true)∧∀ Z∈F,∃ Y∈F',∀ e,inX Z e=true→inX Y e=true:=by
 intro k
 induction k with
 | zero=>
  intro F X hk hF hX;have:F=[]:=List.eq_nil_of_length_eq_zero hk;subst this;exact ⟨[X],⟨by simpa using hX,by simp⟩,⟨X,by simp,fun e he=>he⟩,by simp⟩
 | succ k ih=>
  intro F X hk hF hX;by_cases hbig:∃ Y∈F,2≤vsz n (vI X Y)
  ·obtain ⟨Y,hY,h2⟩:=hbig;obtain ⟨l1,l2,rfl⟩:=List.append_of_mem hY
   have hF':Fam n L (l1++l2):=by
    refine ⟨fun Z hZ=>hF.tgt Z (by simp at hZ ⊢; rcases hZ with h | h <;> simp [h]),?_⟩;exact hF.sml.sublist (by simp)
   obtain ⟨F',g1,⟨W,hW,g2⟩,g3⟩:=ih (l1++l2) (vU X Y) (by simp at hk ⊢; omega) hF' (hX.union hL (hF.tgt Y hY) h2);refine ⟨F',g1,⟨W,hW,fun e he=>g2 e ?_⟩,fun Z hZ=>?_⟩
   ·simp only [inX,vU,Bool.and_eq_true,Bool.or_eq_true] at he ⊢;exact ⟨.inl he.1,.inl he.2⟩
   have hc:Z=Y∨Z∈l1++l2:=by
    simp at hZ ⊢;rcases hZ with h | h | h
    ·exact .inr (.inl h)
    ·exact .inl h
    exact .inr (.inr h)
   rcases hc with rfl | hc
   ·refine ⟨W,hW,fun e he=>g2 e ?_⟩;simp only [inX,vU,Bool.and_eq_true,Bool.or_eq_true] at he ⊢;exact ⟨.inr he.1,.inr he.2⟩
   exact g3 Z hc
  refine ⟨X::F,⟨fun Z hZ=>?_,List.pairwise_cons.2 ⟨fun Z hZ=>?_,hF.sml⟩⟩,⟨X,by simp,fun e he=>he⟩,fun Z hZ=>⟨Z,by simp [hZ],fun e he=>he⟩⟩
  ·rcases List.mem_cons.1 hZ with rfl | h
   ·exact hX
   exact hF.tgt Z h
  unfold Zz;by_cases h:vsz n (vI X Z)≤1
  ·exact h
  exact absurd ⟨Z,hZ,by omega⟩ hbig
theorem fam_all {n:Nat} {I:List (Int×Int)} (hI:Spr n I):∀ J:List (Int×Int),(∀ e∈J,∃ X,Tgt n I X∧inX X e=true)→∃ F,Fam n I F∧∀ e∈J,∃ Y∈F,inX Y e=true
 | [],_=>⟨[],⟨by simp,by simp⟩,by simp⟩
 | e::J,h=>by
  obtain ⟨F,h1,h2⟩:=fam_all hI J fun x hx=>h x (by simp [hx]);obtain ⟨X,hX,he⟩:=h e (by simp);obtain ⟨F',g1,⟨Y,hY,g2⟩,g3⟩:=fam_add hI F.length F X rfl h1 hX;refine ⟨F',g1,fun x hx=>?_⟩;rcases List.mem_cons.1 hx with rfl | hx
  ·exact ⟨Y,hY,g2 _ he⟩
  obtain ⟨Z,hZ,h3⟩:=h2 x hx;obtain ⟨W,hW,h4⟩:=g3 Z hZ;exact ⟨W,hW,h4 x h3⟩
def sumS (F:List VS) (L:List (Int×Int)):Nat:=(F.map fun X=>spn X L).sum
theorem Qc (X:VS) (F:List VS) (L:List (Int×Int)):sumS (X::F) L=spn X L+sumS F L:=by simp [sumS]
theorem cover_le {F:List VS}:∀ {J:List (Int×Int)},(∀ e∈J,∃ Y∈F,inX Y e=true)→J.length≤sumS F J
 | [],_=>by simp
 | e::J,h=>by
  have ih:=cover_le (F:=F) (J:=J) fun x hx=>h x (by simp [hx])
  have key:∀ F:List VS,sumS F (e::J)=sumS F J+F.countP fun Y=>inX Y e:=by
   intro F
   induction F with
   | nil=>simp [sumS]
   | cons X F ihF=>rw [Qc,Qc,ihF,Hq,List.countP_cons]; split <;> omega
  rw [key];obtain ⟨Y,hY,he⟩:=h e (by simp);have:0<F.countP fun Y=>inX Y e:=List.countP_pos_iff.2 ⟨Y,hY,he⟩;simp; omega
theorem fam_le {n:Nat} {F:List VS} (hF:F.Pairwise (Zz n)):∀ {I:List (Int×Int)},(∀ e∈I,Bok n e)→sumS F I≤I.length
 | [],_=>by
  have:∀ F:List VS,sumS F []=0:=fun F=>by induction F with | nil=>rfl | cons X F ih=>rw [Qc,ih]; rfl
  rw [this]; simp
 | e::I,h=>by
  have ih:=fam_le hF (I:=I) fun x hx=>h x (by simp [hx])
  have key:∀ F:List VS,sumS F (e::I)=sumS F I+F.countP fun Y=>inX Y e:=by
   intro F
   induction F with
   | nil=>simp [sumS]
   | cons X F ihF=>rw [Qc,Qc,ihF,Hq,List.countP_cons]; split <;> omega
  have one:∀ F:List VS,F.Pairwise (Zz n)→(F.countP fun Y=>inX Y e)≤1:=by
   intro F
   induction F with
   | nil=>simp
   | cons X F ihF=>
    intro hp;obtain ⟨h1,h2⟩:=List.pairwise_cons.1 hp;rw [List.countP_cons];by_cases hx:inX X e=true
    ·have:(F.countP fun Y=>inX Y e)=0:=List.countP_eq_zero.2 fun Y hY hy=>by
      have:=spn_two (h1 Y hY) (h e (by simp));rw [hx,hy] at this; cases this
     rw [if_pos hx]; omega
    rw [if_neg hx]; exact ihF h2
  rw [key];have:=one F hF;simp; omega
theorem spr_le {n:Nat} {I J:List (Int×Int)} (hI:Spr n I) (hJ:Spr n J) (hb:∀ e∈I,Bok n e) (h:∀ e∈J,∃ X,Tgt n I X∧inX X e=true):J.length≤I.length:=by
 obtain ⟨F,h1,h2⟩:=fam_all hI J h;refine Nat.le_trans (cover_le h2) (Nat.le_trans ?_ (fam_le h1.sml hb))
 have key:∀ F:List VS,(∀ X∈F,Tgt n I X)→sumS F J≤sumS F I:=by
  intro F
  induction F with
  | nil=>intro _; simp [sumS]
  | cons X F ih=>
   intro hF;have:=ih fun Z hZ=>hF Z (by simp [hZ]);have a1:=(hF X (by simp)).eq hI
   have a2:spn X J≤spn X I:=by
    by_cases h0:0<spn X J
    ·have:=hJ X h0; omega
    omega
   rw [Qc,Qc]; omega
 exact key F h1.tgt
structure Bas (n:Nat) (L I:List (Int×Int)):Prop where
 mem:∀ e∈I,e∈L
 spr:Spr n I
 spn:∀ e∈L,∃ X,Tgt n I X∧inX X e=true
theorem Bas.len {n:Nat} {L L' I J:List (Int×Int)} (hL:∀ e∈L,Bok n e) (hI:Bas n L I) (hJ:Bas n L' J) (hm:∀ e∈J,e∈L):J.length≤I.length:=
 spr_le hI.spr hJ.spr (fun e he=>hL e (hI.mem e he)) fun e he=>hI.spn e (hm e he)
end
section
def oth (e:Int×Int) (v:Int):Int:=e.1+e.2-v
def fsum (X:VS) (f:List Int):Nat→Int
 | 0=>0
 | m+1=>fsum X f m+(if X (m:Int)=true then f.getD m 0 else 0)
theorem vsz_succ (m:Nat) (X:VS):vsz (m+1) X=vsz m X+(if X (m:Int)=true then 1 else 0):=by
 simp [vsz,List.range_succ,List.countP_append,List.countP_cons]
def pB (X:VS) (m:Nat) (t:Int):Bool:=X t&&decide (0≤t)&&decide (t<(m:Int))
theorem cnt_succ (X:VS) (m:Nat):∀ T:List Int,T.countP (pB X (m+1))=T.countP (pB X m)+(if X (m:Int)=true then T.count (m:Int) else 0)
 | []=>by simp
 | t::T=>by
  have ih:=cnt_succ X m T;rw [List.countP_cons,List.countP_cons,List.count_cons,ih];by_cases h:t=(m:Int)
  ·subst h
   have e1:pB X (m+1) (m:Int)=X (m:Int):=by
    have:decide ((m:Int)<((m+1:Nat):Int))=true:=decide_eq_true (by omega);have h0:decide (0≤(m:Int))=true:=decide_eq_true (by omega);unfold pB; rw [this,h0]; simp
   have e2:pB X m (m:Int)=false:=by
    have:decide ((m:Int)<(m:Int))=false:=decide_eq_false (by omega);unfold pB; rw [this]; simp
   rw [e1,e2];cases X (m:Int) <;> simp <;> omega
  have e1:pB X (m+1) t=pB X m t:=by
   have:decide (t<((m+1:Nat):Int))=decide (t<(m:Int)):=decide_eq_decide.2 (by omega);unfold pB; rw [this]
  have e2:(t==(m:Int))=false:=by simpa using h
  rw [e1,e2];cases X (m:Int) <;> simp <;> omega
theorem fsum_eq {n:Nat} {X:VS} {f T:List Int} (h:∀ v:Nat,v<n→f.getD v 0+(T.count (v:Int):Int)=2):∀ m,m≤n→fsum X f m+(T.countP (pB X m):Int)=2*(vsz m X:Int)
 | 0,_=>by
  have:T.countP (pB X 0)=0:=List.countP_eq_zero.2 fun t _ ht=>by simp only [pB,Bool.and_eq_true,decide_eq_true_eq] at ht; omega
  rw [this]; simp [fsum,vsz]
 | m+1,hm=>by
  have ih:=fsum_eq (X:=X) h m (by omega);have:=h m (by omega);rw [fsum,cnt_succ,vsz_succ];split <;> push_cast <;> omega
theorem spn_tails (X:VS):∀ {E:List (Int×Int)} {T:List Int},T.length=E.length→(∀ i,i<E.length→T.getD i 0=(E.getD i (0,0)).1∨T.getD i 0=(E.getD i (0,0)).2)→spn X E≤T.countP X
 | [],_,_,_=>by simp [spn]
 | e::E,[],h,_=>by simp at h
 | e::E,t::T,h,he=>by
  have ih:=spn_tails X (E:=E) (T:=T) (by simpa using h) fun i hi=>by simpa using he (i+1) (by simpa using hi)
  have h0:=he 0 (by simp);simp at h0;rw [Hq,List.countP_cons];by_cases hx:inX X e=true
  ·have:X t=true:=by
    simp only [inX,Bool.and_eq_true] at hx;rcases h0 with rfl | rfl
    ·exact hx.1
    exact hx.2
   rw [if_pos hx,if_pos this]; omega
  rw [if_neg hx]; omega
theorem tails_spn (R:VS):∀ {E:List (Int×Int)} {T:List Int},T.length=E.length→(∀ i,i<E.length→R (T.getD i 0)=true→inX R (E.getD i (0,0))=true)→T.countP R≤spn R E
 | [],T,h,_=>by
  have:T=[]:=List.eq_nil_of_length_eq_zero (by simpa using h);subst this; simp [spn]
 | e::E,[],h,_=>by simp at h
 | e::E,t::T,h,he=>by
  have ih:=tails_spn R (E:=E) (T:=T) (by simpa using h) fun i hi=>by simpa using he (i+1) (by simpa using hi)
  have h0:=he 0 (by simp);simp at h0;rw [Hq,List.countP_cons];by_cases hx:R t=true
  ·rw [if_pos hx,if_pos (h0 hx)]; omega
  rw [if_neg hx]; omega
theorem fsum_ge {n:Nat} {X:VS} {f:List Int} {a b:Nat} (hab:a≠b) (ha:X (a:Int)=true) (hb:X (b:Int)=true) (nn:∀ v:Nat,v<n→0≤f.getD v 0):∀ m,m≤n→(if a<m then f.getD a 0 else 0)+(if b<m then f.getD b 0 else 0)≤fsum X f m
 | 0,_=>by simp [fsum]
 | m+1,hm=>by
  have ih:=fsum_ge hab ha hb nn m (by omega);have h0:=nn m (by omega);rw [fsum];by_cases h1:a=m
  ·subst h1;rw [if_pos ha]
   revert ih
   repeat' split
   all_goals (intro ih; omega)
  by_cases h2:b=m
  ·subst h2;rw [if_pos hb]
   revert ih
   repeat' split
   all_goals (intro ih; omega)
  revert ih
  repeat' split
  all_goals (intro ih; omega)
theorem fsum_le {n:Nat} {X:VS} {f:List Int} {a b:Nat} (hab:a≠b) (nn:∀ v:Nat,v<n→0≤f.getD v 0) (hz:∀ v:Nat,v<n→X (v:Int)=true→v≠a→v≠b→f.getD v 0=0):∀ m,m≤n→fsum X f m≤(if a<m then f.getD a 0 else 0)+(if b<m then f.getD b 0 else 0)
 | 0,_=>by simp [fsum]
 | m+1,hm=>by
  have ih:=fsum_le hab nn hz m (by omega);have h0:=nn m (by omega);have hz:=hz m (by omega);rw [fsum];by_cases h1:a=m
  ·subst h1
   revert ih
   repeat' split
   all_goals (intro ih; omega)
  by_cases h2:b=m
  ·subst h2
   revert ih
   repeat' split
   all_goals (intro ih; omega)
  by_cases hx:X (m:Int)=true
  ·have:=hz hx (fun e=>h1 e.symm) (fun e=>h2 e.symm);rw [if_pos hx,this]
   revert ih
   repeat' split
   all_goals (intro ih; omega)
  rw [if_neg hx]
  revert ih
  repeat' split
  all_goals (intro ih; omega)
structure PInv (n:Nat) (E:List (Int×Int)) (f T:List Int):Prop where
 fl:f.length=n
 tl:T.length=E.length
 ok:∀ e∈E,Bok n e
 en:∀ i,i<E.length→T.getD i 0=(E.getD i (0,0)).1∨T.getD i 0=(E.getD i (0,0)).2
 nn:∀ v:Nat,v<n→0≤f.getD v 0
 sm:∀ v:Nat,v<n→f.getD v 0+(T.count (v:Int):Int)=2
variable {n:Nat} {E:List (Int×Int)} {f T:List Int}
theorem Fn {α:Type} {l:List α} {i:Nat} {d:α} (h:i<l.length):l.getD i d∈l:=by
 rw [List.getD_eq_getElem?_getD,List.getElem?_eq_getElem h]; exact List.getElem_mem h
theorem PInv.tail (h:PInv n E f T) {i:Nat} (hi:i<E.length):0≤T.getD i 0∧T.getD i 0<n:=by
 obtain ⟨h1,h2,h3,h4,h5⟩:=h.ok _ (Fn (d:=(0,0)) hi);rcases h.en i hi with e | e <;> rw [e] <;> omega
theorem PInv.sum (h:PInv n E f T) (X:VS):fsum X f n+(T.countP X:Int)=2*(vsz n X:Int):=by
 rw [←fsum_eq (X:=X) h.sm n (Nat.le_refl _)]
 have:T.countP (pB X n)=T.countP X:=List.countP_congr fun t ht=>by
  obtain ⟨i,hi,e⟩:=List.mem_iff_getElem.1 ht;have:=h.tail (i:=i) (h.tl ▸ hi);rw [List.getD_eq_getElem?_getD,List.getElem?_eq_getElem hi] at this;simp only [Option.getD_some] at this;rw [e] at this;have e1:decide (0≤t)=true:=decide_eq_true this.1;have e2:decide (t<(n:Int))=true:=decide_eq_true this.2;unfold pB; rw [e1,e2]; simp
 rw [this]
theorem PInv.le2 (h:PInv n E f T) {v:Nat} (hv:v<n):f.getD v 0≤2:=by have:=h.sm v hv; omega
theorem PInv.acc (h:PInv n E f T) (hE:Spr n E) {a b:Int} (hb:Bok n (a,b)) (h4:4≤f.getD a.toNat 0+f.getD b.toNat 0):Spr n (E++[(a,b)]):=by
 obtain ⟨h1,h2,h3,h5,h6⟩:=hb;simp only at h1 h2 h3 h5 h6;obtain ⟨a,rfl⟩:=Int.eq_ofNat_of_zero_le h1;obtain ⟨b,rfl⟩:=Int.eq_ofNat_of_zero_le h3;intro X hX;rw [Yw] at hX ⊢;have e1:spn X [((a:Int),(b:Int))]=if inX X ((a:Int),(b:Int))=true then 1 else 0:=by rw [Hq]; simp [spn]
 rw [e1] at hX ⊢;by_cases hin:inX X ((a:Int),(b:Int))=true
 ·rw [if_pos hin];simp only [inX,Bool.and_eq_true] at hin;have g1:=fsum_ge (n:=n) (f:=f) (fun e=>h6 (by rw [e])) hin.1 hin.2 h.nn n (Nat.le_refl _);rw [if_pos (by omega),if_pos (by omega)] at g1;have g2:=h.sum X;have g3:=spn_tails X h.tl h.en;simp only [Int.toNat_natCast] at h4;have:(spn X E:Int)≤T.countP X:=by exact_mod_cast g3
  omega
 rw [if_neg hin] at hX ⊢;have:=hE X (by omega);omega
theorem Mq {α:Type} (l:List α) (x d:α) (i:Nat):(l++[x]).getD i d=if i<l.length then l.getD i d else if i=l.length then x else d:=by
 simp only [List.getD_eq_getElem?_getD,List.getElem?_append];split
 ·rfl
 by_cases h:i=l.length
 ·subst h; simp
 rw [if_neg h];have:([x]:List α)[i-l.length]? = none:=by simp; omega
 rw [this]; rfl
theorem Kp {α:Type} (l:List α) (i j:Nat) (x d:α):(l.set i x).getD j d=if i=j∧j<l.length then x else l.getD j d:=by
 simp only [List.getD_eq_getElem?_getD,List.getElem?_set];by_cases h:i=j
 ·subst h;by_cases h2:i<l.length
  ·simp [h2]
  simp [h2]
 simp [h]
theorem PInv.put (h:PInv n E f T) {a b t:Int} (hb:Bok n (a,b)) (ht:t=a∨t=b) (hf:1≤f.getD t.toNat 0):PInv n (E++[(a,b)]) (f.set t.toNat (f.getD t.toNat 0-1)) (T++[t]):=by
 obtain ⟨h1,h2,h3,h5,h6⟩:=id hb;simp only at h1 h2 h3 h5 h6;have ht0:0≤t∧t<n:=by rcases ht with rfl | rfl <;> omega
 obtain ⟨t,rfl⟩:=Int.eq_ofNat_of_zero_le ht0.1;simp only [Int.toNat_natCast] at hf ⊢;refine ⟨by simp [h.fl],by simp [h.tl],fun e he=>?_,fun i hi=>?_,fun v hv=>?_,fun v hv=>?_⟩
 ·rcases List.mem_append.1 he with he | he
  ·exact h.ok e he
  simp at he; subst he; exact hb
 ·simp at hi;rw [Mq,Mq,h.tl];by_cases hl:i<E.length
  ·rw [if_pos hl,if_pos hl]; exact h.en i hl
  rw [if_neg hl,if_neg hl,if_pos (by omega),if_pos (by omega)]; exact ht
 ·rw [Kp];have:=h.nn v hv;split
  ·omega
  exact this
 rw [Kp,List.count_append];have:=h.sm v hv;have hl:=h.fl;by_cases e:t=v
 ·subst e;have hc:List.count (t:Int) [(t:Int)]=1:=by simp
  rw [if_pos ⟨rfl,by omega⟩,hc]
  push_cast
  omega
 have hc:List.count (v:Int) [(t:Int)]=0:=List.count_eq_zero.2 fun hm=>by simp at hm; omega
 rw [if_neg (fun h=>e h.1),hc]
 push_cast
 omega
theorem PInv.rej (h:PInv n E f T) {R:VS} {a b:Int} (hb:Bok n (a,b)) (hcl:∀ i,i<E.length→R (T.getD i 0)=true→inX R (E.getD i (0,0))=true) (ha:R a=true) (hb':R b=true)
  (hz:∀ v:Nat,v<n→R (v:Int)=true→(v:Int)≠a→(v:Int)≠b→f.getD v 0=0) (h3:f.getD a.toNat 0+f.getD b.toNat 0≤3):Tgt n E R:=by
 obtain ⟨g1,g2,g3,g4,g5⟩:=id hb;simp only at g1 g2 g3 g4 g5;refine ⟨Lg ⟨g1,g2⟩ ⟨g3,g4⟩ g5 ha hb',?_⟩;obtain ⟨a,rfl⟩:=Int.eq_ofNat_of_zero_le g1;obtain ⟨b,rfl⟩:=Int.eq_ofNat_of_zero_le g3;have a1:=fsum_le (n:=n) (X:=R) (f:=f) (a:=a) (b:=b) (fun e=>g5 (by rw [e])) h.nn (fun v hv hx h1 h2=>hz v hv hx (by omega) (by omega)) n (Nat.le_refl _);rw [if_pos (by omega),if_pos (by omega)] at a1;have a2:=h.sum R;have a3:=tails_spn R h.tl hcl;simp only [Int.toNat_natCast] at h3;have:(T.countP R:Int)≤spn R E:=by exact_mod_cast a3
 omega
end
section
variable {n:Nat} {E:List (Int×Int)} {f T:List Int} {a b:Int} {q:List Int} {fr:Int→Int} {k m:Nat}
structure BI (n:Nat) (E:List (Int×Int)) (T:List Int) (a:Int) (q:List Int) (fr:Int→Int):Prop where
 hd:q.getD 0 0=a
 pos:0<q.length
 nd:q.Nodup
 rg:∀ v∈q,0≤v∧v<n
 st:∀ j,0<j→j<q.length→∃ j' i:Nat,j'<j∧i<E.length∧fr (q.getD j 0)=i∧T.getD i 0=q.getD j' 0∧oth (E.getD i (0,0)) (T.getD i 0)=q.getD j 0
def BZ (f:List Int) (a b:Int) (q:List Int):Prop:=∀ v∈q,v≠a→v≠b→f.getD v.toNat 0=0
def Done (E:List (Int×Int)) (T q:List Int) (k m:Nat):Prop:=(∀ j i:Nat,j<k→i<E.length→T.getD i 0=q.getD j 0→oth (E.getD i (0,0)) (q.getD j 0)∈q)∧∀ i:Nat,i<m→i<E.length→T.getD i 0=q.getD k 0→oth (E.getD i (0,0)) (q.getD k 0)∈q
theorem BI.start (ha:0≤a∧a<n):BI n E T a [a] fr:=⟨rfl,by simp,by simp,by simpa using ha,fun j h1 h2=>by simp at h2; omega⟩
theorem Done.start:Done E T q 0 0:=⟨fun j i h=>by omega,fun i h=>by omega⟩
theorem Aah:∀ {n:Nat} {q:List Int},q.Nodup→(∀ v∈q,0≤v∧v<n)→q.length≤n
 | 0,q,_,hr=>by
  cases q with
  | nil=>simp
  | cons x q=>have:=hr x (by simp); omega
 | n+1,q,hn,hr=>by
  by_cases hm:(n:Int)∈q
  ·have ih:=Aah (n:=n) (hn.erase (n:Int)) fun v hv=>by
    have:=(hn.mem_erase_iff).1 hv;have h2:=hr v this.2;have:=this.1;omega
   rw [List.length_erase_of_mem hm] at ih;omega
  have ih:=Aah (n:=n) hn fun v hv=>by
   have h2:=hr v hv;have:v≠(n:Int):=fun e=>hm (e ▸ hv);omega
  omega
theorem BI.len (h:BI n E T a q fr):q.length≤n:=Aah h.nd h.rg
theorem Jw {α:Type} {l:List α} {x d:α} {i:Nat} (h:i<l.length):(l++[x]).getD i d=l.getD i d:=by rw [Mq,if_pos h]
theorem BI.push (h:BI n E T a q fr) {k i:Nat} {v:Int} (hk:k<q.length) (hi:i<E.length) (ht:T.getD i 0=q.getD k 0) (hv:oth (E.getD i (0,0)) (q.getD k 0)=v) (hr:0≤v∧v<n) (hn:v∉q) {fr':Int→Int} (h1:fr' v=i) (h2:∀ w∈q,fr' w=fr w):BI n E T a (q++[v]) fr':=by
 refine ⟨by rw [Jw h.pos]; exact h.hd,by simp,List.nodup_append.2 ⟨h.nd,by simp,fun x hx y hy e=>hn ?_⟩,fun w hw=>?_,fun j hj hl=>?_⟩
 ·simp at hy; subst hy; subst e; exact hx
 ·rcases List.mem_append.1 hw with hw | hw
  ·exact h.rg w hw
  simp at hw; subst hw; exact hr
 by_cases e:j=q.length
 ·subst e;refine ⟨k,i,hk,hi,?_,?_,?_⟩
  ·rw [Mq]; simp [h1]
  ·rw [Jw hk]; exact ht
  rw [ht,hv,Mq]; simp
 have hj':j<q.length:=by simp at hl; omega
 obtain ⟨j',i',g1,g2,g3,g4,g5⟩:=h.st j hj hj';have hm:q.getD j 0∈q:=Fn hj';exact ⟨j',i',g1,g2,by rw [Jw hj',h2 _ hm]; exact g3,by rw [Jw (by omega)]; exact g4,by rw [Jw hj']; exact g5⟩
theorem BZ.push (h:BZ f a b q) {v:Int} (hv:v=b∨f.getD v.toNat 0=0):BZ f a b (q++[v]):=fun w hw h1 h2=>by
 rcases List.mem_append.1 hw with hw | hw
 ·exact h w hw h1 h2
 simp at hw; subst hw; exact hv.resolve_left h2
theorem Done.push (h:Done E T q k m) {v:Int} (hk:k<q.length):Done E T (q++[v]) k m:=⟨fun j i hj hi ht=>by
 rw [Jw (by omega)] at ht ⊢;exact List.mem_append.2 (.inl (h.1 j i hj hi ht)),fun i hm hi ht=>by
 rw [Jw hk] at ht ⊢
 exact List.mem_append.2 (.inl (h.2 i hm hi ht))⟩
theorem Done.step (h:Done E T q k m) (hm:m<E.length→T.getD m 0=q.getD k 0→oth (E.getD m (0,0)) (q.getD k 0)∈q):Done E T q k (m+1):=⟨h.1,fun i hi hl ht=>by
 by_cases e:i=m
 ·subst e; exact hm hl ht
 exact h.2 i (by omega) hl ht⟩
theorem Done.next (h:Done E T q k E.length):Done E T q (k+1) 0:=⟨fun j i hj hi ht=>by
 by_cases e:j=k
 ·subst e; exact h.2 i hi hi ht
 exact h.1 j i (by omega) hi ht,fun i h=>by omega⟩
def Shut (n:Nat) (E:List (Int×Int)) (f T:List Int) (a b:Int):Prop:=∃ R:VS,R a=true∧(∀ i,i<E.length→R (T.getD i 0)=true→R (oth (E.getD i (0,0)) (T.getD i 0))=true)∧∀ v:Nat,v<n→R (v:Int)=true→(v:Int)≠a→(v:Int)≠b→f.getD v 0=0
theorem BI.shut (h:BI n E T a q fr) (hz:BZ f a b q) (hd:Done E T q k 0) (hk:q.length≤k):Shut n E f T a b:=by
 refine ⟨fun v=>q.contains v,?_,fun i hi hR=>?_,fun v hv hR h1 h2=>?_⟩
 ·have:q.getD 0 0∈q:=Fn h.pos;rw [h.hd] at this;simpa using this
 ·have hR:T.getD i 0∈q:=by simpa using hR
  obtain ⟨j,hj,e⟩:=List.mem_iff_getElem.1 hR;have e':q.getD j 0=T.getD i 0:=by rw [List.getD_eq_getElem?_getD,List.getElem?_eq_getElem hj]; exact e
  have:=hd.1 j i (by omega) hi e'.symm;rw [e'] at this;simpa using this
 have:=hz v (by simpa using hR) h1 h2;simpa using this
theorem Shut.tgt (hp:PInv n E f T) (hb:Bok n (a,b)) (h1:Shut n E f T a b) (h2:Shut n E f T b a) (h3:f.getD a.toNat 0+f.getD b.toNat 0≤3):∃ X,Tgt n E X∧inX X (a,b)=true:=by
 obtain ⟨R,r1,r2,r3⟩:=h1;obtain ⟨S,s1,s2,s3⟩:=h2
 have both:∀ (R:VS) i,i<E.length→R (T.getD i 0)=true→R (oth (E.getD i (0,0)) (T.getD i 0))=true→inX R (E.getD i (0,0))=true:=by
  intro R i hi g1 g2;simp only [inX,Bool.and_eq_true];rcases hp.en i hi with e | e
  ·rw [e] at g1 g2;simp only [oth] at g2;exact ⟨g1,by rwa [show (E.getD i (0,0)).1+(E.getD i (0,0)).2-(E.getD i (0,0)).1=(E.getD i (0,0)).2 from by omega] at g2⟩
  rw [e] at g1 g2;simp only [oth] at g2;exact ⟨by rwa [show (E.getD i (0,0)).1+(E.getD i (0,0)).2-(E.getD i (0,0)).2=(E.getD i (0,0)).1 from by omega] at g2,g1⟩
 refine ⟨vU R S,hp.rej hb (fun i hi hR=>?_) (by simp [vU,r1]) (by simp [vU,s1]) (fun v hv hR g1 g2=>?_) h3,by simp [inX,vU,r1,s1]⟩
 ·simp only [vU,Bool.or_eq_true] at hR;rcases hR with hR | hR
  ·have:=both R i hi hR (r2 i hi hR);simp only [inX,vU,Bool.and_eq_true,Bool.or_eq_true] at this ⊢;exact ⟨.inl this.1,.inl this.2⟩
  have:=both S i hi hR (s2 i hi hR);simp only [inX,vU,Bool.and_eq_true,Bool.or_eq_true] at this ⊢;exact ⟨.inr this.1,.inr this.2⟩
 simp only [vU,Bool.or_eq_true] at hR;rcases hR with hR | hR
 ·exact r3 v hv hR g1 g2
 exact s3 v hv hR g2 g1
structure Mv (E:List (Int×Int)) (T T':List Int) (u at':Int):Prop where
 len:T'.length=T.length
 en:∀ i,i<E.length→T'.getD i 0=(E.getD i (0,0)).1∨T'.getD i 0=(E.getD i (0,0)).2
 cnt:∀ v:Int,(T'.count v:Int)+(if v=at' then 1 else 0)=T.count v+(if v=u then 1 else 0)
theorem count_set' {l:List Int} {i:Nat} (h:i<l.length) (x v:Int):((l.set i x).count v:Int)=l.count v-(if l.getD i 0=v then 1 else 0)+(if x=v then 1 else 0):=by
 induction l generalizing i with
 | nil=>simp at h
 | cons y l ih=>
  cases i with
  | zero=>simp [List.count_cons]; split <;> split <;> omega
  | succ i=>
   have:=ih (i:=i) (by simpa using h);simp only [List.set_cons_succ,List.count_cons,List.getD_cons_succ]
   push_cast
   omega
theorem BI.back (h:BI n E T a q fr) (hp:PInv n E f T) {u:Int} {j:Nat} (hj:0<j) (hl:j<q.length) {T':List Int} (hm:Mv E T T' u (q.getD j 0)) (hun:∀ j',0<j'→j'≤j→T'.getD (fr (q.getD j' 0)).toNat 0=T.getD (fr (q.getD j' 0)).toNat 0) :
  ∃ j' i:Nat,j'<j∧i<E.length∧fr (q.getD j 0)=i∧oth (E.getD i (0,0)) (q.getD j 0)=q.getD j' 0∧T'.getD i 0=q.getD j' 0∧Mv E T (T'.set i (q.getD j 0)) u (q.getD j' 0)∧∀ j'',0<j''→j''≤j'→(T'.set i (q.getD j 0)).getD (fr (q.getD j'' 0)).toNat 0=T.getD (fr (q.getD j'' 0)).toNat 0:=by
 obtain ⟨j',i,g1,g2,g3,g4,g5⟩:=h.st j hj hl;have e1:=hun j hj (Nat.le_refl _);rw [g3,Int.toNat_natCast,g4] at e1;have e2:oth (E.getD i (0,0)) (q.getD j 0)=q.getD j' 0:=by rw [←g5,←g4]; simp only [oth]; omega
 have hiT:i<T'.length:=by rw [hm.len,hp.tl]; exact g2
 refine ⟨j',i,g1,g2,g3,e2,e1,⟨by simp [hm.len],fun i' hi'=>?_,fun v=>?_⟩,fun j'' h1 h2=>?_⟩
 ·rw [Kp];by_cases e:i=i'∧i'<T'.length
  ·rw [if_pos e,←e.1];rcases hp.en i g2 with t | t
   ·right; rw [←g5,t]; simp only [oth]; omega
   left; rw [←g5,t]; simp only [oth]; omega
  rw [if_neg e]; exact hm.en i' hi'
 ·have c1:=hm.cnt v;rw [count_set' hiT,e1]
  revert c1
  generalize (T'.count v:Int)=x;generalize (T.count v:Int)=y;intro c1;have s1:(if q.getD j' 0=v then (1:Int) else 0)=if v=q.getD j' 0 then 1 else 0:=by split <;> split <;> simp_all
  have s2:(if q.getD j 0=v then (1:Int) else 0)=if v=q.getD j 0 then 1 else 0:=by split <;> split <;> simp_all
  rw [s1,s2];omega
 obtain ⟨j3,i3,k1,k2,k3,k4,k5⟩:=h.st j'' h1 (by omega)
 have hne:i≠i3:=by
  rintro rfl;have:q.getD j'' 0=q.getD j 0:=by rw [←k5,←g5]
  have hj'':j''<q.length:=by omega
  rw [List.getD_eq_getElem?_getD,List.getD_eq_getElem?_getD,List.getElem?_eq_getElem hj'',List.getElem?_eq_getElem hl] at this;have:=(List.getElem_inj h.nd).1 this;omega
 rw [k3,Int.toNat_natCast,Kp,if_neg (fun e=>hne e.1)];have:=hun j'' h1 (by omega)
 rwa [k3,Int.toNat_natCast] at this
theorem Mv.start (hp:PInv n E f T) (u:Int):Mv E T T u u:=⟨rfl,hp.en,fun v=>rfl⟩
structure Won (n:Nat) (E:List (Int×Int)) (f f' T':List Int) (a b:Int):Prop where
 inv:PInv n E f' T'
 up:f'.getD a.toNat 0=f.getD a.toNat 0+1
 keep:f'.getD b.toNat 0=f.getD b.toNat 0
def Zp (f:List Int) (u a:Int):List Int:=(f.set u.toNat (f.getD u.toNat 0-1)).set a.toNat ((f.set u.toNat (f.getD u.toNat 0-1)).getD a.toNat 0+1)
theorem Mv.won (hp:PInv n E f T) {u:Int} {T':List Int} (hm:Mv E T T' u a) (ha:0≤a∧a<n) (hu:0≤u∧u<n) (hb:0≤b∧b<n) (hua:u≠a) (hub:u≠b) (hab:a≠b) (hf:1≤f.getD u.toNat 0):Won n E f (Zp f u a) T' a b:=by
 obtain ⟨a,rfl⟩:=Int.eq_ofNat_of_zero_le ha.1;obtain ⟨u,rfl⟩:=Int.eq_ofNat_of_zero_le hu.1;obtain ⟨b,rfl⟩:=Int.eq_ofNat_of_zero_le hb.1;have hl:=hp.fl
 have key:∀ v:Nat,v<n→(Zp f u a).getD v 0=f.getD v 0-(if v=u then 1 else 0)+(if v=a then 1 else 0):=by
  intro v hv;simp only [Zp,Int.toNat_natCast] at hf ⊢;rw [Kp,Kp,Kp];simp only [List.length_set];have hua':u≠a:=fun e=>hua (by rw [e]);by_cases h1:v=a
  ·subst h1;have e1:(if v=u then (1:Int) else 0)=0:=if_neg fun e=>hua' e.symm;rw [e1,if_pos ⟨rfl,by omega⟩,if_neg (fun h=>hua' h.1),if_pos rfl];omega
  have e1:(if v=a then (1:Int) else 0)=0:=if_neg h1;rw [e1,if_neg (fun h=>h1 h.1.symm)];by_cases h2:v=u
  ·subst h2;rw [if_pos ⟨rfl,by omega⟩,if_pos rfl]; omega
  rw [if_neg (fun h=>h2 h.1.symm),if_neg h2]; omega
 refine ⟨⟨by simp [Zp,hl],hm.len.trans hp.tl,hp.ok,hm.en,fun v hv=>?_,fun v hv=>?_⟩,?_,?_⟩
 ·rw [key v hv];have:=hp.nn v hv;simp only [Int.toNat_natCast] at hf;by_cases h1:v=u
  ·subst h1; split <;> split <;> omega
  rw [if_neg h1]; split <;> omega
 ·rw [key v hv];have c:=hm.cnt (v:Int);have s:=hp.sm v hv;have s1:(if (v:Int)=(a:Int) then (1:Int) else 0)=if v=a then 1 else 0:=by split <;> split <;> omega
  have s2:(if (v:Int)=(u:Int) then (1:Int) else 0)=if v=u then 1 else 0:=by split <;> split <;> omega
  rw [s1,s2] at c;omega
 ·simp only [Int.toNat_natCast];rw [key a (by omega),if_neg (by omega),if_pos rfl]; omega
 simp only [Int.toNat_natCast];rw [key b (by omega),if_neg (by omega),if_neg (by omega)]; omega
end
section
variable {R σ:Type}
theorem srchA {F:Nat→Int→Option R} {len:Nat} {ok:Nat→Bool} {bad fin:Option R}
  (hs:∀ n i:Nat,i<len→(∀ j,j<i→ok j=true)→F (n+1) (i:Int)=cnd (ok i) (F n ((i+1:Nat):Int)) bad) (hf:∀ n:Nat,(∀ j,j<len→ok j=true)→F (n+1) (len:Int)=fin) :
  ∀ n i:Nat,i≤len→len<n+i→(∀ j,j<i→ok j=true)→F n (i:Int)=cnd ((List.range len).all ok) fin bad:=by
 intro n
 induction n with
 | zero=>intro i h1 h2; omega
 | succ n ih=>
  intro i h1 h2 h3;by_cases hi:i<len
  ·rw [hs n i hi h3]
   cases ho:ok i with
   | true=>
    exact ih (i+1) (by omega) (by omega) fun j hj=>by
     rcases Nat.lt_or_ge j i with h | h
     ·exact h3 j h
     rw [show j=i by omega]; exact ho
   | false=>
    have:(List.range len).all ok=false:=by
     rw [List.all_eq_false]; exact ⟨i,by simpa using hi,by simp [ho]⟩
    rw [this]; rfl
  obtain rfl:i=len:=by omega
  rw [hf n h3]
  have:(List.range i).all ok=true:=by
   rw [List.all_eq_true]; intro j hj; exact h3 j (by simpa using hj)
  rw [this]; rfl
theorem srch {F:Nat→Int→Option R} {N len:Nat} {ok:Nat→Bool} {bad fin:Option R} (hN:len<N)
  (hs:∀ n i:Nat,i<len→(∀ j,j<i→ok j=true)→F (n+1) (i:Int)=cnd (ok i) (F n ((i+1:Nat):Int)) bad) (hf:∀ n:Nat,(∀ j,j<len→ok j=true)→F (n+1) (len:Int)=fin) :
  F N (0:Int)=cnd ((List.range len).all ok) fin bad:=
 srchA hs hf N 0 (by omega) (by omega) (by omega)
theorem srch1 {F:Nat→Int→Option R} {N len:Nat} {ok:Nat→Bool} {bad fin:Option R} (hN:len+1<N) (h0:ok 0=true)
  (hs:∀ n i:Nat,0<i→i<len→F (n+1) (i:Int)=cnd (ok i) (F n ((i+1:Nat):Int)) bad) (hf:∀ n i:Nat,len≤i→F (n+1) (i:Int)=fin) :
  F N (1:Int)=cnd ((List.range len).all ok) fin bad:=by
 have key:∀ n i:Nat,0<i→i≤len+1→len+1<n+i→(∀ j,j<i→j<len→ok j=true)→F n (i:Int)=cnd ((List.range len).all ok) fin bad:=by
  intro n
  induction n with
  | zero=>intro i h1 h2 h3 h4; omega
  | succ n ih=>
   intro i h1 h4 h2 h3;by_cases hi:i<len
   ·rw [hs n i h1 hi]
    cases ho:ok i with
    | true=>
     exact ih (i+1) (by omega) (by omega) (by omega) fun j hj hl=>by
      rcases Nat.lt_or_ge j i with h | h
      ·exact h3 j h hl
      rw [show j=i by omega]; exact ho
    | false=>
     have:(List.range len).all ok=false:=by
      rw [List.all_eq_false]; exact ⟨i,by simpa using hi,by simp [ho]⟩
     rw [this]; rfl
   rw [hf n i (by omega)]
   have:(List.range len).all ok=true:=by
    rw [List.all_eq_true]; intro j hj; exact h3 j (by have:=List.mem_range.1 hj; omega) (by simpa using hj)
   rw [this]; rfl
 exact key N 1 (by omega) (by omega) (by omega) fun j hj _=>by rw [show j=0 by omega]; exact h0
theorem foldA {F:Nat→σ×Int→Option R} {len:Nat} {st:Nat→σ} {fin:Option R} (hs:∀ n i:Nat,i<len→F (n+1) (st i,(i:Int))=F n (st (i+1),((i+1:Nat):Int))) (hf:∀ n:Nat,F (n+1) (st len,(len:Int))=fin) :
  ∀ n i:Nat,i≤len→len<n+i→F n (st i,(i:Int))=fin:=by
 intro n
 induction n with
 | zero=>intro i h1 h2; omega
 | succ n ih=>
  intro i h1 h2;by_cases hi:i<len
  ·rw [hs n i hi]; exact ih (i+1) (by omega) (by omega)
  obtain rfl:i=len:=by omega
  exact hf n
theorem fold {F:Nat→σ×Int→Option R} {N len:Nat} {st:Nat→σ} {fin:Option R} (hN:len<N) (hs:∀ n i:Nat,i<len→F (n+1) (st i,(i:Int))=F n (st (i+1),((i+1:Nat):Int))) (hf:∀ n:Nat,F (n+1) (st len,(len:Int))=fin) :
  F N (st 0,(0:Int))=fin:=foldA hs hf N 0 (by omega) (by omega)
theorem cnd_congr {α:Type} {a b:Bool} (h:a=b) (x y:α):cnd a x y=cnd b x y:=by rw [h]
theorem Ki {α:Type} {a b:Bool} (h:a=!b) (x y:α):cnd a x y=cnd b y x:=by subst h; cases b <;> rfl
theorem Ah (i:Nat):((i:Int)+1)=((i+1:Nat):Int):=rfl
theorem Sz (l:List Int) (x:Int):((List.range l.length).all fun i=>!(l.getD i 0==x))=!l.contains x:=by
 rw [Bool.eq_iff_iff,List.all_eq_true];simp only [List.mem_range,Bool.not_eq_true',beq_eq_false_iff_ne,List.contains_eq_mem,decide_eq_false_iff_not];constructor
 ·intro h hx;obtain ⟨i,hi,he⟩:=List.mem_iff_getElem.1 hx;exact h i hi (by simp [List.getD_eq_getElem?_getD,hi,he])
 intro h i hi he;exact h (List.mem_iff_getElem.2 ⟨i,hi,by simpa [List.getD_eq_getElem?_getD,hi] using he⟩)
end
section
open Go.RowKit
def Wi (N:Nat) (x_0:Int) (low_1:Int) (high_2:Int):Option (Bool):=
 cnd (decide (x_0≥low_1)) (
  some (decide (x_0≤high_2))) (
  some false)
theorem Vy (N:Nat) (x_0:Int) (low_1:Int) (high_2:Int) (r:Bool) (h:Wi N x_0 low_1 high_2=some r):PCall Tryz.prog 107 [.int x_0,.int low_1,.int high_2] [] (.bool r):=by
 unfold Wi at h;refine Aj (TT:=TT) tt Tryz.func107 O O Tryz.ntmps107 (congrArg Array.toList Tryz.results107) O O fun w0=>(Ag (Ab (Aa O (Af (Ag (Ab ?_))))));iterate 4 refine Aa O ?_
 refine Be O O O (fun hb1=>?_) (fun hb1=>?_)
 ·replace h:=Ak hb1 h;iterate 3 refine Av tt O O O O O hb1 O O O Y ?_
  refine Bm O O O O O hb1 O (Aa O (Af (Bg ?_)));show ∃ _,_;cases h;exact ⟨[],_,O,Y,O,.eq O,O⟩
 replace h:=Al hb1 h;iterate 3 refine Kq O O O O hb1 O O ?_
 refine Aw O O O O O hb1 O (Aa O (Af (Bg ?_)));show ∃ _,_;cases h;exact ⟨[],_,O,Y,O,.eq O,O⟩
def Lo (N:Nat) (x_0:Int) (lo_1:Int) (hi_2:Int):Option (Bool):=
 cnd (decide (x_0≥lo_1)) (
  some (decide (x_0≤hi_2))) (
  some false)
theorem Mb (N:Nat) (x_0:Int) (lo_1:Int) (hi_2:Int) (r:Bool) (h:Lo N x_0 lo_1 hi_2=some r):PCall Tryz.prog 85 [.int x_0,.int lo_1,.int hi_2] [] (.bool r):=by
 unfold Lo at h;refine Aj (TT:=TT) tt Tryz.func85 O O Tryz.ntmps85 (congrArg Array.toList Tryz.results85) O O fun w0=>(Ag (Ab (Aa O (Af (Ag (Ab ?_))))));iterate 4 refine Aa O ?_
 refine Be O O O (fun hb1=>?_) (fun hb1=>?_)
 ·replace h:=Ak hb1 h;iterate 3 refine Av tt O O O O O hb1 O O O Y ?_
  refine Bm O O O O O hb1 O (Aa O (Af (Bg ?_)));show ∃ _,_;cases h;exact ⟨[],_,O,Y,O,.eq O,O⟩
 replace h:=Al hb1 h;iterate 3 refine Kq O O O O hb1 O O ?_
 refine Aw O O O O O hb1 O (Aa O (Af (Bg ?_)));show ∃ _,_;cases h;exact ⟨[],_,O,Y,O,.eq O,O⟩
end
section
open Go.RowKit
def Mj (N:Nat) (l_0:List Int):Option (List Int):=
 grd (l_0.length≤4294967296) <|
 some (([]:List Int)++l_0)
theorem Tc (N:Nat) (l_0:List Int) (r:List Int) (h:Mj N l_0=some r):PCall Tryz.prog 218 [.ro false (.ints l_0)] [(3,.ints r)] (.row 0 0 r.length):=by
 unfold Mj at h;refine Aj (TT:=TT) tt Tryz.func218 O O Tryz.ntmps218 (congrArg Array.toList Tryz.results218) O O fun w0=>(Ag (Ab (Aa O (Af (Ag (Ab (Gr tt (Ai O) O O O O (Aa O ?_))))))));obtain ⟨hg1,h⟩:=Ac h;refine oAppNil tt (Ai O) O O O O O O O (fun _=>O) O O O O O hg1 (Aa O (Af (Bg ?_)));show ∃ _,_;cases h;exact ⟨[5],_,O,⟨O,Y⟩,O,.eq O,O⟩
end
section
open Go.RowKit
def Rn (N:Nat) (a_0:Int×Int) (b_1:Int×Int):Option (Bool):=
 cnd (decide (a_0.1<b_1.1)) (
  some true) (
  cnd (a_0.1==b_1.1) (
   some (decide (a_0.2≤b_1.2))) (
   some false))
theorem Ace (N:Nat) (a_0:Int×Int) (b_1:Int×Int) (r:Bool) (h:Rn N a_0 b_1=some r):PCall Tryz.prog 106 [.agg [.int a_0.1,.int a_0.2],.agg [.int b_1.1,.int b_1.2]] [] (.bool r):=by
 unfold Rn at h;refine Aj (TT:=TT) tt Tryz.func106 O O Tryz.ntmps106 (congrArg Array.toList Tryz.results106) O O fun w0=>(Ag (Ab ?_));iterate 2 refine Hz O O O O O O O O O ?_
 refine Aa O (Af (Ag (Ab ?_)));iterate 6 refine Aa O ?_
 refine Be O O O (fun hb1=>?_) (fun hb1=>?_)
 ·replace h:=Ak hb1 h;iterate 6 refine Hg O O O O hb1 O O ?_
  iterate 5 refine oNoU O O O O O ?_
  refine Hg O O O O hb1 O O (Bm O O O O O hb1 O (Aa O (Af (Bg ?_))));show ∃ _,_;cases h;exact ⟨[],_,O,Y,O,.eq O,O⟩
 replace h:=Al hb1 h;iterate 6 refine Av tt O O O O O hb1 O O O Y ?_
 refine Be O O O (fun hb2=>?_) (fun hb2=>?_)
 ·replace h:=Ak hb2 h;iterate 5 refine Av tt O O O O O hb2 O O O Y ?_
  refine Rk O O O O hb1 O O O O hb2 O (Aw O O O O O hb1 O (Aa O (Af (Bg ?_))));show ∃ _,_;cases h;exact ⟨[],_,O,Y,O,.eq O,O⟩
 replace h:=Al hb2 h;iterate 5 refine Kq O O O O hb2 O O ?_
 refine Rl O O O O hb1 O O O O hb2 O (Aw O O O O O hb1 O (Aa O (Af (Bg ?_))));show ∃ _,_;cases h;exact ⟨[],_,O,Y,O,.eq O,O⟩
def Jc (N:Nat) (g_0:Grf) (k:Unit→Option (Bool)):Nat→Int→Option (Bool)
 | 0,_=>none
 | n+1,i8=>
  cnd (decide (i8<(g_0.bars.length:Int))) (
   grd (0≤i8∧i8<(g_0.bars.length:Int)) <|
   cnd (decide (((g_0.bars.getD ((i8).toNat) (0,0)).1)<(0:Int))) (
    some false) (
    cnd (decide (((g_0.bars.getD ((i8).toNat) (0,0)).1)≥((g_0.bars.getD ((i8).toNat) (0,0)).2))) (
     some false) (
     cnd (decide (((g_0.bars.getD ((i8).toNat) (0,0)).2)≥g_0.n)) (
      some false) (
      cnd (decide (i8 > (0:Int))) (
       grd (Bc (i8-(1:Int))) <|
       grd (0≤(i8-(1:Int))∧(i8-(1:Int))<(g_0.bars.length:Int)) <|
       (Rn N (g_0.bars.getD (((i8-(1:Int))).toNat) (0,0)) (g_0.bars.getD ((i8).toNat) (0,0))).bind fun v10=>
       cnd (!v10) (
        some false) (
        grd (Bc (i8+(1:Int))) <|
        Jc N g_0 k n (i8+(1:Int)))) (
       grd (Bc (i8+(1:Int))) <|
       Jc N g_0 k n (i8+(1:Int))))))) (
   k ())
def Dg (N:Nat) (g_0:Grf):Option (Bool):=
 (Wi N g_0.n (1:Int) (8:Int)).bind fun v1=>
 cnd (!v1) (
  some false) (
  cnd (decide ((g_0.bars.length:Int) > (24:Int))) (
   some false) (
   Jc N g_0 (fun (_ : Unit) =>
      some true) N (0:Int)))
theorem Ez (N:Nat) (g_0:Grf) (r:Bool) (h:Dg N g_0=some r):PCall Tryz.prog 64 [gD g_0] [] (.bool r):=by
 unfold Dg at h;refine Aj (TT:=TT) tt Tryz.func64 O O Tryz.ntmps64 (congrArg Array.toList Tryz.results64) O O fun w0=>(Ag (Ab (Hz O O O O O O O O O (Aa O (Af (Ag (Ag (Ab (Aa O ?_)))))))));refine Aa O ?_;obtain ⟨v1,hc1,h⟩:=Ae h;refine Ba (Vy N g_0.n (1:Int) (8:Int) v1 hc1) O O O O O O O O ⟨O,O,O,Y⟩ (Aa O (Aa O (Be O O O (fun hb2=>?_) (fun hb2=>?_))))
 ·replace h:=Ak hb2 h;iterate 4 refine Hg O O O O hb2 O O ?_
  refine Bm O O O O O hb2 O (Af (Ce O O (Ag (Ab (Aa O (Af (Bg ?_)))))));show ∃ _,_;cases h;exact ⟨[],_,O,Y,O,.eq O,O⟩
 replace h:=Al hb2 h;iterate 4 refine Av tt O O O O O hb2 O O O Y ?_
 refine Aw O O O O O hb2 O (Af (Ar O (fun hb3=>?_) (fun hb3=>?_)))
 ·replace h:=Ak hb3 h;refine Ag (Ab (Aa O (Af (Bg ?_))));show ∃ _,_;cases h;exact ⟨[],_,O,Y,O,.eq O,O⟩
 replace h:=Al hb3 h;refine Aq (Ag (Ag (Ab (Aa O (Af (Bz (F:=fun k=>Jc N g_0 k) h (α:=Unit) (J:=fun (_:Unit)=>(⟨[],[],[]⟩:PS)) ?_ ?_))))))
 ·rintro ⟨⟩ h;show VC _ _ _ (⟨[],[],[]⟩:PS);refine Ag (Ab (Aa O (Af (Bg ?_))));show ∃ _,_;cases h;exact ⟨[],_,O,Y,O,.eq O,O⟩
 intro k h;refine Ap (Bh (α:=Int) (fun (i8:Int)=>(⟨[(1,.ptr 1 0),(3,.int i8)],[],[(1,some [.int g_0.n,.ro false (.pairs g_0.bars)])]⟩:PS)) (Jc N g_0 k) h (En.of ⟨O,O,Y⟩ trivial ⟨O,Y⟩) (fun _=>O) ?_);rintro n i8 h;rw [Jc] at h;show VC _ _ _ (⟨[(1,.ptr 1 0),(3,.int i8)],[],[(1,some [.int g_0.n,.ro false (.pairs g_0.bars)])]⟩:PS);refine Ag (Ag (Ab ?_));iterate 5 refine Aa O ?_
 refine Af (Ar O (fun hb4=>?_) (fun hb4=>?_))
 ·replace h:=Ak hb4 h;refine Aq (Ag (Ap (Ag (Ab (Aa O (Aa O (Aa O ?_)))))));obtain ⟨hg5,h⟩:=Ac h;refine Ad tt O hg5 (Aa O (Bi tt O O O O O O O O O (Ao tt O O O O O O O O O O O ⟨Y,Y,Y⟩ (Af (Ag (Cu (by kernel_rfl) (by kernel_rfl) ?_))))));iterate 4 refine Bq tt O (Ai O) O O O Y ?_
  refine Ju O O O (fun hb6=>?_) (fun hb6=>?_)
  ·replace h:=Ak hb6 h;iterate 5 refine Sx O O O O hb6 O O ?_
   refine Fk O (Ai O) O O O hb6 O (Bq tt O (Ai O) O O O Y ?_);iterate 5 refine Sx O O O O O O O ?_
   refine Fk O (Ai O) O O O O O (Bq tt O (Ai O) O O O Y ?_);iterate 3 refine Sx O O O O O O O ?_
   iterate 9 refine cNoU O O O O O ?_
   refine Sx O O O O O O O (Fk O (Ai O) O O O O O (Ms (Ce O O (Ag (Ab (Aa O (Af (Bg ?_))))))));show ∃ _,_;cases h;exact ⟨[],_,O,Y,O,.eq O,O⟩
  replace h:=Al hb6 h;iterate 5 refine Bq tt O (Bl O O O O hb6) O O O Y ?_
  refine Ge O (Ai O) O O O hb6 O (Bq tt O (Ai O) O O O Y (Ju O O O (fun hb7=>?_) (fun hb7=>?_)))
  ·replace h:=Ak hb7 h;iterate 5 refine Sx O O O O hb7 O O ?_
   refine Fk O (Ai O) O O O hb7 O (Bq tt O (Ai O) O O O Y ?_);iterate 3 refine Sx O O O O O O O ?_
   iterate 9 refine cNoU O O O O O ?_
   refine Sx O O O O O O O (Fk O (Ai O) O O O O O (Ms (Ce O O (Ag (Ab (Aa O (Af (Bg ?_))))))));show ∃ _,_;cases h;exact ⟨[],_,O,Y,O,.eq O,O⟩
  replace h:=Al hb7 h;iterate 5 refine Bq tt O (Bl O O O O hb7) O O O Y ?_
  refine Ge O (Ai O) O O O hb7 O (Bq tt O (Ai O) O O O Y (Ju O O O (fun hb8=>?_) (fun hb8=>?_)))
  ·replace h:=Ak hb8 h;iterate 3 refine Sx O O O O hb8 O O ?_
   iterate 9 refine cNoU O O O O O ?_
   refine Sx O O O O hb8 O O (Fk O (Ai O) O O O hb8 O (Ms (Ce O O (Ag (Ab (Aa O (Af (Bg ?_))))))));show ∃ _,_;cases h;exact ⟨[],_,O,Y,O,.eq O,O⟩
  replace h:=Al hb8 h;iterate 3 refine Bq tt O (Bl O O O O hb8) O O O Y ?_
  refine Ju O O O (fun hb9=>?_) (fun hb9=>?_)
  ·replace h:=Ak hb9 h;iterate 3 refine Bq tt O (Bl O O O O hb9) O O O Y ?_
   obtain ⟨hg10,h⟩:=Ac h;refine Bq tt O (Bl O O O O hb9) O O O hg10 ?_;obtain ⟨hg11,h⟩:=Ac h;refine Bq tt O (Bl O O O O hb9) O O O hg11 ?_;iterate 2 refine Bq tt O (Bl O O O O hb9) O O O Y ?_
   obtain ⟨v10,hc12,h⟩:=Ae h;refine Xh (Ace N (g_0.bars.getD (((i8-(1:Int))).toNat) (0,0)) (g_0.bars.getD ((i8).toNat) (0,0)) v10 hc12) O (Bl O O O O hb9) O O O O O O ⟨⟨O,O,Y⟩,⟨O,O,Y⟩,Y⟩ (Bq tt O (Bl O O O O hb9) O O O Y (Fk O (Bl O O O O hb8) O O O hb9 O (Ge O (Ai O) O O O hb8 O (Ms (Ar O (fun hb13=>?_) (fun hb13=>?_))))))
   ·replace h:=Ak hb13 h;refine Ag (Ab (Aa O (Af (Bg ?_))));show ∃ _,_;cases h;exact ⟨[],_,O,Y,O,.eq O,O⟩
   replace h:=Al hb13 h;refine Aq (Ab (Aa O ?_));obtain ⟨hg14,h⟩:=Ac h;refine Ad tt O hg14 (Aa O (Af ?_));show ∃ _,_;exact ⟨(i8+(1:Int)),(En.of ⟨O,O,Y⟩ trivial ⟨O,Y⟩),h⟩
  replace h:=Al hb9 h;iterate 9 refine cNoT O O O O hb9 O O ?_
  refine Ge O (Bl O O O O hb8) O O O hb9 O (Ge O (Ai O) O O O hb8 O (Ms (Cp O O (Aq (Ab (Aa O ?_))))));obtain ⟨hg15,h⟩:=Ac h;refine Ad tt O hg15 (Aa O (Af ?_));show ∃ _,_;exact ⟨(i8+(1:Int)),(En.of ⟨O,O,Y⟩ trivial ⟨O,Y⟩),h⟩
 replace h:=Al hb4 h;refine Bp ?_;show ∃ _,_;exact ⟨(),(En.of trivial trivial trivial),h⟩
def Hh (N:Nat) (g_0:Grf) (k:Unit→Option (Bool)):Nat→Int→Option (Bool)
 | 0,_=>none
 | n+1,i4=>
  cnd (decide (i4<(g_0.bars.length:Int))) (
   grd (Bc (i4-(1:Int))) <|
   grd (0≤(i4-(1:Int))∧(i4-(1:Int))<(g_0.bars.length:Int)) <|
   grd (0≤i4∧i4<(g_0.bars.length:Int)) <|
   cnd (((g_0.bars.getD (((i4-(1:Int))).toNat) (0,0)).1==(g_0.bars.getD ((i4).toNat) (0,0)).1)&&((g_0.bars.getD (((i4-(1:Int))).toNat) (0,0)).2==(g_0.bars.getD ((i4).toNat) (0,0)).2)) (
    some false) (
    grd (Bc (i4+(1:Int))) <|
    Hh N g_0 k n (i4+(1:Int)))) (
   k ())
def Lb (N:Nat) (g_0:Grf):Option (Bool):=
 Hh N g_0 (fun (_ : Unit) =>
    (Dg N g_0).bind fun v2=>
    some v2) N (1:Int)
theorem Se (N:Nat) (g_0:Grf) (r:Bool) (h:Lb N g_0=some r):PCall Tryz.prog 70 [gD g_0] [] (.bool r):=by
 unfold Lb at h;refine Aj (TT:=TT) tt Tryz.func70 O O Tryz.ntmps70 (congrArg Array.toList Tryz.results70) O O fun w0=>(Ag (Ab (Hz O O O O O O O O O (Aa O (Af (Ag (Ag (Ab (Aa O ?_)))))))));refine Af (Bz (F:=fun k=>Hh N g_0 k) h (α:=Unit) (J:=fun (_:Unit)=>(⟨[(1,.ptr 1 0)],[],[(1,some [.int g_0.n,.ro false (.pairs g_0.bars)])]⟩:PS)) ?_ ?_)
 ·rintro ⟨⟩ h;show VC _ _ _ (⟨[(1,.ptr 1 0)],[],[(1,some [.int g_0.n,.ro false (.pairs g_0.bars)])]⟩:PS);refine Ag (Ab (Aa O ?_));obtain ⟨v2,hc1,h⟩:=Ae h;refine Ba (Ez N g_0 v2 hc1) O O O O O O O O ⟨⟨O,O,Y⟩,Y⟩ (Aa O (Af (Bg ?_)));show ∃ _,_;cases h;exact ⟨[],_,O,Y,O,.eq O,O⟩
 intro k h;refine Ap (Bh (α:=Int) (fun (i4:Int)=>(⟨[(1,.ptr 1 0),(3,.int i4)],[],[(1,some [.int g_0.n,.ro false (.pairs g_0.bars)])]⟩:PS)) (Hh N g_0 k) h (En.of ⟨O,O,Y⟩ trivial ⟨O,Y⟩) (fun _=>O) ?_);rintro n i4 h;rw [Hh] at h;show VC _ _ _ (⟨[(1,.ptr 1 0),(3,.int i4)],[],[(1,some [.int g_0.n,.ro false (.pairs g_0.bars)])]⟩:PS);refine Ag (Ag (Ab ?_));iterate 5 refine Aa O ?_
 refine Af (Ar O (fun hb2=>?_) (fun hb2=>?_))
 ·replace h:=Ak hb2 h;refine Aq (Ag (Ap (Ag (Cu (by kernel_rfl) (by kernel_rfl) ?_))));iterate 3 refine Bq tt O (Ai O) O O O Y ?_
  obtain ⟨hg3,h⟩:=Ac h;refine Bq tt O (Ai O) O O O hg3 ?_;obtain ⟨hg4,h⟩:=Ac h;refine Bq tt O (Ai O) O O O hg4 ?_;iterate 4 refine Bq tt O (Ai O) O O O Y ?_
  obtain ⟨hg5,h⟩:=Ac h;refine Bq tt O (Ai O) O O O hg5 (Bq tt O (Ai O) O O O Y (Abp (Ai O) (pEqP Pa O O O) O O (Ms (Ar O (fun hb6=>?_) (fun hb6=>?_)))))
  ·replace h:=Ak hb6 h;refine Ag (Ab (Aa O (Af (Bg ?_))));show ∃ _,_;cases h;exact ⟨[],_,O,Y,O,.eq O,O⟩
  replace h:=Al hb6 h;refine Aq (Ab (Aa O ?_));obtain ⟨hg7,h⟩:=Ac h;refine Ad tt O hg7 (Aa O (Af ?_));show ∃ _,_;exact ⟨(i4+(1:Int)),(En.of ⟨O,O,Y⟩ trivial ⟨O,Y⟩),h⟩
 replace h:=Al hb2 h;refine Bp ?_;show ∃ _,_;exact ⟨(),(En.of ⟨O,Y⟩ trivial ⟨O,Y⟩),h⟩
def Fh (N:Nat) (g_0:Grf) (anchors_1:List Int) (k:Unit→Option (Bool)):Nat→Int→Option (Bool)
 | 0,_=>none
 | n+1,i4=>
  cnd (decide (i4<(anchors_1.length:Int))) (
   grd (0≤i4∧i4<(anchors_1.length:Int)) <|
   cnd (decide ((anchors_1.getD ((i4).toNat) 0)<(0:Int))) (
    some false) (
    cnd (decide ((anchors_1.getD ((i4).toNat) 0)≥g_0.n)) (
     some false) (
     cnd (decide (i4 > (0:Int))) (
      grd (Bc (i4-(1:Int))) <|
      grd (0≤(i4-(1:Int))∧(i4-(1:Int))<(anchors_1.length:Int)) <|
      cnd (decide ((anchors_1.getD (((i4-(1:Int))).toNat) 0)≥(anchors_1.getD ((i4).toNat) 0))) (
       some false) (
       grd (Bc (i4+(1:Int))) <|
       Fh N g_0 anchors_1 k n (i4+(1:Int)))) (
      grd (Bc (i4+(1:Int))) <|
      Fh N g_0 anchors_1 k n (i4+(1:Int)))))) (
   k ())
def Jd (N:Nat) (g_0:Grf) (anchors_1:List Int):Option (Bool):=
 Fh N g_0 anchors_1 (fun (_ : Unit) =>
    (Lb N g_0).bind fun v2=>
    some v2) N (0:Int)
theorem Mw (N:Nat) (g_0:Grf) (anchors_1:List Int) (r:Bool) (h:Jd N g_0 anchors_1=some r):PCall Tryz.prog 54 [gD g_0,.ro false (.ints anchors_1)] [] (.bool r):=by
 unfold Jd at h;refine Aj (TT:=TT) tt Tryz.func54 O O Tryz.ntmps54 (congrArg Array.toList Tryz.results54) O O fun w0=>(Ag (Ab (Hz O O O O O O O O O (Aa O (Af (Ag (Ag (Ab (Aa O ?_)))))))));refine Af (Bz (F:=fun k=>Fh N g_0 anchors_1 k) h (α:=Unit) (J:=fun (_:Unit)=>(⟨[(2,.ptr 2 0)],[],[(2,some [.int g_0.n,.ro false (.pairs g_0.bars)])]⟩:PS)) ?_ ?_)
 ·rintro ⟨⟩ h;show VC _ _ _ (⟨[(2,.ptr 2 0)],[],[(2,some [.int g_0.n,.ro false (.pairs g_0.bars)])]⟩:PS);refine Ag (Ab (Aa O ?_));obtain ⟨v2,hc1,h⟩:=Ae h;refine Ba (Se N g_0 v2 hc1) O O O O O O O O ⟨⟨O,O,Y⟩,Y⟩ (Aa O (Af (Bg ?_)));show ∃ _,_;cases h;exact ⟨[],_,O,Y,O,.eq O,O⟩
 intro k h;refine Ap (Bh (α:=Int) (fun (i4:Int)=>(⟨[(1,.ro false (.ints anchors_1)),(2,.ptr 2 0),(5,.int i4)],[],[(2,some [.int g_0.n,.ro false (.pairs g_0.bars)])]⟩:PS)) (Fh N g_0 anchors_1 k) h (En.of ⟨O,O,O,Y⟩ trivial ⟨O,Y⟩) (fun _=>O) ?_);rintro n i4 h;rw [Fh] at h;show VC _ _ _ (⟨[(1,.ro false (.ints anchors_1)),(2,.ptr 2 0),(5,.int i4)],[],[(2,some [.int g_0.n,.ro false (.pairs g_0.bars)])]⟩:PS);refine Ag (Ag (Ab ?_));iterate 4 refine Aa O ?_
 refine Af (Ar O (fun hb2=>?_) (fun hb2=>?_))
 ·replace h:=Ak hb2 h;refine Aq (Ag (Ap (Ag (Cu (by kernel_rfl) (by kernel_rfl) ?_))));iterate 2 refine Bq tt O (Ai O) O O O Y ?_
  obtain ⟨hg3,h⟩:=Ac h;refine Bq tt O (Ai O) O O O hg3 ?_;iterate 3 refine Bq tt O (Ai O) O O O Y ?_
  refine Ju O O O (fun hb4=>?_) (fun hb4=>?_)
  ·replace h:=Ak hb4 h;iterate 7 refine Sx O O O O hb4 O O ?_
   refine Fk O (Ai O) O O O hb4 O (Bq tt O (Ai O) O O O Y ?_);iterate 3 refine Sx O O O O O O O ?_
   iterate 10 refine cNoU O O O O O ?_
   refine Sx O O O O O O O (Fk O (Ai O) O O O O O (Ms (Ce O O (Ag (Ab (Aa O (Af (Bg ?_))))))));show ∃ _,_;cases h;exact ⟨[],_,O,Y,O,.eq O,O⟩
  replace h:=Al hb4 h;iterate 2 refine Bq tt O (Bl O O O O hb4) O O O Y ?_
  refine Bq tt O (Bl O O O O hb4) O O O hg3 ?_;iterate 4 refine Bq tt O (Bl O O O O hb4) O O O Y ?_
  refine Ge O (Ai O) O O O hb4 O (Bq tt O (Ai O) O O O Y (Ju O O O (fun hb5=>?_) (fun hb5=>?_)))
  ·replace h:=Ak hb5 h;iterate 3 refine Sx O O O O hb5 O O ?_
   iterate 10 refine cNoU O O O O O ?_
   refine Sx O O O O hb5 O O (Fk O (Ai O) O O O hb5 O (Ms (Ce O O (Ag (Ab (Aa O (Af (Bg ?_))))))));show ∃ _,_;cases h;exact ⟨[],_,O,Y,O,.eq O,O⟩
  replace h:=Al hb5 h;iterate 3 refine Bq tt O (Bl O O O O hb5) O O O Y ?_
  refine Ju O O O (fun hb6=>?_) (fun hb6=>?_)
  ·replace h:=Ak hb6 h;iterate 2 refine Bq tt O (Bl O O O O hb6) O O O Y ?_
   obtain ⟨hg7,h⟩:=Ac h;refine Bq tt O (Bl O O O O hb6) O O O hg7 ?_;obtain ⟨hg8,h⟩:=Ac h;refine Bq tt O (Bl O O O O hb6) O O O hg8 ?_;iterate 3 refine Bq tt O (Bl O O O O hb6) O O O Y ?_
   refine Bq tt O (Bl O O O O hb6) O O O hg3 ?_;iterate 2 refine Bq tt O (Bl O O O O hb6) O O O Y ?_
   refine Fk O (Bl O O O O hb5) O O O hb6 O (Ge O (Ai O) O O O hb5 O (Ms (Ar O (fun hb9=>?_) (fun hb9=>?_))))
   ·replace h:=Ak hb9 h;refine Ag (Ab (Aa O (Af (Bg ?_))));show ∃ _,_;cases h;exact ⟨[],_,O,Y,O,.eq O,O⟩
   replace h:=Al hb9 h;refine Aq (Ab (Aa O ?_));obtain ⟨hg10,h⟩:=Ac h;refine Ad tt O hg10 (Aa O (Af ?_));show ∃ _,_;exact ⟨(i4+(1:Int)),(En.of ⟨O,O,O,Y⟩ trivial ⟨O,Y⟩),h⟩
  replace h:=Al hb6 h;iterate 10 refine cNoT O O O O hb6 O O ?_
  refine Ge O (Bl O O O O hb5) O O O hb6 O (Ge O (Ai O) O O O hb5 O (Ms (Cp O O (Aq (Ab (Aa O ?_))))));obtain ⟨hg11,h⟩:=Ac h;refine Ad tt O hg11 (Aa O (Af ?_));show ∃ _,_;exact ⟨(i4+(1:Int)),(En.of ⟨O,O,O,Y⟩ trivial ⟨O,Y⟩),h⟩
 replace h:=Al hb2 h;refine Bp ?_;show ∃ _,_;exact ⟨(),(En.of ⟨O,Y⟩ trivial ⟨O,Y⟩),h⟩
end
end Go.Proofs.YtaipbhnpandbkaaGreat
